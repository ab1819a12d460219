/- Conditions: those in each statement. -/
import Derived.Test.YtcebmphappfjjaaGreatDoorQ25
set_option maxHeartbeats 32000000
set_option maxRecDepth 100000
namespace Go.Proofs.YtcebmphappfjjaaGreatDoor
open Go.RowKit
theorem znv:(Tryz.prog.info? 198).map (λi=>(i.zero,i.size,i.bytes))=some (some (.agg #[.int .i64 0,.string ⟨#[]⟩,.int .i64 0,.int .i64 0]),4,40):=by kernel_rfl
def zhn (w:World) (r:Except (Int × Int) (List Tok)) (e:Ending) (w':World):Prop:=Below w.heap.size w w'/\match r with
 |.error (c,a)=>e=.returned (.tuple #[.slice none 0 0,.int .i64 c,.int .i64 a])
 |.ok T=>∃A c,e=.returned (.tuple #[.slice A T.length c,.int .i64 0,.int .i64 0])/\zaz w.heap.size 198 4 T.length (zan rowT T) w' (.slice A T.length c)
structure SL (s:ByteArray) (w W:World) (j:Nat) (acc:List Tok) (A:Option Addr) (c:Nat):Prop where
 low:Below w.heap.size w W
 at':ScAt w.heap.size s W j
 own:zaz (w.heap.size+1) 198 4 acc.length (zan rowT acc) W (.slice A acc.length c)
structure SB (s:ByteArray) (w W:World) (j:Nat) (acc:List Tok) (A:Option Addr) (c X:Nat) (cx:Array Value):Prop where
 low:Below w.heap.size w W
 at':ScAt w.heap.size s W j
 own:zbc X (w.heap.size+1) 198 4 acc.length (zan rowT acc) W (.slice A acc.length c)
 box:zab W X cx 198
 hi:w.heap.size<X
section
variable {s:ByteArray} {w W W':World} {j j':Nat} {acc:List Tok} {A:Option Addr} {c X:Nat} {cx:Array Value}
theorem zee (h:Below w.heap.size w W) (k:Own1 w.heap.size W W'):Below w.heap.size w W':=h.trans (Chg.below k h.size (λq hq=>by omega))
theorem SL.call (h:SL s w W j acc A c) (k:Own1 w.heap.size W W') (a:ScAt w.heap.size s W' j'):SL s w W' j' acc A c:=⟨zee h.low k,a,k.owned (by omega) h.own⟩
theorem SB.call (h:SB s w W j acc A c X cx) (k:Own1 w.heap.size W W') (a:ScAt w.heap.size s W' j'):SB s w W' j' acc A c X cx:=⟨zee h.low k,a,Own1.ownedX k (by omega) h.own,h.box.keep k (by have:=h.hi;omega),h.hi⟩
theorem SL.box (h:SL s w W j acc A c):SB s w (W.alloc (.cells #[.int .i64 0,.string ⟨#[]⟩,.int .i64 0,.int .i64 0] 198)) j acc A c W.heap.size #[.int .i64 0,.string ⟨#[]⟩,.int .i64 0,.int .i64 0]:=by
 have hb:=(Below.refl W.heap.size W).alloc (Nat.le_refl _) (.cells #[.int .i64 0,.string ⟨#[]⟩,.int .i64 0,.int .i64 0] 198);exact⟨zac h.low hb h.low.size,zaa hb h.at',(h.own.ex (Nat.le_refl _)).below hb,zab.new W _ _,h.at'.lt⟩
theorem SB.chg (h:SB s w W j acc A c X cx) (k:Chg (λq=>q=X) W W') {cy:Array Value} (hy:zab W' X cy 198):SB s w W' j acc A c X cy:=by
 have:=h.hi;exact⟨h.low.trans (k.below h.low.size (λq hq=>by omega)),h.at'.keep k (by omega),h.own.chg k (λq hq=>.inr hq),hy,h.hi⟩
theorem zhj (W:World) (X:Nat) (u0 u1 u2 u3:Value):Chg (λq=>q=X) W ((((W.setCell ⟨X,0,none⟩ u0).setCell ⟨X,1,none⟩ u1).setCell ⟨X,2,none⟩ u2).setCell ⟨X,3,none⟩ u3):=
 (((((Chg.refl (λq=>q=X) W).setCell (p:=⟨X,0,none⟩) (.inl rfl) u0).setCell (p:=⟨X,1,none⟩) (.inl rfl) u1).setCell (p:=⟨X,2,none⟩) (.inl rfl) u2).setCell (p:=⟨X,3,none⟩) (.inl rfl) u3)
theorem SB.filled {a0 a1 a2 a3:Value} (h:SB s w W j acc A c X #[a0,a1,a2,a3]) (u0 u1 u2 u3:Value) :
 SB s w ((((W.setCell ⟨X,0,none⟩ u0).setCell ⟨X,1,none⟩ u1).setCell ⟨X,2,none⟩ u2).setCell ⟨X,3,none⟩ u3) j acc A c X #[u0,u1,u2,u3]:=h.chg (zhj W X _ _ _ _) (zbj _ _ _ _ h.box)
theorem SB.at3 {a0 a1 a2 a3:Value} (h:SB s w W j acc A c X #[a0,a1,a2,a3]) (u:Value):SB s w (W.setCell ⟨X,3,none⟩ u) j acc A c X #[a0,a1,a2,u]:=
 h.chg ((Chg.refl (λq=>q=X) W).setCell (p:=⟨X,3,none⟩) (.inl rfl) u) (by have:=h.box.set 3 u;simpa using this)
theorem SB.below (h:SB s w W j acc A c X cx) (k:Below W.heap.size W W'):SB s w W' j acc A c X cx:=⟨zac h.low k h.low.size,zaa k h.at',h.own.below k,zaa k h.box,h.hi⟩
theorem SB.grown (h:SB s w W j acc A c X cx) {acc':List Tok} {A':Option Addr} {c':Nat} (hO:zaz (w.heap.size+1) 198 4 acc'.length (zan rowT acc') W' (.slice A' acc'.length c')) (hg:W.grownBy W' (Value.slice A acc.length c).ownBlock):SL s w W' j acc' A' c':=by
 have hch:Chg (λk=>w.heap.size+1<=k) W W':=Chg.of_grown hg (λk hk=>(h.own.owned.below_own k hk).1);exact⟨h.low.trans (hch.below h.low.size (λq hq=>by omega)),h.at'.keep hch (by omega),hO⟩
end
theorem zow (W:World) (k:Int) (t:ByteArray) (n a:Int):∀(j:Nat) (u:Value),[Value.int .i64 k,.string t,.int .i64 n,.int .i64 a][j]?=some u->(W.alloc (.cells #[.int .i64 k,.string t,.int .i64 n,.int .i64 a] 198)).cell? ((⟨W.heap.size,0,none⟩:Addr).add j)=some u:=λj u hj=>by
 have:=zbG W [Value.int .i64 k,.string t,.int .i64 n,.int .i64 a].toArray 198 j;rw[List.getElem?_toArray,hj] at this;rw[Addr.add_lit,Nat.zero_add];exact this
theorem zki {ok:Nat->Prop} {W:World} (k:Int) (t:ByteArray) (n a:Int):∀(j:Nat) (u:Value),[Value.int .i64 k,.string t,.int .i64 n,.int .i64 a][j]?=some u->Rd ok W (rowT ⟨k,t,n,a⟩ j) u:=λj u hj=>by
 match j with
 |0=>simp at hj;exact hj.symm
 |1=>simp at hj;exact hj.symm
 |2=>simp at hj;exact hj.symm
 |3=>simp at hj;exact hj.symm
 |j+4=>simp at hj
theorem zrF {s:ByteArray} {f i:Nat} {acc:List Tok} (hf:0<f):zfs s f i acc=(if zdc s s.size i=s.size then .ok acc
 else match zcZ s (zdc s s.size i) with
  |.error e=>.error (e,(zdc s s.size i:Int))
  |.ok (t,e)=>zfs s (f-1) e (acc++[t])):=by
 obtain⟨f,rfl⟩:∃k,f=k+1:=⟨f-1,by omega⟩;rw[zfs];rfl
theorem zsf (s:ByteArray) (w:World) (hbig:32768<s.size):Calls Tryz.prog 121 #[.string s] w (zhn w (zgX s)):=by
 have hbi:(32768:Int)<(s.size:Int):=by omega
 have hr:zgX s=.error (15,0):=by unfold zgX;rw[if_pos hbig]
 rw[hr];clear hr;go_enter Tryz.func121,Tryz.ntmps121;go_wp2_with fail
 go_step3
 go_wp2_with fail;rw[Exit.noGoto_ret];refine bodyPost_ret (results_tmp3 (by rfl) _ _ _) rfl ?_;exact⟨Below.refl _ _,rfl⟩
theorem zez {x:Nat} (W:World) (hx:W.heap.size=x) (k:Int) (t:ByteArray) (n a:Int):∀(j:Nat) (u:Value),[Value.int .i64 k,.string t,.int .i64 n,.int .i64 a][j]?=some u->(W.alloc (.cells #[.int .i64 k,.string t,.int .i64 n,.int .i64 a] 198)).cell? ((⟨x,0,none⟩:Addr).add j)=some u:=by
 subst hx;exact zow W k t n a
theorem zsl (s:ByteArray) (w:World):Calls Tryz.prog 121 #[.string s] w (zhn w (zgX s)):=by
 by_cases hbig:32768<s.size
 ·exact zsf s w hbig
 have hbi:¬(32768:Int)<(s.size:Int):=by omega
 obtain⟨r,hr⟩:∃r,zgX s=r:=⟨_,rfl⟩;rw[hr];unfold zgX at hr;rw[if_neg hbig] at hr;have HR:=zz hr;have HI:=zz (zgg s);have hs:s.size<=32768:=by omega
 have hb:=(Below.refl w.heap.size w).alloc (Nat.le_refl _) (.cells #[.string s,.int .i64 0] 196);have hx:=zab.new w #[.string s,.int .i64 0] 196;obtain⟨W0,hW⟩:∃W,w.alloc (.cells #[.string s,.int .i64 0] 196)=W:=⟨_,rfl⟩;have HW:=zz hW;rw[hW] at hb hx;have T0:Hid (SL s w W0 0 [] none 0):=zz ⟨hb,hx,zaz.nil _ _ _ _ _⟩;clear hr hb hx hW;go_enter Tryz.func121,Tryz.ntmps121;go_wp2_with fail
 go_step3
 go_wp2_with fail
 go_step3
 go_wp2_with fail;rw[HW.out];clear HW
 go_loopw [6] (λs6 wr=>∃(j f:Nat) (acc:List Tok) (A:Option Addr) (c:Nat),j<=s.size/\acc.length<=j/\s.size+1<=j+f/\s6=.slice A acc.length c/\Hid (zfs s f j acc=r)/\Hid (SL s w wr j acc A c)) (λ_ W=>s.size-zds W w.heap.size)
 case atStart=>exact⟨0,s.size+1,[],none,0,by omega,by simp,by omega,rfl,HR,T0⟩
 case round=>
  clear HR T0;obtain⟨j,f,acc,A,c,hj,hal,hf,rfl,HR,HT⟩:=hrel;have hm:zds wr w.heap.size=j:=HT.out.at'.next;have KS:=zz (zsd s hs w.heap.size j hj wr HT.out.at');have q:=HR.out;rw[zrF (by omega)] at q;have hk1:=zhf (s:=s) (f:=s.size) (i:=j) hj;obtain⟨k,hk⟩:∃k,zdc s s.size j=k:=⟨_,rfl⟩;rw[hk] at q KS hk1;clear HR hk;go_wp2_with fail;(with_reducible refine KS.out.mono ?_);rintro e w1 ⟨rfl,hc,ha⟩;have H1:=HT.out.call hc ha;have hsz1:w.heap.size<w1.heap.size:=H1.at'.lt;have d1:w1.cell? ⟨w.heap.size,1,none⟩=some (.int .i64 (k:Int)):=H1.at'.cell 1;have H2:=H1.box;obtain⟨X,hX⟩:∃X,w1.heap.size=X:=⟨_,rfl⟩;obtain⟨w2,hw2⟩:∃W,w1.alloc (.cells #[.int .i64 0,.string ⟨#[]⟩,.int .i64 0,.int .i64 0] 198)=W:=⟨_,rfl⟩;rw[hw2,hX] at H2;have Z2:=zz H2;clear hc ha H1 H2 KS HT
  by_cases hend:k=s.size
  ·rw[if_pos hend] at q;have HQ:=zz q;have he:((k:Int) == (s.size:Int))=true:=by rw[beq_iff_eq];omega
   clear q;go_wp2_with fail;rw[Exit.noGoto_ret];refine bodyPost_ret (results_tmp3 (by rfl) _ _ _) rfl ?_;rw[<-HQ.out];exact⟨Z2.out.low,_,_,rfl,Z2.out.own.owned.lower (by omega)⟩
  ·rw[if_neg hend] at q;have he:((k:Int) == (s.size:Int))=false:=by rw[beq_eq_false_iff_ne];omega
   have hks:k<s.size:=by omega
   have HK:=HI.out k hks w2;have KA:=zz (λW=>zgS (bt s k) W);have KD:=zz (λW=>zck (bt s k) W);clear HI;cases hl:zeT (bt s k) with
   |true=>
    have ht:zcZ s k=.ok (⟨1,s.extract k (zaX s s.size k),0,k⟩,zaX s s.size k):=by unfold zcZ;rw[if_pos hl]
    have hok:=zeL hs hks ht;obtain⟨g1,g2,_,_,_,_⟩:=hok;have KN:=zz (zpV s hs w.heap.size k (by omega) w2 Z2.out.at');rw[hl] at KA;rw[ht] at q;obtain⟨tx,htx⟩:∃tx,s.extract k (zaX s s.size k)=tx:=⟨_,rfl⟩;obtain⟨e0,he0⟩:∃e,zaX s s.size k=e:=⟨_,rfl⟩;rw[htx,he0] at KN;dsimp only at q;rw[htx,he0] at q;rw[he0] at g1 g2;have HQ:Hid (zfs s (f-1) e0 (acc++[⟨1,tx,0,k⟩])=r):=zz q;clear q ht htx he0 hl KD;go_wp2_with fail;(with_reducible refine((KA).out w2).mono ?_);rintro e w' ⟨rfl,hw'⟩;subst w';go_wp2_with fail;(with_reducible refine KN.out.mono ?_);rintro e w4 ⟨rfl,hc,ha⟩;have H4:=Z2.out.call hc ha;clear KN;have x0:w4.cell? ⟨X,0,none⟩=some (.int .i64 0):=H4.box.cell 0;have x1:w4.cell? ⟨X,1,none⟩=some (.string ⟨#[]⟩):=H4.box.cell 1;have x2:w4.cell? ⟨X,2,none⟩=some (.int .i64 0):=H4.box.cell 2;have x3:w4.cell? ⟨X,3,none⟩=some (.int .i64 0):=H4.box.cell 3;have z:=H4.box.fz;have H6:=(H4.filled (.int .i64 1) (.string tx) (.int .i64 0) (.int .i64 0)).at3 (.int .i64 k);have y3:(((((w4.setCell ⟨X,0,none⟩ (.int .i64 1)).setCell ⟨X,1,none⟩ (.string tx)).setCell ⟨X,2,none⟩ (.int .i64 0)).setCell ⟨X,3,none⟩ (.int .i64 0)).setCell ⟨X,3,none⟩ (.int .i64 k)).cell? ⟨X,3,none⟩=some (.int .i64 k):=H6.box.cell 3;have H7:=H6.below ((Below.refl _ _).alloc (Nat.le_refl _) (.cells #[.int .i64 1,.string tx,.int .i64 0,.int .i64 (k:Int)] 198));have Z7:=zz H7;have O7:=zz H7.own.owned;have hs4:w.heap.size<w4.heap.size:=H4.at'.lt;clear H4 H6 H7 hc ha he HK hw2 hX d1;go_wp2_with (at_builtin;refine zba rowT znv Tryz.underlying146 rfl (by omega) (by omega) rfl _ _ rfl (w.heap.size+1) ?cx1 (.slice A acc.length c) acc rfl O7.out ⟨w4.heap.size,0,none⟩ 1 ⟨1,tx,0,k⟩ [.int .i64 1,.string tx,.int .i64 0,.int .i64 (k:Int)] rfl rfl ?cx2 ?cx3 ?cx4 ?_)
    case cx1=>simp;omega
    case cx2=>exact zez _ (by simp) _ _ _ _
    case cx3=>exact zki _ _ _ _
    case cx4=>omega
    intro v' w8 hO hg _;replace hO:zaz (w.heap.size+1) 198 4 (acc++[(⟨1,tx,0,(k:Int)⟩:Tok)]).length (zan rowT (acc++[(⟨1,tx,0,(k:Int)⟩:Tok)])) w8 v':=by rw[List.length_append];exact hO
    obtain⟨L,hL⟩:∃L,acc++[(⟨1,tx,0,(k:Int)⟩:Tok)]=L:=⟨_,rfl⟩;rw[hL] at hO;have q:=HQ.out;rw[hL] at q;have HQ2:=zz q;have hL1:L.length=acc.length+1:=by rw[<-hL];simp
    obtain⟨A8,c8,rfl,_⟩:=hO.rd.sl_inv;have H8:=zz (Z7.out.grown hO hg);have hm8:zds w8 w.heap.size=e0:=H8.out.at'.next;have hL2:L.length<=acc.length+1:=by omega
    clear hO hg hL q HQ Z7 O7 x0 x1 x2 x3 y3 z hL1;go_wp2_with fail;exact⟨⟨e0,f-1,L,A8,c8,by omega,by omega,by omega,rfl,HQ2,H8⟩,by omega⟩
   |false=>
    rw[hl] at KA;cases hd:zcM (bt s k) with
    |true=>
     have ht:zcZ s k=zen s k:=by unfold zcZ;rw[if_neg (by rw[hl];simp),if_pos hd]
     have KT:=zz (zkF s hs w.heap.size k hks hd w2 Z2.out.at');rw[<-ht] at KT;rw[hd] at KD;clear ht hl hd;cases hx:zcZ s k with
     |error ce=>
      rw[hx] at q KT;have HQ:Hid (Except.error (ce,(k:Int))=r):=zz q;have hc0:=zfr hx;have hc1:(ce != 0)=true:=by simpa using hc0
      have hc2:(ce == 0)=false:=by simpa using hc0
      clear q hx hc0;go_wp2_with fail;(with_reducible refine((KA).out w2).mono ?_);rintro e w' ⟨rfl,hw'⟩;subst w';go_wp2_with fail;(with_reducible refine((KD).out w2).mono ?_);rintro e w' ⟨rfl,hw'⟩;subst w';go_wp2_with fail;(with_reducible refine KT.out.mono ?_);rintro e w4 ⟨hc,rfl⟩;have H4l:Below w.heap.size w w4:=zee Z2.out.low hc;have H4b:zab w4 X _ 198:=Z2.out.box.keep hc (by have:=Z2.out.hi;omega);have x0:w4.cell? ⟨X,0,none⟩=some (.int .i64 0):=H4b.cell 0;have x1:w4.cell? ⟨X,1,none⟩=some (.string ⟨#[]⟩):=H4b.cell 1;have x2:w4.cell? ⟨X,2,none⟩=some (.int .i64 0):=H4b.cell 2;have x3:w4.cell? ⟨X,3,none⟩=some (.int .i64 0):=H4b.cell 3;have z:=H4b.fz;have Z6:Hid (Below w.heap.size w ((((w4.setCell ⟨X,0,none⟩ (.int .i64 0)).setCell ⟨X,1,none⟩ (.string ⟨#[]⟩)).setCell ⟨X,2,none⟩ (.int .i64 0)).setCell ⟨X,3,none⟩ (.int .i64 0))):=zz (H4l.trans ((zhj w4 X _ _ _ _).below H4l.size (λq hq=>by have:=Z2.out.hi;omega)));clear H4l H4b hc he HK hw2 hX d1;go_wp2_with fail;rw[Exit.noGoto_ret];refine bodyPost_ret (results_tmp3 (by rfl) _ _ _) rfl ?_;rw[<-HQ.out];exact⟨Z6.out,rfl⟩
     |ok p=>
      obtain⟨⟨kd,tx,nn,at'⟩,e0⟩:=p;have hok:=zeL hs hks hx;obtain⟨g1,g2,g3,_,_,_⟩:=hok;obtain rfl:at'=(k:Int):=g3;rw[hx] at q KT;have HQ:Hid (zfs s (f-1) e0 (acc++[⟨kd,tx,nn,k⟩])=r):=zz q;clear q hx;go_wp2_with fail;(with_reducible refine((KA).out w2).mono ?_);rintro e w' ⟨rfl,hw'⟩;subst w';go_wp2_with fail;(with_reducible refine((KD).out w2).mono ?_);rintro e w' ⟨rfl,hw'⟩;subst w';go_wp2_with fail;(with_reducible refine KT.out.mono ?_);rintro e w4 ⟨hc,rfl,ha⟩;have H4:=Z2.out.call hc ha;clear KT;have x0:w4.cell? ⟨X,0,none⟩=some (.int .i64 0):=H4.box.cell 0;have x1:w4.cell? ⟨X,1,none⟩=some (.string ⟨#[]⟩):=H4.box.cell 1;have x2:w4.cell? ⟨X,2,none⟩=some (.int .i64 0):=H4.box.cell 2;have x3:w4.cell? ⟨X,3,none⟩=some (.int .i64 0):=H4.box.cell 3;have z:=H4.box.fz;have H6:=(H4.filled (.int .i64 kd) (.string tx) (.int .i64 nn) (.int .i64 0)).at3 (.int .i64 k);have y3:(((((w4.setCell ⟨X,0,none⟩ (.int .i64 kd)).setCell ⟨X,1,none⟩ (.string tx)).setCell ⟨X,2,none⟩ (.int .i64 nn)).setCell ⟨X,3,none⟩ (.int .i64 0)).setCell ⟨X,3,none⟩ (.int .i64 k)).cell? ⟨X,3,none⟩=some (.int .i64 k):=H6.box.cell 3;have H7:=H6.below ((Below.refl _ _).alloc (Nat.le_refl _) (.cells #[.int .i64 kd,.string tx,.int .i64 nn,.int .i64 (k:Int)] 198));have Z7:=zz H7;have O7:=zz H7.own.owned;have hs4:w.heap.size<w4.heap.size:=H4.at'.lt;clear H4 H6 H7 hc ha he HK hw2 hX d1;go_wp2_with (at_builtin;refine zba rowT znv Tryz.underlying146 rfl (by omega) (by omega) rfl _ _ rfl (w.heap.size+1) ?cx1 (.slice A acc.length c) acc rfl O7.out ⟨w4.heap.size,0,none⟩ 1 ⟨kd,tx,nn,k⟩ [.int .i64 kd,.string tx,.int .i64 nn,.int .i64 (k:Int)] rfl rfl ?cx2 ?cx3 ?cx4 ?_)
      case cx1=>simp;omega
      case cx2=>exact zez _ (by simp) _ _ _ _
      case cx3=>exact zki _ _ _ _
      case cx4=>omega
      intro v' w8 hO hg _;replace hO:zaz (w.heap.size+1) 198 4 (acc++[(⟨kd,tx,nn,(k:Int)⟩:Tok)]).length (zan rowT (acc++[(⟨kd,tx,nn,(k:Int)⟩:Tok)])) w8 v':=by rw[List.length_append];exact hO
      obtain⟨L,hL⟩:∃L,acc++[(⟨kd,tx,nn,(k:Int)⟩:Tok)]=L:=⟨_,rfl⟩;rw[hL] at hO;have q:=HQ.out;rw[hL] at q;have HQ2:=zz q;have hL1:L.length=acc.length+1:=by rw[<-hL];simp
      obtain⟨A8,c8,rfl,_⟩:=hO.rd.sl_inv;have H8:=zz (Z7.out.grown hO hg);have hm8:zds w8 w.heap.size=e0:=H8.out.at'.next;have hL2:L.length<=acc.length+1:=by omega
      clear hO hg hL q HQ Z7 O7 x0 x1 x2 x3 y3 z hL1;go_wp2_with fail;exact⟨⟨e0,f-1,L,A8,c8,by omega,by omega,by omega,rfl,HQ2,H8⟩,by omega⟩
    |false=>
     rw[hd] at KD
     by_cases h34:bt s k=34
     ·have ht:zcZ s k=zlD s k:=by unfold zcZ;rw[if_neg (by rw[hl];simp),if_neg (by rw[hd];simp),if_pos h34]
      have KT:=zz (zpQ s hs w.heap.size k hks w2 Z2.out.at');rw[<-ht] at KT;have hy34:(((bt s k).toNat:Int) == 34)=true:=by rw[h34];rfl
      clear ht hl hd h34;cases hx:zcZ s k with
      |error ce=>
       rw[hx] at q KT;have HQ:Hid (Except.error (ce,(k:Int))=r):=zz q;have hc0:=zfr hx;have hc1:(ce != 0)=true:=by simpa using hc0
       have hc2:(ce == 0)=false:=by simpa using hc0
       clear q hx hc0;go_wp2_with fail;(with_reducible refine((KA).out w2).mono ?_);rintro e w' ⟨rfl,hw'⟩;subst w';go_wp2_with fail;(with_reducible refine((KD).out w2).mono ?_);rintro e w' ⟨rfl,hw'⟩;subst w';go_wp2_with fail;(with_reducible refine KT.out.mono ?_);rintro e w4 ⟨hc,rfl⟩;have H4l:Below w.heap.size w w4:=zee Z2.out.low hc;have H4b:zab w4 X _ 198:=Z2.out.box.keep hc (by have:=Z2.out.hi;omega);have x0:w4.cell? ⟨X,0,none⟩=some (.int .i64 0):=H4b.cell 0;have x1:w4.cell? ⟨X,1,none⟩=some (.string ⟨#[]⟩):=H4b.cell 1;have x2:w4.cell? ⟨X,2,none⟩=some (.int .i64 0):=H4b.cell 2;have x3:w4.cell? ⟨X,3,none⟩=some (.int .i64 0):=H4b.cell 3;have z:=H4b.fz;have Z6:Hid (Below w.heap.size w ((((w4.setCell ⟨X,0,none⟩ (.int .i64 0)).setCell ⟨X,1,none⟩ (.string ⟨#[]⟩)).setCell ⟨X,2,none⟩ (.int .i64 0)).setCell ⟨X,3,none⟩ (.int .i64 0))):=zz (H4l.trans ((zhj w4 X _ _ _ _).below H4l.size (λq hq=>by have:=Z2.out.hi;omega)));clear H4l H4b hc he HK hw2 hX d1;go_wp2_with fail;rw[Exit.noGoto_ret];refine bodyPost_ret (results_tmp3 (by rfl) _ _ _) rfl ?_;rw[<-HQ.out];exact⟨Z6.out,rfl⟩
      |ok p=>
       obtain⟨⟨kd,tx,nn,at'⟩,e0⟩:=p;have hok:=zeL hs hks hx;obtain⟨g1,g2,g3,_,_,_⟩:=hok;obtain rfl:at'=(k:Int):=g3;rw[hx] at q KT;have HQ:Hid (zfs s (f-1) e0 (acc++[⟨kd,tx,nn,k⟩])=r):=zz q;clear q hx;go_wp2_with fail;(with_reducible refine((KA).out w2).mono ?_);rintro e w' ⟨rfl,hw'⟩;subst w';go_wp2_with fail;(with_reducible refine((KD).out w2).mono ?_);rintro e w' ⟨rfl,hw'⟩;subst w';go_wp2_with fail;(with_reducible refine KT.out.mono ?_);rintro e w4 ⟨hc,rfl,ha⟩;have H4:=Z2.out.call hc ha;clear KT;have x0:w4.cell? ⟨X,0,none⟩=some (.int .i64 0):=H4.box.cell 0;have x1:w4.cell? ⟨X,1,none⟩=some (.string ⟨#[]⟩):=H4.box.cell 1;have x2:w4.cell? ⟨X,2,none⟩=some (.int .i64 0):=H4.box.cell 2;have x3:w4.cell? ⟨X,3,none⟩=some (.int .i64 0):=H4.box.cell 3;have z:=H4.box.fz;have H6:=(H4.filled (.int .i64 kd) (.string tx) (.int .i64 nn) (.int .i64 0)).at3 (.int .i64 k);have y3:(((((w4.setCell ⟨X,0,none⟩ (.int .i64 kd)).setCell ⟨X,1,none⟩ (.string tx)).setCell ⟨X,2,none⟩ (.int .i64 nn)).setCell ⟨X,3,none⟩ (.int .i64 0)).setCell ⟨X,3,none⟩ (.int .i64 k)).cell? ⟨X,3,none⟩=some (.int .i64 k):=H6.box.cell 3;have H7:=H6.below ((Below.refl _ _).alloc (Nat.le_refl _) (.cells #[.int .i64 kd,.string tx,.int .i64 nn,.int .i64 (k:Int)] 198));have Z7:=zz H7;have O7:=zz H7.own.owned;have hs4:w.heap.size<w4.heap.size:=H4.at'.lt;clear H4 H6 H7 hc ha he HK hw2 hX d1;go_wp2_with (at_builtin;refine zba rowT znv Tryz.underlying146 rfl (by omega) (by omega) rfl _ _ rfl (w.heap.size+1) ?cx1 (.slice A acc.length c) acc rfl O7.out ⟨w4.heap.size,0,none⟩ 1 ⟨kd,tx,nn,k⟩ [.int .i64 kd,.string tx,.int .i64 nn,.int .i64 (k:Int)] rfl rfl ?cx2 ?cx3 ?cx4 ?_)
       case cx1=>simp;omega
       case cx2=>exact zez _ (by simp) _ _ _ _
       case cx3=>exact zki _ _ _ _
       case cx4=>omega
       intro v' w8 hO hg _;replace hO:zaz (w.heap.size+1) 198 4 (acc++[(⟨kd,tx,nn,(k:Int)⟩:Tok)]).length (zan rowT (acc++[(⟨kd,tx,nn,(k:Int)⟩:Tok)])) w8 v':=by rw[List.length_append];exact hO
       obtain⟨L,hL⟩:∃L,acc++[(⟨kd,tx,nn,(k:Int)⟩:Tok)]=L:=⟨_,rfl⟩;rw[hL] at hO;have q:=HQ.out;rw[hL] at q;have HQ2:=zz q;have hL1:L.length=acc.length+1:=by rw[<-hL];simp
       obtain⟨A8,c8,rfl,_⟩:=hO.rd.sl_inv;have H8:=zz (Z7.out.grown hO hg);have hm8:zds w8 w.heap.size=e0:=H8.out.at'.next;have hL2:L.length<=acc.length+1:=by omega
       clear hO hg hL q HQ Z7 O7 x0 x1 x2 x3 y3 z hL1;go_wp2_with fail;exact⟨⟨e0,f-1,L,A8,c8,by omega,by omega,by omega,rfl,HQ2,H8⟩,by omega⟩
     ·have ht:zcZ s k=zln s k:=by unfold zcZ;rw[if_neg (by rw[hl];simp),if_neg (by rw[hd];simp),if_neg h34]
      have KT:=zz (zrc s hs w.heap.size k hks w2 Z2.out.at');rw[<-ht] at KT;have hn34:(((bt s k).toNat:Int) == 34)=false:=zco (n:=34) h34;clear ht hl hd h34;cases hx:zcZ s k with
      |error ce=>
       rw[hx] at q KT;have HQ:Hid (Except.error (ce,(k:Int))=r):=zz q;have hc0:=zfr hx;have hc1:(ce != 0)=true:=by simpa using hc0
       have hc2:(ce == 0)=false:=by simpa using hc0
       clear q hx hc0;go_wp2_with fail;(with_reducible refine((KA).out w2).mono ?_);rintro e w' ⟨rfl,hw'⟩;subst w';go_wp2_with fail;(with_reducible refine((KD).out w2).mono ?_);rintro e w' ⟨rfl,hw'⟩;subst w';go_wp2_with fail;(with_reducible refine KT.out.mono ?_);rintro e w4 ⟨hc,rfl⟩;have H4l:Below w.heap.size w w4:=zee Z2.out.low hc;have H4b:zab w4 X _ 198:=Z2.out.box.keep hc (by have:=Z2.out.hi;omega);have x0:w4.cell? ⟨X,0,none⟩=some (.int .i64 0):=H4b.cell 0;have x1:w4.cell? ⟨X,1,none⟩=some (.string ⟨#[]⟩):=H4b.cell 1;have x2:w4.cell? ⟨X,2,none⟩=some (.int .i64 0):=H4b.cell 2;have x3:w4.cell? ⟨X,3,none⟩=some (.int .i64 0):=H4b.cell 3;have z:=H4b.fz;have Z6:Hid (Below w.heap.size w ((((w4.setCell ⟨X,0,none⟩ (.int .i64 0)).setCell ⟨X,1,none⟩ (.string ⟨#[]⟩)).setCell ⟨X,2,none⟩ (.int .i64 0)).setCell ⟨X,3,none⟩ (.int .i64 0))):=zz (H4l.trans ((zhj w4 X _ _ _ _).below H4l.size (λq hq=>by have:=Z2.out.hi;omega)));clear H4l H4b hc he HK hw2 hX d1;go_wp2_with fail;rw[Exit.noGoto_ret];refine bodyPost_ret (results_tmp3 (by rfl) _ _ _) rfl ?_;rw[<-HQ.out];exact⟨Z6.out,rfl⟩
      |ok p=>
       obtain⟨⟨kd,tx,nn,at'⟩,e0⟩:=p;have hok:=zeL hs hks hx;obtain⟨g1,g2,g3,_,_,_⟩:=hok;obtain rfl:at'=(k:Int):=g3;rw[hx] at q KT;have HQ:Hid (zfs s (f-1) e0 (acc++[⟨kd,tx,nn,k⟩])=r):=zz q;clear q hx;go_wp2_with fail;(with_reducible refine((KA).out w2).mono ?_);rintro e w' ⟨rfl,hw'⟩;subst w';go_wp2_with fail;(with_reducible refine((KD).out w2).mono ?_);rintro e w' ⟨rfl,hw'⟩;subst w';go_wp2_with fail;(with_reducible refine KT.out.mono ?_);rintro e w4 ⟨hc,rfl,ha⟩;have H4:=Z2.out.call hc ha;clear KT;have x0:w4.cell? ⟨X,0,none⟩=some (.int .i64 0):=H4.box.cell 0;have x1:w4.cell? ⟨X,1,none⟩=some (.string ⟨#[]⟩):=H4.box.cell 1;have x2:w4.cell? ⟨X,2,none⟩=some (.int .i64 0):=H4.box.cell 2;have x3:w4.cell? ⟨X,3,none⟩=some (.int .i64 0):=H4.box.cell 3;have z:=H4.box.fz;have H6:=(H4.filled (.int .i64 kd) (.string tx) (.int .i64 nn) (.int .i64 0)).at3 (.int .i64 k);have y3:(((((w4.setCell ⟨X,0,none⟩ (.int .i64 kd)).setCell ⟨X,1,none⟩ (.string tx)).setCell ⟨X,2,none⟩ (.int .i64 nn)).setCell ⟨X,3,none⟩ (.int .i64 0)).setCell ⟨X,3,none⟩ (.int .i64 k)).cell? ⟨X,3,none⟩=some (.int .i64 k):=H6.box.cell 3;have H7:=H6.below ((Below.refl _ _).alloc (Nat.le_refl _) (.cells #[.int .i64 kd,.string tx,.int .i64 nn,.int .i64 (k:Int)] 198));have Z7:=zz H7;have O7:=zz H7.own.owned;have hs4:w.heap.size<w4.heap.size:=H4.at'.lt;clear H4 H6 H7 hc ha he HK hw2 hX d1;go_wp2_with (at_builtin;refine zba rowT znv Tryz.underlying146 rfl (by omega) (by omega) rfl _ _ rfl (w.heap.size+1) ?cx1 (.slice A acc.length c) acc rfl O7.out ⟨w4.heap.size,0,none⟩ 1 ⟨kd,tx,nn,k⟩ [.int .i64 kd,.string tx,.int .i64 nn,.int .i64 (k:Int)] rfl rfl ?cx2 ?cx3 ?cx4 ?_)
       case cx1=>simp;omega
       case cx2=>exact zez _ (by simp) _ _ _ _
       case cx3=>exact zki _ _ _ _
       case cx4=>omega
       intro v' w8 hO hg _;replace hO:zaz (w.heap.size+1) 198 4 (acc++[(⟨kd,tx,nn,(k:Int)⟩:Tok)]).length (zan rowT (acc++[(⟨kd,tx,nn,(k:Int)⟩:Tok)])) w8 v':=by rw[List.length_append];exact hO
       obtain⟨L,hL⟩:∃L,acc++[(⟨kd,tx,nn,(k:Int)⟩:Tok)]=L:=⟨_,rfl⟩;rw[hL] at hO;have q:=HQ.out;rw[hL] at q;have HQ2:=zz q;have hL1:L.length=acc.length+1:=by rw[<-hL];simp
       obtain⟨A8,c8,rfl,_⟩:=hO.rd.sl_inv;have H8:=zz (Z7.out.grown hO hg);have hm8:zds w8 w.heap.size=e0:=H8.out.at'.next;have hL2:L.length<=acc.length+1:=by omega
       clear hO hg hL q HQ Z7 O7 x0 x1 x2 x3 y3 z hL1;go_wp2_with fail;exact⟨⟨e0,f-1,L,A8,c8,by omega,by omega,by omega,rfl,HQ2,H8⟩,by omega⟩
end Go.Proofs.YtcebmphappfjjaaGreatDoor
