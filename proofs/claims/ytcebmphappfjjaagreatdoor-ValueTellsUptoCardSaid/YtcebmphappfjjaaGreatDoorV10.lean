/- Conditions: those in each statement. -/
import Derived.Test.YtcebmphappfjjaaGreatDoorV06
import Derived.Test.YtcebmphappfjjaaGreatDoorV09
import Derived.Defers
import Derived.Recover
import Derived.Test.YtcebmphappfjjaaGreatDoorV05
set_option maxHeartbeats 32000000
set_option maxRecDepth 100000
namespace Go.Proofs.YtcebmphappfjjaaGreatDoor
open Go.RowKit
theorem zcV {s:ByteArray} (h:¬s=⟨#[]⟩):s.toList.isEmpty=false:=by
 cases hl:s.toList with
 |nil=>
  have q:=zam h;rw[hl] at q;cases q
 |cons a r=>rfl
theorem zgh (s:ByteArray) (w:World):Calls Tryz.prog 135 #[↑s] w λe w'=>e=.returned (.int .i64 (zbW s))/\w=w':=(zqk s w).mono (λ_ _ h=>⟨h.1,h.2.symm⟩)
structure RdSt (w W:World) (kd:Int) (tx:ByteArray) (nn at':Int) (A:Option Addr) (n c:Nat):Prop where
 low:Below w.heap.size w W
 box:zab W w.heap.size #[.int .i64 kd,.string tx,.int .i64 nn,.int .i64 at',.slice A n c] 49
 res:zab W (w.heap.size+1) #[.int .i64 0,.string ⟨#[]⟩,.slice none 0 0] 70
section
variable {w W W':World} {kd:Int} {tx:ByteArray} {nn at':Int} {A:Option Addr} {n c:Nat}
theorem RdSt.below (h:RdSt w W kd tx nn at' A n c) (k:Below W.heap.size W W'):RdSt w W' kd tx nn at' A n c:=⟨zac h.low k h.low.size,zaa k h.box,zaa k h.res⟩
theorem RdSt.drewN (h:RdSt w W kd tx nn at' A n c) (q:Nat):RdSt w (W.drewN q) kd tx nn at' A n c:=h.below (zae (Below.refl _ _) q)
theorem RdSt.drew (h:RdSt w W kd tx nn at' A n c):RdSt w W.drew kd tx nn at' A n c:=h.drewN 1
theorem RdSt.cells (h:RdSt w W kd tx nn at' A n c):W.cell? ⟨w.heap.size,0,none⟩=some (.int .i64 kd)/\W.cell? ⟨w.heap.size,1,none⟩=some (.string tx)/\W.cell? ⟨w.heap.size,2,none⟩=some (.int .i64 nn)/\W.cell? ⟨w.heap.size,3,none⟩=some (.int .i64 at')/\W.cell? ⟨w.heap.size,4,none⟩=some (.slice A n c):=⟨h.box.cell 0,h.box.cell 1,h.box.cell 2,h.box.cell 3,h.box.cell 4⟩
theorem RdSt.rcells (h:RdSt w W kd tx nn at' A n c):W.cell? ⟨w.heap.size+1,0,none⟩=some ↑()/\W.cell? ⟨w.heap.size+1,1,none⟩=some ↑zj.a/\W.cell? ⟨w.heap.size+1,2,none⟩=some (.slice none 0 0):=⟨h.res.cell 0,h.res.cell 1,h.res.cell 2⟩
theorem zhM (k:Int) (t:ByteArray) {r:Option Ty} (hq:some (.mk k t [])=r) {a:Act} (h2:a.tmps.getD 2 undef=.pointer (some ⟨w.heap.size+1,0,none⟩)) (h3:a.tmps.getD 3 undef=.bool true) (hd:a.defers=[]) (h:RdSt w W kd tx nn at' A n c) :
 bodyPost Tryz.prog Tryz.f131 (zij w r) Exit.ret a (((W.setCell ⟨w.heap.size+1,0,none⟩ ↑k).setCell ⟨w.heap.size+1,1,none⟩ ↑t).setCell ⟨w.heap.size+1,2,none⟩ (.slice none 0 0)):=by
 have:=zah (P:=Tryz.prog) (fn:=Tryz.f131) (q:=3) zr a.tmps _ (w.heap.size+1) _ _ (0,0) _ h2 (zdD ↑k ↑t (.slice none 0 0) h.res) Tryz.underlying70 rfl zhK;rw[h3] at this;refine bodyPost_ret this hd ⟨?_,?_⟩
 ·exact h.low.trans ((zcE _ _ _ _ _).below h.low.size (λq hq=>by omega))
 ·rw[<-hq];exact⟨none,0,rfl,Rd.sl_nil⟩
end
theorem zDx (tx:ByteArray) (at':Int) (hb:zbW tx≠0):zlB (.mk 12 tx 0 at' []):=by
 intro A c w hf hs h;rw[zbT] at hs;replace h:Rd (Lt w.heap.size) w (ns []) (.slice A 0 c):=h
 show Calls Tryz.prog 131 #[.agg #[.int .i64 12,↑tx,↑(),↑at',.slice A 0 c]] w (zij w (zjC (.mk 12 tx 0 at' [])))
 obtain⟨r,hr⟩:=zn (zjC (.mk 12 tx 0 at' []));rw[hr];rw[zjC] at hr;obtain⟨w1,h1,b1,c1⟩:=zaj w #[.int .i64 12,↑tx,↑(),↑at',.slice A 0 c] 49;have s1:w1.heap.size=w.heap.size+1:=by rw[<-h1];simp
 obtain⟨w2,h2,b2,c2⟩:=zaj w1 #[↑(),↑zj.a,.slice none 0 0] 70;have s2:w2.heap.size=w.heap.size+2:=by rw[<-h2];simp[s1]
 rw[s1] at c2;have hz:RdSt w w2 12 tx 0 at' A 0 c:=⟨zac b1 b2 b1.size,zaa b2 c1,c2⟩;have HW:Hid ((w.alloc (.cells #[.int .i64 12,↑tx,↑(),↑at',.slice A 0 c] 49)).alloc (.cells #[↑(),↑zj.a,.slice none 0 0] 70)=w2):=zz (by rw[h1,h2]);have HH:=zz (h.belows hz.low);have HZ:=zz hz;have KB:=zz (λW=>zgh tx W);obtain⟨x0,x1,x2,x3,x4⟩:=hz.cells;obtain⟨y0,y1,y2⟩:=hz.rcells;have yz:=hz.res.fz;have l2:w.heap.size+1<w2.heap.size:=zo
 have HS2:=zz s2;clear b1 b2 c1 c2 s1 s2 h1 h2 h hf hz hs;rw[if_neg zs,if_pos rfl,if_pos ⟨hb,rfl⟩] at hr;have hbb:(zbW tx == 0)=false:=by rw[beq_eq_false_iff_ne];exact hb
 have hbn:(zbW tx != 0)=true:=by rw[bne_iff_ne];exact hb
 have HQ:=zz hr;generalize zbW tx=B at *
 clear hr hb;go_in;go_wp2_with fail;rw[HW.out];clear HW;go_wp2_with fail;(with_reducible refine(KB.out _).mono ?_);rintro e w3 ⟨rfl,rfl⟩;go_wp2_with fail;exact zhM B ⟨#[]⟩ HQ.out zr zr rfl HZ.out
theorem zry (n:Nd) (h:BasN n):zlB n:=by
 obtain⟨k,t,n,a,l⟩:=n;obtain⟨h1,h2,h3,h4⟩:=h;simp only[Nd.kind,Nd.n,Nd.kids,Nd.text] at h1 h2 h3 h4;subst h1 h2 h3;exact zDx t a h4
theorem znv:(Tryz.prog.info? 198).map (λi=>(i.zero,i.size,i.bytes))=some (some (.agg #[↑(),↑zj.a,↑(),↑()]),4,40):=by kernel_rfl
def zhn (w:World) (r:Except (Int × Int) (List Tok)) (e:Ending) (w':World):Prop:=Below w.heap.size w w'/\match r with
 |.error (c,a)=>e=.returned (.tuple #[.slice none 0 0,.int .i64 c,.int .i64 a])
 |.ok T=>∃A c,e=.returned (.tuple #[.slice A T.length c,.int .i64 0,.int .i64 0])/\zaz w.heap.size 198 4 T.length (zan rowT T) w' (.slice A T.length c)
structure SL (s:ByteArray) (w W:World) (j:Nat) (acc:List Tok) (A:Option Addr) (c:Nat):Prop where
 low:Below w.heap.size w W
 at':ScAt w.heap.size s W j
 own:zaz (w.heap.size+1) 198 4 acc.length (zan rowT acc) W (.slice A acc.length c)
structure SB (s:ByteArray) (w W:World) (j:Nat) (acc:List Tok) (A:Option Addr) (c X:Nat) (cx:Array Value):Prop where
 low:Below w.heap.size w W
 at':ScAt w.heap.size s W j
 own:zbc X (w.heap.size+1) 198 4 acc.length (zan rowT acc) W (.slice A acc.length c)
 box:zab W X cx 198
 hi:w.heap.size<X
section
variable {s:ByteArray} {w W W':World} {j j':Nat} {acc:List Tok} {A:Option Addr} {c X:Nat} {cx:Array Value}
theorem zee (h:Below w.heap.size w W) (k:Own1 w.heap.size W W'):Below w.heap.size w W':=h.trans (Chg.below k h.size (λq hq=>by omega))
theorem SL.call (h:SL s w W j acc A c) (k:Own1 w.heap.size W W') (a:ScAt w.heap.size s W' j'):SL s w W' j' acc A c:=⟨zee h.low k,a,k.owned zo h.own⟩
theorem SB.call (h:SB s w W j acc A c X cx) (k:Own1 w.heap.size W W') (a:ScAt w.heap.size s W' j'):SB s w W' j' acc A c X cx:=⟨zee h.low k,a,Own1.ownedX k zo h.own,h.box.keep k (by have:=h.hi;omega),h.hi⟩
theorem SL.box (h:SL s w W j acc A c):SB s w (W.alloc (.cells #[↑(),↑zj.a,↑(),↑()] 198)) j acc A c W.heap.size #[↑(),↑zj.a,↑(),↑()]:=by
 have hb:=(Below.refl W.heap.size W).alloc (Nat.le_refl _) (.cells #[↑(),↑zj.a,↑(),↑()] 198);exact⟨zac h.low hb h.low.size,zaa hb h.at',(h.own.ex (Nat.le_refl _)).below hb,zab.new W _ _,h.at'.lt⟩
theorem SB.chg (h:SB s w W j acc A c X cx) (k:Chg (λq=>q=X) W W') {cy:Array Value} (hy:zab W' X cy 198):SB s w W' j acc A c X cy:=by
 have:=h.hi;exact⟨h.low.trans (k.below h.low.size (λq hq=>by omega)),h.at'.keep k zo,h.own.chg k (λq hq=>.inr hq),hy,h.hi⟩
theorem zhj (W:World) (X:Nat) (u0 u1 u2 u3:Value):Chg (λq=>q=X) W ((((W.setCell ⟨X,0,none⟩ u0).setCell ⟨X,1,none⟩ u1).setCell ⟨X,2,none⟩ u2).setCell ⟨X,3,none⟩ u3):=
 (((((Chg.refl (λq=>q=X) W).setCell (p:=⟨X,0,none⟩) (.inl rfl) u0).setCell (p:=⟨X,1,none⟩) (.inl rfl) u1).setCell (p:=⟨X,2,none⟩) (.inl rfl) u2).setCell (p:=⟨X,3,none⟩) (.inl rfl) u3)
theorem SB.filled {a0 a1 a2 a3:Value} (h:SB s w W j acc A c X #[a0,a1,a2,a3]) (u0 u1 u2 u3:Value) :
 SB s w ((((W.setCell ⟨X,0,none⟩ u0).setCell ⟨X,1,none⟩ u1).setCell ⟨X,2,none⟩ u2).setCell ⟨X,3,none⟩ u3) j acc A c X #[u0,u1,u2,u3]:=h.chg (zhj W X _ _ _ _) (zbj _ _ _ _ h.box)
theorem SB.at3 {a0 a1 a2 a3:Value} (h:SB s w W j acc A c X #[a0,a1,a2,a3]) (u:Value):SB s w (W.setCell ⟨X,3,none⟩ u) j acc A c X #[a0,a1,a2,u]:=
 h.chg ((Chg.refl (λq=>q=X) W).setCell (p:=⟨X,3,none⟩) (.inl rfl) u) (by have:=h.box.set 3 u;simpa using this)
theorem SB.below (h:SB s w W j acc A c X cx) (k:Below W.heap.size W W'):SB s w W' j acc A c X cx:=⟨zac h.low k h.low.size,zaa k h.at',h.own.below k,zaa k h.box,h.hi⟩
theorem SB.grown (h:SB s w W j acc A c X cx) {acc':List Tok} {A':Option Addr} {c':Nat} (hO:zaz (w.heap.size+1) 198 4 acc'.length (zan rowT acc') W' (.slice A' acc'.length c')) (hg:W.grownBy W' (Value.slice A acc.length c).ownBlock):SL s w W' j acc' A' c':=by
 have hch:Chg (λk=>w.heap.size+1<=k) W W':=Chg.of_grown hg (λk hk=>(h.own.owned.below_own k hk).1);exact⟨h.low.trans (hch.below h.low.size (λq hq=>by omega)),h.at'.keep hch zo,hO⟩
end
theorem zow (W:World) (k:Int) (t:ByteArray) (n a:Int):∀(j:Nat) (u:Value),[Value.int .i64 k,↑t,↑n,↑a][j]?=some u->(W.alloc (.cells #[↑k,↑t,↑n,↑a] 198)).cell? ((⟨W.heap.size,0,none⟩:Addr).add j)=some u:=λj u hj=>by
 have:=zbG W [Value.int .i64 k,↑t,↑n,↑a].toArray 198 j;rw[List.getElem?_toArray,hj] at this;rw[Addr.add_lit,Nat.zero_add];exact this
theorem zki {ok:Nat->Prop} {W:World} (k:Int) (t:ByteArray) (n a:Int):∀(j:Nat) (u:Value),[Value.int .i64 k,↑t,↑n,↑a][j]?=some u->Rd ok W (rowT ⟨k,t,n,a⟩ j) u:=λj u hj=>by
 match j with
 |0=>simp at hj;exact hj.symm
 |1=>simp at hj;exact hj.symm
 |2=>simp at hj;exact hj.symm
 |3=>simp at hj;exact hj.symm
 |j+4=>simp at hj
theorem zrF {s:ByteArray} {f i:Nat} {acc:List Tok} (hf:0<f):zfs s f i acc=(if zdc s s.size i=s.size then .ok acc
 else match zcZ s (zdc s s.size i) with
  |.error e=>.error (e,(zdc s s.size i:Int))
  |.ok (t,e)=>zfs s (f-1) e (acc++[t])):=by
 obtain⟨f,rfl⟩:∃k,f=k+1:=⟨f-1,zo⟩;rw[zfs];rfl
theorem zez {x:Nat} (W:World) (hx:W.heap.size=x) (k:Int) (t:ByteArray) (n a:Int):∀(j:Nat) (u:Value),[Value.int .i64 k,↑t,↑n,↑a][j]?=some u->(W.alloc (.cells #[↑k,↑t,↑n,↑a] 198)).cell? ((⟨x,0,none⟩:Addr).add j)=some u:=by
 subst hx;exact zow W k t n a
theorem zsl (s:ByteArray) (hS:s.size<=32768) (hT:∃T,zgX s=.ok T) (hD:∀k,zcM (bt s k)=false/\bt s k≠34/\bt s k≠47) (w:World):Calls Tryz.prog 121 #[↑s] w (zhn w (zgX s)):=by
 have hbig:¬32768<s.size:=zo
 have hbi:¬(32768:Int)<(s.size:Int):=zo
 obtain⟨r,hr⟩:=zn (zgX s);rw[hr];have HRT:Hid (∃T,r=.ok T):=zz (hr▸hT);have HDD:=zz hD;clear hT hD;unfold zgX at hr;rw[if_neg hbig] at hr;have HR:=zz hr;have HI:=zz (zgg s);have hs:s.size<=32768:=zo
 have hb:=(Below.refl w.heap.size w).alloc (Nat.le_refl _) (.cells #[↑s,↑()] 196);have hx:=zab.new w #[↑s,↑()] 196;obtain⟨W0,hW⟩:=zn (w.alloc (.cells #[↑s,↑()] 196));have HW:=zz hW;rw[hW] at hb hx;have T0:Hid (SL s w W0 0 [] none 0):=zz ⟨hb,hx,zaz.nil _ _ _ _ _⟩;clear hr hb hx hW;go_in;go_wp2
 go_step3
 go_wp2
 go_step3
 go_wp2;rw[HW.out];clear HW
 go_loopw [6] (λs6 wr=>∃(j f:Nat) (acc:List Tok) (A:Option Addr) (c:Nat),j<=s.size/\acc.length<=j/\s.size+1<=j+f/\s6=.slice A acc.length c/\Hid (zfs s f j acc=r)/\Hid (SL s w wr j acc A c)) (λ_ W=>s.size-zds W w.heap.size)
 case atStart=>exact⟨0,s.size+1,[],none,0,zo,by simp,zo,rfl,HR,T0⟩
 case round=>
  clear HR T0;obtain⟨j,f,acc,A,c,hj,hal,hf,rfl,HR,HT⟩:=hrel;have hm:zds wr w.heap.size=j:=HT.out.at'.next;have KS:=zz (zsd s (λk=>(HDD.out k).2.2) hs w.heap.size j hj wr HT.out.at');have q:=HR.out;rw[zrF zo] at q;have hk1:=zhf (s:=s) (f:=s.size) (i:=j) hj;obtain⟨k,hk⟩:=zn (zdc s s.size j);rw[hk] at q KS hk1;clear HR hk;go_wp2_with fail;refine zi KS ?_;rintro e w1 ⟨rfl,hc,ha⟩;have H1:=HT.out.call hc ha;have hsz1:w.heap.size<w1.heap.size:=H1.at'.lt;have d1:=H1.at'.a 1 rfl;have H2:=H1.box;obtain⟨X,hX⟩:=zn w1.heap.size;obtain⟨w2,hw2⟩:∃W,w1.alloc (.cells #[↑(),↑zj.a,↑(),↑()] 198)=W:=⟨_,rfl⟩;rw[hw2,hX] at H2;have Z2:=zz H2;clear hc ha H1 H2 KS HT
  by_cases hend:k=s.size
  ·rw[if_pos hend] at q;have HQ:=zz q;have he:((k:Int) == (s.size:Int))=true:=by rw[beq_iff_eq];omega
   clear q;go_wp2;rw[Exit.noGoto_ret];refine bodyPost_ret (results_tmp3 zr _ _ _) rfl ?_;rw[<-HQ.out];exact⟨Z2.out.low,_,_,rfl,Z2.out.own.owned.lower zo⟩
  ·rw[if_neg hend] at q;have he:((k:Int) == (s.size:Int))=false:=by rw[beq_eq_false_iff_ne];omega
   have hks:k<s.size:=zo
   have HK:=HI.out k hks w2;have KA:=zz (λW=>zgS (bt s k) W);have KD:=zz (λW=>zck (bt s k) W);clear HI;cases hl:zeT (bt s k) with
   |true=>
    have ht:zcZ s k=.ok (⟨1,s.extract k (zaX s s.size k),0,k⟩,zaX s s.size k):=by unfold zcZ;rw[if_pos hl]
    have hok:=zeL hs hks ht;obtain⟨g1,g2,_,_,_,_⟩:=hok;have KN:=zz (zpV s hs w.heap.size k zo w2 Z2.out.at');rw[hl] at KA;rw[ht] at q;obtain⟨tx,htx⟩:=zn (s.extract k (zaX s s.size k));obtain⟨e0,he0⟩:=zn (zaX s s.size k);rw[htx,he0] at KN;dsimp only at q;rw[htx,he0] at q;rw[he0] at g1 g2;have HQ:Hid (zfs s (f-1) e0 (acc++[⟨1,tx,0,k⟩])=r):=zz q;clear q ht htx he0 hl KD;go_wp2_with fail;(with_reducible refine((KA).out w2).mono ?_);rintro e w' ⟨rfl,hw'⟩;subst w';go_wp2_with fail;refine zi KN ?_;rintro e w4 ⟨rfl,hc,ha⟩;have H4:=Z2.out.call hc ha;clear KN;have x0:=H4.box.a 0 rfl;have x1:=H4.box.a 1 rfl;have x2:=H4.box.a 2 rfl;have x3:=H4.box.a 3 rfl;have z:=H4.box.fz;have H6:=(H4.filled (.int .i64 1) ↑tx ↑() ↑()).at3 ↑k;have y3:(((((w4.setCell ⟨X,0,none⟩ (.int .i64 1)).setCell ⟨X,1,none⟩ ↑tx).setCell ⟨X,2,none⟩ ↑()).setCell ⟨X,3,none⟩ ↑()).setCell ⟨X,3,none⟩ ↑k).cell? ⟨X,3,none⟩=some ↑k:=H6.box.cell 3;have H7:=H6.below ((Below.refl _ _).alloc (Nat.le_refl _) (.cells #[.int .i64 1,↑tx,↑(),.int .i64 (k:Int)] 198));have Z7:=zz H7;have O7:=zz H7.own.owned;have hs4:w.heap.size<w4.heap.size:=H4.at'.lt;clear H4 H6 H7 hc ha he HK hw2 hX d1;go_wp2_with (at_builtin;refine zba rowT znv Tryz.underlying146 rfl zo zo rfl _ _ rfl (w.heap.size+1) ?cx1 (.slice A acc.length c) acc rfl O7.out ⟨w4.heap.size,0,none⟩ 1 ⟨1,tx,0,k⟩ [.int .i64 1,↑tx,↑(),.int .i64 (k:Int)] rfl rfl ?cx2 ?cx3 ?cx4 ?_)
    case cx1=>simp;omega
    case cx2=>exact zez _ zs _ _ _ _
    case cx3=>exact zki _ _ _ _
    case cx4=>omega
    intro v' w8 hO hg _;replace hO:zaz (w.heap.size+1) 198 4 (acc++[(⟨1,tx,0,(k:Int)⟩:Tok)]).length (zan rowT (acc++[(⟨1,tx,0,(k:Int)⟩:Tok)])) w8 v':=by rw[List.length_append];exact hO
    obtain⟨L,hL⟩:∃L,acc++[(⟨1,tx,0,(k:Int)⟩:Tok)]=L:=⟨_,rfl⟩;rw[hL] at hO;have q:=HQ.out;rw[hL] at q;have HQ2:=zz q;have hL1:L.length=acc.length+1:=by rw[<-hL];simp
    obtain⟨A8,c8,rfl,_⟩:=hO.rd.sl_inv;have H8:=zz (Z7.out.grown hO hg);have hm8:zds w8 w.heap.size=e0:=H8.out.at'.next;have hL2:L.length<=acc.length+1:=zo
    clear hO hg hL q HQ Z7 O7 x0 x1 x2 x3 y3 z hL1;go_wp2;exact⟨⟨e0,f-1,L,A8,c8,zo,zo,zo,rfl,HQ2,H8⟩,zo⟩
   |false=>
    rw[hl] at KA;cases hd:zcM (bt s k) with
    |true=>
     rw[(HDD.out k).1] at hd;cases hd
    |false=>
     rw[hd] at KD
     by_cases h34:bt s k=34
     ·exact absurd h34 (HDD.out k).2.1
     ·have ht:zcZ s k=zln s k:=by unfold zcZ;rw[if_neg (by rw[hl];simp),if_neg (by rw[hd];simp),if_neg h34]
      have KT:=zz (zrc s hs w.heap.size k hks w2 Z2.out.at');rw[<-ht] at KT;have hn34:(((bt s k).toNat:Int) == 34)=false:=zco (n:=34) h34;clear ht hl hd h34;cases hx:zcZ s k with
      |error ce=>
       rw[hx] at q;obtain⟨T,hT⟩:=HRT.out;rw[hT] at q;cases q
      |ok p=>
       obtain⟨⟨kd,tx,nn,at'⟩,e0⟩:=p;have hok:=zeL hs hks hx;obtain⟨g1,g2,g3,_,_,_⟩:=hok;obtain rfl:at'=(k:Int):=g3;rw[hx] at q KT;have HQ:Hid (zfs s (f-1) e0 (acc++[⟨kd,tx,nn,k⟩])=r):=zz q;clear q hx;go_wp2_with fail;(with_reducible refine((KA).out w2).mono ?_);rintro e w' ⟨rfl,hw'⟩;subst w';go_wp2_with fail;(with_reducible refine((KD).out w2).mono ?_);rintro e w' ⟨rfl,hw'⟩;subst w';go_wp2_with fail;refine zi KT ?_;rintro e w4 ⟨hc,rfl,ha⟩;have H4:=Z2.out.call hc ha;clear KT;have x0:=H4.box.a 0 rfl;have x1:=H4.box.a 1 rfl;have x2:=H4.box.a 2 rfl;have x3:=H4.box.a 3 rfl;have z:=H4.box.fz;have H6:=(H4.filled ↑kd ↑tx ↑nn ↑()).at3 ↑k;have y3:(((((w4.setCell ⟨X,0,none⟩ ↑kd).setCell ⟨X,1,none⟩ ↑tx).setCell ⟨X,2,none⟩ ↑nn).setCell ⟨X,3,none⟩ ↑()).setCell ⟨X,3,none⟩ ↑k).cell? ⟨X,3,none⟩=some ↑k:=H6.box.cell 3;have H7:=H6.below ((Below.refl _ _).alloc (Nat.le_refl _) (.cells #[↑kd,↑tx,↑nn,.int .i64 (k:Int)] 198));have Z7:=zz H7;have O7:=zz H7.own.owned;have hs4:w.heap.size<w4.heap.size:=H4.at'.lt;clear H4 H6 H7 hc ha he HK hw2 hX d1;go_wp2_with (at_builtin;refine zba rowT znv Tryz.underlying146 rfl zo zo rfl _ _ rfl (w.heap.size+1) ?cx1 (.slice A acc.length c) acc rfl O7.out ⟨w4.heap.size,0,none⟩ 1 ⟨kd,tx,nn,k⟩ [↑kd,↑tx,↑nn,.int .i64 (k:Int)] rfl rfl ?cx2 ?cx3 ?cx4 ?_)
       case cx1=>simp;omega
       case cx2=>exact zez _ zs _ _ _ _
       case cx3=>exact zki _ _ _ _
       case cx4=>omega
       intro v' w8 hO hg _;replace hO:zaz (w.heap.size+1) 198 4 (acc++[(⟨kd,tx,nn,(k:Int)⟩:Tok)]).length (zan rowT (acc++[(⟨kd,tx,nn,(k:Int)⟩:Tok)])) w8 v':=by rw[List.length_append];exact hO
       obtain⟨L,hL⟩:∃L,acc++[(⟨kd,tx,nn,(k:Int)⟩:Tok)]=L:=⟨_,rfl⟩;rw[hL] at hO;have q:=HQ.out;rw[hL] at q;have HQ2:=zz q;have hL1:L.length=acc.length+1:=by rw[<-hL];simp
       obtain⟨A8,c8,rfl,_⟩:=hO.rd.sl_inv;have H8:=zz (Z7.out.grown hO hg);have hm8:zds w8 w.heap.size=e0:=H8.out.at'.next;have hL2:L.length<=acc.length+1:=zo
       clear hO hg hL q HQ Z7 O7 x0 x1 x2 x3 y3 z hL1;go_wp2;exact⟨⟨e0,f-1,L,A8,c8,zo,zo,zo,rfl,HQ2,H8⟩,zo⟩
theorem zsg (p0 p1 p2:Value) (w:World) :
 CallsD Tryz.prog 120 #[p0,p1,p2] .returning w λe u' w'=>e=.returned (.tuple #[])/\u'=.returning/\w'=w:=by
 refine callsD_of_wpS Tryz.func120 rfl λc₀ cs hu=>?_;apply wpS_seq;apply wpS_region;simp[wpOpsS,go_sem,recoverD,hu,Tryz.ntmps120,Exit.thenS];refine wpS_of_wp ?_;rw[show (#[p0,p1,p2]++((Array.replicate 14 undef).setIfInBounds 3 Value.nilIface).setIfInBounds 0 Value.nilIface:Array Value)=#[p0,p1,p2,.nilIface,undef,undef,.nilIface,undef,undef,undef,undef,undef,undef,undef,undef,undef,undef] from rfl];go_wp2;cases c₀
 simp_all [bodyPostS,results,Tryz.results120]
end Go.Proofs.YtcebmphappfjjaaGreatDoor
set_option maxHeartbeats 32000000
set_option maxRecDepth 100000
namespace Go.Proofs.YtcebmphappfjjaaGreatDoor
open Go.RowKit Go.MapKept
def zsi (z:Value) (L:List (ByteArray × Value)) (k:ByteArray):Value:=match fnd k L 0 with|some p=>.tuple #[p.2,.bool true]|none=>.tuple #[z,.bool false]
section
variable {P:Program} {T K E:TypeId} (hT:P.underlying T=some (.map K E)) (hK:P.underlying K=some .string)
include hT hK
theorem zdC {w:World} {m:Nat} {L:List (ByteArray × Value)} (h:zaN w m L) {z:Value} (hz:(zeroValue E).run P w=.ok z w) (k:ByteArray) :
 (Instr.lookup T (.map (some m)) ↑k true).run P w=.ok (zsi z L k) w:=by
 obtain⟨es,clock,hb,he⟩:=h;have hf:=zcO k es.toList L 0 he;have hfk:=run_findKey (P:=P) (w:=w) hK hf;have hck:∀b,(Instr.checkKey b 10000 K ↑k).run P w=.ok () w:=λb=>run_checkKey (P:=P) (w:=w) hK (k:=↑k) trivial b 9999;unfold zsi;cases hx:fnd k L 0 with
 |none=>
  rw[hx] at hfk;simp[Instr.lookup,run_underlying hT,MapKept.run_getObj_map hb,hck,hfk,hz]
 |some p=>
  rw[hx] at hfk;simp[Instr.lookup,run_underlying hT,MapKept.run_getObj_map hb,hck,hfk]
end
theorem znh {α:Type} (g:α->Value) (k:ByteArray):∀(L:List (ByteArray × α)) (i:Nat),(fnd k (L.map (λp=>(p.1,g p.2))) i).map Prod.snd=(L.find? (λp=>decide (p.1=k))).map (λp=>g p.2)
 |[],_=>rfl
 |p::r,i=>by
  rw[List.map_cons,fnd,List.find?_cons]
  by_cases h:k=p.1
  ·rw[if_pos h];simp[h]
  ·rw[if_neg h,znh g k r (i+1)];have:decide (p.1=k)=false:=decide_eq_false (λe=>h e.symm);rw[this]
theorem zgs (s:ByteArray):zsi ↑() zgA s=match zeH s with|some l=>.tuple #[.int .i64 (l:Int),.bool true]|none=>.tuple #[↑(),.bool false]:=by
 have h:=znh (λl:Nat=>Value.int .i64 (l:Int)) s zgv 0;unfold zsi zeH zgA;cases hf:fnd s (zgv.map (λp=>(p.1,Value.int .i64 (p.2:Int)))) 0 with
 |none=>
  rw[hf] at h;cases hg:zgv.find? (λp=>decide (p.1=s)) with
  |none=>rfl
  |some q=>rw[hg] at h;cases h
 |some p=>
  rw[hf] at h;cases hg:zgv.find? (λp=>decide (p.1=s)) with
  |none=>rw[hg] at h;cases h
  |some q=>
   rw[hg] at h;simp only[Option.map_some,Option.some.injEq] at h;simp only[Option.map_some];rw[h]
theorem zlK (w:World):(zeroValue 3).run Tryz.prog w=.ok ↑() w:=by kernel_rfl
theorem zlC {G:PG} {b:Nat} {w:World} {st:Ps} (h:PsAt G b w st) (s:ByteArray):(Instr.lookup 111 (.map (some G.m)) ↑s true).run Tryz.prog w=.ok (match zeH s with|some l=>.tuple #[.int .i64 (l:Int),.bool true]|none=>.tuple #[↑(),.bool false]) w:=by
 rw[<-zgs];exact zdC Tryz.underlying111 Tryz.underlying9 h.mp (zlK w) s
def But (lo g:Nat) (w:World) (q:Nat):Prop:=Bt lo w.heap.size q/\q≠g
structure IX (G:PG) (b:Nat) (w:World) (lo g:Nat) (W:World) (st:Ps) (x:Nd) (A:Option Addr) (c:Nat):Prop where
 own1:Own1 b w W
 ps:PsAt G b W st
 cel:zab W g #[.int .i64 x.kind,.string x.text,.int .i64 x.n,.int .i64 x.at',.slice A x.kids.length c] 49
 rd:Rd (But lo g W) W (ns x.kids) (.slice A x.kids.length c)
 box:zab W w.heap.size #[.int .i64 0,.string ⟨#[]⟩,.int .i64 0,.int .i64 0,.slice none 0 0] 49
 size:lo<=W.heap.size
theorem But.below {lo g:Nat} {w1 w2:World} (k:Below w1.heap.size w1 w2) {d:D} {v:Value} (h:Rd (But lo g w1) w1 d v):Rd (But lo g w2) w2 d v:=
 (h.below k (λ_ hq=>hq.1.2)).weaken (λ_ hq=>⟨⟨hq.1.1,Nat.lt_of_lt_of_le hq.1.2 k.size⟩,hq.2⟩)
theorem Own1.but {b:Nat} {w1 w2:World} (k:Own1 b w1 w2) {lo g:Nat} (hlo:b<lo) {d:D} {v:Value} (h:Rd (But lo g w1) w1 d v):Rd (But lo g w2) w2 d v:=
 (Chg.rd k (ok:=But lo g w1) (λq hq=>⟨hq.1.2,λe=>by have:=hq.1.1;omega⟩) h).weaken (λ_ hq=>⟨⟨hq.1.1,Nat.lt_of_lt_of_le hq.1.2 k.size⟩,hq.2⟩)
theorem But.of {lo lo' g:Nat} {w:World} (hlo:lo<=lo') (hg:g<lo') {d:D} {v:Value} (h:Rd (Bt lo' w.heap.size) w d v):Rd (But lo g w) w d v:=h.weaken (λ_ hq=>⟨⟨Nat.le_trans hlo hq.1,hq.2⟩,by have:=hq.1;omega⟩)
theorem But.off {lo g:Nat} {w:World} {d:D} {v:Value} (h:Rd (But lo g w) w d v):Rd (Bt lo w.heap.size) w d v:=h.weaken (λ_ hq=>hq.1)
theorem zdg (W:World) (g:Nat) (u0 u1 u2 u3 u4:Value):Chg (λk=>k=g) W (((((W.setCell ⟨g,0,none⟩ u0).setCell ⟨g,1,none⟩ u1).setCell ⟨g,2,none⟩ u2).setCell ⟨g,3,none⟩ u3).setCell ⟨g,4,none⟩ u4):=
 ((((((Chg.refl (λk=>k=g) W).setCell (p:=⟨g,0,none⟩) (.inl rfl) u0).setCell (p:=⟨g,1,none⟩) (.inl rfl) u1).setCell (p:=⟨g,2,none⟩) (.inl rfl) u2).setCell (p:=⟨g,3,none⟩) (.inl rfl) u3).setCell (p:=⟨g,4,none⟩) (.inl rfl) u4)
end Go.Proofs.YtcebmphappfjjaaGreatDoor
set_option maxHeartbeats 32000000
set_option maxRecDepth 100000
namespace Go.Proofs.YtcebmphappfjjaaGreatDoor
open Go.RowKit
theorem zbc.appendMany {x B:Nat} {e:TypeId} {k n m:Nat} {f f':Nat->Nat->D} {w w':World} {v:Value} {xs news:List Value} {g cap:Nat} (h:zbc x B e k n f w v) (hxl0:x<w.heap.size) (hown:w.ownsRow B e k v n xs)
 (hown':w'.ownsRow B e k (.slice (some ⟨g,0,none⟩) (n+m) cap) (n+m) (xs++news)) (hg:w.grownBy w' v.ownBlock) (hat:v.ownBlock=some g\/g=w.heap.size) (hk:news.length=m*k)
 (hf:∀a,a<n->f' a=f a) (hnew:∀i j u,i<m->j<k->news[i*k+j]?=some u->Rd (λb=>(Bt B w.heap.size b/\some b≠v.ownBlock)/\b≠x) w (f' (n+i) j) u) :
 zbc x B e k (n+m) f' w' (.slice (some ⟨g,0,none⟩) (n+m) cap):=by
 have hxl:xs.length=n*k:=hown.1;have hcells:=hown'.cells (g:=g) rfl;rcases hown'.2 with ⟨hv,_⟩|⟨g',cap',cur,hv,hBg,hcur,hnc,hc,hsz,_⟩
 ·injection hv with hv;cases hv
 injection hv with hv1 _ hv3;injection hv1 with hv1;injection hv1 with hv1;subst hv1 hv3
 have keep:∀{d:D} {u:Value},Rd (λb=>(Bt B w.heap.size b/\some b≠v.ownBlock)/\b≠x) w d u->Rd (λb=>Bt B w'.heap.size b/\b≠g/\b≠x) w' d u:=λhd=>
  (hd.keep (λb o hb=>World.cell?_of_block (hg.block b hb.1.1.2 hb.1.2))).weaken (λb hb=>⟨⟨hb.1.1.1,Nat.lt_of_lt_of_le hb.1.1.2 hg.size⟩,λhbg=>by
   subst hbg;rcases hat with h1|h1
   ·exact hb.1.2 h1.symm
   ·have:=hb.1.1.2;omega,hb.2⟩)
 have hgx:g≠x:=by
  rcases hat with h1|h1
  ·rcases h with ⟨h2,_⟩|⟨g0,c0,h2,_,hx0,_⟩
   ·rw[h2] at h1;cases h1
   ·rw[h2] at h1;have:g0=g:=Option.some.inj h1;omega
  ·omega
 refine .inr ⟨g,cap,rfl,hBg,hgx,hnc,hc,⟨cur,hcur,hsz⟩,λa ha j hj=>?_⟩;rcases Nat.lt_or_ge a n with han|han
 ·have hak:=zdO (k:=k) han;have hu:xs[a*k+j]?=some (xs[a*k+j]'(zo)):=List.getElem?_eq_getElem zo;have hc1:=hcells (a*k+j) _ ((List.getElem?_append_left zo).trans hu);rw[Addr.add_lit,Nat.zero_add] at hc1;refine⟨_,hc1,?_⟩;rw[hf a han];rcases h with ⟨_,h0⟩|⟨g0,c0,rfl,_,_,_,_,_,hr⟩
  ·omega
  obtain⟨u,hcu,hd⟩:=hr a han j hj;have hc0:=hown.cells (g:=g0) rfl (a*k+j) _ hu;rw[Addr.add_lit,Nat.zero_add,hcu] at hc0;have he:=Option.some.inj hc0;rw[<-he]
  exact keep (hd.weaken (λb hb=>⟨⟨hb.1,λh=>by
   have:some b=some g0:=h;injection this with this;exact hb.2.1 this⟩,hb.2.2⟩))
 ·obtain⟨i,rfl⟩:∃i,a=n+i:=⟨a-n,zo⟩;have him:i<m:=zo
  have hik:=zdO (k:=k) him;have hd:(n+i)*k+j-n*k=i*k+j:=by rw[Nat.add_mul];omega
  have hge:n*k<=(n+i)*k+j:=by rw[Nat.add_mul];omega
  have hu:news[i*k+j]?=some (news[i*k+j]'(zo)):=List.getElem?_eq_getElem zo;have hc1:=hcells ((n+i)*k+j) _ (by rw[List.getElem?_append_right zo,hxl,hd];exact hu);rw[Addr.add_lit,Nat.zero_add] at hc1;exact⟨_,hc1,keep (hnew i j _ him hj hu)⟩
theorem zbc.own_ne {x B:Nat} {e:TypeId} {k n:Nat} {f:Nat->Nat->D} {w:World} {v:Value} (h:zbc x B e k n f w v) (g:Nat) (hg:v.ownBlock=some g):B<=g/\g≠x/\g<w.heap.size:=by
 rcases h with ⟨rfl,_⟩|⟨g0,c,rfl,h1,h2,_,_,h5,_⟩
 ·cases hg
 ·obtain rfl:g0=g:=Option.some.inj hg;exact⟨h1,h2,h5.lt⟩
structure IZ (G:PG) (b:Nat) (w:World) (X:Nat) (cx:Array Value) (W:World) (st:Ps):Prop where
 own1:Own1 b w W
 ps:PsAt G b W st
 cel:zab W X cx 49
 box:zab W w.heap.size #[.int .i64 0,.string ⟨#[]⟩,.int .i64 0,.int .i64 0,.slice none 0 0] 49
section
variable {G:PG} {b:Nat} {w:World} {X:Nat} {cx:Array Value} {W W':World} {st st':Ps}
theorem IZ.below (h:IZ G b w X cx W st) (k:Below W.heap.size W W'):IZ G b w X cx W' st:=⟨h.own1.of_below k,h.ps.below k,zaa k h.cel,zaa k h.box⟩
theorem IZ.call (h:IZ G b w X cx W st) (hX:¬X=b) (hb:b<w.heap.size) (k:Own1 b W W') (p:PsAt G b W' st'):IZ G b w X cx W' st':=⟨h.own1.trans k,p,h.cel.keep k hX,h.box.keep k zo⟩
theorem IZ.grown (h:IZ G b w X cx W st) (hb:b<w.heap.size) (hlim:G.lim<=w.heap.size) {lo k n:Nat} {e:TypeId} {f:Nat->Nat->D} {v:Value} (hO:zbc X lo e k n f W v) (hlo:w.heap.size<lo) (hg:W.grownBy W' v.ownBlock):IZ G b w X cx W' st:=by
 have hch:Chg (λk=>lo<=k) W W':=Chg.of_grown hg (λk hk=>(hO.own_ne k hk).1);exact⟨Chg.trans h.own1 hch (λj hj=>.inr zo),h.ps.keep hch (λk hk=>⟨zo,zo⟩),zji hg h.cel (λq hq=>(hO.own_ne q hq).2.1),h.box.keep hch zo⟩
end
theorem IX.filled {G:PG} {b:Nat} {w W W':World} {lo X:Nat} {cx:Array Value} {st:Ps} {A:Option Addr} {n c:Nat} {kd nn at':Int} {s:ByteArray} {l:List Nd} (h:IZ G b w X cx W st) (hb:b<w.heap.size) (hlim:G.lim<=w.heap.size) (hlo:w.heap.size<lo) (hX:lo<=X) (hR:Rd (But lo X W) W (ns l) (.slice A n c)) (hn:n=l.length)
 (hW:W'=(((((W.setCell ⟨X,0,none⟩ ↑kd).setCell ⟨X,1,none⟩ ↑s).setCell ⟨X,2,none⟩ ↑nn).setCell ⟨X,3,none⟩ ↑at').setCell ⟨X,4,none⟩ (.slice A n c))) (hc:∃u0 u1 u2 u3 u4,cx=#[u0,u1,u2,u3,u4]) :
 IX G b w lo X W' st (.mk kd s nn at' l) A c:=by
 subst hn;obtain⟨u0,u1,u2,u3,u4,rfl⟩:=hc;have hcel:=zex ↑kd ↑s ↑nn ↑at' (.slice A l.length c) h.cel;have hch:=zdg W X ↑kd ↑s ↑nn ↑at' (.slice A l.length c);rw[<-hW] at hcel hch;have hlt:=h.cel.lt;exact⟨Chg.trans h.own1 hch (λj hj=>.inr zo),h.ps.keep hch (λk hk=>⟨zo,zo⟩),hcel,(hch.rd (ok:=But lo X W) (λq hq=>⟨hq.1.2,hq.2⟩) hR).weaken (λq hq=>⟨⟨hq.1.1,Nat.lt_of_lt_of_le hq.1.2 hch.size⟩,hq.2⟩),h.box.keep hch zo,by have:=hch.size;omega⟩
end Go.Proofs.YtcebmphappfjjaaGreatDoor
