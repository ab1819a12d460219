/- Conditions: those in each statement. -/
import Derived.Test.YtcebmphappfjjaaGreatDoorV18
import Derived.Test.YtcebmphappfjjaaGreatDoorV16
import Derived.Laws.MakeOwn
import Derived.Laws.OwnMore
set_option maxHeartbeats 32000000
set_option maxRecDepth 100000
namespace Go.Proofs.YtcebmphappfjjaaGreatDoor
open Go.RowKit Go.MapKept
theorem ziW {w W:World} {lb:Nat->Nat} {s:Lq} {An Ar:Option Addr} {cn cr:Nat} {vs:List Value} (i:Nat) (h:LpSt w W lb s An cn Ar cr vs) (hi:i<s.fin.length) (hr:s.ready.length<=2097152) (hnew:∀q,W.heap.size<=q->lb q=1) :
 Calls Tryz.prog 133 #[↑i,.pointer (some ⟨w.heap.size+2,0,none⟩),.pointer (some ⟨w.heap.size+4,0,none⟩)] W (λe W'=>e=.returned (.tuple #[])/\∃A' c',LpSt w W' lb (zaV s i) An cn A' c' vs/\Chg (Mv w.heap.size lb) W W'):=by
 have x0:W.cell? ⟨w.heap.size+2,0,none⟩=some (.slice (some ⟨w.heap.size+1,0,none⟩) s.fin.length s.fin.length):=h.fbx.cell 0;have x1:W.cell? ⟨w.heap.size+1,i,none⟩=some (.bool s.fin[i]):=by rw[h.fin.cell];simp[zeB,hi]
 have hg:s.fin.getD i false=s.fin[i]:=by simp[List.getD,List.getElem?_eq_getElem hi]
 have hii:(i:Int)<s.fin.length:=zo
 have hs5:=h.rbx.lt;cases hb:s.fin[i] with
 |true=>
  rw[hb] at x1 hg;have e:zaV s i=s:=by unfold zaV;rw[if_pos hg]
  rw[e];have Z:=zz h;clear h hb hg e hnew;go_in;go_wp2_with fail
  first|go_end0|refine bodyPost_ret (results_none rfl _ _ _) rfl ?_
  first|exact⟨rfl,Ar,cr,Z.out,Chg.refl _ _⟩|exact⟨⟨Ar,cr,Z.out⟩,Chg.refl _ _⟩
 |false=>
  rw[hb] at x1 hg;have e:zaV s i={s with fin:=s.fin.set i true,ready:=s.ready++[i] }:=by unfold zaV;rw[if_neg (by rw[hg];simp)]
  rw[e];obtain⟨L,hL⟩:=zn (s.ready++[i]);rw[hL];have HL:=zz hL;have fz:=h.fin.fz;have Z1:=zz (h.finSet i);have HC1:Hid (Chg (Mv w.heap.size lb) W (W.setCell ⟨w.heap.size+1,i,none⟩ (.bool true))):=zz ((Chg.refl _ W).setCell (p:=⟨w.heap.size+1,i,none⟩) (.inl ⟨by show w.heap.size<=w.heap.size+1;omega,.inl (by show w.heap.size+1<_;omega)⟩) _);obtain⟨w1,h1⟩:∃V,W.setCell ⟨w.heap.size+1,i,none⟩ (.bool true)=V:=⟨_,rfl⟩;have s1:w1.heap.size=W.heap.size:=by rw[<-h1];exact World.size_setCell ..
  rw[h1] at Z1 HC1;have HN:Hid (∀q,w1.heap.size<=q->lb q=1):=zz (by rw[s1];exact hnew);have hs6:w.heap.size+4<w1.heap.size:=zo
  have x2:w1.cell? ⟨w.heap.size+2,0,none⟩=some (.slice (some ⟨w.heap.size+1,0,none⟩) s.fin.length s.fin.length):=by have:=Z1.out.fbx.cell 0;simpa using this
  have x4:w1.cell? ⟨w.heap.size+4,0,none⟩=some (.slice Ar s.ready.length cr):=Z1.out.rbx.cell 0;have ba:=zag w1 (.cells #[↑i] 3);have Z2:=zz (Z1.out.below ba);have sl2:=ba.size;have sl1:=Z1.out.low.size;clear h hb hg e hnew ba s1 hL;go_in;go_wp2_with (at_builtin;refine zaJ rowI zsG Tryz.underlying107 rfl zo zo rfl _ _ rfl (LB w.heap.size lb 1) ⟨zo,HN.out _ zo⟩ (.slice Ar s.ready.length cr) s.ready rfl Z2.out.o1 ⟨w1.heap.size,0,none⟩ 1 i [↑i] rfl rfl ?a2 ?a3 ?a4 ?_)
  case a2=>exact zaI _ zr _ _
  case a3=>
   intro j u hj;cases j with
   |zero=>simp at hj;exact hj.symm
   |succ j=>simp at hj
  case a4=>omega
  intro v' w3 hO hg _;replace hO:OwnS (LB w.heap.size lb 1) 3 1 (s.ready++[i]).length (zan rowI (s.ready++[i])) w3 v':=by rw[List.length_append];exact hO
  rw[HL.out] at hO;obtain⟨A9,c9,rfl,_⟩:=hO.owned0.rd.sl_inv;have hch:Chg (LB w.heap.size lb 1) _ w3:=Chg.of_grown hg (λq hq=>(Z2.out.o1.below_own q hq).1);have hrb:=Z2.out.rbx.keep hch (λhq=>by have:=hq.1;omega);have y4:w3.cell? ⟨w.heap.size+4,0,none⟩=some (.slice Ar s.ready.length cr):=hrb.cell 0;have z4:=hrb.fz;have Z4:=zz (Z2.out.grownR hO hg);have H4:Hid (Chg (Mv w.heap.size lb) W (w3.setCell ⟨w.heap.size+4,0,none⟩ (.slice A9 L.length c9))):=zz (((HC1.out.thenBelow ((Below.refl _ _).alloc (Nat.le_refl _) _)).trans (hch.mono (λq hq=>ztL hq zo)) (λ_ hq=>.inl hq)).setCell (p:=⟨w.heap.size+4,0,none⟩) (.inl ⟨by show w.heap.size<=w.heap.size+4;omega,.inl (by show w.heap.size+4<_;omega)⟩) _);clear hO hg hch hrb HL;go_wp2_with fail
  first|go_end0|refine bodyPost_ret (results_none rfl _ _ _) rfl ?_
  exact⟨rfl,⟨A9,c9,Z4.out⟩,H4.out⟩
def ztg (t:Ty):Prop:=∀(A:Option Addr) (c:Nat) (w:World),Rd (Lt w.heap.size) w (ys t.args) (.slice A t.args.length c)->
 Calls Tryz.prog 132 #[.agg #[.int .i64 t.kind,.string t.name,.slice A t.args.length c]] w λe w'=>e=.returned (.bool (zce t))/\Below w.heap.size w w'
theorem ziB (t:Ty) (r:List Ty):zbR (t::r)=(zce t&&zbR r):=by rw[zbR]
theorem zjQ:zbR []=true:=by rw[zbR]
theorem zsz (k:Int) (nm:ByteArray) (l:List Ty) (IH:∀t∈l,ztg t):ztg (.mk k nm l):=by
 intro A c w h;replace h:Rd (Lt w.heap.size) w (ys l) (.slice A l.length c):=h
 show Calls Tryz.prog 132 #[.agg #[↑k,↑nm,.slice A l.length c]] w λe w'=>e=.returned (.bool (zce (.mk k nm l)))/\Below w.heap.size w w'
 rw[zce];have hl:=zqb h;have hn:l.length<=9223372036854775807:=Nat.le_trans hl.2.1 hl.2.2;obtain⟨w1,h1,b1,c1⟩:=zaj w #[↑k,↑nm,.slice A l.length c] 70;have x0:=c1.a 0 rfl;have x2:=c1.a 2 rfl;have HB1:=zz b1;have HR:=zz h;have HI:=zz IH;clear b1 c1 hl h IH
 by_cases h8:k=8
 ·subst h8;rw[decide_eq_true rfl];go_in;go_wp2;go_ret;exact⟨rfl,HB1.out⟩
 ·rw[decide_eq_false h8];have e8:(k == 8)=false:=by rw[beq_eq_false_iff_ne];exact h8
  obtain⟨r,hr⟩:=zn (zbR l);have HA0:Hid (zbR (l.drop 0)=r):=zz hr;rw[hr];simp only[Bool.not_false,Bool.true_and];clear hr h8;go_in;go_wp2;clear h1 x0 x2
  go_loopw [11] (λs wr=>∃i:Nat,i<=l.length/\s=↑i/\Hid (zbR (l.drop i)=r)/\Hid (Below w.heap.size w wr)) (λs _=>l.length-(intOf s).toNat)
  case atStart=>exact⟨0,zo,rfl,HA0,HB1⟩
  case round=>
   clear HA0 HB1;obtain⟨i,hi,rfl,HA,HB⟩:=hrel;have sB:=HB.out.size
   by_cases hlt:i<l.length
   ·obtain⟨b,off,y,e,hlb,hget,A',c',p0,p1,p2,r5⟩:=znN (HR.out.belows HB.out) hlt;subst e;have hin:(i:Int)<l.length:=zo
    have q:=HA.out;rw[zal hget,ziB] at q;obtain⟨w3,hw3,hb3,hx3⟩:=zaj wr #[↑y.kind,↑y.name,.slice A' y.args.length c'] 70;have q0:=hx3.cell 0;have q1:=hx3.cell 1;have q2:=hx3.cell 2;have HB3:=zz (zac HB.out hb3 HB.out.size);have KU:=zz (HI.out y (List.mem_of_getElem? hget) A' c' w3 (r5.belows hb3));clear r5 hb3 hx3 HA HB hget hlb;cases hu:zce y with
    |false=>
     rw[hu] at q KU;have HQ:Hid (false=r):=zz q;clear q hu;go_wp2_with fail;refine zi KU ?_;rintro e w4 ⟨rfl,hb4⟩;have HB4:=zz (zac HB3.out hb4 HB3.out.size);clear hb4 q0 q1 q2;go_wp2;go_ret;exact⟨by rw[<-HQ.out];rfl,HB4.out⟩
    |true=>
     rw[hu] at q KU;have HQ:Hid (zbR (l.drop (i+1))=r):=zz (by simpa using q);clear q hu;go_wp2_with fail;refine zi KU ?_;rintro e w4 ⟨rfl,hb4⟩;have HB4:=zz (zac HB3.out hb4 HB3.out.size);clear hb4 q0 q1 q2;go_wp2;exact⟨⟨i+1,zo,by go_num,HQ,HB4⟩,by simp[intOf];omega⟩
   ·have HQ:Hid (true=r):=zz (by
     have q:=HA.out;rw[List.drop_eq_nil_of_le zo,zjQ] at q;exact q)
    clear HA;go_wp2;go_ret;exact⟨by rw[<-HQ.out];rfl,HB.out⟩
theorem zgI:∀t:Ty,ztg t
 |.mk k n a=>zsz k n a (λx _hx=>zgI x)
def FtB (w:World) (p:Option (Int × Int)) (e:Ending) (w':World):Prop:=Below w.heap.size w w'/\match p with
 |some a=>e=.returned (.tuple #[.agg #[.int .i64 a.1,.int .i64 a.2],.bool true])
 |none=>e=.returned (.tuple #[.agg #[.int .i64 0,.int .i64 0],.bool false])
structure FbSt (w W:World):Prop where
 low:Below w.heap.size w W
 res:zab W w.heap.size #[.int .i64 0,.int .i64 0] 117
theorem FbSt.below {w W W':World} (h:FbSt w W) (k:Below W.heap.size W W'):FbSt w W':=⟨zac h.low k h.low.size,zaa k h.res⟩
theorem FbSt.first (w:World):FbSt w (w.alloc (.cells #[↑(),↑()] 117)):=⟨zag w _,zab.new w _ _⟩
theorem ziR {fn:Func} (hf:fn.results=#[.cell 2 117,.tmp 3]) {w W:World} (e x:Int) {p:Option (Int × Int)} (h:FbSt w W) (hp:some (e,x)=p) {a:Act} (h2:a.tmps.getD 2 undef=.pointer (some ⟨w.heap.size,0,none⟩)) (h3:a.tmps.getD 3 undef=.bool true) (hd:a.defers=[]) :
 bodyPost Tryz.prog fn (FtB w p) Exit.ret a ((W.setCell ⟨w.heap.size,0,none⟩ ↑e).setCell ⟨w.heap.size,1,none⟩ ↑x):=by
 have:=zah (P:=Tryz.prog) hf a.tmps _ w.heap.size _ _ (0,0) _ h2 (zbM ↑e ↑x h.res) Tryz.underlying117 rfl zbN;rw[h3] at this;subst hp;exact bodyPost_ret this hd ⟨h.low.trans ((zbE _ _ _ _).below h.low.size (λq hq=>by omega)),rfl⟩
theorem zhx {fn:Func} (hf:fn.results=#[.cell 2 117,.tmp 3]) {w W:World} {p:Option (Int × Int)} (h:FbSt w W) (hp:none=p) {a:Act} (h2:a.tmps.getD 2 undef=.pointer (some ⟨w.heap.size,0,none⟩)) (h3:a.tmps.getD 3 undef=.bool false) (hd:a.defers=[]) :
 bodyPost Tryz.prog fn (FtB w p) Exit.ret a ((W.setCell ⟨w.heap.size,0,none⟩ ↑()).setCell ⟨w.heap.size,1,none⟩ ↑()):=by
 have:=zah (P:=Tryz.prog) hf a.tmps _ w.heap.size _ _ (0,0) _ h2 (zbM ↑() ↑() h.res) Tryz.underlying117 rfl zbN;rw[h3] at this;subst hp;exact bodyPost_ret this hd ⟨h.low.trans ((zbE _ _ _ _).below h.low.size (λq hq=>by omega)),rfl⟩
theorem zfS {fn:Func} (hf:fn.results=#[.cell 2 117,.tmp 3]) {w W:World} {p:Option (Int × Int)} (h:FbSt w W) (hp:none=p) {a:Act} (h2:a.tmps.getD 2 undef=.pointer (some ⟨w.heap.size,0,none⟩)) (h3:a.tmps.getD 3 undef=.bool false) (hd:a.defers=[]) :
 bodyPost Tryz.prog fn (FtB w p) Exit.ret a W:=by
 have:=zah (P:=Tryz.prog) hf a.tmps _ w.heap.size _ _ (0,0) _ h2 h.res Tryz.underlying117 rfl zbN;rw[h3] at this;subst hp;exact bodyPost_ret this hd ⟨h.low,rfl⟩
theorem zfX {P:Program} (t e:TypeId) (i:TypeInfo) (z:Value) (ht:P.underlying t=some (.slice e)) (hi:P.info? e=some i) (hz:i.zero=some z)
 (kl kc:IntKind) (n c:Nat) (hnc:n<=c) (hbytes:i.bytes*c<=281474976710656) (h63:c<=9223372036854775807) (w:World) :
 (Instr.makeSlice t (.int kl (n:Int)) (.int kc (c:Int))).run P w=.ok (.slice (some ⟨w.heap.size,0,none⟩) n c) (w.alloc (.cells (madeCells z.cells (c*i.size)) e)):=by
 have hb:(i.bytes:Int)*(c:Int)<=281474976710656:=by
  have h:((i.bytes*c:Nat):Int)<=281474976710656:=zo
  rwa [Int.natCast_mul] at h
 have hr:=run_make (P:=P) w t e i z ht hi hz kl kc n c zo zo hb zo;simp only[Int.toNat_natCast] at hr;exact hr
theorem zud:(Tryz.prog.info? 4).map (λi=>(i.zero,i.size,i.bytes))=some (some (.bool false),1,1):=by kernel_rfl
theorem ztG:(Tryz.prog.info? 107).map (λi=>(i.zero,i.size,i.bytes))=some (some (.slice none 0 0),1,24):=by kernel_rfl
theorem znd (z:Value) (n:Nat):madeCells #[z] n=(List.replicate n z).toArray:=by
 apply Array.toList_inj.1;rw[toList_madeCells_one]
theorem zoU (n:Nat) (hn:n<=2097152) (W:World):(Instr.makeSlice 163 (.int .i64 (n:Int)) (.int .i64 (n:Int))).run Tryz.prog W=.ok (.slice (some ⟨W.heap.size,0,none⟩) n n) (W.alloc (.cells (zeB (List.replicate n false)) 4)):=by
 obtain⟨ib,hbi,hb0,hb1,hb2⟩:=info_parts zud;have:=zfX (P:=Tryz.prog) 163 4 ib _ Tryz.underlying163 hbi hb0 .i64 .i64 n n (Nat.le_refl _) (by rw[hb2];omega) zo W;rw[hb1,Nat.mul_one,show (Value.bool false).cells=#[.bool false] from rfl,znd] at this;rw[this];unfold zeB;rw[List.map_replicate]
theorem zqn (n:Nat) (hn:n<=2097152) (W:World):(Instr.makeSlice 165 (.int .i64 (n:Int)) (.int .i64 (n:Int))).run Tryz.prog W=.ok (.slice (some ⟨W.heap.size,0,none⟩) n n) (W.alloc (.cells (List.replicate n (.slice none 0 0)).toArray 107)):=by
 obtain⟨ib,hbi,hb0,hb1,hb2⟩:=info_parts ztG;have:=zfX (P:=Tryz.prog) 165 107 ib _ Tryz.underlying165 hbi hb0 .i64 .i64 n n (Nat.le_refl _) (by rw[hb2];omega) zo W;rw[hb1,Nat.mul_one,show (Value.slice none 0 0).cells=#[.slice none 0 0] from rfl,znd] at this;exact this
section
variable {ok:Nat->Prop} {W:World}
theorem zuK {cs:List (List Nd)} {A:Option Addr} {n c k:Nat} (h:Rd ok W (slG 1 ziF cs) (.slice A n c)) (hk:k<cs.length):∃b off x A5 c5,A=some ⟨b,off,none⟩/\ok b/\cs[k]?=some x/\W.cell? ⟨b,off+k,none⟩=some (.slice A5 x.length c5)/\Rd ok W (ns x) (.slice A5 x.length c5):=by
 obtain⟨A0,c0,e,_,_,h3⟩:=h.sl_inv;injection e with e1 e2 e3;subst e1;obtain⟨b,off,rfl,hb,hr⟩:=h3 zo;have hx:cs[k]?=some cs[k]:=List.getElem?_eq_getElem hk;obtain⟨u,hu,hd⟩:=hr k hk 0 zo;rw[zas hx] at hd;have hd':Rd ok W (ns cs[k]) u:=hd;obtain⟨A5,c5,e5,_⟩:=hd'.sl_inv;have e6:u=.slice A5 cs[k].length c5:=e5;subst e6;exact⟨b,off,cs[k],A5,c5,rfl,hb,hx,by simpa using hu,hd'⟩
theorem zpx {S:Nat->Prop} {r:List Nat} {A:Option Addr} {c k:Nat} (h:OwnS S 3 1 r.length (zan rowI r) W (.slice A r.length c)) (hk:k<r.length):∃g,A=some ⟨g,0,none⟩/\r.length<=c/\c<=9223372036854775807/\W.cell? ⟨g,k,none⟩=some (.int .i64 (r[k]:Int)):=by
 rcases h with ⟨h1,h2⟩|⟨g,c',h1,h2,h3,h4,h5,h6⟩
 ·omega
 ·injection h1 with e1 e2 e3;subst e1 e3;obtain⟨u,hu,hd⟩:=h6 k hk 0 zo;rw[zas (List.getElem?_eq_getElem hk)] at hd;have e:u=.int .i64 (r[k]:Int):=hd;subst e;exact⟨g,rfl,h3,h4,by simpa using hu⟩
end
theorem zov {w:World} {m:Nat} {l:List Nd} (h:zaN w m (typM l 0)) (k:ByteArray):(Instr.lookup 111 (.map (some m)) ↑k false).run Tryz.prog w=.ok (.int .i64 (zeA l k:Int)) w:=by
 have:=zfy (P:=Tryz.prog) (T:=111) Tryz.underlying111 Tryz.underlying9 h (z:=↑()) zk k
 rwa [zrz] at this
def msr (B:Nat) (W:World):Nat:=(match W.heap[B+1]? with
 |some (.cells cs _ _)=>cs.toList.countP (λv=>match v with|.bool false=>true|_=>false)
 |_=>0)+(match W.cell? ⟨B+4,0,none⟩ with|some (.slice _ n _)=>n|_=>0)
theorem zsI {w W:World} {lb:Nat->Nat} {s:Lq} {An Ar:Option Addr} {cn cr:Nat} {vs:List Value} (h:LpSt w W lb s An cn Ar cr vs):msr w.heap.size W=s.fin.count false+s.ready.length:=by
 unfold msr;rw[show W.heap[w.heap.size+1]?=_ from h.fin,h.rbx.cell]
 show (zeB s.fin).toList.countP _+s.ready.length=_
 congr 1
 unfold zeB;rw[List.countP_map,List.count]
 congr 1
 funext b
 cases b<;>rfl
theorem LpSt.start {w:World} {l:List Nd} {W:World} (lb:Nat->Nat) (low:Below w.heap.size w W) (c0:zab W w.heap.size #[↑(),↑()] 117)
 (c1:zab W (w.heap.size+1) (zeB (List.replicate l.length false)) 4) (c2:zab W (w.heap.size+2) #[.slice (some ⟨w.heap.size+1,0,none⟩) l.length l.length] 163)
 (c3:zab W (w.heap.size+3) (List.replicate l.length (.slice none 0 0)).toArray 107) (c4:zab W (w.heap.size+4) #[.slice none 0 0] 107):LpSt w W lb (zfA l) none 0 none 0 (List.replicate l.length (.slice none 0 0)):=by
 refine⟨low,c0,c1,?_,⟨c3,by simp[zfA],λj r hj=>?_⟩,c4,OwnS.nil _ _ _ _ _,OwnS.nil _ _ _ _ _⟩
 ·show zab _ _ #[.slice _ (List.replicate l.length false).length (List.replicate l.length false).length] _
  rw[List.length_replicate];exact c2
 ·have hj:(List.replicate l.length ([]:List Nat))[j]?=some r:=hj;rw[List.getElem?_replicate] at hj
  split at hj
  ·rename_i h;obtain rfl:=Option.some.inj hj;exact⟨none,0,by rw[List.getElem?_replicate,if_pos h];rfl,OwnS.nil _ _ _ _ _⟩
  ·cases hj
theorem zpm (l:List Nd):LqOk l.length 0 (zfA l):=by
 refine⟨by simp[zfA],⟨by simp[zfA],λr hr=>?_⟩,(λd hd=>by cases hd),(λi hi=>by cases hi),?_,Nat.le_refl _⟩
 ·have:r=[]:=List.eq_of_mem_replicate hr;subst this;exact⟨Nat.le_refl _,λc hc=>by cases hc⟩
 ·show (List.replicate l.length false).count false+0<=_
  have:=List.count_le_length (a:=false) (l:=List.replicate l.length false);rw[List.length_replicate] at this;omega
def lpF (F:List Bool):List Nd->Nat->Option Int
 |[],_=>none
 |n::r,i=>if (n.kind=2\/n.kind=3)/\F.getD i false=false then some n.at' else lpF F r (i+1)
theorem zsK (F:List Bool):∀(l:List Nd) (i:Nat),((l.zipIdx i).find? (λp=>decide ((p.1.kind=2\/p.1.kind=3)/\F.getD p.2 false=false))).map (λp=>p.1.at')=lpF F l i
 |[],_=>rfl
 |n::r,i=>by
  rw[List.zipIdx_cons,List.find?_cons,lpF]
  by_cases h:(n.kind=2\/n.kind=3)/\F.getD i false=false
  ·rw[if_pos h,decide_eq_true h];rfl
  ·rw[if_neg h,decide_eq_false h];exact zsK F r (i+1)
theorem zql (l:List Nd):zfW l=lpF (zgn l) l 0:=zsK (zgn l) l 0
theorem zmC {f i n:Nat} {s:Lq} (h:s.ready.length=n+1) (hi:s.ready[n]?=some i):zdW (f+1) s=zdW f ((s.wait.getD i []).foldl hitQ {s with ready:=s.ready.dropLast}):=by
 have:s.ready.getLast?=some i:=by rw[List.getLast?_eq_getElem?,h];exact hi
 rw[zdW,this]
theorem zmg {s:Lq} (h:s.ready=[]):∀f,zdW f s=s
 |0=>rfl
 |f+1=>by rw[zdW,h];rfl
theorem LqOk.take {n b:Nat} {s:Lq} (h:LqOk n b s):LqOk n b {s with ready:=s.ready.dropLast}:=by
 refine⟨h.fl,h.wt,h.ow,λi hi=>h.rd i (List.dropLast_subset _ hi),?_,h.nl⟩;have:=h.ct
 show s.fin.count false+s.ready.dropLast.length<=n
 rw[List.length_dropLast];omega
def rgP (n:Nd):Bool:=decide (n.kind=6/\(101<n.n\/n.n=1))
def ntF (n:Nd):Bool:=decide (n.kind≠5)
def stP (t:Nd):Option Int:=if zce (zfu t)=true then none else some t.at'
def zkh (ts acs:List ByteArray) (l:List Nd):Option Int:=(l.flatMap zca).findSome? (zbA ts acs)
theorem zjO {n:Nd} (h:0<n.kids.length):kid0 n∈n.kids:=by
 unfold kid0;cases hk:n.kids with
 |nil=>rw[hk] at h;simp at h
 |cons a r=>simp
theorem znf (n:Nd) (hk:zeE n.kids) (t:Nd) (h:t∈zca n):t∈n.kids\/(∃k∈n.kids,t∈k.kids)\/∃k∈n.kids,∃f∈k.kids,t∈f.kids:=by
 rw[znc,List.mem_flatMap] at h;obtain⟨k,hkm,ht⟩:=h;unfold sgOf at ht
 split at ht
 ·rw[List.mem_singleton] at ht;subst ht;exact .inr (.inl ⟨k,hkm,zjO (hk.fld k hkm (by assumption))⟩)
 split at ht
 ·exact .inr (.inl ⟨k,hkm,ht⟩)
 split at ht
 ·rw[List.mem_singleton] at ht;subst ht;exact absurd (by assumption) (hk.no k hkm).1
 split at ht
 ·rw[List.mem_map] at ht;obtain⟨f,hf,rfl⟩:=ht;exact absurd (by assumption) (hk.no k hkm).2.1
 split at ht
 ·rw[List.mem_singleton] at ht;subst ht;exact .inl hkm
 ·simp at ht
theorem zhV (k:Nd):zaB k.kids<=k.size:=by cases k;rw[zbT];show zaB _<=_;exact Nat.le_add_left _ _
theorem zla (n:Nd) (hk:zeE n.kids) (t:Nd) (h:t∈zca n):t.size<=zaB n.kids:=by
 rcases znf n hk t h with h|⟨k,h1,h2⟩|⟨k,h1,f,h2,h3⟩
 ·exact zaK h
 ·have:=zaK h1;have:=zaK h2;have:=zhV k;omega
 ·have:=zaK h1;have:=zaK h2;have:=zaK h3;have:=zhV k;have:=zhV f;omega
theorem zmV (n:Nd) (hk:zeE n.kids) (hf:fitL n.kids=true):fitL (zca n)=true:=zkb (λt h=>by
 rcases znf n hk t h with h|⟨k,h1,h2⟩|⟨k,h1,f,h2,h3⟩
 ·exact zaR hf h
 ·exact zaR (zav (zaR hf h1)) h2
 ·exact zaR (zav (zaR (zav (zaR hf h1)) h2)) h3)
theorem zoK (db:Nat) (l:List Nd) (hsg:∀n∈l,zeE n.kids) (hf:fitL l=true) (hs:zaB l<=2097152) (A:Option Addr) (c mt ma:Nat) (LT LA:List (ByteArray × Value)) (w:World) (hd:DdAt w db A l.length c mt ma LT LA) (h:Rd (Lt w.heap.size) w (ns l) (.slice A l.length c)) :
 Calls Tryz.prog 77 #[.pointer (some ⟨db,0,none⟩)] w (FtB w ((zeX l).map (λa=>(6,a)))):=by
 have hl:=zaS h;have hn:l.length<=2097152:=Nat.le_trans (zat l) hs;obtain⟨r,hr⟩:=zn (zeX l);rw[hr];have z1:=FbSt.first w
 have ltd:=hd.box.lt;obtain⟨w1,h1⟩:=zn (w.alloc (.cells #[↑(),↑()] 117));rw[h1] at z1;have x0:w1.cell? ⟨db,0,none⟩=some (.slice A l.length c):=(hd.below z1.low).box.cell 0;have HR:=zz h;have HD:=zz hd;have HF:=zz hf;have HS:=zz hs;have HSG:=zz hsg;have HB0:=zz z1;have HA0:Hid ((l.find? rgP).map Nd.at'=r):=zz hr;clear hl hr z1 h hd hf hs hsg;go_in;go_wp2;clear h1 x0
 go_loopw [11] (λs wr=>∃i:Nat,i<=l.length/\s=↑i/\Hid (((l.drop i).find? rgP).map Nd.at'=r)/\Hid (FbSt w wr)) (λs _=>l.length-(intOf s).toNat)
 case atStart=>exact⟨0,zo,rfl,by rw[List.drop_zero];exact HA0,HB0⟩
 case round=>
  clear HA0 HB0;obtain⟨i,hi,rfl,HA,HB⟩:=hrel
  by_cases hlt:i<l.length
  ·have sB:=HB.out.low.size;obtain⟨b,off,y,e,hlb,hget,A',c',p0,p1,p2,p3,p4,r5⟩:=zbC (HR.out.belows HB.out.low) hlt;subst e;have hin:(i:Int)<l.length:=zo
   have hym:=List.mem_of_getElem? hget;have hyf:=zaR HF.out hym;have hys:=zaK hym;have hyS:y.size=1+zaB y.kids:=by cases y;rw[zbT];rfl
   have hS0:=HS.out;have hsy:zaB y.kids<=2097152:=zo
   obtain⟨w3,hw3,hb3,hx3⟩:=zaj wr #[↑y.kind,↑y.text,↑y.n,↑y.at',.slice A' y.kids.length c'] 49;obtain⟨q0,q1,q2,q3,q4⟩:=hx3.c5;have HB3:=zz (HB.out.below hb3);have q:=HA.out;rw[zal hget,List.find?_cons] at q
   by_cases hp:rgP y=true
   ·rw[hp] at q;have HQ:Hid (some y.at'=r):=zz q;have hp2:=of_decide_eq_true hp;obtain⟨hk6,hp3⟩:=hp2;have e6:(y.kind == 6)=true:=by rw[hk6];rfl
    have y0:=HB3.out.res.cell 0;have y1:=HB3.out.res.cell 1;have yz:=HB3.out.res.fz
    have hcase:(decide (101<y.n)=true)\/(decide (101<y.n)=false/\(y.n == 1)=true):=by
     rcases hp3 with h|h
     ·exact .inl (decide_eq_true h)
     ·right;rw[h];exact⟨rfl,rfl⟩
    clear q hp hp3 hk6 r5 hb3 hx3 HA HB hget hlb hym hyf hys hyS hS0 hsy;rcases hcase with g1|⟨g1,g2⟩
    all_goals
     go_wp2;exact ziR zr 6 y.at' HB3.out (by rw[<-HQ.out];rfl) zr zr rfl
   ·have hpf:rgP y=false:=by simpa using hp
    rw[hpf] at q;have HQ:=zz q;have hp2:=of_decide_eq_false hpf
    have hcase:(y.kind == 6)=false\/((y.kind == 6)=true/\decide (101<y.n)=false/\(y.n == 1)=false):=by
     by_cases h6:y.kind=6
     ·right
      refine⟨by rw[h6];rfl,decide_eq_false (λh=>hp2 ⟨h6,.inl h⟩),by rw[beq_eq_false_iff_ne];exact λh=>hp2 ⟨h6,.inr h⟩⟩
     ·left;rw[beq_eq_false_iff_ne];exact h6
    clear q hp hpf hp2 r5 hb3 hx3 HA HB hget hlb hym hyf hys hyS hS0 hsy;rcases hcase with g1|⟨g1,g2,g3⟩
    all_goals
     go_wp2;exact⟨⟨i+1,zo,by go_num,HQ,HB3⟩,by simp[intOf];omega⟩
  ·have HQ:Hid (none=r):=zz (by
    have q:=HA.out;rw[List.drop_eq_nil_of_le zo] at q;exact q)
   clear HA;have y0:=HB.out.res.cell 0;have y1:=HB.out.res.cell 1;have yz:=HB.out.res.fz;go_wp2
   first
    |exact zhx zr HB.out (by rw[<-HQ.out];rfl) zr zr rfl
    |exact zfS zr HB.out (by rw[<-HQ.out];rfl) zr zr rfl
theorem zqG (db:Nat) (l:List Nd) (hsg:∀n∈l,zeE n.kids) (hBN:∀n∈l,∀t∈zca n,BasN t) (hf:fitL l=true) (hs:zaB l<=2097152) (A:Option Addr) (c mt ma:Nat) (LT LA:List (ByteArray × Value)) (w:World) (hd:DdAt w db A l.length c mt ma LT LA) (h:Rd (Lt w.heap.size) w (ns l) (.slice A l.length c)) (hok:zkh (LT.map Prod.fst) (LA.map Prod.fst) l=none) :
 Calls Tryz.prog 75 #[.pointer (some ⟨db,0,none⟩)] w (FtB w ((zkh (LT.map Prod.fst) (LA.map Prod.fst) l).map (λa=>(8,a)))):=by
 have hl:=zaS h;have hn:l.length<=2097152:=Nat.le_trans (zat l) hs;obtain⟨r,hr⟩:=zn (zkh (LT.map Prod.fst) (LA.map Prod.fst) l);rw[hr];have HRN:Hid (r=none):=zz (hr▸hok);have HBN:=zz hBN;clear hok hBN;have z1:=FbSt.first w
 have ltd:=hd.box.lt;obtain⟨w1,h1⟩:=zn (w.alloc (.cells #[↑(),↑()] 117));rw[h1] at z1;have x0:w1.cell? ⟨db,0,none⟩=some (.slice A l.length c):=(hd.below z1.low).box.cell 0;have HR:=zz h;have HD:=zz hd;have HF:=zz hf;have HS:=zz hs;have HSG:=zz hsg;have HB0:=zz z1;have HA0:Hid (((l.drop 0).flatMap zca).findSome? (zbA (LT.map Prod.fst) (LA.map Prod.fst))=r):=zz hr;clear hl hr z1 h hd hf hs hsg;go_in;go_wp2;clear h1 x0
 go_loopw [15] (λs wr=>∃i:Nat,i<=l.length/\s=↑i/\Hid (((l.drop i).flatMap zca).findSome? (zbA (LT.map Prod.fst) (LA.map Prod.fst))=r)/\Hid (FbSt w wr)) (λs _=>l.length-(intOf s).toNat)
 case atStart=>exact⟨0,zo,rfl,HA0,HB0⟩
 case round=>
  clear HA0 HB0;obtain⟨i,hi,rfl,HA,HB⟩:=hrel
  by_cases hlt:i<l.length
  ·have sB:=HB.out.low.size;obtain⟨b,off,y,e,hlb,hget,A',c',p0,p1,p2,p3,p4,r5⟩:=zbC (HR.out.belows HB.out.low) hlt;subst e;have hin:(i:Int)<l.length:=zo
   have hym:=List.mem_of_getElem? hget;have hyf:=zaR HF.out hym;have hys:=zaK hym;have hyS:y.size=1+zaB y.kids:=by cases y;rw[zbT];rfl
   have hS0:=HS.out;have hsy:zaB y.kids<=2097152:=zo
   obtain⟨w3,hw3,hb3,hx3⟩:=zaj wr #[↑y.kind,↑y.text,↑y.n,↑y.at',.slice A' y.kids.length c'] 49;obtain⟨q0,q1,q2,q3,q4⟩:=hx3.c5;have HB3:=zz (HB.out.below hb3);have q:=HA.out;rw[zal hget] at q;rw[List.flatMap_cons] at q;have KG:=zz (zgb y (HSG.out y hym) hsy A' c' w3 (r5.belows hb3));have hbn:=HBN.out y hym;obtain⟨sg,hsg⟩:=zn (zca y);rw[hsg] at q KG hbn;have HBS:=zz hbn;have hfs:fitL sg=true:=by rw[<-hsg];exact zmV y (HSG.out y hym) (zav hyf)
   have hss:∀t∈sg,t.size<=2097152:=by rw[<-hsg];exact λt ht=>Nat.le_trans (zla y (HSG.out y hym) t ht) hsy
   have HFS:=zz hfs;have HSS:=zz hss;have HG0:Hid (((sg.drop 0)++(l.drop (i+1)).flatMap zca).findSome? (zbA (LT.map Prod.fst) (LA.map Prod.fst))=r):=zz q;clear hbn q hsg hfs hss r5 hb3 hx3 HA HB hget hlb hym hyf hys hyS hS0 hsy;go_wp2_with fail;refine zi KG ?_;rintro e w4 ⟨hb4,A4,c4,rfl,hr4⟩;have HB4:=zz (HB3.out.below hb4);have HR4:=zz hr4;have hl4:=zaS hr4;have hn4:sg.length<=9223372036854775807:=Nat.le_trans hl4.2.1 hl4.2.2;clear hb4 hr4 hl4 HB3 hw3 q0 q1 q2 q3 q4 KG;go_wp2
   go_loopw [22] (λs wr=>∃k:Nat,k<=sg.length/\s=↑k/\Hid (((sg.drop k)++(l.drop (i+1)).flatMap zca).findSome? (zbA (LT.map Prod.fst) (LA.map Prod.fst))=r)/\Hid (Below w4.heap.size w4 wr)) (λs _=>sg.length-(intOf s).toNat)
   case atStart=>exact⟨0,zo,rfl,HG0,zz (Below.refl _ _)⟩
   case round=>
    clear HG0;obtain⟨k,hk,rfl,HG,HX⟩:=hrel;have sX:=HX.out.size
    by_cases hlk:k<sg.length
    ·obtain⟨b2,off2,z,e2,hlb2,hget2,A2,c2,g0,g1,g2,g3,g4,r6⟩:=zbC (HR4.out.belows HX.out) hlk;subst e2;have hkn:(k:Int)<sg.length:=zo
     have hzm:=List.mem_of_getElem? hget2;have q:=HG.out;rw[zal hget2,List.cons_append,List.findSome?_cons] at q;obtain⟨w5,hw5,hb5,hx5⟩:=zaj wr #[↑z.kind,↑z.text,↑z.n,↑z.at',.slice A2 z.kids.length c2] 49;obtain⟨t0,t1,t2,t3,t4⟩:=hx5.c5;have HX5:=zz (zac HX.out hb5 HX.out.size);have HC5:=zz hx5;have Z5:=zz (HB4.out.below HX5.out);have KU:=zz (ziE db _ l.length c mt ma LT LA z (HBS.out z hzm) A2 c2 w5 (HD.out.below Z5.out.low) (r6.belows hb5));obtain⟨o,ho⟩:=zn (zbA (LT.map Prod.fst) (LA.map Prod.fst) z);rw[ho] at q KU;clear ho r6 hb5 hx5 HG HX hget2 hlb2 hzm;cases o with
     |some a=>
      exact absurd ((show some a=r from q).trans HRN.out) zs
     |none=>
      have HQ:=zz q;clear q;go_wp2_with fail;refine zi KU ?_;rintro e w6 ⟨hb6,rfl⟩;have HX6:=zz (zac HX5.out hb6 HX5.out.size);clear hb6 t0 t1 t2 t3 t4 hw5;go_wp2;exact⟨⟨k+1,zo,by go_num,HQ,HX6⟩,by simp[intOf];omega⟩
    ·have HQ:Hid (((l.drop (i+1)).flatMap zca).findSome? (zbA (LT.map Prod.fst) (LA.map Prod.fst))=r):=zz (by
      have q:=HG.out;rw[List.drop_eq_nil_of_le zo,List.nil_append] at q;exact q)
     have HB9:=zz (HB4.out.below HX.out);clear HG;go_wp2;exact⟨⟨i+1,zo,by go_num,HQ,HB9⟩,by simp[intOf];omega⟩
  ·have HQ:Hid (none=r):=zz (by
    have q:=HA.out;rw[List.drop_eq_nil_of_le zo] at q;exact q)
   clear HA;have y0:=HB.out.res.cell 0;have y1:=HB.out.res.cell 1;have yz:=HB.out.res.fz;go_wp2
   first
    |exact zhx zr HB.out (by rw[<-HQ.out];rfl) zr zr rfl
    |exact zfS zr HB.out (by rw[<-HQ.out];rfl) zr zr rfl
theorem zoA (db:Nat) (l:List Nd) (hsg:∀n∈l,zeE n.kids) (hBN:∀n∈l,∀t∈zca n,BasN t) (hf:fitL l=true) (hs:zaB l<=2097152) (A:Option Addr) (c mt ma:Nat) (LT LA:List (ByteArray × Value)) (w:World) (hd:DdAt w db A l.length c mt ma LT LA) (h:Rd (Lt w.heap.size) w (ns l) (.slice A l.length c)) (hok:zeN l=none) :
 Calls Tryz.prog 76 #[.pointer (some ⟨db,0,none⟩)] w (FtB w ((zeN l).map (λa=>(7,a)))):=by
 have hl:=zaS h;have hn:l.length<=2097152:=Nat.le_trans (zat l) hs;obtain⟨r,hr⟩:=zn (zeN l);rw[hr];have HRN:Hid (r=none):=zz (hr▸hok);have HBN:=zz hBN;clear hok hBN;have z1:=FbSt.first w
 have ltd:=hd.box.lt;obtain⟨w1,h1⟩:=zn (w.alloc (.cells #[↑(),↑()] 117));rw[h1] at z1;have x0:w1.cell? ⟨db,0,none⟩=some (.slice A l.length c):=(hd.below z1.low).box.cell 0;have HR:=zz h;have HD:=zz hd;have HF:=zz hf;have HS:=zz hs;have HSG:=zz hsg;have HB0:=zz z1;have HA0:Hid ((((l.drop 0).filter ntF).flatMap zca).findSome? (stP)=r):=zz hr;clear hl hr z1 h hd hf hs hsg;go_in;go_wp2_with fail;clear h1 x0
 go_loopw [15] (λs wr=>∃i:Nat,i<=l.length/\s=↑i/\Hid ((((l.drop i).filter ntF).flatMap zca).findSome? (stP)=r)/\Hid (FbSt w wr)) (λs _=>l.length-(intOf s).toNat)
 case atStart=>exact⟨0,zo,rfl,HA0,HB0⟩
 case round=>
  clear HA0 HB0;obtain⟨i,hi,rfl,HA,HB⟩:=hrel
  by_cases hlt:i<l.length
  ·have sB:=HB.out.low.size;obtain⟨b,off,y,e,hlb,hget,A',c',p0,p1,p2,p3,p4,r5⟩:=zbC (HR.out.belows HB.out.low) hlt;subst e;have hin:(i:Int)<l.length:=zo
   have hym:=List.mem_of_getElem? hget;have hyf:=zaR HF.out hym;have hys:=zaK hym;have hyS:y.size=1+zaB y.kids:=by cases y;rw[zbT];rfl
   have hS0:=HS.out;have hsy:zaB y.kids<=2097152:=zo
   obtain⟨w3,hw3,hb3,hx3⟩:=zaj wr #[↑y.kind,↑y.text,↑y.n,↑y.at',.slice A' y.kids.length c'] 49;obtain⟨q0,q1,q2,q3,q4⟩:=hx3.c5;have HB3:=zz (HB.out.below hb3);have q:=HA.out;rw[zal hget] at q
   by_cases h5:y.kind=5
   ·have e5:(y.kind == 5)=true:=by rw[h5];rfl
    rw[List.filter_cons_of_neg (by unfold ntF;simp[h5])] at q;have HQ:=zz q;clear q h5 r5 hb3 hx3 HA HB hget hlb hym hyf hys hyS hS0 hsy;go_wp2_with fail;exact⟨⟨i+1,zo,by go_num,HQ,HB3⟩,by simp[intOf];omega⟩
   ·have e5:(y.kind == 5)=false:=by rw[beq_eq_false_iff_ne];exact h5
    rw[List.filter_cons_of_pos (by unfold ntF;simp[h5]),List.flatMap_cons] at q;clear h5;have KG:=zz (zgb y (HSG.out y hym) hsy A' c' w3 (r5.belows hb3));have hbn:=HBN.out y hym;obtain⟨sg,hsg⟩:=zn (zca y);rw[hsg] at q KG hbn;have HBS:=zz hbn;have hfs:fitL sg=true:=by rw[<-hsg];exact zmV y (HSG.out y hym) (zav hyf)
    have hss:∀t∈sg,t.size<=2097152:=by rw[<-hsg];exact λt ht=>Nat.le_trans (zla y (HSG.out y hym) t ht) hsy
    have HFS:=zz hfs;have HSS:=zz hss;have HG0:Hid (((sg.drop 0)++((l.drop (i+1)).filter ntF).flatMap zca).findSome? (stP)=r):=zz q;clear hbn q hsg hfs hss r5 hb3 hx3 HA HB hget hlb hym hyf hys hyS hS0 hsy;go_wp2_with fail;refine zi KG ?_;rintro e w4 ⟨hb4,A4,c4,rfl,hr4⟩;have HB4:=zz (HB3.out.below hb4);have HR4:=zz hr4;have hl4:=zaS hr4;have hn4:sg.length<=9223372036854775807:=Nat.le_trans hl4.2.1 hl4.2.2;clear hb4 hr4 hl4 HB3 hw3 q0 q1 q2 q3 q4 KG;go_wp2_with fail
    go_loopw [25] (λs wr=>∃k:Nat,k<=sg.length/\s=↑k/\Hid (((sg.drop k)++((l.drop (i+1)).filter ntF).flatMap zca).findSome? (stP)=r)/\Hid (Below w4.heap.size w4 wr)) (λs _=>sg.length-(intOf s).toNat)
    case atStart=>exact⟨0,zo,rfl,HG0,zz (Below.refl _ _)⟩
    case round=>
     clear HG0;obtain⟨k,hk,rfl,HG,HX⟩:=hrel;have sX:=HX.out.size
     by_cases hlk:k<sg.length
     ·obtain⟨b2,off2,z,e2,hlb2,hget2,A2,c2,g0,g1,g2,g3,g4,r6⟩:=zbC (HR4.out.belows HX.out) hlk;subst e2;have hkn:(k:Int)<sg.length:=zo
      have hzm:=List.mem_of_getElem? hget2;have q:=HG.out;rw[zal hget2,List.cons_append,List.findSome?_cons] at q;obtain⟨w5,hw5,hb5,hx5⟩:=zaj wr #[↑z.kind,↑z.text,↑z.n,↑z.at',.slice A2 z.kids.length c2] 49;obtain⟨t0,t1,t2,t3,t4⟩:=hx5.c5;have HX5:=zz (zac HX.out hb5 HX.out.size);have HC5:=zz hx5;have KR:=zz (zfG z (HBS.out z hzm) A2 c2 w5 (zaR HFS.out hzm) (HSS.out z hzm) (r6.belows hb5));have hst:stP z=if zce (zfu z)=true then none else some z.at':=rfl
      rw[hst] at q;obtain⟨t,ht⟩:=zn (zfu z);rw[ht] at q KR;have HQ0:=zz q;clear q ht hst r6 hb5 hx5 HG HX hget2 hlb2 hzm;go_wp2_with fail;refine zi KR ?_;rintro e w6 ⟨hb6,ok6,A6,c6,rfl,hr6⟩;have HX6:=zz (zac HX5.out hb6 HX5.out.size);have HC6:=zz (zaa hb6 HC5.out);obtain⟨w7,h7,b7,c7⟩:=zaj w6 #[↑t.kind,↑t.name,.slice A6 t.args.length c6] 70;have HX7:=zz (zac HX6.out b7 HX6.out.size);have HC7:=zz (zaa b7 HC6.out);have KS:=zz (zgI t A6 c6 w7 ((hr6.weaken (λb hb=>hb.2)).belows b7));have u0:=c7.cell 0;have u1:=c7.cell 1;have u2:=c7.cell 2;have H7:=zz h7;clear hb6 hr6 b7 c7 t0 t1 t2 t3 t4 hw5 KR h7;go_wp2_with fail;rw[H7.out];go_wp2_with fail;refine zi KS ?_;obtain⟨bs,hbs⟩:=zn (zce t);have q:=HQ0.out;rw[hbs] at q ⊢;clear hbs HQ0;cases bs with
      |false=>
       rw[if_neg zs] at q;exact absurd ((show some z.at'=r from q).trans HRN.out) zs
      |true=>
       rw[if_pos rfl] at q;have HQ:=zz q;rintro e w8 ⟨rfl,hb8⟩;have HX8:=zz (zac HX7.out hb8 HX7.out.size);clear hb8 q u0 u1 u2 H7;go_wp2_with fail;exact⟨⟨k+1,zo,by go_num,HQ,HX8⟩,by simp[intOf];omega⟩
     ·have HQ:Hid ((((l.drop (i+1)).filter ntF).flatMap zca).findSome? (stP)=r):=zz (by
       have q:=HG.out;rw[List.drop_eq_nil_of_le zo,List.nil_append] at q;exact q)
      have HB9:=zz (HB4.out.below HX.out);clear HG;go_wp2_with fail;exact⟨⟨i+1,zo,by go_num,HQ,HB9⟩,by simp[intOf];omega⟩
  ·have HQ:Hid (none=r):=zz (by
    have q:=HA.out;rw[List.drop_eq_nil_of_le zo] at q;exact q)
   clear HA;have y0:=HB.out.res.cell 0;have y1:=HB.out.res.cell 1;have yz:=HB.out.res.fz;go_wp2_with fail
   first
    |exact zhx zr HB.out (by rw[<-HQ.out];rfl) zr zr rfl
    |exact zfS zr HB.out (by rw[<-HQ.out];rfl) zr zr rfl
end Go.Proofs.YtcebmphappfjjaaGreatDoor
