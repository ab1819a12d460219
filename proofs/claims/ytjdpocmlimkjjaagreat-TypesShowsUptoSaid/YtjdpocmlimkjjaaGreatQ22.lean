/- Conditions: those in each statement. -/
import Derived.Test.YtjdpocmlimkjjaaGreatQ15
import Derived.Deep.RegionHeld3
import Derived.Deep.DeepCutAuto
import Derived.Deep.CutBlock
import Derived.Deep.RegionLaw
import Derived.RegionDies
set_option maxHeartbeats 32000000
set_option maxRecDepth 100000
namespace Go.Proofs.YtjdpocmlimkjjaaGreat
open Go.RowKit
theorem zoG:(Tryz.prog.info? 90).map (λi=>(i.zero,i.size,i.bytes))=some (some (.agg #[.string ⟨#[]⟩,.int .i64 0,.string ⟨#[]⟩,.slice none 0 0,.int .i64 0,.int .i64 0,.int .i64 0,.string ⟨#[]⟩,.slice none 0 0]),9,128):=by kernel_rfl
theorem zoR:(Tryz.prog.info? 74).map (λi=>(i.zero,i.size,i.bytes))=some (some (.agg #[.string ⟨#[]⟩,.slice none 0 0,.int .i64 0,.slice none 0 0]),4,72):=by kernel_rfl
theorem zri:(Tryz.prog.info? 50).map (·.size)=some 7:=by kernel_rfl
theorem zln {w:World} {g:Nat} {e:TypeId} {cs:Array Value} (u0 u1 u2 u3 u4 u5 u6:Value) (h:zac w g cs e) (hs:cs.size=7) :
 zac (((((((w.setCell ⟨g,0,none⟩ u0).setCell ⟨g,1,none⟩ u1).setCell ⟨g,2,none⟩ u2).setCell ⟨g,3,none⟩ u3).setCell ⟨g,4,none⟩ u4).setCell ⟨g,5,none⟩ u5).setCell ⟨g,6,none⟩ u6) g #[u0,u1,u2,u3,u4,u5,u6] e:=by
 have:=((((((h.set 0 u0).set 1 u1).set 2 u2).set 3 u3).set 4 u4).set 5 u5).set 6 u6
 have e:(((((((cs.setIfInBounds 0 u0).setIfInBounds 1 u1).setIfInBounds 2 u2).setIfInBounds 3 u3).setIfInBounds 4 u4).setIfInBounds 5 u5).setIfInBounds 6 u6)=#[u0,u1,u2,u3,u4,u5,u6]:=by
  apply Array.ext
  ·simp[hs]
  ·intro i h1 h2;simp at h2;rcases (show i=0∨i=1∨i=2∨i=3∨i=4∨i=5∨i=6 by omega) with rfl|rfl|rfl|rfl|rfl|rfl|rfl<;>simp[hs]
 rw[e] at this;exact this
theorem zlT {W:World} {g g' j:Nat} {u0 u1 u2 u3 u4 u5 u6:Value} (h:¬g'=g):(((((((W.setCell ⟨g,0,none⟩ u0).setCell ⟨g,1,none⟩ u1).setCell ⟨g,2,none⟩ u2).setCell ⟨g,3,none⟩ u3).setCell ⟨g,4,none⟩ u4).setCell ⟨g,5,none⟩ u5).setCell ⟨g,6,none⟩ u6).cell? ⟨g',j,none⟩=W.cell? ⟨g',j,none⟩:=by
 have k:∀(X:World) (q:Nat) (u:Value),(X.setCell ⟨g,q,none⟩ u).cell? ⟨g',j,none⟩=X.cell? ⟨g',j,none⟩:=λX q u=>World.cell?_setCell_other X ⟨g,q,none⟩ ⟨g',j,none⟩ u (λe=>h (by injection e with e1;exact e1.symm));rw[k,k,k,k,k,k,k]
theorem zhW {w:World} {g:Nat} (u0 u1 u2 u3 u4 u5 u6:Value):Chg (λk=>k=g) w (((((((w.setCell ⟨g,0,none⟩ u0).setCell ⟨g,1,none⟩ u1).setCell ⟨g,2,none⟩ u2).setCell ⟨g,3,none⟩ u3).setCell ⟨g,4,none⟩ u4).setCell ⟨g,5,none⟩ u5).setCell ⟨g,6,none⟩ u6):=
 ((((((((Chg.refl (λk=>k=g) w).setCell (p:=⟨g,0,none⟩) (.inl rfl) u0).setCell (p:=⟨g,1,none⟩) (.inl rfl) u1).setCell (p:=⟨g,2,none⟩) (.inl rfl) u2).setCell (p:=⟨g,3,none⟩) (.inl rfl) u3).setCell (p:=⟨g,4,none⟩) (.inl rfl) u4).setCell (p:=⟨g,5,none⟩) (.inl rfl) u5).setCell (p:=⟨g,6,none⟩) (.inl rfl) u6)
def zkT (k:Nd):Var':=⟨k.text,zby k.kids⟩
def zkv (k:Nd):Hnd:=⟨k.text,zbk k.kids⟩
def Lab (B b0:Nat) (lb:Nat→Nat) (i q:Nat):Prop:=B+2≤q∧q≠b0∧lb q=i
structure AcSt (w W:World) (b0:Nat) (lb:Nat→Nat) (nm:ByteArray) (ps:List Fld) (Ap:Option Addr) (cp:Nat) (vars:List Var') (Av:Option Addr) (cv:Nat) (on:List Hnd) (Ao:Option Addr) (co:Nat) (pol most:Int):Prop where
 low:Below w.heap.size w W
 le:w.heap.size+2≤b0
 res:zac W (w.heap.size+1) #[.string ⟨#[]⟩,.slice none 0 0,.int .i64 0,.slice none 0 0,.slice none 0 0,.int .i64 0,.int .i64 0] 50
 box:zac W b0 #[.string nm,.slice Ap ps.length cp,.int .i64 0,.slice Av vars.length cv,.slice Ao on.length co,.int .i64 pol,.int .i64 most] 50
 par:Rd (λq=>Lab w.heap.size b0 lb 2 q∧q<W.heap.size) W (fls ps) (.slice Ap ps.length cp)
 vs:OwnS (Lab w.heap.size b0 lb 0) 90 9 vars.length (zap ziy vars) W (.slice Av vars.length cv)
 os:OwnS (Lab w.heap.size b0 lb 1) 74 4 on.length (zap zgs on) W (.slice Ao on.length co)
section
variable {w W W':World} {b0:Nat} {lb lb':Nat→Nat} {nm:ByteArray} {ps:List Fld} {Ap Av Ao:Option Addr} {cp cv co:Nat} {vars:List Var'} {on:List Hnd} {pol most:Int}
theorem AcSt.below (h:AcSt w W b0 lb nm ps Ap cp vars Av cv on Ao co pol most) (k:Below W.heap.size W W'):AcSt w W' b0 lb nm ps Ap cp vars Av cv on Ao co pol most:=
 ⟨zab h.low k h.low.size,h.le,zaa k h.res,zaa k h.box,(h.par.keep (λq o hq=>k.cell (p:=⟨q,o,none⟩) hq.2)).weaken (λ_ hq=>⟨hq.1,Nat.lt_of_lt_of_le hq.2 k.size⟩),h.vs.below k,h.os.below k⟩
theorem AcSt.drew (h:AcSt w W b0 lb nm ps Ap cp vars Av cv on Ao co pol most):AcSt w W.drew b0 lb nm ps Ap cp vars Av cv on Ao co pol most:=h.below (zae (Below.refl _ _) 1)
theorem zaF {W W':World} (h:Below W.drew.heap.size W.drew W'):Below W.heap.size W W':=⟨h.os,h.tape,h.output,h.size,h.block⟩
theorem AcSt.first1 {w4:World} {N:Nat} {A4:Option Addr} {c4:Nat} (hb:Below w.heap.size w w4) (hN:w.heap.size+2≤N) (hN4:N≤w4.heap.size) (hr:zac w4 (w.heap.size+1) #[.string ⟨#[]⟩,.slice none 0 0,.int .i64 0,.slice none 0 0,.slice none 0 0,.int .i64 0,.int .i64 0] 50) (hp:Rd (Bt N w4.heap.size) w4 (fls ps) (.slice A4 ps.length c4)) :
 AcSt w (w4.alloc (.cells #[.string nm,.slice A4 ps.length c4,.int .i64 0,.slice none 0 0,.slice none 0 0,.int .i64 0,.int .i64 0] 50)) w4.heap.size (λ_=>2) nm ps A4 c4 [] none 0 [] none 0 0 0:=by
 have ba:=zag w4 (.cells #[.string nm,.slice A4 ps.length c4,.int .i64 0,.slice none 0 0,.slice none 0 0,.int .i64 0,.int .i64 0] 50);exact⟨zab hb ba hb.size,by omega,zaa ba hr,zac.new w4 _ _,(hp.keep (λq o hq=>ba.cell (p:=⟨q,o,none⟩) hq.2)).weaken (λq hq=>⟨⟨by have:=hq.1;omega,by have:=hq.2;omega,rfl⟩,Nat.lt_of_lt_of_le hq.2 ba.size⟩),OwnS.nil _ _ _ _ _,OwnS.nil _ _ _ _ _⟩
theorem AcSt.first2 {w4:World} {N lo:Nat} {A4:Option Addr} {c4:Nat} (hb:Below w.heap.size w w4) (hN:w.heap.size+2≤N) (hlo:N<lo) (hr:zac w4 (w.heap.size+1) #[.string ⟨#[]⟩,.slice none 0 0,.int .i64 0,.slice none 0 0,.slice none 0 0,.int .i64 0,.int .i64 0] 50) (hx:zac w4 N #[.string ⟨#[]⟩,.slice none 0 0,.int .i64 0,.slice none 0 0,.slice none 0 0,.int .i64 0,.int .i64 0] 50) (hp:Rd (Bt lo w4.heap.size) w4 (fls ps) (.slice A4 ps.length c4)) :
 AcSt w (((((((w4.setCell ⟨N,0,none⟩ (.string nm)).setCell ⟨N,1,none⟩ (.slice A4 ps.length c4)).setCell ⟨N,2,none⟩ (.int .i64 0)).setCell ⟨N,3,none⟩ (.slice none 0 0)).setCell ⟨N,4,none⟩ (.slice none 0 0)).setCell ⟨N,5,none⟩ (.int .i64 0)).setCell ⟨N,6,none⟩ (.int .i64 0)) N (λ_=>2) nm ps A4 c4 [] none 0 [] none 0 0 0:=by
 have hc:=zhW (w:=w4) (g:=N) (.string nm) (.slice A4 ps.length c4) (.int .i64 0) (.slice none 0 0) (.slice none 0 0) (.int .i64 0) (.int .i64 0);exact⟨hb.trans (hc.below hb.size (λq hq=>by omega)),hN,hr.keep hc (by omega),zln _ _ _ _ _ _ _ hx rfl,(hc.rd (λb hb=>⟨hb.2,by have:=hb.1;omega⟩) hp).weaken (λq hq=>⟨⟨by have:=hq.1;omega,by have:=hq.1;omega,rfl⟩,Nat.lt_of_lt_of_le hq.2 hc.size⟩),OwnS.nil _ _ _ _ _,OwnS.nil _ _ _ _ _⟩
theorem AcSt.relab (h:AcSt w W b0 lb nm ps Ap cp vars Av cv on Ao co pol most) (hl:∀q,q<W.heap.size→lb' q=lb q):AcSt w W b0 lb' nm ps Ap cp vars Av cv on Ao co pol most:=
 ⟨h.low,h.le,h.res,h.box,h.par.weaken (λq hq=>⟨⟨hq.1.1,hq.1.2.1,by rw[hl q hq.2];exact hq.1.2.2⟩,hq.2⟩),h.vs.sub (λq hq hs=>⟨hs.1,hs.2.1,by rw[hl q hq];exact hs.2.2⟩),h.os.sub (λq hq hs=>⟨hs.1,hs.2.1,by rw[hl q hq];exact hs.2.2⟩)⟩
theorem AcSt.grown9 {L:List Var'} {A':Option Addr} {c':Nat} (h:AcSt w W b0 lb nm ps Ap cp vars Av cv on Ao co pol most) (hO:OwnS (Lab w.heap.size b0 lb 0) 90 9 L.length (zap ziy L) W' (.slice A' L.length c')) (hg:W.grownBy W' (Value.slice Av vars.length cv).ownBlock) :
 AcSt w (W'.setCell ⟨b0,3,none⟩ (.slice A' L.length c')) b0 lb nm ps Ap cp L A' c' on Ao co pol most:=by
 have hch:Chg (Lab w.heap.size b0 lb 0) W W':=Chg.of_grown hg (λq hq=>(h.vs.below_own q hq).1);have hc2:Chg (λq=>q=b0) W' (W'.setCell ⟨b0,3,none⟩ (.slice A' L.length c')):=(Chg.refl (λq=>q=b0) W').setCell (p:=⟨b0,3,none⟩) (.inl rfl) _;have hle:=h.le;have hl:=h.low.trans (hch.below h.low.size (λq hq=>by have:=hq.1;omega));refine⟨hl.setCell (p:=⟨b0,3,none⟩) (by show w.heap.size≤b0;omega) _,hle,(h.res.keep hch (λhq=>by have:=hq.1;omega)).keep hc2 (by omega),?_,?_,hO.chg hc2 (λj hj _ hs=>hs.2.1 hj),(h.os.chg hch (λj hj _ hs=>by have:=hj.2.2;have:=hs.2.2;omega)).chg hc2 (λj hj _ hs=>hs.2.1 hj)⟩
 ·have:=(h.box.keep hch (λhq=>hq.2.1 rfl)).set 3 (.slice A' L.length c')
  simpa using this
 ·exact(((h.par.keep (λq p hq=>hch.cell (p:=⟨q,p,none⟩) hq.2 (λhs=>by have h1:=hs.2.2;have h2:=hq.1.2.2;dsimp only at h1;omega))).keep (λq p hq=>hc2.cell (p:=⟨q,p,none⟩) (Nat.lt_of_lt_of_le hq.2 hch.size) (λhs=>hq.1.2.1 hs)))).weaken (λq hq=>⟨hq.1,Nat.lt_of_lt_of_le hq.2 (Nat.le_trans hch.size hc2.size)⟩)
theorem AcSt.grown10 {L:List Hnd} {A':Option Addr} {c':Nat} (h:AcSt w W b0 lb nm ps Ap cp vars Av cv on Ao co pol most) (hO:OwnS (Lab w.heap.size b0 lb 1) 74 4 L.length (zap zgs L) W' (.slice A' L.length c')) (hg:W.grownBy W' (Value.slice Ao on.length co).ownBlock) :
 AcSt w (W'.setCell ⟨b0,4,none⟩ (.slice A' L.length c')) b0 lb nm ps Ap cp vars Av cv L A' c' pol most:=by
 have hch:Chg (Lab w.heap.size b0 lb 1) W W':=Chg.of_grown hg (λq hq=>(h.os.below_own q hq).1);have hc2:Chg (λq=>q=b0) W' (W'.setCell ⟨b0,4,none⟩ (.slice A' L.length c')):=(Chg.refl (λq=>q=b0) W').setCell (p:=⟨b0,4,none⟩) (.inl rfl) _;have hle:=h.le;have hl:=h.low.trans (hch.below h.low.size (λq hq=>by have:=hq.1;omega));refine⟨hl.setCell (p:=⟨b0,4,none⟩) (by show w.heap.size≤b0;omega) _,hle,(h.res.keep hch (λhq=>by have:=hq.1;omega)).keep hc2 (by omega),?_,?_,(h.vs.chg hch (λj hj _ hs=>by have:=hj.2.2;have:=hs.2.2;omega)).chg hc2 (λj hj _ hs=>hs.2.1 hj),hO.chg hc2 (λj hj _ hs=>hs.2.1 hj)⟩
 ·have:=(h.box.keep hch (λhq=>hq.2.1 rfl)).set 4 (.slice A' L.length c')
  simpa using this
 ·exact(((h.par.keep (λq p hq=>hch.cell (p:=⟨q,p,none⟩) hq.2 (λhs=>by have h1:=hs.2.2;have h2:=hq.1.2.2;dsimp only at h1;omega))).keep (λq p hq=>hc2.cell (p:=⟨q,p,none⟩) (Nat.lt_of_lt_of_le hq.2 hch.size) (λhs=>hq.1.2.1 hs)))).weaken (λq hq=>⟨hq.1,Nat.lt_of_lt_of_le hq.2 (Nat.le_trans hch.size hc2.size)⟩)
theorem AcSt.setPol (h:AcSt w W b0 lb nm ps Ap cp vars Av cv on Ao co pol most) (p:Int):AcSt w (W.setCell ⟨b0,5,none⟩ (.int .i64 p)) b0 lb nm ps Ap cp vars Av cv on Ao co p most:=by
 have hc2:Chg (λq=>q=b0) W (W.setCell ⟨b0,5,none⟩ (.int .i64 p)):=(Chg.refl (λq=>q=b0) W).setCell (p:=⟨b0,5,none⟩) (.inl rfl) _;have hle:=h.le;refine⟨h.low.setCell (p:=⟨b0,5,none⟩) (by show w.heap.size≤b0;omega) _,hle,h.res.keep hc2 (by omega),?_,?_,h.vs.chg hc2 (λj hj _ hs=>hs.2.1 hj),h.os.chg hc2 (λj hj _ hs=>hs.2.1 hj)⟩
 ·have:=h.box.set 5 (.int .i64 p)
  simpa using this
 ·exact(h.par.keep (λq p hq=>hc2.cell (p:=⟨q,p,none⟩) hq.2 (λhs=>hq.1.2.1 hs))).weaken (λq hq=>⟨hq.1,Nat.lt_of_lt_of_le hq.2 hc2.size⟩)
theorem AcSt.setMost (h:AcSt w W b0 lb nm ps Ap cp vars Av cv on Ao co pol most) (p:Int):AcSt w (W.setCell ⟨b0,6,none⟩ (.int .i64 p)) b0 lb nm ps Ap cp vars Av cv on Ao co pol p:=by
 have hc2:Chg (λq=>q=b0) W (W.setCell ⟨b0,6,none⟩ (.int .i64 p)):=(Chg.refl (λq=>q=b0) W).setCell (p:=⟨b0,6,none⟩) (.inl rfl) _;have hle:=h.le;refine⟨h.low.setCell (p:=⟨b0,6,none⟩) (by show w.heap.size≤b0;omega) _,hle,h.res.keep hc2 (by omega),?_,?_,h.vs.chg hc2 (λj hj _ hs=>hs.2.1 hj),h.os.chg hc2 (λj hj _ hs=>hs.2.1 hj)⟩
 ·have:=h.box.set 6 (.int .i64 p)
  simpa using this
 ·exact(h.par.keep (λq p hq=>hc2.cell (p:=⟨q,p,none⟩) hq.2 (λhs=>hq.1.2.1 hs))).weaken (λq hq=>⟨hq.1,Nat.lt_of_lt_of_le hq.2 hc2.size⟩)
end
theorem zcZ {W:World} {lo B b0 i:Nat} {lb:Nat→Nat} {d:D} {u v:Value} (R:Rd (Bt lo W.heap.size) W d u) (hlo:B+2≤lo) (hb0:b0<lo) (hl:∀q,lo≤q→lb q=i) (hown:∀g,v.ownBlock=some g→g<lo) :
 Rd (λb=>(Lab B b0 lb i b∧b<W.heap.size)∧some b≠v.ownBlock) W d u:=
 R.weaken (λq hq=>⟨⟨⟨by have:=hq.1;omega,by have:=hq.1;omega,hl q hq.1⟩,hq.2⟩,λe=>by have:=hown q e.symm;have:=hq.1;omega⟩)
theorem ziX {ok:Nat→Prop} {w:World} {s:ByteArray} {x:Ty} {A:Option Addr} {c:Nat} (h:Rd ok w (ys x.args) (.slice A x.args.length c)):∀(j:Nat) (u:Value),([.string s,.int .i64 x.kind,.string x.name,.slice A x.args.length c,.int .i64 0,.int .i64 0,.int .i64 0,.string ⟨#[]⟩,.slice none 0 0]:List Value)[j]?=some u→Rd ok w (ziy ⟨s,x⟩ j) u:=by
 intro j u hj
 match j with
 |0=>simp at hj;exact hj.symm
 |1=>simp at hj;exact hj.symm
 |2=>simp at hj;exact hj.symm
 |3=>simp at hj;rw[←hj];exact h
 |4=>simp at hj;exact hj.symm
 |5=>simp at hj;exact hj.symm
 |6=>simp at hj;exact hj.symm
 |7=>simp at hj;exact hj.symm
 |8=>simp at hj;rw[←hj];exact zlJ 5
 |j+9=>simp at hj
theorem zjw {ok:Nat→Prop} {w:World} {s:ByteArray} {x:List Fld} {A:Option Addr} {c:Nat} (h:Rd ok w (fls x) (.slice A x.length c)):∀(j:Nat) (u:Value),([.string s,.slice A x.length c,.int .i64 0,.slice none 0 0]:List Value)[j]?=some u→Rd ok w (zgs ⟨s,x⟩ j) u:=by
 intro j u hj
 match j with
 |0=>simp at hj;exact hj.symm
 |1=>simp at hj;rw[←hj];exact h
 |2=>simp at hj;exact hj.symm
 |3=>simp at hj;rw[←hj];exact zlJ 9
 |j+4=>simp at hj
theorem zlY (W:World) (b o:Nat) (u:Value):Chg (λq=>q=b) W (W.setCell ⟨b,o,none⟩ u):=(Chg.refl (λq=>q=b) W).setCell (p:=⟨b,o,none⟩) (.inl rfl) u
def zrM (w:World) (d:Actr) (e:Ending) (w':World):Prop:=Below w.heap.size w w'∧∃Ap cp Av cv Ao co,e=.returned (.agg #[.string d.name,.slice Ap d.params.length cp,.int .i64 0,.slice Av d.vars.length cv,.slice Ao d.on.length co,.int .i64 d.policy,.int .i64 d.most])∧
 Rd (Bt w.heap.size w'.heap.size) w' (fls d.params) (.slice Ap d.params.length cp)∧Rd (Bt w.heap.size w'.heap.size) w' (slG 9 ziy d.vars) (.slice Av d.vars.length cv)∧Rd (Bt w.heap.size w'.heap.size) w' (slG 4 zgs d.on) (.slice Ao d.on.length co)
structure zos (l:List Nd):Prop where
 par:zhV (zaL l)
 vars:∀k∈l,k.kind=9→(zaL k.kids).length<k.kids.length
 on:∀k∈l,k.kind=10→zhV (zaL k.kids)
theorem zoz (kd:Int) (tx:ByteArray) (nn at':Int) (l:List Nd):zeF (.mk kd tx nn at' l)=⟨tx,zbk l,(l.filter (λk=>decide (k.kind=9))).map zkT,(l.filter (λk=>decide (k.kind=10))).map zkv,if nn<0 then 2 else if 0<nn then 1 else 0,if 0<nn then nn-1 else 0⟩:=rfl
theorem zpj (kd:Int) (tx:ByteArray) (nn at':Int) (l:List Nd) (hnn:nn≤9007199254740993) (A:Option Addr) (c:Nat) (w:World) (hk:zos l) (hf:fitL l=true) (hs:zaq l≤2097152) (h:Rd (Lt w.heap.size) w (ns l) (.slice A l.length c)) :
 Calls Tryz.prog 68 #[.agg #[.int .i64 kd,.string tx,.int .i64 nn,.int .i64 at',.slice A l.length c]] w (zrM w (zeF (.mk kd tx nn at' l))):=by
 rw[zoz];have hl:=zaD h;have hc1:=hl.2.1;have hc2:=hl.2.2;have hn:l.length≤2097152:=Nat.le_trans (zaB l) hs;obtain⟨w1,h1,b1,c1⟩:=zai w #[.int .i64 kd,.string tx,.int .i64 nn,.int .i64 at',.slice A l.length c] 25;have s1:w1.heap.size=w.heap.size+1:=by rw[←h1];simp
 obtain⟨w2,h2,b2,c2⟩:=zai w1 #[.string ⟨#[]⟩,.slice none 0 0,.int .i64 0,.slice none 0 0,.slice none 0 0,.int .i64 0,.int .i64 0] 50;have s2:w2.heap.size=w.heap.size+2:=by rw[←h2];simp[s1]
 rw[s1] at c2;have cn:=zaa b2 c1;have hb:=zab b1 b2 b1.size;have HB:=zz hb;have CN:=zz cn;have CR:=zz c2;have x1:w2.cell? ⟨w.heap.size,1,none⟩=some (.string tx):=cn.cell 1;have x4:w2.cell? ⟨w.heap.size,4,none⟩=some (.slice A l.length c):=cn.cell 4;have HK:=zz hk;have HF:=zz hf;have HS:=zz hs;have HR:=zz (h.belows hb);have HR0:=zz h;have HS1:=zz s1;have HS2:=zz s2;have hgt:w.heap.size+2≤w2.heap.size:=by omega
 obtain⟨ps,hps⟩:∃ps,zbk l=ps:=⟨_,rfl⟩;obtain⟨pol,hpol⟩:∃p:Int,(if nn<0 then 2 else if 0<nn then 1 else 0)=p:=⟨_,rfl⟩;obtain⟨most,hmost⟩:∃p:Int,(if 0<nn then nn-1 else 0)=p:=⟨_,rfl⟩;obtain⟨rv,hrv⟩:∃p,(l.filter (λk=>decide (k.kind=9))).map zkT=p:=⟨_,rfl⟩;obtain⟨ro,hro⟩:∃p,(l.filter (λk=>decide (k.kind=10))).map zkv=p:=⟨_,rfl⟩;rw[hpol,hmost,hrv,hro];have HP1:=zz hpol;have HP2:=zz hmost;have HV0:Hid ([]++((l.drop 0).filter (λk=>decide (k.kind=9))).map zkT=rv):=zz hrv;have HO0:Hid ([]++((l.drop 0).filter (λk=>decide (k.kind=10))).map zkv=ro):=zz hro;clear hpol hmost hrv hro;have KP:=zz (λ(W:World) (k:Below w2.heap.size w2 W)=>zdR l A c W hk.par hf hs (HR.out.belows k));rw[hps] at KP ⊢;clear b1 b2 c1 c2 cn hb hl h hf hs hk hps s1 s2;go_enter Tryz.func68,Tryz.ntmps68
 go_upto_region 1 with (fail)
 rw[HS1.out];clear h1 h2 HS1
 go_cut [3] (λs3 wx=>∃(b0:Nat) (Ap:Option Addr) (cp:Nat),s3=.pointer (some ⟨b0,0,none⟩)∧Hid (zac wx w.heap.size #[.int .i64 kd,.string tx,.int .i64 nn,.int .i64 at',.slice A l.length c] 25)∧Hid (AcSt w wx b0 (λ_=>2) tx ps Ap cp [] none 0 [] none 0 0 0))
 case first=>
  go_wp2_with fail;have KP1:=zz (KP.out w2.drew (zae (Below.refl _ _) 1));obtain⟨w3,h3,b3,c3⟩:=zai w2 #[.string ⟨#[]⟩,.slice none 0 0,.int .i64 0,.slice none 0 0,.slice none 0 0,.int .i64 0,.int .i64 0] 50;have s3:w3.heap.size=w2.heap.size+1:=by rw[←h3];simp
  have KP2:=zz (KP.out w3.drew (zae b3 1));have B3:=zz b3;have C3:=zz c3;have S3:=zz s3;have u1:w3.drew.cell? ⟨w.heap.size,1,none⟩=some (.string tx):=(zaa b3 CN.out).cell 1;have u4:w3.drew.cell? ⟨w.heap.size,4,none⟩=some (.slice A l.length c):=(zaa b3 CN.out).cell 4;clear b3 c3 s3
  go_region_held3 (λw'=>w'.cell? ⟨w.heap.size,1,none⟩=some (.string tx)∧w'.cell? ⟨w.heap.size,4,none⟩=some (.slice A l.length c)) (first|go_keep|(refine⟨?_,?_⟩<;>(rw[zlT (by omega)];assumption))) (first
   |(go_at_call 65;go_loud ((with_reducible refine KP1.out.mono ?_);rintro e w4 ⟨hb4,A4,c4,rfl,hr4⟩;have AA:Hid (AcSt w (w4.alloc (.cells #[.string tx,.slice A4 ps.length c4,.int .i64 0,.slice none 0 0,.slice none 0 0,.int .i64 0,.int .i64 0] 50)) w4.heap.size (λ_=>2) tx ps A4 c4 [] none 0 [] none 0 0 0):=zz (AcSt.first1 (zab HB.out (zaF hb4) HB.out.size) hgt (zaF hb4).size (zaa (zaF hb4) CR.out) hr4);have CN4:=zz (zaa (zaF hb4) CN.out);clear hb4 hr4;clear x1 x4;have x1:w4.cell? ⟨w.heap.size,1,none⟩=some (.string tx):=CN4.out.cell 1;have x4:w4.cell? ⟨w.heap.size,4,none⟩=some (.slice A l.length c):=CN4.out.cell 4))
   |(go_at_call 65;go_loud ((with_reducible refine KP2.out.mono ?_);rintro e w4 ⟨hb4,A4,c4,rfl,hr4⟩;have B4:=zz (zab B3.out (zaF hb4) B3.out.size);have C4:=zz (zaa (zaF hb4) C3.out);have R4:=zz (show Rd (Bt w3.heap.size w4.heap.size) w4 (fls ps) (.slice A4 ps.length c4) from hr4);have CN4:=zz (zaa B4.out CN.out);clear hb4 hr4;clear x1 x4;have x1:w4.cell? ⟨w.heap.size,1,none⟩=some (.string tx):=CN4.out.cell 1;have x4:w4.cell? ⟨w.heap.size,4,none⟩=some (.slice A l.length c):=CN4.out.cell 4;have y0:w4.cell? ⟨w2.heap.size,0,none⟩=some (.string ⟨#[]⟩):=C4.out.cell 0;have y1:w4.cell? ⟨w2.heap.size,1,none⟩=some (.slice none 0 0):=C4.out.cell 1;have y2:w4.cell? ⟨w2.heap.size,2,none⟩=some (.int .i64 0):=C4.out.cell 2;have y3:w4.cell? ⟨w2.heap.size,3,none⟩=some (.slice none 0 0):=C4.out.cell 3;have y4:w4.cell? ⟨w2.heap.size,4,none⟩=some (.slice none 0 0):=C4.out.cell 4;have y5:w4.cell? ⟨w2.heap.size,5,none⟩=some (.int .i64 0):=C4.out.cell 5;have y6:w4.cell? ⟨w2.heap.size,6,none⟩=some (.int .i64 0):=C4.out.cell 6;have yz:=C4.out.fz)))
  ·go_wp2_with fail
   go_meet
   exact⟨w4.heap.size,A4,c4,rfl,zz (zaa (zag _ _) CN4.out),AA⟩
  ·go_wp2_with fail
   go_meet
   have hs3:=S3.out;have hc:=zhW (w:=w4) (g:=w2.heap.size) (.string tx) (.slice A4 ps.length c4) (.int .i64 0) (.slice none 0 0) (.slice none 0 0) (.int .i64 0) (.int .i64 0);exact⟨w2.heap.size,A4,c4,rfl,zz (CN4.out.keep hc (by omega)),zz (AcSt.first2 (zab HB.out B4.out HB.out.size) hgt (by omega) (zaa B4.out CR.out) C4.out R4.out)⟩
 case rest=>
  clear HR KP x1 x4 CN HB CR HS2 hgt;obtain⟨b0,Ap,cp,rfl,CN,ST⟩:=hcut;rename World=>w5;have x2:=CN.out.cell 2;have y5:=ST.out.box.cell 5;have y6:=ST.out.box.cell 6;have yz:=ST.out.box.fz;have hble:=ST.out.le
  go_upto_block 0 with fail
  go_cut [] (λwx=>Hid (zac wx w.heap.size #[.int .i64 kd,.string tx,.int .i64 nn,.int .i64 at',.slice A l.length c] 25)∧Hid (AcSt w wx b0 (λ_=>2) tx ps Ap cp [] none 0 [] none 0 pol most))
  case first=>
   rcases Int.lt_trichotomy nn 0 with h|h|h
   ·have e1:pol=2:=by rw[←HP1.out,if_pos h]
    have e2:most=0:=by rw[←HP2.out,if_neg (by omega)]
    subst e1 e2;clear HP1 HP2;go_wp2_with fail
    go_meet
    exact⟨zz (CN.out.keep (zlY _ _ _ _) (by omega)),zz (ST.out.setPol 2)⟩
   ·subst h;have e1:pol=0:=by rw[←HP1.out];rfl
    have e2:most=0:=by rw[←HP2.out];rfl
    subst e1 e2;clear HP1 HP2;go_wp2_with fail
    go_meet
    exact⟨CN,ST⟩
   ·have e1:pol=1:=by rw[←HP1.out,if_neg (by omega),if_pos h]
    have e2:most=nn-1:=by rw[←HP2.out,if_pos h]
    have h2:0≤nn:=by omega
    have h3:-9223372036854775808≤nn-1:=by omega
    have h4:nn-1≤9223372036854775807:=by omega
    have HE1:=zz e1;have HE2:=zz e2;clear HP1 HP2 e1 e2;go_wp2_with fail
    go_region
    ·go_wp2_with fail
     go_meet
     have q1:=HE1.out;have q2:=HE2.out;subst q1 q2;have k1:=zlY w5 b0 5 (.int .i64 1);have k2:=zlY (w5.setCell ⟨b0,5,none⟩ (.int .i64 1)) b0 6 (.int .i64 (nn-1));have z:=(CN.out.keep k1 (by omega)).keep k2 (by omega);exact⟨zz (zaa (zae (Below.refl _ _) 1) z),zz ((ST.out.setPol 1).setMost (nn-1)).drew⟩
  case rest=>
   clear CN ST x2 y5 y6 yz HP1 HP2;obtain⟨CN,ST⟩:=hcut;have x4:wc.cell? ⟨w.heap.size,4,none⟩=some (.slice A l.length c):=CN.out.cell 4;clear CN;go_wp2_with fail;clear x4
   go_loopw [29] (λs29 wr=>∃(i:Nat) (lb:Nat→Nat) (vars:List Var') (Av:Option Addr) (cv:Nat) (on:List Hnd) (Ao:Option Addr) (co:Nat),i≤l.length∧vars.length≤i∧on.length≤i∧s29=.int .i64 i∧Hid (vars++((l.drop i).filter (λk=>decide (k.kind=9))).map zkT=rv)∧Hid (on++((l.drop i).filter (λk=>decide (k.kind=10))).map zkv=ro)∧Hid (AcSt w wr b0 lb tx ps Ap cp vars Av cv on Ao co pol most)) (λs29 _=>l.length-(intOf s29).toNat)
   case atStart=>exact⟨0,λ_=>2,[],none,0,[],none,0,by omega,by simp,by simp,rfl,HV0,HO0,ST⟩
   case round=>
    clear HV0 HO0 ST;obtain⟨i,lb,vars,Av,cv,on,Ao,co,hi,hvl,hol,rfl,HV,HO,HB⟩:=hrel
    by_cases hlt:i<l.length
    ·obtain⟨b,off,y,e,_,hget,A',c',p0,p1,p2,p3,p4,r5⟩:=zbN (HR0.out.belows HB.out.low) hlt;subst e;have hin:(i:Int)<l.length:=by omega
     obtain⟨w6,hw6,hb6,hx6⟩:=zai wr #[.int .i64 y.kind,.string y.text,.int .i64 y.n,.int .i64 y.at',.slice A' y.kids.length c'] 25;have s6:w6.heap.size=wr.heap.size+1:=by rw[←hw6];simp
     have q0:w6.cell? ⟨wr.heap.size,0,none⟩=some (.int .i64 y.kind):=hx6.cell 0;have q1:w6.cell? ⟨wr.heap.size,1,none⟩=some (.string y.text):=hx6.cell 1;have q4:w6.cell? ⟨wr.heap.size,4,none⟩=some (.slice A' y.kids.length c'):=hx6.cell 4;have hym:=List.mem_of_getElem? hget;have hyf:=zaM HF.out hym;have hys:=zaY hym;have hys2:zaq y.kids≤y.size:=by cases y;rw[zaE];show zaq _≤_;exact Nat.le_add_left _ _
     have hsy:zaq y.kids≤2097152:=by have:=HS.out;omega
     by_cases hk9:y.kind=9
     ·have e9:(y.kind == 9)=true:=by rw[beq_iff_eq];exact hk9
      have hsl:∀q,q<wr.heap.size→(λq=>if q<wr.heap.size then lb q else 0) q=lb q:=λq hq=>if_pos hq;obtain⟨lb2,hlb2⟩:∃g:Nat→Nat,(λq=>if q<wr.heap.size then lb q else 0)=g:=⟨_,rfl⟩;rw[hlb2] at hsl;have hnew:∀q,wr.heap.size≤q→lb2 q=0:=λq hq=>by rw[←hlb2];exact if_neg (by omega)
      have Z2:=HB.out.relab hsl;have Z6:=zz (Z2.below hb6);have y3:w6.cell? ⟨b0,3,none⟩=some (.slice Av vars.length cv):=Z6.out.box.cell 3;have HNW:=zz hnew;have hb0:=Z2.box.lt;have hle2:=HB.out.le;have KY:=zz (zgX y.kids A' c' w6.drew (HK.out.vars y hym hk9) (zay hyf) hsy (r5.belows (zae hb6 1)));obtain⟨t,ht⟩:∃t,zby y.kids=t:=⟨_,rfl⟩;rw[ht] at KY
      have HQ:Hid (vars++[(⟨y.text,t⟩:Var')]++((l.drop (i+1)).filter (λk=>decide (k.kind=9))).map zkT=rv):=zz (by
       have q:=HV.out;rw[zak hget,List.filter_cons_of_pos (by simpa using hk9),List.map_cons] at q;rw[←q,←ht];simp[zkT])
      have HM:Hid (on++((l.drop (i+1)).filter (λk=>decide (k.kind=10))).map zkv=ro):=zz (by
       have q:=HO.out
       rwa [zak hget,List.filter_cons_of_neg (by simp[hk9])] at q)
      have HX6:=zz hx6;clear hlb2 hsl hnew Z2 ht hyf hys hys2 hsy hym r5 hb6 hx6 hget HB HV HO hk9;go_wp2_with fail;clear hw6
      go_region_law (first
       |(go_simp;go_at_call 67;(with_reducible refine KY.out.mono ?_);rintro e w7 ⟨hb7,A7,c7,rfl,hr7⟩;have hb7':=zaF hb7;have Z7:=zz (Z6.out.below hb7');have X7:=zz (zaa hb7' HX6.out);have sl7:=hb7'.size;have hbb:=zag w7 (.cells #[.string y.text,.int .i64 t.kind,.string t.name,.slice A7 t.args.length c7,.int .i64 0,.int .i64 0,.int .i64 0,.string ⟨#[]⟩,.slice none 0 0] 90);have Z8:=zz (Z7.out.below hbb);have X8:=zz (zaa hbb X7.out);have sl8:=hbb.size;have R8:=zz (zaQ hbb hr7);have y3a:w7.cell? ⟨b0,3,none⟩=some (.slice Av vars.length cv):=Z7.out.box.cell 3;have q1a:w7.cell? ⟨wr.heap.size,1,none⟩=some (.string y.text):=X7.out.cell 1;have q4a:w7.cell? ⟨wr.heap.size,4,none⟩=some (.slice A' y.kids.length c'):=X7.out.cell 4;have y3b:(w7.alloc (.cells #[.string y.text,.int .i64 t.kind,.string t.name,.slice A7 t.args.length c7,.int .i64 0,.int .i64 0,.int .i64 0,.string ⟨#[]⟩,.slice none 0 0] 90)).cell? ⟨b0,3,none⟩=some (.slice Av vars.length cv):=Z8.out.box.cell 3;have q1b:(w7.alloc (.cells #[.string y.text,.int .i64 t.kind,.string t.name,.slice A7 t.args.length c7,.int .i64 0,.int .i64 0,.int .i64 0,.string ⟨#[]⟩,.slice none 0 0] 90)).cell? ⟨wr.heap.size,1,none⟩=some (.string y.text):=X8.out.cell 1;have q4b:(w7.alloc (.cells #[.string y.text,.int .i64 t.kind,.string t.name,.slice A7 t.args.length c7,.int .i64 0,.int .i64 0,.int .i64 0,.string ⟨#[]⟩,.slice none 0 0] 90)).cell? ⟨wr.heap.size,4,none⟩=some (.slice A' y.kids.length c'):=X8.out.cell 4;clear hb7 hb7' hr7 hbb)
       |(refine zbC ziy zoG Tryz.underlying47 rfl (by omega) (by omega) (by rfl) _ _ (by rfl) (Lab w.heap.size b0 lb2 0) ⟨(by omega),(by omega),(HNW.out _ (by omega))⟩ (.slice Av vars.length cv) vars (by rfl) Z8.out.vs ⟨w7.heap.size,0,none⟩ 1 (⟨y.text,t⟩:Var') [.string y.text,.int .i64 t.kind,.string t.name,.slice A7 t.args.length c7,.int .i64 0,.int .i64 0,.int .i64 0,.string ⟨#[]⟩,.slice none 0 0] rfl (by rfl) (zaU _ rfl _ _) (λj u hj=>ziX (zcZ (lo:=w6.heap.size) R8.out (by omega) (by omega) (λq hq=>HNW.out q (by omega)) (λg hg=>(Z6.out.vs.below_own g hg).2)) j u hj) (by omega) ?_;intro v' w9 hO hg _;have hO9:OwnS (Lab w.heap.size b0 lb2 0) 90 9 (vars++[(⟨y.text,t⟩:Var')]).length (zap ziy (vars++[(⟨y.text,t⟩:Var')])) w9 v':=(by first|exact hO|(rw[List.length_append];exact hO));obtain⟨LL,hL⟩:∃L,vars++[(⟨y.text,t⟩:Var')]=L:=⟨_,rfl⟩;rw[hL] at hO9;have q:=HQ.out;rw[hL] at q;have HQ2:=zz q;have zL:LL.length≤vars.length+1:=(by rw[←hL];simp);obtain⟨A9,c9,rfl,_⟩:=hO9.owned0.rd.sl_inv;have hch:Chg (Lab w.heap.size b0 lb2 0) _ w9:=Chg.of_grown hg (λq hq=>(Z8.out.vs.below_own q hq).1);have hbx:=Z8.out.box.keep hch (λhq=>hq.2.1 rfl);have Z9:=zz (Z8.out.grown9 hO9 hg);have y9:w9.cell? ⟨b0,3,none⟩=some (.slice Av vars.length cv):=hbx.cell 3;have z9:=hbx.fz;clear hO hO9 hg hL q hch hbx HQ Z8 R8)
       |(refine zbK ziy zoG Tryz.underlying47 rfl (by omega) (by omega) (by rfl) _ _ (by rfl) (Lab w.heap.size b0 lb2 0) ⟨(by omega),(by omega),(HNW.out _ (by omega))⟩ (.slice Av vars.length cv) vars (by rfl) Z8.out.vs ⟨w7.heap.size,0,none⟩ 1 (⟨y.text,t⟩:Var') [.string y.text,.int .i64 t.kind,.string t.name,.slice A7 t.args.length c7,.int .i64 0,.int .i64 0,.int .i64 0,.string ⟨#[]⟩,.slice none 0 0] rfl (by rfl) (zaU _ rfl _ _) (λj u hj=>ziX (zcZ (lo:=w6.heap.size) R8.out (by omega) (by omega) (λq hq=>HNW.out q (by omega)) (λg hg=>(Z6.out.vs.below_own g hg).2)) j u hj) (by omega) ?_;intro v' w9 hO hg _;have hO9:OwnS (Lab w.heap.size b0 lb2 0) 90 9 (vars++[(⟨y.text,t⟩:Var')]).length (zap ziy (vars++[(⟨y.text,t⟩:Var')])) w9 v':=(by first|exact hO|(rw[List.length_append];exact hO));obtain⟨LL,hL⟩:∃L,vars++[(⟨y.text,t⟩:Var')]=L:=⟨_,rfl⟩;rw[hL] at hO9;have q:=HQ.out;rw[hL] at q;have HQ2:=zz q;have zL:LL.length≤vars.length+1:=(by rw[←hL];simp);obtain⟨A9,c9,rfl,_⟩:=hO9.owned0.rd.sl_inv;have hch:Chg (Lab w.heap.size b0 lb2 0) _ w9:=Chg.of_grown hg (λq hq=>(Z8.out.vs.below_own q hq).1);have hbx:=Z8.out.box.keep hch (λhq=>hq.2.1 rfl);have Z9:=zz (Z8.out.grown9 hO9 hg);have y9:w9.cell? ⟨b0,3,none⟩=some (.slice Av vars.length cv):=hbx.cell 3;have z9:=hbx.fz;clear hO hO9 hg hL q hch hbx HQ Z8 R8))
      all_goals (
       go_wp2_with fail;exact⟨⟨i+1,lb2,LL,A9,c9,on,Ao,co,by omega,by omega,by omega,by go_num,HQ2,HM,Z9⟩,by simp[intOf];omega⟩)
     ·have hkn:=hk9;clear hk9
      by_cases hk9:y.kind=10
      ·have e10:(y.kind == 10)=true:=by rw[beq_iff_eq];exact hk9
       have e9:(y.kind == 9)=false:=by rw[beq_eq_false_iff_ne];exact hkn
       have hsl:∀q,q<wr.heap.size→(λq=>if q<wr.heap.size then lb q else 1) q=lb q:=λq hq=>if_pos hq;obtain⟨lb2,hlb2⟩:∃g:Nat→Nat,(λq=>if q<wr.heap.size then lb q else 1)=g:=⟨_,rfl⟩;rw[hlb2] at hsl;have hnew:∀q,wr.heap.size≤q→lb2 q=1:=λq hq=>by rw[←hlb2];exact if_neg (by omega)
       have Z2:=HB.out.relab hsl;have Z6:=zz (Z2.below hb6);have y4:w6.cell? ⟨b0,4,none⟩=some (.slice Ao on.length co):=Z6.out.box.cell 4;have HNW:=zz hnew;have hb0:=Z2.box.lt;have hle2:=HB.out.le;have KY:=zz (zdR y.kids A' c' w6.drew (HK.out.on y hym hk9) (zay hyf) hsy (r5.belows (zae hb6 1)));obtain⟨t,ht⟩:∃t,zbk y.kids=t:=⟨_,rfl⟩;rw[ht] at KY
       have HQ:Hid (on++[(⟨y.text,t⟩:Hnd)]++((l.drop (i+1)).filter (λk=>decide (k.kind=10))).map zkv=ro):=zz (by
        have q:=HO.out;rw[zak hget,List.filter_cons_of_pos (by simpa using hk9),List.map_cons] at q;rw[←q,←ht];simp[zkv])
       have HM:Hid (vars++((l.drop (i+1)).filter (λk=>decide (k.kind=9))).map zkT=rv):=zz (by
        have q:=HV.out
        rwa [zak hget,List.filter_cons_of_neg (by simp[hk9])] at q)
       have HX6:=zz hx6;clear hlb2 hsl hnew Z2 ht hyf hys hys2 hsy hym r5 hb6 hx6 hget HB HV HO hk9;go_wp2_with fail;clear hw6
       go_region_law (first
        |(go_simp;go_at_call 65;(with_reducible refine KY.out.mono ?_);rintro e w7 ⟨hb7,A7,c7,rfl,hr7⟩;have hb7':=zaF hb7;have Z7:=zz (Z6.out.below hb7');have X7:=zz (zaa hb7' HX6.out);have sl7:=hb7'.size;have hbb:=zag w7 (.cells #[.string y.text,.slice A7 t.length c7,.int .i64 0,.slice none 0 0] 74);have Z8:=zz (Z7.out.below hbb);have X8:=zz (zaa hbb X7.out);have sl8:=hbb.size;have R8:=zz (zaQ hbb hr7);have y4a:w7.cell? ⟨b0,4,none⟩=some (.slice Ao on.length co):=Z7.out.box.cell 4;have q1a:w7.cell? ⟨wr.heap.size,1,none⟩=some (.string y.text):=X7.out.cell 1;have q4a:w7.cell? ⟨wr.heap.size,4,none⟩=some (.slice A' y.kids.length c'):=X7.out.cell 4;have y4b:(w7.alloc (.cells #[.string y.text,.slice A7 t.length c7,.int .i64 0,.slice none 0 0] 74)).cell? ⟨b0,4,none⟩=some (.slice Ao on.length co):=Z8.out.box.cell 4;have q1b:(w7.alloc (.cells #[.string y.text,.slice A7 t.length c7,.int .i64 0,.slice none 0 0] 74)).cell? ⟨wr.heap.size,1,none⟩=some (.string y.text):=X8.out.cell 1;have q4b:(w7.alloc (.cells #[.string y.text,.slice A7 t.length c7,.int .i64 0,.slice none 0 0] 74)).cell? ⟨wr.heap.size,4,none⟩=some (.slice A' y.kids.length c'):=X8.out.cell 4;clear hb7 hb7' hr7 hbb)
        |(refine zbC zgs zoR Tryz.underlying48 rfl (by omega) (by omega) (by rfl) _ _ (by rfl) (Lab w.heap.size b0 lb2 1) ⟨(by omega),(by omega),(HNW.out _ (by omega))⟩ (.slice Ao on.length co) on (by rfl) Z8.out.os ⟨w7.heap.size,0,none⟩ 1 (⟨y.text,t⟩:Hnd) [.string y.text,.slice A7 t.length c7,.int .i64 0,.slice none 0 0] rfl (by rfl) (zaU _ rfl _ _) (λj u hj=>zjw (zcZ (lo:=w6.heap.size) R8.out (by omega) (by omega) (λq hq=>HNW.out q (by omega)) (λg hg=>(Z6.out.os.below_own g hg).2)) j u hj) (by omega) ?_;intro v' w9 hO hg _;have hO9:OwnS (Lab w.heap.size b0 lb2 1) 74 4 (on++[(⟨y.text,t⟩:Hnd)]).length (zap zgs (on++[(⟨y.text,t⟩:Hnd)])) w9 v':=(by first|exact hO|(rw[List.length_append];exact hO));obtain⟨LL,hL⟩:∃L,on++[(⟨y.text,t⟩:Hnd)]=L:=⟨_,rfl⟩;rw[hL] at hO9;have q:=HQ.out;rw[hL] at q;have HQ2:=zz q;have zL:LL.length≤on.length+1:=(by rw[←hL];simp);obtain⟨A9,c9,rfl,_⟩:=hO9.owned0.rd.sl_inv;have hch:Chg (Lab w.heap.size b0 lb2 1) _ w9:=Chg.of_grown hg (λq hq=>(Z8.out.os.below_own q hq).1);have hbx:=Z8.out.box.keep hch (λhq=>hq.2.1 rfl);have Z9:=zz (Z8.out.grown10 hO9 hg);have y9:w9.cell? ⟨b0,4,none⟩=some (.slice Ao on.length co):=hbx.cell 4;have z9:=hbx.fz;clear hO hO9 hg hL q hch hbx HQ Z8 R8)
        |(refine zbK zgs zoR Tryz.underlying48 rfl (by omega) (by omega) (by rfl) _ _ (by rfl) (Lab w.heap.size b0 lb2 1) ⟨(by omega),(by omega),(HNW.out _ (by omega))⟩ (.slice Ao on.length co) on (by rfl) Z8.out.os ⟨w7.heap.size,0,none⟩ 1 (⟨y.text,t⟩:Hnd) [.string y.text,.slice A7 t.length c7,.int .i64 0,.slice none 0 0] rfl (by rfl) (zaU _ rfl _ _) (λj u hj=>zjw (zcZ (lo:=w6.heap.size) R8.out (by omega) (by omega) (λq hq=>HNW.out q (by omega)) (λg hg=>(Z6.out.os.below_own g hg).2)) j u hj) (by omega) ?_;intro v' w9 hO hg _;have hO9:OwnS (Lab w.heap.size b0 lb2 1) 74 4 (on++[(⟨y.text,t⟩:Hnd)]).length (zap zgs (on++[(⟨y.text,t⟩:Hnd)])) w9 v':=(by first|exact hO|(rw[List.length_append];exact hO));obtain⟨LL,hL⟩:∃L,on++[(⟨y.text,t⟩:Hnd)]=L:=⟨_,rfl⟩;rw[hL] at hO9;have q:=HQ.out;rw[hL] at q;have HQ2:=zz q;have zL:LL.length≤on.length+1:=(by rw[←hL];simp);obtain⟨A9,c9,rfl,_⟩:=hO9.owned0.rd.sl_inv;have hch:Chg (Lab w.heap.size b0 lb2 1) _ w9:=Chg.of_grown hg (λq hq=>(Z8.out.os.below_own q hq).1);have hbx:=Z8.out.box.keep hch (λhq=>hq.2.1 rfl);have Z9:=zz (Z8.out.grown10 hO9 hg);have y9:w9.cell? ⟨b0,4,none⟩=some (.slice Ao on.length co):=hbx.cell 4;have z9:=hbx.fz;clear hO hO9 hg hL q hch hbx HQ Z8 R8))
       all_goals (
        go_wp2_with fail;exact⟨⟨i+1,lb2,vars,Av,cv,LL,A9,c9,by omega,by omega,by omega,by go_num,HM,HQ2,Z9⟩,by simp[intOf];omega⟩)
      ·have e9:(y.kind == 9)=false:=by rw[beq_eq_false_iff_ne];exact hkn
       have e10:(y.kind == 10)=false:=by rw[beq_eq_false_iff_ne];exact hk9
       have HQ:Hid (vars++((l.drop (i+1)).filter (λk=>decide (k.kind=9))).map zkT=rv):=zz (by
        have q:=HV.out
        rwa [zak hget,List.filter_cons_of_neg (by simp[hkn])] at q)
       have HM:Hid (on++((l.drop (i+1)).filter (λk=>decide (k.kind=10))).map zkv=ro):=zz (by
        have q:=HO.out
        rwa [zak hget,List.filter_cons_of_neg (by simp[hk9])] at q)
       have Z6:=zz (HB.out.below hb6);clear hyf hys hys2 hsy hym r5 hb6 hx6 hget HB HV HO s6 hkn hk9;go_wp2_with fail;exact⟨⟨i+1,lb,vars,Av,cv,on,Ao,co,by omega,by omega,by omega,by go_num,HQ,HM,Z6⟩,by simp[intOf];omega⟩
    ·have HQ:Hid (vars=rv):=zz (by
      have q:=HV.out;rw[List.drop_eq_nil_of_le (by omega)] at q
      simpa using q)
     have HM:Hid (on=ro):=zz (by
      have q:=HO.out;rw[List.drop_eq_nil_of_le (by omega)] at q
      simpa using q)
     clear HV HO;have y0:wr.cell? ⟨b0,0,none⟩=some (.string tx):=HB.out.box.cell 0;have y1:wr.cell? ⟨b0,1,none⟩=some (.slice Ap ps.length cp):=HB.out.box.cell 1;have y2:wr.cell? ⟨b0,2,none⟩=some (.int .i64 0):=HB.out.box.cell 2;have y3:wr.cell? ⟨b0,3,none⟩=some (.slice Av vars.length cv):=HB.out.box.cell 3;have y4:wr.cell? ⟨b0,4,none⟩=some (.slice Ao on.length co):=HB.out.box.cell 4;have y5:wr.cell? ⟨b0,5,none⟩=some (.int .i64 pol):=HB.out.box.cell 5;have y6:wr.cell? ⟨b0,6,none⟩=some (.int .i64 most):=HB.out.box.cell 6;have x0:=HB.out.res.cell 0;have x1:=HB.out.res.cell 1;have x2:=HB.out.res.cell 2;have x3:=HB.out.res.cell 3;have x4:=HB.out.res.cell 4;have x5:=HB.out.res.cell 5;have x6:=HB.out.res.cell 6;have xz:=HB.out.res.fz;go_wp2_with fail;have hc:=zhW (w:=wr) (g:=w.heap.size+1) (.string tx) (.slice Ap ps.length cp) (.int .i64 0) (.slice Av vars.length cv) (.slice Ao on.length co) (.int .i64 pol) (.int .i64 most);have hrd:∀{d:D} {v:Value} {i:Nat},Rd (λq=>Lab w.heap.size b0 lb i q∧q<wr.heap.size) wr d v→Rd (Bt w.heap.size _) _ d v:=λh=>(hc.rd (λb hb=>⟨hb.2,by have:=hb.1.1;omega⟩) h).weaken (λq hq=>⟨by have:=hq.1.1;omega,Nat.lt_of_lt_of_le hq.2 hc.size⟩);refine bodyPost_ret (zdJ (by rfl) _ _ (w.heap.size+1) _ _ (0,0) _ rfl (zln _ _ _ _ _ _ _ HB.out.res rfl) Tryz.underlying50 rfl zri) rfl ⟨?_,Ap,cp,Av,cv,Ao,co,by rw[←HQ.out,←HM.out],?_⟩
     ·exact HB.out.low.trans (hc.below HB.out.low.size (λq hq=>by omega))
     ·rw[←HQ.out,←HM.out];exact⟨hrd HB.out.par,hrd HB.out.vs.rd,hrd HB.out.os.rd⟩
end Go.Proofs.YtjdpocmlimkjjaaGreat
