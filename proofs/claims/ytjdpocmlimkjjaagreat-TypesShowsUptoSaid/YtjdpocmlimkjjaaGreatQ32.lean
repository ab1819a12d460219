/- Conditions: those in each statement. -/
import Derived.Test.YtjdpocmlimkjjaaGreatQ31
import Derived.Test.YtjdpocmlimkjjaaGreatQ17
import Derived.Laws.MakeOwn
import Derived.Laws.OwnMore
set_option maxHeartbeats 32000000
set_option maxRecDepth 100000
namespace Go.Proofs.YtjdpocmlimkjjaaGreat
open Go.RowKit Go.MapKept
def rowI (x:Nat):Nat→D:=λ_=>.num .i64 (x:Int)
def znQ (d:Nat × Int):Nat→D
 |0=>.num .i64 (d.1:Int)
 |_=>.num .i64 d.2
theorem zqM:(Tryz.prog.info? 3).map (λi=>(i.zero,i.size,i.bytes))=some (some (.int .i64 0),1,8):=by kernel_rfl
theorem zrd:(Tryz.prog.info? 125).map (λi=>(i.zero,i.size,i.bytes))=some (some (.agg #[.int .i64 0,.int .i64 0]),2,16):=by kernel_rfl
abbrev LB (B:Nat) (lb:Nat→Nat) (i b:Nat):Prop:=B+5≤b∧lb b=i
def Oth (B:Nat) (lb:Nat→Nat) (b:Nat):Prop:=b<B∨(B+5≤b∧lb b=2)
def Mv (B:Nat) (lb:Nat→Nat) (b:Nat):Prop:=B≤b∧(b<B+5∨¬lb b=2)
theorem zpD {B b:Nat} {lb:Nat→Nat} (h:Oth B lb b):¬Mv B lb b:=λm=>by
 unfold Oth at h;unfold Mv at m;rcases h with h|h<;>omega
theorem zrk {B b i:Nat} {lb:Nat→Nat} (h:LB B lb i b) (hi:i≠2):Mv B lb b:=by
 unfold LB at h;unfold Mv;exact⟨by omega,.inr (by omega)⟩
def zfk (l:List Bool):Array Value:=(l.map Value.bool).toArray
section
variable {S:Nat→Prop} {e:TypeId} {k n:Nat} {f:Nat→Nat→D} {w:World} {v:Value}
theorem OwnS.left {A:Option Addr} {c m:Nat} (h:OwnS S e k n f w (.slice A n c)) (hm:m≤n) (h0:A=none→m=0):OwnS S e k m f w (.slice A m c):=by
 rcases h with ⟨h1,h2⟩|⟨g,c',h1,h2,h3,h4,h5,h6⟩
 ·injection h1 with e1 e2 e3;subst e1 e3;obtain rfl:=h0 rfl;exact .inl ⟨rfl,rfl⟩
 ·injection h1 with e1 e2 e3;subst e1 e3;exact .inr ⟨g,c,rfl,h2,by omega,h4,h5,λa ha=>h6 a (by omega)⟩
theorem OwnS.alike {f':Nat→Nat→D} (h:OwnS S e k n f w v) (hf:∀a,a<n→f' a=f a):OwnS S e k n f' w v:=by
 rcases h with h|⟨g,c,h1,h2,h3,h4,h5,h6⟩
 ·exact .inl h
 ·exact .inr ⟨g,c,h1,h2,h3,h4,h5,λa ha=>by rw[hf a ha];exact h6 a ha⟩
theorem OwnS.set1 {f':Nat→Nat→D} {g c i j:Nat} {u:Value} (h:OwnS S e k n f w (.slice (some ⟨g,0,none⟩) n c)) (hi:i<n) (hj:j<k) (hf:∀a b,a<n→b<k→¬(a=i∧b=j)→f' a b=f a b)
 (hu:∀(W:World),Rd (λb=>(S b∧b<W.heap.size)∧b≠g) W (f' i j) u):OwnS S e k n f' (w.setCell ⟨g,i*k+j,none⟩ u) (.slice (some ⟨g,0,none⟩) n c):=by
 rcases h with ⟨h1,h2⟩|⟨g',c',h1,h2,h3,h4,h5,h6⟩
 ·cases h1
 injection h1 with e1 e2 e3;injection e1 with e1;injection e1 with e1;subst e1 e3;have hc:Chg (λq=>q=g) w (w.setCell ⟨g,i*k+j,none⟩ u):=(Chg.refl (λq=>q=g) w).setCell (p:=⟨g,i*k+j,none⟩) (.inl rfl) u;obtain⟨cs,h5a,h5b⟩:=h5;have h5c:zac w g cs e:=h5a;have hset:=h5c.set (i*k+j) u;refine .inr ⟨g,c,rfl,h2,h3,h4,⟨_,hset,by simpa using h5b⟩,λa ha b hb=>?_⟩;obtain⟨x,hx,hd⟩:=h6 a ha b hb
 by_cases hab:a=i∧b=j
 ·obtain⟨rfl,rfl⟩:=hab
  have hlt:a*k+b<cs.size:=by
   have h7:=h5c.cell (a*k+b);rw[hx] at h7;exact(Array.getElem?_eq_some_iff.1 h7.symm).1
  refine⟨u,?_,hu _⟩;rw[hset.cell];simp[hlt]
 ·refine⟨x,?_,?_⟩
  ·rw[hset.cell,←hx,h5c.cell]
   have:¬i*k+j=a*k+b:=λe=>by
    rcases Nat.lt_trichotomy a i with h7|h7|h7
    ·have:=Nat.mul_le_mul_right k h7;rw[Nat.succ_mul] at this;omega
    ·subst h7;exact hab ⟨rfl,by omega⟩
    ·have:=Nat.mul_le_mul_right k h7;rw[Nat.succ_mul] at this;omega
   rw[Array.getElem?_setIfInBounds_ne this]
  ·rw[hf a b ha hb hab];exact(hc.rd (λq hq=>⟨hq.1.2,hq.2⟩) hd).weaken (λq hq=>⟨⟨hq.1.1,Nat.lt_of_lt_of_le hq.1.2 hc.size⟩,hq.2⟩)
end
structure WtAt (W:World) (B:Nat) (lb:Nat→Nat) (L:List (List Nat)) (vs:List Value):Prop where
 box:zac W (B+3) vs.toArray 120
 len:vs.length=L.length
 row:∀j r,L[j]?=some r→∃A c,vs[j]?=some (.slice A r.length c)∧OwnS (LB B lb (3+j)) 3 1 r.length (zap rowI r) W (.slice A r.length c)
theorem WtAt.chg {W W':World} {B:Nat} {lb:Nat→Nat} {L:List (List Nat)} {vs:List Value} {M:Nat→Prop} (h:WtAt W B lb L vs) (hc:Chg M W W') (h3:¬M (B+3)) (hm:∀q i,M q→q<W.heap.size→3≤i→¬LB B lb i q):WtAt W' B lb L vs:=
 ⟨h.box.keep hc h3,h.len,λj r hj=>by
  obtain⟨A,c,h1,h2⟩:=h.row j r hj;exact⟨A,c,h1,h2.chg hc (λq hq hl=>hm q (3+j) hq hl (by omega))⟩⟩
structure LpSt (w W:World) (lb:Nat→Nat) (s:Lq) (An:Option Addr) (cn:Nat) (Ar:Option Addr) (cr:Nat) (vs:List Value):Prop where
 low:Below w.heap.size w W
 res:zac W w.heap.size #[.int .i64 0,.int .i64 0] 83
 fin:zac W (w.heap.size+1) (zfk s.fin) 4
 fbx:zac W (w.heap.size+2) #[.slice (some ⟨w.heap.size+1,0,none⟩) s.fin.length s.fin.length] 117
 wt:WtAt W w.heap.size lb s.wait vs
 rbx:zac W (w.heap.size+4) #[.slice Ar s.ready.length cr] 120
 o0:OwnS (LB w.heap.size lb 0) 125 2 s.needs.length (zap znQ s.needs) W (.slice An s.needs.length cn)
 o1:OwnS (LB w.heap.size lb 1) 3 1 s.ready.length (zap rowI s.ready) W (.slice Ar s.ready.length cr)
section
variable {w W W':World} {lb lb':Nat→Nat} {s:Lq} {An Ar A':Option Addr} {cn cr c':Nat} {vs:List Value}
theorem LpSt.out (h:LpSt w W lb s An cn Ar cr vs) {M:Nat→Prop} (hc:Chg M W W') (hm:∀q,M q→w.heap.size+5≤q∧(q<W.heap.size→lb q=2)):LpSt w W' lb s An cn Ar cr vs:=by
 have hs:∀i,i<5→¬M (w.heap.size+i):=λi hi hq=>by have:=(hm _ hq).1;omega
 have hl:∀i,i≠2→∀q,M q→q<W.heap.size→¬LB w.heap.size lb i q:=λi hi q hq hlt hb=>by have:=(hm q hq).2 hlt;have:=hb.2;omega
 exact⟨h.low.trans (hc.below h.low.size (λq hq=>by have:=(hm q hq).1;omega)),h.res.keep hc (hs 0 (by omega)),h.fin.keep hc (hs 1 (by omega)),h.fbx.keep hc (hs 2 (by omega)),h.wt.chg hc (hs 3 (by omega)) (λq i hq hlt hi=>hl i (by omega) q hq hlt),h.rbx.keep hc (hs 4 (by omega)),h.o0.chg hc (hl 0 (by omega)),h.o1.chg hc (hl 1 (by omega))⟩
theorem LpSt.below (h:LpSt w W lb s An cn Ar cr vs) (k:Below W.heap.size W W'):LpSt w W' lb s An cn Ar cr vs:=h.out (Chg.of_below (M:=λ_=>False) k) (λ_ hq=>hq.elim)
theorem LpSt.relab (h:LpSt w W lb s An cn Ar cr vs) (hl:∀q,q<W.heap.size→lb' q=lb q):LpSt w W lb' s An cn Ar cr vs:=by
 have hs:∀i b,b<W.heap.size→LB w.heap.size lb i b→LB w.heap.size lb' i b:=λi b hb hq=>⟨hq.1,by rw[hl b hb];exact hq.2⟩
 exact⟨h.low,h.res,h.fin,h.fbx,⟨h.wt.box,h.wt.len,λj r hj=>by
  obtain⟨A,c,h1,h2⟩:=h.wt.row j r hj;exact⟨A,c,h1,h2.sub (hs _)⟩⟩,h.rbx,h.o0.sub (hs _),h.o1.sub (hs _)⟩
theorem zdn {d:D} {v:Value} {n:Nat} (h:Rd (LtP (Oth w.heap.size lb) n) W d v) (hn:n≤W.heap.size) (hl:∀q,q<W.heap.size→lb' q=lb q):Rd (LtP (Oth w.heap.size lb') n) W d v:=
 h.weaken (λq hq=>⟨hq.1.elim .inl (λx=>.inr ⟨x.1,by rw[hl q (by have:=hq.2;omega)];exact x.2⟩),hq.2⟩)
theorem ziq {d:D} {v:Value} {n:Nat} (h:Rd (LtP (Oth w.heap.size lb) n) W d v) (hn:n≤W.heap.size) (hc:Chg (Mv w.heap.size lb) W W'):Rd (LtP (Oth w.heap.size lb) n) W' d v:=
 hc.rd (λ_ hb=>⟨Nat.lt_of_lt_of_le hb.2 hn,zpD hb.1⟩) h
theorem zdS {d:D} {v:Value} {n:Nat} (h:Rd (LtP (Oth w.heap.size lb) n) W d v) (hn:n≤W.heap.size) (hc:Below W.heap.size W W'):Rd (LtP (Oth w.heap.size lb) n) W' d v:=ziq h hn (Chg.of_below hc)
theorem zqI {d:D} {v:Value} {n g:Nat} {u:Value} {j:Nat} (h:Rd (LtP (Oth w.heap.size lb) n) W d v) (hn:n≤W.heap.size) (hg:n≤g):Rd (LtP (Oth w.heap.size lb) n) (W.setCell ⟨g,j,none⟩ u) d v:=
 ((Chg.refl (λq=>q=g) W).setCell (p:=⟨g,j,none⟩) (.inl rfl) u).rd (λb hb=>⟨Nat.lt_of_lt_of_le hb.2 hn,λe=>by have:=hb.2;omega⟩) h
theorem LpSt.finSet (h:LpSt w W lb s An cn Ar cr vs) (i:Nat):LpSt w (W.setCell ⟨w.heap.size+1,i,none⟩ (.bool true)) lb {s with fin:=s.fin.set i true} An cn Ar cr vs:=by
 have hc:Chg (λq=>q=w.heap.size+1) W (W.setCell ⟨w.heap.size+1,i,none⟩ (.bool true)):=(Chg.refl (λq=>q=w.heap.size+1) W).setCell (p:=⟨w.heap.size+1,i,none⟩) (.inl rfl) _;have hl:∀i q,q=w.heap.size+1→q<W.heap.size→¬LB w.heap.size lb i q:=λi q hq _ hb=>by have:=hb.1;omega
 have hf:=h.fin.set i (.bool true);refine⟨h.low.trans (hc.below h.low.size (λq hq=>by omega)),h.res.keep hc (by omega),?_,?_,h.wt.chg hc (by omega) (λq i hq hlt _=>hl i q hq hlt),h.rbx.keep hc (by omega),h.o0.chg hc (hl 0),h.o1.chg hc (hl 1)⟩
 ·have e:zfk (s.fin.set i true)=(zfk s.fin).setIfInBounds i (.bool true):=by
   unfold zfk;apply Array.toList_inj.1;simp[List.map_set]
  rw[e];exact hf
 ·have:=h.fbx.keep hc (by omega)
  simpa using this
theorem LpSt.grownR {L:List Nat} (h:LpSt w W lb s An cn Ar cr vs) (hO:OwnS (LB w.heap.size lb 1) 3 1 L.length (zap rowI L) W' (.slice A' L.length c')) (hg:W.grownBy W' (Value.slice Ar s.ready.length cr).ownBlock) :
 LpSt w (W'.setCell ⟨w.heap.size+4,0,none⟩ (.slice A' L.length c')) lb {s with ready:=L} An cn A' c' vs:=by
 have hch:Chg (LB w.heap.size lb 1) W W':=Chg.of_grown hg (λq hq=>(h.o1.below_own q hq).1);have hc2:Chg (λq=>q=w.heap.size+4) W' (W'.setCell ⟨w.heap.size+4,0,none⟩ (.slice A' L.length c')):=(Chg.refl (λq=>q=w.heap.size+4) W').setCell (p:=⟨w.heap.size+4,0,none⟩) (.inl rfl) _;have hl:∀i,i≠1→∀q,LB w.heap.size lb 1 q→q<W.heap.size→¬LB w.heap.size lb i q:=λi hi q hq _ hb=>by have:=hq.2;have:=hb.2;omega
 have hl2:∀i,∀q,q=w.heap.size+4→q<W'.heap.size→¬LB w.heap.size lb i q:=λi q hq _ hb=>by have:=hb.1;omega
 have hs:∀i,i<5→¬LB w.heap.size lb 1 (w.heap.size+i):=λi hi hq=>by have:=hq.1;omega
 have hlow:=h.low.trans (hch.below h.low.size (λq hq=>by have:=hq.1;omega));refine⟨hlow.trans (hc2.below hlow.size (λq hq=>by omega)),(h.res.keep hch (hs 0 (by omega))).keep hc2 (by omega),(h.fin.keep hch (hs 1 (by omega))).keep hc2 (by omega),(h.fbx.keep hch (hs 2 (by omega))).keep hc2 (by omega),(h.wt.chg hch (hs 3 (by omega)) (λq i hq hlt hi=>hl i (by omega) q hq hlt)).chg hc2 (by omega) (λq i hq hlt _=>hl2 i q hq hlt),?_,(h.o0.chg hch (hl 0 (by omega))).chg hc2 (hl2 0),hO.chg hc2 (hl2 1)⟩;have:=(h.rbx.keep hch (hs 4 (by omega))).set 0 (.slice A' L.length c')
 simpa using this
theorem LpSt.take (h:LpSt w W lb s An cn Ar cr vs) (h0:0<s.ready.length):LpSt w (W.setCell ⟨w.heap.size+4,0,none⟩ (.slice Ar (s.ready.length-1) cr)) lb {s with ready:=s.ready.dropLast} An cn Ar cr vs:=by
 have hc2:Chg (λq=>q=w.heap.size+4) W (W.setCell ⟨w.heap.size+4,0,none⟩ (.slice Ar (s.ready.length-1) cr)):=(Chg.refl (λq=>q=w.heap.size+4) W).setCell (p:=⟨w.heap.size+4,0,none⟩) (.inl rfl) _;have hl2:∀i,∀q,q=w.heap.size+4→q<W.heap.size→¬LB w.heap.size lb i q:=λi q hq _ hb=>by have:=hb.1;omega
 have hlen:s.ready.dropLast.length=s.ready.length-1:=List.length_dropLast;refine⟨h.low.trans (hc2.below h.low.size (λq hq=>by omega)),h.res.keep hc2 (by omega),h.fin.keep hc2 (by omega),h.fbx.keep hc2 (by omega),h.wt.chg hc2 (by omega) (λq i hq hlt _=>hl2 i q hq hlt),?_,h.o0.chg hc2 (hl2 0),?_⟩
 ·have:=h.rbx.set 0 (.slice Ar (s.ready.length-1) cr)
  show zac _ _ #[.slice Ar s.ready.dropLast.length cr] _
  rw[hlen]
  simpa using this
 ·show OwnS _ _ 1 s.ready.dropLast.length (zap rowI s.ready.dropLast) _ (.slice Ar s.ready.dropLast.length cr)
  have h1:=(h.o1.chg hc2 (hl2 1)).left (m:=s.ready.length-1) (by omega) (λe=>by
   rcases h.o1 with ⟨_,h2⟩|⟨g,c,h2,_⟩
   ·omega
   ·rw[e] at h2;injection h2 with h2;cases h2)
  rw[hlen];refine h1.alike (λa ha=>?_);have hx:s.ready[a]?=some (s.ready[a]'(by omega)):=List.getElem?_eq_getElem (by omega);rw[zax hx,zax (l:=s.ready.dropLast) (i:=a) (by rw[List.getElem?_dropLast,if_pos (by omega)];exact hx)]
theorem LpSt.grownN {L:List (Nat × Int)} (h:LpSt w W lb s An cn Ar cr vs) (hO:OwnS (LB w.heap.size lb 0) 125 2 L.length (zap znQ L) W' (.slice A' L.length c')) (hg:W.grownBy W' (Value.slice An s.needs.length cn).ownBlock) :
 LpSt w W' lb {s with needs:=L} A' c' Ar cr vs:=by
 have hch:Chg (LB w.heap.size lb 0) W W':=Chg.of_grown hg (λq hq=>(h.o0.below_own q hq).1);have hl:∀i,i≠0→∀q,LB w.heap.size lb 0 q→q<W.heap.size→¬LB w.heap.size lb i q:=λi hi q hq _ hb=>by have:=hq.2;have:=hb.2;omega
 have hs:∀i,i<5→¬LB w.heap.size lb 0 (w.heap.size+i):=λi hi hq=>by have:=hq.1;omega
 exact⟨h.low.trans (hch.below h.low.size (λq hq=>by have:=hq.1;omega)),h.res.keep hch (hs 0 (by omega)),h.fin.keep hch (hs 1 (by omega)),h.fbx.keep hch (hs 2 (by omega)),h.wt.chg hch (hs 3 (by omega)) (λq i hq hlt hi=>hl i (by omega) q hq hlt),h.rbx.keep hch (hs 4 (by omega)),hO,h.o1.chg hch (hl 1 (by omega))⟩
theorem LpSt.grownW {L r:List Nat} {j:Nat} {Aw:Option Addr} {cw:Nat} (h:LpSt w W lb s An cn Ar cr vs) (hj:s.wait[j]?=some r) (hv:vs[j]?=some (.slice Aw r.length cw)) (hO:OwnS (LB w.heap.size lb (3+j)) 3 1 L.length (zap rowI L) W' (.slice A' L.length c')) (hg:W.grownBy W' (Value.slice Aw r.length cw).ownBlock) :
 LpSt w (W'.setCell ⟨w.heap.size+3,j,none⟩ (.slice A' L.length c')) lb {s with wait:=s.wait.set j L} An cn Ar cr (vs.set j (.slice A' L.length c')):=by
 obtain⟨A2,c2,h1,h2⟩:=h.wt.row j r hj;have e:=h1.symm.trans hv;injection e with e;injection e with e1 e2 e3;subst e1 e3;have hch:Chg (LB w.heap.size lb (3+j)) W W':=Chg.of_grown hg (λq hq=>(h2.below_own q hq).1);have hc2:Chg (λq=>q=w.heap.size+3) W' (W'.setCell ⟨w.heap.size+3,j,none⟩ (.slice A' L.length c')):=(Chg.refl (λq=>q=w.heap.size+3) W').setCell (p:=⟨w.heap.size+3,j,none⟩) (.inl rfl) _;have hl:∀i,i≠3+j→∀q,LB w.heap.size lb (3+j) q→q<W.heap.size→¬LB w.heap.size lb i q:=λi hi q hq _ hb=>by have:=hq.2;have:=hb.2;omega
 have hl2:∀i,∀q,q=w.heap.size+3→q<W'.heap.size→¬LB w.heap.size lb i q:=λi q hq _ hb=>by have:=hb.1;omega
 have hs:∀i,i<5→¬LB w.heap.size lb (3+j) (w.heap.size+i):=λi hi hq=>by have:=hq.1;omega
 have hlow:=h.low.trans (hch.below h.low.size (λq hq=>by have:=hq.1;omega));refine⟨hlow.trans (hc2.below hlow.size (λq hq=>by omega)),(h.res.keep hch (hs 0 (by omega))).keep hc2 (by omega),(h.fin.keep hch (hs 1 (by omega))).keep hc2 (by omega),(h.fbx.keep hch (hs 2 (by omega))).keep hc2 (by omega),?_,(h.rbx.keep hch (hs 4 (by omega))).keep hc2 (by omega),(h.o0.chg hch (hl 0 (by omega))).chg hc2 (hl2 0),(h.o1.chg hch (hl 1 (by omega))).chg hc2 (hl2 1)⟩;refine⟨?_,by simpa using h.wt.len,λi x hi=>?_⟩
 ·have:=(h.wt.box.keep hch (hs 3 (by omega))).set j (.slice A' L.length c')
  simpa using this
 ·by_cases hij:i=j
  ·subst hij;have hlt:i<s.wait.length:=(List.getElem?_eq_some_iff.1 hj).1;rw[List.getElem?_set_self hlt] at hi;obtain rfl:=Option.some.inj hi;exact⟨A',c',List.getElem?_set_self (by rw[h.wt.len];exact hlt),hO.chg hc2 (hl2 _)⟩
  ·rw[List.getElem?_set_ne (λe=>hij e.symm)] at hi;obtain⟨A3,c3,h3,h4⟩:=h.wt.row i x hi;exact⟨A3,c3,by rw[List.getElem?_set_ne (λe=>hij e.symm)];exact h3,(h4.chg hch (hl (3+i) (by omega))).chg hc2 (hl2 _)⟩
theorem LpSt.needSet {g c:Nat} {d:Nat × Int} {v:Int} (h:LpSt w W lb s (some ⟨g,0,none⟩) cn Ar cr vs) (hc:s.needs[c]?=some d):LpSt w (W.setCell ⟨g,c*2+1,none⟩ (.int .i64 v)) lb {s with needs:=s.needs.set c (d.1,v) } (some ⟨g,0,none⟩) cn Ar cr vs:=by
 have hlt:c<s.needs.length:=(List.getElem?_eq_some_iff.1 hc).1;have hgS:LB w.heap.size lb 0 g:=(h.o0.below_own g rfl).1;have hch:Chg (λq=>q=g) W (W.setCell ⟨g,c*2+1,none⟩ (.int .i64 v)):=(Chg.refl (λq=>q=g) W).setCell (p:=⟨g,c*2+1,none⟩) (.inl rfl) _;have hl:∀i,i≠0→∀q,q=g→q<W.heap.size→¬LB w.heap.size lb i q:=λi hi q hq _ hb=>by subst hq;have:=hgS.2;have:=hb.2;omega
 have hs:∀i,i<5→¬w.heap.size+i=g:=λi hi hq=>by have:=hgS.1;omega
 refine⟨h.low.trans (hch.below h.low.size (λq hq=>by subst hq;have:=hgS.1;omega)),h.res.keep hch (hs 0 (by omega)),h.fin.keep hch (hs 1 (by omega)),h.fbx.keep hch (hs 2 (by omega)),h.wt.chg hch (hs 3 (by omega)) (λq i hq hlt hi=>hl i (by omega) q hq hlt),h.rbx.keep hch (hs 4 (by omega)),?_,h.o1.chg hch (hl 1 (by omega))⟩
 show OwnS _ _ 2 (s.needs.set c (d.1,v)).length (zap znQ (s.needs.set c (d.1,v))) _ (.slice _ (s.needs.set c (d.1,v)).length cn)
 rw[List.length_set];refine h.o0.set1 hlt (by omega) (λa b ha hb hab=>?_) (λW=>?_)
 ·have hx:s.needs[a]?=some s.needs[a]:=List.getElem?_eq_getElem ha
  by_cases hac:a=c
  ·subst hac;rw[zax hc,zax (l:=s.needs.set a (d.1,v)) (i:=a) (List.getElem?_set_self hlt)];obtain rfl:b=0:=by omega
   rfl
  ·rw[zax hx,zax (l:=s.needs.set c (d.1,v)) (i:=a) (by rw[List.getElem?_set_ne (λe=>hac e.symm)];exact hx)]
 ·rw[zax (l:=s.needs.set c (d.1,v)) (i:=c) (List.getElem?_set_self hlt)];exact rfl
end
theorem zjf {w W:World} {lb:Nat→Nat} {s:Lq} {An Ar:Option Addr} {cn cr:Nat} {vs:List Value} (i:Nat) (h:LpSt w W lb s An cn Ar cr vs) (hi:i<s.fin.length) (hr:s.ready.length≤2097152) (hnew:∀q,W.heap.size≤q→lb q=1) :
 Calls Tryz.prog 62 #[.int .i64 i,.pointer (some ⟨w.heap.size+2,0,none⟩),.pointer (some ⟨w.heap.size+4,0,none⟩)] W (λe W'=>e=.returned (.tuple #[])∧∃A' c',LpSt w W' lb (zbg s i) An cn A' c' vs∧Chg (Mv w.heap.size lb) W W'):=by
 have x0:W.cell? ⟨w.heap.size+2,0,none⟩=some (.slice (some ⟨w.heap.size+1,0,none⟩) s.fin.length s.fin.length):=h.fbx.cell 0;have x1:W.cell? ⟨w.heap.size+1,i,none⟩=some (.bool s.fin[i]):=by rw[h.fin.cell];simp[zfk,hi]
 have hg:s.fin.getD i false=s.fin[i]:=by simp[List.getD,List.getElem?_eq_getElem hi]
 have hii:(i:Int)<s.fin.length:=by omega
 have hs5:=h.rbx.lt;cases hb:s.fin[i] with
 |true=>
  rw[hb] at x1 hg;have e:zbg s i=s:=by unfold zbg;rw[if_pos hg]
  rw[e];have Z:=zz h;clear h hb hg e hnew;go_enter Tryz.func62,Tryz.ntmps62;go_wp2_with fail
  first|go_end0|refine bodyPost_ret (results_none rfl _ _ _) rfl ?_
  first|exact⟨rfl,Ar,cr,Z.out,Chg.refl _ _⟩|exact⟨⟨Ar,cr,Z.out⟩,Chg.refl _ _⟩
 |false=>
  rw[hb] at x1 hg;have e:zbg s i={s with fin:=s.fin.set i true,ready:=s.ready++[i] }:=by unfold zbg;rw[if_neg (by rw[hg];simp)]
  rw[e];obtain⟨L,hL⟩:∃L,s.ready++[i]=L:=⟨_,rfl⟩;rw[hL];have HL:=zz hL;have fz:=h.fin.fz;have Z1:=zz (h.finSet i);have HC1:Hid (Chg (Mv w.heap.size lb) W (W.setCell ⟨w.heap.size+1,i,none⟩ (.bool true))):=zz ((Chg.refl _ W).setCell (p:=⟨w.heap.size+1,i,none⟩) (.inl ⟨by show w.heap.size≤w.heap.size+1;omega,.inl (by show w.heap.size+1<_;omega)⟩) _);obtain⟨w1,h1⟩:∃V,W.setCell ⟨w.heap.size+1,i,none⟩ (.bool true)=V:=⟨_,rfl⟩;have s1:w1.heap.size=W.heap.size:=by rw[←h1];exact World.size_setCell ..
  rw[h1] at Z1 HC1;have HN:Hid (∀q,w1.heap.size≤q→lb q=1):=zz (by rw[s1];exact hnew);have hs6:w.heap.size+4<w1.heap.size:=by omega
  have x2:w1.cell? ⟨w.heap.size+2,0,none⟩=some (.slice (some ⟨w.heap.size+1,0,none⟩) s.fin.length s.fin.length):=by have:=Z1.out.fbx.cell 0;simpa using this
  have x4:w1.cell? ⟨w.heap.size+4,0,none⟩=some (.slice Ar s.ready.length cr):=Z1.out.rbx.cell 0;have ba:=zag w1 (.cells #[.int .i64 i] 3);have Z2:=zz (Z1.out.below ba);have sl2:=ba.size;have sl1:=Z1.out.low.size;clear h hb hg e hnew ba s1 hL;go_enter Tryz.func62,Tryz.ntmps62;go_wp2_with (at_builtin;refine zaV rowI zqM Tryz.underlying120 rfl (by omega) (by omega) rfl _ _ rfl (LB w.heap.size lb 1) ⟨by omega,HN.out _ (by omega)⟩ (.slice Ar s.ready.length cr) s.ready rfl Z2.out.o1 ⟨w1.heap.size,0,none⟩ 1 i [.int .i64 i] rfl rfl ?a2 ?a3 ?a4 ?_)
  case a2=>exact zaU _ (by rfl) _ _
  case a3=>
   intro j u hj;cases j with
   |zero=>simp at hj;exact hj.symm
   |succ j=>simp at hj
  case a4=>omega
  intro v' w3 hO hg _;replace hO:OwnS (LB w.heap.size lb 1) 3 1 (s.ready++[i]).length (zap rowI (s.ready++[i])) w3 v':=by rw[List.length_append];exact hO
  rw[HL.out] at hO;obtain⟨A9,c9,rfl,_⟩:=hO.owned0.rd.sl_inv;have hch:Chg (LB w.heap.size lb 1) _ w3:=Chg.of_grown hg (λq hq=>(Z2.out.o1.below_own q hq).1);have hrb:=Z2.out.rbx.keep hch (λhq=>by have:=hq.1;omega);have y4:w3.cell? ⟨w.heap.size+4,0,none⟩=some (.slice Ar s.ready.length cr):=hrb.cell 0;have z4:=hrb.fz;have Z4:=zz (Z2.out.grownR hO hg);have H4:Hid (Chg (Mv w.heap.size lb) W (w3.setCell ⟨w.heap.size+4,0,none⟩ (.slice A9 L.length c9))):=zz (((HC1.out.thenBelow ((Below.refl _ _).alloc (Nat.le_refl _) _)).trans (hch.mono (λq hq=>zrk hq (by omega))) (λ_ hq=>.inl hq)).setCell (p:=⟨w.heap.size+4,0,none⟩) (.inl ⟨by show w.heap.size≤w.heap.size+4;omega,.inl (by show w.heap.size+4<_;omega)⟩) _);clear hO hg hch hrb HL;go_wp2_with fail
  first|go_end0|refine bodyPost_ret (results_none rfl _ _ _) rfl ?_
  exact⟨rfl,⟨A9,c9,Z4.out⟩,H4.out⟩
theorem zgN {P:Program} (t e:TypeId) (i:TypeInfo) (z:Value) (ht:P.underlying t=some (.slice e)) (hi:P.info? e=some i) (hz:i.zero=some z)
 (kl kc:IntKind) (n c:Nat) (hnc:n≤c) (hbytes:i.bytes*c≤281474976710656) (h63:c≤9223372036854775807) (w:World) :
 (Instr.makeSlice t (.int kl (n:Int)) (.int kc (c:Int))).run P w=.ok (.slice (some ⟨w.heap.size,0,none⟩) n c) (w.alloc (.cells (madeCells z.cells (c*i.size)) e)):=by
 have hb:(i.bytes:Int)*(c:Int)≤281474976710656:=by
  have h:((i.bytes*c:Nat):Int)≤281474976710656:=by omega
  rwa [Int.natCast_mul] at h
 have hr:=run_make (P:=P) w t e i z ht hi hz kl kc n c (by omega) (by omega) hb (by omega);simp only[Int.toNat_natCast] at hr;exact hr
theorem zsa:(Tryz.prog.info? 4).map (λi=>(i.zero,i.size,i.bytes))=some (some (.bool false),1,1):=by kernel_rfl
theorem zra:(Tryz.prog.info? 120).map (λi=>(i.zero,i.size,i.bytes))=some (some (.slice none 0 0),1,24):=by kernel_rfl
theorem zms (z:Value) (n:Nat):madeCells #[z] n=(List.replicate n z).toArray:=by
 apply Array.toList_inj.1;rw[toList_madeCells_one]
theorem znm (n:Nat) (hn:n≤2097152) (W:World):(Instr.makeSlice 117 (.int .i64 (n:Int)) (.int .i64 (n:Int))).run Tryz.prog W=.ok (.slice (some ⟨W.heap.size,0,none⟩) n n) (W.alloc (.cells (zfk (List.replicate n false)) 4)):=by
 obtain⟨ib,hbi,hb0,hb1,hb2⟩:=info_parts zsa;have:=zgN (P:=Tryz.prog) 117 4 ib _ Tryz.underlying117 hbi hb0 .i64 .i64 n n (Nat.le_refl _) (by rw[hb2];omega) (by omega) W;rw[hb1,Nat.mul_one,show (Value.bool false).cells=#[.bool false] from rfl,zms] at this;rw[this];unfold zfk;rw[List.map_replicate]
theorem zoD (n:Nat) (hn:n≤2097152) (W:World):(Instr.makeSlice 119 (.int .i64 (n:Int)) (.int .i64 (n:Int))).run Tryz.prog W=.ok (.slice (some ⟨W.heap.size,0,none⟩) n n) (W.alloc (.cells (List.replicate n (.slice none 0 0)).toArray 120)):=by
 obtain⟨ib,hbi,hb0,hb1,hb2⟩:=info_parts zra;have:=zgN (P:=Tryz.prog) 119 120 ib _ Tryz.underlying119 hbi hb0 .i64 .i64 n n (Nat.le_refl _) (by rw[hb2];omega) (by omega) W;rw[hb1,Nat.mul_one,show (Value.slice none 0 0).cells=#[.slice none 0 0] from rfl,zms] at this;exact this
section
variable {ok:Nat→Prop} {W:World}
theorem zsf {cs:List (List Nd)} {A:Option Addr} {n c k:Nat} (h:Rd ok W (slG 1 ziP cs) (.slice A n c)) (hk:k<cs.length):∃b off x A5 c5,A=some ⟨b,off,none⟩∧ok b∧cs[k]?=some x∧W.cell? ⟨b,off+k,none⟩=some (.slice A5 x.length c5)∧Rd ok W (ns x) (.slice A5 x.length c5):=by
 obtain⟨A0,c0,e,_,_,h3⟩:=h.sl_inv;injection e with e1 e2 e3;subst e1;obtain⟨b,off,rfl,hb,hr⟩:=h3 (by omega);have hx:cs[k]?=some cs[k]:=List.getElem?_eq_getElem hk;obtain⟨u,hu,hd⟩:=hr k hk 0 (by omega);rw[zax hx] at hd;have hd':Rd ok W (ns cs[k]) u:=hd;obtain⟨A5,c5,e5,_⟩:=hd'.sl_inv;have e6:u=.slice A5 cs[k].length c5:=e5;subst e6;exact⟨b,off,cs[k],A5,c5,rfl,hb,hx,by simpa using hu,hd'⟩
theorem zot {S:Nat→Prop} {r:List Nat} {A:Option Addr} {c k:Nat} (h:OwnS S 3 1 r.length (zap rowI r) W (.slice A r.length c)) (hk:k<r.length):∃g,A=some ⟨g,0,none⟩∧r.length≤c∧c≤9223372036854775807∧W.cell? ⟨g,k,none⟩=some (.int .i64 (r[k]:Int)):=by
 rcases h with ⟨h1,h2⟩|⟨g,c',h1,h2,h3,h4,h5,h6⟩
 ·omega
 ·injection h1 with e1 e2 e3;subst e1 e3;obtain⟨u,hu,hd⟩:=h6 k hk 0 (by omega);rw[zax (List.getElem?_eq_getElem hk)] at hd;have e:u=.int .i64 (r[k]:Int):=hd;subst e;exact⟨g,rfl,h3,h4,by simpa using hu⟩
theorem zmE {S:Nat→Prop} {r:List (Nat × Int)} {A:Option Addr} {c k:Nat} (h:OwnS S 125 2 r.length (zap znQ r) W (.slice A r.length c)) (hk:k<r.length):∃g,A=some ⟨g,0,none⟩∧r.length≤c∧c≤9223372036854775807∧W.cell? ⟨g,k*2,none⟩=some (.int .i64 (r[k].1:Int))∧W.cell? ⟨g,k*2+1,none⟩=some (.int .i64 r[k].2)∧∀j,W.frozen? ⟨g,j,none⟩=false:=by
 rcases h with ⟨h1,h2⟩|⟨g,c',h1,h2,h3,h4,h5,h6⟩
 ·omega
 ·injection h1 with e1 e2 e3;subst e1 e3;obtain⟨u,hu,hd⟩:=h6 k hk 0 (by omega);obtain⟨v,hv,hd2⟩:=h6 k hk 1 (by omega);rw[zax (List.getElem?_eq_getElem hk)] at hd hd2;have e:u=.int .i64 (r[k].1:Int):=hd;have e2:v=.int .i64 r[k].2:=hd2;subst e e2;exact⟨g,rfl,h3,h4,by simpa using hu,hv,λj=>h5.frozen j⟩
end
theorem zmY {w:World} {m:Nat} {l:List Nd} (h:zbb w m (typM l 0)) (k:ByteArray):(Instr.lookup 77 (.map (some m)) (.string k) false).run Tryz.prog w=.ok (.int .i64 (zff l k:Int)) w:=by
 have:=zfT (P:=Tryz.prog) (T:=77) Tryz.underlying77 Tryz.underlying9 h (z:=.int .i64 0) (by kernel_rfl) k
 rwa [zqj] at this
def msr (B:Nat) (W:World):Nat:=(match W.heap[B+1]? with
 |some (.cells cs _ _)=>cs.toList.countP (λv=>match v with|.bool false=>true|_=>false)
 |_=>0)+(match W.cell? ⟨B+4,0,none⟩ with|some (.slice _ n _)=>n|_=>0)
theorem zqF {w W:World} {lb:Nat→Nat} {s:Lq} {An Ar:Option Addr} {cn cr:Nat} {vs:List Value} (h:LpSt w W lb s An cn Ar cr vs):msr w.heap.size W=s.fin.count false+s.ready.length:=by
 unfold msr;rw[show W.heap[w.heap.size+1]?=_ from h.fin,h.rbx.cell]
 show (zfk s.fin).toList.countP _+s.ready.length=_
 congr 1
 unfold zfk;rw[List.countP_map,List.count]
 congr 1
 funext b
 cases b<;>rfl
theorem LpSt.start {w:World} {l:List Nd} {W:World} (lb:Nat→Nat) (low:Below w.heap.size w W) (c0:zac W w.heap.size #[.int .i64 0,.int .i64 0] 83)
 (c1:zac W (w.heap.size+1) (zfk (List.replicate l.length false)) 4) (c2:zac W (w.heap.size+2) #[.slice (some ⟨w.heap.size+1,0,none⟩) l.length l.length] 117)
 (c3:zac W (w.heap.size+3) (List.replicate l.length (.slice none 0 0)).toArray 120) (c4:zac W (w.heap.size+4) #[.slice none 0 0] 120):LpSt w W lb (zfW l) none 0 none 0 (List.replicate l.length (.slice none 0 0)):=by
 refine⟨low,c0,c1,?_,⟨c3,by simp[zfW],λj r hj=>?_⟩,c4,OwnS.nil _ _ _ _ _,OwnS.nil _ _ _ _ _⟩
 ·show zac _ _ #[.slice _ (List.replicate l.length false).length (List.replicate l.length false).length] _
  rw[List.length_replicate];exact c2
 ·have hj:(List.replicate l.length ([]:List Nat))[j]?=some r:=hj;rw[List.getElem?_replicate] at hj
  split at hj
  ·rename_i h;obtain rfl:=Option.some.inj hj;exact⟨none,0,by rw[List.getElem?_replicate,if_pos h];rfl,OwnS.nil _ _ _ _ _⟩
  ·cases hj
theorem zoe (l:List Nd):LqOk l.length 0 (zfW l):=by
 refine⟨by simp[zfW],⟨by simp[zfW],λr hr=>?_⟩,(λd hd=>by cases hd),(λi hi=>by cases hi),?_,Nat.le_refl _⟩
 ·have:r=[]:=List.eq_of_mem_replicate hr;subst this;exact⟨Nat.le_refl _,λc hc=>by cases hc⟩
 ·show (List.replicate l.length false).count false+0≤_
  have:=List.count_le_length (a:=false) (l:=List.replicate l.length false);rw[List.length_replicate] at this;omega
def lpF (F:List Bool):List Nd→Nat→Option Int
 |[],_=>none
 |n::r,i=>if (n.kind=2∨n.kind=3)∧F.getD i false=false then some n.at' else lpF F r (i+1)
theorem zqG (F:List Bool):∀(l:List Nd) (i:Nat),((l.zipIdx i).find? (λp=>decide ((p.1.kind=2∨p.1.kind=3)∧F.getD p.2 false=false))).map (λp=>p.1.at')=lpF F l i
 |[],_=>rfl
 |n::r,i=>by
  rw[List.zipIdx_cons,List.find?_cons,lpF]
  by_cases h:(n.kind=2∨n.kind=3)∧F.getD i false=false
  ·rw[if_pos h,decide_eq_true h];rfl
  ·rw[if_neg h,decide_eq_false h];exact zqG F r (i+1)
theorem zpE (l:List Nd):zfX l=lpF (zha l) l 0:=zqG (zha l) l 0
theorem zmg {f i n:Nat} {s:Lq} (h:s.ready.length=n+1) (hi:s.ready[n]?=some i):zeq (f+1) s=zeq f ((s.wait.getD i []).foldl hitQ {s with ready:=s.ready.dropLast}):=by
 have:s.ready.getLast?=some i:=by rw[List.getLast?_eq_getElem?,h];exact hi
 rw[zeq,this]
theorem zlx {s:Lq} (h:s.ready=[]):∀f,zeq f s=s
 |0=>rfl
 |f+1=>by rw[zeq,h];rfl
theorem LqOk.take {n b:Nat} {s:Lq} (h:LqOk n b s):LqOk n b {s with ready:=s.ready.dropLast}:=by
 refine⟨h.fl,h.wt,h.ow,λi hi=>h.rd i (List.dropLast_subset _ hi),?_,h.nl⟩;have:=h.ct
 show s.fin.count false+s.ready.dropLast.length≤n
 rw[List.length_dropLast];omega
theorem zqV {s:Lq} {c:Nat} {d:Nat × Int} (h:s.needs[c]?=some d):hitQ s c=if wrap64 (d.2-1)=0 then zbg {s with needs:=s.needs.set c (d.1,wrap64 (d.2-1)) } d.1 else {s with needs:=s.needs.set c (d.1,wrap64 (d.2-1)) }:=by
 unfold hitQ;have:s.needs.getD c (0,0)=d:=by simp[List.getD,h]
 rw[this,←IntWalk.i64_left (d.2-1)]
end Go.Proofs.YtjdpocmlimkjjaaGreat
