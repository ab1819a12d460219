/- Conditions: those in each statement. -/
import Derived.Test.YtcebmphappfjjaaGreatDoorV12
import Derived.Test.YtcebmphappfjjaaGreatDoorV11
import Derived.Test.YtcebmphappfjjaaGreatDoorV02
set_option maxHeartbeats 32000000
set_option maxRecDepth 100000
namespace Go.Proofs.YtcebmphappfjjaaGreatDoor
open Go.RowKit
theorem zjY:(Tryz.prog.info? 63).map (λi=>(i.zero,i.size,i.bytes))=some (some (.agg #[↑zj.a,.bool false,.slice none 0 0]),3,48):=by kernel_rfl
theorem zrA:(Tryz.prog.info? 182).map (λi=>(i.zero,i.size,i.bytes))=some (some (.agg #[↑zj.a,.slice none 0 0,↑(),↑zj.a,.slice none 0 0,↑(),↑(),↑(),↑(),↑zj.a,.slice none 0 0]),11,160):=by kernel_rfl
theorem zpY:(Tryz.prog.info? 186).map (λi=>(i.zero,i.size,i.bytes))=some (some (.agg #[↑zj.a,.slice none 0 0,↑(),.slice none 0 0,.slice none 0 0,↑(),↑()]),7,112):=by kernel_rfl
theorem zkg:(Tryz.prog.info? 58).map (·.size)=some 4:=by kernel_rfl
structure PgSt (w W:World) (lb:Nat->Nat) (T:List Dcl) (At:Option Addr) (ct:Nat) (E:List Eff) (Ae:Option Addr) (ce:Nat) (F:List Fun') (Af:Option Addr) (cf:Nat) (K:List Actr) (Ak:Option Addr) (ck:Nat):Prop where
 low:Below w.heap.size w W
 res:zab W w.heap.size #[.slice none 0 0,.slice none 0 0,.slice none 0 0,.slice none 0 0] 58
 box:zab W (w.heap.size+1) #[.slice At T.length ct,.slice Ae E.length ce,.slice Af F.length cf,.slice Ak K.length ck] 58
 o0:OwnS (Lab w.heap.size (w.heap.size+1) lb 0) 63 3 T.length (zan zgj T) W (.slice At T.length ct)
 o1:OwnS (Lab w.heap.size (w.heap.size+1) lb 1) 177 5 E.length (zan zlM E) W (.slice Ae E.length ce)
 o2:OwnS (Lab w.heap.size (w.heap.size+1) lb 2) 182 11 F.length (zan zme F) W (.slice Af F.length cf)
 o3:OwnS (Lab w.heap.size (w.heap.size+1) lb 3) 186 7 K.length (zan zjX K) W (.slice Ak K.length ck)
section
variable {w W W':World} {lb lb':Nat->Nat} {T:List Dcl} {At:Option Addr} {ct:Nat} {E:List Eff} {Ae:Option Addr} {ce:Nat} {F:List Fun'} {Af:Option Addr} {cf:Nat} {K:List Actr} {Ak:Option Addr} {ck:Nat}
theorem PgSt.below (h:PgSt w W lb T At ct E Ae ce F Af cf K Ak ck) (k:Below W.heap.size W W'):PgSt w W' lb T At ct E Ae ce F Af cf K Ak ck:=
 ⟨zac h.low k h.low.size,zaa k h.res,zaa k h.box,h.o0.below k,h.o1.below k,h.o2.below k,h.o3.below k⟩
theorem PgSt.drew (h:PgSt w W lb T At ct E Ae ce F Af cf K Ak ck):PgSt w W.drew lb T At ct E Ae ce F Af cf K Ak ck:=h.below (zae (Below.refl _ _) 1)
theorem PgSt.relab (h:PgSt w W lb T At ct E Ae ce F Af cf K Ak ck) (hl:∀q,q<W.heap.size->lb' q=lb q):PgSt w W lb' T At ct E Ae ce F Af cf K Ak ck:=
 ⟨h.low,h.res,h.box,h.o0.sub (λq hq hs=>⟨hs.1,hs.2.1,by rw[hl q hq];exact hs.2.2⟩),h.o1.sub (λq hq hs=>⟨hs.1,hs.2.1,by rw[hl q hq];exact hs.2.2⟩),h.o2.sub (λq hq hs=>⟨hs.1,hs.2.1,by rw[hl q hq];exact hs.2.2⟩),h.o3.sub (λq hq hs=>⟨hs.1,hs.2.1,by rw[hl q hq];exact hs.2.2⟩)⟩
theorem PgSt.grown0 {L:List Dcl} {A':Option Addr} {c':Nat} (h:PgSt w W lb T At ct E Ae ce F Af cf K Ak ck) (hO:OwnS (Lab w.heap.size (w.heap.size+1) lb 0) 63 3 L.length (zan zgj L) W' (.slice A' L.length c')) (hg:W.grownBy W' (Value.slice At T.length ct).ownBlock) :
 PgSt w (W'.setCell ⟨w.heap.size+1,0,none⟩ (.slice A' L.length c')) lb L A' c' E Ae ce F Af cf K Ak ck:=by
 have hch:Chg (Lab w.heap.size (w.heap.size+1) lb 0) W W':=Chg.of_grown hg (λq hq=>(h.o0.below_own q hq).1);have hc2:Chg (λq=>q=w.heap.size+1) W' (W'.setCell ⟨w.heap.size+1,0,none⟩ (.slice A' L.length c')):=(Chg.refl (λq=>q=w.heap.size+1) W').setCell (p:=⟨w.heap.size+1,0,none⟩) (.inl rfl) _;have hl:=h.low.trans (hch.below h.low.size (λq hq=>by have:=hq.1;omega));refine⟨hl.setCell (p:=⟨w.heap.size+1,0,none⟩) (by show w.heap.size<=w.heap.size+1;omega) _,(h.res.keep hch (λhq=>by have:=hq.1;omega)).keep hc2 zo,?_,hO.chg hc2 (λj hj _ hs=>hs.2.1 hj),(h.o1.chg hch (λj hj _ hs=>by have:=hj.2.2;have:=hs.2.2;omega)).chg hc2 (λj hj _ hs=>hs.2.1 hj),(h.o2.chg hch (λj hj _ hs=>by have:=hj.2.2;have:=hs.2.2;omega)).chg hc2 (λj hj _ hs=>hs.2.1 hj),(h.o3.chg hch (λj hj _ hs=>by have:=hj.2.2;have:=hs.2.2;omega)).chg hc2 (λj hj _ hs=>hs.2.1 hj)⟩;have:=(h.box.keep hch (λhq=>hq.2.1 rfl)).set 0 (.slice A' L.length c')
 simpa using this
theorem PgSt.grown2 {L:List Fun'} {A':Option Addr} {c':Nat} (h:PgSt w W lb T At ct E Ae ce F Af cf K Ak ck) (hO:OwnS (Lab w.heap.size (w.heap.size+1) lb 2) 182 11 L.length (zan zme L) W' (.slice A' L.length c')) (hg:W.grownBy W' (Value.slice Af F.length cf).ownBlock) :
 PgSt w (W'.setCell ⟨w.heap.size+1,2,none⟩ (.slice A' L.length c')) lb T At ct E Ae ce L A' c' K Ak ck:=by
 have hch:Chg (Lab w.heap.size (w.heap.size+1) lb 2) W W':=Chg.of_grown hg (λq hq=>(h.o2.below_own q hq).1);have hc2:Chg (λq=>q=w.heap.size+1) W' (W'.setCell ⟨w.heap.size+1,2,none⟩ (.slice A' L.length c')):=(Chg.refl (λq=>q=w.heap.size+1) W').setCell (p:=⟨w.heap.size+1,2,none⟩) (.inl rfl) _;have hl:=h.low.trans (hch.below h.low.size (λq hq=>by have:=hq.1;omega));refine⟨hl.setCell (p:=⟨w.heap.size+1,2,none⟩) (by show w.heap.size<=w.heap.size+1;omega) _,(h.res.keep hch (λhq=>by have:=hq.1;omega)).keep hc2 zo,?_,(h.o0.chg hch (λj hj _ hs=>by have:=hj.2.2;have:=hs.2.2;omega)).chg hc2 (λj hj _ hs=>hs.2.1 hj),(h.o1.chg hch (λj hj _ hs=>by have:=hj.2.2;have:=hs.2.2;omega)).chg hc2 (λj hj _ hs=>hs.2.1 hj),hO.chg hc2 (λj hj _ hs=>hs.2.1 hj),(h.o3.chg hch (λj hj _ hs=>by have:=hj.2.2;have:=hs.2.2;omega)).chg hc2 (λj hj _ hs=>hs.2.1 hj)⟩;have:=(h.box.keep hch (λhq=>hq.2.1 rfl)).set 2 (.slice A' L.length c')
 simpa using this
theorem PgSt.grown3 {L:List Actr} {A':Option Addr} {c':Nat} (h:PgSt w W lb T At ct E Ae ce F Af cf K Ak ck) (hO:OwnS (Lab w.heap.size (w.heap.size+1) lb 3) 186 7 L.length (zan zjX L) W' (.slice A' L.length c')) (hg:W.grownBy W' (Value.slice Ak K.length ck).ownBlock) :
 PgSt w (W'.setCell ⟨w.heap.size+1,3,none⟩ (.slice A' L.length c')) lb T At ct E Ae ce F Af cf L A' c':=by
 have hch:Chg (Lab w.heap.size (w.heap.size+1) lb 3) W W':=Chg.of_grown hg (λq hq=>(h.o3.below_own q hq).1);have hc2:Chg (λq=>q=w.heap.size+1) W' (W'.setCell ⟨w.heap.size+1,3,none⟩ (.slice A' L.length c')):=(Chg.refl (λq=>q=w.heap.size+1) W').setCell (p:=⟨w.heap.size+1,3,none⟩) (.inl rfl) _;have hl:=h.low.trans (hch.below h.low.size (λq hq=>by have:=hq.1;omega));refine⟨hl.setCell (p:=⟨w.heap.size+1,3,none⟩) (by show w.heap.size<=w.heap.size+1;omega) _,(h.res.keep hch (λhq=>by have:=hq.1;omega)).keep hc2 zo,?_,(h.o0.chg hch (λj hj _ hs=>by have:=hj.2.2;have:=hs.2.2;omega)).chg hc2 (λj hj _ hs=>hs.2.1 hj),(h.o1.chg hch (λj hj _ hs=>by have:=hj.2.2;have:=hs.2.2;omega)).chg hc2 (λj hj _ hs=>hs.2.1 hj),(h.o2.chg hch (λj hj _ hs=>by have:=hj.2.2;have:=hs.2.2;omega)).chg hc2 (λj hj _ hs=>hs.2.1 hj),hO.chg hc2 (λj hj _ hs=>hs.2.1 hj)⟩;have:=(h.box.keep hch (λhq=>hq.2.1 rfl)).set 3 (.slice A' L.length c')
 simpa using this
end
theorem zge {w:World} {g:Nat} {e:TypeId} {cs:Array Value} (u0 u1 u2 u3:Value) (h:zab w g cs e) (hs:cs.size=4) :
 zab ((((w.setCell ⟨g,0,none⟩ u0).setCell ⟨g,1,none⟩ u1).setCell ⟨g,2,none⟩ u2).setCell ⟨g,3,none⟩ u3) g #[u0,u1,u2,u3] e:=by
 have:=(((h.set 0 u0).set 1 u1).set 2 u2).set 3 u3
 have e2:((((cs.setIfInBounds 0 u0).setIfInBounds 1 u1).setIfInBounds 2 u2).setIfInBounds 3 u3)=#[u0,u1,u2,u3]:=by
  apply Array.ext
  ·simp[hs]
  ·intro i h1 h2;simp at h2;rcases (show i=0\/i=1\/i=2\/i=3 by omega) with rfl|rfl|rfl|rfl<;>simp[hs]
 rw[e2] at this;exact this
theorem zhl {w:World} {g:Nat} (u0 u1 u2 u3:Value):Chg (λk=>k=g) w ((((w.setCell ⟨g,0,none⟩ u0).setCell ⟨g,1,none⟩ u1).setCell ⟨g,2,none⟩ u2).setCell ⟨g,3,none⟩ u3):=
 (((((Chg.refl (λk=>k=g) w).setCell (p:=⟨g,0,none⟩) (.inl rfl) u0).setCell (p:=⟨g,1,none⟩) (.inl rfl) u1).setCell (p:=⟨g,2,none⟩) (.inl rfl) u2).setCell (p:=⟨g,3,none⟩) (.inl rfl) u3)
end Go.Proofs.YtcebmphappfjjaaGreatDoor
set_option maxHeartbeats 32000000
set_option maxRecDepth 100000
namespace Go.Proofs.YtcebmphappfjjaaGreatDoor
open Go.RowKit Go.MapKept
structure Kept (M:Nat->Prop) (w w':World):Prop where
 chg:Chg M w w'
 cell:∀b o,b<w.heap.size->w'.cell? ⟨b,o,none⟩=w.cell? ⟨b,o,none⟩
section
variable {M M':Nat->Prop} {w w1 w2:World}
theorem Kept.refl (M:Nat->Prop) (w:World):Kept M w w:=⟨Chg.refl M w,λ_ _ _=>rfl⟩
theorem Kept.of_below (h:Below w.heap.size w w1):Kept M w w1:=⟨Chg.of_below h,λb o hb=>h.cell (p:=⟨b,o,none⟩) hb⟩
theorem Kept.next (h:Kept M w w1) (k:Kept M w1 w2):Kept M w w2:=⟨h.chg.next k.chg,λb o hb=>(k.cell b o (Nat.lt_of_lt_of_le hb h.chg.size)).trans (h.cell b o hb)⟩
theorem Kept.trans (h:Kept M w w1) (k:Kept M' w1 w2) (hm:∀j,M' j->M j\/w.heap.size<=j):Kept M w w2:=⟨h.chg.trans k.chg hm,λb o hb=>(k.cell b o (Nat.lt_of_lt_of_le hb h.chg.size)).trans (h.cell b o hb)⟩
theorem Kept.below (h:Kept M w w1) (k:Below w1.heap.size w1 w2):Kept M w w2:=h.next (Kept.of_below k)
theorem Kept.mono (h:Kept M w w1) (hm:∀j,M j->M' j):Kept M' w w1:=⟨h.chg.mono hm,h.cell⟩
theorem Kept.size (h:Kept M w w1):w.heap.size<=w1.heap.size:=h.chg.size
theorem Kept.rd (h:Kept M w w1) {d:D} {v:Value} (hr:Rd (Lt w.heap.size) w d v):Rd (Lt w1.heap.size) w1 d v:=(hr.keep (λb o hb=>h.cell b o hb)).weaken (λ_ hb=>Nat.lt_of_lt_of_le hb h.size)
theorem Kept.cells (h:Kept M w w1) {b:Nat} {cs:Array Value} {e:TypeId} (hc:zab w b cs e) (hm:¬M b):zab w1 b cs e:=hc.keep h.chg hm
end
theorem zaq {M:Nat->Prop} {w w':World} {m:Nat} {L:List (ByteArray × Value)} (h:zaN w m L) (k:Chg M w w') (hm:¬M m):zaN w' m L:=h.keep (k.block m h.lt hm)
theorem znu {w:World} {m o:Nat} {L:List (ByteArray × Value)} (h:zaN w m L):w.cell? ⟨m,o,none⟩=none:=by
 obtain⟨es,clock,hb,_⟩:=h;simp[World.cell?,hb]
theorem zfL {w w':World} {m:Nat} {L L':List (ByteArray × Value)} (h:zaN w m L) (h':zaN w' m L') (hg:w.grownBy w' (some m)):Kept (λq=>q=m) w w':=by
 have hc:Chg (λq=>q=m) w w':=Chg.of_grown hg (λk hk=>(Option.some.inj hk).symm);refine⟨hc,λb o hb=>?_⟩
 by_cases e:b=m
 ·subst e;rw[znu h,znu h']
 ·exact hc.cell (p:=⟨b,o,none⟩) hb e
def setL (l:List ByteArray):List (ByteArray × Value):=l.map (λs=>(s,Value.bool true))
theorem zjN (k:ByteArray):∀(l:List ByteArray) (i:Nat),memB k l=false->fnd k (setL l) i=none
 |[],i,_=>rfl
 |x::r,i,h=>by
  show fnd k ((x,Value.bool true)::setL r) i=_
  unfold memB at h;rw[List.any_cons,Bool.or_eq_false_iff] at h;have h2:¬k=x:=λe=>by have:=of_decide_eq_false h.1;exact this e.symm
  rw[fnd,if_neg h2];exact zjN k r (i+1) h.2
theorem zes (k:ByteArray):∀(l:List ByteArray) (i:Nat),memB k l=true->∃j,fnd k (setL l) i=some (j,.bool true)
 |[],i,h=>by simp[memB] at h
 |x::r,i,h=>by
  show ∃j,fnd k ((x,Value.bool true)::setL r) i=_
  rw[fnd]
  by_cases h2:k=x
  ·rw[if_pos h2];exact⟨i,rfl⟩
  ·rw[if_neg h2];exact zes k r (i+1) (by unfold memB at h ⊢;rw[List.any_cons,decide_eq_false (λh3=>h2 h3.symm)] at h;simpa using h)
theorem zpo (k:ByteArray) (l:List ByteArray):mget (.bool false) (setL l) k=.bool (memB k l):=by
 unfold mget;cases h:memB k l with
 |true=>
  obtain⟨j,hj⟩:=zes k l 0 h;rw[hj]
 |false=>rw[zjN k l 0 h]
theorem zkX {k:ByteArray} {l:List ByteArray} (h:memB k l=false):mput (setL l) k (.bool true)=setL (l++[k]):=by
 unfold mput;rw[zjN k l 0 h];simp[setL]
section
variable {w:World} {m:Nat} {l:List ByteArray}
theorem zdn (h:zaN w m (setL l)) (k:ByteArray):(Instr.lookup 156 (.map (some m)) ↑k false).run Tryz.prog w=.ok (.bool (memB k l)) w:=by
 have:=zfy (P:=Tryz.prog) (T:=156) Tryz.underlying156 Tryz.underlying9 h (z:=.bool false) zk k
 rwa [zpo] at this
theorem zfb (h:zaN w m (setL l)) (k:ByteArray) (hk:memB k l=false):∃w',(Instr.mapUpdate 156 (.map (some m)) ↑k (.bool true)).run Tryz.prog w=.ok () w'/\zaN w' m (setL (l++[k]))/\Kept (λq=>q=m) w w'/\w'.heap.size=w.heap.size:=by
 obtain⟨w',h1,h2,h3,h4⟩:=zap (P:=Tryz.prog) (T:=156) Tryz.underlying156 Tryz.underlying9 h k (.bool true);rw[zkX hk] at h2;exact⟨w',h1,h2,zfL h h2 h3,h4⟩
end
def zhD (w:World) (m:Nat) (p:Option Int × List ByteArray) (e:Ending) (w':World):Prop:=
 Kept (λq=>q=m) w w'/\zaN w' m (setL p.2)/\match p.1 with
 |some a=>e=.returned (.tuple #[.int .i64 a,.bool true])
 |none=>e=.returned (.tuple #[.int .i64 0,.bool false])
theorem zcX (l:List Nd) (A:Option Addr) (c m:Nat) (seen:List ByteArray) (w:World) (h:Rd (Lt w.heap.size) w (ns l) (.slice A l.length c)) (hm:zaN w m (setL seen)) :
 Calls Tryz.prog 184 #[.slice A l.length c,.map (some m)] w (zhD w m (zaY l seen)):=by
 have HR:=zz h;have hl:=zaS h;have hn:l.length<=9223372036854775807:=Nat.le_trans hl.2.1 hl.2.2;obtain⟨r,hr⟩:=zn (zaY l seen);rw[hr];have HA0:Hid (zaY (l.drop 0) seen=r):=zz hr;have HB0:Hid (Kept (λq=>q=m) w w/\zaN w m (setL seen)):=zz ⟨Kept.refl _ _,hm⟩;have hml:=hm.lt;clear h hl hr hm;go_in;go_wp2
 go_loopw [10] (λs wr=>∃(i:Nat) (sn:List ByteArray),i<=l.length/\s=↑i/\Hid (zaY (l.drop i) sn=r)/\Hid (Kept (λq=>q=m) w wr/\zaN wr m (setL sn))) (λs _=>l.length-(intOf s).toNat)
 case atStart=>exact⟨0,seen,zo,rfl,HA0,HB0⟩
 case round=>
  clear HA0 HB0;obtain⟨i,sn,hi,rfl,HA,HB⟩:=hrel
  by_cases hlt:i<l.length
  ·obtain⟨b,off,y,e,hlb,hget,A',c',p0,p1,p2,p3,p4,r5⟩:=zbC (HB.out.1.rd HR.out) hlt;subst e;have hin:(i:Int)<l.length:=zo
   have q:=HA.out;rw[zal hget,zaY] at q;obtain⟨w3,hw3,hb1,hx1⟩:=zaj wr #[↑y.kind,↑y.text,↑y.n,↑y.at',.slice A' y.kids.length c'] 49;have q1:=hx1.a 1 rfl;have q3:=hx1.a 3 rfl;have hm3:zaN w3 m (setL sn):=zaq HB.out.2 (Chg.of_below (M:=λ_=>False) hb1) (λh=>h);have HK3:=zz (HB.out.1.below hb1);have hlk:=zdn hm3 y.text;cases hmb:memB y.text sn with
   |true=>
    rw[hmb] at hlk;rw[if_pos hmb] at q;have HQ:=zz q;have HM3:=zz hm3;clear q r5 hb1 hx1 HA hget hlb hm3 hmb;go_wp2
    go_ret2
    rw[<-HQ.out];exact⟨HK3.out,HM3.out,rfl⟩
   |false=>
    rw[hmb] at hlk;rw[if_neg (by rw[hmb];simp)] at q;have HQ:=zz q;obtain⟨w4,hup,hm4,hk4,_⟩:=zfb hm3 y.text hmb;have H4:Hid (Kept (λq=>q=m) w w4/\zaN w4 m (setL (sn++[y.text]))):=zz ⟨HK3.out.next hk4,hm4⟩;clear q r5 hb1 hx1 HA hget hlb hm3 hmb hm4 hk4;go_wp2;exact⟨⟨i+1,sn++[y.text],zo,by go_num,HQ,H4⟩,by simp[intOf];omega⟩
  ·have HQ:Hid ((none,sn)=r):=zz (by
    have q:=HA.out;rw[List.drop_eq_nil_of_le zo,zaY] at q;exact q)
   clear HA;go_wp2
   go_ret2
   rw[<-HQ.out];exact⟨HB.out.1,HB.out.2,rfl⟩
end Go.Proofs.YtcebmphappfjjaaGreatDoor
