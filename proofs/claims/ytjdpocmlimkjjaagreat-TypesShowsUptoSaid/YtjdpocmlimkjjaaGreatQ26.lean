/- Conditions: those in each statement. -/
import Derived.Test.YtjdpocmlimkjjaaGreatQ25
import Derived.Test.YtjdpocmlimkjjaaGreatQ06
import Derived.Deep.RegionWith
import Derived.BigQuiet
set_option maxHeartbeats 32000000
set_option maxRecDepth 100000
namespace Go.Proofs.YtjdpocmlimkjjaaGreat
open Go.RowKit
abbrev ScAt (g:Nat) (s:ByteArray) (w:World) (i:Nat):Prop:=zac w g #[.string s,.int .i64 (i:Int)] 138
def zec (w:World) (b:Nat):Nat:=match w.cell? ⟨b,1,none⟩ with|some (.int _ n)=>n.toNat|_=>0
theorem ScAt.next {g:Nat} {s:ByteArray} {w:World} {i:Nat} (h:ScAt g s w i):zec w g=i:=by unfold zec;rw[h.cell 1];simp
theorem ScAt.drewN {g:Nat} {s:ByteArray} {w:World} {i:Nat} (h:ScAt g s w i) (n:Nat):ScAt g s (w.drewN n) i:=h
theorem Own1.drewN {g:Nat} {w w':World} (h:Own1 g w w') (n:Nat):Own1 g w (w'.drewN n):=h.of_below (zae (Below.refl _ _) n)
theorem Own1.set {g:Nat} {w w':World} (h:Own1 g w w') (j:Nat) (v:Value):Own1 g w (w'.setCell ⟨g,j,none⟩ v):=h.trans (zdk (Below.refl _ _) j v)
theorem ScAt.set {g:Nat} {s:ByteArray} {w:World} {i:Nat} (h:ScAt g s w i) (j:Nat):ScAt g s (w.setCell ⟨g,1,none⟩ (.int .i64 (j:Int))) j:=by
 have:=zac.set h 1 (.int .i64 (j:Int))
 simpa using this
theorem zhs {s:ByteArray} {f i:Nat} (h:¬(i<s.size∧wc (bt s i)=true)):zbm s f i=i:=by
 cases f with
 |zero=>rfl
 |succ f=>rw[zbm,if_neg h]
theorem zgR {s:ByteArray} {f i:Nat} (h:i<s.size) (hw:wc (bt s i)=true) (hf:s.size≤i+f):zbm s f i=zbm s (f-1) (i+1):=by
 obtain⟨f,rfl⟩:∃k,f=k+1:=⟨f-1,by omega⟩;rw[zbm,if_pos ⟨h,hw⟩];rfl
theorem zeC {s:ByteArray}:∀{f i:Nat},i≤s.size→i≤zbm s f i∧zbm s f i≤s.size
 |0,i,h=>⟨Nat.le_refl _,h⟩
 |f+1,i,h=>by
  rw[zbm]
  split
  ·have:=zeC (s:=s) (f:=f) (i:=i+1) (by omega);omega
  ·omega
theorem zgB (s:ByteArray) (i:Nat) (hi:i<s.size) (w:World):(Instr.index 9 (.string s) (.int .i64 (i:Int))).run Tryz.prog w=.ok (.int .u8 ((bt s i).toNat:Int)) w:=zbL s i hi w
theorem zlg (s:ByteArray) (hs:s.size≤32768) (g i:Nat) (hi:i≤s.size) (w:World) (h:ScAt g s w i) :
 Calls Tryz.prog 100 #[.pointer (some ⟨g,0,none⟩)] w λe w'=>e=.returned (.string (s.extract i (zbm s s.size i)))∧Own1 g w w'∧ScAt g s w' (zbm s s.size i):=by
 have S0:=zz h;have O0:Hid (Own1 g w w):=zz (zbd (Below.refl _ _));have c1:w.cell? ⟨g,1,none⟩=some (.int .i64 (i:Int)):=h.cell 1;have HI:=zz (zgB s);clear h;obtain⟨E,hE⟩:∃E,zbm s s.size i=E:=⟨_,rfl⟩;have HE:=zz hE;rw[hE];clear hE;go_enter Tryz.func100,Tryz.ntmps100;go_wp2_with fail;clear c1
 go_loopw [] (λwr=>∃(j f:Nat),i≤j∧j≤s.size∧s.size≤j+f∧Hid (zbm s f j=E)∧Hid (ScAt g s wr j)∧Hid (Own1 g w wr)) (λwr=>s.size-zec wr g)
 case atStart=>exact⟨i,s.size,Nat.le_refl _,hi,by omega,HE,S0,O0⟩
 case round=>
  clear HE S0 O0;obtain⟨j,f,hij,hj,hf,HE,HS,HO⟩:=hrel;have hm:zec wr g=j:=HS.out.next;have d0:wr.cell? ⟨g,0,none⟩=some (.string s):=HS.out.cell 0;have d1:wr.cell? ⟨g,1,none⟩=some (.int .i64 (j:Int)):=HS.out.cell 1;have dz:=HS.out.fz
  by_cases hlt:j<s.size
  ·have hlti:(j:Int)<(s.size:Int):=by omega
   have hlt':decide ((j:Int)<(s.size:Int))=true:=decide_eq_true hlti;have HJ:=HI.out j hlt;have KC:=zz (λW=>zlv (bt s j) W);cases hw:wc (bt s j) with
   |true=>
    rw[hw] at KC;have HE2:Hid (zbm s (f-1) (j+1)=E):=zz (by rw[←HE.out];exact(zgR hlt hw hf).symm);go_wp2_with fail
    go_quiet ((go_at_call 135;exact Calls.quiet_of_same (KC.out _)))
    have hwr:IntKind.i64.wrap ((j:Int)+1)=((j+1:Nat):Int):=by rw[IntWalk.i64_in _ (by omega)];omega
    have HS2:=zz ((HS.out.drewN nq).set (j+1));have HO2:=zz ((HO.out.drewN nq).set 1 (.int .i64 ((j+1:Nat):Int)));have hm2:zec ((wr.drewN nq).setCell ⟨g,1,none⟩ (.int .i64 ((j:Int)+1))) g=j+1:=HS2.out.next;go_wp2_with fail;exact⟨⟨j+1,f-1,by omega,by omega,by omega,HE2,HS2,HO2⟩,by omega⟩
   |false=>
    rw[hw] at KC;have hEj:E=j:=by rw[←HE.out];exact zhs (λh=>by rw[hw] at h;cases h.2)
    subst hEj;go_wp2_with fail
    go_quiet ((go_at_call 135;exact Calls.quiet_of_same (KC.out _)))
    obtain⟨w2,hw2⟩:∃W,wr.drewN nq=W:=⟨_,rfl⟩;have HS2:=zz (HS.out.drewN nq);have HO2:=zz (HO.out.drewN nq);rw[hw2] at HS2 HO2;rw[hw2];have c0:∀n,(w2.drewN n).cell? ⟨g,0,none⟩=some (.string s):=λn=>(HS2.out.drewN n).cell 0;have c1:∀n,(w2.drewN n).cell? ⟨g,1,none⟩=some (.int .i64 (E:Int)):=λn=>(HS2.out.drewN n).cell 1;clear hw2 d0 d1 HE HI HJ HS HO;have hij':(i:Int)≤(E:Int):=by omega
    go_wp2_with fail
    go_quiet (fail)
    go_wp2_with fail;go_ret;exact⟨rfl,HO2.out.drewN _,HS2.out.drewN _⟩
  ·have hEj:E=j:=by rw[←HE.out];exact zhs (λh=>hlt h.1)
   subst hEj;have hlti:¬(E:Int)<(s.size:Int):=by omega
   have hlt':decide ((E:Int)<(s.size:Int))=false:=decide_eq_false hlti;go_wp2_with fail
   go_quiet (fail)
   obtain⟨w2,hw2⟩:∃W,wr.drewN nq=W:=⟨_,rfl⟩;have HS2:=zz (HS.out.drewN nq);have HO2:=zz (HO.out.drewN nq);rw[hw2] at HS2 HO2;rw[hw2];have c0:∀n,(w2.drewN n).cell? ⟨g,0,none⟩=some (.string s):=λn=>(HS2.out.drewN n).cell 0;have c1:∀n,(w2.drewN n).cell? ⟨g,1,none⟩=some (.int .i64 (E:Int)):=λn=>(HS2.out.drewN n).cell 1;clear hw2 d0 d1 HE HI HS HO;have hij':(i:Int)≤(E:Int):=by omega
   go_wp2_with fail
   go_quiet (fail)
   go_wp2_with fail;go_ret;exact⟨rfl,HO2.out.drewN _,HS2.out.drewN _⟩
theorem zmz {g:Nat} {s:ByteArray} {w W:World} {j:Nat} (h:Own1 g w W) (S:ScAt g s W j) (hg:g<w.heap.size) (u0 u1 u2 u3:Value) :
 Own1 g w ((((W.setCell ⟨w.heap.size,0,none⟩ u0).setCell ⟨w.heap.size,1,none⟩ u1).setCell ⟨w.heap.size,2,none⟩ u2).setCell ⟨w.heap.size,3,none⟩ u3)∧ScAt g s ((((W.setCell ⟨w.heap.size,0,none⟩ u0).setCell ⟨w.heap.size,1,none⟩ u1).setCell ⟨w.heap.size,2,none⟩ u2).setCell ⟨w.heap.size,3,none⟩ u3) j:=by
 have hc:Chg (λk=>k=w.heap.size) W ((((W.setCell ⟨w.heap.size,0,none⟩ u0).setCell ⟨w.heap.size,1,none⟩ u1).setCell ⟨w.heap.size,2,none⟩ u2).setCell ⟨w.heap.size,3,none⟩ u3):=
  (((((Chg.refl (λk=>k=w.heap.size) W).setCell (p:=⟨w.heap.size,0,none⟩) (.inl rfl) u0).setCell (p:=⟨w.heap.size,1,none⟩) (.inl rfl) u1).setCell (p:=⟨w.heap.size,2,none⟩) (.inl rfl) u2).setCell (p:=⟨w.heap.size,3,none⟩) (.inl rfl) u3)
 exact⟨Chg.trans h hc (λj hj=>.inr (by omega)),S.keep hc (by omega)⟩
theorem zoX (s:ByteArray) (hs:s.size≤32768) (g i:Nat) (hi:i≤s.size) (w:World) (h:ScAt g s w i) :
 Calls Tryz.prog 73 #[.pointer (some ⟨g,0,none⟩)] w λe w'=>e=.returned (.agg #[.int .i64 1,.string (s.extract i (zbm s s.size i)),.int .i64 0,.int .i64 0])∧Own1 g w w'∧ScAt g s w' (zbm s s.size i):=by
 have hg:g<w.heap.size:=h.lt;have hb:=(Below.refl w.heap.size w).alloc (Nat.le_refl _) (.cells #[.int .i64 0,.string ⟨#[]⟩,.int .i64 0,.int .i64 0] 140);have hx:=zac.new w #[.int .i64 0,.string ⟨#[]⟩,.int .i64 0,.int .i64 0] 140;obtain⟨w0,hw⟩:∃W,w.alloc (.cells #[.int .i64 0,.string ⟨#[]⟩,.int .i64 0,.int .i64 0] 140)=W:=⟨_,rfl⟩;rw[hw] at hb hx;have KW:=zz (zlg s hs g i hi w0 (zaa hb h));have O0:=zz (zbd (b:=g) hb);have X0:=zz hx;clear h hb hx;go_enter Tryz.func73,Tryz.ntmps73;go_wp2_with fail;clear hw;(with_reducible refine KW.out.mono ?_);rintro e w1 ⟨rfl,hc,hs1⟩;have O1:=zz (O0.out.trans hc);have S1:=zz hs1;have X1:=zz (X0.out.keep hc (by omega));have x0:w1.cell? ⟨w.heap.size,0,none⟩=some (.int .i64 0):=X1.out.cell 0;have x1:w1.cell? ⟨w.heap.size,1,none⟩=some (.string ⟨#[]⟩):=X1.out.cell 1;have x2:w1.cell? ⟨w.heap.size,2,none⟩=some (.int .i64 0):=X1.out.cell 2;have x3:w1.cell? ⟨w.heap.size,3,none⟩=some (.int .i64 0):=X1.out.cell 3;have z:=X1.out.fz;clear hc hs1 KW;go_wp2_with fail;exact bodyPost_ret (results_cell_row (by rfl) _ _ w.heap.size _ _ (0,0) _ rfl (zbA _ _ _ _ X1.out) Tryz.underlying140 rfl zcj) rfl ⟨rfl,zmz O1.out S1.out hg _ _ _ _⟩
def zfm (t:ByteArray):Bool:=decide (2≤t.size∧t.extract 0 2=(⟨#[47,47]⟩:ByteArray))
theorem znx (t:ByteArray) (w:World):Calls Tryz.prog 99 #[.string t,.string (⟨#[47,47]⟩:ByteArray)] w λe w'=>e=.returned (.bool (zfm t))∧w'=w:=by
 have h134:Calls Tryz.prog 134 #[.string t,.string (⟨#[47,47]⟩:ByteArray)] w λe w'=>e=.returned (.bool (zfm t))∧w'=w:=by
  by_cases h2:2≤t.size
  ·have h2i:(2:Int)≤(t.size:Int):=by omega
   by_cases h3:t.extract 0 2=(⟨#[47,47]⟩:ByteArray)
   ·have e3:((t.extract 0 2).toList == [47,47])=true:=zex h3;rw[show zfm t=true from decide_eq_true ⟨h2,h3⟩];clear h3;go_enter Tryz.func134,Tryz.ntmps134;go_wp2_with fail;go_ret;exact⟨rfl,rfl⟩
   ·have e3:((t.extract 0 2).toList == [47,47])=false:=zam h3;rw[show zfm t=false from decide_eq_false (λh=>h3 h.2)];clear h3;go_enter Tryz.func134,Tryz.ntmps134;go_wp2_with fail;go_ret;exact⟨rfl,rfl⟩
  ·have h2i:¬(2:Int)≤(t.size:Int):=by omega
   rw[show zfm t=false from decide_eq_false (λh=>h2 h.1)];go_enter Tryz.func134,Tryz.ntmps134;go_wp2_with fail;go_ret;exact⟨rfl,rfl⟩
 generalize zfm t=r at *
 go_enter Tryz.func99,Tryz.ntmps99;go_wp2_with fail;(with_reducible refine h134.mono ?_);rintro e w1 ⟨rfl,rfl⟩;go_wp2_with fail;go_ret;exact⟨rfl,rfl⟩
theorem zjF (s:ByteArray) (i:Nat) (hi:i<s.size):zfm (s.extract i s.size)=decide (bt s i=47∧i+1<s.size∧bt s (i+1)=47):=by
 unfold zfm;apply decide_eq_decide.2;have hsz:(s.extract i s.size).size=s.size-i:=by rw[ByteArray.size_extract];omega
 rw[hsz]
 have e2:∀h2:2≤s.size-i,((s.extract i s.size).extract 0 2).data.toList=[bt s i,bt s (i+1)]:=λh2=>by
  simp only[ByteArray.data_extract,Array.toList_extract];rw[List.extract_eq_take_drop,Array.toList_extract,List.extract_eq_take_drop];unfold bt;have hl:=zaz s;rw[List.drop_zero,Nat.sub_zero,List.take_take,Nat.min_eq_left (by omega),List.drop_eq_getElem_cons (by omega),List.drop_eq_getElem_cons (by omega)];simp[List.getD_eq_getElem?_getD,List.getElem?_eq_getElem (show i<s.data.toList.length by omega),List.getElem?_eq_getElem (show i+1<s.data.toList.length by omega)]
 constructor
 ·rintro⟨h1,h2⟩;have:=e2 h1;rw[h2] at this;injection this with a b;injection b with b;exact⟨a.symm,by omega,b.symm⟩
 ·rintro⟨h1,h2,h3⟩;refine⟨by omega,?_⟩;have:=e2 (by omega);rw[h1,h3] at this;apply zgu;rw[ByteArray.toList_eq,ByteArray.toList_eq,this]
theorem zhr {s:ByteArray} {f i:Nat} (h:¬(i<s.size∧bt s i≠10)):zcu s f i=i:=by
 cases f with
 |zero=>rfl
 |succ f=>rw[zcu,if_neg h]
theorem zjs {s:ByteArray} {f i:Nat} (h:i<s.size) (hw:bt s i≠10) (hf:s.size≤i+f):zcu s f i=zcu s (f-1) (i+1):=by
 obtain⟨f,rfl⟩:∃k,f=k+1:=⟨f-1,by omega⟩;rw[zcu,if_pos ⟨h,hw⟩];rfl
theorem zgV {s:ByteArray}:∀{f i:Nat},i≤s.size→i≤zcu s f i∧zcu s f i≤s.size
 |0,i,h=>⟨Nat.le_refl _,h⟩
 |f+1,i,h=>by
  rw[zcu]
  split
  ·have:=zgV (s:=s) (f:=f) (i:=i+1) (by omega);omega
  ·omega
theorem zok {s:ByteArray} {f i:Nat} (h:¬i<s.size):zdw s f i=i:=by
 cases f with
 |zero=>rfl
 |succ f=>rw[zdw,if_neg h]
theorem zlr {s:ByteArray} {f i:Nat} (h:i<s.size) (hw:zii (bt s i)=true) (hf:s.size≤i+f):zdw s f i=zdw s (f-1) (i+1):=by
 obtain⟨f,rfl⟩:∃k,f=k+1:=⟨f-1,by omega⟩;rw[zdw,if_pos h,if_pos hw];rfl
theorem znh {s:ByteArray} {f i:Nat} (h:i<s.size) (hw:¬zii (bt s i)=true) (hl:zfm (s.extract i s.size)=true) (hf:s.size≤i+f):zdw s f i=zdw s (f-1) (zcu s s.size i):=by
 obtain⟨f,rfl⟩:∃k,f=k+1:=⟨f-1,by omega⟩;rw[zjF s i h] at hl;rw[zdw,if_pos h,if_neg hw,if_pos (of_decide_eq_true hl)];rfl
theorem znf {s:ByteArray} {f i:Nat} (h:i<s.size) (hw:¬zii (bt s i)=true) (hl:zfm (s.extract i s.size)=false):zdw s f i=i:=by
 rw[zjF s i h] at hl;cases f with
 |zero=>rfl
 |succ f=>rw[zdw,if_pos h,if_neg hw,if_neg (of_decide_eq_false hl)]
theorem zoW {s:ByteArray} {i:Nat} (h:i<s.size) (hl:zfm (s.extract i s.size)=true):bt s i≠10:=by
 rw[zjF s i h] at hl;have:=(of_decide_eq_true hl).1;rw[this];decide
theorem zhS {s:ByteArray}:∀{f i:Nat},i≤s.size→i≤zdw s f i∧zdw s f i≤s.size
 |0,i,h=>⟨Nat.le_refl _,h⟩
 |f+1,i,h=>by
  rw[zdw]
  split
  ·split
   ·have:=zhS (s:=s) (f:=f) (i:=i+1) (by omega);omega
   ·split
    ·have h1:=zgV (s:=s) (f:=s.size) (i:=i) (by omega);have:=zhS (s:=s) (f:=f) (i:=zcu s s.size i) h1.2;omega
    ·omega
  ·omega
structure SC (g:Nat) (s:ByteArray) (w W:World) (i:Nat):Prop where
 at':ScAt g s W i
 own:Own1 g w W
theorem SC.cells0 {g:Nat} {s:ByteArray} {w W:World} {i:Nat} (h:SC g s w W i):∀n,(W.drewN n).cell? ⟨g,0,none⟩=some (.string s):=λn=>(h.at'.drewN n).cell 0
theorem SC.cells1 {g:Nat} {s:ByteArray} {w W:World} {i:Nat} (h:SC g s w W i):∀n,(W.drewN n).cell? ⟨g,1,none⟩=some (.int .i64 (i:Int)):=λn=>(h.at'.drewN n).cell 1
theorem SC.drewN {g:Nat} {s:ByteArray} {w W:World} {i:Nat} (h:SC g s w W i) (n:Nat):SC g s w (W.drewN n) i:=⟨h.at'.drewN n,h.own.drewN n⟩
theorem SC.set {g:Nat} {s:ByteArray} {w W:World} {i:Nat} (h:SC g s w W i) (j:Nat):SC g s w (W.setCell ⟨g,1,none⟩ (.int .i64 (j:Int))) j:=⟨h.at'.set j,h.own.set 1 _⟩
theorem SC.set1 {g:Nat} {s:ByteArray} {w W:World} {i:Nat} (h:SC g s w W i):SC g s w (W.setCell ⟨g,1,none⟩ (.int .i64 ((i:Int)+1))) (i+1):=h.set (i+1)
theorem zpV (s:ByteArray) (hs:s.size≤32768) (g i:Nat) (hi:i≤s.size) (w:World) (h:ScAt g s w i) :
 Calls Tryz.prog 71 #[.pointer (some ⟨g,0,none⟩)] w λe w'=>e=.returned (.tuple #[])∧Own1 g w w'∧ScAt g s w' (zdw s s.size i):=by
 have S0:Hid (SC g s w w i):=zz ⟨h,zbd (Below.refl _ _)⟩;have HI:=zz (zgB s);clear h;obtain⟨E,hE⟩:∃E,zdw s s.size i=E:=⟨_,rfl⟩;have HE:=zz hE;rw[hE];clear hE;go_enter Tryz.func71,Tryz.ntmps71;go_wp2_with fail
 go_loopw [] (λwr=>∃(j f:Nat),j≤s.size∧s.size≤j+f∧Hid (zdw s f j=E)∧Hid (SC g s w wr j)) (λwr=>s.size-zec wr g)
 case atStart=>exact⟨i,s.size,hi,by omega,HE,S0⟩
 case round=>
  clear HE S0;obtain⟨j,f,hj,hf,HE,HS⟩:=hrel;have hm:zec wr g=j:=HS.out.at'.next;have d0:=HS.out.cells0;have d1:=HS.out.cells1
  by_cases hlt:j<s.size
  ·have hlti:(j:Int)<(s.size:Int):=by omega
   have HJ:=HI.out j hlt;go_wp2_with fail
   go_quiet (fail)
   obtain⟨w2,hw2⟩:∃W,wr.drewN nq=W:=⟨_,rfl⟩;have S2:=zz (HS.out.drewN nq);rw[hw2] at S2;rw[hw2];have d0:=S2.out.cells0;have d1:=S2.out.cells1;clear hw2 nq;go_wp2_with fail
   go_quiet (fail)
   obtain⟨w3,hw3⟩:∃W,w2.drewN nq=W:=⟨_,rfl⟩;have S3:=zz (S2.out.drewN nq);rw[hw3] at S3;rw[hw3];have hwr:IntKind.i64.wrap ((j:Int)+1)=(j:Int)+1:=IntWalk.i64_in _ (by omega);have z3:=S3.out.at'.fz;have c1:w3.cell? ⟨g,1,none⟩=some (.int .i64 (j:Int)):=S3.out.at'.cell 1;clear hw3 nq S2 HS
   by_cases hw:zii (bt s j)=true
   ·have HE2:Hid (zdw s (f-1) (j+1)=E):=zz (by rw[←HE.out];exact(zlr hlt hw hf).symm);have S4:=zz (S3.out.set1);have hm4:=S4.out.at'.next
    have hc:bt s j=9∨bt s j=10∨bt s j=13∨bt s j=32:=by
     unfold zii at hw;simp only[Bool.or_eq_true,beq_iff_eq] at hw;rcases hw with ((h|h)|h)|h<;>simp[h]
    rcases hc with hc|hc|hc|hc
    all_goals (
     rw[hc];go_wp2_with fail;exact⟨⟨j+1,f-1,by omega,by omega,HE2,S4⟩,by omega⟩)
   ·obtain⟨X,hX⟩:∃X,bt s j=X:=⟨_,rfl⟩
    have hnw:¬X=9∧¬X=10∧¬X=13∧¬X=32:=by
     rw[hX] at hw;unfold zii at hw;simp only[Bool.or_eq_true,beq_iff_eq,not_or] at hw;exact⟨hw.1.1.1,hw.1.1.2,hw.1.2,hw.2⟩
    rw[hX];have b9:((X.toNat:Int) == 9)=false:=zcD (n:=9) hnw.1;have b10:((X.toNat:Int) == 10)=false:=zcD (n:=10) hnw.2.1;have b13:((X.toNat:Int) == 13)=false:=zcD (n:=13) hnw.2.2.1;have b32:((X.toNat:Int) == 32)=false:=zcD (n:=32) hnw.2.2.2;obtain⟨Y,hY⟩:∃Y,(X.toNat:Int)=Y:=⟨_,rfl⟩;rw[hY] at b9 b10 b13 b32;rw[hY];have q0:=S3.out.cells0;have q1:=S3.out.cells1;have hjs:(j:Int)≤(s.size:Int):=by omega
    have hx:s.extract j s.size=s.extract j s.size:=rfl;obtain⟨t,ht⟩:∃t,s.extract j s.size=t:=⟨_,rfl⟩;have KP:=zz (λW=>znx t W);cases hp:zfm t with
    |false=>
     rw[hp] at KP;have hEj:E=j:=by rw[←HE.out];exact znf hlt hw (by rw[ht];exact hp)
     subst hEj;clear HI hw hX hY hnw HE;go_wp2_with fail
     go_quiet ((go_at_call 99;exact Calls.quiet_of_same (KP.out _)))
     have S5:=zz (S3.out.drewN nq);go_wp2_with fail
     first|go_end0|refine bodyPost_ret (results_none rfl _ _ _) rfl ?_
     exact⟨rfl,S5.out.own,S5.out.at'⟩
    |true=>
     rw[hp] at KP;have HE2:Hid (zdw s (f-1) (zcu s s.size j)=E):=zz (by rw[←HE.out];exact(znh hlt hw (by rw[ht];exact hp) hf).symm);obtain⟨L,hL⟩:∃L,zcu s s.size j=L:=⟨_,rfl⟩
     have hLj:j+1≤L:=by
      rw[←hL,zjs hlt (zoW hlt (by rw[ht];exact hp)) (by omega)];exact(zgV (by omega)).1
     have HL:=zz hL;rw[hL] at HE2;clear hL hw hX hY hnw HE;go_wp2_with fail
     go_quiet ((go_at_call 99;exact Calls.quiet_of_same (KP.out _)))
     obtain⟨w5,hw5⟩:∃W,w3.drewN nq=W:=⟨_,rfl⟩;have S5:=zz (S3.out.drewN nq);rw[hw5] at S5;rw[hw5];clear hw5 nq S3 q0 q1 d0 d1 c1 z3 KP;go_wp2_with fail
     go_loopw [] (λwr=>∃(k q:Nat),k≤s.size∧j≤k∧s.size≤k+q∧Hid (zcu s q k=L)∧Hid (SC g s w wr k)) (λwr=>s.size-zec wr g)
     case atStart=>exact⟨j,s.size,by omega,Nat.le_refl _,by omega,HL,S5⟩
     case round=>
      rename World=>wo;clear HL S5;obtain⟨k,q,hk,hjk,hq,HL,HS⟩:=hrel;have hmk:zec wo g=k:=HS.out.at'.next;have d0:=HS.out.cells0;have d1:=HS.out.cells1;have hwk:IntKind.i64.wrap ((k:Int)+1)=(k:Int)+1:=IntWalk.i64_in _ (by omega)
      by_cases hkl:k<s.size
      ·have hki:(k:Int)<(s.size:Int):=by omega
       have hkd:decide ((k:Int)<(s.size:Int))=true:=decide_eq_true hki;have HK:=HI.out k hkl
       by_cases h10:bt s k=10
       ·have hEk:L=k:=by rw[←HL.out];exact zhr (λh=>h.2 h10)
        subst hEk;rw[h10] at HK;go_wp2_with fail
        go_quiet (fail)
        have S6:=zz (HS.out.drewN nq);have hm6:=S6.out.at'.next;go_wp2_with fail;exact⟨⟨L,f-1,by omega,by omega,HE2,S6⟩,by omega⟩
       ·have HL2:Hid (zcu s (q-1) (k+1)=L):=zz (by rw[←HL.out];exact(zjs hkl h10 hq).symm);obtain⟨Z,hZ⟩:∃Z,((bt s k).toNat:Int)=Z:=⟨_,rfl⟩;have bz:(Z == 10)=false:=by rw[←hZ];exact zcD (n:=10) h10
        have bz2:(Z != 10)=true:=by rw[bne,bz];rfl
        rw[hZ] at HK;clear hZ h10;go_wp2_with fail
        go_quiet (fail)
        obtain⟨w6,hw6⟩:∃W,wo.drewN nq=W:=⟨_,rfl⟩;have S6:=zz (HS.out.drewN nq);rw[hw6] at S6;rw[hw6];have z6:=S6.out.at'.fz;have c6:w6.cell? ⟨g,1,none⟩=some (.int .i64 (k:Int)):=S6.out.at'.cell 1;have S7:=zz (S6.out.set1);have hm7:=S7.out.at'.next;clear hw6 nq HS d0 d1;go_wp2_with fail;exact⟨⟨k+1,q-1,by omega,by omega,by omega,HL2,S7⟩,by omega⟩
      ·have hEk:L=k:=by rw[←HL.out];exact zhr (λh=>hkl h.1)
       subst hEk;have hki:¬(L:Int)<(s.size:Int):=by omega
       have hkd:decide ((L:Int)<(s.size:Int))=false:=decide_eq_false hki;go_wp2_with fail
       go_quiet (fail)
       have S6:=zz (HS.out.drewN nq);have hm6:=S6.out.at'.next;go_wp2_with fail;exact⟨⟨L,f-1,by omega,by omega,HE2,S6⟩,by omega⟩
  ·have hEj:E=j:=by rw[←HE.out];exact zok hlt
   subst hEj;have hlti:¬(E:Int)<(s.size:Int):=by omega
   go_wp2_with fail
   go_quiet (fail)
   have S2:=zz (HS.out.drewN nq);go_wp2_with fail
   first|go_end0|refine bodyPost_ret (results_none rfl _ _ _) rfl ?_
   exact⟨rfl,S2.out.own,S2.out.at'⟩
end Go.Proofs.YtjdpocmlimkjjaaGreat
