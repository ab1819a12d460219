/- Conditions: those in each statement. -/
import Derived.Test.YtjdpocmlimkjjaaGreatQ26
set_option maxHeartbeats 32000000
set_option maxRecDepth 100000
namespace Go.Proofs.YtjdpocmlimkjjaaGreat
open Go.RowKit
def zia (g:Nat) (s:ByteArray) (w:World) (r:Except Int (Tok × Nat)) (e:Ending) (w':World):Prop:=Own1 g w w'∧match r with
 |.error c=>e=.returned (.tuple #[.agg #[.int .i64 0,.string ⟨#[]⟩,.int .i64 0,.int .i64 0],.int .i64 c])
 |.ok (t,j)=>e=.returned (.tuple #[.agg #[.int .i64 t.kind,.string t.text,.int .i64 t.n,.int .i64 0],.int .i64 0])∧ScAt g s w' j
theorem zql {w W:World} {g:Nat} (h:Own1 g w W) (u0 u1 u2 u3:Value):Own1 g w ((((W.setCell ⟨w.heap.size,0,none⟩ u0).setCell ⟨w.heap.size,1,none⟩ u1).setCell ⟨w.heap.size,2,none⟩ u2).setCell ⟨w.heap.size,3,none⟩ u3):=
 Chg.trans h (((((Chg.refl (λk=>k=w.heap.size) W).setCell (p:=⟨w.heap.size,0,none⟩) (.inl rfl) u0).setCell (p:=⟨w.heap.size,1,none⟩) (.inl rfl) u1).setCell (p:=⟨w.heap.size,2,none⟩) (.inl rfl) u2).setCell (p:=⟨w.heap.size,3,none⟩) (.inl rfl) u3) (λj hj=>.inr (by omega))
theorem zen {g:Nat} {s:ByteArray} {w W:World} {r:Except Int (Tok × Nat)} {c:Int} (O:Own1 g w W) (hr:r=.error c) (u0 u1 u2 u3:Value) :
 zia g s w r (.returned (.tuple #[.agg #[.int .i64 0,.string ⟨#[]⟩,.int .i64 0,.int .i64 0],.int .i64 c])) ((((W.setCell ⟨w.heap.size,0,none⟩ u0).setCell ⟨w.heap.size,1,none⟩ u1).setCell ⟨w.heap.size,2,none⟩ u2).setCell ⟨w.heap.size,3,none⟩ u3):=by
 subst hr;exact⟨zql O _ _ _ _,rfl⟩
theorem zmo {g:Nat} {s:ByteArray} {w W:World} {r:Except Int (Tok × Nat)} {k n a:Int} {t:ByteArray} {j:Nat} (O:Own1 g w W) (S:ScAt g s W j) (hg:g<w.heap.size) (hr:r=.ok (⟨k,t,n,a⟩,j)) (u0 u1 u2 u3:Value) :
 zia g s w r (.returned (.tuple #[.agg #[.int .i64 k,.string t,.int .i64 n,.int .i64 0],.int .i64 0])) ((((W.setCell ⟨w.heap.size,0,none⟩ u0).setCell ⟨w.heap.size,1,none⟩ u1).setCell ⟨w.heap.size,2,none⟩ u2).setCell ⟨w.heap.size,3,none⟩ u3):=by
 subst hr;have:=zmz O S hg u0 u1 u2 u3;exact⟨this.1,rfl,this.2⟩
theorem znR (s:ByteArray) (i e j:Nat) (h:i+j<e):bt (s.extract i e) j=bt s (i+j):=by
 unfold bt;simp only[ByteArray.data_extract,Array.toList_extract];rw[List.extract_eq_take_drop,List.getD_eq_getElem?_getD,List.getD_eq_getElem?_getD,List.getElem?_take_of_lt (by omega),List.getElem?_drop]
theorem zop (s:ByteArray) (i:Nat) (h:i<s.size):s.data.toList[i]?=some (bt s i):=by
 unfold bt;have hl:=zaz s;rw[List.getD_eq_getElem?_getD,List.getElem?_eq_getElem (show i<s.data.toList.length by omega)];rfl
theorem zja (s:ByteArray):s.data.toList.all zcY=true↔∀j,j<s.size→zcY (bt s j)=true:=by
 rw[List.all_eq_true];have hl:=zaz s
 constructor
 ·intro h j hj;exact h _ (List.mem_of_getElem? (zop s j hj))
 ·intro h x hx;obtain⟨j,hj⟩:=List.getElem?_of_mem hx;have hjl:=(List.getElem?_eq_some_iff.1 hj).1;have:=zop s j (by omega);rw[hj] at this;rw[Option.some.inj this];exact h j (by omega)
theorem zmC {c:UInt8} (h:zcY c=true):wc c=true:=by rw[zrp,h];simp
theorem zqq {s:ByteArray} (h:s.size=1) (hb:bt s 0=48):s=(⟨#[48]⟩:ByteArray):=by
 apply zgu;rw[ByteArray.toList_eq,ByteArray.toList_eq];apply List.ext_getElem?;intro i;have hl:=zaz s;rcases Nat.eq_zero_or_pos i with rfl|hi
 ·rw[zop s 0 (by omega),hb];rfl
 ·rw[List.getElem?_eq_none (by omega),List.getElem?_eq_none (by simp;omega)]
theorem zkz (s:ByteArray) (hs:s.size≤32768) (g i:Nat) (hi:i<s.size) (hd:zcY (bt s i)=true) (w:World) (h:ScAt g s w i) :
 Calls Tryz.prog 75 #[.pointer (some ⟨g,0,none⟩)] w (zia g s w (zeM s i)):=by
 have hg:g<w.heap.size:=h.lt;have hb:=(Below.refl w.heap.size w).alloc (Nat.le_refl _) (.cells #[.int .i64 0,.string ⟨#[]⟩,.int .i64 0,.int .i64 0] 140);have hx:=zac.new w #[.int .i64 0,.string ⟨#[]⟩,.int .i64 0,.int .i64 0] 140;obtain⟨w0,hw⟩:∃W,w.alloc (.cells #[.int .i64 0,.string ⟨#[]⟩,.int .i64 0,.int .i64 0] 140)=W:=⟨_,rfl⟩;rw[hw] at hb hx;have KW:=zz (zlg s hs g i (by omega) w0 (zaa hb h));have O0:=zz (zbd (b:=g) hb);have X0:=zz hx;obtain⟨r,hr⟩:∃r,zeM s i=r:=⟨_,rfl⟩;rw[hr];unfold zeM at hr;dsimp only at hr
 have hE1:i+1≤zbm s s.size i:=by
  rw[zgR hi (zmC hd) (by omega)];exact(zeC (by omega)).1
 have hE2:zbm s s.size i≤s.size:=(zeC (by omega)).2;obtain⟨E,hE⟩:∃E,zbm s s.size i=E:=⟨_,rfl⟩;rw[hE] at hr KW hE1 hE2;have hsz:(s.extract i E).size=E-i:=by rw[ByteArray.size_extract];omega
 have hb0:bt (s.extract i E) 0=bt s i:=znR s i E 0 (by omega);obtain⟨t,ht⟩:∃t,s.extract i E=t:=⟨_,rfl⟩;rw[ht] at hr KW hsz hb0;have HR:=zz hr;have HI:=zz (zgB t);have h0t:0<t.size:=by omega
 have hts:t.size≤32768:=by omega
 clear h hb hx ht hr hE;go_enter Tryz.func75,Tryz.ntmps75;go_wp2_with fail;clear hw;(with_reducible refine KW.out.mono ?_);rintro e w1 ⟨rfl,hc,hs1⟩;have O1:=zz (O0.out.trans hc);have S1:=zz hs1;have X1:=zz (X0.out.keep hc (by omega));have x0:w1.cell? ⟨w.heap.size,0,none⟩=some (.int .i64 0):=X1.out.cell 0;have x1:w1.cell? ⟨w.heap.size,1,none⟩=some (.string ⟨#[]⟩):=X1.out.cell 1;have x2:w1.cell? ⟨w.heap.size,2,none⟩=some (.int .i64 0):=X1.out.cell 2;have x3:w1.cell? ⟨w.heap.size,3,none⟩=some (.int .i64 0):=X1.out.cell 3;have z:=X1.out.fz;clear hc hs1 KW O0 X0;go_wp2_with fail
 go_loopw [12] (λs12 wr=>∃k:Nat,k≤t.size∧s12=.int .i64 k∧Hid (∀j,j<k→zcY (bt t j)=true)∧wr=w1) (λs12 _=>t.size-(intOf s12).toNat)
 case atStart=>exact⟨0,by omega,rfl,zz (λj hj=>absurd hj (by omega)),rfl⟩
 case round=>
  obtain⟨k,hk,rfl,HA,rfl⟩:=hrel
  by_cases hlt:k<t.size
  ·have hki:(k:Int)<(t.size:Int):=by omega
   have HK:=HI.out k hlt wr;have KD:=zz (zgk (bt t k) wr);cases hdk:zcY (bt t k) with
   |true=>
    rw[hdk] at KD
    have HA2:Hid (∀j,j<k+1→zcY (bt t j)=true):=zz (λj hj=>by
     rcases Nat.lt_or_ge j k with h|h
     ·exact HA.out j h
     ·obtain rfl:j=k:=by omega
      exact hdk)
    go_wp2_with fail;(with_reducible refine KD.out.mono ?_);rintro e w2 ⟨rfl,rfl⟩;go_wp2_with fail;exact⟨⟨k+1,by omega,by go_num,HA2,trivial⟩,by simp[intOf];omega⟩
   |false=>
    rw[hdk] at KD
    have hall:¬t.data.toList.all zcY=true:=λh=>by
     have:=(zja t).1 h k hlt;rw[hdk] at this;cases this
    have HR2:Hid (r=.error 2):=zz (by rw[←HR.out,if_pos (by simpa using hall)]);go_wp2_with fail;(with_reducible refine KD.out.mono ?_);rintro e w2 ⟨rfl,rfl⟩;go_wp2_with fail;exact bodyPost_ret (zah (q:=3) (by rfl) _ _ w.heap.size _ _ (0,0) _ rfl (zbA _ _ _ _ X1.out) Tryz.underlying140 rfl zcj) rfl (zen O1.out HR2.out _ _ _ _)
  ·have hki:¬(k:Int)<(t.size:Int):=by omega
   have hall:t.data.toList.all zcY=true:=(zja t).2 (λj hj=>HA.out j (by omega))
   have HI0:(Instr.index 9 (.string t) (.int .i64 0)).run Tryz.prog wr=.ok (.int .u8 ((bt s i).toNat:Int)) wr:=by
    rw[←hb0];exact HI.out 0 h0t wr
   have q:=HR.out;rw[if_neg (by simp[hall])] at q;have HP:=zz (zoT t 0 9007199254740992 wr (by omega));have HZ:Hid (bt t 0=bt s i):=zz hb0;clear HR HI hb0 hall HA
   by_cases h48:bt s i=48
   ·rw[h48] at HI0
    by_cases hE3:E=i+1
    ·have ht1:t=(⟨#[48]⟩:ByteArray):=zqq (by omega) (by rw[HZ.out];exact h48);have e0:(t.toList == [48])=true:=zex ht1;rw[if_neg (λh=>h.2 hE3)] at q;clear ht1 hE3 HZ;obtain⟨⟨pn,pb⟩,hP⟩:∃P,zfz t 0 9007199254740992=P:=⟨_,rfl⟩;rw[hP] at q HP;clear hP;cases pb with
     |true=>
      have HR2:Hid (r=.ok (⟨2,⟨#[]⟩,pn,i⟩,E)):=zz (by rw[←q];rfl);clear q;go_wp2_with fail;(with_reducible refine HP.out.mono ?_);rintro e w2 ⟨rfl,hb⟩;have O2:=zz (O1.out.of_below hb);have S2:=zz (zaa hb S1.out);have X2:=zz (zaa hb X1.out);have x0:w2.cell? ⟨w.heap.size,0,none⟩=some (.int .i64 0):=X2.out.cell 0;have x1:w2.cell? ⟨w.heap.size,1,none⟩=some (.string ⟨#[]⟩):=X2.out.cell 1;have x2:w2.cell? ⟨w.heap.size,2,none⟩=some (.int .i64 0):=X2.out.cell 2;have x3:w2.cell? ⟨w.heap.size,3,none⟩=some (.int .i64 0):=X2.out.cell 3;have z:=X2.out.fz;clear hb;go_wp2_with fail;exact bodyPost_ret (zah (q:=3) (by rfl) _ _ w.heap.size _ _ (0,0) _ rfl (zbA _ _ _ _ X2.out) Tryz.underlying140 rfl zcj) rfl (zmo O2.out S2.out hg HR2.out _ _ _ _)
     |false=>
      have HR2:Hid (r=.error 6):=zz (by rw[←q];rfl);clear q;go_wp2_with fail;(with_reducible refine HP.out.mono ?_);rintro e w2 ⟨rfl,hb⟩;have O2:=zz (O1.out.of_below hb);have X2:=zz (zaa hb X1.out);have x0:w2.cell? ⟨w.heap.size,0,none⟩=some (.int .i64 0):=X2.out.cell 0;have x1:w2.cell? ⟨w.heap.size,1,none⟩=some (.string ⟨#[]⟩):=X2.out.cell 1;have x2:w2.cell? ⟨w.heap.size,2,none⟩=some (.int .i64 0):=X2.out.cell 2;have x3:w2.cell? ⟨w.heap.size,3,none⟩=some (.int .i64 0):=X2.out.cell 3;have z:=X2.out.fz;clear hb;go_wp2_with fail;exact bodyPost_ret (zah (q:=3) (by rfl) _ _ w.heap.size _ _ (0,0) _ rfl (zbA _ _ _ _ X2.out) Tryz.underlying140 rfl zcj) rfl (zen O2.out HR2.out _ _ _ _)
    ·have ht1:¬t=(⟨#[48]⟩:ByteArray):=λh=>by
      have h2:t.size=1:=by rw[h];rfl
      omega
     have e0:(t.toList == [48])=false:=zam ht1;rw[if_pos ⟨h48,hE3⟩] at q;have HR2:Hid (r=.error 2):=zz (q.symm);clear q ht1 HZ;go_wp2_with fail;exact bodyPost_ret (zah (q:=3) (by rfl) _ _ w.heap.size _ _ (0,0) _ rfl (zbA _ _ _ _ X1.out) Tryz.underlying140 rfl zcj) rfl (zen O1.out HR2.out _ _ _ _)
   ·have e0:(((bt s i).toNat:Int) == 48)=false:=zcD (n:=48) h48;obtain⟨Y,hY⟩:∃Y,((bt s i).toNat:Int)=Y:=⟨_,rfl⟩;rw[hY] at e0 HI0;rw[if_neg (λh=>h48 h.1)] at q;clear hY h48 HZ;obtain⟨⟨pn,pb⟩,hP⟩:∃P,zfz t 0 9007199254740992=P:=⟨_,rfl⟩;rw[hP] at q HP;clear hP;cases pb with
    |true=>
     have HR2:Hid (r=.ok (⟨2,⟨#[]⟩,pn,i⟩,E)):=zz (by rw[←q];rfl);clear q;go_wp2_with fail;(with_reducible refine HP.out.mono ?_);rintro e w2 ⟨rfl,hb⟩;have O2:=zz (O1.out.of_below hb);have S2:=zz (zaa hb S1.out);have X2:=zz (zaa hb X1.out);have x0:w2.cell? ⟨w.heap.size,0,none⟩=some (.int .i64 0):=X2.out.cell 0;have x1:w2.cell? ⟨w.heap.size,1,none⟩=some (.string ⟨#[]⟩):=X2.out.cell 1;have x2:w2.cell? ⟨w.heap.size,2,none⟩=some (.int .i64 0):=X2.out.cell 2;have x3:w2.cell? ⟨w.heap.size,3,none⟩=some (.int .i64 0):=X2.out.cell 3;have z:=X2.out.fz;clear hb;go_wp2_with fail;exact bodyPost_ret (zah (q:=3) (by rfl) _ _ w.heap.size _ _ (0,0) _ rfl (zbA _ _ _ _ X2.out) Tryz.underlying140 rfl zcj) rfl (zmo O2.out S2.out hg HR2.out _ _ _ _)
    |false=>
     have HR2:Hid (r=.error 6):=zz (by rw[←q];rfl);clear q;go_wp2_with fail;(with_reducible refine HP.out.mono ?_);rintro e w2 ⟨rfl,hb⟩;have O2:=zz (O1.out.of_below hb);have X2:=zz (zaa hb X1.out);have x0:w2.cell? ⟨w.heap.size,0,none⟩=some (.int .i64 0):=X2.out.cell 0;have x1:w2.cell? ⟨w.heap.size,1,none⟩=some (.string ⟨#[]⟩):=X2.out.cell 1;have x2:w2.cell? ⟨w.heap.size,2,none⟩=some (.int .i64 0):=X2.out.cell 2;have x3:w2.cell? ⟨w.heap.size,3,none⟩=some (.int .i64 0):=X2.out.cell 3;have z:=X2.out.fz;clear hb;go_wp2_with fail;exact bodyPost_ret (zah (q:=3) (by rfl) _ _ w.heap.size _ _ (0,0) _ rfl (zbA _ _ _ _ X2.out) Tryz.underlying140 rfl zcj) rfl (zen O2.out HR2.out _ _ _ _)
def ziQ (s:ByteArray) (i:Nat):Nat→Except Int (Tok × Nat)
 |0=>.error 2
 |k+1=>if zcq (s.extract i (i+(k+1)))=true then .ok (⟨4,s.extract i (i+(k+1)),0,i⟩,i+(k+1)) else ziQ s i k
theorem zqw (s:ByteArray) (i:Nat) (hi:i<s.size):zkx s i=ziQ s i (min 2 (s.size-i)):=by
 unfold zkx
 by_cases h:i+1<s.size
 ·rw[show min 2 (s.size-i)=2 from by omega,ziQ,ziQ,ziQ]
  by_cases h2:zcq (s.extract i (i+2))=true
  ·rw[if_pos ⟨h,h2⟩,if_pos h2]
  ·rw[if_neg (λh=>h2 h.2),if_neg h2]
 ·rw[if_neg (λh'=>h h'.1),show min 2 (s.size-i)=1 from by omega,ziQ,ziQ]
theorem zpu (s:ByteArray) (hs:s.size≤32768) (g i:Nat) (hi:i<s.size) (w:World) (h:ScAt g s w i) :
 Calls Tryz.prog 77 #[.pointer (some ⟨g,0,none⟩)] w (zia g s w (zkx s i)):=by
 have hg:g<w.heap.size:=h.lt;have hb:=(Below.refl w.heap.size w).alloc (Nat.le_refl _) (.cells #[.int .i64 0,.string ⟨#[]⟩,.int .i64 0,.int .i64 0] 140);have hx:=zac.new w #[.int .i64 0,.string ⟨#[]⟩,.int .i64 0,.int .i64 0] 140;obtain⟨w0,hw⟩:∃W,w.alloc (.cells #[.int .i64 0,.string ⟨#[]⟩,.int .i64 0,.int .i64 0] 140)=W:=⟨_,rfl⟩;rw[hw] at hb hx;have S0:Hid (SC g s w w0 i):=zz ⟨zaa hb h,zbd (b:=g) hb⟩;have X0:=zz hx;obtain⟨r,hr⟩:∃r,zkx s i=r:=⟨_,rfl⟩;rw[hr];rw[zqw s i hi] at hr;obtain⟨m,hm⟩:∃m,min 2 (s.size-i)=m:=⟨_,rfl⟩;rw[hm] at hr;have hm1:m≤2:=by omega
 have hm2:i+m≤s.size:=by omega
 have HR:=zz hr;have d0:=S0.out.cells0;have d1:=S0.out.cells1;have hsub:IntKind.i64.wrap ((s.size:Int)-(i:Int))=((s.size-i:Nat):Int):=by rw[IntWalk.i64_in _ (by omega)];omega
 clear h hb hx hr;go_enter Tryz.func77,Tryz.ntmps77;go_wp2_with fail;clear hw;obtain⟨z4,hz4⟩:∃z:Int,(if ((s.size-i:Nat):Int)<2 then ((s.size-i:Nat):Int) else 2)=z:=⟨_,rfl⟩;have hz5:z4=(m:Int):=by rw[←hz4];split<;>omega
 go_quiet (fail)
 obtain⟨w1,hw1⟩:∃W,w0.drewN nq=W:=⟨_,rfl⟩;have S1:=zz (S0.out.drewN nq);have X1:=zz (zaa (zae (Below.refl _ _) nq) X0.out);rw[hw1] at S1 X1;rw[hw1];clear hw1 nq S0 X0 d0 d1;subst hz5;go_wp2_with fail
 go_loopw [4] (λs4 wr=>∃k:Nat,k≤m∧s4=.int .i64 k∧Hid (ziQ s i k=r)∧Hid (SC g s w wr i)∧Hid (zac wr w.heap.size #[.int .i64 0,.string ⟨#[]⟩,.int .i64 0,.int .i64 0] 140)) (λs4 _=>(intOf s4).toNat)
 case atStart=>exact⟨m,Nat.le_refl _,rfl,HR,S1,X1⟩
 case round=>
  clear HR S1 X1;obtain⟨k,hk,rfl,HR,HS,HX⟩:=hrel;have d0:=HS.out.cells0;have d1:=HS.out.cells1;rcases Nat.eq_zero_or_pos k with rfl|hk0
  ·have HR2:Hid (r=.error 2):=zz HR.out.symm;have x0:wr.cell? ⟨w.heap.size,0,none⟩=some (.int .i64 0):=HX.out.cell 0;have x1:wr.cell? ⟨w.heap.size,1,none⟩=some (.string ⟨#[]⟩):=HX.out.cell 1;have x2:wr.cell? ⟨w.heap.size,2,none⟩=some (.int .i64 0):=HX.out.cell 2;have x3:wr.cell? ⟨w.heap.size,3,none⟩=some (.int .i64 0):=HX.out.cell 3;have z:=HX.out.fz;go_wp2_with fail;exact bodyPost_ret (zah (q:=3) (by rfl) _ _ w.heap.size _ _ (0,0) _ rfl (zbA _ _ _ _ HX.out) Tryz.underlying140 rfl zcj) rfl (zen HS.out.own HR2.out _ _ _ _)
  ·obtain⟨k,rfl⟩:∃j,k=j+1:=⟨k-1,by omega⟩;have hki:(0:Int)<((k+1:Nat):Int):=by omega
   have q:=HR.out;rw[ziQ] at q;have hwk:IntKind.i64.wrap ((i:Int)+((k+1:Nat):Int))=((i+(k+1):Nat):Int):=by rw[IntWalk.i64_in _ (by omega)];omega
   have hs1:(i:Int)≤((i+(k+1):Nat):Int):=by omega
   have hs2:((i+(k+1):Nat):Int)≤(s.size:Int):=by omega
   have hwm:IntKind.i64.wrap (((k+1:Nat):Int)-1)=((k:Nat):Int):=by rw[IntWalk.i64_in _ (by omega)];omega
   obtain⟨e,he⟩:∃e,i+(k+1)=e:=⟨_,rfl⟩;obtain⟨k1,hk1⟩:∃k1,k+1=k1:=⟨_,rfl⟩;rw[hk1] at he;rw[hk1,he] at q hwk;rw[hk1] at hs1 hs2 hwm hki;rw[he] at hs1 hs2;rw[hk1];have KM:=zz (λW=>zmX (s.extract i e) W);cases hmk:zcq (s.extract i e) with
   |true=>
    rw[hmk] at KM;rw[if_pos hmk] at q;have HR2:Hid (r=.ok (⟨4,s.extract i e,0,i⟩,e)):=zz q.symm;clear q hmk;go_wp2_with fail
    go_quiet (fail)
    obtain⟨w2,hw2⟩:∃W,wr.drewN nq=W:=⟨_,rfl⟩;have S2:=zz (HS.out.drewN nq);have X2:=zz (zaa (zae (Below.refl _ _) nq) HX.out);rw[hw2] at S2 X2;rw[hw2];clear hw2 nq HS HX d0 d1;have c1:w2.cell? ⟨g,1,none⟩=some (.int .i64 (i:Int)):=S2.out.at'.cell 1;have z2:=S2.out.at'.fz;go_wp2_with fail;(with_reducible refine(KM.out _).mono ?_);rintro _ w3 ⟨rfl,rfl⟩;have S3:=zz (S2.out.set e);have X3:=zz (X2.out.keep (Own1.set (zbd (b:=g) (Below.refl w3.heap.size w3)) 1 (.int .i64 (e:Int))) (by omega));obtain⟨w4,hw4⟩:∃W,w3.setCell ⟨g,1,none⟩ (.int .i64 (e:Int))=W:=⟨_,rfl⟩;rw[hw4] at S3 X3;have x0:w4.cell? ⟨w.heap.size,0,none⟩=some (.int .i64 0):=X3.out.cell 0;have x1:w4.cell? ⟨w.heap.size,1,none⟩=some (.string ⟨#[]⟩):=X3.out.cell 1;have x2:w4.cell? ⟨w.heap.size,2,none⟩=some (.int .i64 0):=X3.out.cell 2;have x3:w4.cell? ⟨w.heap.size,3,none⟩=some (.int .i64 0):=X3.out.cell 3;have z:=X3.out.fz;go_wp2_with fail;exact bodyPost_ret (zah (q:=3) (by rfl) _ _ w.heap.size _ _ (0,0) _ rfl (zbA _ _ _ _ X3.out) Tryz.underlying140 rfl zcj) rfl (zmo S3.out.own S3.out.at' hg HR2.out _ _ _ _)
   |false=>
    rw[hmk] at KM;rw[if_neg (by rw[hmk];simp)] at q;have HR2:Hid (ziQ s i k=r):=zz q;clear q hmk;go_wp2_with fail
    go_quiet (fail)
    obtain⟨w2,hw2⟩:∃W,wr.drewN nq=W:=⟨_,rfl⟩;have S2:=zz (HS.out.drewN nq);have X2:=zz (zaa (zae (Below.refl _ _) nq) HX.out);rw[hw2] at S2 X2;rw[hw2];clear hw2 nq HS HX d0 d1;go_wp2_with fail;(with_reducible refine(KM.out _).mono ?_);rintro _ w3 ⟨rfl,rfl⟩;go_wp2_with fail;exact⟨⟨k,by omega,rfl,HR2,S2,X2⟩,by simp[intOf];omega⟩
end Go.Proofs.YtjdpocmlimkjjaaGreat
