/- Conditions: those in each statement. -/
import Derived.Test.YtjdpocmlimkjjaaGreatQ09
import Derived.Test.YtjdpocmlimkjjaaGreatQ10
import Derived.Test.YtjdpocmlimkjjaaGreatQ02
set_option maxHeartbeats 32000000
set_option maxRecDepth 100000
namespace Go.Proofs.YtjdpocmlimkjjaaGreat
open Go.RowKit
theorem zdr {s:ByteArray} (h:¬s=⟨#[]⟩):s.toList.isEmpty=false:=by
 cases hl:s.toList with
 |nil=>
  have q:=zam h;rw[hl] at q;cases q
 |cons a r=>rfl
theorem zhm (s:ByteArray) (w:World):Calls Tryz.prog 49 #[.string s] w λe w'=>e=.returned (.int .i64 (zbr s))∧w=w':=(zoa s w).mono (λ_ _ h=>⟨h.1,h.2.symm⟩)
theorem zkb (s:ByteArray) (w:World) (hs:s.size≤32768):Calls Tryz.prog 43 #[.string s] w λe w'=>e=.returned (.bool (zaw s))∧w=w':=(zkM s w hs).mono (λ_ _ h=>⟨h.1,h.2.symm⟩)
structure RdSt (w W:World) (kd:Int) (tx:ByteArray) (nn at':Int) (A:Option Addr) (n c:Nat):Prop where
 low:Below w.heap.size w W
 box:zac W w.heap.size #[.int .i64 kd,.string tx,.int .i64 nn,.int .i64 at',.slice A n c] 25
 res:zac W (w.heap.size+1) #[.int .i64 0,.string ⟨#[]⟩,.slice none 0 0] 55
section
variable {w W W':World} {kd:Int} {tx:ByteArray} {nn at':Int} {A:Option Addr} {n c:Nat}
theorem RdSt.below (h:RdSt w W kd tx nn at' A n c) (k:Below W.heap.size W W'):RdSt w W' kd tx nn at' A n c:=⟨zab h.low k h.low.size,zaa k h.box,zaa k h.res⟩
theorem RdSt.drewN (h:RdSt w W kd tx nn at' A n c) (q:Nat):RdSt w (W.drewN q) kd tx nn at' A n c:=h.below (zae (Below.refl _ _) q)
theorem RdSt.drew (h:RdSt w W kd tx nn at' A n c):RdSt w W.drew kd tx nn at' A n c:=h.drewN 1
theorem RdSt.cells (h:RdSt w W kd tx nn at' A n c):W.cell? ⟨w.heap.size,0,none⟩=some (.int .i64 kd)∧W.cell? ⟨w.heap.size,1,none⟩=some (.string tx)∧W.cell? ⟨w.heap.size,2,none⟩=some (.int .i64 nn)∧W.cell? ⟨w.heap.size,3,none⟩=some (.int .i64 at')∧W.cell? ⟨w.heap.size,4,none⟩=some (.slice A n c):=⟨h.box.cell 0,h.box.cell 1,h.box.cell 2,h.box.cell 3,h.box.cell 4⟩
theorem RdSt.rcells (h:RdSt w W kd tx nn at' A n c):W.cell? ⟨w.heap.size+1,0,none⟩=some (.int .i64 0)∧W.cell? ⟨w.heap.size+1,1,none⟩=some (.string ⟨#[]⟩)∧W.cell? ⟨w.heap.size+1,2,none⟩=some (.slice none 0 0):=⟨h.res.cell 0,h.res.cell 1,h.res.cell 2⟩
theorem zbu {r:Option Ty} (hq:none=r) {a:Act} (h2:a.tmps.getD 2 undef=.pointer (some ⟨w.heap.size+1,0,none⟩)) (h3:a.tmps.getD 3 undef=.bool false) (hd:a.defers=[]) (h:RdSt w W kd tx nn at' A n c) :
 bodyPost Tryz.prog Tryz.f25 (ziu w r) Exit.ret a (((W.setCell ⟨w.heap.size+1,0,none⟩ (.int .i64 0)).setCell ⟨w.heap.size+1,1,none⟩ (.string ⟨#[]⟩)).setCell ⟨w.heap.size+1,2,none⟩ (.slice none 0 0)):=by
 have:=zah (P:=Tryz.prog) (fn:=Tryz.f25) (q:=3) (by rfl) a.tmps _ (w.heap.size+1) _ _ (0,0) _ h2 (zdY (.int .i64 0) (.string ⟨#[]⟩) (.slice none 0 0) h.res) Tryz.underlying55 rfl ziB;rw[h3] at this;refine bodyPost_ret this hd ⟨?_,?_⟩
 ·exact h.low.trans ((zcQ _ _ _ _ _).below h.low.size (λq hq=>by omega))
 ·rw[←hq]
theorem zbj {r:Option Ty} (hq:none=r) {a:Act} (h2:a.tmps.getD 2 undef=.pointer (some ⟨w.heap.size+1,0,none⟩)) (h3:a.tmps.getD 3 undef=.bool false) (hd:a.defers=[]) (h:RdSt w W kd tx nn at' A n c) :
 bodyPost Tryz.prog Tryz.f25 (ziu w r) Exit.ret a W:=by
 have:=zah (P:=Tryz.prog) (fn:=Tryz.f25) (q:=3) (by rfl) a.tmps _ (w.heap.size+1) _ _ (0,0) _ h2 h.res Tryz.underlying55 rfl ziB;rw[h3] at this;refine bodyPost_ret this hd ⟨h.low,?_⟩;rw[←hq]
theorem zit (k:Int) (t:ByteArray) {r:Option Ty} (hq:some (.mk k t [])=r) {a:Act} (h2:a.tmps.getD 2 undef=.pointer (some ⟨w.heap.size+1,0,none⟩)) (h3:a.tmps.getD 3 undef=.bool true) (hd:a.defers=[]) (h:RdSt w W kd tx nn at' A n c) :
 bodyPost Tryz.prog Tryz.f25 (ziu w r) Exit.ret a (((W.setCell ⟨w.heap.size+1,0,none⟩ (.int .i64 k)).setCell ⟨w.heap.size+1,1,none⟩ (.string t)).setCell ⟨w.heap.size+1,2,none⟩ (.slice none 0 0)):=by
 have:=zah (P:=Tryz.prog) (fn:=Tryz.f25) (q:=3) (by rfl) a.tmps _ (w.heap.size+1) _ _ (0,0) _ h2 (zdY (.int .i64 k) (.string t) (.slice none 0 0) h.res) Tryz.underlying55 rfl ziB;rw[h3] at this;refine bodyPost_ret this hd ⟨?_,?_⟩
 ·exact h.low.trans ((zcQ _ _ _ _ _).below h.low.size (λq hq=>by omega))
 ·rw[←hq];exact⟨none,0,rfl,Rd.sl_nil⟩
theorem zkQ (t:Ty) {r:Option Ty} (hq:some t=r) {a:Act} (h2:a.tmps.getD 2 undef=.pointer (some ⟨w.heap.size+1,0,none⟩)) (h3:a.tmps.getD 3 undef=.bool true) (hd:a.defers=[]) (h:RdSt w W kd tx nn at' A n c) {A2:Option Addr} {c2 lo:Nat} (hlo:w.heap.size+2≤lo) (hr:Rd (Bt lo W.heap.size) W (ys t.args) (.slice A2 t.args.length c2)) :
 bodyPost Tryz.prog Tryz.f25 (ziu w r) Exit.ret a (((W.setCell ⟨w.heap.size+1,0,none⟩ (.int .i64 t.kind)).setCell ⟨w.heap.size+1,1,none⟩ (.string t.name)).setCell ⟨w.heap.size+1,2,none⟩ (.slice A2 t.args.length c2)):=by
 have hc:=zcQ W (w.heap.size+1) (.int .i64 t.kind) (.string t.name) (.slice A2 t.args.length c2);have:=zah (P:=Tryz.prog) (fn:=Tryz.f25) (q:=3) (by rfl) a.tmps _ (w.heap.size+1) _ _ (0,0) _ h2 (zdY (.int .i64 t.kind) (.string t.name) (.slice A2 t.args.length c2) h.res) Tryz.underlying55 rfl ziB;rw[h3] at this;refine bodyPost_ret this hd ⟨?_,?_⟩
 ·exact h.low.trans (hc.below h.low.size (λq hq=>by omega))
 ·rw[←hq];refine⟨A2,c2,rfl,?_⟩;exact(hc.rd (ok:=Bt lo W.heap.size) (λb hb=>⟨hb.2,by have:=hb.1;omega⟩) hr).weaken (λq hq=>⟨by have:=hq.1;omega,by have:=hq.2;have:=hc.size;omega⟩)
end
theorem zpA (kd:Int) (tx:ByteArray) (nn at':Int) (l:List Nd) (IH:∀n∈l,zlo n):zlo (.mk kd tx nn at' l):=by
 intro A c w hf hs h;rw[zaE] at hs;replace h:Rd (Lt w.heap.size) w (ns l) (.slice A l.length c):=h
 show Calls Tryz.prog 25 #[.agg #[.int .i64 kd,.string tx,.int .i64 nn,.int .i64 at',.slice A l.length c]] w (ziu w (zfp (.mk kd tx nn at' l)))
 have ht:tx.size≤32768:=zbe hf;have hfl:fitL l=true:=zay hf;have hl:=zaD h;have hn:l.length≤2097152:=by have:=zaB l;omega
 have hs2:zaq l≤2097152:=by omega
 obtain⟨r,hr⟩:∃r,zfp (.mk kd tx nn at' l)=r:=⟨_,rfl⟩;rw[hr];rw[zfp] at hr;obtain⟨w1,h1,b1,c1⟩:=zai w #[.int .i64 kd,.string tx,.int .i64 nn,.int .i64 at',.slice A l.length c] 25;have s1:w1.heap.size=w.heap.size+1:=by rw[←h1];simp
 obtain⟨w2,h2,b2,c2⟩:=zai w1 #[.int .i64 0,.string ⟨#[]⟩,.slice none 0 0] 55;have s2:w2.heap.size=w.heap.size+2:=by rw[←h2];simp[s1]
 rw[s1] at c2;have hz:RdSt w w2 kd tx nn at' A l.length c:=⟨zab b1 b2 b1.size,zaa b2 c1,c2⟩;have HW:Hid ((w.alloc (.cells #[.int .i64 kd,.string tx,.int .i64 nn,.int .i64 at',.slice A l.length c] 25)).alloc (.cells #[.int .i64 0,.string ⟨#[]⟩,.slice none 0 0] 55)=w2):=zz (by rw[h1,h2]);have HH:=zz (h.belows hz.low);have HZ:=zz hz;have KA:=zz (λ(W:World) (k:Int) (hb:Below w2.heap.size w2 W)=>znw k l IH A c W hfl hs2 (HH.out.belows hb));have KB:=zz (λW=>zhm tx W);have KU:=zz (λW=>zkb tx W ht);obtain⟨x0,x1,x2,x3,x4⟩:=hz.cells;obtain⟨y0,y1,y2⟩:=hz.rcells;have yz:=hz.res.fz;have l2:w.heap.size+1<w2.heap.size:=by omega
 have HS2:=zz s2;clear b1 b2 c1 c2 s1 s2 h1 h2 hl h hf hfl hz ht IH hs hs2
 by_cases hnn:nn=0
 ·subst hnn;rw[if_neg (by simp)] at hr
  by_cases k12:kd=12
  ·subst k12;rw[if_pos rfl] at hr
   by_cases hl0:l.length=0
   ·have e0:((l.length:Int) == 0)=true:=by rw[beq_iff_eq];omega
    by_cases hb:zbr tx=0
    ·rw[if_neg (by simp[hb])] at hr;simp only[hb] at KB;cases hu:zaw tx with
     |true=>
      simp only[hu] at KU;rw[if_pos ⟨hu,hl0⟩] at hr;have HQ:=zz hr;clear hr hb hu hl0;go_enter Tryz.func25,Tryz.ntmps25;go_wp2_with fail;rw[HW.out];clear HW;go_wp2_with fail;(with_reducible refine(KB.out _).mono ?_);rintro e w3 ⟨rfl,rfl⟩;go_wp2_with fail;(with_reducible refine(KU.out _).mono ?_);rintro e w4 ⟨rfl,rfl⟩;go_wp2_with fail;exact zit 6 tx HQ.out (by rfl) (by rfl) rfl HZ.out
     |false=>
      simp only[hu] at KU;rw[if_neg (by simp[hu])] at hr;have HQ:=zz hr;clear hr hb hu hl0;go_enter Tryz.func25,Tryz.ntmps25;go_wp2_with fail;rw[HW.out];clear HW;go_wp2_with fail;(with_reducible refine(KB.out _).mono ?_);rintro e w3 ⟨rfl,rfl⟩;go_wp2_with fail;(with_reducible refine(KU.out _).mono ?_);rintro e w4 ⟨rfl,rfl⟩;go_wp2_with fail
      first
       |exact zbu HQ.out (by rfl) (by rfl) rfl HZ.out
       |exact zbj HQ.out (by rfl) (by rfl) rfl HZ.out
    ·rw[if_pos ⟨hb,hl0⟩] at hr;have hbb:(zbr tx == 0)=false:=by rw[beq_eq_false_iff_ne];exact hb
     have hbn:(zbr tx != 0)=true:=by rw[bne_iff_ne];exact hb
     have HQ:=zz hr;generalize zbr tx=B at *
     clear hr hb hl0;go_enter Tryz.func25,Tryz.ntmps25;go_wp2_with fail;rw[HW.out];clear HW;go_wp2_with fail;(with_reducible refine(KB.out _).mono ?_);rintro e w3 ⟨rfl,rfl⟩;go_wp2_with fail;exact zit B ⟨#[]⟩ HQ.out (by rfl) (by rfl) rfl HZ.out
   ·have e0:((l.length:Int) == 0)=false:=by rw[beq_eq_false_iff_ne];omega
    by_cases hb:zbr tx=0
    ·rw[if_neg (by simp[hb])] at hr;simp only[hb] at KB;cases hu:zaw tx with
     |true=>
      simp only[hu] at KU;rw[if_neg (by simp[hl0])] at hr;have HQ:=zz hr;clear hr hb hu hl0;go_enter Tryz.func25,Tryz.ntmps25;go_wp2_with fail;rw[HW.out];clear HW;go_wp2_with fail;(with_reducible refine(KB.out _).mono ?_);rintro e w3 ⟨rfl,rfl⟩;go_wp2_with fail;(with_reducible refine(KU.out _).mono ?_);rintro e w4 ⟨rfl,rfl⟩;go_wp2_with fail
      first
       |exact zbu HQ.out (by rfl) (by rfl) rfl HZ.out
       |exact zbj HQ.out (by rfl) (by rfl) rfl HZ.out
     |false=>
      simp only[hu] at KU;rw[if_neg (by simp[hu])] at hr;have HQ:=zz hr;clear hr hb hu hl0;go_enter Tryz.func25,Tryz.ntmps25;go_wp2_with fail;rw[HW.out];clear HW;go_wp2_with fail;(with_reducible refine(KB.out _).mono ?_);rintro e w3 ⟨rfl,rfl⟩;go_wp2_with fail;(with_reducible refine(KU.out _).mono ?_);rintro e w4 ⟨rfl,rfl⟩;go_wp2_with fail
      first
       |exact zbu HQ.out (by rfl) (by rfl) rfl HZ.out
       |exact zbj HQ.out (by rfl) (by rfl) rfl HZ.out
    ·rw[if_neg (by simp[hl0]),if_neg (by simp[hl0])] at hr;have hbb:(zbr tx == 0)=false:=by rw[beq_eq_false_iff_ne];exact hb
     have hbn:(zbr tx != 0)=true:=by rw[bne_iff_ne];exact hb
     have HQ:=zz hr;generalize zbr tx=B at *
     clear hr hb hl0;cases hu:zaw tx with
     |true=>
      simp only[hu] at KU;clear hu;go_enter Tryz.func25,Tryz.ntmps25;go_wp2_with fail;rw[HW.out];clear HW;go_wp2_with fail;(with_reducible refine(KB.out _).mono ?_);rintro e w3 ⟨rfl,rfl⟩;go_wp2_with fail;(with_reducible refine(KU.out _).mono ?_);rintro e w4 ⟨rfl,rfl⟩;go_wp2_with fail
      first
       |exact zbu HQ.out (by rfl) (by rfl) rfl HZ.out
       |exact zbj HQ.out (by rfl) (by rfl) rfl HZ.out
     |false=>
      simp only[hu] at KU;clear hu;go_enter Tryz.func25,Tryz.ntmps25;go_wp2_with fail;rw[HW.out];clear HW;go_wp2_with fail;(with_reducible refine(KB.out _).mono ?_);rintro e w3 ⟨rfl,rfl⟩;go_wp2_with fail;(with_reducible refine(KU.out _).mono ?_);rintro e w4 ⟨rfl,rfl⟩;go_wp2_with fail
      first
       |exact zbu HQ.out (by rfl) (by rfl) rfl HZ.out
       |exact zbj HQ.out (by rfl) (by rfl) rfl HZ.out
  ·rw[if_neg k12] at hr;have e12:(kd == 12)=false:=by rw[beq_eq_false_iff_ne];exact k12
   clear k12
   by_cases k14:kd=14
   ·subst k14;clear e12;rw[if_pos rfl] at hr
    by_cases hl0:l.length=0
    ·have e0:((l.length:Int) == 0)=true:=by rw[beq_iff_eq];omega
     cases hu:zaw tx with
     |true=>
      simp only[hu] at KU;rw[if_pos ⟨hu,hl0⟩] at hr;have HQ:=zz hr;clear hr hu hl0;go_enter Tryz.func25,Tryz.ntmps25;go_wp2_with fail;rw[HW.out];clear HW;go_wp2_with fail;(with_reducible refine(KU.out _).mono ?_);rintro e w4 ⟨rfl,rfl⟩;go_wp2_with fail;exact zit 7 tx HQ.out (by rfl) (by rfl) rfl HZ.out
     |false=>
      simp only[hu] at KU;rw[if_neg (by simp[hu])] at hr;have HQ:=zz hr;clear hr hu hl0;go_enter Tryz.func25,Tryz.ntmps25;go_wp2_with fail;rw[HW.out];clear HW;go_wp2_with fail;(with_reducible refine(KU.out _).mono ?_);rintro e w4 ⟨rfl,rfl⟩;go_wp2_with fail
      first
       |exact zbu HQ.out (by rfl) (by rfl) rfl HZ.out
       |exact zbj HQ.out (by rfl) (by rfl) rfl HZ.out
    ·have e0:((l.length:Int) == 0)=false:=by rw[beq_eq_false_iff_ne];omega
     cases hu:zaw tx with
     |true=>
      simp only[hu] at KU;rw[if_neg (by simp[hl0])] at hr;have HQ:=zz hr;clear hr hu hl0;go_enter Tryz.func25,Tryz.ntmps25;go_wp2_with fail;rw[HW.out];clear HW;go_wp2_with fail;(with_reducible refine(KU.out _).mono ?_);rintro e w4 ⟨rfl,rfl⟩;go_wp2_with fail
      first
       |exact zbu HQ.out (by rfl) (by rfl) rfl HZ.out
       |exact zbj HQ.out (by rfl) (by rfl) rfl HZ.out
     |false=>
      simp only[hu] at KU;rw[if_neg (by simp[hu])] at hr;have HQ:=zz hr;clear hr hu hl0;go_enter Tryz.func25,Tryz.ntmps25;go_wp2_with fail;rw[HW.out];clear HW;go_wp2_with fail;(with_reducible refine(KU.out _).mono ?_);rintro e w4 ⟨rfl,rfl⟩;go_wp2_with fail
      first
       |exact zbu HQ.out (by rfl) (by rfl) rfl HZ.out
       |exact zbj HQ.out (by rfl) (by rfl) rfl HZ.out
   ·rw[if_neg k14] at hr;have e14:(kd == 14)=false:=by rw[beq_eq_false_iff_ne];exact k14
    clear k14
    by_cases k13:kd=13
    ·subst k13;clear e12 e14;rw[if_pos rfl] at hr
     by_cases ht0:tx=⟨#[]⟩
     ·subst ht0
      by_cases hl1:l.length=1
      ·have e1:((l.length:Int) == 1)=true:=by rw[beq_iff_eq];omega
       rw[if_pos ⟨rfl,hl1⟩] at hr;have KK:=zz (KA.out w2 5 (Below.refl _ _));rw[hr] at KK;clear hr hl1 KA;go_enter Tryz.func25,Tryz.ntmps25;go_wp2_with fail;rw[HW.out];clear HW;go_wp2_with fail;(with_reducible refine KK.out.mono ?_);rintro e w3 hp;have HZ3:=zz (HZ.out.below hp.1);obtain⟨y0,y1,y2⟩:=HZ3.out.rcells;have yz:=HZ3.out.res.fz;cases r with
       |none=>
        obtain⟨_,rfl⟩:=hp;clear x0 x1 x2 x3 x4;go_wp2_with fail
        first
         |exact zbu rfl (by rfl) (by rfl) rfl HZ3.out
         |exact zbj rfl (by rfl) (by rfl) rfl HZ3.out
       |some t=>
        obtain⟨_,A2,c2,rfl,hrd⟩:=hp;have HRD:=zz hrd;clear x0 x1 x2 x3 x4 hrd;go_wp2_with fail;exact zkQ t rfl (by rfl) (by rfl) rfl HZ3.out (by omega) HRD.out
      ·have e1:((l.length:Int) == 1)=false:=by rw[beq_eq_false_iff_ne];omega
       rw[if_neg (by simp[hl1])] at hr;have HQ:=zz hr;clear hr hl1;go_enter Tryz.func25,Tryz.ntmps25;go_wp2_with fail;rw[HW.out];clear HW;go_wp2_with fail
       first
        |exact zbu HQ.out (by rfl) (by rfl) rfl HZ.out
        |exact zbj HQ.out (by rfl) (by rfl) rfl HZ.out
     ·have et:tx.toList.isEmpty=false:=zdr ht0;rw[if_neg (by simp[ht0])] at hr;have HQ:=zz hr;clear hr ht0;go_enter Tryz.func25,Tryz.ntmps25;go_wp2_with fail;rw[HW.out];clear HW;go_wp2_with fail
      first
       |exact zbu HQ.out (by rfl) (by rfl) rfl HZ.out
       |exact zbj HQ.out (by rfl) (by rfl) rfl HZ.out
    ·rw[if_neg k13] at hr;have e13:(kd == 13)=false:=by rw[beq_eq_false_iff_ne];exact k13
     clear k13
     by_cases k15:kd=15
     ·subst k15;clear e12 e14 e13;rw[if_pos rfl] at hr
      by_cases ht0:tx=⟨#[]⟩
      ·subst ht0
       by_cases hl1:0<l.length
       ·have e1:decide (0<l.length)=true:=decide_eq_true hl1;rw[if_pos ⟨rfl,hl1⟩] at hr;have KK:=zz (KA.out w2 8 (Below.refl _ _));rw[hr] at KK;clear hr hl1 KA;go_enter Tryz.func25,Tryz.ntmps25;go_wp2_with fail;rw[HW.out];clear HW;go_wp2_with fail;(with_reducible refine KK.out.mono ?_);rintro e w3 hp;have HZ3:=zz (HZ.out.below hp.1);obtain⟨y0,y1,y2⟩:=HZ3.out.rcells;have yz:=HZ3.out.res.fz;cases r with
        |none=>
         obtain⟨_,rfl⟩:=hp;clear x0 x1 x2 x3 x4;go_wp2_with fail
         first
          |exact zbu rfl (by rfl) (by rfl) rfl HZ3.out
          |exact zbj rfl (by rfl) (by rfl) rfl HZ3.out
        |some t=>
         obtain⟨_,A2,c2,rfl,hrd⟩:=hp;have HRD:=zz hrd;clear x0 x1 x2 x3 x4 hrd;go_wp2_with fail;exact zkQ t rfl (by rfl) (by rfl) rfl HZ3.out (by omega) HRD.out
       ·have e1:decide (0<l.length)=false:=decide_eq_false hl1;rw[if_neg (by simp[hl1])] at hr;have HQ:=zz hr;clear hr hl1;go_enter Tryz.func25,Tryz.ntmps25;go_wp2_with fail;rw[HW.out];clear HW;go_wp2_with fail
        first
         |exact zbu HQ.out (by rfl) (by rfl) rfl HZ.out
         |exact zbj HQ.out (by rfl) (by rfl) rfl HZ.out
      ·have et:tx.toList.isEmpty=false:=zdr ht0;rw[if_neg (by simp[ht0])] at hr;have HQ:=zz hr;clear hr ht0;go_enter Tryz.func25,Tryz.ntmps25;go_wp2_with fail;rw[HW.out];clear HW;go_wp2_with fail
       first
        |exact zbu HQ.out (by rfl) (by rfl) rfl HZ.out
        |exact zbj HQ.out (by rfl) (by rfl) rfl HZ.out
     ·rw[if_neg k15] at hr;have e15:(kd == 15)=false:=by rw[beq_eq_false_iff_ne];exact k15
      clear k15;have HQ:=zz hr;clear hr;go_enter Tryz.func25,Tryz.ntmps25;go_wp2_with fail;rw[HW.out];clear HW;go_wp2_with fail
      first
       |exact zbu HQ.out (by rfl) (by rfl) rfl HZ.out
       |exact zbj HQ.out (by rfl) (by rfl) rfl HZ.out
 ·rw[if_pos hnn] at hr;have en:(nn != 0)=true:=by rw[bne_iff_ne];exact hnn
  have HQ:=zz hr;clear hr hnn;go_enter Tryz.func25,Tryz.ntmps25;go_wp2_with fail;rw[HW.out];clear HW;go_wp2_with fail
  first
   |exact zbu HQ.out (by rfl) (by rfl) rfl HZ.out
   |exact zbj HQ.out (by rfl) (by rfl) rfl HZ.out
theorem zmN:∀(m:Nat) (n:Nd),n.size≤m→zlo n
 |0,n,h=>absurd (zjI n) (by omega)
 |m+1,.mk k t n a l,h=>zpA k t n a l (λx hx=>zmN m x (by have:=zaY hx;rw[zaE] at h;omega))
theorem zpU (n:Nd):zlo n:=zmN n.size n (Nat.le_refl _)
theorem zir (x:Nd) (r:List Nd):zaL (x::r)=if x.kind=7 then x::zaL r else []:=by
 unfold zaL;rw[List.takeWhile_cons]
 by_cases h:x.kind=7<;>simp[h]
theorem zfw:∀l:List Nd,zaL l=l.take (zaL l).length
 |[]=>rfl
 |x::r=>by
  rw[zir]
  by_cases h:x.kind=7
  ·rw[if_pos h,List.length_cons,List.take_succ_cons,←zfw r]
  ·rw[if_neg h];rfl
theorem zhj:∀l:List Nd,(zaL l).length≤l.length
 |[]=>Nat.le_refl _
 |x::r=>by
  have:=zhj r;rw[zir]
  by_cases h:x.kind=7
  ·rw[if_pos h,List.length_cons,List.length_cons];omega
  ·rw[if_neg h];simp
theorem ziY:∀(l:List Nd) (k:Nat),zaq (l.take k)≤zaq l
 |[],k=>by simp
 |x::r,0=>by rw[List.take_zero,zaq];omega
 |x::r,k+1=>by
  have:=ziY r k;rw[List.take_succ_cons,zat,zat];omega
theorem zow (l:List Nd):zaq (zaL l)≤zaq l:=by rw[zfw];exact ziY _ _
theorem zpR {l:List Nd} (h:fitL l=true):fitL (zaL l)=true:=by rw[zfw];exact zev h _
theorem zij {ok:Nat→Prop} {w:World} {l:List Nd} {A:Option Addr} {c:Nat} (h:Rd ok w (ns l) (.slice A l.length c)):Rd ok w (ns (zaL l)) (.slice A (zaL l).length c):=by
 have:=zgj h (zhj l)
 rwa [←zfw l] at this
theorem zcC (l:List Nd) (A:Option Addr) (c:Nat) (w:World) (h:Rd (Lt w.heap.size) w (ns l) (.slice A l.length c)) :
 Calls Tryz.prog 64 #[.slice A l.length c,.int .i64 7] w λe w'=>e=.returned (.slice A (zaL l).length c)∧Below w.heap.size w w':=by
 have HR:=zz h;have hl:=zaD h;have hn:l.length≤9223372036854775807:=Nat.le_trans hl.2.1 hl.2.2;have hc1:=hl.2.1;have hc2:=hl.2.2;obtain⟨m,hm⟩:∃m,(zaL l).length=m:=⟨_,rfl⟩;rw[hm];have HA0:Hid (0+(zaL (l.drop 0)).length=m):=zz (by rw[List.drop_zero,hm,Nat.zero_add]);have HB0:Hid (Below w.heap.size w w):=zz (Below.refl _ _);clear h hl hm;go_enter Tryz.func64,Tryz.ntmps64;go_wp2_with fail
 go_loopw [9] (λs wr=>∃i:Nat,i≤l.length∧s=.int .i64 i∧Hid (i+(zaL (l.drop i)).length=m)∧Hid (Below w.heap.size w wr)) (λs _=>l.length-(intOf s).toNat)
 case atStart=>exact⟨0,by omega,rfl,HA0,HB0⟩
 case round=>
  clear HA0 HB0;obtain⟨i,hi,rfl,HA,HB⟩:=hrel;have sB:=HB.out.size
  by_cases hlt:i<l.length
  ·obtain⟨b,off,y,e,hlb,hget,A',c',p0,p1,p2,p3,p4,r5⟩:=zbN (HR.out.belows HB.out) hlt;subst e;have hin:(i:Int)<l.length:=by omega
   have q:=HA.out;rw[zak hget,zir] at q;obtain⟨w3,hw3,hb1,hx1⟩:=zai wr #[.int .i64 y.kind,.string y.text,.int .i64 y.n,.int .i64 y.at',.slice A' y.kids.length c'] 25;have q0:w3.cell? ⟨wr.heap.size,0,none⟩=some (.int .i64 y.kind):=hx1.cell 0;have HB3:=zz (zab HB.out hb1 HB.out.size);clear r5 hb1 hx1 HA hget hlb
   by_cases hk:y.kind=7
   ·rw[if_pos hk,List.length_cons] at q;have HQ:Hid (i+1+(zaL (l.drop (i+1))).length=m):=zz (by omega);have e7:(y.kind != 7)=false:=by simp[hk]
    clear q hk;go_wp2_with fail;exact⟨⟨i+1,by omega,by go_num,HQ,HB3⟩,by simp[intOf];omega⟩
   ·rw[if_neg hk] at q;have HQ:Hid (i=m):=zz (by simpa using q);have e7:(y.kind != 7)=true:=by simp[hk]
    clear q hk;go_wp2_with fail;go_ret;exact⟨by rw[HQ.out];rfl,HB3.out⟩
  ·have HQ:Hid (l.length=m):=zz (by
    have q:=HA.out;rw[List.drop_eq_nil_of_le (by omega)] at q;have:(zaL []).length=0:=rfl;omega)
   clear HA;go_wp2_with fail;go_ret;exact⟨by rw[HQ.out];rfl,HB.out⟩
def zbl (n:Nd):Bool:=decide (n.kind=2∨n.kind=3∨n.kind=4∨n.kind=5∨n.kind=6)
theorem znH (n:Nd) (A:Option Addr) (c:Nat) (w:World) :
 Calls Tryz.prog 32 #[.agg #[.int .i64 n.kind,.string n.text,.int .i64 n.n,.int .i64 n.at',.slice A n.kids.length c]] w λe w'=>e=.returned (.bool (zbl n))∧Below w.heap.size w w':=by
 obtain⟨w0,hw,hb,hx⟩:=zai w #[.int .i64 n.kind,.string n.text,.int .i64 n.n,.int .i64 n.at',.slice A n.kids.length c] 25;have x0:w0.cell? ⟨w.heap.size,0,none⟩=some (.int .i64 n.kind):=hx.cell 0;have HB:=zz hb;have HE:Hid (zbl n=decide (n.kind=2∨n.kind=3∨n.kind=4∨n.kind=5∨n.kind=6)):=zz rfl;clear hb hx;generalize zbl n=R at *
 generalize n.kind=k at *
 rcases (show k=2∨k=3∨k=4∨k=5∨k=6∨¬(k=2∨k=3∨k=4∨k=5∨k=6) by omega) with rfl|rfl|rfl|rfl|rfl|h
 all_goals first
  |(go_enter Tryz.func32,Tryz.ntmps32
    go_wp2_with fail;go_ret;exact⟨by rw[HE.out];rfl,HB.out⟩)
  |(have e2:(k == 2)=false:=by rw[beq_eq_false_iff_ne];omega
    have e3:(k == 3)=false:=by rw[beq_eq_false_iff_ne];omega
    have e4:(k == 4)=false:=by rw[beq_eq_false_iff_ne];omega
    have e5:(k == 5)=false:=by rw[beq_eq_false_iff_ne];omega
    have e6:(k == 6)=false:=by rw[beq_eq_false_iff_ne];omega
    rw[decide_eq_false h] at HE;clear h;go_enter Tryz.func32,Tryz.ntmps32;go_wp2_with fail;go_ret;exact⟨by rw[HE.out];rfl,HB.out⟩)
end Go.Proofs.YtjdpocmlimkjjaaGreat
set_option maxHeartbeats 32000000
set_option maxRecDepth 100000
namespace Go.Proofs.YtjdpocmlimkjjaaGreat
open Go.RowKit Go.MapKept
structure Kept (M:Nat→Prop) (w w':World):Prop where
 chg:Chg M w w'
 cell:∀b o,b<w.heap.size→w'.cell? ⟨b,o,none⟩=w.cell? ⟨b,o,none⟩
section
variable {M M':Nat→Prop} {w w1 w2:World}
theorem Kept.refl (M:Nat→Prop) (w:World):Kept M w w:=⟨Chg.refl M w,λ_ _ _=>rfl⟩
theorem Kept.of_below (h:Below w.heap.size w w1):Kept M w w1:=⟨Chg.of_below h,λb o hb=>h.cell (p:=⟨b,o,none⟩) hb⟩
theorem Kept.next (h:Kept M w w1) (k:Kept M w1 w2):Kept M w w2:=⟨h.chg.next k.chg,λb o hb=>(k.cell b o (Nat.lt_of_lt_of_le hb h.chg.size)).trans (h.cell b o hb)⟩
theorem Kept.trans (h:Kept M w w1) (k:Kept M' w1 w2) (hm:∀j,M' j→M j∨w.heap.size≤j):Kept M w w2:=⟨h.chg.trans k.chg hm,λb o hb=>(k.cell b o (Nat.lt_of_lt_of_le hb h.chg.size)).trans (h.cell b o hb)⟩
theorem Kept.below (h:Kept M w w1) (k:Below w1.heap.size w1 w2):Kept M w w2:=h.next (Kept.of_below k)
theorem Kept.mono (h:Kept M w w1) (hm:∀j,M j→M' j):Kept M' w w1:=⟨h.chg.mono hm,h.cell⟩
theorem Kept.size (h:Kept M w w1):w.heap.size≤w1.heap.size:=h.chg.size
theorem Kept.rd (h:Kept M w w1) {d:D} {v:Value} (hr:Rd (Lt w.heap.size) w d v):Rd (Lt w1.heap.size) w1 d v:=(hr.keep (λb o hb=>h.cell b o hb)).weaken (λ_ hb=>Nat.lt_of_lt_of_le hb h.size)
theorem Kept.cells (h:Kept M w w1) {b:Nat} {cs:Array Value} {e:TypeId} (hc:zac w b cs e) (hm:¬M b):zac w1 b cs e:=hc.keep h.chg hm
end
theorem zas {M:Nat→Prop} {w w':World} {m:Nat} {L:List (ByteArray × Value)} (h:zbb w m L) (k:Chg M w w') (hm:¬M m):zbb w' m L:=h.keep (k.block m h.lt hm)
theorem zmK {w:World} {m o:Nat} {L:List (ByteArray × Value)} (h:zbb w m L):w.cell? ⟨m,o,none⟩=none:=by
 obtain⟨es,clock,hb,_⟩:=h;simp[World.cell?,hb]
theorem zgI {w w':World} {m:Nat} {L L':List (ByteArray × Value)} (h:zbb w m L) (h':zbb w' m L') (hg:w.grownBy w' (some m)):Kept (λq=>q=m) w w':=by
 have hc:Chg (λq=>q=m) w w':=Chg.of_grown hg (λk hk=>(Option.some.inj hk).symm);refine⟨hc,λb o hb=>?_⟩
 by_cases e:b=m
 ·subst e;rw[zmK h,zmK h']
 ·exact hc.cell (p:=⟨b,o,none⟩) hb e
def setL (l:List ByteArray):List (ByteArray × Value):=l.map (λs=>(s,Value.bool true))
theorem zjG (k:ByteArray):∀(l:List ByteArray) (i:Nat),memB k l=false→fnd k (setL l) i=none
 |[],i,_=>rfl
 |x::r,i,h=>by
  show fnd k ((x,Value.bool true)::setL r) i=_
  unfold memB at h;rw[List.any_cons,Bool.or_eq_false_iff] at h;have h2:¬k=x:=λe=>by have:=of_decide_eq_false h.1;exact this e.symm
  rw[fnd,if_neg h2];exact zjG k r (i+1) h.2
theorem zeJ (k:ByteArray):∀(l:List ByteArray) (i:Nat),memB k l=true→∃j,fnd k (setL l) i=some (j,.bool true)
 |[],i,h=>by simp[memB] at h
 |x::r,i,h=>by
  show ∃j,fnd k ((x,Value.bool true)::setL r) i=_
  rw[fnd]
  by_cases h2:k=x
  ·rw[if_pos h2];exact⟨i,rfl⟩
  ·rw[if_neg h2];exact zeJ k r (i+1) (by unfold memB at h ⊢;rw[List.any_cons,decide_eq_false (λh3=>h2 h3.symm)] at h;simpa using h)
theorem zoq (k:ByteArray) (l:List ByteArray):mget (.bool false) (setL l) k=.bool (memB k l):=by
 unfold mget;cases h:memB k l with
 |true=>
  obtain⟨j,hj⟩:=zeJ k l 0 h;rw[hj]
 |false=>rw[zjG k l 0 h]
theorem zkI {k:ByteArray} {l:List ByteArray} (h:memB k l=false):mput (setL l) k (.bool true)=setL (l++[k]):=by
 unfold mput;rw[zjG k l 0 h];simp[setL]
section
variable {w:World} {m:Nat} {l:List ByteArray}
theorem zdO (h:zbb w m (setL l)) (k:ByteArray):(Instr.lookup 113 (.map (some m)) (.string k) false).run Tryz.prog w=.ok (.bool (memB k l)) w:=by
 have:=zfT (P:=Tryz.prog) (T:=113) Tryz.underlying113 Tryz.underlying9 h (z:=.bool false) (by kernel_rfl) k
 rwa [zoq] at this
theorem zfE (h:zbb w m (setL l)) (k:ByteArray) (hk:memB k l=false):∃w',(Instr.mapUpdate 113 (.map (some m)) (.string k) (.bool true)).run Tryz.prog w=.ok () w'∧zbb w' m (setL (l++[k]))∧Kept (λq=>q=m) w w'∧w'.heap.size=w.heap.size:=by
 obtain⟨w',h1,h2,h3,h4⟩:=zar (P:=Tryz.prog) (T:=113) Tryz.underlying113 Tryz.underlying9 h k (.bool true);rw[zkI hk] at h2;exact⟨w',h1,h2,zgI h h2 h3,h4⟩
end
def ziz (w:World) (m:Nat) (p:Option Int × List ByteArray) (e:Ending) (w':World):Prop:=
 Kept (λq=>q=m) w w'∧zbb w' m (setL p.2)∧match p.1 with
 |some a=>e=.returned (.tuple #[.int .i64 a,.bool true])
 |none=>e=.returned (.tuple #[.int .i64 0,.bool false])
theorem zdo (l:List Nd) (A:Option Addr) (c m:Nat) (seen:List ByteArray) (w:World) (h:Rd (Lt w.heap.size) w (ns l) (.slice A l.length c)) (hm:zbb w m (setL seen)) :
 Calls Tryz.prog 97 #[.slice A l.length c,.map (some m)] w (ziz w m (zaJ l seen)):=by
 have HR:=zz h;have hl:=zaD h;have hn:l.length≤9223372036854775807:=Nat.le_trans hl.2.1 hl.2.2;obtain⟨r,hr⟩:∃r,zaJ l seen=r:=⟨_,rfl⟩;rw[hr];have HA0:Hid (zaJ (l.drop 0) seen=r):=zz hr;have HB0:Hid (Kept (λq=>q=m) w w∧zbb w m (setL seen)):=zz ⟨Kept.refl _ _,hm⟩;have hml:=hm.lt;clear h hl hr hm;go_enter Tryz.func97,Tryz.ntmps97;go_wp2_with fail
 go_loopw [10] (λs wr=>∃(i:Nat) (sn:List ByteArray),i≤l.length∧s=.int .i64 i∧Hid (zaJ (l.drop i) sn=r)∧Hid (Kept (λq=>q=m) w wr∧zbb wr m (setL sn))) (λs _=>l.length-(intOf s).toNat)
 case atStart=>exact⟨0,seen,by omega,rfl,HA0,HB0⟩
 case round=>
  clear HA0 HB0;obtain⟨i,sn,hi,rfl,HA,HB⟩:=hrel
  by_cases hlt:i<l.length
  ·obtain⟨b,off,y,e,hlb,hget,A',c',p0,p1,p2,p3,p4,r5⟩:=zbN (HB.out.1.rd HR.out) hlt;subst e;have hin:(i:Int)<l.length:=by omega
   have q:=HA.out;rw[zak hget,zaJ] at q;obtain⟨w3,hw3,hb1,hx1⟩:=zai wr #[.int .i64 y.kind,.string y.text,.int .i64 y.n,.int .i64 y.at',.slice A' y.kids.length c'] 25;have q1:w3.cell? ⟨wr.heap.size,1,none⟩=some (.string y.text):=hx1.cell 1;have q3:w3.cell? ⟨wr.heap.size,3,none⟩=some (.int .i64 y.at'):=hx1.cell 3;have hm3:zbb w3 m (setL sn):=zas HB.out.2 (Chg.of_below (M:=λ_=>False) hb1) (λh=>h);have HK3:=zz (HB.out.1.below hb1);have hlk:=zdO hm3 y.text;cases hmb:memB y.text sn with
   |true=>
    rw[hmb] at hlk;rw[if_pos hmb] at q;have HQ:=zz q;have HM3:=zz hm3;clear q r5 hb1 hx1 HA hget hlb hm3 hmb;go_wp2_with fail
    go_ret2
    rw[←HQ.out];exact⟨HK3.out,HM3.out,rfl⟩
   |false=>
    rw[hmb] at hlk;rw[if_neg (by rw[hmb];simp)] at q;have HQ:=zz q;obtain⟨w4,hup,hm4,hk4,_⟩:=zfE hm3 y.text hmb;have H4:Hid (Kept (λq=>q=m) w w4∧zbb w4 m (setL (sn++[y.text]))):=zz ⟨HK3.out.next hk4,hm4⟩;clear q r5 hb1 hx1 HA hget hlb hm3 hmb hm4 hk4;go_wp2_with fail;exact⟨⟨i+1,sn++[y.text],by omega,by go_num,HQ,H4⟩,by simp[intOf];omega⟩
  ·have HQ:Hid ((none,sn)=r):=zz (by
    have q:=HA.out;rw[List.drop_eq_nil_of_le (by omega),zaJ] at q;exact q)
   clear HA;go_wp2_with fail
   go_ret2
   rw[←HQ.out];exact⟨HB.out.1,HB.out.2,rfl⟩
end Go.Proofs.YtjdpocmlimkjjaaGreat
