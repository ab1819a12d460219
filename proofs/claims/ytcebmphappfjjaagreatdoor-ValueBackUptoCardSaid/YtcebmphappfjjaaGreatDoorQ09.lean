/- Conditions: those in each statement. -/
import Derived.Test.YtcebmphappfjjaaGreatDoorQ08
set_option maxHeartbeats 32000000
set_option maxRecDepth 100000
namespace Go.Proofs.YtcebmphappfjjaaGreatDoor
open Go.RowKit
theorem zcV {s:ByteArray} (h:¬s=⟨#[]⟩):s.toList.isEmpty=false:=by
 cases hl:s.toList with
 |nil=>
  have q:=zam h;rw[hl] at q;cases q
 |cons a r=>rfl
theorem zgh (s:ByteArray) (w:World):Calls Tryz.prog 135 #[.string s] w λe w'=>e=.returned (.int .i64 (zbW s))/\w=w':=(zqk s w).mono (λ_ _ h=>⟨h.1,h.2.symm⟩)
theorem zkf (s:ByteArray) (w:World) (hs:s.size<=32768):Calls Tryz.prog 185 #[.string s] w λe w'=>e=.returned (.bool (zaw s))/\w=w':=(zkG s w hs).mono (λ_ _ h=>⟨h.1,h.2.symm⟩)
structure RdSt (w W:World) (kd:Int) (tx:ByteArray) (nn at':Int) (A:Option Addr) (n c:Nat):Prop where
 low:Below w.heap.size w W
 box:zab W w.heap.size #[.int .i64 kd,.string tx,.int .i64 nn,.int .i64 at',.slice A n c] 49
 res:zab W (w.heap.size+1) #[.int .i64 0,.string ⟨#[]⟩,.slice none 0 0] 70
section
variable {w W W':World} {kd:Int} {tx:ByteArray} {nn at':Int} {A:Option Addr} {n c:Nat}
theorem RdSt.below (h:RdSt w W kd tx nn at' A n c) (k:Below W.heap.size W W'):RdSt w W' kd tx nn at' A n c:=⟨zac h.low k h.low.size,zaa k h.box,zaa k h.res⟩
theorem RdSt.drewN (h:RdSt w W kd tx nn at' A n c) (q:Nat):RdSt w (W.drewN q) kd tx nn at' A n c:=h.below (zae (Below.refl _ _) q)
theorem RdSt.drew (h:RdSt w W kd tx nn at' A n c):RdSt w W.drew kd tx nn at' A n c:=h.drewN 1
theorem RdSt.cells (h:RdSt w W kd tx nn at' A n c):W.cell? ⟨w.heap.size,0,none⟩=some (.int .i64 kd)/\W.cell? ⟨w.heap.size,1,none⟩=some (.string tx)/\W.cell? ⟨w.heap.size,2,none⟩=some (.int .i64 nn)/\W.cell? ⟨w.heap.size,3,none⟩=some (.int .i64 at')/\W.cell? ⟨w.heap.size,4,none⟩=some (.slice A n c):=⟨h.box.cell 0,h.box.cell 1,h.box.cell 2,h.box.cell 3,h.box.cell 4⟩
theorem RdSt.rcells (h:RdSt w W kd tx nn at' A n c):W.cell? ⟨w.heap.size+1,0,none⟩=some (.int .i64 0)/\W.cell? ⟨w.heap.size+1,1,none⟩=some (.string ⟨#[]⟩)/\W.cell? ⟨w.heap.size+1,2,none⟩=some (.slice none 0 0):=⟨h.res.cell 0,h.res.cell 1,h.res.cell 2⟩
theorem zbe {r:Option Ty} (hq:none=r) {a:Act} (h2:a.tmps.getD 2 undef=.pointer (some ⟨w.heap.size+1,0,none⟩)) (h3:a.tmps.getD 3 undef=.bool false) (hd:a.defers=[]) (h:RdSt w W kd tx nn at' A n c) :
 bodyPost Tryz.prog Tryz.f131 (zij w r) Exit.ret a (((W.setCell ⟨w.heap.size+1,0,none⟩ (.int .i64 0)).setCell ⟨w.heap.size+1,1,none⟩ (.string ⟨#[]⟩)).setCell ⟨w.heap.size+1,2,none⟩ (.slice none 0 0)):=by
 have:=zah (P:=Tryz.prog) (fn:=Tryz.f131) (q:=3) (by rfl) a.tmps _ (w.heap.size+1) _ _ (0,0) _ h2 (zdD (.int .i64 0) (.string ⟨#[]⟩) (.slice none 0 0) h.res) Tryz.underlying70 rfl zhK;rw[h3] at this;refine bodyPost_ret this hd ⟨?_,?_⟩
 ·exact h.low.trans ((zcE _ _ _ _ _).below h.low.size (λq hq=>by omega))
 ·rw[<-hq]
theorem zaW {r:Option Ty} (hq:none=r) {a:Act} (h2:a.tmps.getD 2 undef=.pointer (some ⟨w.heap.size+1,0,none⟩)) (h3:a.tmps.getD 3 undef=.bool false) (hd:a.defers=[]) (h:RdSt w W kd tx nn at' A n c) :
 bodyPost Tryz.prog Tryz.f131 (zij w r) Exit.ret a W:=by
 have:=zah (P:=Tryz.prog) (fn:=Tryz.f131) (q:=3) (by rfl) a.tmps _ (w.heap.size+1) _ _ (0,0) _ h2 h.res Tryz.underlying70 rfl zhK;rw[h3] at this;refine bodyPost_ret this hd ⟨h.low,?_⟩;rw[<-hq]
theorem zhM (k:Int) (t:ByteArray) {r:Option Ty} (hq:some (.mk k t [])=r) {a:Act} (h2:a.tmps.getD 2 undef=.pointer (some ⟨w.heap.size+1,0,none⟩)) (h3:a.tmps.getD 3 undef=.bool true) (hd:a.defers=[]) (h:RdSt w W kd tx nn at' A n c) :
 bodyPost Tryz.prog Tryz.f131 (zij w r) Exit.ret a (((W.setCell ⟨w.heap.size+1,0,none⟩ (.int .i64 k)).setCell ⟨w.heap.size+1,1,none⟩ (.string t)).setCell ⟨w.heap.size+1,2,none⟩ (.slice none 0 0)):=by
 have:=zah (P:=Tryz.prog) (fn:=Tryz.f131) (q:=3) (by rfl) a.tmps _ (w.heap.size+1) _ _ (0,0) _ h2 (zdD (.int .i64 k) (.string t) (.slice none 0 0) h.res) Tryz.underlying70 rfl zhK;rw[h3] at this;refine bodyPost_ret this hd ⟨?_,?_⟩
 ·exact h.low.trans ((zcE _ _ _ _ _).below h.low.size (λq hq=>by omega))
 ·rw[<-hq];exact⟨none,0,rfl,Rd.sl_nil⟩
theorem zky (t:Ty) {r:Option Ty} (hq:some t=r) {a:Act} (h2:a.tmps.getD 2 undef=.pointer (some ⟨w.heap.size+1,0,none⟩)) (h3:a.tmps.getD 3 undef=.bool true) (hd:a.defers=[]) (h:RdSt w W kd tx nn at' A n c) {A2:Option Addr} {c2 lo:Nat} (hlo:w.heap.size+2<=lo) (hr:Rd (Bt lo W.heap.size) W (ys t.args) (.slice A2 t.args.length c2)) :
 bodyPost Tryz.prog Tryz.f131 (zij w r) Exit.ret a (((W.setCell ⟨w.heap.size+1,0,none⟩ (.int .i64 t.kind)).setCell ⟨w.heap.size+1,1,none⟩ (.string t.name)).setCell ⟨w.heap.size+1,2,none⟩ (.slice A2 t.args.length c2)):=by
 have hc:=zcE W (w.heap.size+1) (.int .i64 t.kind) (.string t.name) (.slice A2 t.args.length c2);have:=zah (P:=Tryz.prog) (fn:=Tryz.f131) (q:=3) (by rfl) a.tmps _ (w.heap.size+1) _ _ (0,0) _ h2 (zdD (.int .i64 t.kind) (.string t.name) (.slice A2 t.args.length c2) h.res) Tryz.underlying70 rfl zhK;rw[h3] at this;refine bodyPost_ret this hd ⟨?_,?_⟩
 ·exact h.low.trans (hc.below h.low.size (λq hq=>by omega))
 ·rw[<-hq];refine⟨A2,c2,rfl,?_⟩;exact(hc.rd (ok:=Bt lo W.heap.size) (λb hb=>⟨hb.2,by have:=hb.1;omega⟩) hr).weaken (λq hq=>⟨by have:=hq.1;omega,by have:=hq.2;have:=hc.size;omega⟩)
end
theorem zpR (kd:Int) (tx:ByteArray) (nn at':Int) (l:List Nd) (IH:∀n∈l,zlB n):zlB (.mk kd tx nn at' l):=by
 intro A c w hf hs h;rw[zbT] at hs;replace h:Rd (Lt w.heap.size) w (ns l) (.slice A l.length c):=h
 show Calls Tryz.prog 131 #[.agg #[.int .i64 kd,.string tx,.int .i64 nn,.int .i64 at',.slice A l.length c]] w (zij w (zjC (.mk kd tx nn at' l)))
 have ht:tx.size<=32768:=zaQ hf;have hfl:fitL l=true:=zav hf;have hl:=zaS h;have hn:l.length<=2097152:=by have:=zat l;omega
 have hs2:zaB l<=2097152:=by omega
 obtain⟨r,hr⟩:∃r,zjC (.mk kd tx nn at' l)=r:=⟨_,rfl⟩;rw[hr];rw[zjC] at hr;obtain⟨w1,h1,b1,c1⟩:=zaj w #[.int .i64 kd,.string tx,.int .i64 nn,.int .i64 at',.slice A l.length c] 49;have s1:w1.heap.size=w.heap.size+1:=by rw[<-h1];simp
 obtain⟨w2,h2,b2,c2⟩:=zaj w1 #[.int .i64 0,.string ⟨#[]⟩,.slice none 0 0] 70;have s2:w2.heap.size=w.heap.size+2:=by rw[<-h2];simp[s1]
 rw[s1] at c2;have hz:RdSt w w2 kd tx nn at' A l.length c:=⟨zac b1 b2 b1.size,zaa b2 c1,c2⟩;have HW:Hid ((w.alloc (.cells #[.int .i64 kd,.string tx,.int .i64 nn,.int .i64 at',.slice A l.length c] 49)).alloc (.cells #[.int .i64 0,.string ⟨#[]⟩,.slice none 0 0] 70)=w2):=zz (by rw[h1,h2]);have HH:=zz (h.belows hz.low);have HZ:=zz hz;have KA:=zz (λ(W:World) (k:Int) (hb:Below w2.heap.size w2 W)=>zoe k l IH A c W hfl hs2 (HH.out.belows hb));have KB:=zz (λW=>zgh tx W);have KU:=zz (λW=>zkf tx W ht);obtain⟨x0,x1,x2,x3,x4⟩:=hz.cells;obtain⟨y0,y1,y2⟩:=hz.rcells;have yz:=hz.res.fz;have l2:w.heap.size+1<w2.heap.size:=by omega
 have HS2:=zz s2;clear b1 b2 c1 c2 s1 s2 h1 h2 hl h hf hfl hz ht IH hs hs2
 by_cases hnn:nn=0
 ·subst hnn;rw[if_neg (by simp)] at hr
  by_cases k12:kd=12
  ·subst k12;rw[if_pos rfl] at hr
   by_cases hl0:l.length=0
   ·have e0:((l.length:Int) == 0)=true:=by rw[beq_iff_eq];omega
    by_cases hb:zbW tx=0
    ·rw[if_neg (by simp[hb])] at hr;simp only[hb] at KB;cases hu:zaw tx with
     |true=>
      simp only[hu] at KU;rw[if_pos ⟨hu,hl0⟩] at hr;have HQ:=zz hr;clear hr hb hu hl0;go_enter Tryz.func131,Tryz.ntmps131;go_wp2_with fail;rw[HW.out];clear HW;go_wp2_with fail;(with_reducible refine(KB.out _).mono ?_);rintro e w3 ⟨rfl,rfl⟩;go_wp2_with fail;(with_reducible refine(KU.out _).mono ?_);rintro e w4 ⟨rfl,rfl⟩;go_wp2_with fail;exact zhM 6 tx HQ.out (by rfl) (by rfl) rfl HZ.out
     |false=>
      simp only[hu] at KU;rw[if_neg (by simp[hu])] at hr;have HQ:=zz hr;clear hr hb hu hl0;go_enter Tryz.func131,Tryz.ntmps131;go_wp2_with fail;rw[HW.out];clear HW;go_wp2_with fail;(with_reducible refine(KB.out _).mono ?_);rintro e w3 ⟨rfl,rfl⟩;go_wp2_with fail;(with_reducible refine(KU.out _).mono ?_);rintro e w4 ⟨rfl,rfl⟩;go_wp2_with fail
      first
       |exact zbe HQ.out (by rfl) (by rfl) rfl HZ.out
       |exact zaW HQ.out (by rfl) (by rfl) rfl HZ.out
    ·rw[if_pos ⟨hb,hl0⟩] at hr;have hbb:(zbW tx == 0)=false:=by rw[beq_eq_false_iff_ne];exact hb
     have hbn:(zbW tx != 0)=true:=by rw[bne_iff_ne];exact hb
     have HQ:=zz hr;generalize zbW tx=B at *
     clear hr hb hl0;go_enter Tryz.func131,Tryz.ntmps131;go_wp2_with fail;rw[HW.out];clear HW;go_wp2_with fail;(with_reducible refine(KB.out _).mono ?_);rintro e w3 ⟨rfl,rfl⟩;go_wp2_with fail;exact zhM B ⟨#[]⟩ HQ.out (by rfl) (by rfl) rfl HZ.out
   ·have e0:((l.length:Int) == 0)=false:=by rw[beq_eq_false_iff_ne];omega
    by_cases hb:zbW tx=0
    ·rw[if_neg (by simp[hb])] at hr;simp only[hb] at KB;cases hu:zaw tx with
     |true=>
      simp only[hu] at KU;rw[if_neg (by simp[hl0])] at hr;have HQ:=zz hr;clear hr hb hu hl0;go_enter Tryz.func131,Tryz.ntmps131;go_wp2_with fail;rw[HW.out];clear HW;go_wp2_with fail;(with_reducible refine(KB.out _).mono ?_);rintro e w3 ⟨rfl,rfl⟩;go_wp2_with fail;(with_reducible refine(KU.out _).mono ?_);rintro e w4 ⟨rfl,rfl⟩;go_wp2_with fail
      first
       |exact zbe HQ.out (by rfl) (by rfl) rfl HZ.out
       |exact zaW HQ.out (by rfl) (by rfl) rfl HZ.out
     |false=>
      simp only[hu] at KU;rw[if_neg (by simp[hu])] at hr;have HQ:=zz hr;clear hr hb hu hl0;go_enter Tryz.func131,Tryz.ntmps131;go_wp2_with fail;rw[HW.out];clear HW;go_wp2_with fail;(with_reducible refine(KB.out _).mono ?_);rintro e w3 ⟨rfl,rfl⟩;go_wp2_with fail;(with_reducible refine(KU.out _).mono ?_);rintro e w4 ⟨rfl,rfl⟩;go_wp2_with fail
      first
       |exact zbe HQ.out (by rfl) (by rfl) rfl HZ.out
       |exact zaW HQ.out (by rfl) (by rfl) rfl HZ.out
    ·rw[if_neg (by simp[hl0]),if_neg (by simp[hl0])] at hr;have hbb:(zbW tx == 0)=false:=by rw[beq_eq_false_iff_ne];exact hb
     have hbn:(zbW tx != 0)=true:=by rw[bne_iff_ne];exact hb
     have HQ:=zz hr;generalize zbW tx=B at *
     clear hr hb hl0;cases hu:zaw tx with
     |true=>
      simp only[hu] at KU;clear hu;go_enter Tryz.func131,Tryz.ntmps131;go_wp2_with fail;rw[HW.out];clear HW;go_wp2_with fail;(with_reducible refine(KB.out _).mono ?_);rintro e w3 ⟨rfl,rfl⟩;go_wp2_with fail;(with_reducible refine(KU.out _).mono ?_);rintro e w4 ⟨rfl,rfl⟩;go_wp2_with fail
      first
       |exact zbe HQ.out (by rfl) (by rfl) rfl HZ.out
       |exact zaW HQ.out (by rfl) (by rfl) rfl HZ.out
     |false=>
      simp only[hu] at KU;clear hu;go_enter Tryz.func131,Tryz.ntmps131;go_wp2_with fail;rw[HW.out];clear HW;go_wp2_with fail;(with_reducible refine(KB.out _).mono ?_);rintro e w3 ⟨rfl,rfl⟩;go_wp2_with fail;(with_reducible refine(KU.out _).mono ?_);rintro e w4 ⟨rfl,rfl⟩;go_wp2_with fail
      first
       |exact zbe HQ.out (by rfl) (by rfl) rfl HZ.out
       |exact zaW HQ.out (by rfl) (by rfl) rfl HZ.out
  ·rw[if_neg k12] at hr;have e12:(kd == 12)=false:=by rw[beq_eq_false_iff_ne];exact k12
   clear k12
   by_cases k14:kd=14
   ·subst k14;clear e12;rw[if_pos rfl] at hr
    by_cases hl0:l.length=0
    ·have e0:((l.length:Int) == 0)=true:=by rw[beq_iff_eq];omega
     cases hu:zaw tx with
     |true=>
      simp only[hu] at KU;rw[if_pos ⟨hu,hl0⟩] at hr;have HQ:=zz hr;clear hr hu hl0;go_enter Tryz.func131,Tryz.ntmps131;go_wp2_with fail;rw[HW.out];clear HW;go_wp2_with fail;(with_reducible refine(KU.out _).mono ?_);rintro e w4 ⟨rfl,rfl⟩;go_wp2_with fail;exact zhM 7 tx HQ.out (by rfl) (by rfl) rfl HZ.out
     |false=>
      simp only[hu] at KU;rw[if_neg (by simp[hu])] at hr;have HQ:=zz hr;clear hr hu hl0;go_enter Tryz.func131,Tryz.ntmps131;go_wp2_with fail;rw[HW.out];clear HW;go_wp2_with fail;(with_reducible refine(KU.out _).mono ?_);rintro e w4 ⟨rfl,rfl⟩;go_wp2_with fail
      first
       |exact zbe HQ.out (by rfl) (by rfl) rfl HZ.out
       |exact zaW HQ.out (by rfl) (by rfl) rfl HZ.out
    ·have e0:((l.length:Int) == 0)=false:=by rw[beq_eq_false_iff_ne];omega
     cases hu:zaw tx with
     |true=>
      simp only[hu] at KU;rw[if_neg (by simp[hl0])] at hr;have HQ:=zz hr;clear hr hu hl0;go_enter Tryz.func131,Tryz.ntmps131;go_wp2_with fail;rw[HW.out];clear HW;go_wp2_with fail;(with_reducible refine(KU.out _).mono ?_);rintro e w4 ⟨rfl,rfl⟩;go_wp2_with fail
      first
       |exact zbe HQ.out (by rfl) (by rfl) rfl HZ.out
       |exact zaW HQ.out (by rfl) (by rfl) rfl HZ.out
     |false=>
      simp only[hu] at KU;rw[if_neg (by simp[hu])] at hr;have HQ:=zz hr;clear hr hu hl0;go_enter Tryz.func131,Tryz.ntmps131;go_wp2_with fail;rw[HW.out];clear HW;go_wp2_with fail;(with_reducible refine(KU.out _).mono ?_);rintro e w4 ⟨rfl,rfl⟩;go_wp2_with fail
      first
       |exact zbe HQ.out (by rfl) (by rfl) rfl HZ.out
       |exact zaW HQ.out (by rfl) (by rfl) rfl HZ.out
   ·rw[if_neg k14] at hr;have e14:(kd == 14)=false:=by rw[beq_eq_false_iff_ne];exact k14
    clear k14
    by_cases k13:kd=13
    ·subst k13;clear e12 e14;rw[if_pos rfl] at hr
     by_cases ht0:tx=⟨#[]⟩
     ·subst ht0
      by_cases hl1:l.length=1
      ·have e1:((l.length:Int) == 1)=true:=by rw[beq_iff_eq];omega
       rw[if_pos ⟨rfl,hl1⟩] at hr;have KK:=zz (KA.out w2 5 (Below.refl _ _));rw[hr] at KK;clear hr hl1 KA;go_enter Tryz.func131,Tryz.ntmps131;go_wp2_with fail;rw[HW.out];clear HW;go_wp2_with fail;(with_reducible refine KK.out.mono ?_);rintro e w3 hp;have HZ3:=zz (HZ.out.below hp.1);obtain⟨y0,y1,y2⟩:=HZ3.out.rcells;have yz:=HZ3.out.res.fz;cases r with
       |none=>
        obtain⟨_,rfl⟩:=hp;clear x0 x1 x2 x3 x4;go_wp2_with fail
        first
         |exact zbe rfl (by rfl) (by rfl) rfl HZ3.out
         |exact zaW rfl (by rfl) (by rfl) rfl HZ3.out
       |some t=>
        obtain⟨_,A2,c2,rfl,hrd⟩:=hp;have HRD:=zz hrd;clear x0 x1 x2 x3 x4 hrd;go_wp2_with fail;exact zky t rfl (by rfl) (by rfl) rfl HZ3.out (by omega) HRD.out
      ·have e1:((l.length:Int) == 1)=false:=by rw[beq_eq_false_iff_ne];omega
       rw[if_neg (by simp[hl1])] at hr;have HQ:=zz hr;clear hr hl1;go_enter Tryz.func131,Tryz.ntmps131;go_wp2_with fail;rw[HW.out];clear HW;go_wp2_with fail
       first
        |exact zbe HQ.out (by rfl) (by rfl) rfl HZ.out
        |exact zaW HQ.out (by rfl) (by rfl) rfl HZ.out
     ·have et:tx.toList.isEmpty=false:=zcV ht0;rw[if_neg (by simp[ht0])] at hr;have HQ:=zz hr;clear hr ht0;go_enter Tryz.func131,Tryz.ntmps131;go_wp2_with fail;rw[HW.out];clear HW;go_wp2_with fail
      first
       |exact zbe HQ.out (by rfl) (by rfl) rfl HZ.out
       |exact zaW HQ.out (by rfl) (by rfl) rfl HZ.out
    ·rw[if_neg k13] at hr;have e13:(kd == 13)=false:=by rw[beq_eq_false_iff_ne];exact k13
     clear k13
     by_cases k15:kd=15
     ·subst k15;clear e12 e14 e13;rw[if_pos rfl] at hr
      by_cases ht0:tx=⟨#[]⟩
      ·subst ht0
       by_cases hl1:0<l.length
       ·have e1:decide (0<l.length)=true:=decide_eq_true hl1;rw[if_pos ⟨rfl,hl1⟩] at hr;have KK:=zz (KA.out w2 8 (Below.refl _ _));rw[hr] at KK;clear hr hl1 KA;go_enter Tryz.func131,Tryz.ntmps131;go_wp2_with fail;rw[HW.out];clear HW;go_wp2_with fail;(with_reducible refine KK.out.mono ?_);rintro e w3 hp;have HZ3:=zz (HZ.out.below hp.1);obtain⟨y0,y1,y2⟩:=HZ3.out.rcells;have yz:=HZ3.out.res.fz;cases r with
        |none=>
         obtain⟨_,rfl⟩:=hp;clear x0 x1 x2 x3 x4;go_wp2_with fail
         first
          |exact zbe rfl (by rfl) (by rfl) rfl HZ3.out
          |exact zaW rfl (by rfl) (by rfl) rfl HZ3.out
        |some t=>
         obtain⟨_,A2,c2,rfl,hrd⟩:=hp;have HRD:=zz hrd;clear x0 x1 x2 x3 x4 hrd;go_wp2_with fail;exact zky t rfl (by rfl) (by rfl) rfl HZ3.out (by omega) HRD.out
       ·have e1:decide (0<l.length)=false:=decide_eq_false hl1;rw[if_neg (by simp[hl1])] at hr;have HQ:=zz hr;clear hr hl1;go_enter Tryz.func131,Tryz.ntmps131;go_wp2_with fail;rw[HW.out];clear HW;go_wp2_with fail
        first
         |exact zbe HQ.out (by rfl) (by rfl) rfl HZ.out
         |exact zaW HQ.out (by rfl) (by rfl) rfl HZ.out
      ·have et:tx.toList.isEmpty=false:=zcV ht0;rw[if_neg (by simp[ht0])] at hr;have HQ:=zz hr;clear hr ht0;go_enter Tryz.func131,Tryz.ntmps131;go_wp2_with fail;rw[HW.out];clear HW;go_wp2_with fail
       first
        |exact zbe HQ.out (by rfl) (by rfl) rfl HZ.out
        |exact zaW HQ.out (by rfl) (by rfl) rfl HZ.out
     ·rw[if_neg k15] at hr;have e15:(kd == 15)=false:=by rw[beq_eq_false_iff_ne];exact k15
      clear k15;have HQ:=zz hr;clear hr;go_enter Tryz.func131,Tryz.ntmps131;go_wp2_with fail;rw[HW.out];clear HW;go_wp2_with fail
      first
       |exact zbe HQ.out (by rfl) (by rfl) rfl HZ.out
       |exact zaW HQ.out (by rfl) (by rfl) rfl HZ.out
 ·rw[if_pos hnn] at hr;have en:(nn != 0)=true:=by rw[bne_iff_ne];exact hnn
  have HQ:=zz hr;clear hr hnn;go_enter Tryz.func131,Tryz.ntmps131;go_wp2_with fail;rw[HW.out];clear HW;go_wp2_with fail
  first
   |exact zbe HQ.out (by rfl) (by rfl) rfl HZ.out
   |exact zaW HQ.out (by rfl) (by rfl) rfl HZ.out
theorem znm:∀(m:Nat) (n:Nd),n.size<=m->zlB n
 |0,n,h=>absurd (zke n) (by omega)
 |m+1,.mk k t n a l,h=>zpR k t n a l (λx hx=>znm m x (by have:=zaK hx;rw[zbT] at h;omega))
theorem zry (n:Nd):zlB n:=znm n.size n (Nat.le_refl _)
end Go.Proofs.YtcebmphappfjjaaGreatDoor
