/- Conditions: those in each statement. -/
import Derived.Test.YtjdpocmlimkjjaaGreatQ20
import Derived.Lib.QuietBelow
set_option maxHeartbeats 32000000
set_option maxRecDepth 100000
namespace Go.Proofs.YtjdpocmlimkjjaaGreat
open Go.RowKit
theorem zeS (p:Prg):zaP p []=true:=by rw[zaP]
theorem zeo (p:Prg) (t:Ty) (r:List Ty):zaP p (t::r)=(zbz p t&&zaP p r):=by rw[zaP]
def DlAt (p:PgV) (pp:Prg) (t:Ty):Prop:=∀(A:Option Addr) (c:Nat) (w:World),zcb w 3 (pp.types.map Dcl.name) p.At p.nT p.ct→zcb w 7 (pp.actors.map Actr.name) p.Aa p.nA p.ca→Rd (Lt w.heap.size) w (ys t.args) (.slice A t.args.length c)→
 Calls Tryz.prog 47 #[pgA p,.agg #[.int .i64 t.kind,.string t.name,.slice A t.args.length c]] w λe w'=>e=.returned (.bool (zbz pp t))∧Below w.heap.size w w'
theorem zrc (p:PgV) (pp:Prg) (k:Int) (nm:ByteArray) (l:List Ty) (IH:∀t∈l,DlAt p pp t):DlAt p pp (.mk k nm l):=by
 intro A c w hT hA h;replace h:Rd (Lt w.heap.size) w (ys l) (.slice A l.length c):=h
 show Calls Tryz.prog 47 #[pgA p,.agg #[.int .i64 k,.string nm,.slice A l.length c]] w λe w'=>e=.returned (.bool (zbz pp (.mk k nm l)))∧Below w.heap.size w w'
 rw[zbz];unfold zmd zhZ;obtain⟨R,hR⟩:∃R,((if k=6 then (zcW (pp.types.map Dcl.name) nm).isSome else if k=7 then (zcW (pp.actors.map Actr.name) nm).isSome else true)&&zaP pp l)=R:=⟨_,rfl⟩;rw[hR];have KF:=λ(W:World) (hb:Below w.heap.size w W)=>zld p (pp.types.map Dcl.name) nm W (hT.below hb);have KA:=λ(W:World) (hb:Below w.heap.size w W)=>zhf p (pp.actors.map Actr.name) nm W (hA.below hb);have KI:=λ(t:Ty) (ht:t∈l) (A:Option Addr) (c:Nat) (W:World) (hb:Below w.heap.size w W) (hr:Rd (Lt W.heap.size) W (ys t.args) (.slice A t.args.length c))=>IH t ht A c W (hT.below hb) (hA.below hb) hr;obtain⟨At,nT,ct,Ae,nE,ce,Af,nF,cf,Aa,nA,ca⟩:=p;simp only[pgA] at KF KA KI ⊢;have hl:=zmv h;have hc1:=hl.2.1;have hc2:=hl.2.2;have hn:l.length≤9223372036854775807:=Nat.le_trans hl.2.1 hl.2.2;obtain⟨w1,h1,b1,c1⟩:=zai w #[.slice At nT ct,.slice Ae nE ce,.slice Af nF cf,.slice Aa nA ca] 34;obtain⟨w2,h2,b2,c2⟩:=zai w1 #[.int .i64 k,.string nm,.slice A l.length c] 55;have cp:=zaa b2 c1;have x0:=cp.cell 0;have x1:=cp.cell 1;have x2:=cp.cell 2;have x3:=cp.cell 3;have y0:w2.cell? ⟨w1.heap.size,0,none⟩=some (.int .i64 k):=c2.cell 0;have y1:w2.cell? ⟨w1.heap.size,1,none⟩=some (.string nm):=c2.cell 1;have y2:w2.cell? ⟨w1.heap.size,2,none⟩=some (.slice A l.length c):=c2.cell 2;have HB12:=zz (zab b1 b2 b1.size);have HP1:=zz b1;have HC1:=zz c1;have HC2:=zz c2;have HW2:=zz b2;have HR:=zz h;have HKF:=zz (KF w2 HB12.out);have HKA:=zz (KA w2 HB12.out);have HI:=zz KI;clear b1 b2 c1 c2 cp hl h IH KF KA KI hT hA
 by_cases h6:k=6
 ·subst h6;rw[if_pos rfl] at hR;obtain⟨o,ho⟩:∃o,zcW (pp.types.map Dcl.name) nm=o:=⟨_,rfl⟩;rw[ho] at HKF hR;clear ho;cases o with
  |none=>
   have HQ:Hid (false=R):=zz (by rw[←hR];rfl);clear hR;go_enter Tryz.func47,Tryz.ntmps47;go_wp2_with fail;(with_reducible refine HKF.out.mono ?_);rintro e w3 ⟨hb3,rfl⟩;have HB3:=zz (zab HB12.out hb3 HB12.out.size);clear hb3 h1 h2 x0 x1 x2 x3 y0 y1 y2;go_wp2_with fail;go_ret;exact⟨by rw[←HQ.out];rfl,HB3.out⟩
  |some j=>
   have HA0:Hid (zaP pp (l.drop 0)=R):=zz (by rw[List.drop_zero,←hR];rfl);clear hR;go_enter Tryz.func47,Tryz.ntmps47;go_wp2_with fail;(with_reducible refine HKF.out.mono ?_);rintro e w3 ⟨hb3,rfl⟩;have HB2:Hid (Below w1.heap.size w1 w3):=zz (zab HW2.out hb3 HW2.out.size);have y2:w3.cell? ⟨w1.heap.size,2,none⟩=some (.slice A l.length c):=(zaa hb3 HC2.out).cell 2;clear hb3 h1 h2 x0 x1 x2 x3 y0 y1;go_wp2_with fail;clear y2
   go_loopw [33] (λs wr=>∃i:Nat,i≤l.length∧s=.int .i64 i∧Hid (zaP pp (l.drop i)=R)∧Hid (Below w1.heap.size w1 wr)) (λs _=>l.length-(intOf s).toNat)
   case atStart=>exact⟨0,by omega,rfl,HA0,HB2⟩
   case round=>
    clear HA0 HB2;obtain⟨i,hi,rfl,HA,HB⟩:=hrel;have HBW:=zz (zab HP1.out HB.out HP1.out.size)
    by_cases hlt:i<l.length
    ·obtain⟨b,off,y,e,hlb,hget,A',c',p0,p1,p2,r5⟩:=zjY (HR.out.belows HBW.out) hlt;subst e;have hin:(i:Int)<l.length:=by omega
     have q:=HA.out;rw[zak hget,zeo] at q;obtain⟨w3,hw3,hb3,hx3⟩:=zai wr #[.int .i64 y.kind,.string y.name,.slice A' y.args.length c'] 55;have q0:=hx3.cell 0;have q1:=hx3.cell 1;have q2:=hx3.cell 2;have HB3:=zz (zab HB.out hb3 HB.out.size);have HBW3:=zz (zab HBW.out hb3 HBW.out.size);have cp:=zaa HB3.out HC1.out;have z0:=cp.cell 0;have z1:=cp.cell 1;have z2:=cp.cell 2;have z3:=cp.cell 3;have KD:=zz (HI.out y (List.mem_of_getElem? hget) A' c' w3 HBW3.out (r5.belows hb3));obtain⟨bf,hbf⟩:∃bf,zbz pp y=bf:=⟨_,rfl⟩;rw[hbf] at q KD;clear hbf r5 hb3 hx3 HA HB hget hlb cp HBW;cases bf with
     |false=>
      have HQ:Hid (false=R):=zz q;clear q;go_wp2_with fail;(with_reducible refine KD.out.mono ?_);rintro e w4 ⟨rfl,hb4⟩;have HB4:=zz (zab HBW3.out hb4 HBW3.out.size);clear hb4 q0 q1 q2 z0 z1 z2 z3;go_wp2_with fail;go_ret;exact⟨by rw[←HQ.out];rfl,HB4.out⟩
     |true=>
      have HQ:Hid (zaP pp (l.drop (i+1))=R):=zz (by simpa using q);clear q;go_wp2_with fail;(with_reducible refine KD.out.mono ?_);rintro e w4 ⟨rfl,hb4⟩;have HB4:=zz (zab HB3.out hb4 HB3.out.size);clear hb4 q0 q1 q2 z0 z1 z2 z3;go_wp2_with fail;exact⟨⟨i+1,by omega,by go_num,HQ,HB4⟩,by simp[intOf];omega⟩
    ·have HQ:Hid (true=R):=zz (by
      have q:=HA.out;rw[List.drop_eq_nil_of_le (by omega),zeS] at q;exact q)
     clear HA;go_wp2_with fail;go_ret;exact⟨by rw[←HQ.out];rfl,HBW.out⟩
 ·have g6:(k == 6)=false:=by rw[beq_eq_false_iff_ne];exact h6
  rw[if_neg h6] at hR
  by_cases h7:k=7
  ·subst h7;rw[if_pos rfl] at hR;clear h6;obtain⟨o,ho⟩:∃o,zcW (pp.actors.map Actr.name) nm=o:=⟨_,rfl⟩;rw[ho] at HKA hR;clear ho;cases o with
   |none=>
    have HQ:Hid (false=R):=zz (by rw[←hR];rfl);clear hR;go_enter Tryz.func47,Tryz.ntmps47;go_wp2_with fail;(with_reducible refine HKA.out.mono ?_);rintro e w3 ⟨hb3,rfl⟩;have HB3:=zz (zab HB12.out hb3 HB12.out.size);clear hb3 h1 h2 x0 x1 x2 x3 y0 y1 y2;go_wp2_with fail;go_ret;exact⟨by rw[←HQ.out];rfl,HB3.out⟩
   |some j=>
    have HA0:Hid (zaP pp (l.drop 0)=R):=zz (by rw[List.drop_zero,←hR];rfl);clear hR;go_enter Tryz.func47,Tryz.ntmps47;go_wp2_with fail;(with_reducible refine HKA.out.mono ?_);rintro e w3 ⟨hb3,rfl⟩;have HB2:Hid (Below w1.heap.size w1 w3):=zz (zab HW2.out hb3 HW2.out.size);have y2:w3.cell? ⟨w1.heap.size,2,none⟩=some (.slice A l.length c):=(zaa hb3 HC2.out).cell 2;clear hb3 h1 h2 x0 x1 x2 x3 y0 y1;go_wp2_with fail;clear y2
    go_loopw [33] (λs wr=>∃i:Nat,i≤l.length∧s=.int .i64 i∧Hid (zaP pp (l.drop i)=R)∧Hid (Below w1.heap.size w1 wr)) (λs _=>l.length-(intOf s).toNat)
    case atStart=>exact⟨0,by omega,rfl,HA0,HB2⟩
    case round=>
     clear HA0 HB2;obtain⟨i,hi,rfl,HA,HB⟩:=hrel;have HBW:=zz (zab HP1.out HB.out HP1.out.size)
     by_cases hlt:i<l.length
     ·obtain⟨b,off,y,e,hlb,hget,A',c',p0,p1,p2,r5⟩:=zjY (HR.out.belows HBW.out) hlt;subst e;have hin:(i:Int)<l.length:=by omega
      have q:=HA.out;rw[zak hget,zeo] at q;obtain⟨w3,hw3,hb3,hx3⟩:=zai wr #[.int .i64 y.kind,.string y.name,.slice A' y.args.length c'] 55;have q0:=hx3.cell 0;have q1:=hx3.cell 1;have q2:=hx3.cell 2;have HB3:=zz (zab HB.out hb3 HB.out.size);have HBW3:=zz (zab HBW.out hb3 HBW.out.size);have cp:=zaa HB3.out HC1.out;have z0:=cp.cell 0;have z1:=cp.cell 1;have z2:=cp.cell 2;have z3:=cp.cell 3;have KD:=zz (HI.out y (List.mem_of_getElem? hget) A' c' w3 HBW3.out (r5.belows hb3));obtain⟨bf,hbf⟩:∃bf,zbz pp y=bf:=⟨_,rfl⟩;rw[hbf] at q KD;clear hbf r5 hb3 hx3 HA HB hget hlb cp HBW;cases bf with
      |false=>
       have HQ:Hid (false=R):=zz q;clear q;go_wp2_with fail;(with_reducible refine KD.out.mono ?_);rintro e w4 ⟨rfl,hb4⟩;have HB4:=zz (zab HBW3.out hb4 HBW3.out.size);clear hb4 q0 q1 q2 z0 z1 z2 z3;go_wp2_with fail;go_ret;exact⟨by rw[←HQ.out];rfl,HB4.out⟩
      |true=>
       have HQ:Hid (zaP pp (l.drop (i+1))=R):=zz (by simpa using q);clear q;go_wp2_with fail;(with_reducible refine KD.out.mono ?_);rintro e w4 ⟨rfl,hb4⟩;have HB4:=zz (zab HB3.out hb4 HB3.out.size);clear hb4 q0 q1 q2 z0 z1 z2 z3;go_wp2_with fail;exact⟨⟨i+1,by omega,by go_num,HQ,HB4⟩,by simp[intOf];omega⟩
     ·have HQ:Hid (true=R):=zz (by
       have q:=HA.out;rw[List.drop_eq_nil_of_le (by omega),zeS] at q;exact q)
      clear HA;go_wp2_with fail;go_ret;exact⟨by rw[←HQ.out];rfl,HBW.out⟩
  ·have g7:(k == 7)=false:=by rw[beq_eq_false_iff_ne];exact h7
   rw[if_neg h7] at hR;have HA0:Hid (zaP pp (l.drop 0)=R):=zz (by rw[List.drop_zero,←hR];rfl);have HB2:=HW2;clear hR h6 h7;go_enter Tryz.func47,Tryz.ntmps47;go_wp2_with fail;clear h1 h2 x0 x1 x2 x3 y0 y1 y2
   go_loopw [33] (λs wr=>∃i:Nat,i≤l.length∧s=.int .i64 i∧Hid (zaP pp (l.drop i)=R)∧Hid (Below w1.heap.size w1 wr)) (λs _=>l.length-(intOf s).toNat)
   case atStart=>exact⟨0,by omega,rfl,HA0,HB2⟩
   case round=>
    clear HA0 HB2;obtain⟨i,hi,rfl,HA,HB⟩:=hrel;have HBW:=zz (zab HP1.out HB.out HP1.out.size)
    by_cases hlt:i<l.length
    ·obtain⟨b,off,y,e,hlb,hget,A',c',p0,p1,p2,r5⟩:=zjY (HR.out.belows HBW.out) hlt;subst e;have hin:(i:Int)<l.length:=by omega
     have q:=HA.out;rw[zak hget,zeo] at q;obtain⟨w3,hw3,hb3,hx3⟩:=zai wr #[.int .i64 y.kind,.string y.name,.slice A' y.args.length c'] 55;have q0:=hx3.cell 0;have q1:=hx3.cell 1;have q2:=hx3.cell 2;have HB3:=zz (zab HB.out hb3 HB.out.size);have HBW3:=zz (zab HBW.out hb3 HBW.out.size);have cp:=zaa HB3.out HC1.out;have z0:=cp.cell 0;have z1:=cp.cell 1;have z2:=cp.cell 2;have z3:=cp.cell 3;have KD:=zz (HI.out y (List.mem_of_getElem? hget) A' c' w3 HBW3.out (r5.belows hb3));obtain⟨bf,hbf⟩:∃bf,zbz pp y=bf:=⟨_,rfl⟩;rw[hbf] at q KD;clear hbf r5 hb3 hx3 HA HB hget hlb cp HBW;cases bf with
     |false=>
      have HQ:Hid (false=R):=zz q;clear q;go_wp2_with fail;(with_reducible refine KD.out.mono ?_);rintro e w4 ⟨rfl,hb4⟩;have HB4:=zz (zab HBW3.out hb4 HBW3.out.size);clear hb4 q0 q1 q2 z0 z1 z2 z3;go_wp2_with fail;go_ret;exact⟨by rw[←HQ.out];rfl,HB4.out⟩
     |true=>
      have HQ:Hid (zaP pp (l.drop (i+1))=R):=zz (by simpa using q);clear q;go_wp2_with fail;(with_reducible refine KD.out.mono ?_);rintro e w4 ⟨rfl,hb4⟩;have HB4:=zz (zab HB3.out hb4 HB3.out.size);clear hb4 q0 q1 q2 z0 z1 z2 z3;go_wp2_with fail;exact⟨⟨i+1,by omega,by go_num,HQ,HB4⟩,by simp[intOf];omega⟩
    ·have HQ:Hid (true=R):=zz (by
      have q:=HA.out;rw[List.drop_eq_nil_of_le (by omega),zeS] at q;exact q)
     clear HA;go_wp2_with fail;go_ret;exact⟨by rw[←HQ.out];rfl,HBW.out⟩
theorem zhC (p:PgV) (pp:Prg):∀t:Ty,DlAt p pp t
 |.mk k n a=>zrc p pp k n a (λx _hx=>zhC p pp x)
theorem zgQ (p:PgV) (pp:Prg) (t:Ty) (hf:t.fit=true) (A:Option Addr) (c:Nat) (w:World) (hT:zcb w 3 (pp.types.map Dcl.name) p.At p.nT p.ct) (hA:zcb w 7 (pp.actors.map Actr.name) p.Aa p.nA p.ca) (h:Rd (Lt w.heap.size) w (ys t.args) (.slice A t.args.length c)) :
 Calls Tryz.prog 23 #[pgA p,.agg #[.int .i64 t.kind,.string t.name,.slice A t.args.length c]] w λe w'=>e=.returned (.bool (zhz pp t))∧Below w.heap.size w w':=by
 unfold zhz;have KD:=λ(W:World) (hb:Below w.heap.size w W)=>zhC p pp t A c W (hT.below hb) (hA.below hb) (h.belows hb);have KF:=λ(W:World) (hb:Below w.heap.size w W)=>zhn t A c W hf (h.belows hb);obtain⟨At,nT,ct,Ae,nE,ce,Af,nF,cf,Aa,nA,ca⟩:=p;simp only[pgA] at KD ⊢;obtain⟨w1,h1,b1,c1⟩:=zai w #[.slice At nT ct,.slice Ae nE ce,.slice Af nF cf,.slice Aa nA ca] 34;obtain⟨w2,h2,b2,c2⟩:=zai w1 #[.int .i64 t.kind,.string t.name,.slice A t.args.length c] 55;have y0:=c2.cell 0;have y1:=c2.cell 1;have y2:=c2.cell 2;have HB12:=zz (zab b1 b2 b1.size);have HC1:=zz (zaa b2 c1);have HC2:=zz c2;have HKF:=zz (KF w2 HB12.out);have HKD:=zz KD;clear b1 b2 c1 c2 KD KF hT hA h hf;go_enter Tryz.func23,Tryz.ntmps23;go_wp2_with fail;(with_reducible refine HKF.out.mono ?_);obtain⟨bf,hbf⟩:∃bf,zbJ t=bf:=⟨_,rfl⟩;have HFB:=zz hbf;rw[hbf];clear hbf;cases bf with
 |false=>
  rintro e w3 ⟨rfl,hb3⟩;have HB3:=zz (zab HB12.out hb3 HB12.out.size);clear hb3 h1 h2 y0 y1 y2;go_wp2_with fail;go_ret;exact⟨by rw[HFB.out];rfl,HB3.out⟩
 |true=>
  rintro e w3 ⟨rfl,hb3⟩;have HB3:=zz (zab HB12.out hb3 HB12.out.size);have d1:=zaa hb3 HC1.out;have d2:=zaa hb3 HC2.out;have x0:=d1.cell 0;have x1:=d1.cell 1;have x2:=d1.cell 2;have x3:=d1.cell 3;have z0:=d2.cell 0;have z1:=d2.cell 1;have z2:=d2.cell 2;have K:=zz (HKD.out w3 HB3.out);clear hb3 h1 h2 y0 y1 y2 d1 d2;go_wp2_with fail;(with_reducible refine K.out.mono ?_);rintro e w4 ⟨rfl,hb4⟩;have HB4:=zz (zab HB3.out hb4 HB3.out.size);clear hb4 x0 x1 x2 x3 z0 z1 z2;go_wp2_with fail;go_ret;exact⟨by rw[HFB.out];rfl,HB4.out⟩
end Go.Proofs.YtjdpocmlimkjjaaGreat
set_option maxHeartbeats 32000000
set_option maxRecDepth 100000
namespace Go.Proofs.YtjdpocmlimkjjaaGreat
open Go.RowKit Go.Sort
theorem zpl {p:Prg} {l:List Fld} {store:Bool} (h:zba p l store=true) {f:Fld} (hf:f∈l):zhz p f.ty=true∧(store=true→zaZ f.ty=true):=by
 have:=List.all_eq_true.1 h f hf;rw[Bool.and_eq_true] at this;refine⟨this.1,λhs=>?_⟩;rw[hs] at this
 simpa using this.2
def fitF (l:List Fld):Bool:=l.all (λf=>f.ty.fit)
theorem zni (p:PgV) (pp:Prg) (l:List Fld) (store:Bool) (A:Option Addr) (c:Nat) (w:World) (hty:zba pp l store=true) (hf:fitF l=true) (hT:zcb w 3 (pp.types.map Dcl.name) p.At p.nT p.ct) (hA:zcb w 7 (pp.actors.map Actr.name) p.Aa p.nA p.ca) (h:Rd (Lt w.heap.size) w (fls l) (.slice A l.length c)) :
 Calls Tryz.prog 40 #[pgA p,.slice A l.length c,.bool store] w λe w'=>e=.returned (.bool true)∧Below w.heap.size w w':=by
 have KR:=λ(t:Ty) (ht:t.fit=true) (A:Option Addr) (c:Nat) (W:World) (hb:Below w.heap.size w W) (hr:Rd (Lt W.heap.size) W (ys t.args) (.slice A t.args.length c))=>zgQ p pp t ht A c W (hT.below hb) (hA.below hb) hr;obtain⟨At,nT,ct,Ae,nE,ce,Af,nF,cf,Aa,nA,ca⟩:=p;simp only[pgA] at KR ⊢;have hl:=zci h;have hn:l.length≤9223372036854775807:=Nat.le_trans hl.2.1 hl.2.2;obtain⟨w1,h1,b1,c1⟩:=zai w #[.slice At nT ct,.slice Ae nE ce,.slice Af nF cf,.slice Aa nA ca] 34;have HB0:Hid (Below w1.heap.size w1 w1):=zz (Below.refl _ _);have HB1:=zz b1;have HC1:=zz c1;have HR:=zz h;have HK:=zz KR;have HTY:=zz hty;have HF:=zz hf;clear b1 c1 hl h KR hty hf hT hA;go_enter Tryz.func40,Tryz.ntmps40;go_wp2_with fail;clear h1
 go_loopw [7] (λs wr=>∃i:Nat,i≤l.length∧s=.int .i64 i∧Hid (Below w1.heap.size w1 wr)) (λs _=>l.length-(intOf s).toNat)
 case atStart=>exact⟨0,by omega,rfl,HB0⟩
 case round=>
  clear HB0;obtain⟨i,hi,rfl,HB⟩:=hrel;have HBW:=zz (zab HB1.out HB.out HB1.out.size)
  by_cases hlt:i<l.length
  ·obtain⟨b,off,f,e,hlb,hget,hrow⟩:=zcG (HR.out.belows HBW.out) hlt;subst e;obtain⟨u1,hu1,hd1⟩:=hrow 1 (by omega);obtain⟨u2,hu2,hd2⟩:=hrow 2 (by omega);obtain⟨u3,hu3,hd3⟩:=hrow 3 (by omega);have e1:u1=.int .i64 f.ty.kind:=hd1;have e2:u2=.string f.ty.name:=hd2;have hd4:Rd (Lt wr.heap.size) wr (ys f.ty.args) u3:=hd3;obtain⟨A',c',rfl,_⟩:=hd4.sl_inv;subst e1 e2;have hfm:=List.mem_of_getElem? hget;have hq:=zpl HTY.out hfm;have hff:f.ty.fit=true:=List.all_eq_true.1 HF.out f hfm;have hin:(i:Int)<l.length:=by omega
   have cp:=zaa HB.out HC1.out;have z0:=cp.cell 0;have z1:=cp.cell 1;have z2:=cp.cell 2;have z3:=cp.cell 3
   have K1:Hid (∀d os,Calls Tryz.prog 23 _ (grow (redrawn wr d) os) λe w'=>e=.returned (.bool true)∧∃p:Regrown,w'=grow (redrawn wr p.d) p.os):=zz (λd os=>Calls.regrown_of (by
    have:=HK.out f.ty hff A' c' (grow (redrawn wr d) os) (zab HBW.out (below_regrown wr d os) HBW.out.size) (hd4.belows (below_regrown wr d os));rw[hq.1] at this;exact this))
   have K2:Hid (store=true→∀d os,Calls Tryz.prog 21 #[.agg #[.int .i64 f.ty.kind,.string f.ty.name,.slice A' f.ty.args.length c']] (grow (redrawn wr d) os) λe w'=>e=.returned (.bool true)∧∃p:Regrown,w'=grow (redrawn wr p.d) p.os):=zz (λhs d os=>Calls.regrown_of (by
    have:=zeh f.ty A' c' (grow (redrawn wr d) os) (hd4.belows (below_regrown wr d os));rw[hq.2 hs] at this;exact this))
   clear hd1 hd2 hd3 hd4 hrow hget hq hff hfm cp;go_wp2_with fail;have o0:=λd os=>cell_regrown z0 d os;have o1:=λd os=>cell_regrown z1 d os;have o2:=λd os=>cell_regrown z2 d os;have o3:=λd os=>cell_regrown z3 d os;have o4:=λd os=>cell_regrown hu1 d os;have o5:=λd os=>cell_regrown hu2 d os;have o6:=λd os=>cell_regrown hu3 d os;cases store with
   |false=>
    refine wp_region_quiet_below (by kernel_rfl) (by kernel_rfl) ?_
    repeat (go_big_quiet_step (first|with_reducible exact K1.out _ _))
    refine wpQuiet_nil ?_;intro _ hw';obtain⟨⟨dq,osq⟩,hw''⟩:=hw';subst hw'';have BL:=zz (zab HB.out (below_regrown wr dq osq) HB.out.size);go_wp2_with fail;exact⟨⟨i+1,by omega,by go_num,BL⟩,by simp[intOf];omega⟩
   |true=>
    have K3:=zz (K2.out rfl);refine wp_region_quiet_below (by kernel_rfl) (by kernel_rfl) ?_
    repeat (go_big_quiet_step (first|with_reducible exact K1.out _ _|with_reducible exact K3.out _ _))
    refine wpQuiet_nil ?_;intro _ hw';obtain⟨⟨dq,osq⟩,hw''⟩:=hw';subst hw'';have BL:=zz (zab HB.out (below_regrown wr dq osq) HB.out.size);go_wp2_with fail;exact⟨⟨i+1,by omega,by go_num,BL⟩,by simp[intOf];omega⟩
  ·go_wp2_with fail;go_ret;exact⟨rfl,HBW.out⟩
end Go.Proofs.YtjdpocmlimkjjaaGreat
