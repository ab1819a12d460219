/- Conditions: those in each statement. -/
import Derived.Test.YtjdpocmlimkjjaaGreatQ13
import Derived.Test.YtjdpocmlimkjjaaGreatQ16
set_option maxHeartbeats 32000000
set_option maxRecDepth 100000
namespace Go.Proofs.YtjdpocmlimkjjaaGreat
open Go.RowKit Go.MapKept
structure DdAt (w:World) (db:Nat) (A:Option Addr) (n c mt ma:Nat) (LT LA:List (ByteArray × Value)):Prop where
 box:DcAt w db A n c mt ma
 tm:zbb w mt LT
 am:zbb w ma LA
theorem DdAt.below {w w':World} {db:Nat} {A:Option Addr} {n c mt ma:Nat} {LT LA:List (ByteArray × Value)} (h:DdAt w db A n c mt ma LT LA) (k:Below w.heap.size w w'):DdAt w' db A n c mt ma LT LA:=
 ⟨zaa k h.box,zas h.tm (Chg.of_below (M:=λ_=>False) k) (λh=>h),zas h.am (Chg.of_below (M:=λ_=>False) k) (λh=>h)⟩
def zoB (w:World) (o:Option Int) (e:Ending) (w':World):Prop:=Below w.heap.size w w'∧match o with
 |some a=>e=.returned (.tuple #[.int .i64 a,.bool true])
 |none=>e=.returned (.tuple #[.int .i64 0,.bool false])
section
variable (db:Nat) (Ad:Option Addr) (nd cd mt ma:Nat) (LT LA:List (ByteArray × Value))
def zoj (n:Nd):Prop:=∀(A:Option Addr) (c:Nat) (w:World),DdAt w db Ad nd cd mt ma LT LA→Rd (Lt w.heap.size) w (ns n.kids) (.slice A n.kids.length c)→
 Calls Tryz.prog 61 #[.pointer (some ⟨db,0,none⟩),.agg #[.int .i64 n.kind,.string n.text,.int .i64 n.n,.int .i64 n.at',.slice A n.kids.length c]] w (zoB w (zbc (LT.map Prod.fst) (LA.map Prod.fst) n))
end
theorem zee (ts acs:List ByteArray):zbx ts acs []=none:=by rw[zbx]
theorem zdK (ts acs:List ByteArray) (n:Nd) (r:List Nd):zbx ts acs (n::r)=match zbc ts acs n with|some a=>some a|none=>zbx ts acs r:=by
 rw[zbx];cases zbc ts acs n<;>rfl
theorem zqB (db:Nat) (Ad:Option Addr) (nd cd mt ma:Nat) (LT LA:List (ByteArray × Value)) (kd:Int) (tx:ByteArray) (nn at':Int) (l:List Nd) (IH:∀n∈l,zoj db Ad nd cd mt ma LT LA n):zoj db Ad nd cd mt ma LT LA (.mk kd tx nn at' l):=by
 intro A c w hd h;replace h:Rd (Lt w.heap.size) w (ns l) (.slice A l.length c):=h
 show Calls Tryz.prog 61 #[.pointer (some ⟨db,0,none⟩),.agg #[.int .i64 kd,.string tx,.int .i64 nn,.int .i64 at',.slice A l.length c]] w (zoB w (zbc (LT.map Prod.fst) (LA.map Prod.fst) (.mk kd tx nn at' l)))
 rw[zbc];obtain⟨ts,hts⟩:∃ts,LT.map Prod.fst=ts:=⟨_,rfl⟩;obtain⟨acs,hacs⟩:∃acs,LA.map Prod.fst=acs:=⟨_,rfl⟩;have hl:=zaD h;have hc1:=hl.2.1;have hc2:=hl.2.2;have hn:l.length≤9223372036854775807:=Nat.le_trans hl.2.1 hl.2.2;obtain⟨w1,h1,b1,c1⟩:=zai w #[.int .i64 kd,.string tx,.int .i64 nn,.int .i64 at',.slice A l.length c] 25;have D1:=hd.below b1;have x0:w1.cell? ⟨w.heap.size,0,none⟩=some (.int .i64 kd):=c1.cell 0;have x1:w1.cell? ⟨w.heap.size,1,none⟩=some (.string tx):=c1.cell 1;have x3:w1.cell? ⟨w.heap.size,3,none⟩=some (.int .i64 at'):=c1.cell 3;have x4:w1.cell? ⟨w.heap.size,4,none⟩=some (.slice A l.length c):=c1.cell 4;have y1:w1.cell? ⟨db,1,none⟩=some (.map (some mt)):=D1.box.cell 1;have y2:w1.cell? ⟨db,2,none⟩=some (.map (some ma)):=D1.box.cell 2;have hlk1:∀q,_:=λq=>zfI ((D1.below (zae (Below.refl _ _) q)).tm) tx;have hlk2:∀q,_:=λq=>zfI ((D1.below (zae (Below.refl _ _) q)).am) tx;rw[hts] at hlk1;rw[hacs] at hlk2;obtain⟨g1,hg1⟩:∃g,mget (.int .i64 0) LT tx=g:=⟨_,rfl⟩;obtain⟨g2,hg2⟩:∃g,mget (.int .i64 0) LA tx=g:=⟨_,rfl⟩;obtain⟨bT,hbT⟩:∃g,memB tx ts=g:=⟨_,rfl⟩;obtain⟨bA,hbA⟩:∃g,memB tx acs=g:=⟨_,rfl⟩;rw[hg1,hbT] at hlk1;rw[hg2,hbA] at hlk2;rw[hts,hacs,hbT,hbA];simp only[zoj,hts,hacs] at IH;have KB:=zz (zhm tx w1);have HB1:=zz b1;have HC1:=zz c1;have HD1:=zz D1;have HR:=zz h;have HI:=zz IH;have HD0:=zz hd;clear hts hacs hg1 hg2 hbT hbA b1 c1 D1 hl h hd IH;obtain⟨r,hr⟩:∃r,zbx ts acs l=r:=⟨_,rfl⟩;have HA0:Hid (zbx ts acs (l.drop 0)=r):=zz hr;rw[hr];clear hr
 by_cases k12:kd=12
 ·subst k12
  by_cases hb:zbr tx=0
  ·rw[hb] at KB;cases bT with
   |true=>
    rw[if_neg (by simp)];clear hb;go_enter Tryz.func61,Tryz.ntmps61;go_wp2_with fail;(with_reducible refine KB.out.mono ?_);rintro e w2 ⟨rfl,rfl⟩;go_wp2_with fail
    go_quiet (fail)
    go_wp2_with fail;generalize hW:World.drewN w1 _=w2;have HB2:Hid (Below w.heap.size w w2):=zz (by rw[←hW];exact zae HB1.out _);clear hW;clear h1 x0 x1 x3 x4 y1 y2 hlk1 hlk2
    go_loopw [48] (λs wr=>∃i:Nat,i≤l.length∧s=.int .i64 i∧Hid (zbx ts acs (l.drop i)=r)∧Hid (Below w.heap.size w wr)) (λs _=>l.length-(intOf s).toNat)
    case atStart=>exact⟨0,by omega,rfl,HA0,HB2⟩
    case round=>
     clear HA0 HB2;obtain⟨i,hi,rfl,HA,HB⟩:=hrel;have sB:=HB.out.size
     by_cases hlt:i<l.length
     ·obtain⟨b,off,y,e,hlb,hget,A',c',p0,p1,p2,p3,p4,r5⟩:=zbN (HR.out.belows HB.out) hlt;subst e;have hin:(i:Int)<l.length:=by omega
      have q:=HA.out;rw[zak hget,zdK] at q;obtain⟨w3,hw3,hb3,hx3⟩:=zai wr #[.int .i64 y.kind,.string y.text,.int .i64 y.n,.int .i64 y.at',.slice A' y.kids.length c'] 25;have q0:=hx3.cell 0;have q1:=hx3.cell 1;have q2:=hx3.cell 2;have q3:=hx3.cell 3;have q4:=hx3.cell 4;have HB3:=zz (zab HB.out hb3 HB.out.size);have KU:=zz (HI.out y (List.mem_of_getElem? hget) A' c' w3 (HD0.out.below HB3.out) (r5.belows hb3));clear r5 hb3 hx3 HA HB hget hlb;cases hu:zbc ts acs y with
      |some a=>
       rw[hu] at q KU;have HQ:Hid (some a=r):=zz q;clear q hu;go_wp2_with fail;(with_reducible refine KU.out.mono ?_);rintro e w4 ⟨hb4,rfl⟩;have HB4:=zz (zab HB3.out hb4 HB3.out.size);clear hb4 q0 q1 q2 q3 q4;go_wp2_with fail
       go_ret2
       rw[←HQ.out];exact⟨HB4.out,rfl⟩
      |none=>
       rw[hu] at q KU;have HQ:Hid (zbx ts acs (l.drop (i+1))=r):=zz q;clear q hu;go_wp2_with fail;(with_reducible refine KU.out.mono ?_);rintro e w4 ⟨hb4,rfl⟩;have HB4:=zz (zab HB3.out hb4 HB3.out.size);clear hb4 q0 q1 q2 q3 q4;go_wp2_with fail;exact⟨⟨i+1,by omega,by go_num,HQ,HB4⟩,by simp[intOf];omega⟩
     ·have HQ:Hid (none=r):=zz (by
       have q:=HA.out;rw[List.drop_eq_nil_of_le (by omega),zee] at q;exact q)
      clear HA;go_wp2_with fail
      go_ret2
      rw[←HQ.out];exact⟨HB.out,rfl⟩
   |false=>
    rw[if_pos (.inl ⟨rfl,hb,rfl⟩)];clear hb;go_enter Tryz.func61,Tryz.ntmps61;go_wp2_with fail;(with_reducible refine KB.out.mono ?_);rintro e w2 ⟨rfl,rfl⟩;go_wp2_with fail
    go_quiet (fail)
    go_wp2_with fail
    go_ret2
    exact⟨zae HB1.out _,rfl⟩
  ·rw[if_neg (by simp[hb])];have hbb:(zbr tx == 0)=false:=by rw[beq_eq_false_iff_ne];exact hb
   generalize zbr tx=B at *
   have HB2:=HB1;clear hb;go_enter Tryz.func61,Tryz.ntmps61;go_wp2_with fail;(with_reducible refine KB.out.mono ?_);rintro e w2 ⟨rfl,rfl⟩;go_wp2_with fail;clear h1 x0 x1 x3 x4 y1 y2 hlk1 hlk2
   go_loopw [48] (λs wr=>∃i:Nat,i≤l.length∧s=.int .i64 i∧Hid (zbx ts acs (l.drop i)=r)∧Hid (Below w.heap.size w wr)) (λs _=>l.length-(intOf s).toNat)
   case atStart=>exact⟨0,by omega,rfl,HA0,HB2⟩
   case round=>
    clear HA0 HB2;obtain⟨i,hi,rfl,HA,HB⟩:=hrel;have sB:=HB.out.size
    by_cases hlt:i<l.length
    ·obtain⟨b,off,y,e,hlb,hget,A',c',p0,p1,p2,p3,p4,r5⟩:=zbN (HR.out.belows HB.out) hlt;subst e;have hin:(i:Int)<l.length:=by omega
     have q:=HA.out;rw[zak hget,zdK] at q;obtain⟨w3,hw3,hb3,hx3⟩:=zai wr #[.int .i64 y.kind,.string y.text,.int .i64 y.n,.int .i64 y.at',.slice A' y.kids.length c'] 25;have q0:=hx3.cell 0;have q1:=hx3.cell 1;have q2:=hx3.cell 2;have q3:=hx3.cell 3;have q4:=hx3.cell 4;have HB3:=zz (zab HB.out hb3 HB.out.size);have KU:=zz (HI.out y (List.mem_of_getElem? hget) A' c' w3 (HD0.out.below HB3.out) (r5.belows hb3));clear r5 hb3 hx3 HA HB hget hlb;cases hu:zbc ts acs y with
     |some a=>
      rw[hu] at q KU;have HQ:Hid (some a=r):=zz q;clear q hu;go_wp2_with fail;(with_reducible refine KU.out.mono ?_);rintro e w4 ⟨hb4,rfl⟩;have HB4:=zz (zab HB3.out hb4 HB3.out.size);clear hb4 q0 q1 q2 q3 q4;go_wp2_with fail
      go_ret2
      rw[←HQ.out];exact⟨HB4.out,rfl⟩
     |none=>
      rw[hu] at q KU;have HQ:Hid (zbx ts acs (l.drop (i+1))=r):=zz q;clear q hu;go_wp2_with fail;(with_reducible refine KU.out.mono ?_);rintro e w4 ⟨hb4,rfl⟩;have HB4:=zz (zab HB3.out hb4 HB3.out.size);clear hb4 q0 q1 q2 q3 q4;go_wp2_with fail;exact⟨⟨i+1,by omega,by go_num,HQ,HB4⟩,by simp[intOf];omega⟩
    ·have HQ:Hid (none=r):=zz (by
      have q:=HA.out;rw[List.drop_eq_nil_of_le (by omega),zee] at q;exact q)
     clear HA;go_wp2_with fail
     go_ret2
     rw[←HQ.out];exact⟨HB.out,rfl⟩
 ·have e12:(kd == 12)=false:=by rw[beq_eq_false_iff_ne];exact k12
  by_cases k14:kd=14
  ·subst k14;clear e12 k12;cases bA with
   |true=>
    rw[if_neg (by simp)];go_enter Tryz.func61,Tryz.ntmps61;go_wp2_with fail
    go_quiet (fail)
    go_wp2_with fail;generalize hW:World.drewN w1 _=w2;have HB2:Hid (Below w.heap.size w w2):=zz (by rw[←hW];exact zae HB1.out _);clear hW;clear h1 x0 x1 x3 x4 y1 y2 hlk1 hlk2
    go_loopw [48] (λs wr=>∃i:Nat,i≤l.length∧s=.int .i64 i∧Hid (zbx ts acs (l.drop i)=r)∧Hid (Below w.heap.size w wr)) (λs _=>l.length-(intOf s).toNat)
    case atStart=>exact⟨0,by omega,rfl,HA0,HB2⟩
    case round=>
     clear HA0 HB2;obtain⟨i,hi,rfl,HA,HB⟩:=hrel;have sB:=HB.out.size
     by_cases hlt:i<l.length
     ·obtain⟨b,off,y,e,hlb,hget,A',c',p0,p1,p2,p3,p4,r5⟩:=zbN (HR.out.belows HB.out) hlt;subst e;have hin:(i:Int)<l.length:=by omega
      have q:=HA.out;rw[zak hget,zdK] at q;obtain⟨w3,hw3,hb3,hx3⟩:=zai wr #[.int .i64 y.kind,.string y.text,.int .i64 y.n,.int .i64 y.at',.slice A' y.kids.length c'] 25;have q0:=hx3.cell 0;have q1:=hx3.cell 1;have q2:=hx3.cell 2;have q3:=hx3.cell 3;have q4:=hx3.cell 4;have HB3:=zz (zab HB.out hb3 HB.out.size);have KU:=zz (HI.out y (List.mem_of_getElem? hget) A' c' w3 (HD0.out.below HB3.out) (r5.belows hb3));clear r5 hb3 hx3 HA HB hget hlb;cases hu:zbc ts acs y with
      |some a=>
       rw[hu] at q KU;have HQ:Hid (some a=r):=zz q;clear q hu;go_wp2_with fail;(with_reducible refine KU.out.mono ?_);rintro e w4 ⟨hb4,rfl⟩;have HB4:=zz (zab HB3.out hb4 HB3.out.size);clear hb4 q0 q1 q2 q3 q4;go_wp2_with fail
       go_ret2
       rw[←HQ.out];exact⟨HB4.out,rfl⟩
      |none=>
       rw[hu] at q KU;have HQ:Hid (zbx ts acs (l.drop (i+1))=r):=zz q;clear q hu;go_wp2_with fail;(with_reducible refine KU.out.mono ?_);rintro e w4 ⟨hb4,rfl⟩;have HB4:=zz (zab HB3.out hb4 HB3.out.size);clear hb4 q0 q1 q2 q3 q4;go_wp2_with fail;exact⟨⟨i+1,by omega,by go_num,HQ,HB4⟩,by simp[intOf];omega⟩
     ·have HQ:Hid (none=r):=zz (by
       have q:=HA.out;rw[List.drop_eq_nil_of_le (by omega),zee] at q;exact q)
      clear HA;go_wp2_with fail
      go_ret2
      rw[←HQ.out];exact⟨HB.out,rfl⟩
   |false=>
    rw[if_pos (.inr ⟨rfl,rfl⟩)];go_enter Tryz.func61,Tryz.ntmps61;go_wp2_with fail
    go_quiet (fail)
    go_wp2_with fail
    go_ret2
    exact⟨zae HB1.out _,rfl⟩
  ·rw[if_neg (by simp[k12,k14])];have e14:(kd == 14)=false:=by rw[beq_eq_false_iff_ne];exact k14
   have HB2:=HB1;clear k12 k14;go_enter Tryz.func61,Tryz.ntmps61;go_wp2_with fail;clear h1 x0 x1 x3 x4 y1 y2 hlk1 hlk2
   go_loopw [48] (λs wr=>∃i:Nat,i≤l.length∧s=.int .i64 i∧Hid (zbx ts acs (l.drop i)=r)∧Hid (Below w.heap.size w wr)) (λs _=>l.length-(intOf s).toNat)
   case atStart=>exact⟨0,by omega,rfl,HA0,HB2⟩
   case round=>
    clear HA0 HB2;obtain⟨i,hi,rfl,HA,HB⟩:=hrel;have sB:=HB.out.size
    by_cases hlt:i<l.length
    ·obtain⟨b,off,y,e,hlb,hget,A',c',p0,p1,p2,p3,p4,r5⟩:=zbN (HR.out.belows HB.out) hlt;subst e;have hin:(i:Int)<l.length:=by omega
     have q:=HA.out;rw[zak hget,zdK] at q;obtain⟨w3,hw3,hb3,hx3⟩:=zai wr #[.int .i64 y.kind,.string y.text,.int .i64 y.n,.int .i64 y.at',.slice A' y.kids.length c'] 25;have q0:=hx3.cell 0;have q1:=hx3.cell 1;have q2:=hx3.cell 2;have q3:=hx3.cell 3;have q4:=hx3.cell 4;have HB3:=zz (zab HB.out hb3 HB.out.size);have KU:=zz (HI.out y (List.mem_of_getElem? hget) A' c' w3 (HD0.out.below HB3.out) (r5.belows hb3));clear r5 hb3 hx3 HA HB hget hlb;cases hu:zbc ts acs y with
     |some a=>
      rw[hu] at q KU;have HQ:Hid (some a=r):=zz q;clear q hu;go_wp2_with fail;(with_reducible refine KU.out.mono ?_);rintro e w4 ⟨hb4,rfl⟩;have HB4:=zz (zab HB3.out hb4 HB3.out.size);clear hb4 q0 q1 q2 q3 q4;go_wp2_with fail
      go_ret2
      rw[←HQ.out];exact⟨HB4.out,rfl⟩
     |none=>
      rw[hu] at q KU;have HQ:Hid (zbx ts acs (l.drop (i+1))=r):=zz q;clear q hu;go_wp2_with fail;(with_reducible refine KU.out.mono ?_);rintro e w4 ⟨hb4,rfl⟩;have HB4:=zz (zab HB3.out hb4 HB3.out.size);clear hb4 q0 q1 q2 q3 q4;go_wp2_with fail;exact⟨⟨i+1,by omega,by go_num,HQ,HB4⟩,by simp[intOf];omega⟩
    ·have HQ:Hid (none=r):=zz (by
      have q:=HA.out;rw[List.drop_eq_nil_of_le (by omega),zee] at q;exact q)
     clear HA;go_wp2_with fail
     go_ret2
     rw[←HQ.out];exact⟨HB.out,rfl⟩
theorem zoV (db:Nat) (Ad:Option Addr) (nd cd mt ma:Nat) (LT LA:List (ByteArray × Value)):∀(m:Nat) (n:Nd),n.size≤m→zoj db Ad nd cd mt ma LT LA n
 |0,n,h=>absurd (zjI n) (by omega)
 |m+1,.mk k t n a l,h=>zqB db Ad nd cd mt ma LT LA k t n a l (λx hx=>zoV db Ad nd cd mt ma LT LA m x (by have:=zaY hx;rw[zaE] at h;omega))
theorem ziV (db:Nat) (Ad:Option Addr) (nd cd mt ma:Nat) (LT LA:List (ByteArray × Value)) (n:Nd):zoj db Ad nd cd mt ma LT LA n:=zoV db Ad nd cd mt ma LT LA n.size n (Nat.le_refl _)
def zqZ (t:Ty):Prop:=∀(A:Option Addr) (c:Nat) (w:World),Rd (Lt w.heap.size) w (ys t.args) (.slice A t.args.length c)→
 Calls Tryz.prog 21 #[.agg #[.int .i64 t.kind,.string t.name,.slice A t.args.length c]] w λe w'=>e=.returned (.bool (zaZ t))∧Below w.heap.size w w'
theorem ziS (t:Ty) (r:List Ty):zcm (t::r)=(zaZ t&&zcm r):=by rw[zcm]
theorem zjW:zcm []=true:=by rw[zcm]
theorem zqh (k:Int) (nm:ByteArray) (l:List Ty) (IH:∀t∈l,zqZ t):zqZ (.mk k nm l):=by
 intro A c w h;replace h:Rd (Lt w.heap.size) w (ys l) (.slice A l.length c):=h
 show Calls Tryz.prog 21 #[.agg #[.int .i64 k,.string nm,.slice A l.length c]] w λe w'=>e=.returned (.bool (zaZ (.mk k nm l)))∧Below w.heap.size w w'
 rw[zaZ];have hl:=zmv h;have hn:l.length≤9223372036854775807:=Nat.le_trans hl.2.1 hl.2.2;obtain⟨w1,h1,b1,c1⟩:=zai w #[.int .i64 k,.string nm,.slice A l.length c] 55;have x0:w1.cell? ⟨w.heap.size,0,none⟩=some (.int .i64 k):=c1.cell 0;have x2:w1.cell? ⟨w.heap.size,2,none⟩=some (.slice A l.length c):=c1.cell 2;have HB1:=zz b1;have HR:=zz h;have HI:=zz IH;clear b1 c1 hl h IH
 by_cases h8:k=8
 ·subst h8;rw[decide_eq_true rfl];go_enter Tryz.func21,Tryz.ntmps21;go_wp2_with fail;go_ret;exact⟨rfl,HB1.out⟩
 ·rw[decide_eq_false h8];have e8:(k == 8)=false:=by rw[beq_eq_false_iff_ne];exact h8
  obtain⟨r,hr⟩:∃r,zcm l=r:=⟨_,rfl⟩;have HA0:Hid (zcm (l.drop 0)=r):=zz hr;rw[hr];simp only[Bool.not_false,Bool.true_and];clear hr h8;go_enter Tryz.func21,Tryz.ntmps21;go_wp2_with fail;clear h1 x0 x2
  go_loopw [11] (λs wr=>∃i:Nat,i≤l.length∧s=.int .i64 i∧Hid (zcm (l.drop i)=r)∧Hid (Below w.heap.size w wr)) (λs _=>l.length-(intOf s).toNat)
  case atStart=>exact⟨0,by omega,rfl,HA0,HB1⟩
  case round=>
   clear HA0 HB1;obtain⟨i,hi,rfl,HA,HB⟩:=hrel;have sB:=HB.out.size
   by_cases hlt:i<l.length
   ·obtain⟨b,off,y,e,hlb,hget,A',c',p0,p1,p2,r5⟩:=zjY (HR.out.belows HB.out) hlt;subst e;have hin:(i:Int)<l.length:=by omega
    have q:=HA.out;rw[zak hget,ziS] at q;obtain⟨w3,hw3,hb3,hx3⟩:=zai wr #[.int .i64 y.kind,.string y.name,.slice A' y.args.length c'] 55;have q0:=hx3.cell 0;have q1:=hx3.cell 1;have q2:=hx3.cell 2;have HB3:=zz (zab HB.out hb3 HB.out.size);have KU:=zz (HI.out y (List.mem_of_getElem? hget) A' c' w3 (r5.belows hb3));clear r5 hb3 hx3 HA HB hget hlb;cases hu:zaZ y with
    |false=>
     rw[hu] at q KU;have HQ:Hid (false=r):=zz q;clear q hu;go_wp2_with fail;(with_reducible refine KU.out.mono ?_);rintro e w4 ⟨rfl,hb4⟩;have HB4:=zz (zab HB3.out hb4 HB3.out.size);clear hb4 q0 q1 q2;go_wp2_with fail;go_ret;exact⟨by rw[←HQ.out];rfl,HB4.out⟩
    |true=>
     rw[hu] at q KU;have HQ:Hid (zcm (l.drop (i+1))=r):=zz (by simpa using q);clear q hu;go_wp2_with fail;(with_reducible refine KU.out.mono ?_);rintro e w4 ⟨rfl,hb4⟩;have HB4:=zz (zab HB3.out hb4 HB3.out.size);clear hb4 q0 q1 q2;go_wp2_with fail;exact⟨⟨i+1,by omega,by go_num,HQ,HB4⟩,by simp[intOf];omega⟩
   ·have HQ:Hid (true=r):=zz (by
     have q:=HA.out;rw[List.drop_eq_nil_of_le (by omega),zjW] at q;exact q)
    clear HA;go_wp2_with fail;go_ret;exact⟨by rw[←HQ.out];rfl,HB.out⟩
theorem zeh:∀t:Ty,zqZ t
 |.mk k n a=>zqh k n a (λx _hx=>zeh x)
def FtB (w:World) (p:Option (Int × Int)) (e:Ending) (w':World):Prop:=Below w.heap.size w w'∧match p with
 |some a=>e=.returned (.tuple #[.agg #[.int .i64 a.1,.int .i64 a.2],.bool true])
 |none=>e=.returned (.tuple #[.agg #[.int .i64 0,.int .i64 0],.bool false])
structure FbSt (w W:World):Prop where
 low:Below w.heap.size w W
 res:zac W w.heap.size #[.int .i64 0,.int .i64 0] 83
theorem FbSt.below {w W W':World} (h:FbSt w W) (k:Below W.heap.size W W'):FbSt w W':=⟨zab h.low k h.low.size,zaa k h.res⟩
theorem FbSt.first (w:World):FbSt w (w.alloc (.cells #[.int .i64 0,.int .i64 0] 83)):=⟨zag w _,zac.new w _ _⟩
theorem zjp {fn:Func} (hf:fn.results=#[.cell 2 83,.tmp 3]) {w W:World} (e x:Int) {p:Option (Int × Int)} (h:FbSt w W) (hp:some (e,x)=p) {a:Act} (h2:a.tmps.getD 2 undef=.pointer (some ⟨w.heap.size,0,none⟩)) (h3:a.tmps.getD 3 undef=.bool true) (hd:a.defers=[]) :
 bodyPost Tryz.prog fn (FtB w p) Exit.ret a ((W.setCell ⟨w.heap.size,0,none⟩ (.int .i64 e)).setCell ⟨w.heap.size,1,none⟩ (.int .i64 x)):=by
 have:=zah (P:=Tryz.prog) hf a.tmps _ w.heap.size _ _ (0,0) _ h2 (zca (.int .i64 e) (.int .i64 x) h.res) Tryz.underlying83 rfl zcc;rw[h3] at this;subst hp;exact bodyPost_ret this hd ⟨h.low.trans ((zbT _ _ _ _).below h.low.size (λq hq=>by omega)),rfl⟩
theorem zix {fn:Func} (hf:fn.results=#[.cell 2 83,.tmp 3]) {w W:World} {p:Option (Int × Int)} (h:FbSt w W) (hp:none=p) {a:Act} (h2:a.tmps.getD 2 undef=.pointer (some ⟨w.heap.size,0,none⟩)) (h3:a.tmps.getD 3 undef=.bool false) (hd:a.defers=[]) :
 bodyPost Tryz.prog fn (FtB w p) Exit.ret a ((W.setCell ⟨w.heap.size,0,none⟩ (.int .i64 0)).setCell ⟨w.heap.size,1,none⟩ (.int .i64 0)):=by
 have:=zah (P:=Tryz.prog) hf a.tmps _ w.heap.size _ _ (0,0) _ h2 (zca (.int .i64 0) (.int .i64 0) h.res) Tryz.underlying83 rfl zcc;rw[h3] at this;subst hp;exact bodyPost_ret this hd ⟨h.low.trans ((zbT _ _ _ _).below h.low.size (λq hq=>by omega)),rfl⟩
theorem zgp {fn:Func} (hf:fn.results=#[.cell 2 83,.tmp 3]) {w W:World} {p:Option (Int × Int)} (h:FbSt w W) (hp:none=p) {a:Act} (h2:a.tmps.getD 2 undef=.pointer (some ⟨w.heap.size,0,none⟩)) (h3:a.tmps.getD 3 undef=.bool false) (hd:a.defers=[]) :
 bodyPost Tryz.prog fn (FtB w p) Exit.ret a W:=by
 have:=zah (P:=Tryz.prog) hf a.tmps _ w.heap.size _ _ (0,0) _ h2 h.res Tryz.underlying83 rfl zcc;rw[h3] at this;subst hp;exact bodyPost_ret this hd ⟨h.low,rfl⟩
end Go.Proofs.YtjdpocmlimkjjaaGreat
