/- Conditions: those in each statement. -/
import Derived.Test.YtcebmphappfjjaaGreatDoorQ14
import Derived.Test.YtcebmphappfjjaaGreatDoorQ15
set_option maxHeartbeats 32000000
set_option maxRecDepth 100000
namespace Go.Proofs.YtcebmphappfjjaaGreatDoor
open Go.RowKit Go.MapKept
structure DdAt (w:World) (db:Nat) (A:Option Addr) (n c mt ma:Nat) (LT LA:List (ByteArray × Value)):Prop where
 box:DcAt w db A n c mt ma
 tm:zaN w mt LT
 am:zaN w ma LA
theorem DdAt.below {w w':World} {db:Nat} {A:Option Addr} {n c mt ma:Nat} {LT LA:List (ByteArray × Value)} (h:DdAt w db A n c mt ma LT LA) (k:Below w.heap.size w w'):DdAt w' db A n c mt ma LT LA:=
 ⟨zaa k h.box,zaq h.tm (Chg.of_below (M:=λ_=>False) k) (λh=>h),zaq h.am (Chg.of_below (M:=λ_=>False) k) (λh=>h)⟩
def zps (w:World) (o:Option Int) (e:Ending) (w':World):Prop:=Below w.heap.size w w'/\match o with
 |some a=>e=.returned (.tuple #[.int .i64 a,.bool true])
 |none=>e=.returned (.tuple #[.int .i64 0,.bool false])
section
variable (db:Nat) (Ad:Option Addr) (nd cd mt ma:Nat) (LT LA:List (ByteArray × Value))
def zqE (n:Nd):Prop:=∀(A:Option Addr) (c:Nat) (w:World),DdAt w db Ad nd cd mt ma LT LA->Rd (Lt w.heap.size) w (ns n.kids) (.slice A n.kids.length c)->
 Calls Tryz.prog 130 #[.pointer (some ⟨db,0,none⟩),.agg #[.int .i64 n.kind,.string n.text,.int .i64 n.n,.int .i64 n.at',.slice A n.kids.length c]] w (zps w (zbA (LT.map Prod.fst) (LA.map Prod.fst) n))
end
theorem zdN (ts acs:List ByteArray):zbg ts acs []=none:=by rw[zbg]
theorem zde (ts acs:List ByteArray) (n:Nd) (r:List Nd):zbg ts acs (n::r)=match zbA ts acs n with|some a=>some a|none=>zbg ts acs r:=by
 rw[zbg];cases zbA ts acs n<;>rfl
theorem zrJ (db:Nat) (Ad:Option Addr) (nd cd mt ma:Nat) (LT LA:List (ByteArray × Value)) (kd:Int) (tx:ByteArray) (nn at':Int) (l:List Nd) (IH:∀n∈l,zqE db Ad nd cd mt ma LT LA n):zqE db Ad nd cd mt ma LT LA (.mk kd tx nn at' l):=by
 intro A c w hd h;replace h:Rd (Lt w.heap.size) w (ns l) (.slice A l.length c):=h
 show Calls Tryz.prog 130 #[.pointer (some ⟨db,0,none⟩),.agg #[.int .i64 kd,.string tx,.int .i64 nn,.int .i64 at',.slice A l.length c]] w (zps w (zbA (LT.map Prod.fst) (LA.map Prod.fst) (.mk kd tx nn at' l)))
 rw[zbA];obtain⟨ts,hts⟩:∃ts,LT.map Prod.fst=ts:=⟨_,rfl⟩;obtain⟨acs,hacs⟩:∃acs,LA.map Prod.fst=acs:=⟨_,rfl⟩;have hl:=zaS h;have hc1:=hl.2.1;have hc2:=hl.2.2;have hn:l.length<=9223372036854775807:=Nat.le_trans hl.2.1 hl.2.2;obtain⟨w1,h1,b1,c1⟩:=zaj w #[.int .i64 kd,.string tx,.int .i64 nn,.int .i64 at',.slice A l.length c] 49;have D1:=hd.below b1;have x0:w1.cell? ⟨w.heap.size,0,none⟩=some (.int .i64 kd):=c1.cell 0;have x1:w1.cell? ⟨w.heap.size,1,none⟩=some (.string tx):=c1.cell 1;have x3:w1.cell? ⟨w.heap.size,3,none⟩=some (.int .i64 at'):=c1.cell 3;have x4:w1.cell? ⟨w.heap.size,4,none⟩=some (.slice A l.length c):=c1.cell 4;have y1:w1.cell? ⟨db,1,none⟩=some (.map (some mt)):=D1.box.cell 1;have y2:w1.cell? ⟨db,2,none⟩=some (.map (some ma)):=D1.box.cell 2;have hlk1:∀q,_:=λq=>zff ((D1.below (zae (Below.refl _ _) q)).tm) tx;have hlk2:∀q,_:=λq=>zff ((D1.below (zae (Below.refl _ _) q)).am) tx;rw[hts] at hlk1;rw[hacs] at hlk2;obtain⟨g1,hg1⟩:∃g,mget (.int .i64 0) LT tx=g:=⟨_,rfl⟩;obtain⟨g2,hg2⟩:∃g,mget (.int .i64 0) LA tx=g:=⟨_,rfl⟩;obtain⟨bT,hbT⟩:∃g,memB tx ts=g:=⟨_,rfl⟩;obtain⟨bA,hbA⟩:∃g,memB tx acs=g:=⟨_,rfl⟩;rw[hg1,hbT] at hlk1;rw[hg2,hbA] at hlk2;rw[hts,hacs,hbT,hbA];simp only[zqE,hts,hacs] at IH;have KB:=zz (zgh tx w1);have HB1:=zz b1;have HC1:=zz c1;have HD1:=zz D1;have HR:=zz h;have HI:=zz IH;have HD0:=zz hd;clear hts hacs hg1 hg2 hbT hbA b1 c1 D1 hl h hd IH;obtain⟨r,hr⟩:∃r,zbg ts acs l=r:=⟨_,rfl⟩;have HA0:Hid (zbg ts acs (l.drop 0)=r):=zz hr;rw[hr];clear hr
 by_cases k12:kd=12
 ·subst k12
  by_cases hb:zbW tx=0
  ·rw[hb] at KB;cases bT with
   |true=>
    rw[if_neg (by simp)];clear hb;go_enter Tryz.func130,Tryz.ntmps130;go_wp2_with fail;(with_reducible refine KB.out.mono ?_);rintro e w2 ⟨rfl,rfl⟩;go_wp2_with fail
    go_quiet (fail)
    go_wp2_with fail;generalize hW:World.drewN w1 _=w2;have HB2:Hid (Below w.heap.size w w2):=zz (by rw[<-hW];exact zae HB1.out _);clear hW;clear h1 x0 x1 x3 x4 y1 y2 hlk1 hlk2
    go_loopw [48] (λs wr=>∃i:Nat,i<=l.length/\s=.int .i64 i/\Hid (zbg ts acs (l.drop i)=r)/\Hid (Below w.heap.size w wr)) (λs _=>l.length-(intOf s).toNat)
    case atStart=>exact⟨0,by omega,rfl,HA0,HB2⟩
    case round=>
     clear HA0 HB2;obtain⟨i,hi,rfl,HA,HB⟩:=hrel;have sB:=HB.out.size
     by_cases hlt:i<l.length
     ·obtain⟨b,off,y,e,hlb,hget,A',c',p0,p1,p2,p3,p4,r5⟩:=zbC (HR.out.belows HB.out) hlt;subst e;have hin:(i:Int)<l.length:=by omega
      have q:=HA.out;rw[zal hget,zde] at q;obtain⟨w3,hw3,hb3,hx3⟩:=zaj wr #[.int .i64 y.kind,.string y.text,.int .i64 y.n,.int .i64 y.at',.slice A' y.kids.length c'] 49;have q0:=hx3.cell 0;have q1:=hx3.cell 1;have q2:=hx3.cell 2;have q3:=hx3.cell 3;have q4:=hx3.cell 4;have HB3:=zz (zac HB.out hb3 HB.out.size);have KU:=zz (HI.out y (List.mem_of_getElem? hget) A' c' w3 (HD0.out.below HB3.out) (r5.belows hb3));clear r5 hb3 hx3 HA HB hget hlb;cases hu:zbA ts acs y with
      |some a=>
       rw[hu] at q KU;have HQ:Hid (some a=r):=zz q;clear q hu;go_wp2_with fail;(with_reducible refine KU.out.mono ?_);rintro e w4 ⟨hb4,rfl⟩;have HB4:=zz (zac HB3.out hb4 HB3.out.size);clear hb4 q0 q1 q2 q3 q4;go_wp2
       go_ret2
       rw[<-HQ.out];exact⟨HB4.out,rfl⟩
      |none=>
       rw[hu] at q KU;have HQ:Hid (zbg ts acs (l.drop (i+1))=r):=zz q;clear q hu;go_wp2_with fail;(with_reducible refine KU.out.mono ?_);rintro e w4 ⟨hb4,rfl⟩;have HB4:=zz (zac HB3.out hb4 HB3.out.size);clear hb4 q0 q1 q2 q3 q4;go_wp2_with fail;exact⟨⟨i+1,by omega,by go_num,HQ,HB4⟩,by simp[intOf];omega⟩
     ·have HQ:Hid (none=r):=zz (by
       have q:=HA.out;rw[List.drop_eq_nil_of_le (by omega),zdN] at q;exact q)
      clear HA;go_wp2
      go_ret2
      rw[<-HQ.out];exact⟨HB.out,rfl⟩
   |false=>
    rw[if_pos (.inl ⟨rfl,hb,rfl⟩)];clear hb;go_enter Tryz.func130,Tryz.ntmps130;go_wp2_with fail;(with_reducible refine KB.out.mono ?_);rintro e w2 ⟨rfl,rfl⟩;go_wp2_with fail
    go_quiet (fail)
    go_wp2
    go_ret2
    exact⟨zae HB1.out _,rfl⟩
  ·rw[if_neg (by simp[hb])];have hbb:(zbW tx == 0)=false:=by rw[beq_eq_false_iff_ne];exact hb
   generalize zbW tx=B at *
   have HB2:=HB1;clear hb;go_enter Tryz.func130,Tryz.ntmps130;go_wp2_with fail;(with_reducible refine KB.out.mono ?_);rintro e w2 ⟨rfl,rfl⟩;go_wp2_with fail;clear h1 x0 x1 x3 x4 y1 y2 hlk1 hlk2
   go_loopw [48] (λs wr=>∃i:Nat,i<=l.length/\s=.int .i64 i/\Hid (zbg ts acs (l.drop i)=r)/\Hid (Below w.heap.size w wr)) (λs _=>l.length-(intOf s).toNat)
   case atStart=>exact⟨0,by omega,rfl,HA0,HB2⟩
   case round=>
    clear HA0 HB2;obtain⟨i,hi,rfl,HA,HB⟩:=hrel;have sB:=HB.out.size
    by_cases hlt:i<l.length
    ·obtain⟨b,off,y,e,hlb,hget,A',c',p0,p1,p2,p3,p4,r5⟩:=zbC (HR.out.belows HB.out) hlt;subst e;have hin:(i:Int)<l.length:=by omega
     have q:=HA.out;rw[zal hget,zde] at q;obtain⟨w3,hw3,hb3,hx3⟩:=zaj wr #[.int .i64 y.kind,.string y.text,.int .i64 y.n,.int .i64 y.at',.slice A' y.kids.length c'] 49;have q0:=hx3.cell 0;have q1:=hx3.cell 1;have q2:=hx3.cell 2;have q3:=hx3.cell 3;have q4:=hx3.cell 4;have HB3:=zz (zac HB.out hb3 HB.out.size);have KU:=zz (HI.out y (List.mem_of_getElem? hget) A' c' w3 (HD0.out.below HB3.out) (r5.belows hb3));clear r5 hb3 hx3 HA HB hget hlb;cases hu:zbA ts acs y with
     |some a=>
      rw[hu] at q KU;have HQ:Hid (some a=r):=zz q;clear q hu;go_wp2_with fail;(with_reducible refine KU.out.mono ?_);rintro e w4 ⟨hb4,rfl⟩;have HB4:=zz (zac HB3.out hb4 HB3.out.size);clear hb4 q0 q1 q2 q3 q4;go_wp2
      go_ret2
      rw[<-HQ.out];exact⟨HB4.out,rfl⟩
     |none=>
      rw[hu] at q KU;have HQ:Hid (zbg ts acs (l.drop (i+1))=r):=zz q;clear q hu;go_wp2_with fail;(with_reducible refine KU.out.mono ?_);rintro e w4 ⟨hb4,rfl⟩;have HB4:=zz (zac HB3.out hb4 HB3.out.size);clear hb4 q0 q1 q2 q3 q4;go_wp2_with fail;exact⟨⟨i+1,by omega,by go_num,HQ,HB4⟩,by simp[intOf];omega⟩
    ·have HQ:Hid (none=r):=zz (by
      have q:=HA.out;rw[List.drop_eq_nil_of_le (by omega),zdN] at q;exact q)
     clear HA;go_wp2
     go_ret2
     rw[<-HQ.out];exact⟨HB.out,rfl⟩
 ·have e12:(kd == 12)=false:=by rw[beq_eq_false_iff_ne];exact k12
  by_cases k14:kd=14
  ·subst k14;clear e12 k12;cases bA with
   |true=>
    rw[if_neg (by simp)];go_enter Tryz.func130,Tryz.ntmps130;go_wp2_with fail
    go_quiet (fail)
    go_wp2_with fail;generalize hW:World.drewN w1 _=w2;have HB2:Hid (Below w.heap.size w w2):=zz (by rw[<-hW];exact zae HB1.out _);clear hW;clear h1 x0 x1 x3 x4 y1 y2 hlk1 hlk2
    go_loopw [48] (λs wr=>∃i:Nat,i<=l.length/\s=.int .i64 i/\Hid (zbg ts acs (l.drop i)=r)/\Hid (Below w.heap.size w wr)) (λs _=>l.length-(intOf s).toNat)
    case atStart=>exact⟨0,by omega,rfl,HA0,HB2⟩
    case round=>
     clear HA0 HB2;obtain⟨i,hi,rfl,HA,HB⟩:=hrel;have sB:=HB.out.size
     by_cases hlt:i<l.length
     ·obtain⟨b,off,y,e,hlb,hget,A',c',p0,p1,p2,p3,p4,r5⟩:=zbC (HR.out.belows HB.out) hlt;subst e;have hin:(i:Int)<l.length:=by omega
      have q:=HA.out;rw[zal hget,zde] at q;obtain⟨w3,hw3,hb3,hx3⟩:=zaj wr #[.int .i64 y.kind,.string y.text,.int .i64 y.n,.int .i64 y.at',.slice A' y.kids.length c'] 49;have q0:=hx3.cell 0;have q1:=hx3.cell 1;have q2:=hx3.cell 2;have q3:=hx3.cell 3;have q4:=hx3.cell 4;have HB3:=zz (zac HB.out hb3 HB.out.size);have KU:=zz (HI.out y (List.mem_of_getElem? hget) A' c' w3 (HD0.out.below HB3.out) (r5.belows hb3));clear r5 hb3 hx3 HA HB hget hlb;cases hu:zbA ts acs y with
      |some a=>
       rw[hu] at q KU;have HQ:Hid (some a=r):=zz q;clear q hu;go_wp2_with fail;(with_reducible refine KU.out.mono ?_);rintro e w4 ⟨hb4,rfl⟩;have HB4:=zz (zac HB3.out hb4 HB3.out.size);clear hb4 q0 q1 q2 q3 q4;go_wp2
       go_ret2
       rw[<-HQ.out];exact⟨HB4.out,rfl⟩
      |none=>
       rw[hu] at q KU;have HQ:Hid (zbg ts acs (l.drop (i+1))=r):=zz q;clear q hu;go_wp2_with fail;(with_reducible refine KU.out.mono ?_);rintro e w4 ⟨hb4,rfl⟩;have HB4:=zz (zac HB3.out hb4 HB3.out.size);clear hb4 q0 q1 q2 q3 q4;go_wp2_with fail;exact⟨⟨i+1,by omega,by go_num,HQ,HB4⟩,by simp[intOf];omega⟩
     ·have HQ:Hid (none=r):=zz (by
       have q:=HA.out;rw[List.drop_eq_nil_of_le (by omega),zdN] at q;exact q)
      clear HA;go_wp2
      go_ret2
      rw[<-HQ.out];exact⟨HB.out,rfl⟩
   |false=>
    rw[if_pos (.inr ⟨rfl,rfl⟩)];go_enter Tryz.func130,Tryz.ntmps130;go_wp2_with fail
    go_quiet (fail)
    go_wp2
    go_ret2
    exact⟨zae HB1.out _,rfl⟩
  ·rw[if_neg (by simp[k12,k14])];have e14:(kd == 14)=false:=by rw[beq_eq_false_iff_ne];exact k14
   have HB2:=HB1;clear k12 k14;go_enter Tryz.func130,Tryz.ntmps130;go_wp2_with fail;clear h1 x0 x1 x3 x4 y1 y2 hlk1 hlk2
   go_loopw [48] (λs wr=>∃i:Nat,i<=l.length/\s=.int .i64 i/\Hid (zbg ts acs (l.drop i)=r)/\Hid (Below w.heap.size w wr)) (λs _=>l.length-(intOf s).toNat)
   case atStart=>exact⟨0,by omega,rfl,HA0,HB2⟩
   case round=>
    clear HA0 HB2;obtain⟨i,hi,rfl,HA,HB⟩:=hrel;have sB:=HB.out.size
    by_cases hlt:i<l.length
    ·obtain⟨b,off,y,e,hlb,hget,A',c',p0,p1,p2,p3,p4,r5⟩:=zbC (HR.out.belows HB.out) hlt;subst e;have hin:(i:Int)<l.length:=by omega
     have q:=HA.out;rw[zal hget,zde] at q;obtain⟨w3,hw3,hb3,hx3⟩:=zaj wr #[.int .i64 y.kind,.string y.text,.int .i64 y.n,.int .i64 y.at',.slice A' y.kids.length c'] 49;have q0:=hx3.cell 0;have q1:=hx3.cell 1;have q2:=hx3.cell 2;have q3:=hx3.cell 3;have q4:=hx3.cell 4;have HB3:=zz (zac HB.out hb3 HB.out.size);have KU:=zz (HI.out y (List.mem_of_getElem? hget) A' c' w3 (HD0.out.below HB3.out) (r5.belows hb3));clear r5 hb3 hx3 HA HB hget hlb;cases hu:zbA ts acs y with
     |some a=>
      rw[hu] at q KU;have HQ:Hid (some a=r):=zz q;clear q hu;go_wp2_with fail;(with_reducible refine KU.out.mono ?_);rintro e w4 ⟨hb4,rfl⟩;have HB4:=zz (zac HB3.out hb4 HB3.out.size);clear hb4 q0 q1 q2 q3 q4;go_wp2
      go_ret2
      rw[<-HQ.out];exact⟨HB4.out,rfl⟩
     |none=>
      rw[hu] at q KU;have HQ:Hid (zbg ts acs (l.drop (i+1))=r):=zz q;clear q hu;go_wp2_with fail;(with_reducible refine KU.out.mono ?_);rintro e w4 ⟨hb4,rfl⟩;have HB4:=zz (zac HB3.out hb4 HB3.out.size);clear hb4 q0 q1 q2 q3 q4;go_wp2_with fail;exact⟨⟨i+1,by omega,by go_num,HQ,HB4⟩,by simp[intOf];omega⟩
    ·have HQ:Hid (none=r):=zz (by
      have q:=HA.out;rw[List.drop_eq_nil_of_le (by omega),zdN] at q;exact q)
     clear HA;go_wp2
     go_ret2
     rw[<-HQ.out];exact⟨HB.out,rfl⟩
theorem zpk (db:Nat) (Ad:Option Addr) (nd cd mt ma:Nat) (LT LA:List (ByteArray × Value)):∀(m:Nat) (n:Nd),n.size<=m->zqE db Ad nd cd mt ma LT LA n
 |0,n,h=>absurd (zke n) (by omega)
 |m+1,.mk k t n a l,h=>zrJ db Ad nd cd mt ma LT LA k t n a l (λx hx=>zpk db Ad nd cd mt ma LT LA m x (by have:=zaK hx;rw[zbT] at h;omega))
theorem ziE (db:Nat) (Ad:Option Addr) (nd cd mt ma:Nat) (LT LA:List (ByteArray × Value)) (n:Nd):zqE db Ad nd cd mt ma LT LA n:=zpk db Ad nd cd mt ma LT LA n.size n (Nat.le_refl _)
end Go.Proofs.YtcebmphappfjjaaGreatDoor
