/- Conditions: those in each statement. -/
import Derived.Test.YtcebmphappfjjaaGreatDoorQ19
set_option maxHeartbeats 32000000
set_option maxRecDepth 100000
namespace Go.Proofs.YtcebmphappfjjaaGreatDoor
open Go.RowKit Go.MapKept
def rgP (n:Nd):Bool:=decide (n.kind=6/\(101<n.n\/n.n=1))
def ntF (n:Nd):Bool:=decide (n.kind≠5)
def stP (t:Nd):Option Int:=if zce (zfu t)=true then none else some t.at'
def zkh (ts acs:List ByteArray) (l:List Nd):Option Int:=(l.flatMap zca).findSome? (zbA ts acs)
theorem zjO {n:Nd} (h:0<n.kids.length):kid0 n∈n.kids:=by
 unfold kid0;cases hk:n.kids with
 |nil=>rw[hk] at h;simp at h
 |cons a r=>simp
theorem zrK {l:List Nd} {x:Nd} (h:x∈zaL l):x∈l:=by
 rw[zeS] at h;exact List.mem_of_mem_take h
theorem znf (n:Nd) (hk:zeE n.kids) (t:Nd) (h:t∈zca n):t∈n.kids\/(∃k∈n.kids,t∈k.kids)\/∃k∈n.kids,∃f∈k.kids,t∈f.kids:=by
 rw[znc,List.mem_flatMap] at h;obtain⟨k,hkm,ht⟩:=h;unfold sgOf at ht
 split at ht
 ·rw[List.mem_singleton] at ht;subst ht;exact .inr (.inl ⟨k,hkm,zjO (hk.fld k hkm (by assumption))⟩)
 split at ht
 ·exact .inr (.inl ⟨k,hkm,ht⟩)
 split at ht
 ·rw[List.mem_singleton] at ht;subst ht;exact .inr (.inl ⟨k,hkm,zjO (hk.st k hkm (by assumption))⟩)
 split at ht
 ·rw[List.mem_map] at ht;obtain⟨f,hf,rfl⟩:=ht;exact .inr (.inr ⟨k,hkm,f,zrK hf,zjO (hk.on k hkm (by assumption) f hf)⟩)
 split at ht
 ·rw[List.mem_singleton] at ht;subst ht;exact .inl hkm
 ·simp at ht
theorem zhV (k:Nd):zaB k.kids<=k.size:=by cases k;rw[zbT];show zaB _<=_;exact Nat.le_add_left _ _
theorem zla (n:Nd) (hk:zeE n.kids) (t:Nd) (h:t∈zca n):t.size<=zaB n.kids:=by
 rcases znf n hk t h with h|⟨k,h1,h2⟩|⟨k,h1,f,h2,h3⟩
 ·exact zaK h
 ·have:=zaK h1;have:=zaK h2;have:=zhV k;omega
 ·have:=zaK h1;have:=zaK h2;have:=zaK h3;have:=zhV k;have:=zhV f;omega
theorem zmV (n:Nd) (hk:zeE n.kids) (hf:fitL n.kids=true):fitL (zca n)=true:=zkb (λt h=>by
 rcases znf n hk t h with h|⟨k,h1,h2⟩|⟨k,h1,f,h2,h3⟩
 ·exact zaR hf h
 ·exact zaR (zav (zaR hf h1)) h2
 ·exact zaR (zav (zaR (zav (zaR hf h1)) h2)) h3)
theorem zoK (db:Nat) (l:List Nd) (hsg:∀n∈l,zeE n.kids) (hf:fitL l=true) (hs:zaB l<=2097152) (A:Option Addr) (c mt ma:Nat) (LT LA:List (ByteArray × Value)) (w:World) (hd:DdAt w db A l.length c mt ma LT LA) (h:Rd (Lt w.heap.size) w (ns l) (.slice A l.length c)) :
 Calls Tryz.prog 77 #[.pointer (some ⟨db,0,none⟩)] w (FtB w ((zeX l).map (λa=>(6,a)))):=by
 have hl:=zaS h;have hn:l.length<=2097152:=Nat.le_trans (zat l) hs;obtain⟨r,hr⟩:∃r,zeX l=r:=⟨_,rfl⟩;rw[hr];have z1:=FbSt.first w
 have ltd:=hd.box.lt;obtain⟨w1,h1⟩:∃W,w.alloc (.cells #[.int .i64 0,.int .i64 0] 117)=W:=⟨_,rfl⟩;rw[h1] at z1;have x0:w1.cell? ⟨db,0,none⟩=some (.slice A l.length c):=(hd.below z1.low).box.cell 0;have HR:=zz h;have HD:=zz hd;have HF:=zz hf;have HS:=zz hs;have HSG:=zz hsg;have HB0:=zz z1;have HA0:Hid ((l.find? rgP).map Nd.at'=r):=zz hr;clear hl hr z1 h hd hf hs hsg;go_enter Tryz.func77,Tryz.ntmps77;go_wp2_with fail;clear h1 x0
 go_loopw [11] (λs wr=>∃i:Nat,i<=l.length/\s=.int .i64 i/\Hid (((l.drop i).find? rgP).map Nd.at'=r)/\Hid (FbSt w wr)) (λs _=>l.length-(intOf s).toNat)
 case atStart=>exact⟨0,by omega,rfl,by rw[List.drop_zero];exact HA0,HB0⟩
 case round=>
  clear HA0 HB0;obtain⟨i,hi,rfl,HA,HB⟩:=hrel
  by_cases hlt:i<l.length
  ·have sB:=HB.out.low.size;obtain⟨b,off,y,e,hlb,hget,A',c',p0,p1,p2,p3,p4,r5⟩:=zbC (HR.out.belows HB.out.low) hlt;subst e;have hin:(i:Int)<l.length:=by omega
   have hym:=List.mem_of_getElem? hget;have hyf:=zaR HF.out hym;have hys:=zaK hym;have hyS:y.size=1+zaB y.kids:=by cases y;rw[zbT];rfl
   have hS0:=HS.out;have hsy:zaB y.kids<=2097152:=by omega
   obtain⟨w3,hw3,hb3,hx3⟩:=zaj wr #[.int .i64 y.kind,.string y.text,.int .i64 y.n,.int .i64 y.at',.slice A' y.kids.length c'] 49;obtain⟨q0,q1,q2,q3,q4⟩:=hx3.c5;have HB3:=zz (HB.out.below hb3);have q:=HA.out;rw[zal hget,List.find?_cons] at q
   by_cases hp:rgP y=true
   ·rw[hp] at q;have HQ:Hid (some y.at'=r):=zz q;have hp2:=of_decide_eq_true hp;obtain⟨hk6,hp3⟩:=hp2;have e6:(y.kind == 6)=true:=by rw[hk6];rfl
    have y0:=HB3.out.res.cell 0;have y1:=HB3.out.res.cell 1;have yz:=HB3.out.res.fz
    have hcase:(decide (101<y.n)=true)\/(decide (101<y.n)=false/\(y.n == 1)=true):=by
     rcases hp3 with h|h
     ·exact .inl (decide_eq_true h)
     ·right;rw[h];exact⟨rfl,rfl⟩
    clear q hp hp3 hk6 r5 hb3 hx3 HA HB hget hlb hym hyf hys hyS hS0 hsy;rcases hcase with g1|⟨g1,g2⟩
    all_goals
     go_wp2_with fail;exact ziR (by rfl) 6 y.at' HB3.out (by rw[<-HQ.out];rfl) (by rfl) (by rfl) rfl
   ·have hpf:rgP y=false:=by simpa using hp
    rw[hpf] at q;have HQ:=zz q;have hp2:=of_decide_eq_false hpf
    have hcase:(y.kind == 6)=false\/((y.kind == 6)=true/\decide (101<y.n)=false/\(y.n == 1)=false):=by
     by_cases h6:y.kind=6
     ·right
      refine⟨by rw[h6];rfl,decide_eq_false (λh=>hp2 ⟨h6,.inl h⟩),by rw[beq_eq_false_iff_ne];exact λh=>hp2 ⟨h6,.inr h⟩⟩
     ·left;rw[beq_eq_false_iff_ne];exact h6
    clear q hp hpf hp2 r5 hb3 hx3 HA HB hget hlb hym hyf hys hyS hS0 hsy;rcases hcase with g1|⟨g1,g2,g3⟩
    all_goals
     go_wp2_with fail;exact⟨⟨i+1,by omega,by go_num,HQ,HB3⟩,by simp[intOf];omega⟩
  ·have HQ:Hid (none=r):=zz (by
    have q:=HA.out;rw[List.drop_eq_nil_of_le (by omega)] at q;exact q)
   clear HA;have y0:=HB.out.res.cell 0;have y1:=HB.out.res.cell 1;have yz:=HB.out.res.fz;go_wp2_with fail
   first
    |exact zhx (by rfl) HB.out (by rw[<-HQ.out];rfl) (by rfl) (by rfl) rfl
    |exact zfS (by rfl) HB.out (by rw[<-HQ.out];rfl) (by rfl) (by rfl) rfl
theorem zqG (db:Nat) (l:List Nd) (hsg:∀n∈l,zeE n.kids) (hf:fitL l=true) (hs:zaB l<=2097152) (A:Option Addr) (c mt ma:Nat) (LT LA:List (ByteArray × Value)) (w:World) (hd:DdAt w db A l.length c mt ma LT LA) (h:Rd (Lt w.heap.size) w (ns l) (.slice A l.length c)) :
 Calls Tryz.prog 75 #[.pointer (some ⟨db,0,none⟩)] w (FtB w ((zkh (LT.map Prod.fst) (LA.map Prod.fst) l).map (λa=>(8,a)))):=by
 have hl:=zaS h;have hn:l.length<=2097152:=Nat.le_trans (zat l) hs;obtain⟨r,hr⟩:∃r,zkh (LT.map Prod.fst) (LA.map Prod.fst) l=r:=⟨_,rfl⟩;rw[hr];have z1:=FbSt.first w
 have ltd:=hd.box.lt;obtain⟨w1,h1⟩:∃W,w.alloc (.cells #[.int .i64 0,.int .i64 0] 117)=W:=⟨_,rfl⟩;rw[h1] at z1;have x0:w1.cell? ⟨db,0,none⟩=some (.slice A l.length c):=(hd.below z1.low).box.cell 0;have HR:=zz h;have HD:=zz hd;have HF:=zz hf;have HS:=zz hs;have HSG:=zz hsg;have HB0:=zz z1;have HA0:Hid (((l.drop 0).flatMap zca).findSome? (zbA (LT.map Prod.fst) (LA.map Prod.fst))=r):=zz hr;clear hl hr z1 h hd hf hs hsg;go_enter Tryz.func75,Tryz.ntmps75;go_wp2_with fail;clear h1 x0
 go_loopw [15] (λs wr=>∃i:Nat,i<=l.length/\s=.int .i64 i/\Hid (((l.drop i).flatMap zca).findSome? (zbA (LT.map Prod.fst) (LA.map Prod.fst))=r)/\Hid (FbSt w wr)) (λs _=>l.length-(intOf s).toNat)
 case atStart=>exact⟨0,by omega,rfl,HA0,HB0⟩
 case round=>
  clear HA0 HB0;obtain⟨i,hi,rfl,HA,HB⟩:=hrel
  by_cases hlt:i<l.length
  ·have sB:=HB.out.low.size;obtain⟨b,off,y,e,hlb,hget,A',c',p0,p1,p2,p3,p4,r5⟩:=zbC (HR.out.belows HB.out.low) hlt;subst e;have hin:(i:Int)<l.length:=by omega
   have hym:=List.mem_of_getElem? hget;have hyf:=zaR HF.out hym;have hys:=zaK hym;have hyS:y.size=1+zaB y.kids:=by cases y;rw[zbT];rfl
   have hS0:=HS.out;have hsy:zaB y.kids<=2097152:=by omega
   obtain⟨w3,hw3,hb3,hx3⟩:=zaj wr #[.int .i64 y.kind,.string y.text,.int .i64 y.n,.int .i64 y.at',.slice A' y.kids.length c'] 49;obtain⟨q0,q1,q2,q3,q4⟩:=hx3.c5;have HB3:=zz (HB.out.below hb3);have q:=HA.out;rw[zal hget] at q;rw[List.flatMap_cons] at q;have KG:=zz (zgb y (HSG.out y hym) hsy A' c' w3 (r5.belows hb3));obtain⟨sg,hsg⟩:∃sg,zca y=sg:=⟨_,rfl⟩;rw[hsg] at q KG;have hfs:fitL sg=true:=by rw[<-hsg];exact zmV y (HSG.out y hym) (zav hyf)
   have hss:∀t∈sg,t.size<=2097152:=by rw[<-hsg];exact λt ht=>Nat.le_trans (zla y (HSG.out y hym) t ht) hsy
   have HFS:=zz hfs;have HSS:=zz hss;have HG0:Hid (((sg.drop 0)++(l.drop (i+1)).flatMap zca).findSome? (zbA (LT.map Prod.fst) (LA.map Prod.fst))=r):=zz q;clear q hsg hfs hss r5 hb3 hx3 HA HB hget hlb hym hyf hys hyS hS0 hsy;go_wp2_with fail;(with_reducible refine KG.out.mono ?_);rintro e w4 ⟨hb4,A4,c4,rfl,hr4⟩;have HB4:=zz (HB3.out.below hb4);have HR4:=zz hr4;have hl4:=zaS hr4;have hn4:sg.length<=9223372036854775807:=Nat.le_trans hl4.2.1 hl4.2.2;clear hb4 hr4 hl4 HB3 hw3 q0 q1 q2 q3 q4 KG;go_wp2_with fail
   go_loopw [22] (λs wr=>∃k:Nat,k<=sg.length/\s=.int .i64 k/\Hid (((sg.drop k)++(l.drop (i+1)).flatMap zca).findSome? (zbA (LT.map Prod.fst) (LA.map Prod.fst))=r)/\Hid (Below w4.heap.size w4 wr)) (λs _=>sg.length-(intOf s).toNat)
   case atStart=>exact⟨0,by omega,rfl,HG0,zz (Below.refl _ _)⟩
   case round=>
    clear HG0;obtain⟨k,hk,rfl,HG,HX⟩:=hrel;have sX:=HX.out.size
    by_cases hlk:k<sg.length
    ·obtain⟨b2,off2,z,e2,hlb2,hget2,A2,c2,g0,g1,g2,g3,g4,r6⟩:=zbC (HR4.out.belows HX.out) hlk;subst e2;have hkn:(k:Int)<sg.length:=by omega
     have hzm:=List.mem_of_getElem? hget2;have q:=HG.out;rw[zal hget2,List.cons_append,List.findSome?_cons] at q;obtain⟨w5,hw5,hb5,hx5⟩:=zaj wr #[.int .i64 z.kind,.string z.text,.int .i64 z.n,.int .i64 z.at',.slice A2 z.kids.length c2] 49;obtain⟨t0,t1,t2,t3,t4⟩:=hx5.c5;have HX5:=zz (zac HX.out hb5 HX.out.size);have HC5:=zz hx5;have Z5:=zz (HB4.out.below HX5.out);have KU:=zz (ziE db _ l.length c mt ma LT LA z A2 c2 w5 (HD.out.below Z5.out.low) (r6.belows hb5));obtain⟨o,ho⟩:∃o,zbA (LT.map Prod.fst) (LA.map Prod.fst) z=o:=⟨_,rfl⟩;rw[ho] at q KU;clear ho r6 hb5 hx5 HG HX hget2 hlb2 hzm;cases o with
     |some a=>
      have HQ:Hid (some a=r):=zz q;clear q;go_wp2_with fail;(with_reducible refine KU.out.mono ?_);rintro e w6 ⟨hb6,rfl⟩;have Z6:=zz (Z5.out.below hb6);have y0:=Z6.out.res.cell 0;have y1:=Z6.out.res.cell 1;have yz:=Z6.out.res.fz;clear hb6 t0 t1 t2 t3 t4 hw5;go_wp2_with fail;exact ziR (by rfl) 8 a Z6.out (by rw[<-HQ.out];rfl) (by rfl) (by rfl) rfl
     |none=>
      have HQ:=zz q;clear q;go_wp2_with fail;(with_reducible refine KU.out.mono ?_);rintro e w6 ⟨hb6,rfl⟩;have HX6:=zz (zac HX5.out hb6 HX5.out.size);clear hb6 t0 t1 t2 t3 t4 hw5;go_wp2_with fail;exact⟨⟨k+1,by omega,by go_num,HQ,HX6⟩,by simp[intOf];omega⟩
    ·have HQ:Hid (((l.drop (i+1)).flatMap zca).findSome? (zbA (LT.map Prod.fst) (LA.map Prod.fst))=r):=zz (by
      have q:=HG.out;rw[List.drop_eq_nil_of_le (by omega),List.nil_append] at q;exact q)
     have HB9:=zz (HB4.out.below HX.out);clear HG;go_wp2_with fail;exact⟨⟨i+1,by omega,by go_num,HQ,HB9⟩,by simp[intOf];omega⟩
  ·have HQ:Hid (none=r):=zz (by
    have q:=HA.out;rw[List.drop_eq_nil_of_le (by omega)] at q;exact q)
   clear HA;have y0:=HB.out.res.cell 0;have y1:=HB.out.res.cell 1;have yz:=HB.out.res.fz;go_wp2_with fail
   first
    |exact zhx (by rfl) HB.out (by rw[<-HQ.out];rfl) (by rfl) (by rfl) rfl
    |exact zfS (by rfl) HB.out (by rw[<-HQ.out];rfl) (by rfl) (by rfl) rfl
theorem zoA (db:Nat) (l:List Nd) (hsg:∀n∈l,zeE n.kids) (hf:fitL l=true) (hs:zaB l<=2097152) (A:Option Addr) (c mt ma:Nat) (LT LA:List (ByteArray × Value)) (w:World) (hd:DdAt w db A l.length c mt ma LT LA) (h:Rd (Lt w.heap.size) w (ns l) (.slice A l.length c)) :
 Calls Tryz.prog 76 #[.pointer (some ⟨db,0,none⟩)] w (FtB w ((zeN l).map (λa=>(7,a)))):=by
 have hl:=zaS h;have hn:l.length<=2097152:=Nat.le_trans (zat l) hs;obtain⟨r,hr⟩:∃r,zeN l=r:=⟨_,rfl⟩;rw[hr];have z1:=FbSt.first w
 have ltd:=hd.box.lt;obtain⟨w1,h1⟩:∃W,w.alloc (.cells #[.int .i64 0,.int .i64 0] 117)=W:=⟨_,rfl⟩;rw[h1] at z1;have x0:w1.cell? ⟨db,0,none⟩=some (.slice A l.length c):=(hd.below z1.low).box.cell 0;have HR:=zz h;have HD:=zz hd;have HF:=zz hf;have HS:=zz hs;have HSG:=zz hsg;have HB0:=zz z1;have HA0:Hid ((((l.drop 0).filter ntF).flatMap zca).findSome? (stP)=r):=zz hr;clear hl hr z1 h hd hf hs hsg;go_enter Tryz.func76,Tryz.ntmps76;go_wp2_with fail;clear h1 x0
 go_loopw [15] (λs wr=>∃i:Nat,i<=l.length/\s=.int .i64 i/\Hid ((((l.drop i).filter ntF).flatMap zca).findSome? (stP)=r)/\Hid (FbSt w wr)) (λs _=>l.length-(intOf s).toNat)
 case atStart=>exact⟨0,by omega,rfl,HA0,HB0⟩
 case round=>
  clear HA0 HB0;obtain⟨i,hi,rfl,HA,HB⟩:=hrel
  by_cases hlt:i<l.length
  ·have sB:=HB.out.low.size;obtain⟨b,off,y,e,hlb,hget,A',c',p0,p1,p2,p3,p4,r5⟩:=zbC (HR.out.belows HB.out.low) hlt;subst e;have hin:(i:Int)<l.length:=by omega
   have hym:=List.mem_of_getElem? hget;have hyf:=zaR HF.out hym;have hys:=zaK hym;have hyS:y.size=1+zaB y.kids:=by cases y;rw[zbT];rfl
   have hS0:=HS.out;have hsy:zaB y.kids<=2097152:=by omega
   obtain⟨w3,hw3,hb3,hx3⟩:=zaj wr #[.int .i64 y.kind,.string y.text,.int .i64 y.n,.int .i64 y.at',.slice A' y.kids.length c'] 49;obtain⟨q0,q1,q2,q3,q4⟩:=hx3.c5;have HB3:=zz (HB.out.below hb3);have q:=HA.out;rw[zal hget] at q
   by_cases h5:y.kind=5
   ·have e5:(y.kind == 5)=true:=by rw[h5];rfl
    rw[List.filter_cons_of_neg (by unfold ntF;simp[h5])] at q;have HQ:=zz q;clear q h5 r5 hb3 hx3 HA HB hget hlb hym hyf hys hyS hS0 hsy;go_wp2_with fail;exact⟨⟨i+1,by omega,by go_num,HQ,HB3⟩,by simp[intOf];omega⟩
   ·have e5:(y.kind == 5)=false:=by rw[beq_eq_false_iff_ne];exact h5
    rw[List.filter_cons_of_pos (by unfold ntF;simp[h5]),List.flatMap_cons] at q;clear h5;have KG:=zz (zgb y (HSG.out y hym) hsy A' c' w3 (r5.belows hb3));obtain⟨sg,hsg⟩:∃sg,zca y=sg:=⟨_,rfl⟩;rw[hsg] at q KG;have hfs:fitL sg=true:=by rw[<-hsg];exact zmV y (HSG.out y hym) (zav hyf)
    have hss:∀t∈sg,t.size<=2097152:=by rw[<-hsg];exact λt ht=>Nat.le_trans (zla y (HSG.out y hym) t ht) hsy
    have HFS:=zz hfs;have HSS:=zz hss;have HG0:Hid (((sg.drop 0)++((l.drop (i+1)).filter ntF).flatMap zca).findSome? (stP)=r):=zz q;clear q hsg hfs hss r5 hb3 hx3 HA HB hget hlb hym hyf hys hyS hS0 hsy;go_wp2_with fail;(with_reducible refine KG.out.mono ?_);rintro e w4 ⟨hb4,A4,c4,rfl,hr4⟩;have HB4:=zz (HB3.out.below hb4);have HR4:=zz hr4;have hl4:=zaS hr4;have hn4:sg.length<=9223372036854775807:=Nat.le_trans hl4.2.1 hl4.2.2;clear hb4 hr4 hl4 HB3 hw3 q0 q1 q2 q3 q4 KG;go_wp2_with fail
    go_loopw [25] (λs wr=>∃k:Nat,k<=sg.length/\s=.int .i64 k/\Hid (((sg.drop k)++((l.drop (i+1)).filter ntF).flatMap zca).findSome? (stP)=r)/\Hid (Below w4.heap.size w4 wr)) (λs _=>sg.length-(intOf s).toNat)
    case atStart=>exact⟨0,by omega,rfl,HG0,zz (Below.refl _ _)⟩
    case round=>
     clear HG0;obtain⟨k,hk,rfl,HG,HX⟩:=hrel;have sX:=HX.out.size
     by_cases hlk:k<sg.length
     ·obtain⟨b2,off2,z,e2,hlb2,hget2,A2,c2,g0,g1,g2,g3,g4,r6⟩:=zbC (HR4.out.belows HX.out) hlk;subst e2;have hkn:(k:Int)<sg.length:=by omega
      have hzm:=List.mem_of_getElem? hget2;have q:=HG.out;rw[zal hget2,List.cons_append,List.findSome?_cons] at q;obtain⟨w5,hw5,hb5,hx5⟩:=zaj wr #[.int .i64 z.kind,.string z.text,.int .i64 z.n,.int .i64 z.at',.slice A2 z.kids.length c2] 49;obtain⟨t0,t1,t2,t3,t4⟩:=hx5.c5;have HX5:=zz (zac HX.out hb5 HX.out.size);have HC5:=zz hx5;have KR:=zz (zfG z A2 c2 w5 (zaR HFS.out hzm) (HSS.out z hzm) (r6.belows hb5));have hst:stP z=if zce (zfu z)=true then none else some z.at':=rfl
      rw[hst] at q;obtain⟨t,ht⟩:∃t,zfu z=t:=⟨_,rfl⟩;rw[ht] at q KR;have HQ0:=zz q;clear q ht hst r6 hb5 hx5 HG HX hget2 hlb2 hzm;go_wp2_with fail;(with_reducible refine KR.out.mono ?_);rintro e w6 ⟨hb6,ok6,A6,c6,rfl,hr6⟩;have HX6:=zz (zac HX5.out hb6 HX5.out.size);have HC6:=zz (zaa hb6 HC5.out);obtain⟨w7,h7,b7,c7⟩:=zaj w6 #[.int .i64 t.kind,.string t.name,.slice A6 t.args.length c6] 70;have HX7:=zz (zac HX6.out b7 HX6.out.size);have HC7:=zz (zaa b7 HC6.out);have KS:=zz (zgI t A6 c6 w7 ((hr6.weaken (λb hb=>hb.2)).belows b7));have u0:=c7.cell 0;have u1:=c7.cell 1;have u2:=c7.cell 2;have H7:=zz h7;clear hb6 hr6 b7 c7 t0 t1 t2 t3 t4 hw5 KR h7;go_wp2_with fail;rw[H7.out];go_wp2_with fail;(with_reducible refine KS.out.mono ?_);obtain⟨bs,hbs⟩:∃bs,zce t=bs:=⟨_,rfl⟩;have q:=HQ0.out;rw[hbs] at q ⊢;clear hbs HQ0;cases bs with
      |false=>
       rw[if_neg (by simp)] at q;have HQ:Hid (some z.at'=r):=zz q;rintro e w8 ⟨rfl,hb8⟩;have Z8:=zz (HB4.out.below (zac HX7.out hb8 HX7.out.size));have v3:w8.cell? ⟨wr.heap.size,3,none⟩=some (.int .i64 z.at'):=(zaa hb8 HC7.out).cell 3;have y0:=Z8.out.res.cell 0;have y1:=Z8.out.res.cell 1;have yz:=Z8.out.res.fz;clear hb8 q u0 u1 u2 H7;go_wp2_with fail;exact ziR (by rfl) 7 z.at' Z8.out (by rw[<-HQ.out];rfl) (by rfl) (by rfl) rfl
      |true=>
       rw[if_pos rfl] at q;have HQ:=zz q;rintro e w8 ⟨rfl,hb8⟩;have HX8:=zz (zac HX7.out hb8 HX7.out.size);clear hb8 q u0 u1 u2 H7;go_wp2_with fail;exact⟨⟨k+1,by omega,by go_num,HQ,HX8⟩,by simp[intOf];omega⟩
     ·have HQ:Hid ((((l.drop (i+1)).filter ntF).flatMap zca).findSome? (stP)=r):=zz (by
       have q:=HG.out;rw[List.drop_eq_nil_of_le (by omega),List.nil_append] at q;exact q)
      have HB9:=zz (HB4.out.below HX.out);clear HG;go_wp2_with fail;exact⟨⟨i+1,by omega,by go_num,HQ,HB9⟩,by simp[intOf];omega⟩
  ·have HQ:Hid (none=r):=zz (by
    have q:=HA.out;rw[List.drop_eq_nil_of_le (by omega)] at q;exact q)
   clear HA;have y0:=HB.out.res.cell 0;have y1:=HB.out.res.cell 1;have yz:=HB.out.res.fz;go_wp2_with fail
   first
    |exact zhx (by rfl) HB.out (by rw[<-HQ.out];rfl) (by rfl) (by rfl) rfl
    |exact zfS (by rfl) HB.out (by rw[<-HQ.out];rfl) (by rfl) (by rfl) rfl
end Go.Proofs.YtcebmphappfjjaaGreatDoor
