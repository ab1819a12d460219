/- Conditions: those in each statement. -/
import Derived.Test.YtjdpocmlimkjjaaGreatQ17
set_option maxHeartbeats 32000000
set_option maxRecDepth 100000
namespace Go.Proofs.YtjdpocmlimkjjaaGreat
open Go.RowKit Go.MapKept
def rgP (n:Nd):Bool:=decide (n.kind=6∧(101<n.n∨n.n=1))
def ntF (n:Nd):Bool:=decide (n.kind≠5)
def stP (t:Nd):Option Int:=if zaZ (zcs t)=true then none else some t.at'
def zkd (ts acs:List ByteArray) (l:List Nd):Option Int:=(l.flatMap zbo).findSome? (zbc ts acs)
theorem zjH {n:Nd} (h:0<n.kids.length):kid0 n∈n.kids:=by
 unfold kid0;cases hk:n.kids with
 |nil=>rw[hk] at h;simp at h
 |cons a r=>simp
theorem zpQ {l:List Nd} {x:Nd} (h:x∈zaL l):x∈l:=by
 rw[zfw] at h;exact List.mem_of_mem_take h
theorem zmr (n:Nd) (hk:zfn n.kids) (t:Nd) (h:t∈zbo n):t∈n.kids∨(∃k∈n.kids,t∈k.kids)∨∃k∈n.kids,∃f∈k.kids,t∈f.kids:=by
 rw[zmH,List.mem_flatMap] at h;obtain⟨k,hkm,ht⟩:=h;unfold sgOf at ht
 split at ht
 ·rw[List.mem_singleton] at ht;subst ht;exact .inr (.inl ⟨k,hkm,zjH (hk.fld k hkm (by assumption))⟩)
 split at ht
 ·exact .inr (.inl ⟨k,hkm,ht⟩)
 split at ht
 ·rw[List.mem_singleton] at ht;subst ht;exact .inr (.inl ⟨k,hkm,zjH (hk.st k hkm (by assumption))⟩)
 split at ht
 ·rw[List.mem_map] at ht;obtain⟨f,hf,rfl⟩:=ht;exact .inr (.inr ⟨k,hkm,f,zpQ hf,zjH (hk.on k hkm (by assumption) f hf)⟩)
 split at ht
 ·rw[List.mem_singleton] at ht;subst ht;exact .inl hkm
 ·simp at ht
theorem zim (k:Nd):zaq k.kids≤k.size:=by cases k;rw[zaE];show zaq _≤_;exact Nat.le_add_left _ _
theorem zlb (n:Nd) (hk:zfn n.kids) (t:Nd) (h:t∈zbo n):t.size≤zaq n.kids:=by
 rcases zmr n hk t h with h|⟨k,h1,h2⟩|⟨k,h1,f,h2,h3⟩
 ·exact zaY h
 ·have:=zaY h1;have:=zaY h2;have:=zim k;omega
 ·have:=zaY h1;have:=zaY h2;have:=zaY h3;have:=zim k;have:=zim f;omega
theorem zmu (n:Nd) (hk:zfn n.kids) (hf:fitL n.kids=true):fitL (zbo n)=true:=zjR (λt h=>by
 rcases zmr n hk t h with h|⟨k,h1,h2⟩|⟨k,h1,f,h2,h3⟩
 ·exact zaM hf h
 ·exact zaM (zay (zaM hf h1)) h2
 ·exact zaM (zay (zaM (zay (zaM hf h1)) h2)) h3)
theorem znL (db:Nat) (l:List Nd) (hsg:∀n∈l,zfn n.kids) (hf:fitL l=true) (hs:zaq l≤2097152) (A:Option Addr) (c mt ma:Nat) (LT LA:List (ByteArray × Value)) (w:World) (hd:DdAt w db A l.length c mt ma LT LA) (h:Rd (Lt w.heap.size) w (ns l) (.slice A l.length c)) :
 Calls Tryz.prog 36 #[.pointer (some ⟨db,0,none⟩)] w (FtB w ((zeQ l).map (λa=>(6,a)))):=by
 have hl:=zaD h;have hn:l.length≤2097152:=Nat.le_trans (zaB l) hs;obtain⟨r,hr⟩:∃r,zeQ l=r:=⟨_,rfl⟩;rw[hr];have z1:=FbSt.first w
 have ltd:=hd.box.lt;obtain⟨w1,h1⟩:∃W,w.alloc (.cells #[.int .i64 0,.int .i64 0] 83)=W:=⟨_,rfl⟩;rw[h1] at z1;have x0:w1.cell? ⟨db,0,none⟩=some (.slice A l.length c):=(hd.below z1.low).box.cell 0;have HR:=zz h;have HD:=zz hd;have HF:=zz hf;have HS:=zz hs;have HSG:=zz hsg;have HB0:=zz z1;have HA0:Hid ((l.find? rgP).map Nd.at'=r):=zz hr;clear hl hr z1 h hd hf hs hsg;go_enter Tryz.func36,Tryz.ntmps36;go_wp2_with fail;clear h1 x0
 go_loopw [11] (λs wr=>∃i:Nat,i≤l.length∧s=.int .i64 i∧Hid (((l.drop i).find? rgP).map Nd.at'=r)∧Hid (FbSt w wr)) (λs _=>l.length-(intOf s).toNat)
 case atStart=>exact⟨0,by omega,rfl,by rw[List.drop_zero];exact HA0,HB0⟩
 case round=>
  clear HA0 HB0;obtain⟨i,hi,rfl,HA,HB⟩:=hrel
  by_cases hlt:i<l.length
  ·have sB:=HB.out.low.size;obtain⟨b,off,y,e,hlb,hget,A',c',p0,p1,p2,p3,p4,r5⟩:=zbN (HR.out.belows HB.out.low) hlt;subst e;have hin:(i:Int)<l.length:=by omega
   have hym:=List.mem_of_getElem? hget;have hyf:=zaM HF.out hym;have hys:=zaY hym;have hyS:y.size=1+zaq y.kids:=by cases y;rw[zaE];rfl
   have hS0:=HS.out;have hsy:zaq y.kids≤2097152:=by omega
   obtain⟨w3,hw3,hb3,hx3⟩:=zai wr #[.int .i64 y.kind,.string y.text,.int .i64 y.n,.int .i64 y.at',.slice A' y.kids.length c'] 25;obtain⟨q0,q1,q2,q3,q4⟩:=hx3.c5;have HB3:=zz (HB.out.below hb3);have q:=HA.out;rw[zak hget,List.find?_cons] at q
   by_cases hp:rgP y=true
   ·rw[hp] at q;have HQ:Hid (some y.at'=r):=zz q;have hp2:=of_decide_eq_true hp;obtain⟨hk6,hp3⟩:=hp2;have e6:(y.kind == 6)=true:=by rw[hk6];rfl
    have y0:=HB3.out.res.cell 0;have y1:=HB3.out.res.cell 1;have yz:=HB3.out.res.fz
    have hcase:(decide (101<y.n)=true)∨(decide (101<y.n)=false∧(y.n == 1)=true):=by
     rcases hp3 with h|h
     ·exact .inl (decide_eq_true h)
     ·right;rw[h];exact⟨rfl,rfl⟩
    clear q hp hp3 hk6 r5 hb3 hx3 HA HB hget hlb hym hyf hys hyS hS0 hsy;rcases hcase with g1|⟨g1,g2⟩
    all_goals
     go_wp2_with fail;exact zjp (by rfl) 6 y.at' HB3.out (by rw[←HQ.out];rfl) (by rfl) (by rfl) rfl
   ·have hpf:rgP y=false:=by simpa using hp
    rw[hpf] at q;have HQ:=zz q;have hp2:=of_decide_eq_false hpf
    have hcase:(y.kind == 6)=false∨((y.kind == 6)=true∧decide (101<y.n)=false∧(y.n == 1)=false):=by
     by_cases h6:y.kind=6
     ·right
      refine⟨by rw[h6];rfl,decide_eq_false (λh=>hp2 ⟨h6,.inl h⟩),by rw[beq_eq_false_iff_ne];exact λh=>hp2 ⟨h6,.inr h⟩⟩
     ·left;rw[beq_eq_false_iff_ne];exact h6
    clear q hp hpf hp2 r5 hb3 hx3 HA HB hget hlb hym hyf hys hyS hS0 hsy;rcases hcase with g1|⟨g1,g2,g3⟩
    all_goals
     go_wp2_with fail;exact⟨⟨i+1,by omega,by go_num,HQ,HB3⟩,by simp[intOf];omega⟩
  ·have HQ:Hid (none=r):=zz (by
    have q:=HA.out;rw[List.drop_eq_nil_of_le (by omega)] at q;exact q)
   clear HA;have y0:=HB.out.res.cell 0;have y1:=HB.out.res.cell 1;have yz:=HB.out.res.fz;go_wp2_with fail
   first
    |exact zix (by rfl) HB.out (by rw[←HQ.out];rfl) (by rfl) (by rfl) rfl
    |exact zgp (by rfl) HB.out (by rw[←HQ.out];rfl) (by rfl) (by rfl) rfl
theorem zoC (db:Nat) (l:List Nd) (hsg:∀n∈l,zfn n.kids) (hf:fitL l=true) (hs:zaq l≤2097152) (A:Option Addr) (c mt ma:Nat) (LT LA:List (ByteArray × Value)) (w:World) (hd:DdAt w db A l.length c mt ma LT LA) (h:Rd (Lt w.heap.size) w (ns l) (.slice A l.length c)) :
 Calls Tryz.prog 34 #[.pointer (some ⟨db,0,none⟩)] w (FtB w ((zkd (LT.map Prod.fst) (LA.map Prod.fst) l).map (λa=>(8,a)))):=by
 have hl:=zaD h;have hn:l.length≤2097152:=Nat.le_trans (zaB l) hs;obtain⟨r,hr⟩:∃r,zkd (LT.map Prod.fst) (LA.map Prod.fst) l=r:=⟨_,rfl⟩;rw[hr];have z1:=FbSt.first w
 have ltd:=hd.box.lt;obtain⟨w1,h1⟩:∃W,w.alloc (.cells #[.int .i64 0,.int .i64 0] 83)=W:=⟨_,rfl⟩;rw[h1] at z1;have x0:w1.cell? ⟨db,0,none⟩=some (.slice A l.length c):=(hd.below z1.low).box.cell 0;have HR:=zz h;have HD:=zz hd;have HF:=zz hf;have HS:=zz hs;have HSG:=zz hsg;have HB0:=zz z1;have HA0:Hid (((l.drop 0).flatMap zbo).findSome? (zbc (LT.map Prod.fst) (LA.map Prod.fst))=r):=zz hr;clear hl hr z1 h hd hf hs hsg;go_enter Tryz.func34,Tryz.ntmps34;go_wp2_with fail;clear h1 x0
 go_loopw [15] (λs wr=>∃i:Nat,i≤l.length∧s=.int .i64 i∧Hid (((l.drop i).flatMap zbo).findSome? (zbc (LT.map Prod.fst) (LA.map Prod.fst))=r)∧Hid (FbSt w wr)) (λs _=>l.length-(intOf s).toNat)
 case atStart=>exact⟨0,by omega,rfl,HA0,HB0⟩
 case round=>
  clear HA0 HB0;obtain⟨i,hi,rfl,HA,HB⟩:=hrel
  by_cases hlt:i<l.length
  ·have sB:=HB.out.low.size;obtain⟨b,off,y,e,hlb,hget,A',c',p0,p1,p2,p3,p4,r5⟩:=zbN (HR.out.belows HB.out.low) hlt;subst e;have hin:(i:Int)<l.length:=by omega
   have hym:=List.mem_of_getElem? hget;have hyf:=zaM HF.out hym;have hys:=zaY hym;have hyS:y.size=1+zaq y.kids:=by cases y;rw[zaE];rfl
   have hS0:=HS.out;have hsy:zaq y.kids≤2097152:=by omega
   obtain⟨w3,hw3,hb3,hx3⟩:=zai wr #[.int .i64 y.kind,.string y.text,.int .i64 y.n,.int .i64 y.at',.slice A' y.kids.length c'] 25;obtain⟨q0,q1,q2,q3,q4⟩:=hx3.c5;have HB3:=zz (HB.out.below hb3);have q:=HA.out;rw[zak hget] at q;rw[List.flatMap_cons] at q;have KG:=zz (zgM y (HSG.out y hym) hsy A' c' w3 (r5.belows hb3));obtain⟨sg,hsg⟩:∃sg,zbo y=sg:=⟨_,rfl⟩;rw[hsg] at q KG;have hfs:fitL sg=true:=by rw[←hsg];exact zmu y (HSG.out y hym) (zay hyf)
   have hss:∀t∈sg,t.size≤2097152:=by rw[←hsg];exact λt ht=>Nat.le_trans (zlb y (HSG.out y hym) t ht) hsy
   have HFS:=zz hfs;have HSS:=zz hss;have HG0:Hid (((sg.drop 0)++(l.drop (i+1)).flatMap zbo).findSome? (zbc (LT.map Prod.fst) (LA.map Prod.fst))=r):=zz q;clear q hsg hfs hss r5 hb3 hx3 HA HB hget hlb hym hyf hys hyS hS0 hsy;go_wp2_with fail;(with_reducible refine KG.out.mono ?_);rintro e w4 ⟨hb4,A4,c4,rfl,hr4⟩;have HB4:=zz (HB3.out.below hb4);have HR4:=zz hr4;have hl4:=zaD hr4;have hn4:sg.length≤9223372036854775807:=Nat.le_trans hl4.2.1 hl4.2.2;clear hb4 hr4 hl4 HB3 hw3 q0 q1 q2 q3 q4 KG;go_wp2_with fail
   go_loopw [22] (λs wr=>∃k:Nat,k≤sg.length∧s=.int .i64 k∧Hid (((sg.drop k)++(l.drop (i+1)).flatMap zbo).findSome? (zbc (LT.map Prod.fst) (LA.map Prod.fst))=r)∧Hid (Below w4.heap.size w4 wr)) (λs _=>sg.length-(intOf s).toNat)
   case atStart=>exact⟨0,by omega,rfl,HG0,zz (Below.refl _ _)⟩
   case round=>
    clear HG0;obtain⟨k,hk,rfl,HG,HX⟩:=hrel;have sX:=HX.out.size
    by_cases hlk:k<sg.length
    ·obtain⟨b2,off2,z,e2,hlb2,hget2,A2,c2,g0,g1,g2,g3,g4,r6⟩:=zbN (HR4.out.belows HX.out) hlk;subst e2;have hkn:(k:Int)<sg.length:=by omega
     have hzm:=List.mem_of_getElem? hget2;have q:=HG.out;rw[zak hget2,List.cons_append,List.findSome?_cons] at q;obtain⟨w5,hw5,hb5,hx5⟩:=zai wr #[.int .i64 z.kind,.string z.text,.int .i64 z.n,.int .i64 z.at',.slice A2 z.kids.length c2] 25;obtain⟨t0,t1,t2,t3,t4⟩:=hx5.c5;have HX5:=zz (zab HX.out hb5 HX.out.size);have HC5:=zz hx5;have Z5:=zz (HB4.out.below HX5.out);have KU:=zz (ziV db _ l.length c mt ma LT LA z A2 c2 w5 (HD.out.below Z5.out.low) (r6.belows hb5));obtain⟨o,ho⟩:∃o,zbc (LT.map Prod.fst) (LA.map Prod.fst) z=o:=⟨_,rfl⟩;rw[ho] at q KU;clear ho r6 hb5 hx5 HG HX hget2 hlb2 hzm;cases o with
     |some a=>
      have HQ:Hid (some a=r):=zz q;clear q;go_wp2_with fail;(with_reducible refine KU.out.mono ?_);rintro e w6 ⟨hb6,rfl⟩;have Z6:=zz (Z5.out.below hb6);have y0:=Z6.out.res.cell 0;have y1:=Z6.out.res.cell 1;have yz:=Z6.out.res.fz;clear hb6 t0 t1 t2 t3 t4 hw5;go_wp2_with fail;exact zjp (by rfl) 8 a Z6.out (by rw[←HQ.out];rfl) (by rfl) (by rfl) rfl
     |none=>
      have HQ:=zz q;clear q;go_wp2_with fail;(with_reducible refine KU.out.mono ?_);rintro e w6 ⟨hb6,rfl⟩;have HX6:=zz (zab HX5.out hb6 HX5.out.size);clear hb6 t0 t1 t2 t3 t4 hw5;go_wp2_with fail;exact⟨⟨k+1,by omega,by go_num,HQ,HX6⟩,by simp[intOf];omega⟩
    ·have HQ:Hid (((l.drop (i+1)).flatMap zbo).findSome? (zbc (LT.map Prod.fst) (LA.map Prod.fst))=r):=zz (by
      have q:=HG.out;rw[List.drop_eq_nil_of_le (by omega),List.nil_append] at q;exact q)
     have HB9:=zz (HB4.out.below HX.out);clear HG;go_wp2_with fail;exact⟨⟨i+1,by omega,by go_num,HQ,HB9⟩,by simp[intOf];omega⟩
  ·have HQ:Hid (none=r):=zz (by
    have q:=HA.out;rw[List.drop_eq_nil_of_le (by omega)] at q;exact q)
   clear HA;have y0:=HB.out.res.cell 0;have y1:=HB.out.res.cell 1;have yz:=HB.out.res.fz;go_wp2_with fail
   first
    |exact zix (by rfl) HB.out (by rw[←HQ.out];rfl) (by rfl) (by rfl) rfl
    |exact zgp (by rfl) HB.out (by rw[←HQ.out];rfl) (by rfl) (by rfl) rfl
theorem znG (db:Nat) (l:List Nd) (hsg:∀n∈l,zfn n.kids) (hf:fitL l=true) (hs:zaq l≤2097152) (A:Option Addr) (c mt ma:Nat) (LT LA:List (ByteArray × Value)) (w:World) (hd:DdAt w db A l.length c mt ma LT LA) (h:Rd (Lt w.heap.size) w (ns l) (.slice A l.length c)) :
 Calls Tryz.prog 35 #[.pointer (some ⟨db,0,none⟩)] w (FtB w ((zeK l).map (λa=>(7,a)))):=by
 have hl:=zaD h;have hn:l.length≤2097152:=Nat.le_trans (zaB l) hs;obtain⟨r,hr⟩:∃r,zeK l=r:=⟨_,rfl⟩;rw[hr];have z1:=FbSt.first w
 have ltd:=hd.box.lt;obtain⟨w1,h1⟩:∃W,w.alloc (.cells #[.int .i64 0,.int .i64 0] 83)=W:=⟨_,rfl⟩;rw[h1] at z1;have x0:w1.cell? ⟨db,0,none⟩=some (.slice A l.length c):=(hd.below z1.low).box.cell 0;have HR:=zz h;have HD:=zz hd;have HF:=zz hf;have HS:=zz hs;have HSG:=zz hsg;have HB0:=zz z1;have HA0:Hid ((((l.drop 0).filter ntF).flatMap zbo).findSome? (stP)=r):=zz hr;clear hl hr z1 h hd hf hs hsg;go_enter Tryz.func35,Tryz.ntmps35;go_wp2_with fail;clear h1 x0
 go_loopw [15] (λs wr=>∃i:Nat,i≤l.length∧s=.int .i64 i∧Hid ((((l.drop i).filter ntF).flatMap zbo).findSome? (stP)=r)∧Hid (FbSt w wr)) (λs _=>l.length-(intOf s).toNat)
 case atStart=>exact⟨0,by omega,rfl,HA0,HB0⟩
 case round=>
  clear HA0 HB0;obtain⟨i,hi,rfl,HA,HB⟩:=hrel
  by_cases hlt:i<l.length
  ·have sB:=HB.out.low.size;obtain⟨b,off,y,e,hlb,hget,A',c',p0,p1,p2,p3,p4,r5⟩:=zbN (HR.out.belows HB.out.low) hlt;subst e;have hin:(i:Int)<l.length:=by omega
   have hym:=List.mem_of_getElem? hget;have hyf:=zaM HF.out hym;have hys:=zaY hym;have hyS:y.size=1+zaq y.kids:=by cases y;rw[zaE];rfl
   have hS0:=HS.out;have hsy:zaq y.kids≤2097152:=by omega
   obtain⟨w3,hw3,hb3,hx3⟩:=zai wr #[.int .i64 y.kind,.string y.text,.int .i64 y.n,.int .i64 y.at',.slice A' y.kids.length c'] 25;obtain⟨q0,q1,q2,q3,q4⟩:=hx3.c5;have HB3:=zz (HB.out.below hb3);have q:=HA.out;rw[zak hget] at q
   by_cases h5:y.kind=5
   ·have e5:(y.kind == 5)=true:=by rw[h5];rfl
    rw[List.filter_cons_of_neg (by unfold ntF;simp[h5])] at q;have HQ:=zz q;clear q h5 r5 hb3 hx3 HA HB hget hlb hym hyf hys hyS hS0 hsy;go_wp2_with fail;exact⟨⟨i+1,by omega,by go_num,HQ,HB3⟩,by simp[intOf];omega⟩
   ·have e5:(y.kind == 5)=false:=by rw[beq_eq_false_iff_ne];exact h5
    rw[List.filter_cons_of_pos (by unfold ntF;simp[h5]),List.flatMap_cons] at q;clear h5;have KG:=zz (zgM y (HSG.out y hym) hsy A' c' w3 (r5.belows hb3));obtain⟨sg,hsg⟩:∃sg,zbo y=sg:=⟨_,rfl⟩;rw[hsg] at q KG;have hfs:fitL sg=true:=by rw[←hsg];exact zmu y (HSG.out y hym) (zay hyf)
    have hss:∀t∈sg,t.size≤2097152:=by rw[←hsg];exact λt ht=>Nat.le_trans (zlb y (HSG.out y hym) t ht) hsy
    have HFS:=zz hfs;have HSS:=zz hss;have HG0:Hid (((sg.drop 0)++((l.drop (i+1)).filter ntF).flatMap zbo).findSome? (stP)=r):=zz q;clear q hsg hfs hss r5 hb3 hx3 HA HB hget hlb hym hyf hys hyS hS0 hsy;go_wp2_with fail;(with_reducible refine KG.out.mono ?_);rintro e w4 ⟨hb4,A4,c4,rfl,hr4⟩;have HB4:=zz (HB3.out.below hb4);have HR4:=zz hr4;have hl4:=zaD hr4;have hn4:sg.length≤9223372036854775807:=Nat.le_trans hl4.2.1 hl4.2.2;clear hb4 hr4 hl4 HB3 hw3 q0 q1 q2 q3 q4 KG;go_wp2_with fail
    go_loopw [25] (λs wr=>∃k:Nat,k≤sg.length∧s=.int .i64 k∧Hid (((sg.drop k)++((l.drop (i+1)).filter ntF).flatMap zbo).findSome? (stP)=r)∧Hid (Below w4.heap.size w4 wr)) (λs _=>sg.length-(intOf s).toNat)
    case atStart=>exact⟨0,by omega,rfl,HG0,zz (Below.refl _ _)⟩
    case round=>
     clear HG0;obtain⟨k,hk,rfl,HG,HX⟩:=hrel;have sX:=HX.out.size
     by_cases hlk:k<sg.length
     ·obtain⟨b2,off2,z,e2,hlb2,hget2,A2,c2,g0,g1,g2,g3,g4,r6⟩:=zbN (HR4.out.belows HX.out) hlk;subst e2;have hkn:(k:Int)<sg.length:=by omega
      have hzm:=List.mem_of_getElem? hget2;have q:=HG.out;rw[zak hget2,List.cons_append,List.findSome?_cons] at q;obtain⟨w5,hw5,hb5,hx5⟩:=zai wr #[.int .i64 z.kind,.string z.text,.int .i64 z.n,.int .i64 z.at',.slice A2 z.kids.length c2] 25;obtain⟨t0,t1,t2,t3,t4⟩:=hx5.c5;have HX5:=zz (zab HX.out hb5 HX.out.size);have HC5:=zz hx5;have KR:=zz (zgO z A2 c2 w5 (zaM HFS.out hzm) (HSS.out z hzm) (r6.belows hb5));have hst:stP z=if zaZ (zcs z)=true then none else some z.at':=rfl
      rw[hst] at q;obtain⟨t,ht⟩:∃t,zcs z=t:=⟨_,rfl⟩;rw[ht] at q KR;have HQ0:=zz q;clear q ht hst r6 hb5 hx5 HG HX hget2 hlb2 hzm;go_wp2_with fail;(with_reducible refine KR.out.mono ?_);rintro e w6 ⟨hb6,ok6,A6,c6,rfl,hr6⟩;have HX6:=zz (zab HX5.out hb6 HX5.out.size);have HC6:=zz (zaa hb6 HC5.out);obtain⟨w7,h7,b7,c7⟩:=zai w6 #[.int .i64 t.kind,.string t.name,.slice A6 t.args.length c6] 55;have HX7:=zz (zab HX6.out b7 HX6.out.size);have HC7:=zz (zaa b7 HC6.out);have KS:=zz (zeh t A6 c6 w7 ((hr6.weaken (λb hb=>hb.2)).belows b7));have u0:=c7.cell 0;have u1:=c7.cell 1;have u2:=c7.cell 2;have H7:=zz h7;clear hb6 hr6 b7 c7 t0 t1 t2 t3 t4 hw5 KR h7;go_wp2_with fail;rw[H7.out];go_wp2_with fail;(with_reducible refine KS.out.mono ?_);obtain⟨bs,hbs⟩:∃bs,zaZ t=bs:=⟨_,rfl⟩;have q:=HQ0.out;rw[hbs] at q ⊢;clear hbs HQ0;cases bs with
      |false=>
       rw[if_neg (by simp)] at q;have HQ:Hid (some z.at'=r):=zz q;rintro e w8 ⟨rfl,hb8⟩;have Z8:=zz (HB4.out.below (zab HX7.out hb8 HX7.out.size));have v3:w8.cell? ⟨wr.heap.size,3,none⟩=some (.int .i64 z.at'):=(zaa hb8 HC7.out).cell 3;have y0:=Z8.out.res.cell 0;have y1:=Z8.out.res.cell 1;have yz:=Z8.out.res.fz;clear hb8 q u0 u1 u2 H7;go_wp2_with fail;exact zjp (by rfl) 7 z.at' Z8.out (by rw[←HQ.out];rfl) (by rfl) (by rfl) rfl
      |true=>
       rw[if_pos rfl] at q;have HQ:=zz q;rintro e w8 ⟨rfl,hb8⟩;have HX8:=zz (zab HX7.out hb8 HX7.out.size);clear hb8 q u0 u1 u2 H7;go_wp2_with fail;exact⟨⟨k+1,by omega,by go_num,HQ,HX8⟩,by simp[intOf];omega⟩
     ·have HQ:Hid ((((l.drop (i+1)).filter ntF).flatMap zbo).findSome? (stP)=r):=zz (by
       have q:=HG.out;rw[List.drop_eq_nil_of_le (by omega),List.nil_append] at q;exact q)
      have HB9:=zz (HB4.out.below HX.out);clear HG;go_wp2_with fail;exact⟨⟨i+1,by omega,by go_num,HQ,HB9⟩,by simp[intOf];omega⟩
  ·have HQ:Hid (none=r):=zz (by
    have q:=HA.out;rw[List.drop_eq_nil_of_le (by omega)] at q;exact q)
   clear HA;have y0:=HB.out.res.cell 0;have y1:=HB.out.res.cell 1;have yz:=HB.out.res.fz;go_wp2_with fail
   first
    |exact zix (by rfl) HB.out (by rw[←HQ.out];rfl) (by rfl) (by rfl) rfl
    |exact zgp (by rfl) HB.out (by rw[←HQ.out];rfl) (by rfl) (by rfl) rfl
def acP (k:ByteArray) (n:Nd):Bool:=decide (n.kind=6∧n.text=k)
theorem zkf (k:ByteArray):∀(l:List Nd) (i q:Nat),(∃j n x,l[j]?=some n∧l.find? (acP k)=some n∧fnd k (acM l i) q=some (x,.int .i64 ((i+j:Nat):Int)))∨(l.find? (acP k)=none∧fnd k (acM l i) q=none)
 |[],i,q=>.inr ⟨rfl,rfl⟩
 |n::r,i,q=>by
  rw[acM,List.find?_cons]
  by_cases h6:n.kind=6
  ·rw[if_pos h6,fnd]
   by_cases hk:k=n.text
   ·have hp:acP k n=true:=decide_eq_true ⟨h6,hk.symm⟩;rw[if_pos hk,hp];exact .inl ⟨0,n,q,rfl,rfl,rfl⟩
   ·have hp:acP k n=false:=decide_eq_false (λh=>hk h.2.symm);rw[if_neg hk,hp];rcases zkf k r (i+1) (q+1) with ⟨j,m,x,h1,h2,h3⟩|h
    ·exact .inl ⟨j+1,m,x,by simpa using h1,h2,by rw[h3];congr 4;omega⟩
    ·exact .inr h
  ·have hp:acP k n=false:=decide_eq_false (λh=>h6 h.1);rw[if_neg h6,hp];rcases zkf k r (i+1) q with ⟨j,m,x,h1,h2,h3⟩|h
   ·exact .inl ⟨j+1,m,x,by simpa using h1,h2,by rw[h3];congr 4;omega⟩
   ·exact .inr h
theorem znt {l:List Nd} {n:Nd} (h:l.find? (acP (⟨#[77,97,105,110]⟩:ByteArray))=some n):zgD l=if 0<(zaL n.kids).length then some (7,n.at') else none:=by
 have:zgD l=match l.find? (acP (⟨#[77,97,105,110]⟩:ByteArray)) with
  |none=>some (5,0)
  |some n=>if 0<(zaL n.kids).length then some (7,n.at') else none:=rfl
 rw[this,h]
theorem znp {l:List Nd} (h:l.find? (acP (⟨#[77,97,105,110]⟩:ByteArray))=none):zgD l=some (5,0):=by
 have:zgD l=match l.find? (acP (⟨#[77,97,105,110]⟩:ByteArray)) with
  |none=>some (5,0)
  |some n=>if 0<(zaL n.kids).length then some (7,n.at') else none:=rfl
 rw[this,h]
theorem zpM (db:Nat) (l:List Nd) (A:Option Addr) (c mt ma:Nat) (LT:List (ByteArray × Value)) (w:World) (hd:DdAt w db A l.length c mt ma LT (acM l 0)) (h:Rd (Lt w.heap.size) w (ns l) (.slice A l.length c)) :
 Calls Tryz.prog 38 #[.pointer (some ⟨db,0,none⟩)] w (FtB w (zgD l)):=by
 have z1:=FbSt.first w
 obtain⟨w1,h1⟩:∃W,w.alloc (.cells #[.int .i64 0,.int .i64 0] 83)=W:=⟨_,rfl⟩;rw[h1] at z1;have d1:=hd.below z1.low;have x0:w1.cell? ⟨db,0,none⟩=some (.slice A l.length c):=d1.box.cell 0;have x2:w1.cell? ⟨db,2,none⟩=some (.map (some ma)):=d1.box.cell 2;have hlk:=zgK (P:=Tryz.prog) (T:=77) Tryz.underlying77 Tryz.underlying9 d1.am (z:=.int .i64 0) (by kernel_rfl) (⟨#[77,97,105,110]⟩:ByteArray);have HZ:=zz z1;rcases zkf (⟨#[77,97,105,110]⟩:ByteArray) l 0 0 with ⟨j,n,x,h2,h3,h4⟩|⟨h3,h4⟩
 ·rw[znt h3];have hm:mget (.int .i64 0) (acM l 0) (⟨#[77,97,105,110]⟩:ByteArray)=.int .i64 (j:Int):=by unfold mget;rw[h4];simp
  rw[hm,h4] at hlk;have hj:j<l.length:=(List.getElem?_eq_some_iff.1 h2).1;obtain⟨b,off,y,e,hlb,hget,A',c',p0,p1,p2,p3,p4,r5⟩:=zbN (h.belows z1.low) hj;subst e;rw[hget] at h2;obtain rfl:=Option.some.inj h2;have hin:(j:Int)<l.length:=by omega
  have hl:=zaD r5;have hy1:=hl.2.1;have hy2:=hl.2.2;obtain⟨w3,hw3,hb3,hx3⟩:=zai w1 #[.int .i64 y.kind,.string y.text,.int .i64 y.n,.int .i64 y.at',.slice A' y.kids.length c'] 25;have q4:w3.cell? ⟨w1.heap.size,4,none⟩=some (.slice A' y.kids.length c'):=hx3.cell 4;have HZ3:=zz (z1.below hb3);have HX3:=zz hx3;have KL:=zz (zcC y.kids A' c' w3 (r5.belows hb3));have hle:=zhj y.kids;obtain⟨m,hm2⟩:∃m,(zaL y.kids).length=m:=⟨_,rfl⟩;rw[hm2] at KL hle ⊢;obtain⟨p,hp⟩:∃p:Option (Int × Int),(if 0<m then some (7,y.at') else none)=p:=⟨_,rfl⟩;rw[hp];have HP:=zz hp;clear hp;clear z1 d1 hd h hl hb3 hx3 r5 h2 h3 h4 hm hm2 hget hlb;go_enter Tryz.func38,Tryz.ntmps38;go_wp2_with fail;(with_reducible refine KL.out.mono ?_);rintro e w4 ⟨rfl,hb4⟩;have Z4:=zz (HZ3.out.below hb4);have v3:w4.cell? ⟨w1.heap.size,3,none⟩=some (.int .i64 y.at'):=(zaa hb4 HX3.out).cell 3;have y0:=Z4.out.res.cell 0;have y1:=Z4.out.res.cell 1;have yz:=Z4.out.res.fz;clear hb4 q4 hw3 h1 x0 x2 hlk
  by_cases hm0:0<m
  ·have g1:decide (0<m)=true:=decide_eq_true hm0;have HP2:Hid (some (7,y.at')=p):=zz (by rw[←HP.out,if_pos hm0]);clear HP hm0;go_wp2_with fail;exact zjp (by rfl) 7 y.at' Z4.out HP2.out (by rfl) (by rfl) rfl
  ·have g1:decide (0<m)=false:=decide_eq_false hm0;have HP2:Hid (none=p):=zz (by rw[←HP.out,if_neg hm0]);clear HP hm0;go_wp2_with fail
   first
    |exact zix (by rfl) Z4.out HP2.out (by rfl) (by rfl) rfl
    |exact zgp (by rfl) Z4.out HP2.out (by rfl) (by rfl) rfl
 ·rw[znp h3];rw[h4] at hlk;obtain⟨g,hg⟩:∃g,mget (.int .i64 0) (acM l 0) (⟨#[77,97,105,110]⟩:ByteArray)=g:=⟨_,rfl⟩;rw[hg] at hlk;have y0:=z1.res.cell 0;have y1:=z1.res.cell 1;have yz:=z1.res.fz;clear z1 d1 hd h h3 h4 hg;go_enter Tryz.func38,Tryz.ntmps38;go_wp2_with fail;exact zjp (by rfl) 5 0 HZ.out rfl (by rfl) (by rfl) rfl
end Go.Proofs.YtjdpocmlimkjjaaGreat
