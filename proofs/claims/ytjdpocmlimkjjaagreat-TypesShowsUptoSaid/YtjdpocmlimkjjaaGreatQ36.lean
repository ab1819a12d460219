/- Conditions: those in each statement. -/
import Derived.Test.YtjdpocmlimkjjaaGreatQ35
import Derived.Lib.QuietBelow
import Derived.Deep.RegionLaw
import Derived.BigQuiet
set_option maxHeartbeats 32000000
set_option maxRecDepth 100000
namespace Go.Proofs.YtjdpocmlimkjjaaGreat
open Go.RowKit Go.Sort
theorem FsAt.mono {w W:World} {d:Int} {gs:List (Nd→Bool)} {b:Nat} {vs:List Value} (h:FsAt w d gs b vs) (k:Below w.heap.size w W):FsAt W d gs b vs:=
 ⟨h.len,zaa k h.box,λi V g h1 h2=>(h.shp i V g h1 h2).mono k⟩
theorem zmx (f:Nat) (d:Int) (hd:(f:Int)+1+d=41) (hd0:0≤d) (VL:Value) (gl:Nd→Bool) (kd:Int) (tx:ByteArray) (nn at':Int) (l:List Nd) (A:Option Addr) (c:Nat) (ht:tx.size≤32768) (hf:fitL l=true) (w:World) (S:Shp w VL (d+1) gl) (h:Rd (Lt w.heap.size) w (ns l) (.slice A l.length c)) :
 Calls Tryz.prog 140 #[nd5 kd tx nn at' l A c,.int .i64 d,VL] w λe w'=>e=.returned (.bool (znB f (.mk kd tx nn at' l) gl))∧Below w.heap.size w w':=by
 have hl:=zaD h;have hn:l.length≤9223372036854775807:=Nat.le_trans hl.2.1 hl.2.2;have B0r:=BxN.new (w:=w) (kd:=kd) (tx:=tx) (nn:=nn) (at':=at') h;obtain⟨w0,hw⟩:∃W,w.alloc (.cells #[.int .i64 kd,.string tx,.int .i64 nn,.int .i64 at',.slice A l.length c] 25)=W:=⟨_,rfl⟩;rw[hw] at B0r;have B0:=zz B0r;clear B0r;have HF:=zz hf;have HT:=zz ht;obtain⟨x0,x1,x2,x3,x4⟩:=B0.out.cs;clear h hl hf ht;have HS:=zz S;obtain⟨KL,capL,hVL,_⟩:=S;subst hVL;have hdm:d≤40:=by omega
 have hwd:IntKind.i64.wrap (d+1)=d+1:=IntWalk.i64_in _ (by omega);have HE:Hid (znB f (.mk kd tx nn at' l) gl=(!(decide (tx=(⟨#[95]⟩:ByteArray))&&decide (l.length≠1))&&zav zdG (.mk kd tx nn at' l)&&zcg l (zhH f 40 zdM) [gl])):=zz rfl
 by_cases hu:tx=(⟨#[95]⟩:ByteArray)
 ·have eu:(tx.toList == [95])=true:=zex hu;rw[decide_eq_true hu] at HE;clear hu
  by_cases h1:l.length=1
  ·have e1:((l.length:Int) != 1)=false:=by simp[h1]
   have e2:((l.length:Int) == 1)=true:=by simp[h1]
   rw[decide_eq_false (by omega)] at HE;clear h1;cases hq:zav zdG (.mk kd tx nn at' l) with
   |false=>
    rw[hq] at HE;have K0:Hid (∀d os,Calls Tryz.prog 83 _ (grow (redrawn w0 d) os) λe w'=>e=.returned (.bool false)∧∃p:Regrown,w'=grow (redrawn w0 p.d) p.os):=zz (λd os=>Calls.regrown_of (by have:=zal zfP kd tx nn at' l A c HT.out (grow (redrawn w0 d) os);rw[hq] at this;exact this));clear hq;go_enter Tryz.func140,Tryz.ntmps140;go_wp2_with fail;have o0:=λd os=>cell_regrown x0 d os;have o1:=λd os=>cell_regrown x1 d os;have o2:=λd os=>cell_regrown x2 d os;have o3:=λd os=>cell_regrown x3 d os;have o4:=λd os=>cell_regrown x4 d os;refine wp_region_quiet_below (by kernel_rfl) (by kernel_rfl) ?_
    repeat (go_big_quiet_step (first|with_reducible exact K0.out _ _))
    refine wpQuiet_nil ?_;intro _ hw';obtain⟨⟨dq,osq⟩,hw''⟩:=hw';subst hw'';have BL:=zz (zab B0.out.low (below_regrown w0 dq osq) B0.out.low.size);go_wp2_with fail;go_ret;exact⟨by rw[HE.out];rfl,BL.out⟩
   |true=>
    have KC:=zz (λW=>zal zfP kd tx nn at' l A c HT.out W);simp only[hq] at KC;rw[hq] at HE;clear hq;go_enter Tryz.func140,Tryz.ntmps140;go_wp2_with fail
    go_region_held3 (λw'=>w'.cell? ⟨w.heap.size,0,none⟩=some (.int .i64 kd)∧w'.cell? ⟨w.heap.size,1,none⟩=some (.string tx)∧w'.cell? ⟨w.heap.size,2,none⟩=some (.int .i64 nn)∧w'.cell? ⟨w.heap.size,3,none⟩=some (.int .i64 at')∧w'.cell? ⟨w.heap.size,4,none⟩=some (.slice A l.length c))
     (go_keep)
     (first
      |(go_at_call 83;go_loud ((with_reducible refine(KC.out _).mono ?_);rintro e w1 ⟨rfl,hb⟩;have B1:=zz ((BxN.drew B0.out).below hb);clear hb;clear x0 x1 x2 x3 x4;clear hw;have x0:w1.cell? ⟨w.heap.size,0,none⟩=some (.int .i64 kd):=B1.out.c0;have x1:w1.cell? ⟨w.heap.size,1,none⟩=some (.string tx):=B1.out.c1;have x2:w1.cell? ⟨w.heap.size,2,none⟩=some (.int .i64 nn):=B1.out.c2;have x3:w1.cell? ⟨w.heap.size,3,none⟩=some (.int .i64 at'):=B1.out.c3;have x4:w1.cell? ⟨w.heap.size,4,none⟩=some (.slice A l.length c):=B1.out.c4))
      |(go_at_call 93;go_loud ((with_reducible refine(zfe zdP f (d+1) 40 (by omega) w1).mono ?_);rintro e w2 ⟨V,rfl,hV,hb⟩;have B2:=zz (B1.out.below hb);have HV:=zz hV;have FS:=FsAt.new1 (w:=w2) (HS.out.mono B2.out.low);have KE:=zz (zcP _ (d+1) V _ (HV.out.mono (zag w2 (.cells #[.func (.func KL) #[] capL] 150))) [gl] w2.heap.size _ FS 1 rfl (by omega) (by omega) l A c HF.out (B2.out.below (zag _ _)).rd);have B3:=zz (B2.out.below (zag w2 (.cells #[.func (.func KL) #[] capL] 150)));clear hb hV FS;clear x0 x1 x2 x3 x4;have x0:w2.cell? ⟨w.heap.size,0,none⟩=some (.int .i64 kd):=B2.out.c0;have x1:w2.cell? ⟨w.heap.size,1,none⟩=some (.string tx):=B2.out.c1;have x2:w2.cell? ⟨w.heap.size,2,none⟩=some (.int .i64 nn):=B2.out.c2;have x3:w2.cell? ⟨w.heap.size,3,none⟩=some (.int .i64 at'):=B2.out.c3;have x4:w2.cell? ⟨w.heap.size,4,none⟩=some (.slice A l.length c):=B2.out.c4))
      |(go_at_call 93;go_loud ((with_reducible refine(zfe zdP f (d+1) 40 (by omega) (w1.alloc (.cells #[.func (.func KL) #[] capL] 150))).mono ?_);rintro e w2 ⟨V,rfl,hV,hb⟩;have B2:=zz ((B1.out.below (zag w1 (.cells #[.func (.func KL) #[] capL] 150))).below hb);have HV:=zz hV;have FS:=(FsAt.new1 (w:=w1) (HS.out.mono B1.out.low)).mono hb;have KE:=zz (zcP w2 (d+1) V _ HV.out [gl] w1.heap.size _ FS 1 rfl (by omega) (by omega) l A c HF.out B2.out.rd);have B3:=B2;clear hb hV FS;clear x0 x1 x2 x3 x4;have x0:w2.cell? ⟨w.heap.size,0,none⟩=some (.int .i64 kd):=B2.out.c0;have x1:w2.cell? ⟨w.heap.size,1,none⟩=some (.string tx):=B2.out.c1;have x2:w2.cell? ⟨w.heap.size,2,none⟩=some (.int .i64 nn):=B2.out.c2;have x3:w2.cell? ⟨w.heap.size,3,none⟩=some (.int .i64 at'):=B2.out.c3;have x4:w2.cell? ⟨w.heap.size,4,none⟩=some (.slice A l.length c):=B2.out.c4))
      |(go_at_call 89;go_loud ((with_reducible refine KE.out.mono ?_);rintro e w4 ⟨rfl,hb⟩;have B4:=zz (B3.out.below hb);clear hb;clear x0 x1 x2 x3 x4;have x0:w4.cell? ⟨w.heap.size,0,none⟩=some (.int .i64 kd):=B4.out.c0;have x1:w4.cell? ⟨w.heap.size,1,none⟩=some (.string tx):=B4.out.c1;have x2:w4.cell? ⟨w.heap.size,2,none⟩=some (.int .i64 nn):=B4.out.c2;have x3:w4.cell? ⟨w.heap.size,3,none⟩=some (.int .i64 at'):=B4.out.c3;have x4:w4.cell? ⟨w.heap.size,4,none⟩=some (.slice A l.length c):=B4.out.c4)))
    all_goals
     go_wp2_with fail;go_ret;exact⟨by rw[HE.out];rfl,B4.out.low⟩
  ·have e1:((l.length:Int) != 1)=true:=by simp;omega
   have e2:((l.length:Int) == 1)=false:=by simp;omega
   rw[decide_eq_true h1] at HE;clear h1;go_enter Tryz.func140,Tryz.ntmps140;go_wp2_with fail;go_ret;exact⟨by rw[HE.out];rfl,B0.out.low⟩
 ·have eu:(tx.toList == [95])=false:=zam hu;rw[decide_eq_false hu] at HE;clear hu;cases hq:zav zdG (.mk kd tx nn at' l) with
  |false=>
   rw[hq] at HE;have K0:Hid (∀d os,Calls Tryz.prog 83 _ (grow (redrawn w0 d) os) λe w'=>e=.returned (.bool false)∧∃p:Regrown,w'=grow (redrawn w0 p.d) p.os):=zz (λd os=>Calls.regrown_of (by have:=zal zfP kd tx nn at' l A c HT.out (grow (redrawn w0 d) os);rw[hq] at this;exact this));clear hq;go_enter Tryz.func140,Tryz.ntmps140;go_wp2_with fail;have o0:=λd os=>cell_regrown x0 d os;have o1:=λd os=>cell_regrown x1 d os;have o2:=λd os=>cell_regrown x2 d os;have o3:=λd os=>cell_regrown x3 d os;have o4:=λd os=>cell_regrown x4 d os;refine wp_region_quiet_below (by kernel_rfl) (by kernel_rfl) ?_
   repeat (go_big_quiet_step (first|with_reducible exact K0.out _ _))
   refine wpQuiet_nil ?_;intro _ hw';obtain⟨⟨dq,osq⟩,hw''⟩:=hw';subst hw'';have BL:=zz (zab B0.out.low (below_regrown w0 dq osq) B0.out.low.size);go_wp2_with fail;go_ret;exact⟨by rw[HE.out];rfl,BL.out⟩
  |true=>
   have KC:=zz (λW=>zal zfP kd tx nn at' l A c HT.out W);simp only[hq] at KC;rw[hq] at HE;clear hq;go_enter Tryz.func140,Tryz.ntmps140;go_wp2_with fail
   go_region_held3 (λw'=>w'.cell? ⟨w.heap.size,0,none⟩=some (.int .i64 kd)∧w'.cell? ⟨w.heap.size,1,none⟩=some (.string tx)∧w'.cell? ⟨w.heap.size,2,none⟩=some (.int .i64 nn)∧w'.cell? ⟨w.heap.size,3,none⟩=some (.int .i64 at')∧w'.cell? ⟨w.heap.size,4,none⟩=some (.slice A l.length c))
    (go_keep)
    (first
     |(go_at_call 83;go_loud ((with_reducible refine(KC.out _).mono ?_);rintro e w1 ⟨rfl,hb⟩;have B1:=zz ((BxN.drew B0.out).below hb);clear hb;clear x0 x1 x2 x3 x4;clear hw;have x0:w1.cell? ⟨w.heap.size,0,none⟩=some (.int .i64 kd):=B1.out.c0;have x1:w1.cell? ⟨w.heap.size,1,none⟩=some (.string tx):=B1.out.c1;have x2:w1.cell? ⟨w.heap.size,2,none⟩=some (.int .i64 nn):=B1.out.c2;have x3:w1.cell? ⟨w.heap.size,3,none⟩=some (.int .i64 at'):=B1.out.c3;have x4:w1.cell? ⟨w.heap.size,4,none⟩=some (.slice A l.length c):=B1.out.c4))
     |(go_at_call 93;go_loud ((with_reducible refine(zfe zdP f (d+1) 40 (by omega) w1).mono ?_);rintro e w2 ⟨V,rfl,hV,hb⟩;have B2:=zz (B1.out.below hb);have HV:=zz hV;have FS:=FsAt.new1 (w:=w2) (HS.out.mono B2.out.low);have KE:=zz (zcP _ (d+1) V _ (HV.out.mono (zag w2 (.cells #[.func (.func KL) #[] capL] 150))) [gl] w2.heap.size _ FS 1 rfl (by omega) (by omega) l A c HF.out (B2.out.below (zag _ _)).rd);have B3:=zz (B2.out.below (zag w2 (.cells #[.func (.func KL) #[] capL] 150)));clear hb hV FS;clear x0 x1 x2 x3 x4;have x0:w2.cell? ⟨w.heap.size,0,none⟩=some (.int .i64 kd):=B2.out.c0;have x1:w2.cell? ⟨w.heap.size,1,none⟩=some (.string tx):=B2.out.c1;have x2:w2.cell? ⟨w.heap.size,2,none⟩=some (.int .i64 nn):=B2.out.c2;have x3:w2.cell? ⟨w.heap.size,3,none⟩=some (.int .i64 at'):=B2.out.c3;have x4:w2.cell? ⟨w.heap.size,4,none⟩=some (.slice A l.length c):=B2.out.c4))
     |(go_at_call 93;go_loud ((with_reducible refine(zfe zdP f (d+1) 40 (by omega) (w1.alloc (.cells #[.func (.func KL) #[] capL] 150))).mono ?_);rintro e w2 ⟨V,rfl,hV,hb⟩;have B2:=zz ((B1.out.below (zag w1 (.cells #[.func (.func KL) #[] capL] 150))).below hb);have HV:=zz hV;have FS:=(FsAt.new1 (w:=w1) (HS.out.mono B1.out.low)).mono hb;have KE:=zz (zcP w2 (d+1) V _ HV.out [gl] w1.heap.size _ FS 1 rfl (by omega) (by omega) l A c HF.out B2.out.rd);have B3:=B2;clear hb hV FS;clear x0 x1 x2 x3 x4;have x0:w2.cell? ⟨w.heap.size,0,none⟩=some (.int .i64 kd):=B2.out.c0;have x1:w2.cell? ⟨w.heap.size,1,none⟩=some (.string tx):=B2.out.c1;have x2:w2.cell? ⟨w.heap.size,2,none⟩=some (.int .i64 nn):=B2.out.c2;have x3:w2.cell? ⟨w.heap.size,3,none⟩=some (.int .i64 at'):=B2.out.c3;have x4:w2.cell? ⟨w.heap.size,4,none⟩=some (.slice A l.length c):=B2.out.c4))
     |(go_at_call 89;go_loud ((with_reducible refine KE.out.mono ?_);rintro e w4 ⟨rfl,hb⟩;have B4:=zz (B3.out.below hb);clear hb;clear x0 x1 x2 x3 x4;have x0:w4.cell? ⟨w.heap.size,0,none⟩=some (.int .i64 kd):=B4.out.c0;have x1:w4.cell? ⟨w.heap.size,1,none⟩=some (.string tx):=B4.out.c1;have x2:w4.cell? ⟨w.heap.size,2,none⟩=some (.int .i64 nn):=B4.out.c2;have x3:w4.cell? ⟨w.heap.size,3,none⟩=some (.int .i64 at'):=B4.out.c3;have x4:w4.cell? ⟨w.heap.size,4,none⟩=some (.slice A l.length c):=B4.out.c4)))
   all_goals
    go_wp2_with fail;go_ret;exact⟨by rw[HE.out];rfl,B4.out.low⟩
theorem zph (f:Nat) (d:Int) (hd:(f:Int)+1+d=41) (hd0:0≤d) (IH:∀st,ShpC (fnR st) (d+1) (zad f st)) (kd:Int) (tx:ByteArray) (nn at':Int) (l:List Nd) (A:Option Addr) (c:Nat) (ht:tx.size≤32768) (hf:fitL l=true) (w:World) (h:Rd (Lt w.heap.size) w (ns l) (.slice A l.length c)) :
 Calls Tryz.prog 130 #[nd5 kd tx nn at' l A c,.int .i64 d] w λe w'=>e=.returned (.bool (armD (zad f) f (.mk kd tx nn at' l)))∧Below w.heap.size w w':=by
 have hl:=zaD h;have hn:l.length≤9223372036854775807:=Nat.le_trans hl.2.1 hl.2.2;have B0r:=BxN.new (w:=w) (kd:=kd) (tx:=tx) (nn:=nn) (at':=at') h;obtain⟨w0,hw⟩:∃W,w.alloc (.cells #[.int .i64 kd,.string tx,.int .i64 nn,.int .i64 at',.slice A l.length c] 25)=W:=⟨_,rfl⟩;rw[hw] at B0r;have B0:=zz B0r;clear B0r;have HF:=zz hf;have HT:=zz ht;obtain⟨x0,x1,x2,x3,x4⟩:=B0.out.cs;clear h hl hf ht;have hdm:d≤40:=by omega
 have hdm2:¬(40:Int)<d:=by omega
 have hwd:IntKind.i64.wrap (d+1)=d+1:=IntWalk.i64_in _ (by omega);have HI:=zz IH;clear IH
 by_cases hk39:kd=39
 ·subst hk39;have HE:Hid (armD (zad f) f (.mk 39 tx nn at' l)=(true&&znB f (.mk 39 tx nn at' l) (zad f .expr))):=zz rfl;go_enter Tryz.func130,Tryz.ntmps130;have KC:=zz (zmx f d hd hd0 _ _ 39 tx nn at' l A c HT.out HF.out w0 (show Shp w0 (.func (.func 91) #[] #[]) (d+1) (zad f .expr) from (HI.out .expr).shp (cfR .expr) w0) B0.out.rd);go_wp2_with fail;(with_reducible refine KC.out.mono ?_);rintro e w1_ ⟨rfl,hb⟩;have B1_:=zz (B0.out.below hb);clear hb B0 KC x0 x1 x2 x3 x4 hw;obtain⟨x0,x1,x2,x3,x4⟩:=B1_.out.cs;go_wp2_with fail;go_ret;exact⟨by rw[HE.out];rfl,B1_.out.low⟩
 have HE:Hid (armD (zad f) f (.mk kd tx nn at' l)=false):=zz (by simp[armD,Nd.kind,hk39]);have ek39:(kd == 39)=false:=by simp[hk39]
 clear hk39;go_enter Tryz.func130,Tryz.ntmps130;go_wp2_with fail;go_ret;exact⟨by rw[HE.out];rfl,B0.out.low⟩
theorem znn (f:Nat) (d:Int) (hd:(f:Int)+1+d=41) (hd0:0≤d) (IH:∀st,ShpC (fnR st) (d+1) (zad f st)) (kd:Int) (tx:ByteArray) (nn at':Int) (l:List Nd) (A:Option Addr) (c:Nat) (ht:tx.size≤32768) (hf:fitL l=true) (w:World) (h:Rd (Lt w.heap.size) w (ns l) (.slice A l.length c)) :
 Calls Tryz.prog 148 #[nd5 kd tx nn at' l A c,.int .i64 d] w λe w'=>e=.returned (.bool (zoO (zad f) f (.mk kd tx nn at' l)))∧Below w.heap.size w w':=by
 have hl:=zaD h;have hn:l.length≤9223372036854775807:=Nat.le_trans hl.2.1 hl.2.2;have B0r:=BxN.new (w:=w) (kd:=kd) (tx:=tx) (nn:=nn) (at':=at') h;obtain⟨w0,hw⟩:∃W,w.alloc (.cells #[.int .i64 kd,.string tx,.int .i64 nn,.int .i64 at',.slice A l.length c] 25)=W:=⟨_,rfl⟩;rw[hw] at B0r;have B0:=zz B0r;clear B0r;have HF:=zz hf;have HT:=zz ht;obtain⟨x0,x1,x2,x3,x4⟩:=B0.out.cs;clear h hl hf ht;have hdm:d≤40:=by omega
 have hdm2:¬(40:Int)<d:=by omega
 have hwd:IntKind.i64.wrap (d+1)=d+1:=IntWalk.i64_in _ (by omega);have HI:=zz IH;clear IH
 by_cases hk54:kd=54
 ·subst hk54;have HE:Hid (zoO (zad f) f (.mk 54 tx nn at' l)=(true&&znB f (.mk 54 tx nn at' l) (zad f .block))):=zz rfl;go_enter Tryz.func148,Tryz.ntmps148;have KC:=zz (zmx f d hd hd0 _ _ 54 tx nn at' l A c HT.out HF.out w0 (show Shp w0 (.func (.func 131) #[] #[]) (d+1) (zad f .block) from (HI.out .block).shp (cfR .block) w0) B0.out.rd);go_wp2_with fail;(with_reducible refine KC.out.mono ?_);rintro e w1_ ⟨rfl,hb⟩;have B1_:=zz (B0.out.below hb);clear hb B0 KC x0 x1 x2 x3 x4 hw;obtain⟨x0,x1,x2,x3,x4⟩:=B1_.out.cs;go_wp2_with fail;go_ret;exact⟨by rw[HE.out];rfl,B1_.out.low⟩
 have HE:Hid (zoO (zad f) f (.mk kd tx nn at' l)=false):=zz (by simp[zoO,Nd.kind,hk54]);have ek54:(kd == 54)=false:=by simp[hk54]
 clear hk54;go_enter Tryz.func148,Tryz.ntmps148;go_wp2_with fail;go_ret;exact⟨by rw[HE.out];rfl,B0.out.low⟩
theorem znV (f:Nat) (d:Int) (hd:(f:Int)+1+d=41) (hd0:0≤d) (IH:∀st,ShpC (fnR st) (d+1) (zad f st)) (kd:Int) (tx:ByteArray) (nn at':Int) (l:List Nd) (A:Option Addr) (c:Nat) (ht:tx.size≤32768) (hf:fitL l=true) (w:World) (h:Rd (Lt w.heap.size) w (ns l) (.slice A l.length c)) :
 Calls Tryz.prog 141 #[nd5 kd tx nn at' l A c,.int .i64 d] w λe w'=>e=.returned (.bool (zgb (zad f) f (.mk kd tx nn at' l)))∧Below w.heap.size w w':=by
 have hl:=zaD h;have hn:l.length≤9223372036854775807:=Nat.le_trans hl.2.1 hl.2.2;have B0r:=BxN.new (w:=w) (kd:=kd) (tx:=tx) (nn:=nn) (at':=at') h;obtain⟨w0,hw⟩:∃W,w.alloc (.cells #[.int .i64 kd,.string tx,.int .i64 nn,.int .i64 at',.slice A l.length c] 25)=W:=⟨_,rfl⟩;rw[hw] at B0r;have B0:=zz B0r;clear B0r;have HF:=zz hf;have HT:=zz ht;obtain⟨x0,x1,x2,x3,x4⟩:=B0.out.cs;clear h hl hf ht;have hdm:d≤40:=by omega
 have hdm2:¬(40:Int)<d:=by omega
 have hwd:IntKind.i64.wrap (d+1)=d+1:=IntWalk.i64_in _ (by omega);have HI:=zz IH;clear IH
 by_cases hk50:kd=50
 ·subst hk50;have HE:Hid (zgb (zad f) f (.mk 50 tx nn at' l)=(zav zaH (.mk 50 tx nn at' l)&&zaA l [zad f .expr])):=zz rfl;go_enter Tryz.func141,Tryz.ntmps141;cases hq:zav zaH (.mk 50 tx nn at' l) with
  |false=>
   have KC:=zz (zal zbi 50 tx nn at' l A c HT.out w0);rw[hq] at KC HE;clear hq;go_wp2_with fail;(with_reducible refine KC.out.mono ?_);rintro e w1_ ⟨rfl,hb⟩;have B1_:=zz (B0.out.below hb);clear hb B0 KC x0 x1 x2 x3 x4 hw;obtain⟨x0,x1,x2,x3,x4⟩:=B1_.out.cs;go_wp2_with fail;go_ret;exact⟨by rw[HE.out];rfl,B1_.out.low⟩
  |true=>
   have KC:=zz (zal zbi 50 tx nn at' l A c HT.out w0);rw[hq] at KC HE;clear hq;go_wp2_with fail;(with_reducible refine KC.out.mono ?_);rintro e w1_ ⟨rfl,hb⟩;have B1_:=zz (B0.out.below hb);clear hb B0 KC x0 x1 x2 x3 x4 hw;obtain⟨x0,x1,x2,x3,x4⟩:=B1_.out.cs;have S1:Shp w1_ (.func (.func 91) #[] #[]) (d+1) (zad f .expr):=(HI.out .expr).shp (cfR .expr) w1_;have FS:=FsAt.new1 S1;obtain⟨w2_,hw2_⟩:∃W,w1_.alloc (.cells #[.func (.func 91) #[] #[]] 150)=W:=⟨_,rfl⟩;rw[hw2_] at FS;have B2_:=zz (B1_.out.below (show Below w1_.heap.size w1_ w2_ from by rw[←hw2_];exact zag _ _));have KC:=zz (zaW w2_ (d+1) _ w1_.heap.size _ FS 1 rfl (by omega) l A c HF.out B2_.out.rd);clear FS S1;clear B1_;go_wp2_with fail;(with_reducible refine KC.out.mono ?_);rintro e w3_ ⟨rfl,hb⟩;have B3_:=zz (B2_.out.below hb);clear hb B2_ KC x0 x1 x2 x3 x4 hw2_;obtain⟨x0,x1,x2,x3,x4⟩:=B3_.out.cs;go_wp2_with fail;go_ret;exact⟨by rw[HE.out];rfl,B3_.out.low⟩
 by_cases hk51:kd=51
 ·subst hk51;have HE:Hid (zgb (zad f) f (.mk 51 tx nn at' l)=(zav zaH (.mk 51 tx nn at' l)&&zaA l [zad f .expr])):=zz rfl;go_enter Tryz.func141,Tryz.ntmps141;cases hq:zav zaH (.mk 51 tx nn at' l) with
  |false=>
   have KC:=zz (zal zbi 51 tx nn at' l A c HT.out w0);rw[hq] at KC HE;clear hq;go_wp2_with fail;(with_reducible refine KC.out.mono ?_);rintro e w1_ ⟨rfl,hb⟩;have B1_:=zz (B0.out.below hb);clear hb B0 KC x0 x1 x2 x3 x4 hw;obtain⟨x0,x1,x2,x3,x4⟩:=B1_.out.cs;go_wp2_with fail;go_ret;exact⟨by rw[HE.out];rfl,B1_.out.low⟩
  |true=>
   have KC:=zz (zal zbi 51 tx nn at' l A c HT.out w0);rw[hq] at KC HE;clear hq;go_wp2_with fail;(with_reducible refine KC.out.mono ?_);rintro e w1_ ⟨rfl,hb⟩;have B1_:=zz (B0.out.below hb);clear hb B0 KC x0 x1 x2 x3 x4 hw;obtain⟨x0,x1,x2,x3,x4⟩:=B1_.out.cs;have S1:Shp w1_ (.func (.func 91) #[] #[]) (d+1) (zad f .expr):=(HI.out .expr).shp (cfR .expr) w1_;have FS:=FsAt.new1 S1;obtain⟨w2_,hw2_⟩:∃W,w1_.alloc (.cells #[.func (.func 91) #[] #[]] 150)=W:=⟨_,rfl⟩;rw[hw2_] at FS;have B2_:=zz (B1_.out.below (show Below w1_.heap.size w1_ w2_ from by rw[←hw2_];exact zag _ _));have KC:=zz (zaW w2_ (d+1) _ w1_.heap.size _ FS 1 rfl (by omega) l A c HF.out B2_.out.rd);clear FS S1;clear B1_;go_wp2_with fail;(with_reducible refine KC.out.mono ?_);rintro e w3_ ⟨rfl,hb⟩;have B3_:=zz (B2_.out.below hb);clear hb B2_ KC x0 x1 x2 x3 x4 hw2_;obtain⟨x0,x1,x2,x3,x4⟩:=B3_.out.cs;go_wp2_with fail;go_ret;exact⟨by rw[HE.out];rfl,B3_.out.low⟩
 by_cases hk52:kd=52
 ·subst hk52;have HE:Hid (zgb (zad f) f (.mk 52 tx nn at' l)=(zbf (.mk 52 tx nn at' l)&&(zaA l [zad f .expr,zad f .block] || zaA l [zad f .expr,zad f .block,zad f .block]))):=zz rfl;go_enter Tryz.func141,Tryz.ntmps141;cases hq:zbf (.mk 52 tx nn at' l) with
  |false=>
   have KC:=zz (zaG 52 tx nn at' l A c w0);rw[hq] at KC HE;clear hq;go_wp2_with fail;(with_reducible refine KC.out.mono ?_);rintro e w1_ ⟨rfl,hb⟩;have B1_:=zz (B0.out.below hb);clear hb B0 KC x0 x1 x2 x3 x4 hw;obtain⟨x0,x1,x2,x3,x4⟩:=B1_.out.cs;go_wp2_with fail;go_ret;exact⟨by rw[HE.out];rfl,B1_.out.low⟩
  |true=>
   have KC:=zz (zaG 52 tx nn at' l A c w0);rw[hq] at KC HE;clear hq;go_wp2_with fail;(with_reducible refine KC.out.mono ?_);rintro e w1_ ⟨rfl,hb⟩;have B1_:=zz (B0.out.below hb);clear hb B0 KC x0 x1 x2 x3 x4 hw;obtain⟨x0,x1,x2,x3,x4⟩:=B1_.out.cs;cases hq:zaA l [zad f .expr,zad f .block] with
   |true=>
    have S1:Shp w1_ (.func (.func 91) #[] #[]) (d+1) (zad f .expr):=(HI.out .expr).shp (cfR .expr) w1_;have S2:Shp w1_ (.func (.func 131) #[] #[]) (d+1) (zad f .block):=(HI.out .block).shp (cfR .block) w1_;have FS:=FsAt.new2 S1 S2;obtain⟨w2_,hw2_⟩:∃W,w1_.alloc (.cells #[.func (.func 91) #[] #[],.func (.func 131) #[] #[]] 150)=W:=⟨_,rfl⟩;rw[hw2_] at FS;have B2_:=zz (B1_.out.below (show Below w1_.heap.size w1_ w2_ from by rw[←hw2_];exact zag _ _));have KC:=zz (zaW w2_ (d+1) _ w1_.heap.size _ FS 2 rfl (by omega) l A c HF.out B2_.out.rd);clear FS S1 S2;clear B1_;rw[hq] at KC HE;clear hq;go_wp2_with fail;(with_reducible refine KC.out.mono ?_);rintro e w3_ ⟨rfl,hb⟩;have B3_:=zz (B2_.out.below hb);clear hb B2_ KC x0 x1 x2 x3 x4 hw2_;obtain⟨x0,x1,x2,x3,x4⟩:=B3_.out.cs;go_wp2_with fail;go_ret;exact⟨by rw[HE.out];rfl,B3_.out.low⟩
   |false=>
    have S1:Shp w1_ (.func (.func 91) #[] #[]) (d+1) (zad f .expr):=(HI.out .expr).shp (cfR .expr) w1_;have S2:Shp w1_ (.func (.func 131) #[] #[]) (d+1) (zad f .block):=(HI.out .block).shp (cfR .block) w1_;have FS:=FsAt.new2 S1 S2;obtain⟨w2_,hw2_⟩:∃W,w1_.alloc (.cells #[.func (.func 91) #[] #[],.func (.func 131) #[] #[]] 150)=W:=⟨_,rfl⟩;rw[hw2_] at FS;have B2_:=zz (B1_.out.below (show Below w1_.heap.size w1_ w2_ from by rw[←hw2_];exact zag _ _));have KC:=zz (zaW w2_ (d+1) _ w1_.heap.size _ FS 2 rfl (by omega) l A c HF.out B2_.out.rd);clear FS S1 S2;clear B1_;rw[hq] at KC HE;clear hq;go_wp2_with fail;(with_reducible refine KC.out.mono ?_);rintro e w3_ ⟨rfl,hb⟩;have B3_:=zz (B2_.out.below hb);clear hb B2_ KC x0 x1 x2 x3 x4 hw2_;obtain⟨x0,x1,x2,x3,x4⟩:=B3_.out.cs;have S1:Shp w3_ (.func (.func 91) #[] #[]) (d+1) (zad f .expr):=(HI.out .expr).shp (cfR .expr) w3_;have S2:Shp w3_ (.func (.func 131) #[] #[]) (d+1) (zad f .block):=(HI.out .block).shp (cfR .block) w3_;have S3:Shp w3_ (.func (.func 131) #[] #[]) (d+1) (zad f .block):=(HI.out .block).shp (cfR .block) w3_;have FS:=FsAt.new3 S1 S2 S3;obtain⟨w4_,hw4_⟩:∃W,w3_.alloc (.cells #[.func (.func 91) #[] #[],.func (.func 131) #[] #[],.func (.func 131) #[] #[]] 150)=W:=⟨_,rfl⟩;rw[hw4_] at FS;have B4_:=zz (B3_.out.below (show Below w3_.heap.size w3_ w4_ from by rw[←hw4_];exact zag _ _));have KC:=zz (zaW w4_ (d+1) _ w3_.heap.size _ FS 3 rfl (by omega) l A c HF.out B4_.out.rd);clear FS S1 S2 S3;clear B3_;go_wp2_with fail;(with_reducible refine KC.out.mono ?_);rintro e w5_ ⟨rfl,hb⟩;have B5_:=zz (B4_.out.below hb);clear hb B4_ KC x0 x1 x2 x3 x4 hw4_;obtain⟨x0,x1,x2,x3,x4⟩:=B5_.out.cs;go_wp2_with fail;go_ret;exact⟨by rw[HE.out];rfl,B5_.out.low⟩
 by_cases hk53:kd=53
 ·subst hk53;have HE:Hid (zgb (zad f) f (.mk 53 tx nn at' l)=(zbf (.mk 53 tx nn at' l)&&decide (1<l.length)&&zef l (zad f .expr) (zad f .sarm))):=zz rfl;go_enter Tryz.func141,Tryz.ntmps141;cases hq:zbf (.mk 53 tx nn at' l) with
  |false=>
   have KC:=zz (zaG 53 tx nn at' l A c w0);rw[hq] at KC HE;clear hq;go_wp2_with fail;(with_reducible refine KC.out.mono ?_);rintro e w1_ ⟨rfl,hb⟩;have B1_:=zz (B0.out.below hb);clear hb B0 KC x0 x1 x2 x3 x4 hw;obtain⟨x0,x1,x2,x3,x4⟩:=B1_.out.cs;go_wp2_with fail;go_ret;exact⟨by rw[HE.out];rfl,B1_.out.low⟩
  |true=>
   have KC:=zz (zaG 53 tx nn at' l A c w0);rw[hq] at KC HE;clear hq;go_wp2_with fail;(with_reducible refine KC.out.mono ?_);rintro e w1_ ⟨rfl,hb⟩;have B1_:=zz (B0.out.below hb);clear hb B0 KC x0 x1 x2 x3 x4 hw;obtain⟨x0,x1,x2,x3,x4⟩:=B1_.out.cs
   by_cases hq:¬(1<l.length)
   ·rw[decide_eq_false hq] at HE;have e1_0:¬(1:Int)<(l.length:Int):=by omega
    clear hq;go_wp2_with fail;go_ret;exact⟨by rw[HE.out];rfl,B1_.out.low⟩
   ·replace hq:=Decidable.of_not_not hq;rw[decide_eq_true hq] at HE;have e1_0:(1:Int)<(l.length:Int):=by omega
    clear hq;have S1:Shp w1_ (.func (.func 91) #[] #[]) (d+1) (zad f .expr):=(HI.out .expr).shp (cfR .expr) w1_;have S2:Shp w1_ (.func (.func 148) #[] #[]) (d+1) (zad f .sarm):=(HI.out .sarm).shp (cfR .sarm) w1_;have KC:=zz (zea w1_ (d+1) _ _ _ _ S1 S2 l A c HF.out B1_.out.rd);clear S1 S2;go_wp2_with fail;(with_reducible refine KC.out.mono ?_);rintro e w2_ ⟨rfl,hb⟩;have B2_:=zz (B1_.out.below hb);clear hb B1_ KC x0 x1 x2 x3 x4;obtain⟨x0,x1,x2,x3,x4⟩:=B2_.out.cs;go_wp2_with fail;go_ret;exact⟨by rw[HE.out];rfl,B2_.out.low⟩
 by_cases hk55:kd=55
 ·subst hk55;have HE:Hid (zgb (zad f) f (.mk 55 tx nn at' l)=(zav zaH (.mk 55 tx nn at' l)&&zaA l [zad f .expr,zad f .block])):=zz rfl;go_enter Tryz.func141,Tryz.ntmps141;cases hq:zav zaH (.mk 55 tx nn at' l) with
  |false=>
   have KC:=zz (zal zbi 55 tx nn at' l A c HT.out w0);rw[hq] at KC HE;clear hq;go_wp2_with fail;(with_reducible refine KC.out.mono ?_);rintro e w1_ ⟨rfl,hb⟩;have B1_:=zz (B0.out.below hb);clear hb B0 KC x0 x1 x2 x3 x4 hw;obtain⟨x0,x1,x2,x3,x4⟩:=B1_.out.cs;go_wp2_with fail;go_ret;exact⟨by rw[HE.out];rfl,B1_.out.low⟩
  |true=>
   have KC:=zz (zal zbi 55 tx nn at' l A c HT.out w0);rw[hq] at KC HE;clear hq;go_wp2_with fail;(with_reducible refine KC.out.mono ?_);rintro e w1_ ⟨rfl,hb⟩;have B1_:=zz (B0.out.below hb);clear hb B0 KC x0 x1 x2 x3 x4 hw;obtain⟨x0,x1,x2,x3,x4⟩:=B1_.out.cs;have S1:Shp w1_ (.func (.func 91) #[] #[]) (d+1) (zad f .expr):=(HI.out .expr).shp (cfR .expr) w1_;have S2:Shp w1_ (.func (.func 131) #[] #[]) (d+1) (zad f .block):=(HI.out .block).shp (cfR .block) w1_;have FS:=FsAt.new2 S1 S2;obtain⟨w2_,hw2_⟩:∃W,w1_.alloc (.cells #[.func (.func 91) #[] #[],.func (.func 131) #[] #[]] 150)=W:=⟨_,rfl⟩;rw[hw2_] at FS;have B2_:=zz (B1_.out.below (show Below w1_.heap.size w1_ w2_ from by rw[←hw2_];exact zag _ _));have KC:=zz (zaW w2_ (d+1) _ w1_.heap.size _ FS 2 rfl (by omega) l A c HF.out B2_.out.rd);clear FS S1 S2;clear B1_;go_wp2_with fail;(with_reducible refine KC.out.mono ?_);rintro e w3_ ⟨rfl,hb⟩;have B3_:=zz (B2_.out.below hb);clear hb B2_ KC x0 x1 x2 x3 x4 hw2_;obtain⟨x0,x1,x2,x3,x4⟩:=B3_.out.cs;go_wp2_with fail;go_ret;exact⟨by rw[HE.out];rfl,B3_.out.low⟩
 by_cases hk56:kd=56
 ·subst hk56;have HE:Hid (zgb (zad f) f (.mk 56 tx nn at' l)=(zlS (zad f) (.mk 56 tx nn at' l))):=zz rfl;go_enter Tryz.func141,Tryz.ntmps141;have KC:=zz (zjd f d hd hd0 HI.out 56 tx nn at' l A c HT.out HF.out w0 B0.out.rd);go_wp2_with fail;(with_reducible refine KC.out.mono ?_);rintro e w1_ ⟨rfl,hb⟩;have B1_:=zz (B0.out.below hb);clear hb B0 KC x0 x1 x2 x3 x4 hw;obtain⟨x0,x1,x2,x3,x4⟩:=B1_.out.cs;go_wp2_with fail;go_ret;exact⟨by rw[HE.out];rfl,B1_.out.low⟩
 by_cases hk57:kd=57
 ·subst hk57;have HE:Hid (zgb (zad f) f (.mk 57 tx nn at' l)=(zbf (.mk 57 tx nn at' l)&&zaA l [zad f .expr,zad f .send])):=zz rfl;go_enter Tryz.func141,Tryz.ntmps141;cases hq:zbf (.mk 57 tx nn at' l) with
  |false=>
   have KC:=zz (zaG 57 tx nn at' l A c w0);rw[hq] at KC HE;clear hq;go_wp2_with fail;(with_reducible refine KC.out.mono ?_);rintro e w1_ ⟨rfl,hb⟩;have B1_:=zz (B0.out.below hb);clear hb B0 KC x0 x1 x2 x3 x4 hw;obtain⟨x0,x1,x2,x3,x4⟩:=B1_.out.cs;go_wp2_with fail;go_ret;exact⟨by rw[HE.out];rfl,B1_.out.low⟩
  |true=>
   have KC:=zz (zaG 57 tx nn at' l A c w0);rw[hq] at KC HE;clear hq;go_wp2_with fail;(with_reducible refine KC.out.mono ?_);rintro e w1_ ⟨rfl,hb⟩;have B1_:=zz (B0.out.below hb);clear hb B0 KC x0 x1 x2 x3 x4 hw;obtain⟨x0,x1,x2,x3,x4⟩:=B1_.out.cs;have S1:Shp w1_ (.func (.func 91) #[] #[]) (d+1) (zad f .expr):=(HI.out .expr).shp (cfR .expr) w1_;have S2:Shp w1_ (.func (.func 149) #[] #[]) (d+1) (zad f .send):=(HI.out .send).shp (cfR .send) w1_;have FS:=FsAt.new2 S1 S2;obtain⟨w2_,hw2_⟩:∃W,w1_.alloc (.cells #[.func (.func 91) #[] #[],.func (.func 149) #[] #[]] 150)=W:=⟨_,rfl⟩;rw[hw2_] at FS;have B2_:=zz (B1_.out.below (show Below w1_.heap.size w1_ w2_ from by rw[←hw2_];exact zag _ _));have KC:=zz (zaW w2_ (d+1) _ w1_.heap.size _ FS 2 rfl (by omega) l A c HF.out B2_.out.rd);clear FS S1 S2;clear B1_;go_wp2_with fail;(with_reducible refine KC.out.mono ?_);rintro e w3_ ⟨rfl,hb⟩;have B3_:=zz (B2_.out.below hb);clear hb B2_ KC x0 x1 x2 x3 x4 hw2_;obtain⟨x0,x1,x2,x3,x4⟩:=B3_.out.cs;go_wp2_with fail;go_ret;exact⟨by rw[HE.out];rfl,B3_.out.low⟩
 by_cases hk58:kd=58
 ·subst hk58;have HE:Hid (zgb (zad f) f (.mk 58 tx nn at' l)=(!(decide (nn=1)&&decide (l.length<2))&&zaw tx&&(decide (nn=0) || decide (nn=1))&&zef l (zhH f 40 zdM) (zad f .expr))):=zz rfl;go_enter Tryz.func141,Tryz.ntmps141
  by_cases h1:nn=1
  ·have e1:(nn == 1)=true:=by simp[h1]
   have e0:(nn == 0)=false:=by rw[beq_eq_false_iff_ne];omega
   rw[decide_eq_true h1,decide_eq_false (show ¬nn=0 by omega)] at HE;clear h1
   by_cases h2:l.length<2
   ·have e2:(l.length:Int)<2:=by omega
    rw[decide_eq_true h2] at HE;clear h2;go_wp2_with fail;go_ret;exact⟨by rw[HE.out];rfl,B0.out.low⟩
   ·have e2:¬(l.length:Int)<2:=by omega
    rw[decide_eq_false h2] at HE;clear h2;cases hq:zaw tx with
    |false=>
     rw[hq] at HE;have K0:Hid (∀d os,Calls Tryz.prog 84 _ (grow (redrawn w0 d) os) λe w'=>e=.returned (.bool false)∧∃p:Regrown,w'=grow (redrawn w0 p.d) p.os):=zz (λd os=>Calls.regrown_of (by have:=zaX.run tx (grow (redrawn w0 d) os) HT.out;rw[hq] at this;exact this));clear hq;go_wp2_with fail;have o0:=λd os=>cell_regrown x0 d os;have o1:=λd os=>cell_regrown x1 d os;have o2:=λd os=>cell_regrown x2 d os;have o3:=λd os=>cell_regrown x3 d os;have o4:=λd os=>cell_regrown x4 d os;refine wp_region_quiet_below (by kernel_rfl) (by kernel_rfl) ?_
     repeat (go_big_quiet_step (first|with_reducible exact K0.out _ _))
     refine wpQuiet_nil ?_;intro _ hw';obtain⟨⟨dq,osq⟩,hw''⟩:=hw';subst hw'';have BL:=zz (zab B0.out.low (below_regrown w0 dq osq) B0.out.low.size);go_wp2_with fail;go_ret;exact⟨by rw[HE.out];rfl,BL.out⟩
    |true=>
     have KC:=zz (λW=>zaX.run tx W HT.out);simp only[hq] at KC;rw[hq] at HE;clear hq;go_wp2_with fail
     go_region_held3 (λw'=>w'.cell? ⟨w.heap.size,0,none⟩=some (.int .i64 58)∧w'.cell? ⟨w.heap.size,1,none⟩=some (.string tx)∧w'.cell? ⟨w.heap.size,2,none⟩=some (.int .i64 nn)∧w'.cell? ⟨w.heap.size,3,none⟩=some (.int .i64 at')∧w'.cell? ⟨w.heap.size,4,none⟩=some (.slice A l.length c))
      (go_keep)
      (first
       |(go_at_call 84;go_loud ((with_reducible refine(KC.out _).mono ?_);rintro e w1 ⟨rfl,hb⟩;have B1:=zz ((BxN.drew B0.out).below hb);clear hb;clear x0 x1 x2 x3 x4;clear hw;have x0:w1.cell? ⟨w.heap.size,0,none⟩=some (.int .i64 58):=B1.out.c0;have x1:w1.cell? ⟨w.heap.size,1,none⟩=some (.string tx):=B1.out.c1;have x2:w1.cell? ⟨w.heap.size,2,none⟩=some (.int .i64 nn):=B1.out.c2;have x3:w1.cell? ⟨w.heap.size,3,none⟩=some (.int .i64 at'):=B1.out.c3;have x4:w1.cell? ⟨w.heap.size,4,none⟩=some (.slice A l.length c):=B1.out.c4))
       |(go_at_call 93;go_loud ((with_reducible refine(zfe zdP f (d+1) 40 (by omega) w1).mono ?_);rintro e w2 ⟨V,rfl,hV,hb⟩;have B2:=zz (B1.out.below hb);have HV:=zz hV;obtain⟨KV,capV,hVe,_⟩:=hV;subst hVe;have S2:Shp w2 (.func (.func 91) #[] #[]) (d+1) (zad f .expr):=(HI.out .expr).shp (cfR .expr) w2;have KE:=zz (zea w2 (d+1) _ _ _ _ HV.out S2 l A c HF.out B2.out.rd);have B3:=B2;clear hb;clear x0 x1 x2 x3 x4;have x0:w2.cell? ⟨w.heap.size,0,none⟩=some (.int .i64 58):=B2.out.c0;have x1:w2.cell? ⟨w.heap.size,1,none⟩=some (.string tx):=B2.out.c1;have x2:w2.cell? ⟨w.heap.size,2,none⟩=some (.int .i64 nn):=B2.out.c2;have x3:w2.cell? ⟨w.heap.size,3,none⟩=some (.int .i64 at'):=B2.out.c3;have x4:w2.cell? ⟨w.heap.size,4,none⟩=some (.slice A l.length c):=B2.out.c4))
       |(go_at_call 129;go_loud ((with_reducible refine KE.out.mono ?_);rintro e w4 ⟨rfl,hb⟩;have B4:=zz (B3.out.below hb);clear hb;clear x0 x1 x2 x3 x4;have x0:w4.cell? ⟨w.heap.size,0,none⟩=some (.int .i64 58):=B4.out.c0;have x1:w4.cell? ⟨w.heap.size,1,none⟩=some (.string tx):=B4.out.c1;have x2:w4.cell? ⟨w.heap.size,2,none⟩=some (.int .i64 nn):=B4.out.c2;have x3:w4.cell? ⟨w.heap.size,3,none⟩=some (.int .i64 at'):=B4.out.c3;have x4:w4.cell? ⟨w.heap.size,4,none⟩=some (.slice A l.length c):=B4.out.c4)))
     all_goals
      go_wp2_with fail;go_ret;exact⟨by rw[HE.out];rfl,B4.out.low⟩
  ·have e1:(nn == 1)=false:=by simp[h1]
   rw[decide_eq_false h1] at HE;clear h1
   by_cases h0:nn=0
   ·have e0:(nn == 0)=true:=by simp[h0]
    rw[decide_eq_true h0] at HE;clear h0;cases hq:zaw tx with
    |false=>
     rw[hq] at HE;have K0:Hid (∀d os,Calls Tryz.prog 84 _ (grow (redrawn w0 d) os) λe w'=>e=.returned (.bool false)∧∃p:Regrown,w'=grow (redrawn w0 p.d) p.os):=zz (λd os=>Calls.regrown_of (by have:=zaX.run tx (grow (redrawn w0 d) os) HT.out;rw[hq] at this;exact this));clear hq;go_wp2_with fail;have o0:=λd os=>cell_regrown x0 d os;have o1:=λd os=>cell_regrown x1 d os;have o2:=λd os=>cell_regrown x2 d os;have o3:=λd os=>cell_regrown x3 d os;have o4:=λd os=>cell_regrown x4 d os;refine wp_region_quiet_below (by kernel_rfl) (by kernel_rfl) ?_
     repeat (go_big_quiet_step (first|with_reducible exact K0.out _ _))
     refine wpQuiet_nil ?_;intro _ hw';obtain⟨⟨dq,osq⟩,hw''⟩:=hw';subst hw'';have BL:=zz (zab B0.out.low (below_regrown w0 dq osq) B0.out.low.size);go_wp2_with fail;go_ret;exact⟨by rw[HE.out];rfl,BL.out⟩
    |true=>
     have KC:=zz (λW=>zaX.run tx W HT.out);simp only[hq] at KC;rw[hq] at HE;clear hq;go_wp2_with fail
     first
      |(go_region_law
      (first
       |(go_simp;go_at_call 84;go_loud ((with_reducible refine(KC.out _).mono ?_);rintro e w1 ⟨rfl,hb⟩;have B1:=zz ((BxN.drew B0.out).below hb);clear hb;clear x0 x1 x2 x3 x4;clear hw;have x0:w1.cell? ⟨w.heap.size,0,none⟩=some (.int .i64 58):=B1.out.c0;have x1:w1.cell? ⟨w.heap.size,1,none⟩=some (.string tx):=B1.out.c1;have x2:w1.cell? ⟨w.heap.size,2,none⟩=some (.int .i64 nn):=B1.out.c2;have x3:w1.cell? ⟨w.heap.size,3,none⟩=some (.int .i64 at'):=B1.out.c3;have x4:w1.cell? ⟨w.heap.size,4,none⟩=some (.slice A l.length c):=B1.out.c4))
       |(go_simp;go_at_call 93;go_loud ((with_reducible refine(zfe zdP f (d+1) 40 (by omega) w1).mono ?_);rintro e w2 ⟨V,rfl,hV,hb⟩;have B2:=zz (B1.out.below hb);have HV:=zz hV;obtain⟨KV,capV,hVe,_⟩:=hV;subst hVe;have S2:Shp w2 (.func (.func 91) #[] #[]) (d+1) (zad f .expr):=(HI.out .expr).shp (cfR .expr) w2;have KE:=zz (zea w2 (d+1) _ _ _ _ HV.out S2 l A c HF.out B2.out.rd);have B3:=B2;clear hb;clear x0 x1 x2 x3 x4;have x0:w2.cell? ⟨w.heap.size,0,none⟩=some (.int .i64 58):=B2.out.c0;have x1:w2.cell? ⟨w.heap.size,1,none⟩=some (.string tx):=B2.out.c1;have x2:w2.cell? ⟨w.heap.size,2,none⟩=some (.int .i64 nn):=B2.out.c2;have x3:w2.cell? ⟨w.heap.size,3,none⟩=some (.int .i64 at'):=B2.out.c3;have x4:w2.cell? ⟨w.heap.size,4,none⟩=some (.slice A l.length c):=B2.out.c4))
       |(go_simp;go_at_call 129;go_loud ((with_reducible refine KE.out.mono ?_);rintro e w4 ⟨rfl,hb⟩;have B4:=zz (B3.out.below hb);clear hb;clear x0 x1 x2 x3 x4;have x0:w4.cell? ⟨w.heap.size,0,none⟩=some (.int .i64 58):=B4.out.c0;have x1:w4.cell? ⟨w.heap.size,1,none⟩=some (.string tx):=B4.out.c1;have x2:w4.cell? ⟨w.heap.size,2,none⟩=some (.int .i64 nn):=B4.out.c2;have x3:w4.cell? ⟨w.heap.size,3,none⟩=some (.int .i64 at'):=B4.out.c3;have x4:w4.cell? ⟨w.heap.size,4,none⟩=some (.slice A l.length c):=B4.out.c4))))
      |fail
     all_goals
      go_wp2_with fail;go_ret;exact⟨by rw[HE.out];rfl,B4.out.low⟩
   ·have e0:(nn == 0)=false:=by simp[h0]
    rw[decide_eq_false h0] at HE;clear h0;cases hq:zaw tx with
    |false=>
     rw[hq] at HE;have K0:Hid (∀d os,Calls Tryz.prog 84 _ (grow (redrawn w0 d) os) λe w'=>e=.returned (.bool false)∧∃p:Regrown,w'=grow (redrawn w0 p.d) p.os):=zz (λd os=>Calls.regrown_of (by have:=zaX.run tx (grow (redrawn w0 d) os) HT.out;rw[hq] at this;exact this));clear hq;go_wp2_with fail;have o0:=λd os=>cell_regrown x0 d os;have o1:=λd os=>cell_regrown x1 d os;have o2:=λd os=>cell_regrown x2 d os;have o3:=λd os=>cell_regrown x3 d os;have o4:=λd os=>cell_regrown x4 d os;refine wp_region_quiet_below (by kernel_rfl) (by kernel_rfl) ?_
     repeat (go_big_quiet_step (first|with_reducible exact K0.out _ _))
     refine wpQuiet_nil ?_;intro _ hw';obtain⟨⟨dq,osq⟩,hw''⟩:=hw';subst hw'';have BL:=zz (zab B0.out.low (below_regrown w0 dq osq) B0.out.low.size);go_wp2_with fail;go_ret;exact⟨by rw[HE.out];rfl,BL.out⟩
    |true=>
     rw[hq] at HE;have K0:Hid (∀d os,Calls Tryz.prog 84 _ (grow (redrawn w0 d) os) λe w'=>e=.returned (.bool true)∧∃p:Regrown,w'=grow (redrawn w0 p.d) p.os):=zz (λd os=>Calls.regrown_of (by have:=zaX.run tx (grow (redrawn w0 d) os) HT.out;rw[hq] at this;exact this));clear hq;go_wp2_with fail;have o0:=λd os=>cell_regrown x0 d os;have o1:=λd os=>cell_regrown x1 d os;have o2:=λd os=>cell_regrown x2 d os;have o3:=λd os=>cell_regrown x3 d os;have o4:=λd os=>cell_regrown x4 d os;refine wp_region_quiet_below (by kernel_rfl) (by kernel_rfl) ?_
     repeat (go_big_quiet_step (first|with_reducible exact K0.out _ _))
     refine wpQuiet_nil ?_;intro _ hw';obtain⟨⟨dq,osq⟩,hw''⟩:=hw';subst hw'';have BL:=zz (zab B0.out.low (below_regrown w0 dq osq) B0.out.low.size);go_wp2_with fail;go_ret;exact⟨by rw[HE.out];rfl,BL.out⟩
 by_cases hk59:kd=59
 ·subst hk59;have HE:Hid (zgb (zad f) f (.mk 59 tx nn at' l)=(zav zaH (.mk 59 tx nn at' l)&&zcg l (zad f .expr) [zhH f 75 zaw])):=zz rfl;go_enter Tryz.func141,Tryz.ntmps141;cases hq:zav zaH (.mk 59 tx nn at' l) with
  |false=>
   rw[hq] at HE;have K0:Hid (∀d os,Calls Tryz.prog 83 _ (grow (redrawn w0 d) os) λe w'=>e=.returned (.bool false)∧∃p:Regrown,w'=grow (redrawn w0 p.d) p.os):=zz (λd os=>Calls.regrown_of (by have:=zal zbi 59 tx nn at' l A c HT.out (grow (redrawn w0 d) os);rw[hq] at this;exact this));clear hq;go_wp2_with fail;have o0:=λd os=>cell_regrown x0 d os;have o1:=λd os=>cell_regrown x1 d os;have o2:=λd os=>cell_regrown x2 d os;have o3:=λd os=>cell_regrown x3 d os;have o4:=λd os=>cell_regrown x4 d os;refine wp_region_quiet_below (by kernel_rfl) (by kernel_rfl) ?_
   repeat (go_big_quiet_step (first|with_reducible exact K0.out _ _))
   refine wpQuiet_nil ?_;intro _ hw';obtain⟨⟨dq,osq⟩,hw''⟩:=hw';subst hw'';have BL:=zz (zab B0.out.low (below_regrown w0 dq osq) B0.out.low.size);go_wp2_with fail;go_ret;exact⟨by rw[HE.out];rfl,BL.out⟩
  |true=>
   have KC:=zz (λW=>zal zbi 59 tx nn at' l A c HT.out W);simp only[hq] at KC;rw[hq] at HE;clear hq;go_wp2_with fail
   go_region_held3 (λw'=>w'.cell? ⟨w.heap.size,0,none⟩=some (.int .i64 59)∧w'.cell? ⟨w.heap.size,1,none⟩=some (.string tx)∧w'.cell? ⟨w.heap.size,2,none⟩=some (.int .i64 nn)∧w'.cell? ⟨w.heap.size,3,none⟩=some (.int .i64 at')∧w'.cell? ⟨w.heap.size,4,none⟩=some (.slice A l.length c))
    (go_keep)
    (first
     |(go_at_call 83;go_loud ((with_reducible refine(KC.out _).mono ?_);rintro e w1 ⟨rfl,hb⟩;have B1:=zz ((BxN.drew B0.out).below hb);clear hb;clear x0 x1 x2 x3 x4;clear hw;have x0:w1.cell? ⟨w.heap.size,0,none⟩=some (.int .i64 59):=B1.out.c0;have x1:w1.cell? ⟨w.heap.size,1,none⟩=some (.string tx):=B1.out.c1;have x2:w1.cell? ⟨w.heap.size,2,none⟩=some (.int .i64 nn):=B1.out.c2;have x3:w1.cell? ⟨w.heap.size,3,none⟩=some (.int .i64 at'):=B1.out.c3;have x4:w1.cell? ⟨w.heap.size,4,none⟩=some (.slice A l.length c):=B1.out.c4))
     |(go_at_call 93;go_loud ((with_reducible refine(zfe zaX f (d+1) 75 (by omega) w1).mono ?_);rintro e w2 ⟨V,rfl,hV,hb⟩;have B2:=zz (B1.out.below hb);have HV:=zz hV;obtain⟨KV,capV,hVe,_⟩:=hV;subst hVe;have FS:=FsAt.new1 (w:=w2) HV.out;have S2:Shp (w2.alloc (.cells #[.func (.func KV) #[] capV] 150)) (.func (.func 91) #[] #[]) (d+1) (zad f .expr):=(HI.out .expr).shp (cfR .expr) _;have KE:=zz (zcP (w2.alloc (.cells #[.func (.func KV) #[] capV] 150)) (d+1) _ _ S2 _ w2.heap.size _ FS 1 rfl (by omega) (by omega) l A c HF.out (B2.out.below (zag _ _)).rd);have B3:=zz (B2.out.below (zag w2 (.cells #[.func (.func KV) #[] capV] 150)));clear FS S2;clear hb;clear x0 x1 x2 x3 x4;have x0:w2.cell? ⟨w.heap.size,0,none⟩=some (.int .i64 59):=B2.out.c0;have x1:w2.cell? ⟨w.heap.size,1,none⟩=some (.string tx):=B2.out.c1;have x2:w2.cell? ⟨w.heap.size,2,none⟩=some (.int .i64 nn):=B2.out.c2;have x3:w2.cell? ⟨w.heap.size,3,none⟩=some (.int .i64 at'):=B2.out.c3;have x4:w2.cell? ⟨w.heap.size,4,none⟩=some (.slice A l.length c):=B2.out.c4))
     |(go_at_call 89;go_loud ((with_reducible refine KE.out.mono ?_);rintro e w4 ⟨rfl,hb⟩;have B4:=zz (B3.out.below hb);clear hb;clear x0 x1 x2 x3 x4;have x0:w4.cell? ⟨w.heap.size,0,none⟩=some (.int .i64 59):=B4.out.c0;have x1:w4.cell? ⟨w.heap.size,1,none⟩=some (.string tx):=B4.out.c1;have x2:w4.cell? ⟨w.heap.size,2,none⟩=some (.int .i64 nn):=B4.out.c2;have x3:w4.cell? ⟨w.heap.size,3,none⟩=some (.int .i64 at'):=B4.out.c3;have x4:w4.cell? ⟨w.heap.size,4,none⟩=some (.slice A l.length c):=B4.out.c4)))
   all_goals
    go_wp2_with fail;go_ret;exact⟨by rw[HE.out];rfl,B4.out.low⟩
 by_cases hk60:kd=60
 ·subst hk60;have HE:Hid (zgb (zad f) f (.mk 60 tx nn at' l)=(zbf (.mk 60 tx nn at' l)&&l.isEmpty)):=zz rfl;go_enter Tryz.func141,Tryz.ntmps141;cases hq:zbf (.mk 60 tx nn at' l) with
  |false=>
   have KC:=zz (zaG 60 tx nn at' l A c w0);rw[hq] at KC HE;clear hq;go_wp2_with fail;(with_reducible refine KC.out.mono ?_);rintro e w1_ ⟨rfl,hb⟩;have B1_:=zz (B0.out.below hb);clear hb B0 KC x0 x1 x2 x3 x4 hw;obtain⟨x0,x1,x2,x3,x4⟩:=B1_.out.cs;go_wp2_with fail;go_ret;exact⟨by rw[HE.out];rfl,B1_.out.low⟩
  |true=>
   have KC:=zz (zaG 60 tx nn at' l A c w0);rw[hq] at KC HE;clear hq;go_wp2_with fail;(with_reducible refine KC.out.mono ?_);rintro e w1_ ⟨rfl,hb⟩;have B1_:=zz (B0.out.below hb);clear hb B0 KC x0 x1 x2 x3 x4 hw;obtain⟨x0,x1,x2,x3,x4⟩:=B1_.out.cs;cases hq:l.isEmpty with
   |false=>
    have e1:((l.length:Int) == 0)=false:=zdZ hq;have f1:(0:Int)<(l.length:Int):=zcV hq;rw[hq] at HE;clear hq;go_wp2_with fail;go_ret;exact⟨by rw[HE.out];rfl,B1_.out.low⟩
   |true=>
    have e1:((l.length:Int) == 0)=true:=zeb hq;have f1:¬(0:Int)<(l.length:Int):=zcS hq;rw[hq] at HE;clear hq;go_wp2_with fail;go_ret;exact⟨by rw[HE.out];rfl,B1_.out.low⟩
 by_cases hk61:kd=61
 ·subst hk61;have HE:Hid (zgb (zad f) f (.mk 61 tx nn at' l)=(zbf (.mk 61 tx nn at' l)&&zaA l [zad f .expr])):=zz rfl;go_enter Tryz.func141,Tryz.ntmps141;cases hq:zbf (.mk 61 tx nn at' l) with
  |false=>
   have KC:=zz (zaG 61 tx nn at' l A c w0);rw[hq] at KC HE;clear hq;go_wp2_with fail;(with_reducible refine KC.out.mono ?_);rintro e w1_ ⟨rfl,hb⟩;have B1_:=zz (B0.out.below hb);clear hb B0 KC x0 x1 x2 x3 x4 hw;obtain⟨x0,x1,x2,x3,x4⟩:=B1_.out.cs;go_wp2_with fail;go_ret;exact⟨by rw[HE.out];rfl,B1_.out.low⟩
  |true=>
   have KC:=zz (zaG 61 tx nn at' l A c w0);rw[hq] at KC HE;clear hq;go_wp2_with fail;(with_reducible refine KC.out.mono ?_);rintro e w1_ ⟨rfl,hb⟩;have B1_:=zz (B0.out.below hb);clear hb B0 KC x0 x1 x2 x3 x4 hw;obtain⟨x0,x1,x2,x3,x4⟩:=B1_.out.cs;have S1:Shp w1_ (.func (.func 91) #[] #[]) (d+1) (zad f .expr):=(HI.out .expr).shp (cfR .expr) w1_;have FS:=FsAt.new1 S1;obtain⟨w2_,hw2_⟩:∃W,w1_.alloc (.cells #[.func (.func 91) #[] #[]] 150)=W:=⟨_,rfl⟩;rw[hw2_] at FS;have B2_:=zz (B1_.out.below (show Below w1_.heap.size w1_ w2_ from by rw[←hw2_];exact zag _ _));have KC:=zz (zaW w2_ (d+1) _ w1_.heap.size _ FS 1 rfl (by omega) l A c HF.out B2_.out.rd);clear FS S1;clear B1_;go_wp2_with fail;(with_reducible refine KC.out.mono ?_);rintro e w3_ ⟨rfl,hb⟩;have B3_:=zz (B2_.out.below hb);clear hb B2_ KC x0 x1 x2 x3 x4 hw2_;obtain⟨x0,x1,x2,x3,x4⟩:=B3_.out.cs;go_wp2_with fail;go_ret;exact⟨by rw[HE.out];rfl,B3_.out.low⟩
 have HE:Hid (zgb (zad f) f (.mk kd tx nn at' l)=false):=zz (by simp[zgb,Nd.kind,hk50,hk51,hk52,hk53,hk55,hk56,hk57,hk58,hk59,hk60,hk61]);have ek50:(kd == 50)=false:=by simp[hk50]
 have ek51:(kd == 51)=false:=by simp[hk51]
 have ek52:(kd == 52)=false:=by simp[hk52]
 have ek53:(kd == 53)=false:=by simp[hk53]
 have ek55:(kd == 55)=false:=by simp[hk55]
 have ek56:(kd == 56)=false:=by simp[hk56]
 have ek57:(kd == 57)=false:=by simp[hk57]
 have ek58:(kd == 58)=false:=by simp[hk58]
 have ek59:(kd == 59)=false:=by simp[hk59]
 have ek60:(kd == 60)=false:=by simp[hk60]
 have ek61:(kd == 61)=false:=by simp[hk61]
 clear hk50 hk51 hk52 hk53 hk55 hk56 hk57 hk58 hk59 hk60 hk61;go_enter Tryz.func141,Tryz.ntmps141;go_wp2_with fail;go_ret;exact⟨by rw[HE.out];rfl,B0.out.low⟩
end Go.Proofs.YtjdpocmlimkjjaaGreat
