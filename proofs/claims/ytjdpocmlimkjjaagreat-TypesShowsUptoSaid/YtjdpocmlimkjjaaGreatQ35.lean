/- Conditions: those in each statement. -/
import Derived.Test.YtjdpocmlimkjjaaGreatQ34
import Derived.Deep.RegionHeld3
set_option maxHeartbeats 32000000
set_option maxRecDepth 100000
namespace Go.Proofs.YtjdpocmlimkjjaaGreat
open Go.RowKit
theorem BxN.drew {w W:World} {kd nn at':Int} {tx:ByteArray} {l:List Nd} {A:Option Addr} {c:Nat} (h:BxN w kd tx nn at' l A c W):BxN w kd tx nn at' l A c W.drew:=h.below (zae (Below.refl _ _) 1)
theorem zrm {w:World} {m:Nat} {s:ByteArray} (h:zbb w m zhc) (hl:zfg s=none):(Instr.lookup 77 (.map (some m)) (.string s) true).run Tryz.prog w=.ok (.tuple #[.int .i64 0,.bool false]) w:=by
 rw[zdT Tryz.underlying77 Tryz.underlying9 h (zmi w) s,zhb,hl]
theorem zqW {w:World} {m:Nat} {s:ByteArray} {l:Nat} (h:zbb w m zhc) (hl:zfg s=some l):(Instr.lookup 77 (.map (some m)) (.string s) true).run Tryz.prog w=.ok (.tuple #[.int .i64 (l:Int),.bool true]) w:=by
 rw[zdT Tryz.underlying77 Tryz.underlying9 h (zmi w) s,zhb,hl]
theorem zcF (kd:Int) (tx:ByteArray) (nn at':Int) (l:List Nd) (A:Option Addr) (c:Nat) (ht:tx.size≤32768) (hf:fitL l=true) (w:World) (h:Rd (Lt w.heap.size) w (ns l) (.slice A l.length c)) :
 Calls Tryz.prog 128 #[nd5 kd tx nn at' l A c] w λe w'=>e=.returned (.bool (zbD (.mk kd tx nn at' l)))∧Below w.heap.size w w':=by
 have hl:=zaD h;have hn:l.length≤9223372036854775807:=Nat.le_trans hl.2.1 hl.2.2;have B0r:=BxN.new (w:=w) (kd:=kd) (tx:=tx) (nn:=nn) (at':=at') h;obtain⟨w0,hw⟩:∃W,w.alloc (.cells #[.int .i64 kd,.string tx,.int .i64 nn,.int .i64 at',.slice A l.length c] 25)=W:=⟨_,rfl⟩;rw[hw] at B0r;have B0:=zz B0r;clear B0r;have HF:=zz hf;have HT:=zz ht;obtain⟨x0,x1,x2,x3,x4⟩:=B0.out.cs;clear h hl hf ht
 by_cases hk20:kd=20
 ·subst hk20;have HE:Hid (zbD (.mk 20 tx nn at' l)=(decide (tx=⟨#[]⟩)&&decide (0≤nn)&&decide (nn≤9007199254740992))):=zz rfl;go_enter Tryz.func128,Tryz.ntmps128
  by_cases hq:¬(tx=⟨#[]⟩)
  ·rw[decide_eq_false hq] at HE;have e0_0:(tx.toList == [])=false:=zfD hq;clear hq;go_wp2_with fail;go_ret;exact⟨by rw[HE.out];rfl,B0.out.low⟩
  ·replace hq:=Decidable.of_not_not hq;rw[decide_eq_true hq] at HE;have e0_0:(tx.toList == [])=true:=ziH hq;clear hq
   by_cases hq:¬(0≤nn)
   ·rw[decide_eq_false hq] at HE;have e1_0:¬(0:Int)≤nn:=hq;clear hq;go_wp2_with fail;go_ret;exact⟨by rw[HE.out];rfl,B0.out.low⟩
   ·replace hq:=Decidable.of_not_not hq;rw[decide_eq_true hq] at HE;have e1_0:(0:Int)≤nn:=hq;clear hq
    by_cases hq:¬(nn≤9007199254740992)
    ·rw[decide_eq_false hq] at HE;have e2_0:¬nn≤9007199254740992:=hq;clear hq;go_wp2_with fail;go_ret;exact⟨by rw[HE.out];rfl,B0.out.low⟩
    ·replace hq:=Decidable.of_not_not hq;rw[decide_eq_true hq] at HE;have e2_0:nn≤9007199254740992:=hq;clear hq;go_wp2_with fail;go_ret;exact⟨by rw[HE.out];rfl,B0.out.low⟩
 by_cases hk21:kd=21
 ·subst hk21;have HE:Hid (zbD (.mk 21 tx nn at' l)=(decide (nn=0)&&decide (tx.size≤4096))):=zz rfl;go_enter Tryz.func128,Tryz.ntmps128
  by_cases hq:¬(nn=0)
  ·rw[decide_eq_false hq] at HE;have e0_0:(nn == 0)=false:=by simp[hq]
   clear hq;go_wp2_with fail;go_ret;exact⟨by rw[HE.out];rfl,B0.out.low⟩
  ·replace hq:=Decidable.of_not_not hq;rw[decide_eq_true hq] at HE;have e0_0:(nn == 0)=true:=by simp[hq]
   clear hq
   by_cases hq:¬(tx.size≤4096)
   ·rw[decide_eq_false hq] at HE;have e1_0:¬(tx.size:Int)≤4096:=by omega
    clear hq;go_wp2_with fail;go_ret;exact⟨by rw[HE.out];rfl,B0.out.low⟩
   ·replace hq:=Decidable.of_not_not hq;rw[decide_eq_true hq] at HE;have e1_0:(tx.size:Int)≤4096:=by omega
    clear hq;go_wp2_with fail;go_ret;exact⟨by rw[HE.out];rfl,B0.out.low⟩
 by_cases hk22:kd=22
 ·subst hk22;have HE:Hid (zbD (.mk 22 tx nn at' l)=(decide (tx=⟨#[]⟩)&&(decide (nn=0) || decide (nn=1)))):=zz rfl;go_enter Tryz.func128,Tryz.ntmps128
  by_cases hq:¬(tx=⟨#[]⟩)
  ·rw[decide_eq_false hq] at HE;have e0_0:(tx.toList == [])=false:=zfD hq;clear hq;go_wp2_with fail;go_ret;exact⟨by rw[HE.out];rfl,B0.out.low⟩
  ·replace hq:=Decidable.of_not_not hq;rw[decide_eq_true hq] at HE;have e0_0:(tx.toList == [])=true:=ziH hq;clear hq
   by_cases hq:nn=0
   ·rw[decide_eq_true hq] at HE;have e01:(nn == 0)=true:=by simp[hq]
    clear hq;go_wp2_with fail;go_ret;exact⟨by rw[HE.out];rfl,B0.out.low⟩
   ·rw[decide_eq_false hq] at HE;have e01:(nn == 0)=false:=by simp[hq]
    clear hq
    by_cases hq:nn=1
    ·rw[decide_eq_true hq] at HE;have e02:(nn == 1)=true:=by simp[hq]
     clear hq;go_wp2_with fail;go_ret;exact⟨by rw[HE.out];rfl,B0.out.low⟩
    ·rw[decide_eq_false hq] at HE;have e02:(nn == 1)=false:=by simp[hq]
     clear hq;go_wp2_with fail;go_ret;exact⟨by rw[HE.out];rfl,B0.out.low⟩
 by_cases hk24:kd=24
 ·subst hk24;have HE:Hid (zbD (.mk 24 tx nn at' l)=(zav zaH (.mk 24 tx nn at' l))):=zz rfl;go_enter Tryz.func128,Tryz.ntmps128;have KC:=zz (zal zbi 24 tx nn at' l A c HT.out w0);go_wp2_with fail;(with_reducible refine KC.out.mono ?_);rintro e w1_ ⟨rfl,hb⟩;have B1_:=zz (B0.out.below hb);clear hb B0 KC x0 x1 x2 x3 x4 hw;obtain⟨x0,x1,x2,x3,x4⟩:=B1_.out.cs;go_wp2_with fail;go_ret;exact⟨by rw[HE.out];rfl,B1_.out.low⟩
 have HE:Hid (zbD (.mk kd tx nn at' l)=zbf (.mk kd tx nn at' l)):=zz (by simp[zbD,Nd.kind,hk20,hk21,hk22,hk24]);have ek20:(kd == 20)=false:=by simp[hk20]
 have ek21:(kd == 21)=false:=by simp[hk21]
 have ek22:(kd == 22)=false:=by simp[hk22]
 have ek24:(kd == 24)=false:=by simp[hk24]
 clear hk20 hk21 hk22 hk24;go_enter Tryz.func128,Tryz.ntmps128;have KC:=zz (zaG kd tx nn at' l A c w0);go_wp2_with fail;(with_reducible refine KC.out.mono ?_);rintro e w1_ ⟨rfl,hb⟩;have B1_:=zz (B0.out.below hb);clear hb B0 KC x0 x1 x2 x3 x4 hw;obtain⟨x0,x1,x2,x3,x4⟩:=B1_.out.cs;go_wp2_with fail;go_ret;exact⟨by rw[HE.out];rfl,B1_.out.low⟩
theorem znA (f:Nat) (d:Int) (hd:(f:Int)+1+d=41) (hd0:0≤d) (IH:∀st,ShpC (fnR st) (d+1) (zad f st)) (kd:Int) (tx:ByteArray) (nn at':Int) (l:List Nd) (A:Option Addr) (c:Nat) (ht:tx.size≤32768) (hf:fitL l=true) (w:World) (h:Rd (Lt w.heap.size) w (ns l) (.slice A l.length c)) :
 Calls Tryz.prog 91 #[nd5 kd tx nn at' l A c,.int .i64 d] w λe w'=>e=.returned (.bool (zdz (zad f) (.mk kd tx nn at' l)))∧Below w.heap.size w w':=by
 have hl:=zaD h;have hn:l.length≤9223372036854775807:=Nat.le_trans hl.2.1 hl.2.2;have B0r:=BxN.new (w:=w) (kd:=kd) (tx:=tx) (nn:=nn) (at':=at') h;obtain⟨w0,hw⟩:∃W,w.alloc (.cells #[.int .i64 kd,.string tx,.int .i64 nn,.int .i64 at',.slice A l.length c] 25)=W:=⟨_,rfl⟩;rw[hw] at B0r;have B0:=zz B0r;clear B0r;have HF:=zz hf;have HT:=zz ht;obtain⟨x0,x1,x2,x3,x4⟩:=B0.out.cs;clear h hl hf ht;have hdm:d≤40:=by omega
 have hdm2:¬(40:Int)<d:=by omega
 have hwd:IntKind.i64.wrap (d+1)=d+1:=IntWalk.i64_in _ (by omega);have HI:=zz IH;clear IH
 by_cases hk20:kd=20
 ·subst hk20;have HE:Hid (zdz (zad f) (.mk 20 tx nn at' l)=(l.isEmpty&&zbD (.mk 20 tx nn at' l))):=zz rfl;go_enter Tryz.func91,Tryz.ntmps91;cases hq:l.isEmpty with
  |false=>
   have e0:((l.length:Int) == 0)=false:=zdZ hq;have f0:(0:Int)<(l.length:Int):=zcV hq;rw[hq] at HE;clear hq;go_wp2_with fail;go_ret;exact⟨by rw[HE.out];rfl,B0.out.low⟩
  |true=>
   have e0:((l.length:Int) == 0)=true:=zeb hq;have f0:¬(0:Int)<(l.length:Int):=zcS hq;rw[hq] at HE;clear hq;have KC:=zz (zcF 20 tx nn at' l A c HT.out HF.out w0 B0.out.rd);go_wp2_with fail;(with_reducible refine KC.out.mono ?_);rintro e w1_ ⟨rfl,hb⟩;have B1_:=zz (B0.out.below hb);clear hb B0 KC x0 x1 x2 x3 x4 hw;obtain⟨x0,x1,x2,x3,x4⟩:=B1_.out.cs;go_wp2_with fail;go_ret;exact⟨by rw[HE.out];rfl,B1_.out.low⟩
 by_cases hk21:kd=21
 ·subst hk21;have HE:Hid (zdz (zad f) (.mk 21 tx nn at' l)=(l.isEmpty&&zbD (.mk 21 tx nn at' l))):=zz rfl;go_enter Tryz.func91,Tryz.ntmps91;cases hq:l.isEmpty with
  |false=>
   have e0:((l.length:Int) == 0)=false:=zdZ hq;have f0:(0:Int)<(l.length:Int):=zcV hq;rw[hq] at HE;clear hq;go_wp2_with fail;go_ret;exact⟨by rw[HE.out];rfl,B0.out.low⟩
  |true=>
   have e0:((l.length:Int) == 0)=true:=zeb hq;have f0:¬(0:Int)<(l.length:Int):=zcS hq;rw[hq] at HE;clear hq;have KC:=zz (zcF 21 tx nn at' l A c HT.out HF.out w0 B0.out.rd);go_wp2_with fail;(with_reducible refine KC.out.mono ?_);rintro e w1_ ⟨rfl,hb⟩;have B1_:=zz (B0.out.below hb);clear hb B0 KC x0 x1 x2 x3 x4 hw;obtain⟨x0,x1,x2,x3,x4⟩:=B1_.out.cs;go_wp2_with fail;go_ret;exact⟨by rw[HE.out];rfl,B1_.out.low⟩
 by_cases hk22:kd=22
 ·subst hk22;have HE:Hid (zdz (zad f) (.mk 22 tx nn at' l)=(l.isEmpty&&zbD (.mk 22 tx nn at' l))):=zz rfl;go_enter Tryz.func91,Tryz.ntmps91;cases hq:l.isEmpty with
  |false=>
   have e0:((l.length:Int) == 0)=false:=zdZ hq;have f0:(0:Int)<(l.length:Int):=zcV hq;rw[hq] at HE;clear hq;go_wp2_with fail;go_ret;exact⟨by rw[HE.out];rfl,B0.out.low⟩
  |true=>
   have e0:((l.length:Int) == 0)=true:=zeb hq;have f0:¬(0:Int)<(l.length:Int):=zcS hq;rw[hq] at HE;clear hq;have KC:=zz (zcF 22 tx nn at' l A c HT.out HF.out w0 B0.out.rd);go_wp2_with fail;(with_reducible refine KC.out.mono ?_);rintro e w1_ ⟨rfl,hb⟩;have B1_:=zz (B0.out.below hb);clear hb B0 KC x0 x1 x2 x3 x4 hw;obtain⟨x0,x1,x2,x3,x4⟩:=B1_.out.cs;go_wp2_with fail;go_ret;exact⟨by rw[HE.out];rfl,B1_.out.low⟩
 by_cases hk23:kd=23
 ·subst hk23;have HE:Hid (zdz (zad f) (.mk 23 tx nn at' l)=(l.isEmpty&&zbD (.mk 23 tx nn at' l))):=zz rfl;go_enter Tryz.func91,Tryz.ntmps91;cases hq:l.isEmpty with
  |false=>
   have e0:((l.length:Int) == 0)=false:=zdZ hq;have f0:(0:Int)<(l.length:Int):=zcV hq;rw[hq] at HE;clear hq;go_wp2_with fail;go_ret;exact⟨by rw[HE.out];rfl,B0.out.low⟩
  |true=>
   have e0:((l.length:Int) == 0)=true:=zeb hq;have f0:¬(0:Int)<(l.length:Int):=zcS hq;rw[hq] at HE;clear hq;have KC:=zz (zcF 23 tx nn at' l A c HT.out HF.out w0 B0.out.rd);go_wp2_with fail;(with_reducible refine KC.out.mono ?_);rintro e w1_ ⟨rfl,hb⟩;have B1_:=zz (B0.out.below hb);clear hb B0 KC x0 x1 x2 x3 x4 hw;obtain⟨x0,x1,x2,x3,x4⟩:=B1_.out.cs;go_wp2_with fail;go_ret;exact⟨by rw[HE.out];rfl,B1_.out.low⟩
 by_cases hk24:kd=24
 ·subst hk24;have HE:Hid (zdz (zad f) (.mk 24 tx nn at' l)=(l.isEmpty&&zbD (.mk 24 tx nn at' l))):=zz rfl;go_enter Tryz.func91,Tryz.ntmps91;cases hq:l.isEmpty with
  |false=>
   have e0:((l.length:Int) == 0)=false:=zdZ hq;have f0:(0:Int)<(l.length:Int):=zcV hq;rw[hq] at HE;clear hq;go_wp2_with fail;go_ret;exact⟨by rw[HE.out];rfl,B0.out.low⟩
  |true=>
   have e0:((l.length:Int) == 0)=true:=zeb hq;have f0:¬(0:Int)<(l.length:Int):=zcS hq;rw[hq] at HE;clear hq;have KC:=zz (zcF 24 tx nn at' l A c HT.out HF.out w0 B0.out.rd);go_wp2_with fail;(with_reducible refine KC.out.mono ?_);rintro e w1_ ⟨rfl,hb⟩;have B1_:=zz (B0.out.below hb);clear hb B0 KC x0 x1 x2 x3 x4 hw;obtain⟨x0,x1,x2,x3,x4⟩:=B1_.out.cs;go_wp2_with fail;go_ret;exact⟨by rw[HE.out];rfl,B1_.out.low⟩
 by_cases hk25:kd=25
 ·subst hk25;have HE:Hid (zdz (zad f) (.mk 25 tx nn at' l)=(l.isEmpty&&zbD (.mk 25 tx nn at' l))):=zz rfl;go_enter Tryz.func91,Tryz.ntmps91;cases hq:l.isEmpty with
  |false=>
   have e0:((l.length:Int) == 0)=false:=zdZ hq;have f0:(0:Int)<(l.length:Int):=zcV hq;rw[hq] at HE;clear hq;go_wp2_with fail;go_ret;exact⟨by rw[HE.out];rfl,B0.out.low⟩
  |true=>
   have e0:((l.length:Int) == 0)=true:=zeb hq;have f0:¬(0:Int)<(l.length:Int):=zcS hq;rw[hq] at HE;clear hq;have KC:=zz (zcF 25 tx nn at' l A c HT.out HF.out w0 B0.out.rd);go_wp2_with fail;(with_reducible refine KC.out.mono ?_);rintro e w1_ ⟨rfl,hb⟩;have B1_:=zz (B0.out.below hb);clear hb B0 KC x0 x1 x2 x3 x4 hw;obtain⟨x0,x1,x2,x3,x4⟩:=B1_.out.cs;go_wp2_with fail;go_ret;exact⟨by rw[HE.out];rfl,B1_.out.low⟩
 by_cases hk26:kd=26
 ·subst hk26;have HE:Hid (zdz (zad f) (.mk 26 tx nn at' l)=(zbf (.mk 26 tx nn at' l)&&l.all (zad f .expr))):=zz rfl;go_enter Tryz.func91,Tryz.ntmps91;cases hq:zbf (.mk 26 tx nn at' l) with
  |false=>
   have KC:=zz (zaG 26 tx nn at' l A c w0);rw[hq] at KC HE;clear hq;go_wp2_with fail;(with_reducible refine KC.out.mono ?_);rintro e w1_ ⟨rfl,hb⟩;have B1_:=zz (B0.out.below hb);clear hb B0 KC x0 x1 x2 x3 x4 hw;obtain⟨x0,x1,x2,x3,x4⟩:=B1_.out.cs;go_wp2_with fail;go_ret;exact⟨by rw[HE.out];rfl,B1_.out.low⟩
  |true=>
   have KC:=zz (zaG 26 tx nn at' l A c w0);rw[hq] at KC HE;clear hq;go_wp2_with fail;(with_reducible refine KC.out.mono ?_);rintro e w1_ ⟨rfl,hb⟩;have B1_:=zz (B0.out.below hb);clear hb B0 KC x0 x1 x2 x3 x4 hw;obtain⟨x0,x1,x2,x3,x4⟩:=B1_.out.cs;have S1:Shp w1_ (.func (.func 91) #[] #[]) (d+1) (zad f .expr):=(HI.out .expr).shp (cfR .expr) w1_;have KC:=zz (zct w1_ _ (d+1) _ S1 l A c HF.out B1_.out.rd);clear S1;go_wp2_with fail;(with_reducible refine KC.out.mono ?_);rintro e w2_ ⟨rfl,hb⟩;have B2_:=zz (B1_.out.below hb);clear hb B1_ KC x0 x1 x2 x3 x4;obtain⟨x0,x1,x2,x3,x4⟩:=B2_.out.cs;go_wp2_with fail;go_ret;exact⟨by rw[HE.out];rfl,B2_.out.low⟩
 by_cases hk27:kd=27
 ·subst hk27;have HE:Hid (zdz (zad f) (.mk 27 tx nn at' l)=(zav zaw (.mk 27 tx nn at' l)&&l.all (zad f .set))):=zz rfl;go_enter Tryz.func91,Tryz.ntmps91;cases hq:zav zaw (.mk 27 tx nn at' l) with
  |false=>
   have KC:=zz (zal zaX 27 tx nn at' l A c HT.out w0);rw[hq] at KC HE;clear hq;go_wp2_with fail;(with_reducible refine KC.out.mono ?_);rintro e w1_ ⟨rfl,hb⟩;have B1_:=zz (B0.out.below hb);clear hb B0 KC x0 x1 x2 x3 x4 hw;obtain⟨x0,x1,x2,x3,x4⟩:=B1_.out.cs;go_wp2_with fail;go_ret;exact⟨by rw[HE.out];rfl,B1_.out.low⟩
  |true=>
   have KC:=zz (zal zaX 27 tx nn at' l A c HT.out w0);rw[hq] at KC HE;clear hq;go_wp2_with fail;(with_reducible refine KC.out.mono ?_);rintro e w1_ ⟨rfl,hb⟩;have B1_:=zz (B0.out.below hb);clear hb B0 KC x0 x1 x2 x3 x4 hw;obtain⟨x0,x1,x2,x3,x4⟩:=B1_.out.cs;have S1:Shp w1_ (.func (.func 94) #[] #[]) (d+1) (zad f .set):=(HI.out .set).shp (cfR .set) w1_;have KC:=zz (zct w1_ _ (d+1) _ S1 l A c HF.out B1_.out.rd);clear S1;go_wp2_with fail;(with_reducible refine KC.out.mono ?_);rintro e w2_ ⟨rfl,hb⟩;have B2_:=zz (B1_.out.below hb);clear hb B1_ KC x0 x1 x2 x3 x4;obtain⟨x0,x1,x2,x3,x4⟩:=B2_.out.cs;go_wp2_with fail;go_ret;exact⟨by rw[HE.out];rfl,B2_.out.low⟩
 by_cases hk29:kd=29
 ·subst hk29;have HE:Hid (zdz (zad f) (.mk 29 tx nn at' l)=(zav zaw (.mk 29 tx nn at' l)&&l.all (zad f .expr))):=zz rfl;go_enter Tryz.func91,Tryz.ntmps91;cases hq:zav zaw (.mk 29 tx nn at' l) with
  |false=>
   have KC:=zz (zal zaX 29 tx nn at' l A c HT.out w0);rw[hq] at KC HE;clear hq;go_wp2_with fail;(with_reducible refine KC.out.mono ?_);rintro e w1_ ⟨rfl,hb⟩;have B1_:=zz (B0.out.below hb);clear hb B0 KC x0 x1 x2 x3 x4 hw;obtain⟨x0,x1,x2,x3,x4⟩:=B1_.out.cs;go_wp2_with fail;go_ret;exact⟨by rw[HE.out];rfl,B1_.out.low⟩
  |true=>
   have KC:=zz (zal zaX 29 tx nn at' l A c HT.out w0);rw[hq] at KC HE;clear hq;go_wp2_with fail;(with_reducible refine KC.out.mono ?_);rintro e w1_ ⟨rfl,hb⟩;have B1_:=zz (B0.out.below hb);clear hb B0 KC x0 x1 x2 x3 x4 hw;obtain⟨x0,x1,x2,x3,x4⟩:=B1_.out.cs;have S1:Shp w1_ (.func (.func 91) #[] #[]) (d+1) (zad f .expr):=(HI.out .expr).shp (cfR .expr) w1_;have KC:=zz (zct w1_ _ (d+1) _ S1 l A c HF.out B1_.out.rd);clear S1;go_wp2_with fail;(with_reducible refine KC.out.mono ?_);rintro e w2_ ⟨rfl,hb⟩;have B2_:=zz (B1_.out.below hb);clear hb B1_ KC x0 x1 x2 x3 x4;obtain⟨x0,x1,x2,x3,x4⟩:=B2_.out.cs;go_wp2_with fail;go_ret;exact⟨by rw[HE.out];rfl,B2_.out.low⟩
 by_cases hk30:kd=30
 ·subst hk30;have HE:Hid (zdz (zad f) (.mk 30 tx nn at' l)=(zav zaH (.mk 30 tx nn at' l)&&zaA l [zad f .expr])):=zz rfl;go_enter Tryz.func91,Tryz.ntmps91;cases hq:zav zaH (.mk 30 tx nn at' l) with
  |false=>
   have KC:=zz (zal zbi 30 tx nn at' l A c HT.out w0);rw[hq] at KC HE;clear hq;go_wp2_with fail;(with_reducible refine KC.out.mono ?_);rintro e w1_ ⟨rfl,hb⟩;have B1_:=zz (B0.out.below hb);clear hb B0 KC x0 x1 x2 x3 x4 hw;obtain⟨x0,x1,x2,x3,x4⟩:=B1_.out.cs;go_wp2_with fail;go_ret;exact⟨by rw[HE.out];rfl,B1_.out.low⟩
  |true=>
   have KC:=zz (zal zbi 30 tx nn at' l A c HT.out w0);rw[hq] at KC HE;clear hq;go_wp2_with fail;(with_reducible refine KC.out.mono ?_);rintro e w1_ ⟨rfl,hb⟩;have B1_:=zz (B0.out.below hb);clear hb B0 KC x0 x1 x2 x3 x4 hw;obtain⟨x0,x1,x2,x3,x4⟩:=B1_.out.cs;have S1:Shp w1_ (.func (.func 91) #[] #[]) (d+1) (zad f .expr):=(HI.out .expr).shp (cfR .expr) w1_;have FS:=FsAt.new1 S1;obtain⟨w2_,hw2_⟩:∃W,w1_.alloc (.cells #[.func (.func 91) #[] #[]] 150)=W:=⟨_,rfl⟩;rw[hw2_] at FS;have B2_:=zz (B1_.out.below (show Below w1_.heap.size w1_ w2_ from by rw[←hw2_];exact zag _ _));have KC:=zz (zaW w2_ (d+1) _ w1_.heap.size _ FS 1 rfl (by omega) l A c HF.out B2_.out.rd);clear FS S1;clear B1_;go_wp2_with fail;(with_reducible refine KC.out.mono ?_);rintro e w3_ ⟨rfl,hb⟩;have B3_:=zz (B2_.out.below hb);clear hb B2_ KC x0 x1 x2 x3 x4 hw2_;obtain⟨x0,x1,x2,x3,x4⟩:=B3_.out.cs;go_wp2_with fail;go_ret;exact⟨by rw[HE.out];rfl,B3_.out.low⟩
 by_cases hk31:kd=31
 ·subst hk31;have HE:Hid (zdz (zad f) (.mk 31 tx nn at' l)=(zbf (.mk 31 tx nn at' l)&&decide (1<l.length)&&zef l (zad f .expr) (zad f .set))):=zz rfl;go_enter Tryz.func91,Tryz.ntmps91;cases hq:zbf (.mk 31 tx nn at' l) with
  |false=>
   have KC:=zz (zaG 31 tx nn at' l A c w0);rw[hq] at KC HE;clear hq;go_wp2_with fail;(with_reducible refine KC.out.mono ?_);rintro e w1_ ⟨rfl,hb⟩;have B1_:=zz (B0.out.below hb);clear hb B0 KC x0 x1 x2 x3 x4 hw;obtain⟨x0,x1,x2,x3,x4⟩:=B1_.out.cs;go_wp2_with fail;go_ret;exact⟨by rw[HE.out];rfl,B1_.out.low⟩
  |true=>
   have KC:=zz (zaG 31 tx nn at' l A c w0);rw[hq] at KC HE;clear hq;go_wp2_with fail;(with_reducible refine KC.out.mono ?_);rintro e w1_ ⟨rfl,hb⟩;have B1_:=zz (B0.out.below hb);clear hb B0 KC x0 x1 x2 x3 x4 hw;obtain⟨x0,x1,x2,x3,x4⟩:=B1_.out.cs
   by_cases hq:¬(1<l.length)
   ·rw[decide_eq_false hq] at HE;have e1_0:¬(1:Int)<(l.length:Int):=by omega
    clear hq;go_wp2_with fail;go_ret;exact⟨by rw[HE.out];rfl,B1_.out.low⟩
   ·replace hq:=Decidable.of_not_not hq;rw[decide_eq_true hq] at HE;have e1_0:(1:Int)<(l.length:Int):=by omega
    clear hq;have S1:Shp w1_ (.func (.func 91) #[] #[]) (d+1) (zad f .expr):=(HI.out .expr).shp (cfR .expr) w1_;have S2:Shp w1_ (.func (.func 94) #[] #[]) (d+1) (zad f .set):=(HI.out .set).shp (cfR .set) w1_;have KC:=zz (zea w1_ (d+1) _ _ _ _ S1 S2 l A c HF.out B1_.out.rd);clear S1 S2;go_wp2_with fail;(with_reducible refine KC.out.mono ?_);rintro e w2_ ⟨rfl,hb⟩;have B2_:=zz (B1_.out.below hb);clear hb B1_ KC x0 x1 x2 x3 x4;obtain⟨x0,x1,x2,x3,x4⟩:=B2_.out.cs;go_wp2_with fail;go_ret;exact⟨by rw[HE.out];rfl,B2_.out.low⟩
 by_cases hk32:kd=32
 ·subst hk32;have HE:Hid (zdz (zad f) (.mk 32 tx nn at' l)=(zbf (.mk 32 tx nn at' l)&&zef l (zad f .expr) (zad f .expr))):=zz rfl;go_enter Tryz.func91,Tryz.ntmps91;cases hq:zbf (.mk 32 tx nn at' l) with
  |false=>
   have KC:=zz (zaG 32 tx nn at' l A c w0);rw[hq] at KC HE;clear hq;go_wp2_with fail;(with_reducible refine KC.out.mono ?_);rintro e w1_ ⟨rfl,hb⟩;have B1_:=zz (B0.out.below hb);clear hb B0 KC x0 x1 x2 x3 x4 hw;obtain⟨x0,x1,x2,x3,x4⟩:=B1_.out.cs;go_wp2_with fail;go_ret;exact⟨by rw[HE.out];rfl,B1_.out.low⟩
  |true=>
   have KC:=zz (zaG 32 tx nn at' l A c w0);rw[hq] at KC HE;clear hq;go_wp2_with fail;(with_reducible refine KC.out.mono ?_);rintro e w1_ ⟨rfl,hb⟩;have B1_:=zz (B0.out.below hb);clear hb B0 KC x0 x1 x2 x3 x4 hw;obtain⟨x0,x1,x2,x3,x4⟩:=B1_.out.cs;have S1:Shp w1_ (.func (.func 91) #[] #[]) (d+1) (zad f .expr):=(HI.out .expr).shp (cfR .expr) w1_;have S2:Shp w1_ (.func (.func 91) #[] #[]) (d+1) (zad f .expr):=(HI.out .expr).shp (cfR .expr) w1_;have KC:=zz (zea w1_ (d+1) _ _ _ _ S1 S2 l A c HF.out B1_.out.rd);clear S1 S2;go_wp2_with fail;(with_reducible refine KC.out.mono ?_);rintro e w2_ ⟨rfl,hb⟩;have B2_:=zz (B1_.out.below hb);clear hb B1_ KC x0 x1 x2 x3 x4;obtain⟨x0,x1,x2,x3,x4⟩:=B2_.out.cs;go_wp2_with fail;go_ret;exact⟨by rw[HE.out];rfl,B2_.out.low⟩
 by_cases hk33:kd=33
 ·subst hk33;have HE:Hid (zdz (zad f) (.mk 33 tx nn at' l)=(zbf (.mk 33 tx nn at' l)&&zaA l [zad f .expr])):=zz rfl;go_enter Tryz.func91,Tryz.ntmps91;cases hq:zbf (.mk 33 tx nn at' l) with
  |false=>
   have KC:=zz (zaG 33 tx nn at' l A c w0);rw[hq] at KC HE;clear hq;go_wp2_with fail;(with_reducible refine KC.out.mono ?_);rintro e w1_ ⟨rfl,hb⟩;have B1_:=zz (B0.out.below hb);clear hb B0 KC x0 x1 x2 x3 x4 hw;obtain⟨x0,x1,x2,x3,x4⟩:=B1_.out.cs;go_wp2_with fail;go_ret;exact⟨by rw[HE.out];rfl,B1_.out.low⟩
  |true=>
   have KC:=zz (zaG 33 tx nn at' l A c w0);rw[hq] at KC HE;clear hq;go_wp2_with fail;(with_reducible refine KC.out.mono ?_);rintro e w1_ ⟨rfl,hb⟩;have B1_:=zz (B0.out.below hb);clear hb B0 KC x0 x1 x2 x3 x4 hw;obtain⟨x0,x1,x2,x3,x4⟩:=B1_.out.cs;have S1:Shp w1_ (.func (.func 91) #[] #[]) (d+1) (zad f .expr):=(HI.out .expr).shp (cfR .expr) w1_;have FS:=FsAt.new1 S1;obtain⟨w2_,hw2_⟩:∃W,w1_.alloc (.cells #[.func (.func 91) #[] #[]] 150)=W:=⟨_,rfl⟩;rw[hw2_] at FS;have B2_:=zz (B1_.out.below (show Below w1_.heap.size w1_ w2_ from by rw[←hw2_];exact zag _ _));have KC:=zz (zaW w2_ (d+1) _ w1_.heap.size _ FS 1 rfl (by omega) l A c HF.out B2_.out.rd);clear FS S1;clear B1_;go_wp2_with fail;(with_reducible refine KC.out.mono ?_);rintro e w3_ ⟨rfl,hb⟩;have B3_:=zz (B2_.out.below hb);clear hb B2_ KC x0 x1 x2 x3 x4 hw2_;obtain⟨x0,x1,x2,x3,x4⟩:=B3_.out.cs;go_wp2_with fail;go_ret;exact⟨by rw[HE.out];rfl,B3_.out.low⟩
 by_cases hk34:kd=34
 ·subst hk34;have HE:Hid (zdz (zad f) (.mk 34 tx nn at' l)=(zbf (.mk 34 tx nn at' l)&&zaA l [zad f .expr])):=zz rfl;go_enter Tryz.func91,Tryz.ntmps91;cases hq:zbf (.mk 34 tx nn at' l) with
  |false=>
   have KC:=zz (zaG 34 tx nn at' l A c w0);rw[hq] at KC HE;clear hq;go_wp2_with fail;(with_reducible refine KC.out.mono ?_);rintro e w1_ ⟨rfl,hb⟩;have B1_:=zz (B0.out.below hb);clear hb B0 KC x0 x1 x2 x3 x4 hw;obtain⟨x0,x1,x2,x3,x4⟩:=B1_.out.cs;go_wp2_with fail;go_ret;exact⟨by rw[HE.out];rfl,B1_.out.low⟩
  |true=>
   have KC:=zz (zaG 34 tx nn at' l A c w0);rw[hq] at KC HE;clear hq;go_wp2_with fail;(with_reducible refine KC.out.mono ?_);rintro e w1_ ⟨rfl,hb⟩;have B1_:=zz (B0.out.below hb);clear hb B0 KC x0 x1 x2 x3 x4 hw;obtain⟨x0,x1,x2,x3,x4⟩:=B1_.out.cs;have S1:Shp w1_ (.func (.func 91) #[] #[]) (d+1) (zad f .expr):=(HI.out .expr).shp (cfR .expr) w1_;have FS:=FsAt.new1 S1;obtain⟨w2_,hw2_⟩:∃W,w1_.alloc (.cells #[.func (.func 91) #[] #[]] 150)=W:=⟨_,rfl⟩;rw[hw2_] at FS;have B2_:=zz (B1_.out.below (show Below w1_.heap.size w1_ w2_ from by rw[←hw2_];exact zag _ _));have KC:=zz (zaW w2_ (d+1) _ w1_.heap.size _ FS 1 rfl (by omega) l A c HF.out B2_.out.rd);clear FS S1;clear B1_;go_wp2_with fail;(with_reducible refine KC.out.mono ?_);rintro e w3_ ⟨rfl,hb⟩;have B3_:=zz (B2_.out.below hb);clear hb B2_ KC x0 x1 x2 x3 x4 hw2_;obtain⟨x0,x1,x2,x3,x4⟩:=B3_.out.cs;go_wp2_with fail;go_ret;exact⟨by rw[HE.out];rfl,B3_.out.low⟩
 by_cases hk35:kd=35
 ·subst hk35;have HE:Hid (zdz (zad f) (.mk 35 tx nn at' l)=((zfg tx).isSome&&decide (nn=0)&&zaA l [zad f .expr,zad f .expr])):=zz rfl;go_enter Tryz.func91,Tryz.ntmps91;cases hlv:zfg tx with
  |none=>
   rw[hlv] at HE;have HL:=zz hlv;clear hlv;go_wp2_with fail
   go_region_held3 (λw'=>w'.cell? ⟨w.heap.size,1,none⟩=some (.string tx)) (go_keep) (first|(go_at_call 53;go_loud ((with_reducible refine(zeN _).mono ?_);rintro e w1_ ⟨rfl,hm,hb⟩;have B1_:=zz ((BxN.drew B0.out).below hb);have hlk:=zrm (m:=w0.heap.size) hm HL.out;clear hb hm B0 x0 x1 x2 x3 x4 hw;have x1:w1_.cell? ⟨w.heap.size,1,none⟩=some (.string tx):=B1_.out.c1)))
   clear x1;obtain⟨x0,x1,x2,x3,x4⟩:=B1_.out.cs;go_wp2_with fail;go_ret;exact⟨by rw[HE.out];rfl,B1_.out.low⟩
  |some lv=>
   rw[hlv] at HE;have HL:=zz hlv;clear hlv;go_wp2_with fail
   go_region_held3 (λw'=>w'.cell? ⟨w.heap.size,1,none⟩=some (.string tx)) (go_keep) (first|(go_at_call 53;go_loud ((with_reducible refine(zeN _).mono ?_);rintro e w1_ ⟨rfl,hm,hb⟩;have B1_:=zz ((BxN.drew B0.out).below hb);have hlk:=zqW (m:=w0.heap.size) hm HL.out;clear hb hm B0 x0 x1 x2 x3 x4 hw;have x1:w1_.cell? ⟨w.heap.size,1,none⟩=some (.string tx):=B1_.out.c1)))
   clear x1;obtain⟨x0,x1,x2,x3,x4⟩:=B1_.out.cs
   by_cases hq:¬(nn=0)
   ·rw[decide_eq_false hq] at HE;have e1_0:(nn == 0)=false:=by simp[hq]
    clear hq;go_wp2_with fail;go_ret;exact⟨by rw[HE.out];rfl,B1_.out.low⟩
   ·replace hq:=Decidable.of_not_not hq;rw[decide_eq_true hq] at HE;have e1_0:(nn == 0)=true:=by simp[hq]
    clear hq;have S1:Shp w1_ (.func (.func 91) #[] #[]) (d+1) (zad f .expr):=(HI.out .expr).shp (cfR .expr) w1_;have S2:Shp w1_ (.func (.func 91) #[] #[]) (d+1) (zad f .expr):=(HI.out .expr).shp (cfR .expr) w1_;have FS:=FsAt.new2 S1 S2;obtain⟨w2_,hw2_⟩:∃W,w1_.alloc (.cells #[.func (.func 91) #[] #[],.func (.func 91) #[] #[]] 150)=W:=⟨_,rfl⟩;rw[hw2_] at FS;have B2_:=zz (B1_.out.below (show Below w1_.heap.size w1_ w2_ from by rw[←hw2_];exact zag _ _));have KC:=zz (zaW w2_ (d+1) _ w1_.heap.size _ FS 2 rfl (by omega) l A c HF.out B2_.out.rd);clear FS S1 S2;clear B1_;go_wp2_with fail;(with_reducible refine KC.out.mono ?_);rintro e w3_ ⟨rfl,hb⟩;have B3_:=zz (B2_.out.below hb);clear hb B2_ KC x0 x1 x2 x3 x4 hw2_;obtain⟨x0,x1,x2,x3,x4⟩:=B3_.out.cs;go_wp2_with fail;go_ret;exact⟨by rw[HE.out];rfl,B3_.out.low⟩
 by_cases hk36:kd=36
 ·subst hk36;have HE:Hid (zdz (zad f) (.mk 36 tx nn at' l)=(zbf (.mk 36 tx nn at' l)&&zaA l [zad f .expr,zad f .expr,zad f .expr])):=zz rfl;go_enter Tryz.func91,Tryz.ntmps91;cases hq:zbf (.mk 36 tx nn at' l) with
  |false=>
   have KC:=zz (zaG 36 tx nn at' l A c w0);rw[hq] at KC HE;clear hq;go_wp2_with fail;(with_reducible refine KC.out.mono ?_);rintro e w1_ ⟨rfl,hb⟩;have B1_:=zz (B0.out.below hb);clear hb B0 KC x0 x1 x2 x3 x4 hw;obtain⟨x0,x1,x2,x3,x4⟩:=B1_.out.cs;go_wp2_with fail;go_ret;exact⟨by rw[HE.out];rfl,B1_.out.low⟩
  |true=>
   have KC:=zz (zaG 36 tx nn at' l A c w0);rw[hq] at KC HE;clear hq;go_wp2_with fail;(with_reducible refine KC.out.mono ?_);rintro e w1_ ⟨rfl,hb⟩;have B1_:=zz (B0.out.below hb);clear hb B0 KC x0 x1 x2 x3 x4 hw;obtain⟨x0,x1,x2,x3,x4⟩:=B1_.out.cs;have S1:Shp w1_ (.func (.func 91) #[] #[]) (d+1) (zad f .expr):=(HI.out .expr).shp (cfR .expr) w1_;have S2:Shp w1_ (.func (.func 91) #[] #[]) (d+1) (zad f .expr):=(HI.out .expr).shp (cfR .expr) w1_;have S3:Shp w1_ (.func (.func 91) #[] #[]) (d+1) (zad f .expr):=(HI.out .expr).shp (cfR .expr) w1_;have FS:=FsAt.new3 S1 S2 S3;obtain⟨w2_,hw2_⟩:∃W,w1_.alloc (.cells #[.func (.func 91) #[] #[],.func (.func 91) #[] #[],.func (.func 91) #[] #[]] 150)=W:=⟨_,rfl⟩;rw[hw2_] at FS;have B2_:=zz (B1_.out.below (show Below w1_.heap.size w1_ w2_ from by rw[←hw2_];exact zag _ _));have KC:=zz (zaW w2_ (d+1) _ w1_.heap.size _ FS 3 rfl (by omega) l A c HF.out B2_.out.rd);clear FS S1 S2 S3;clear B1_;go_wp2_with fail;(with_reducible refine KC.out.mono ?_);rintro e w3_ ⟨rfl,hb⟩;have B3_:=zz (B2_.out.below hb);clear hb B2_ KC x0 x1 x2 x3 x4 hw2_;obtain⟨x0,x1,x2,x3,x4⟩:=B3_.out.cs;go_wp2_with fail;go_ret;exact⟨by rw[HE.out];rfl,B3_.out.low⟩
 by_cases hk37:kd=37
 ·subst hk37;have HE:Hid (zdz (zad f) (.mk 37 tx nn at' l)=(zav zaH (.mk 37 tx nn at' l)&&zaA l [zad f .expr,zad f .expr])):=zz rfl;go_enter Tryz.func91,Tryz.ntmps91;cases hq:zav zaH (.mk 37 tx nn at' l) with
  |false=>
   have KC:=zz (zal zbi 37 tx nn at' l A c HT.out w0);rw[hq] at KC HE;clear hq;go_wp2_with fail;(with_reducible refine KC.out.mono ?_);rintro e w1_ ⟨rfl,hb⟩;have B1_:=zz (B0.out.below hb);clear hb B0 KC x0 x1 x2 x3 x4 hw;obtain⟨x0,x1,x2,x3,x4⟩:=B1_.out.cs;go_wp2_with fail;go_ret;exact⟨by rw[HE.out];rfl,B1_.out.low⟩
  |true=>
   have KC:=zz (zal zbi 37 tx nn at' l A c HT.out w0);rw[hq] at KC HE;clear hq;go_wp2_with fail;(with_reducible refine KC.out.mono ?_);rintro e w1_ ⟨rfl,hb⟩;have B1_:=zz (B0.out.below hb);clear hb B0 KC x0 x1 x2 x3 x4 hw;obtain⟨x0,x1,x2,x3,x4⟩:=B1_.out.cs;have S1:Shp w1_ (.func (.func 91) #[] #[]) (d+1) (zad f .expr):=(HI.out .expr).shp (cfR .expr) w1_;have S2:Shp w1_ (.func (.func 91) #[] #[]) (d+1) (zad f .expr):=(HI.out .expr).shp (cfR .expr) w1_;have FS:=FsAt.new2 S1 S2;obtain⟨w2_,hw2_⟩:∃W,w1_.alloc (.cells #[.func (.func 91) #[] #[],.func (.func 91) #[] #[]] 150)=W:=⟨_,rfl⟩;rw[hw2_] at FS;have B2_:=zz (B1_.out.below (show Below w1_.heap.size w1_ w2_ from by rw[←hw2_];exact zag _ _));have KC:=zz (zaW w2_ (d+1) _ w1_.heap.size _ FS 2 rfl (by omega) l A c HF.out B2_.out.rd);clear FS S1 S2;clear B1_;go_wp2_with fail;(with_reducible refine KC.out.mono ?_);rintro e w3_ ⟨rfl,hb⟩;have B3_:=zz (B2_.out.below hb);clear hb B2_ KC x0 x1 x2 x3 x4 hw2_;obtain⟨x0,x1,x2,x3,x4⟩:=B3_.out.cs;go_wp2_with fail;go_ret;exact⟨by rw[HE.out];rfl,B3_.out.low⟩
 by_cases hk38:kd=38
 ·subst hk38;have HE:Hid (zdz (zad f) (.mk 38 tx nn at' l)=(zbf (.mk 38 tx nn at' l)&&decide (1<l.length)&&zef l (zad f .expr) (zad f .arm))):=zz rfl;go_enter Tryz.func91,Tryz.ntmps91;cases hq:zbf (.mk 38 tx nn at' l) with
  |false=>
   have KC:=zz (zaG 38 tx nn at' l A c w0);rw[hq] at KC HE;clear hq;go_wp2_with fail;(with_reducible refine KC.out.mono ?_);rintro e w1_ ⟨rfl,hb⟩;have B1_:=zz (B0.out.below hb);clear hb B0 KC x0 x1 x2 x3 x4 hw;obtain⟨x0,x1,x2,x3,x4⟩:=B1_.out.cs;go_wp2_with fail;go_ret;exact⟨by rw[HE.out];rfl,B1_.out.low⟩
  |true=>
   have KC:=zz (zaG 38 tx nn at' l A c w0);rw[hq] at KC HE;clear hq;go_wp2_with fail;(with_reducible refine KC.out.mono ?_);rintro e w1_ ⟨rfl,hb⟩;have B1_:=zz (B0.out.below hb);clear hb B0 KC x0 x1 x2 x3 x4 hw;obtain⟨x0,x1,x2,x3,x4⟩:=B1_.out.cs
   by_cases hq:¬(1<l.length)
   ·rw[decide_eq_false hq] at HE;have e1_0:¬(1:Int)<(l.length:Int):=by omega
    clear hq;go_wp2_with fail;go_ret;exact⟨by rw[HE.out];rfl,B1_.out.low⟩
   ·replace hq:=Decidable.of_not_not hq;rw[decide_eq_true hq] at HE;have e1_0:(1:Int)<(l.length:Int):=by omega
    clear hq;have S1:Shp w1_ (.func (.func 91) #[] #[]) (d+1) (zad f .expr):=(HI.out .expr).shp (cfR .expr) w1_;have S2:Shp w1_ (.func (.func 130) #[] #[]) (d+1) (zad f .arm):=(HI.out .arm).shp (cfR .arm) w1_;have KC:=zz (zea w1_ (d+1) _ _ _ _ S1 S2 l A c HF.out B1_.out.rd);clear S1 S2;go_wp2_with fail;(with_reducible refine KC.out.mono ?_);rintro e w2_ ⟨rfl,hb⟩;have B2_:=zz (B1_.out.below hb);clear hb B1_ KC x0 x1 x2 x3 x4;obtain⟨x0,x1,x2,x3,x4⟩:=B2_.out.cs;go_wp2_with fail;go_ret;exact⟨by rw[HE.out];rfl,B2_.out.low⟩
 by_cases hk41:kd=41
 ·subst hk41;have HE:Hid (zdz (zad f) (.mk 41 tx nn at' l)=(zbf (.mk 41 tx nn at' l)&&zcg l (zad f .field) [zad f .type,zad f .expr])):=zz rfl;go_enter Tryz.func91,Tryz.ntmps91;cases hq:zbf (.mk 41 tx nn at' l) with
  |false=>
   have KC:=zz (zaG 41 tx nn at' l A c w0);rw[hq] at KC HE;clear hq;go_wp2_with fail;(with_reducible refine KC.out.mono ?_);rintro e w1_ ⟨rfl,hb⟩;have B1_:=zz (B0.out.below hb);clear hb B0 KC x0 x1 x2 x3 x4 hw;obtain⟨x0,x1,x2,x3,x4⟩:=B1_.out.cs;go_wp2_with fail;go_ret;exact⟨by rw[HE.out];rfl,B1_.out.low⟩
  |true=>
   have KC:=zz (zaG 41 tx nn at' l A c w0);rw[hq] at KC HE;clear hq;go_wp2_with fail;(with_reducible refine KC.out.mono ?_);rintro e w1_ ⟨rfl,hb⟩;have B1_:=zz (B0.out.below hb);clear hb B0 KC x0 x1 x2 x3 x4 hw;obtain⟨x0,x1,x2,x3,x4⟩:=B1_.out.cs;have S1:Shp w1_ (.func (.func 90) #[] #[]) (d+1) (zad f .type):=(HI.out .type).shp (cfR .type) w1_;have S2:Shp w1_ (.func (.func 91) #[] #[]) (d+1) (zad f .expr):=(HI.out .expr).shp (cfR .expr) w1_;have FS:=FsAt.new2 S1 S2;obtain⟨w2_,hw2_⟩:∃W,w1_.alloc (.cells #[.func (.func 90) #[] #[],.func (.func 91) #[] #[]] 150)=W:=⟨_,rfl⟩;rw[hw2_] at FS;have B2_:=zz (B1_.out.below (show Below w1_.heap.size w1_ w2_ from by rw[←hw2_];exact zag _ _));have S0:Shp w2_ (.func (.func 86) #[] #[]) (d+1) (zad f .field):=(HI.out .field).shp (cfR .field) w2_;have KC:=zz (zcP w2_ (d+1) _ _ S0 _ w1_.heap.size _ FS 2 rfl (by omega) (by omega) l A c HF.out B2_.out.rd);clear FS S0 S1 S2;clear B1_;go_wp2_with fail;(with_reducible refine KC.out.mono ?_);rintro e w3_ ⟨rfl,hb⟩;have B3_:=zz (B2_.out.below hb);clear hb B2_ KC x0 x1 x2 x3 x4 hw2_;obtain⟨x0,x1,x2,x3,x4⟩:=B3_.out.cs;go_wp2_with fail;go_ret;exact⟨by rw[HE.out];rfl,B3_.out.low⟩
 have HE:Hid (zdz (zad f) (.mk kd tx nn at' l)=false):=zz (by simp[zdz,Nd.kind,hk20,hk21,hk22,hk23,hk24,hk25,hk26,hk27,hk29,hk30,hk31,hk32,hk33,hk34,hk35,hk36,hk37,hk38,hk41]);have ek20:(kd == 20)=false:=by simp[hk20]
 have ek21:(kd == 21)=false:=by simp[hk21]
 have ek22:(kd == 22)=false:=by simp[hk22]
 have ek23:(kd == 23)=false:=by simp[hk23]
 have ek24:(kd == 24)=false:=by simp[hk24]
 have ek25:(kd == 25)=false:=by simp[hk25]
 have ek26:(kd == 26)=false:=by simp[hk26]
 have ek27:(kd == 27)=false:=by simp[hk27]
 have ek29:(kd == 29)=false:=by simp[hk29]
 have ek30:(kd == 30)=false:=by simp[hk30]
 have ek31:(kd == 31)=false:=by simp[hk31]
 have ek32:(kd == 32)=false:=by simp[hk32]
 have ek33:(kd == 33)=false:=by simp[hk33]
 have ek34:(kd == 34)=false:=by simp[hk34]
 have ek35:(kd == 35)=false:=by simp[hk35]
 have ek36:(kd == 36)=false:=by simp[hk36]
 have ek37:(kd == 37)=false:=by simp[hk37]
 have ek38:(kd == 38)=false:=by simp[hk38]
 have ek41:(kd == 41)=false:=by simp[hk41]
 clear hk20 hk21 hk22 hk23 hk24 hk25 hk26 hk27 hk29 hk30 hk31 hk32 hk33 hk34 hk35 hk36 hk37 hk38 hk41;go_enter Tryz.func91,Tryz.ntmps91;go_wp2_with fail;go_ret;exact⟨by rw[HE.out];rfl,B0.out.low⟩
end Go.Proofs.YtjdpocmlimkjjaaGreat
