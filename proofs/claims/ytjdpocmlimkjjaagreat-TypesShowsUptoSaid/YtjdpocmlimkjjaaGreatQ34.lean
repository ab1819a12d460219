/- Conditions: those in each statement. -/
import Derived.Test.YtjdpocmlimkjjaaGreatQ10
import Derived.Test.YtjdpocmlimkjjaaGreatProg
import Derived.Test.YtjdpocmlimkjjaaGreatQ03
import Derived.Test.YtjdpocmlimkjjaaGreatQ06
set_option maxHeartbeats 32000000
set_option maxRecDepth 100000
namespace Go.Proofs.YtjdpocmlimkjjaaGreat
open Go.RowKit
def fnR:ST→FuncId
 |.type=>90
 |.field=>86
 |.expr=>91
 |.set=>94
 |.arm=>130
 |.block=>131
 |.stmt=>141
 |.sarm=>148
 |.send=>149
theorem cfR (st:ST):∀(x y:Value) (W:World),(callFunc (fnR st) #[x,y]).run Tryz.prog W=.ok (.enter (fnR st) #[x,y]) W:=λx y W=>by cases st<;>kernel_rfl
theorem zeb {l:List Nd} (h:l.isEmpty=true):((l.length:Int) == 0)=true:=by cases l with|nil=>rfl|cons _ _=>cases h
theorem zdZ {l:List Nd} (h:l.isEmpty=false):((l.length:Int) == 0)=false:=by cases l with|nil=>cases h|cons _ r=>rw[beq_eq_false_iff_ne,List.length_cons];omega
theorem zcS {l:List Nd} (h:l.isEmpty=true):¬(0:Int)<(l.length:Int):=by cases l with|nil=>simp|cons _ _=>cases h
theorem zcV {l:List Nd} (h:l.isEmpty=false):(0:Int)<(l.length:Int):=by cases l with|nil=>cases h|cons _ r=>rw[List.length_cons];omega
theorem zpg (f:Nat) (d:Int) (hd:(f:Int)+1+d=41) (hd0:0≤d) (IH:∀st,ShpC (fnR st) (d+1) (zad f st)) (kd:Int) (tx:ByteArray) (nn at':Int) (l:List Nd) (A:Option Addr) (c:Nat) (ht:tx.size≤32768) (hf:fitL l=true) (w:World) (h:Rd (Lt w.heap.size) w (ns l) (.slice A l.length c)) :
 Calls Tryz.prog 90 #[nd5 kd tx nn at' l A c,.int .i64 d] w λe w'=>e=.returned (.bool (zhG (zad f) (.mk kd tx nn at' l)))∧Below w.heap.size w w':=by
 have hl:=zaD h;have hn:l.length≤9223372036854775807:=Nat.le_trans hl.2.1 hl.2.2;have B0r:=BxN.new (w:=w) (kd:=kd) (tx:=tx) (nn:=nn) (at':=at') h;obtain⟨w0,hw⟩:∃W,w.alloc (.cells #[.int .i64 kd,.string tx,.int .i64 nn,.int .i64 at',.slice A l.length c] 25)=W:=⟨_,rfl⟩;rw[hw] at B0r;have B0:=zz B0r;clear B0r;have HF:=zz hf;have HT:=zz ht;obtain⟨x0,x1,x2,x3,x4⟩:=B0.out.cs;clear h hl hf ht;have hdm:d≤40:=by omega
 have hdm2:¬(40:Int)<d:=by omega
 have hwd:IntKind.i64.wrap (d+1)=d+1:=IntWalk.i64_in _ (by omega);have HI:=zz IH;clear IH
 by_cases hk12:kd=12
 ·subst hk12;have HE:Hid (zhG (zad f) (.mk 12 tx nn at' l)=(zav zcw (.mk 12 tx nn at' l)&&l.isEmpty)):=zz rfl;go_enter Tryz.func90,Tryz.ntmps90;cases hq:zav zcw (.mk 12 tx nn at' l) with
  |false=>
   have KC:=zz (zal ziw 12 tx nn at' l A c HT.out w0);rw[hq] at KC HE;clear hq;go_wp2_with fail;(with_reducible refine KC.out.mono ?_);rintro e w1_ ⟨rfl,hb⟩;have B1_:=zz (B0.out.below hb);clear hb B0 KC x0 x1 x2 x3 x4 hw;obtain⟨x0,x1,x2,x3,x4⟩:=B1_.out.cs;go_wp2_with fail;go_ret;exact⟨by rw[HE.out];rfl,B1_.out.low⟩
  |true=>
   have KC:=zz (zal ziw 12 tx nn at' l A c HT.out w0);rw[hq] at KC HE;clear hq;go_wp2_with fail;(with_reducible refine KC.out.mono ?_);rintro e w1_ ⟨rfl,hb⟩;have B1_:=zz (B0.out.below hb);clear hb B0 KC x0 x1 x2 x3 x4 hw;obtain⟨x0,x1,x2,x3,x4⟩:=B1_.out.cs;cases hq:l.isEmpty with
   |false=>
    have e1:((l.length:Int) == 0)=false:=zdZ hq;have f1:(0:Int)<(l.length:Int):=zcV hq;rw[hq] at HE;clear hq;go_wp2_with fail;go_ret;exact⟨by rw[HE.out];rfl,B1_.out.low⟩
   |true=>
    have e1:((l.length:Int) == 0)=true:=zeb hq;have f1:¬(0:Int)<(l.length:Int):=zcS hq;rw[hq] at HE;clear hq;go_wp2_with fail;go_ret;exact⟨by rw[HE.out];rfl,B1_.out.low⟩
 by_cases hk13:kd=13
 ·subst hk13;have HE:Hid (zhG (zad f) (.mk 13 tx nn at' l)=(zbf (.mk 13 tx nn at' l)&&zaA l [zad f .type])):=zz rfl;go_enter Tryz.func90,Tryz.ntmps90;cases hq:zbf (.mk 13 tx nn at' l) with
  |false=>
   have KC:=zz (zaG 13 tx nn at' l A c w0);rw[hq] at KC HE;clear hq;go_wp2_with fail;(with_reducible refine KC.out.mono ?_);rintro e w1_ ⟨rfl,hb⟩;have B1_:=zz (B0.out.below hb);clear hb B0 KC x0 x1 x2 x3 x4 hw;obtain⟨x0,x1,x2,x3,x4⟩:=B1_.out.cs;go_wp2_with fail;go_ret;exact⟨by rw[HE.out];rfl,B1_.out.low⟩
  |true=>
   have KC:=zz (zaG 13 tx nn at' l A c w0);rw[hq] at KC HE;clear hq;go_wp2_with fail;(with_reducible refine KC.out.mono ?_);rintro e w1_ ⟨rfl,hb⟩;have B1_:=zz (B0.out.below hb);clear hb B0 KC x0 x1 x2 x3 x4 hw;obtain⟨x0,x1,x2,x3,x4⟩:=B1_.out.cs;have S1:Shp w1_ (.func (.func 90) #[] #[]) (d+1) (zad f .type):=(HI.out .type).shp (cfR .type) w1_;have FS:=FsAt.new1 S1;obtain⟨w2_,hw2_⟩:∃W,w1_.alloc (.cells #[.func (.func 90) #[] #[]] 150)=W:=⟨_,rfl⟩;rw[hw2_] at FS;have B2_:=zz (B1_.out.below (show Below w1_.heap.size w1_ w2_ from by rw[←hw2_];exact zag _ _));have KC:=zz (zaW w2_ (d+1) _ w1_.heap.size _ FS 1 rfl (by omega) l A c HF.out B2_.out.rd);clear FS S1;clear B1_;go_wp2_with fail;(with_reducible refine KC.out.mono ?_);rintro e w3_ ⟨rfl,hb⟩;have B3_:=zz (B2_.out.below hb);clear hb B2_ KC x0 x1 x2 x3 x4 hw2_;obtain⟨x0,x1,x2,x3,x4⟩:=B3_.out.cs;go_wp2_with fail;go_ret;exact⟨by rw[HE.out];rfl,B3_.out.low⟩
 by_cases hk14:kd=14
 ·subst hk14;have HE:Hid (zhG (zad f) (.mk 14 tx nn at' l)=(zav zaw (.mk 14 tx nn at' l)&&l.isEmpty)):=zz rfl;go_enter Tryz.func90,Tryz.ntmps90;cases hq:zav zaw (.mk 14 tx nn at' l) with
  |false=>
   have KC:=zz (zal zaX 14 tx nn at' l A c HT.out w0);rw[hq] at KC HE;clear hq;go_wp2_with fail;(with_reducible refine KC.out.mono ?_);rintro e w1_ ⟨rfl,hb⟩;have B1_:=zz (B0.out.below hb);clear hb B0 KC x0 x1 x2 x3 x4 hw;obtain⟨x0,x1,x2,x3,x4⟩:=B1_.out.cs;go_wp2_with fail;go_ret;exact⟨by rw[HE.out];rfl,B1_.out.low⟩
  |true=>
   have KC:=zz (zal zaX 14 tx nn at' l A c HT.out w0);rw[hq] at KC HE;clear hq;go_wp2_with fail;(with_reducible refine KC.out.mono ?_);rintro e w1_ ⟨rfl,hb⟩;have B1_:=zz (B0.out.below hb);clear hb B0 KC x0 x1 x2 x3 x4 hw;obtain⟨x0,x1,x2,x3,x4⟩:=B1_.out.cs;cases hq:l.isEmpty with
   |false=>
    have e1:((l.length:Int) == 0)=false:=zdZ hq;have f1:(0:Int)<(l.length:Int):=zcV hq;rw[hq] at HE;clear hq;go_wp2_with fail;go_ret;exact⟨by rw[HE.out];rfl,B1_.out.low⟩
   |true=>
    have e1:((l.length:Int) == 0)=true:=zeb hq;have f1:¬(0:Int)<(l.length:Int):=zcS hq;rw[hq] at HE;clear hq;go_wp2_with fail;go_ret;exact⟨by rw[HE.out];rfl,B1_.out.low⟩
 by_cases hk15:kd=15
 ·subst hk15;have HE:Hid (zhG (zad f) (.mk 15 tx nn at' l)=(zbf (.mk 15 tx nn at' l)&&!l.isEmpty&&l.all (zad f .type))):=zz rfl;go_enter Tryz.func90,Tryz.ntmps90;cases hq:zbf (.mk 15 tx nn at' l) with
  |false=>
   have KC:=zz (zaG 15 tx nn at' l A c w0);rw[hq] at KC HE;clear hq;go_wp2_with fail;(with_reducible refine KC.out.mono ?_);rintro e w1_ ⟨rfl,hb⟩;have B1_:=zz (B0.out.below hb);clear hb B0 KC x0 x1 x2 x3 x4 hw;obtain⟨x0,x1,x2,x3,x4⟩:=B1_.out.cs;go_wp2_with fail;go_ret;exact⟨by rw[HE.out];rfl,B1_.out.low⟩
  |true=>
   have KC:=zz (zaG 15 tx nn at' l A c w0);rw[hq] at KC HE;clear hq;go_wp2_with fail;(with_reducible refine KC.out.mono ?_);rintro e w1_ ⟨rfl,hb⟩;have B1_:=zz (B0.out.below hb);clear hb B0 KC x0 x1 x2 x3 x4 hw;obtain⟨x0,x1,x2,x3,x4⟩:=B1_.out.cs;cases hq:l.isEmpty with
   |true=>
    have e1:((l.length:Int) == 0)=true:=zeb hq;have f1:¬(0:Int)<(l.length:Int):=zcS hq;rw[hq] at HE;clear hq;go_wp2_with fail;go_ret;exact⟨by rw[HE.out];rfl,B1_.out.low⟩
   |false=>
    have e1:((l.length:Int) == 0)=false:=zdZ hq;have f1:(0:Int)<(l.length:Int):=zcV hq;rw[hq] at HE;clear hq;have S1:Shp w1_ (.func (.func 90) #[] #[]) (d+1) (zad f .type):=(HI.out .type).shp (cfR .type) w1_;have KC:=zz (zct w1_ _ (d+1) _ S1 l A c HF.out B1_.out.rd);clear S1;go_wp2_with fail;(with_reducible refine KC.out.mono ?_);rintro e w2_ ⟨rfl,hb⟩;have B2_:=zz (B1_.out.below hb);clear hb B1_ KC x0 x1 x2 x3 x4;obtain⟨x0,x1,x2,x3,x4⟩:=B2_.out.cs;go_wp2_with fail;go_ret;exact⟨by rw[HE.out];rfl,B2_.out.low⟩
 have HE:Hid (zhG (zad f) (.mk kd tx nn at' l)=false):=zz (by simp[zhG,Nd.kind,hk12,hk13,hk14,hk15]);have ek12:(kd == 12)=false:=by simp[hk12]
 have ek13:(kd == 13)=false:=by simp[hk13]
 have ek14:(kd == 14)=false:=by simp[hk14]
 have ek15:(kd == 15)=false:=by simp[hk15]
 clear hk12 hk13 hk14 hk15;go_enter Tryz.func90,Tryz.ntmps90;go_wp2_with fail;go_ret;exact⟨by rw[HE.out];rfl,B0.out.low⟩
theorem zlG (f:Nat) (d:Int) (hd:(f:Int)+1+d=41) (hd0:0≤d) (IH:∀st,ShpC (fnR st) (d+1) (zad f st)) (kd:Int) (tx:ByteArray) (nn at':Int) (l:List Nd) (A:Option Addr) (c:Nat) (ht:tx.size≤32768) (hf:fitL l=true) (w:World) (h:Rd (Lt w.heap.size) w (ns l) (.slice A l.length c)) :
 Calls Tryz.prog 86 #[nd5 kd tx nn at' l A c,.int .i64 d] w λe w'=>e=.returned (.bool (zhX (zad f) (.mk kd tx nn at' l)))∧Below w.heap.size w w':=by
 have hl:=zaD h;have hn:l.length≤9223372036854775807:=Nat.le_trans hl.2.1 hl.2.2;have B0r:=BxN.new (w:=w) (kd:=kd) (tx:=tx) (nn:=nn) (at':=at') h;obtain⟨w0,hw⟩:∃W,w.alloc (.cells #[.int .i64 kd,.string tx,.int .i64 nn,.int .i64 at',.slice A l.length c] 25)=W:=⟨_,rfl⟩;rw[hw] at B0r;have B0:=zz B0r;clear B0r;have HF:=zz hf;have HT:=zz ht;obtain⟨x0,x1,x2,x3,x4⟩:=B0.out.cs;clear h hl hf ht;have hdm:d≤40:=by omega
 have hdm2:¬(40:Int)<d:=by omega
 have hwd:IntKind.i64.wrap (d+1)=d+1:=IntWalk.i64_in _ (by omega);have HI:=zz IH;clear IH
 by_cases hk7:kd=7
 ·subst hk7;have HE:Hid (zhX (zad f) (.mk 7 tx nn at' l)=(true&&zav zaH (.mk 7 tx nn at' l)&&zaA l [zad f .type])):=zz rfl;go_enter Tryz.func86,Tryz.ntmps86;cases hq:zav zaH (.mk 7 tx nn at' l) with
  |false=>
   have KC:=zz (zal zbi 7 tx nn at' l A c HT.out w0);rw[hq] at KC HE;clear hq;go_wp2_with fail;(with_reducible refine KC.out.mono ?_);rintro e w1_ ⟨rfl,hb⟩;have B1_:=zz (B0.out.below hb);clear hb B0 KC x0 x1 x2 x3 x4 hw;obtain⟨x0,x1,x2,x3,x4⟩:=B1_.out.cs;go_wp2_with fail;go_ret;exact⟨by rw[HE.out];rfl,B1_.out.low⟩
  |true=>
   have KC:=zz (zal zbi 7 tx nn at' l A c HT.out w0);rw[hq] at KC HE;clear hq;go_wp2_with fail;(with_reducible refine KC.out.mono ?_);rintro e w1_ ⟨rfl,hb⟩;have B1_:=zz (B0.out.below hb);clear hb B0 KC x0 x1 x2 x3 x4 hw;obtain⟨x0,x1,x2,x3,x4⟩:=B1_.out.cs;have S1:Shp w1_ (.func (.func 90) #[] #[]) (d+1) (zad f .type):=(HI.out .type).shp (cfR .type) w1_;have FS:=FsAt.new1 S1;obtain⟨w2_,hw2_⟩:∃W,w1_.alloc (.cells #[.func (.func 90) #[] #[]] 150)=W:=⟨_,rfl⟩;rw[hw2_] at FS;have B2_:=zz (B1_.out.below (show Below w1_.heap.size w1_ w2_ from by rw[←hw2_];exact zag _ _));have KC:=zz (zaW w2_ (d+1) _ w1_.heap.size _ FS 1 rfl (by omega) l A c HF.out B2_.out.rd);clear FS S1;clear B1_;go_wp2_with fail;(with_reducible refine KC.out.mono ?_);rintro e w3_ ⟨rfl,hb⟩;have B3_:=zz (B2_.out.below hb);clear hb B2_ KC x0 x1 x2 x3 x4 hw2_;obtain⟨x0,x1,x2,x3,x4⟩:=B3_.out.cs;go_wp2_with fail;go_ret;exact⟨by rw[HE.out];rfl,B3_.out.low⟩
 have HE:Hid (zhX (zad f) (.mk kd tx nn at' l)=false):=zz (by simp[zhX,Nd.kind,hk7]);have ek7:(kd == 7)=false:=by simp[hk7]
 clear hk7;go_enter Tryz.func86,Tryz.ntmps86;go_wp2_with fail;go_ret;exact⟨by rw[HE.out];rfl,B0.out.low⟩
theorem zpm (f:Nat) (d:Int) (hd:(f:Int)+1+d=41) (hd0:0≤d) (IH:∀st,ShpC (fnR st) (d+1) (zad f st)) (kd:Int) (tx:ByteArray) (nn at':Int) (l:List Nd) (A:Option Addr) (c:Nat) (ht:tx.size≤32768) (hf:fitL l=true) (w:World) (h:Rd (Lt w.heap.size) w (ns l) (.slice A l.length c)) :
 Calls Tryz.prog 94 #[nd5 kd tx nn at' l A c,.int .i64 d] w λe w'=>e=.returned (.bool (setD (zad f) (.mk kd tx nn at' l)))∧Below w.heap.size w w':=by
 have hl:=zaD h;have hn:l.length≤9223372036854775807:=Nat.le_trans hl.2.1 hl.2.2;have B0r:=BxN.new (w:=w) (kd:=kd) (tx:=tx) (nn:=nn) (at':=at') h;obtain⟨w0,hw⟩:∃W,w.alloc (.cells #[.int .i64 kd,.string tx,.int .i64 nn,.int .i64 at',.slice A l.length c] 25)=W:=⟨_,rfl⟩;rw[hw] at B0r;have B0:=zz B0r;clear B0r;have HF:=zz hf;have HT:=zz ht;obtain⟨x0,x1,x2,x3,x4⟩:=B0.out.cs;clear h hl hf ht;have hdm:d≤40:=by omega
 have hdm2:¬(40:Int)<d:=by omega
 have hwd:IntKind.i64.wrap (d+1)=d+1:=IntWalk.i64_in _ (by omega);have HI:=zz IH;clear IH
 by_cases hk28:kd=28
 ·subst hk28;have HE:Hid (setD (zad f) (.mk 28 tx nn at' l)=(true&&zav zaH (.mk 28 tx nn at' l)&&zaA l [zad f .expr])):=zz rfl;go_enter Tryz.func94,Tryz.ntmps94;cases hq:zav zaH (.mk 28 tx nn at' l) with
  |false=>
   have KC:=zz (zal zbi 28 tx nn at' l A c HT.out w0);rw[hq] at KC HE;clear hq;go_wp2_with fail;(with_reducible refine KC.out.mono ?_);rintro e w1_ ⟨rfl,hb⟩;have B1_:=zz (B0.out.below hb);clear hb B0 KC x0 x1 x2 x3 x4 hw;obtain⟨x0,x1,x2,x3,x4⟩:=B1_.out.cs;go_wp2_with fail;go_ret;exact⟨by rw[HE.out];rfl,B1_.out.low⟩
  |true=>
   have KC:=zz (zal zbi 28 tx nn at' l A c HT.out w0);rw[hq] at KC HE;clear hq;go_wp2_with fail;(with_reducible refine KC.out.mono ?_);rintro e w1_ ⟨rfl,hb⟩;have B1_:=zz (B0.out.below hb);clear hb B0 KC x0 x1 x2 x3 x4 hw;obtain⟨x0,x1,x2,x3,x4⟩:=B1_.out.cs;have S1:Shp w1_ (.func (.func 91) #[] #[]) (d+1) (zad f .expr):=(HI.out .expr).shp (cfR .expr) w1_;have FS:=FsAt.new1 S1;obtain⟨w2_,hw2_⟩:∃W,w1_.alloc (.cells #[.func (.func 91) #[] #[]] 150)=W:=⟨_,rfl⟩;rw[hw2_] at FS;have B2_:=zz (B1_.out.below (show Below w1_.heap.size w1_ w2_ from by rw[←hw2_];exact zag _ _));have KC:=zz (zaW w2_ (d+1) _ w1_.heap.size _ FS 1 rfl (by omega) l A c HF.out B2_.out.rd);clear FS S1;clear B1_;go_wp2_with fail;(with_reducible refine KC.out.mono ?_);rintro e w3_ ⟨rfl,hb⟩;have B3_:=zz (B2_.out.below hb);clear hb B2_ KC x0 x1 x2 x3 x4 hw2_;obtain⟨x0,x1,x2,x3,x4⟩:=B3_.out.cs;go_wp2_with fail;go_ret;exact⟨by rw[HE.out];rfl,B3_.out.low⟩
 have HE:Hid (setD (zad f) (.mk kd tx nn at' l)=false):=zz (by simp[setD,Nd.kind,hk28]);have ek28:(kd == 28)=false:=by simp[hk28]
 clear hk28;go_enter Tryz.func94,Tryz.ntmps94;go_wp2_with fail;go_ret;exact⟨by rw[HE.out];rfl,B0.out.low⟩
theorem zlU (f:Nat) (d:Int) (hd:(f:Int)+1+d=41) (hd0:0≤d) (IH:∀st,ShpC (fnR st) (d+1) (zad f st)) (kd:Int) (tx:ByteArray) (nn at':Int) (l:List Nd) (A:Option Addr) (c:Nat) (ht:tx.size≤32768) (hf:fitL l=true) (w:World) (h:Rd (Lt w.heap.size) w (ns l) (.slice A l.length c)) :
 Calls Tryz.prog 131 #[nd5 kd tx nn at' l A c,.int .i64 d] w λe w'=>e=.returned (.bool (zgn (zad f) (.mk kd tx nn at' l)))∧Below w.heap.size w w':=by
 have hl:=zaD h;have hn:l.length≤9223372036854775807:=Nat.le_trans hl.2.1 hl.2.2;have B0r:=BxN.new (w:=w) (kd:=kd) (tx:=tx) (nn:=nn) (at':=at') h;obtain⟨w0,hw⟩:∃W,w.alloc (.cells #[.int .i64 kd,.string tx,.int .i64 nn,.int .i64 at',.slice A l.length c] 25)=W:=⟨_,rfl⟩;rw[hw] at B0r;have B0:=zz B0r;clear B0r;have HF:=zz hf;have HT:=zz ht;obtain⟨x0,x1,x2,x3,x4⟩:=B0.out.cs;clear h hl hf ht;have hdm:d≤40:=by omega
 have hdm2:¬(40:Int)<d:=by omega
 have hwd:IntKind.i64.wrap (d+1)=d+1:=IntWalk.i64_in _ (by omega);have HI:=zz IH;clear IH
 by_cases hk11:kd=11
 ·subst hk11;have HE:Hid (zgn (zad f) (.mk 11 tx nn at' l)=(true&&zbf (.mk 11 tx nn at' l)&&l.all (zad f .stmt))):=zz rfl;go_enter Tryz.func131,Tryz.ntmps131;cases hq:zbf (.mk 11 tx nn at' l) with
  |false=>
   have KC:=zz (zaG 11 tx nn at' l A c w0);rw[hq] at KC HE;clear hq;go_wp2_with fail;(with_reducible refine KC.out.mono ?_);rintro e w1_ ⟨rfl,hb⟩;have B1_:=zz (B0.out.below hb);clear hb B0 KC x0 x1 x2 x3 x4 hw;obtain⟨x0,x1,x2,x3,x4⟩:=B1_.out.cs;go_wp2_with fail;go_ret;exact⟨by rw[HE.out];rfl,B1_.out.low⟩
  |true=>
   have KC:=zz (zaG 11 tx nn at' l A c w0);rw[hq] at KC HE;clear hq;go_wp2_with fail;(with_reducible refine KC.out.mono ?_);rintro e w1_ ⟨rfl,hb⟩;have B1_:=zz (B0.out.below hb);clear hb B0 KC x0 x1 x2 x3 x4 hw;obtain⟨x0,x1,x2,x3,x4⟩:=B1_.out.cs;have S1:Shp w1_ (.func (.func 141) #[] #[]) (d+1) (zad f .stmt):=(HI.out .stmt).shp (cfR .stmt) w1_;have KC:=zz (zct w1_ _ (d+1) _ S1 l A c HF.out B1_.out.rd);clear S1;go_wp2_with fail;(with_reducible refine KC.out.mono ?_);rintro e w2_ ⟨rfl,hb⟩;have B2_:=zz (B1_.out.below hb);clear hb B1_ KC x0 x1 x2 x3 x4;obtain⟨x0,x1,x2,x3,x4⟩:=B2_.out.cs;go_wp2_with fail;go_ret;exact⟨by rw[HE.out];rfl,B2_.out.low⟩
 have HE:Hid (zgn (zad f) (.mk kd tx nn at' l)=false):=zz (by simp[zgn,Nd.kind,hk11]);have ek11:(kd == 11)=false:=by simp[hk11]
 clear hk11;go_enter Tryz.func131,Tryz.ntmps131;go_wp2_with fail;go_ret;exact⟨by rw[HE.out];rfl,B0.out.low⟩
theorem zjd (f:Nat) (d:Int) (hd:(f:Int)+1+d=41) (hd0:0≤d) (IH:∀st,ShpC (fnR st) (d+1) (zad f st)) (kd:Int) (tx:ByteArray) (nn at':Int) (l:List Nd) (A:Option Addr) (c:Nat) (ht:tx.size≤32768) (hf:fitL l=true) (w:World) (h:Rd (Lt w.heap.size) w (ns l) (.slice A l.length c)) :
 Calls Tryz.prog 149 #[nd5 kd tx nn at' l A c,.int .i64 d] w λe w'=>e=.returned (.bool (zlS (zad f) (.mk kd tx nn at' l)))∧Below w.heap.size w w':=by
 have hl:=zaD h;have hn:l.length≤9223372036854775807:=Nat.le_trans hl.2.1 hl.2.2;have B0r:=BxN.new (w:=w) (kd:=kd) (tx:=tx) (nn:=nn) (at':=at') h;obtain⟨w0,hw⟩:∃W,w.alloc (.cells #[.int .i64 kd,.string tx,.int .i64 nn,.int .i64 at',.slice A l.length c] 25)=W:=⟨_,rfl⟩;rw[hw] at B0r;have B0:=zz B0r;clear B0r;have HF:=zz hf;have HT:=zz ht;obtain⟨x0,x1,x2,x3,x4⟩:=B0.out.cs;clear h hl hf ht;have hdm:d≤40:=by omega
 have hdm2:¬(40:Int)<d:=by omega
 have hwd:IntKind.i64.wrap (d+1)=d+1:=IntWalk.i64_in _ (by omega);have HI:=zz IH;clear IH
 by_cases hk56:kd=56
 ·subst hk56;have HE:Hid (zlS (zad f) (.mk 56 tx nn at' l)=(true&&zav zaw (.mk 56 tx nn at' l)&&zef l (zad f .expr) (zad f .expr))):=zz rfl;go_enter Tryz.func149,Tryz.ntmps149;cases hq:zav zaw (.mk 56 tx nn at' l) with
  |false=>
   have KC:=zz (zal zaX 56 tx nn at' l A c HT.out w0);rw[hq] at KC HE;clear hq;go_wp2_with fail;(with_reducible refine KC.out.mono ?_);rintro e w1_ ⟨rfl,hb⟩;have B1_:=zz (B0.out.below hb);clear hb B0 KC x0 x1 x2 x3 x4 hw;obtain⟨x0,x1,x2,x3,x4⟩:=B1_.out.cs;go_wp2_with fail;go_ret;exact⟨by rw[HE.out];rfl,B1_.out.low⟩
  |true=>
   have KC:=zz (zal zaX 56 tx nn at' l A c HT.out w0);rw[hq] at KC HE;clear hq;go_wp2_with fail;(with_reducible refine KC.out.mono ?_);rintro e w1_ ⟨rfl,hb⟩;have B1_:=zz (B0.out.below hb);clear hb B0 KC x0 x1 x2 x3 x4 hw;obtain⟨x0,x1,x2,x3,x4⟩:=B1_.out.cs;have S1:Shp w1_ (.func (.func 91) #[] #[]) (d+1) (zad f .expr):=(HI.out .expr).shp (cfR .expr) w1_;have S2:Shp w1_ (.func (.func 91) #[] #[]) (d+1) (zad f .expr):=(HI.out .expr).shp (cfR .expr) w1_;have KC:=zz (zea w1_ (d+1) _ _ _ _ S1 S2 l A c HF.out B1_.out.rd);clear S1 S2;go_wp2_with fail;(with_reducible refine KC.out.mono ?_);rintro e w2_ ⟨rfl,hb⟩;have B2_:=zz (B1_.out.below hb);clear hb B1_ KC x0 x1 x2 x3 x4;obtain⟨x0,x1,x2,x3,x4⟩:=B2_.out.cs;go_wp2_with fail;go_ret;exact⟨by rw[HE.out];rfl,B2_.out.low⟩
 have HE:Hid (zlS (zad f) (.mk kd tx nn at' l)=false):=zz (by simp[zlS,Nd.kind,hk56]);have ek56:(kd == 56)=false:=by simp[hk56]
 clear hk56;go_enter Tryz.func149,Tryz.ntmps149;go_wp2_with fail;go_ret;exact⟨by rw[HE.out];rfl,B0.out.low⟩
end Go.Proofs.YtjdpocmlimkjjaaGreat
set_option maxHeartbeats 32000000
set_option maxRecDepth 100000
namespace Go.Proofs.YtjdpocmlimkjjaaGreat
open Go.RowKit Go.MapKept
theorem zbE {w w1 w2:World} {g:Nat} (hg:w1.grownBy w2 (some g)) (hb:Below w.heap.size w w1) (h:w.heap.size≤g):Below w.heap.size w w2:=by
 have:=hb.size;exact⟨hg.os.trans hb.os,hg.tape.trans hb.tape,hg.output.trans hb.output,Nat.le_trans hb.size hg.size,λk hk=>(hg.block k (by omega) (λe=>by have:=Option.some.inj e;omega)).trans (hb.block k hk)⟩
theorem zeN (w:World):Calls Tryz.prog 53 #[] w λe w'=>e=.returned (.map (some w.heap.size))∧zbb w' w.heap.size zhc∧Below w.heap.size w w':=by
 have hmm:=@run_makeMap Tryz.prog;have hm0:=zbb.new w;have hb0:=(Below.refl w.heap.size w).alloc (Nat.le_refl _) (.map #[] 0);obtain⟨w0,hw0⟩:∃W,w.alloc (.map #[] 0)=W:=⟨_,rfl⟩;rw[hw0] at hm0 hb0;have H0:=zz (And.intro hm0 hb0);clear hm0 hb0;obtain⟨w1,hup1,hq1,hg1,_⟩:=zar (P:=Tryz.prog) (T:=77) Tryz.underlying77 Tryz.underlying9 H0.out.1 (⟨#[111,114]⟩:ByteArray) (.int .i64 1);have H1:=zz (And.intro hq1 (zbE hg1 H0.out.2 (Nat.le_refl _)));clear hq1 hg1 H0;obtain⟨w2,hup2,hq2,hg2,_⟩:=zar (P:=Tryz.prog) (T:=77) Tryz.underlying77 Tryz.underlying9 H1.out.1 (⟨#[97,110,100]⟩:ByteArray) (.int .i64 2);have H2:=zz (And.intro hq2 (zbE hg2 H1.out.2 (Nat.le_refl _)));clear hq2 hg2 H1;obtain⟨w3,hup3,hq3,hg3,_⟩:=zar (P:=Tryz.prog) (T:=77) Tryz.underlying77 Tryz.underlying9 H2.out.1 (⟨#[61,61]⟩:ByteArray) (.int .i64 4);have H3:=zz (And.intro hq3 (zbE hg3 H2.out.2 (Nat.le_refl _)));clear hq3 hg3 H2;obtain⟨w4,hup4,hq4,hg4,_⟩:=zar (P:=Tryz.prog) (T:=77) Tryz.underlying77 Tryz.underlying9 H3.out.1 (⟨#[33,61]⟩:ByteArray) (.int .i64 4);have H4:=zz (And.intro hq4 (zbE hg4 H3.out.2 (Nat.le_refl _)));clear hq4 hg4 H3;obtain⟨w5,hup5,hq5,hg5,_⟩:=zar (P:=Tryz.prog) (T:=77) Tryz.underlying77 Tryz.underlying9 H4.out.1 (⟨#[60]⟩:ByteArray) (.int .i64 4);have H5:=zz (And.intro hq5 (zbE hg5 H4.out.2 (Nat.le_refl _)));clear hq5 hg5 H4;obtain⟨w6,hup6,hq6,hg6,_⟩:=zar (P:=Tryz.prog) (T:=77) Tryz.underlying77 Tryz.underlying9 H5.out.1 (⟨#[60,61]⟩:ByteArray) (.int .i64 4);have H6:=zz (And.intro hq6 (zbE hg6 H5.out.2 (Nat.le_refl _)));clear hq6 hg6 H5;obtain⟨w7,hup7,hq7,hg7,_⟩:=zar (P:=Tryz.prog) (T:=77) Tryz.underlying77 Tryz.underlying9 H6.out.1 (⟨#[62]⟩:ByteArray) (.int .i64 4);have H7:=zz (And.intro hq7 (zbE hg7 H6.out.2 (Nat.le_refl _)));clear hq7 hg7 H6;obtain⟨w8,hup8,hq8,hg8,_⟩:=zar (P:=Tryz.prog) (T:=77) Tryz.underlying77 Tryz.underlying9 H7.out.1 (⟨#[62,61]⟩:ByteArray) (.int .i64 4);have H8:=zz (And.intro hq8 (zbE hg8 H7.out.2 (Nat.le_refl _)));clear hq8 hg8 H7;obtain⟨w9,hup9,hq9,hg9,_⟩:=zar (P:=Tryz.prog) (T:=77) Tryz.underlying77 Tryz.underlying9 H8.out.1 (⟨#[43,43]⟩:ByteArray) (.int .i64 5);have H9:=zz (And.intro hq9 (zbE hg9 H8.out.2 (Nat.le_refl _)));clear hq9 hg9 H8;obtain⟨w10,hup10,hq10,hg10,_⟩:=zar (P:=Tryz.prog) (T:=77) Tryz.underlying77 Tryz.underlying9 H9.out.1 (⟨#[43]⟩:ByteArray) (.int .i64 6);have H10:=zz (And.intro hq10 (zbE hg10 H9.out.2 (Nat.le_refl _)));clear hq10 hg10 H9;obtain⟨w11,hup11,hq11,hg11,_⟩:=zar (P:=Tryz.prog) (T:=77) Tryz.underlying77 Tryz.underlying9 H10.out.1 (⟨#[45]⟩:ByteArray) (.int .i64 6);have H11:=zz (And.intro hq11 (zbE hg11 H10.out.2 (Nat.le_refl _)));clear hq11 hg11 H10;obtain⟨w12,hup12,hq12,hg12,_⟩:=zar (P:=Tryz.prog) (T:=77) Tryz.underlying77 Tryz.underlying9 H11.out.1 (⟨#[42]⟩:ByteArray) (.int .i64 7);have H12:=zz (And.intro hq12 (zbE hg12 H11.out.2 (Nat.le_refl _)));clear hq12 hg12 H11;obtain⟨w13,hup13,hq13,hg13,_⟩:=zar (P:=Tryz.prog) (T:=77) Tryz.underlying77 Tryz.underlying9 H12.out.1 (⟨#[47]⟩:ByteArray) (.int .i64 7)
 have H13:=zz (And.intro hq13 (zbE hg13 H12.out.2 (Nat.le_refl _)));clear hq13 hg13 H12;obtain⟨w14,hup14,hq14,hg14,_⟩:=zar (P:=Tryz.prog) (T:=77) Tryz.underlying77 Tryz.underlying9 H13.out.1 (⟨#[37]⟩:ByteArray) (.int .i64 7);have H14:=zz (And.intro hq14 (zbE hg14 H13.out.2 (Nat.le_refl _)));clear hq14 hg14 H13;go_enter Tryz.func53,Tryz.ntmps53;go_wp2_with fail;go_ret;exact⟨rfl,by have q:=H14.out.1;simp[mput,fnd] at q;exact q,H14.out.2⟩
def zqa (z:Value) (L:List (ByteArray × Value)) (k:ByteArray):Value:=match fnd k L 0 with|some p=>.tuple #[p.2,.bool true]|none=>.tuple #[z,.bool false]
section
variable {P:Program} {T K E:TypeId} (hT:P.underlying T=some (.map K E)) (hK:P.underlying K=some .string)
include hT hK
theorem zdT {w:World} {m:Nat} {L:List (ByteArray × Value)} (h:zbb w m L) {z:Value} (hz:(zeroValue E).run P w=.ok z w) (k:ByteArray) :
 (Instr.lookup T (.map (some m)) (.string k) true).run P w=.ok (zqa z L k) w:=by
 obtain⟨es,clock,hb,he⟩:=h;have hf:=zdc k es.toList L 0 he;have hfk:=run_findKey (P:=P) (w:=w) hK hf;have hck:∀b,(Instr.checkKey b 10000 K (.string k)).run P w=.ok () w:=λb=>run_checkKey (P:=P) (w:=w) hK (k:=.string k) trivial b 9999;unfold zqa;cases hx:fnd k L 0 with
 |none=>
  rw[hx] at hfk;simp[Instr.lookup,run_underlying hT,MapKept.run_getObj_map hb,hck,hfk,hz]
 |some p=>
  rw[hx] at hfk;simp[Instr.lookup,run_underlying hT,MapKept.run_getObj_map hb,hck,hfk]
end
theorem zmA {α:Type} (g:α→Value) (k:ByteArray):∀(L:List (ByteArray × α)) (i:Nat),(fnd k (L.map (λp=>(p.1,g p.2))) i).map Prod.snd=(L.find? (λp=>decide (p.1=k))).map (λp=>g p.2)
 |[],_=>rfl
 |p::r,i=>by
  rw[List.map_cons,fnd,List.find?_cons]
  by_cases h:k=p.1
  ·rw[if_pos h];simp[h]
  ·rw[if_neg h,zmA g k r (i+1)];have:decide (p.1=k)=false:=decide_eq_false (λe=>h e.symm);rw[this]
theorem zhb (s:ByteArray):zqa (.int .i64 0) zhc s=match zfg s with|some l=>.tuple #[.int .i64 (l:Int),.bool true]|none=>.tuple #[.int .i64 0,.bool false]:=by
 have h:=zmA (λl:Nat=>Value.int .i64 (l:Int)) s zho 0;unfold zqa zfg zhc;cases hf:fnd s (zho.map (λp=>(p.1,Value.int .i64 (p.2:Int)))) 0 with
 |none=>
  rw[hf] at h;cases hg:zho.find? (λp=>decide (p.1=s)) with
  |none=>rfl
  |some q=>rw[hg] at h;cases h
 |some p=>
  rw[hf] at h;cases hg:zho.find? (λp=>decide (p.1=s)) with
  |none=>rw[hg] at h;cases h
  |some q=>
   rw[hg] at h;simp only[Option.map_some,Option.some.injEq] at h;simp only[Option.map_some];rw[h]
theorem zmi (w:World):(zeroValue 3).run Tryz.prog w=.ok (.int .i64 0) w:=by kernel_rfl
theorem zki {G:PG} {b:Nat} {w:World} {st:Ps} (h:PsAt G b w st) (s:ByteArray):(Instr.lookup 77 (.map (some G.m)) (.string s) true).run Tryz.prog w=.ok (match zfg s with|some l=>.tuple #[.int .i64 (l:Int),.bool true]|none=>.tuple #[.int .i64 0,.bool false]) w:=by
 rw[←zhb];exact zdT Tryz.underlying77 Tryz.underlying9 h.mp (zmi w) s
def But (lo g:Nat) (w:World) (q:Nat):Prop:=Bt lo w.heap.size q∧q≠g
theorem zpx (l:List NdV) {w:World} {lo g:Nat} (hlo:lo≤w.heap.size) (hg:g<w.heap.size) (h:∀y∈l,Rd (But lo g w) w (ns y.x.kids) (.slice y.A y.x.kids.length y.c)) (hn:l.length≤32768) :
 Rd (But lo g (w.alloc (.cells (l.flatMap NdV.cells).toArray 25))) (w.alloc (.cells (l.flatMap NdV.cells).toArray 25)) (ns (l.map NdV.x)) (.slice (some ⟨w.heap.size,0,none⟩) (l.map NdV.x).length l.length):=by
 have hb:=(Below.refl w.heap.size w).alloc (Nat.le_refl _) (.cells (l.flatMap NdV.cells).toArray 25);refine Rd.sl_mk (by simp) (by omega) λ_=>⟨w.heap.size,0,rfl,⟨⟨hlo,by simp⟩,by omega⟩,λi hi j hj=>?_⟩;have hi':i<l.length:=by simpa using hi
 have hy:l[i]?=some l[i]:=List.getElem?_eq_getElem hi';have hr:=((h l[i] (List.getElem_mem hi')).below hb (λ_ hq=>hq.1.2)).weaken (ok':=But lo g (w.alloc (.cells (l.flatMap NdV.cells).toArray 25))) (λ_ hq=>⟨⟨hq.1.1,Nat.lt_of_lt_of_le hq.1.2 hb.size⟩,hq.2⟩);rw[zfB (l.map NdV.x) i l[i].x (by rw[List.getElem?_map,hy];rfl)];have hu:(l[i].cells)[j]?=some ((l[i].cells)[j]'(show j<5 from hj)):=List.getElem?_eq_getElem (show j<5 from hj);refine⟨_,?_,zbM hr j _ hu⟩;rw[Nat.zero_add,zbQ,List.getElem?_toArray,zgE l i j _ hy hj];exact hu
structure IX (G:PG) (b:Nat) (w:World) (lo g:Nat) (W:World) (st:Ps) (x:Nd) (A:Option Addr) (c:Nat):Prop where
 own1:Own1 b w W
 ps:PsAt G b W st
 cel:zac W g #[.int .i64 x.kind,.string x.text,.int .i64 x.n,.int .i64 x.at',.slice A x.kids.length c] 25
 rd:Rd (But lo g W) W (ns x.kids) (.slice A x.kids.length c)
 box:zac W w.heap.size #[.int .i64 0,.string ⟨#[]⟩,.int .i64 0,.int .i64 0,.slice none 0 0] 25
 size:lo≤W.heap.size
theorem But.below {lo g:Nat} {w1 w2:World} (k:Below w1.heap.size w1 w2) {d:D} {v:Value} (h:Rd (But lo g w1) w1 d v):Rd (But lo g w2) w2 d v:=
 (h.below k (λ_ hq=>hq.1.2)).weaken (λ_ hq=>⟨⟨hq.1.1,Nat.lt_of_lt_of_le hq.1.2 k.size⟩,hq.2⟩)
theorem Own1.but {b:Nat} {w1 w2:World} (k:Own1 b w1 w2) {lo g:Nat} (hlo:b<lo) {d:D} {v:Value} (h:Rd (But lo g w1) w1 d v):Rd (But lo g w2) w2 d v:=
 (Chg.rd k (ok:=But lo g w1) (λq hq=>⟨hq.1.2,λe=>by have:=hq.1.1;omega⟩) h).weaken (λ_ hq=>⟨⟨hq.1.1,Nat.lt_of_lt_of_le hq.1.2 k.size⟩,hq.2⟩)
theorem But.of {lo lo' g:Nat} {w:World} (hlo:lo≤lo') (hg:g<lo') {d:D} {v:Value} (h:Rd (Bt lo' w.heap.size) w d v):Rd (But lo g w) w d v:=h.weaken (λ_ hq=>⟨⟨Nat.le_trans hlo hq.1,hq.2⟩,by have:=hq.1;omega⟩)
theorem But.off {lo g:Nat} {w:World} {d:D} {v:Value} (h:Rd (But lo g w) w d v):Rd (Bt lo w.heap.size) w d v:=h.weaken (λ_ hq=>hq.1)
theorem zdF (W:World) (g:Nat) (u0 u1 u2 u3 u4:Value):Chg (λk=>k=g) W (((((W.setCell ⟨g,0,none⟩ u0).setCell ⟨g,1,none⟩ u1).setCell ⟨g,2,none⟩ u2).setCell ⟨g,3,none⟩ u3).setCell ⟨g,4,none⟩ u4):=
 ((((((Chg.refl (λk=>k=g) W).setCell (p:=⟨g,0,none⟩) (.inl rfl) u0).setCell (p:=⟨g,1,none⟩) (.inl rfl) u1).setCell (p:=⟨g,2,none⟩) (.inl rfl) u2).setCell (p:=⟨g,3,none⟩) (.inl rfl) u3).setCell (p:=⟨g,4,none⟩) (.inl rfl) u4)
theorem zaS.lift {G:PG} {b:Nat} {x:R Nd} {w w1:World} {e:Ending} {w':World} (h:zaS G b QNd x w1 e w') (hb:Below w.heap.size w w1):zaS G b QNd x w e w':=by
 cases x with
 |error a=>exact⟨(zbd hb).trans h.1,h.2⟩
 |ok p=>
  obtain⟨n,st'⟩:=p;obtain⟨h1,h2,A,c,rfl,hr⟩:=h;exact⟨(zbd hb).trans h1,h2,A,c,rfl,hr.weaken (λq hq=>⟨Nat.le_trans hb.size hq.1,hq.2⟩)⟩
end Go.Proofs.YtjdpocmlimkjjaaGreat
