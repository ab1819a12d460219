/- Conditions: those in each statement. -/
import Derived.Test.YtjdpocmlimkjjaaGreatQ36
import Derived.Deep.RegionWith
set_option maxHeartbeats 32000000
set_option maxRecDepth 100000
namespace Go.Proofs.YtjdpocmlimkjjaaGreat
open Go.RowKit
theorem zpk (d:Int) (hd:d=41) (kd:Int) (tx:ByteArray) (nn at':Int) (l:List Nd) (A:Option Addr) (c:Nat) (ht:tx.size≤32768) (hf:fitL l=true) (w:World) (h:Rd (Lt w.heap.size) w (ns l) (.slice A l.length c)) :
 Calls Tryz.prog 90 #[nd5 kd tx nn at' l A c,.int .i64 d] w λe w'=>e=.returned (.bool (zad 0 .type (.mk kd tx nn at' l)))∧Below w.heap.size w w':=by
 have hl:=zaD h;have hn:l.length≤9223372036854775807:=Nat.le_trans hl.2.1 hl.2.2;have B0r:=BxN.new (w:=w) (kd:=kd) (tx:=tx) (nn:=nn) (at':=at') h;obtain⟨w0,hw⟩:∃W,w.alloc (.cells #[.int .i64 kd,.string tx,.int .i64 nn,.int .i64 at',.slice A l.length c] 25)=W:=⟨_,rfl⟩;rw[hw] at B0r;have B0:=zz B0r;clear B0r;have HF:=zz hf;have HT:=zz ht;obtain⟨x0,x1,x2,x3,x4⟩:=B0.out.cs;clear h hl hf ht;have hdm:¬d≤40:=by omega
 have hdm2:(40:Int)<d:=by omega
 have HE:Hid (zad 0 .type (.mk kd tx nn at' l)=false):=zz rfl;clear hd;go_enter Tryz.func90,Tryz.ntmps90;go_wp2_with fail;go_ret;exact⟨by rw[HE.out];rfl,B0.out.low⟩
theorem zne (d:Int) (hd:d=41) (kd:Int) (tx:ByteArray) (nn at':Int) (l:List Nd) (A:Option Addr) (c:Nat) (ht:tx.size≤32768) (hf:fitL l=true) (w:World) (h:Rd (Lt w.heap.size) w (ns l) (.slice A l.length c)) :
 Calls Tryz.prog 86 #[nd5 kd tx nn at' l A c,.int .i64 d] w λe w'=>e=.returned (.bool (zad 0 .field (.mk kd tx nn at' l)))∧Below w.heap.size w w':=by
 have hl:=zaD h;have hn:l.length≤9223372036854775807:=Nat.le_trans hl.2.1 hl.2.2;have B0r:=BxN.new (w:=w) (kd:=kd) (tx:=tx) (nn:=nn) (at':=at') h;obtain⟨w0,hw⟩:∃W,w.alloc (.cells #[.int .i64 kd,.string tx,.int .i64 nn,.int .i64 at',.slice A l.length c] 25)=W:=⟨_,rfl⟩;rw[hw] at B0r;have B0:=zz B0r;clear B0r;have HF:=zz hf;have HT:=zz ht;obtain⟨x0,x1,x2,x3,x4⟩:=B0.out.cs;clear h hl hf ht;have hdm:¬d≤40:=by omega
 have hdm2:(40:Int)<d:=by omega
 have HE:Hid (zad 0 .field (.mk kd tx nn at' l)=false):=zz rfl;clear hd;go_enter Tryz.func86,Tryz.ntmps86;go_wp2_with fail;go_ret;exact⟨by rw[HE.out];rfl,B0.out.low⟩
theorem zoc (d:Int) (hd:d=41) (kd:Int) (tx:ByteArray) (nn at':Int) (l:List Nd) (A:Option Addr) (c:Nat) (ht:tx.size≤32768) (hf:fitL l=true) (w:World) (h:Rd (Lt w.heap.size) w (ns l) (.slice A l.length c)) :
 Calls Tryz.prog 91 #[nd5 kd tx nn at' l A c,.int .i64 d] w λe w'=>e=.returned (.bool (zad 0 .expr (.mk kd tx nn at' l)))∧Below w.heap.size w w':=by
 have hl:=zaD h;have hn:l.length≤9223372036854775807:=Nat.le_trans hl.2.1 hl.2.2;have B0r:=BxN.new (w:=w) (kd:=kd) (tx:=tx) (nn:=nn) (at':=at') h;obtain⟨w0,hw⟩:∃W,w.alloc (.cells #[.int .i64 kd,.string tx,.int .i64 nn,.int .i64 at',.slice A l.length c] 25)=W:=⟨_,rfl⟩;rw[hw] at B0r;have B0:=zz B0r;clear B0r;have HF:=zz hf;have HT:=zz ht;obtain⟨x0,x1,x2,x3,x4⟩:=B0.out.cs;clear h hl hf ht;have hdm:¬d≤40:=by omega
 have hdm2:(40:Int)<d:=by omega
 have HE:Hid (zad 0 .expr (.mk kd tx nn at' l)=false):=zz rfl;clear hd;go_enter Tryz.func91,Tryz.ntmps91;go_wp2_with fail;go_ret;exact⟨by rw[HE.out];rfl,B0.out.low⟩
theorem zpH (d:Int) (hd:d=41) (kd:Int) (tx:ByteArray) (nn at':Int) (l:List Nd) (A:Option Addr) (c:Nat) (ht:tx.size≤32768) (hf:fitL l=true) (w:World) (h:Rd (Lt w.heap.size) w (ns l) (.slice A l.length c)) :
 Calls Tryz.prog 94 #[nd5 kd tx nn at' l A c,.int .i64 d] w λe w'=>e=.returned (.bool (zad 0 .set (.mk kd tx nn at' l)))∧Below w.heap.size w w':=by
 have hl:=zaD h;have hn:l.length≤9223372036854775807:=Nat.le_trans hl.2.1 hl.2.2;have B0r:=BxN.new (w:=w) (kd:=kd) (tx:=tx) (nn:=nn) (at':=at') h;obtain⟨w0,hw⟩:∃W,w.alloc (.cells #[.int .i64 kd,.string tx,.int .i64 nn,.int .i64 at',.slice A l.length c] 25)=W:=⟨_,rfl⟩;rw[hw] at B0r;have B0:=zz B0r;clear B0r;have HF:=zz hf;have HT:=zz ht;obtain⟨x0,x1,x2,x3,x4⟩:=B0.out.cs;clear h hl hf ht;have hdm:¬d≤40:=by omega
 have hdm2:(40:Int)<d:=by omega
 have HE:Hid (zad 0 .set (.mk kd tx nn at' l)=false):=zz rfl;clear hd;go_enter Tryz.func94,Tryz.ntmps94;go_wp2_with fail;go_ret;exact⟨by rw[HE.out];rfl,B0.out.low⟩
theorem znr (d:Int) (hd:d=41) (kd:Int) (tx:ByteArray) (nn at':Int) (l:List Nd) (A:Option Addr) (c:Nat) (ht:tx.size≤32768) (hf:fitL l=true) (w:World) (h:Rd (Lt w.heap.size) w (ns l) (.slice A l.length c)) :
 Calls Tryz.prog 131 #[nd5 kd tx nn at' l A c,.int .i64 d] w λe w'=>e=.returned (.bool (zad 0 .block (.mk kd tx nn at' l)))∧Below w.heap.size w w':=by
 have hl:=zaD h;have hn:l.length≤9223372036854775807:=Nat.le_trans hl.2.1 hl.2.2;have B0r:=BxN.new (w:=w) (kd:=kd) (tx:=tx) (nn:=nn) (at':=at') h;obtain⟨w0,hw⟩:∃W,w.alloc (.cells #[.int .i64 kd,.string tx,.int .i64 nn,.int .i64 at',.slice A l.length c] 25)=W:=⟨_,rfl⟩;rw[hw] at B0r;have B0:=zz B0r;clear B0r;have HF:=zz hf;have HT:=zz ht;obtain⟨x0,x1,x2,x3,x4⟩:=B0.out.cs;clear h hl hf ht;have hdm:¬d≤40:=by omega
 have hdm2:(40:Int)<d:=by omega
 have HE:Hid (zad 0 .block (.mk kd tx nn at' l)=false):=zz rfl;clear hd;go_enter Tryz.func131,Tryz.ntmps131;go_wp2_with fail;go_ret;exact⟨by rw[HE.out];rfl,B0.out.low⟩
theorem zoi (d:Int) (hd:d=41) (kd:Int) (tx:ByteArray) (nn at':Int) (l:List Nd) (A:Option Addr) (c:Nat) (ht:tx.size≤32768) (hf:fitL l=true) (w:World) (h:Rd (Lt w.heap.size) w (ns l) (.slice A l.length c)) :
 Calls Tryz.prog 141 #[nd5 kd tx nn at' l A c,.int .i64 d] w λe w'=>e=.returned (.bool (zad 0 .stmt (.mk kd tx nn at' l)))∧Below w.heap.size w w':=by
 have hl:=zaD h;have hn:l.length≤9223372036854775807:=Nat.le_trans hl.2.1 hl.2.2;have B0r:=BxN.new (w:=w) (kd:=kd) (tx:=tx) (nn:=nn) (at':=at') h;obtain⟨w0,hw⟩:∃W,w.alloc (.cells #[.int .i64 kd,.string tx,.int .i64 nn,.int .i64 at',.slice A l.length c] 25)=W:=⟨_,rfl⟩;rw[hw] at B0r;have B0:=zz B0r;clear B0r;have HF:=zz hf;have HT:=zz ht;obtain⟨x0,x1,x2,x3,x4⟩:=B0.out.cs;clear h hl hf ht;have hdm:¬d≤40:=by omega
 have hdm2:(40:Int)<d:=by omega
 have HE:Hid (zad 0 .stmt (.mk kd tx nn at' l)=false):=zz rfl;clear hd;go_enter Tryz.func141,Tryz.ntmps141;go_wp2_with fail;go_ret;exact⟨by rw[HE.out];rfl,B0.out.low⟩
theorem zoF (d:Int) (hd:d=41) (kd:Int) (tx:ByteArray) (nn at':Int) (l:List Nd) (A:Option Addr) (c:Nat) (ht:tx.size≤32768) (hf:fitL l=true) (w:World) (h:Rd (Lt w.heap.size) w (ns l) (.slice A l.length c)) :
 Calls Tryz.prog 149 #[nd5 kd tx nn at' l A c,.int .i64 d] w λe w'=>e=.returned (.bool (zad 0 .send (.mk kd tx nn at' l)))∧Below w.heap.size w w':=by
 have hl:=zaD h;have hn:l.length≤9223372036854775807:=Nat.le_trans hl.2.1 hl.2.2;have B0r:=BxN.new (w:=w) (kd:=kd) (tx:=tx) (nn:=nn) (at':=at') h;obtain⟨w0,hw⟩:∃W,w.alloc (.cells #[.int .i64 kd,.string tx,.int .i64 nn,.int .i64 at',.slice A l.length c] 25)=W:=⟨_,rfl⟩;rw[hw] at B0r;have B0:=zz B0r;clear B0r;have HF:=zz hf;have HT:=zz ht;obtain⟨x0,x1,x2,x3,x4⟩:=B0.out.cs;clear h hl hf ht;have hdm:¬d≤40:=by omega
 have hdm2:(40:Int)<d:=by omega
 have HE:Hid (zad 0 .send (.mk kd tx nn at' l)=false):=zz rfl;clear hd;go_enter Tryz.func149,Tryz.ntmps149;go_wp2_with fail;go_ret;exact⟨by rw[HE.out];rfl,B0.out.low⟩
theorem zkF (d:Int) (hd:d=41) (VL:Value) (kd:Int) (tx:ByteArray) (nn at':Int) (l:List Nd) (A:Option Addr) (c:Nat) (ht:tx.size≤32768) (hf:fitL l=true) (w:World) (h:Rd (Lt w.heap.size) w (ns l) (.slice A l.length c)) :
 Calls Tryz.prog 140 #[nd5 kd tx nn at' l A c,.int .i64 d,VL] w λe w'=>e=.returned (.bool (zad 0 .arm (.mk kd tx nn at' l)))∧Below w.heap.size w w':=by
 have hl:=zaD h;have hn:l.length≤9223372036854775807:=Nat.le_trans hl.2.1 hl.2.2;have B0r:=BxN.new (w:=w) (kd:=kd) (tx:=tx) (nn:=nn) (at':=at') h;obtain⟨w0,hw⟩:∃W,w.alloc (.cells #[.int .i64 kd,.string tx,.int .i64 nn,.int .i64 at',.slice A l.length c] 25)=W:=⟨_,rfl⟩;rw[hw] at B0r;have B0:=zz B0r;clear B0r;have HF:=zz hf;have HT:=zz ht;obtain⟨x0,x1,x2,x3,x4⟩:=B0.out.cs;clear h hl hf ht;have hdm:decide (d≤40)=false:=decide_eq_false (by omega);have HE:Hid (zad 0 .arm (.mk kd tx nn at' l)=false):=zz rfl;clear hd
 by_cases hu:tx=(⟨#[95]⟩:ByteArray)
 ·have eu:(tx.toList == [95])=true:=zex hu;clear hu
  by_cases h1:l.length=1
  ·have e1:((l.length:Int) != 1)=false:=by simp[h1]
   have e2:((l.length:Int) == 1)=true:=by simp[h1]
   clear h1;go_enter Tryz.func140,Tryz.ntmps140;go_wp2_with fail
   go_quiet (fail)
   go_wp2_with fail;go_ret;exact⟨by rw[HE.out];rfl,zae B0.out.low _⟩
  ·have e1:((l.length:Int) != 1)=true:=by simp;omega
   have e2:((l.length:Int) == 1)=false:=by simp;omega
   clear h1;go_enter Tryz.func140,Tryz.ntmps140;go_wp2_with fail;go_ret;exact⟨by rw[HE.out];rfl,B0.out.low⟩
 ·have eu:(tx.toList == [95])=false:=zam hu;clear hu;go_enter Tryz.func140,Tryz.ntmps140;go_wp2_with fail
  go_quiet (fail)
  go_wp2_with fail;go_ret;exact⟨by rw[HE.out];rfl,zae B0.out.low _⟩
theorem zpI (d:Int) (hd:d=41) (kd:Int) (tx:ByteArray) (nn at':Int) (l:List Nd) (A:Option Addr) (c:Nat) (ht:tx.size≤32768) (hf:fitL l=true) (w:World) (h:Rd (Lt w.heap.size) w (ns l) (.slice A l.length c)) :
 Calls Tryz.prog 130 #[nd5 kd tx nn at' l A c,.int .i64 d] w λe w'=>e=.returned (.bool (zad 0 .arm (.mk kd tx nn at' l)))∧Below w.heap.size w w':=by
 have hl:=zaD h;have hn:l.length≤9223372036854775807:=Nat.le_trans hl.2.1 hl.2.2;have B0r:=BxN.new (w:=w) (kd:=kd) (tx:=tx) (nn:=nn) (at':=at') h;obtain⟨w0,hw⟩:∃W,w.alloc (.cells #[.int .i64 kd,.string tx,.int .i64 nn,.int .i64 at',.slice A l.length c] 25)=W:=⟨_,rfl⟩;rw[hw] at B0r;have B0:=zz B0r;clear B0r;have HF:=zz hf;have HT:=zz ht;obtain⟨x0,x1,x2,x3,x4⟩:=B0.out.cs;clear h hl hf ht;have HE:Hid (zad 0 .arm (.mk kd tx nn at' l)=false):=zz rfl
 by_cases hk:kd=39
 ·subst hk;have KC:=zz (zkF d hd (.func (.func 91) #[] #[]) 39 tx nn at' l A c HT.out HF.out w0 B0.out.rd);clear hd;go_enter Tryz.func130,Tryz.ntmps130;go_wp2_with fail;(with_reducible refine KC.out.mono ?_);rintro e w1_ ⟨rfl,hb⟩;have B1_:=zz (B0.out.below hb);clear hb B0 KC x0 x1 x2 x3 x4 hw;obtain⟨x0,x1,x2,x3,x4⟩:=B1_.out.cs;go_wp2_with fail;go_ret;exact⟨by rw[HE.out];rfl,B1_.out.low⟩
 ·have ek:(kd == 39)=false:=by simp[hk]
  clear hk hd;go_enter Tryz.func130,Tryz.ntmps130;go_wp2_with fail;go_ret;exact⟨by rw[HE.out];rfl,B0.out.low⟩
theorem zoJ (d:Int) (hd:d=41) (kd:Int) (tx:ByteArray) (nn at':Int) (l:List Nd) (A:Option Addr) (c:Nat) (ht:tx.size≤32768) (hf:fitL l=true) (w:World) (h:Rd (Lt w.heap.size) w (ns l) (.slice A l.length c)) :
 Calls Tryz.prog 148 #[nd5 kd tx nn at' l A c,.int .i64 d] w λe w'=>e=.returned (.bool (zad 0 .sarm (.mk kd tx nn at' l)))∧Below w.heap.size w w':=by
 have hl:=zaD h;have hn:l.length≤9223372036854775807:=Nat.le_trans hl.2.1 hl.2.2;have B0r:=BxN.new (w:=w) (kd:=kd) (tx:=tx) (nn:=nn) (at':=at') h;obtain⟨w0,hw⟩:∃W,w.alloc (.cells #[.int .i64 kd,.string tx,.int .i64 nn,.int .i64 at',.slice A l.length c] 25)=W:=⟨_,rfl⟩;rw[hw] at B0r;have B0:=zz B0r;clear B0r;have HF:=zz hf;have HT:=zz ht;obtain⟨x0,x1,x2,x3,x4⟩:=B0.out.cs;clear h hl hf ht;have HE:Hid (zad 0 .sarm (.mk kd tx nn at' l)=false):=zz rfl
 by_cases hk:kd=54
 ·subst hk;have KC:=zz (zkF d hd (.func (.func 131) #[] #[]) 54 tx nn at' l A c HT.out HF.out w0 B0.out.rd);clear hd;go_enter Tryz.func148,Tryz.ntmps148;go_wp2_with fail;(with_reducible refine KC.out.mono ?_);rintro e w1_ ⟨rfl,hb⟩;have B1_:=zz (B0.out.below hb);clear hb B0 KC x0 x1 x2 x3 x4 hw;obtain⟨x0,x1,x2,x3,x4⟩:=B1_.out.cs;go_wp2_with fail;go_ret;exact⟨by rw[HE.out];rfl,B1_.out.low⟩
 ·have ek:(kd == 54)=false:=by simp[hk]
  clear hk hd;go_enter Tryz.func148,Tryz.ntmps148;go_wp2_with fail;go_ret;exact⟨by rw[HE.out];rfl,B0.out.low⟩
theorem zmj:∀(f:Nat) (d:Int),(f:Int)+d=41→0≤d→∀st,ShpC (fnR st) d (zad f st)
 |0,d,hd,_,st=>λn A c W hf hr=>by
  obtain⟨kd,tx,nn,at',l⟩:=n;have hd2:d=41:=by omega
  cases st with
  |type=>exact zpk d hd2 kd tx nn at' l A c (zbe hf) (zay hf) W hr
  |field=>exact zne d hd2 kd tx nn at' l A c (zbe hf) (zay hf) W hr
  |expr=>exact zoc d hd2 kd tx nn at' l A c (zbe hf) (zay hf) W hr
  |set=>exact zpH d hd2 kd tx nn at' l A c (zbe hf) (zay hf) W hr
  |arm=>exact zpI d hd2 kd tx nn at' l A c (zbe hf) (zay hf) W hr
  |block=>exact znr d hd2 kd tx nn at' l A c (zbe hf) (zay hf) W hr
  |stmt=>exact zoi d hd2 kd tx nn at' l A c (zbe hf) (zay hf) W hr
  |sarm=>exact zoJ d hd2 kd tx nn at' l A c (zbe hf) (zay hf) W hr
  |send=>exact zoF d hd2 kd tx nn at' l A c (zbe hf) (zay hf) W hr
 |f+1,d,hd,h0,st=>λn A c W hf hr=>by
  obtain⟨kd,tx,nn,at',l⟩:=n;have IH:=zmj f (d+1) (by omega) (by omega);have hd2:(f:Int)+1+d=41:=by omega
  cases st with
  |type=>exact zpg f d hd2 h0 IH kd tx nn at' l A c (zbe hf) (zay hf) W hr
  |field=>exact zlG f d hd2 h0 IH kd tx nn at' l A c (zbe hf) (zay hf) W hr
  |expr=>exact znA f d hd2 h0 IH kd tx nn at' l A c (zbe hf) (zay hf) W hr
  |set=>exact zpm f d hd2 h0 IH kd tx nn at' l A c (zbe hf) (zay hf) W hr
  |arm=>exact zph f d hd2 h0 IH kd tx nn at' l A c (zbe hf) (zay hf) W hr
  |block=>exact zlU f d hd2 h0 IH kd tx nn at' l A c (zbe hf) (zay hf) W hr
  |stmt=>exact znV f d hd2 h0 IH kd tx nn at' l A c (zbe hf) (zay hf) W hr
  |sarm=>exact znn f d hd2 h0 IH kd tx nn at' l A c (zbe hf) (zay hf) W hr
  |send=>exact zjd f d hd2 h0 IH kd tx nn at' l A c (zbe hf) (zay hf) W hr
theorem znU (d:Int) (hd:d=2) (IH:∀st,ShpC (fnR st) (d+1) (zad 38 st)) (kd:Int) (tx:ByteArray) (nn at':Int) (l:List Nd) (A:Option Addr) (c:Nat) (ht:tx.size≤32768) (hf:fitL l=true) (w:World) (h:Rd (Lt w.heap.size) w (ns l) (.slice A l.length c)) :
 Calls Tryz.prog 87 #[nd5 kd tx nn at' l A c,.int .i64 d] w λe w'=>e=.returned (.bool (zhI 39 (.mk kd tx nn at' l)))∧Below w.heap.size w w':=by
 have hl:=zaD h;have hn:l.length≤9223372036854775807:=Nat.le_trans hl.2.1 hl.2.2;have B0r:=BxN.new (w:=w) (kd:=kd) (tx:=tx) (nn:=nn) (at':=at') h;obtain⟨w0,hw⟩:∃W,w.alloc (.cells #[.int .i64 kd,.string tx,.int .i64 nn,.int .i64 at',.slice A l.length c] 25)=W:=⟨_,rfl⟩;rw[hw] at B0r;have B0:=zz B0r;clear B0r;have HF:=zz hf;have HT:=zz ht;obtain⟨x0,x1,x2,x3,x4⟩:=B0.out.cs;clear h hl hf ht;have hdm:d≤40:=by omega
 have hdm2:¬(40:Int)<d:=by omega
 have hwd:IntKind.i64.wrap (d+1)=d+1:=IntWalk.i64_in _ (by omega);have HI:=zz IH;clear IH;clear hd
 by_cases hk8:kd=8
 ·subst hk8;have HE:Hid (zhI 39 (.mk 8 tx nn at' l)=(true&&true&&zav zaw (.mk 8 tx nn at' l)&&l.all (zad 38 .type))):=zz rfl;go_enter Tryz.func87,Tryz.ntmps87;cases hq:zav zaw (.mk 8 tx nn at' l) with
  |false=>
   have KC:=zz (zal zaX 8 tx nn at' l A c HT.out w0);rw[hq] at KC HE;clear hq;go_wp2_with fail;(with_reducible refine KC.out.mono ?_);rintro e w1_ ⟨rfl,hb⟩;have B1_:=zz (B0.out.below hb);clear hb B0 KC x0 x1 x2 x3 x4 hw;obtain⟨x0,x1,x2,x3,x4⟩:=B1_.out.cs;go_wp2_with fail;go_ret;exact⟨by rw[HE.out];rfl,B1_.out.low⟩
  |true=>
   have KC:=zz (zal zaX 8 tx nn at' l A c HT.out w0);rw[hq] at KC HE;clear hq;go_wp2_with fail;(with_reducible refine KC.out.mono ?_);rintro e w1_ ⟨rfl,hb⟩;have B1_:=zz (B0.out.below hb);clear hb B0 KC x0 x1 x2 x3 x4 hw;obtain⟨x0,x1,x2,x3,x4⟩:=B1_.out.cs;have S1:Shp w1_ (.func (.func 90) #[] #[]) (d+1) (zad 38 .type):=(HI.out .type).shp (cfR .type) w1_;have KC:=zz (zct w1_ _ (d+1) _ S1 l A c HF.out B1_.out.rd);clear S1;go_wp2_with fail;(with_reducible refine KC.out.mono ?_);rintro e w2_ ⟨rfl,hb⟩;have B2_:=zz (B1_.out.below hb);clear hb B1_ KC x0 x1 x2 x3 x4;obtain⟨x0,x1,x2,x3,x4⟩:=B2_.out.cs;go_wp2_with fail;go_ret;exact⟨by rw[HE.out];rfl,B2_.out.low⟩
 have HE:Hid (zhI 39 (.mk kd tx nn at' l)=false):=zz (by simp[zhI,Nd.kind,hk8]);have ek8:(kd == 8)=false:=by simp[hk8]
 clear hk8;go_enter Tryz.func87,Tryz.ntmps87;go_wp2_with fail;go_ret;exact⟨by rw[HE.out];rfl,B0.out.low⟩
theorem zkO (d:Int) (hd:d=2) (IH:∀st,ShpC (fnR st) (d+1) (zad 38 st)) (kd:Int) (tx:ByteArray) (nn at':Int) (l:List Nd) (A:Option Addr) (c:Nat) (ht:tx.size≤32768) (hf:fitL l=true) (w:World) (h:Rd (Lt w.heap.size) w (ns l) (.slice A l.length c)) :
 Calls Tryz.prog 92 #[nd5 kd tx nn at' l A c,.int .i64 d] w λe w'=>e=.returned (.bool (zcn 39 (.mk kd tx nn at' l)))∧Below w.heap.size w w':=by
 have hl:=zaD h;have hn:l.length≤9223372036854775807:=Nat.le_trans hl.2.1 hl.2.2;have B0r:=BxN.new (w:=w) (kd:=kd) (tx:=tx) (nn:=nn) (at':=at') h;obtain⟨w0,hw⟩:∃W,w.alloc (.cells #[.int .i64 kd,.string tx,.int .i64 nn,.int .i64 at',.slice A l.length c] 25)=W:=⟨_,rfl⟩;rw[hw] at B0r;have B0:=zz B0r;clear B0r;have HF:=zz hf;have HT:=zz ht;obtain⟨x0,x1,x2,x3,x4⟩:=B0.out.cs;clear h hl hf ht;have hdm:d≤40:=by omega
 have hdm2:¬(40:Int)<d:=by omega
 have hwd:IntKind.i64.wrap (d+1)=d+1:=IntWalk.i64_in _ (by omega);have HI:=zz IH;clear IH;clear hd
 by_cases hk9:kd=9
 ·subst hk9;have HE:Hid (zcn 39 (.mk 9 tx nn at' l)=(true&&zav zaH (.mk 9 tx nn at' l)&&zaA l [zad 38 .type,zad 38 .expr])):=zz rfl;go_enter Tryz.func92,Tryz.ntmps92;cases hq:zav zaH (.mk 9 tx nn at' l) with
  |false=>
   have KC:=zz (zal zbi 9 tx nn at' l A c HT.out w0);rw[hq] at KC HE;clear hq;go_wp2_with fail;(with_reducible refine KC.out.mono ?_);rintro e w1_ ⟨rfl,hb⟩;have B1_:=zz (B0.out.below hb);clear hb B0 KC x0 x1 x2 x3 x4 hw;obtain⟨x0,x1,x2,x3,x4⟩:=B1_.out.cs;go_wp2_with fail;go_ret;exact⟨by rw[HE.out];rfl,B1_.out.low⟩
  |true=>
   have KC:=zz (zal zbi 9 tx nn at' l A c HT.out w0);rw[hq] at KC HE;clear hq;go_wp2_with fail;(with_reducible refine KC.out.mono ?_);rintro e w1_ ⟨rfl,hb⟩;have B1_:=zz (B0.out.below hb);clear hb B0 KC x0 x1 x2 x3 x4 hw;obtain⟨x0,x1,x2,x3,x4⟩:=B1_.out.cs;have S1:Shp w1_ (.func (.func 90) #[] #[]) (d+1) (zad 38 .type):=(HI.out .type).shp (cfR .type) w1_;have S2:Shp w1_ (.func (.func 91) #[] #[]) (d+1) (zad 38 .expr):=(HI.out .expr).shp (cfR .expr) w1_;have FS:=FsAt.new2 S1 S2;obtain⟨w2_,hw2_⟩:∃W,w1_.alloc (.cells #[.func (.func 90) #[] #[],.func (.func 91) #[] #[]] 150)=W:=⟨_,rfl⟩;rw[hw2_] at FS;have B2_:=zz (B1_.out.below (show Below w1_.heap.size w1_ w2_ from by rw[←hw2_];exact zag _ _));have KC:=zz (zaW w2_ (d+1) _ w1_.heap.size _ FS 2 rfl (by omega) l A c HF.out B2_.out.rd);clear FS S1 S2;clear B1_;go_wp2_with fail;(with_reducible refine KC.out.mono ?_);rintro e w3_ ⟨rfl,hb⟩;have B3_:=zz (B2_.out.below hb);clear hb B2_ KC x0 x1 x2 x3 x4 hw2_;obtain⟨x0,x1,x2,x3,x4⟩:=B3_.out.cs;go_wp2_with fail;go_ret;exact⟨by rw[HE.out];rfl,B3_.out.low⟩
 by_cases hk10:kd=10
 ·subst hk10;have HE:Hid (zcn 39 (.mk 10 tx nn at' l)=(true&&zav zaw (.mk 10 tx nn at' l)&&zcg l (zad 38 .field) [zad 38 .block])):=zz rfl;go_enter Tryz.func92,Tryz.ntmps92;cases hq:zav zaw (.mk 10 tx nn at' l) with
  |false=>
   have KC:=zz (zal zaX 10 tx nn at' l A c HT.out w0);rw[hq] at KC HE;clear hq;go_wp2_with fail;(with_reducible refine KC.out.mono ?_);rintro e w1_ ⟨rfl,hb⟩;have B1_:=zz (B0.out.below hb);clear hb B0 KC x0 x1 x2 x3 x4 hw;obtain⟨x0,x1,x2,x3,x4⟩:=B1_.out.cs;go_wp2_with fail;go_ret;exact⟨by rw[HE.out];rfl,B1_.out.low⟩
  |true=>
   have KC:=zz (zal zaX 10 tx nn at' l A c HT.out w0);rw[hq] at KC HE;clear hq;go_wp2_with fail;(with_reducible refine KC.out.mono ?_);rintro e w1_ ⟨rfl,hb⟩;have B1_:=zz (B0.out.below hb);clear hb B0 KC x0 x1 x2 x3 x4 hw;obtain⟨x0,x1,x2,x3,x4⟩:=B1_.out.cs;have S1:Shp w1_ (.func (.func 131) #[] #[]) (d+1) (zad 38 .block):=(HI.out .block).shp (cfR .block) w1_;have FS:=FsAt.new1 S1;obtain⟨w2_,hw2_⟩:∃W,w1_.alloc (.cells #[.func (.func 131) #[] #[]] 150)=W:=⟨_,rfl⟩;rw[hw2_] at FS;have B2_:=zz (B1_.out.below (show Below w1_.heap.size w1_ w2_ from by rw[←hw2_];exact zag _ _));have S0:Shp w2_ (.func (.func 86) #[] #[]) (d+1) (zad 38 .field):=(HI.out .field).shp (cfR .field) w2_;have KC:=zz (zcP w2_ (d+1) _ _ S0 _ w1_.heap.size _ FS 1 rfl (by omega) (by omega) l A c HF.out B2_.out.rd);clear FS S0 S1;clear B1_;go_wp2_with fail;(with_reducible refine KC.out.mono ?_);rintro e w3_ ⟨rfl,hb⟩;have B3_:=zz (B2_.out.below hb);clear hb B2_ KC x0 x1 x2 x3 x4 hw2_;obtain⟨x0,x1,x2,x3,x4⟩:=B3_.out.cs;go_wp2_with fail;go_ret;exact⟨by rw[HE.out];rfl,B3_.out.low⟩
 have HE:Hid (zcn 39 (.mk kd tx nn at' l)=false):=zz (by simp[zcn,Nd.kind,hk9,hk10]);have ek9:(kd == 9)=false:=by simp[hk9]
 have ek10:(kd == 10)=false:=by simp[hk10]
 clear hk9 hk10;go_enter Tryz.func92,Tryz.ntmps92;go_wp2_with fail;go_ret;exact⟨by rw[HE.out];rfl,B0.out.low⟩
theorem zqo:ShpC 87 2 (zhI 39):=λn A c W hf hr=>by
 obtain⟨kd,tx,nn,at',l⟩:=n;exact znU 2 rfl (zmj 38 3 (by omega) (by omega)) kd tx nn at' l A c (zbe hf) (zay hf) W hr
theorem zny:ShpC 92 2 (zcn 39):=λn A c W hf hr=>by
 obtain⟨kd,tx,nn,at',l⟩:=n;exact zkO 2 rfl (zmj 38 3 (by omega) (by omega)) kd tx nn at' l A c (zbe hf) (zay hf) W hr
theorem zrC:∀(x y:Value) (W:World),(callFunc 87 #[x,y]).run Tryz.prog W=.ok (.enter 87 #[x,y]) W:=λx y W=>by kernel_rfl
theorem zmw:∀(x y:Value) (W:World),(callFunc 92 #[x,y]).run Tryz.prog W=.ok (.enter 92 #[x,y]) W:=λx y W=>by kernel_rfl
end Go.Proofs.YtjdpocmlimkjjaaGreat
