/- Conditions: those in each statement. -/
import Derived.Test.YtjdpocmlimkjjaaGreatQ37
set_option maxHeartbeats 32000000
set_option maxRecDepth 100000
namespace Go.Proofs.YtjdpocmlimkjjaaGreat
open Go.RowKit
theorem zjh:∀(l:List Nd),zbR l≤l.length
 |[]=>Nat.le_refl _
 |x::r=>by
  unfold zbR;rw[List.takeWhile_cons]
  split
  ·have:=zjh r;unfold zbR at this;rw[List.length_cons,List.length_cons];omega
  ·exact Nat.zero_le _
theorem zji:∀{l:List Nd} {i:Nat},i<zbR l→∃y,l[i]?=some y∧y.kind=7
 |[],i,h=>absurd h (Nat.not_lt_zero _)
 |x::r,i,h=>by
  unfold zbR at h;rw[List.takeWhile_cons] at h
  split at h
  ·rename_i hx;rw[List.length_cons] at h;cases i with
   |zero=>exact⟨x,rfl,of_decide_eq_true hx⟩
   |succ i=>
    obtain⟨y,h1,h2⟩:=zji (l:=r) (i:=i) (by unfold zbR;omega);exact⟨y,by simpa using h1,h2⟩
  ·exact absurd h (Nat.not_lt_zero _)
theorem zjv:∀{l:List Nd} {y:Nd},l[zbR l]?=some y→y.kind≠7
 |[],y,h=>by simp at h
 |x::r,y,h=>by
  unfold zbR at h;rw[List.takeWhile_cons] at h
  split at h
  ·rw[List.length_cons,List.getElem?_cons_succ] at h;exact zjv (l:=r) h
  ·rename_i hx;rw[List.length_nil,List.getElem?_cons_zero] at h;injection h with h;subst h;exact λe=>hx (decide_eq_true e)
theorem znX (d:Int) (hd:d=1) (IH:∀st,ShpC (fnR st) (d+1) (zad 39 st)) (IC:ShpC 87 (d+1) (zhI 39)) (IM:ShpC 92 (d+1) (zcn 39)) (kd:Int) (tx:ByteArray) (nn at':Int) (l:List Nd) (A:Option Addr) (c:Nat) (ht:tx.size≤32768) (hf:fitL l=true) (w:World) (h:Rd (Lt w.heap.size) w (ns l) (.slice A l.length c)) :
 Calls Tryz.prog 57 #[nd5 kd tx nn at' l A c,.int .i64 d] w λe w'=>e=.returned (.bool (zcN (.mk kd tx nn at' l)))∧Below w.heap.size w w':=by
 have hl:=zaD h;have hn:l.length≤9223372036854775807:=Nat.le_trans hl.2.1 hl.2.2;have B0r:=BxN.new (w:=w) (kd:=kd) (tx:=tx) (nn:=nn) (at':=at') h;obtain⟨w0,hw⟩:∃W,w.alloc (.cells #[.int .i64 kd,.string tx,.int .i64 nn,.int .i64 at',.slice A l.length c] 25)=W:=⟨_,rfl⟩;rw[hw] at B0r;have B0:=zz B0r;clear B0r;have HF:=zz hf;have HT:=zz ht;obtain⟨x0,x1,x2,x3,x4⟩:=B0.out.cs;clear h hl hf ht;have hdm:d≤40:=by omega
 have hdm2:¬(40:Int)<d:=by omega
 have hwd:IntKind.i64.wrap (d+1)=d+1:=IntWalk.i64_in _ (by omega);have HI:=zz IH;clear IH;have HC:=zz IC;have HMb:=zz IM;clear IC IM hd
 by_cases hk2:kd=2
 ·subst hk2;have HE:Hid (zcN (.mk 2 tx nn at' l)=(zav zaw (.mk 2 tx nn at' l)&&l.all (zad 39 .field))):=zz rfl;go_enter Tryz.func57,Tryz.ntmps57;cases hq:zav zaw (.mk 2 tx nn at' l) with
  |false=>
   have KC:=zz (zal zaX 2 tx nn at' l A c HT.out w0);rw[hq] at KC HE;clear hq;go_wp2_with fail;(with_reducible refine KC.out.mono ?_);rintro e w1_ ⟨rfl,hb⟩;have B1_:=zz (B0.out.below hb);clear hb B0 KC x0 x1 x2 x3 x4 hw;obtain⟨x0,x1,x2,x3,x4⟩:=B1_.out.cs;go_wp2_with fail;go_ret;exact⟨by rw[HE.out];rfl,B1_.out.low⟩
  |true=>
   have KC:=zz (zal zaX 2 tx nn at' l A c HT.out w0);rw[hq] at KC HE;clear hq;go_wp2_with fail;(with_reducible refine KC.out.mono ?_);rintro e w1_ ⟨rfl,hb⟩;have B1_:=zz (B0.out.below hb);clear hb B0 KC x0 x1 x2 x3 x4 hw;obtain⟨x0,x1,x2,x3,x4⟩:=B1_.out.cs;have S1:Shp w1_ (.func (.func 86) #[] #[]) (d+1) (zad 39 .field):=(HI.out .field).shp (cfR .field) w1_;have KC:=zz (zct w1_ _ (d+1) _ S1 l A c HF.out B1_.out.rd);clear S1;go_wp2_with fail;(with_reducible refine KC.out.mono ?_);rintro e w2_ ⟨rfl,hb⟩;have B2_:=zz (B1_.out.below hb);clear hb B1_ KC x0 x1 x2 x3 x4;obtain⟨x0,x1,x2,x3,x4⟩:=B2_.out.cs;go_wp2_with fail;go_ret;exact⟨by rw[HE.out];rfl,B2_.out.low⟩
 by_cases hk3:kd=3
 ·subst hk3;have HE:Hid (zcN (.mk 3 tx nn at' l)=(zav zaw (.mk 3 tx nn at' l)&&!l.isEmpty&&l.all (zhI 39))):=zz rfl;go_enter Tryz.func57,Tryz.ntmps57;cases hq:zav zaw (.mk 3 tx nn at' l) with
  |false=>
   have KC:=zz (zal zaX 3 tx nn at' l A c HT.out w0);rw[hq] at KC HE;clear hq;go_wp2_with fail;(with_reducible refine KC.out.mono ?_);rintro e w1_ ⟨rfl,hb⟩;have B1_:=zz (B0.out.below hb);clear hb B0 KC x0 x1 x2 x3 x4 hw;obtain⟨x0,x1,x2,x3,x4⟩:=B1_.out.cs;go_wp2_with fail;go_ret;exact⟨by rw[HE.out];rfl,B1_.out.low⟩
  |true=>
   have KC:=zz (zal zaX 3 tx nn at' l A c HT.out w0);rw[hq] at KC HE;clear hq;go_wp2_with fail;(with_reducible refine KC.out.mono ?_);rintro e w1_ ⟨rfl,hb⟩;have B1_:=zz (B0.out.below hb);clear hb B0 KC x0 x1 x2 x3 x4 hw;obtain⟨x0,x1,x2,x3,x4⟩:=B1_.out.cs;cases hq:l.isEmpty with
   |true=>
    have e1:((l.length:Int) == 0)=true:=zeb hq;have f1:¬(0:Int)<(l.length:Int):=zcS hq;rw[hq] at HE;clear hq;go_wp2_with fail;go_ret;exact⟨by rw[HE.out];rfl,B1_.out.low⟩
   |false=>
    have e1:((l.length:Int) == 0)=false:=zdZ hq;have f1:(0:Int)<(l.length:Int):=zcV hq;rw[hq] at HE;clear hq;have S1:Shp w1_ (.func (.func 87) #[] #[]) (d+1) (zhI 39):=HC.out.shp zrC w1_;have KC:=zz (zct w1_ _ (d+1) _ S1 l A c HF.out B1_.out.rd);clear S1;go_wp2_with fail;(with_reducible refine KC.out.mono ?_);rintro e w2_ ⟨rfl,hb⟩;have B2_:=zz (B1_.out.below hb);clear hb B1_ KC x0 x1 x2 x3 x4;obtain⟨x0,x1,x2,x3,x4⟩:=B2_.out.cs;go_wp2_with fail;go_ret;exact⟨by rw[HE.out];rfl,B2_.out.low⟩
 by_cases hk4:kd=4
 ·subst hk4;have HE:Hid (zcN (.mk 4 tx nn at' l)=(zav zaH (.mk 4 tx nn at' l)&&zcg l (zad 39 .field) [zad 39 .type])):=zz rfl;go_enter Tryz.func57,Tryz.ntmps57;cases hq:zav zaH (.mk 4 tx nn at' l) with
  |false=>
   have KC:=zz (zal zbi 4 tx nn at' l A c HT.out w0);rw[hq] at KC HE;clear hq;go_wp2_with fail;(with_reducible refine KC.out.mono ?_);rintro e w1_ ⟨rfl,hb⟩;have B1_:=zz (B0.out.below hb);clear hb B0 KC x0 x1 x2 x3 x4 hw;obtain⟨x0,x1,x2,x3,x4⟩:=B1_.out.cs;go_wp2_with fail;go_ret;exact⟨by rw[HE.out];rfl,B1_.out.low⟩
  |true=>
   have KC:=zz (zal zbi 4 tx nn at' l A c HT.out w0);rw[hq] at KC HE;clear hq;go_wp2_with fail;(with_reducible refine KC.out.mono ?_);rintro e w1_ ⟨rfl,hb⟩;have B1_:=zz (B0.out.below hb);clear hb B0 KC x0 x1 x2 x3 x4 hw;obtain⟨x0,x1,x2,x3,x4⟩:=B1_.out.cs;have S1:Shp w1_ (.func (.func 90) #[] #[]) (d+1) (zad 39 .type):=(HI.out .type).shp (cfR .type) w1_;have FS:=FsAt.new1 S1;obtain⟨w2_,hw2_⟩:∃W,w1_.alloc (.cells #[.func (.func 90) #[] #[]] 150)=W:=⟨_,rfl⟩;rw[hw2_] at FS;have B2_:=zz (B1_.out.below (show Below w1_.heap.size w1_ w2_ from by rw[←hw2_];exact zag _ _));have S0:Shp w2_ (.func (.func 86) #[] #[]) (d+1) (zad 39 .field):=(HI.out .field).shp (cfR .field) w2_;have KC:=zz (zcP w2_ (d+1) _ _ S0 _ w1_.heap.size _ FS 1 rfl (by omega) (by omega) l A c HF.out B2_.out.rd);clear FS S0 S1;clear B1_;go_wp2_with fail;(with_reducible refine KC.out.mono ?_);rintro e w3_ ⟨rfl,hb⟩;have B3_:=zz (B2_.out.below hb);clear hb B2_ KC x0 x1 x2 x3 x4 hw2_;obtain⟨x0,x1,x2,x3,x4⟩:=B3_.out.cs;go_wp2_with fail;go_ret;exact⟨by rw[HE.out];rfl,B3_.out.low⟩
 by_cases hk5:kd=5
 ·subst hk5;have HE:Hid (zcN (.mk 5 tx nn at' l)=(zav zaH (.mk 5 tx nn at' l)&&zcg l (zad 39 .field) [zad 39 .type,zad 39 .expr])):=zz rfl;go_enter Tryz.func57,Tryz.ntmps57;cases hq:zav zaH (.mk 5 tx nn at' l) with
  |false=>
   have KC:=zz (zal zbi 5 tx nn at' l A c HT.out w0);rw[hq] at KC HE;clear hq;go_wp2_with fail;(with_reducible refine KC.out.mono ?_);rintro e w1_ ⟨rfl,hb⟩;have B1_:=zz (B0.out.below hb);clear hb B0 KC x0 x1 x2 x3 x4 hw;obtain⟨x0,x1,x2,x3,x4⟩:=B1_.out.cs;go_wp2_with fail;go_ret;exact⟨by rw[HE.out];rfl,B1_.out.low⟩
  |true=>
   have KC:=zz (zal zbi 5 tx nn at' l A c HT.out w0);rw[hq] at KC HE;clear hq;go_wp2_with fail;(with_reducible refine KC.out.mono ?_);rintro e w1_ ⟨rfl,hb⟩;have B1_:=zz (B0.out.below hb);clear hb B0 KC x0 x1 x2 x3 x4 hw;obtain⟨x0,x1,x2,x3,x4⟩:=B1_.out.cs;have S1:Shp w1_ (.func (.func 90) #[] #[]) (d+1) (zad 39 .type):=(HI.out .type).shp (cfR .type) w1_;have S2:Shp w1_ (.func (.func 91) #[] #[]) (d+1) (zad 39 .expr):=(HI.out .expr).shp (cfR .expr) w1_;have FS:=FsAt.new2 S1 S2;obtain⟨w2_,hw2_⟩:∃W,w1_.alloc (.cells #[.func (.func 90) #[] #[],.func (.func 91) #[] #[]] 150)=W:=⟨_,rfl⟩;rw[hw2_] at FS;have B2_:=zz (B1_.out.below (show Below w1_.heap.size w1_ w2_ from by rw[←hw2_];exact zag _ _));have S0:Shp w2_ (.func (.func 86) #[] #[]) (d+1) (zad 39 .field):=(HI.out .field).shp (cfR .field) w2_;have KC:=zz (zcP w2_ (d+1) _ _ S0 _ w1_.heap.size _ FS 2 rfl (by omega) (by omega) l A c HF.out B2_.out.rd);clear FS S0 S1 S2;clear B1_;go_wp2_with fail;(with_reducible refine KC.out.mono ?_);rintro e w3_ ⟨rfl,hb⟩;have B3_:=zz (B2_.out.below hb);clear hb B2_ KC x0 x1 x2 x3 x4 hw2_;obtain⟨x0,x1,x2,x3,x4⟩:=B3_.out.cs;go_wp2_with fail;go_ret;exact⟨by rw[HE.out];rfl,B3_.out.low⟩
 by_cases hk6:kd=6
 ·subst hk6;have HE:Hid (zcN (.mk 6 tx nn at' l)=(zaw tx&&decide (-1≤nn)&&decide (nn≤9007199254740993)&&(l.take (zbR l)).all (zad 39 .field)&&(l.drop (zbR l)).all (zcn 39))):=zz rfl;go_enter Tryz.func57,Tryz.ntmps57;obtain⟨m,hm⟩:∃m,zbR l=m:=⟨_,rfl⟩;rw[hm] at HE;have hml:m≤l.length:=by rw[←hm];exact zjh l
  have hmc:m≤c:=Nat.le_trans hml (zaD B0.out.rd).2.1;have HMm:=zz hm;clear hm;go_wp2_with fail;clear hw
  go_loopw [6] (λs wr=>∃i:Nat,i≤m∧s=.int .i64 i∧wr=w0) (λs _=>m-(intOf s).toNat)
  case atStart=>exact⟨0,by omega,rfl,rfl⟩
  case round=>
   obtain⟨i,hi,rfl,rfl⟩:=hrel
   by_cases hlt:i<m
   ·obtain⟨y,hy,hyk⟩:=zji (l:=l) (i:=i) (by rw[HMm.out];exact hlt);have hil:i<l.length:=by omega
    have hin:(i:Int)<(l.length:Int):=by omega
    obtain⟨b,off,y',e,_,hget,A',c',p0,_⟩:=zbN B0.out.rd hil;rw[hy] at hget;obtain rfl:y=y':=Option.some.inj hget;subst e;rw[hyk] at p0;clear hy hget hyk;go_wp2_with fail;exact⟨⟨i+1,by omega,by go_num,trivial⟩,by simp[intOf];omega⟩
   ·obtain rfl:i=m:=by omega
    by_cases hend:i=l.length
    ·have hin:¬(i:Int)<(l.length:Int):=by omega
     clear hend;cases hq:zaw tx with
     |false=>
      have KC:=zz (zaX.run tx wr HT.out);rw[hq] at KC HE;clear hq;go_wp2_with fail;(with_reducible refine KC.out.mono ?_);rintro e w1_ ⟨rfl,hb⟩;have B1_:=zz (B0.out.below hb);clear hb B0 KC x0 x1 x2 x3 x4;obtain⟨x0,x1,x2,x3,x4⟩:=B1_.out.cs;go_wp2_with fail;go_ret;exact⟨by rw[HE.out];rfl,B1_.out.low⟩
     |true=>
      have KC:=zz (zaX.run tx wr HT.out);rw[hq] at KC HE;clear hq;go_wp2_with fail;(with_reducible refine KC.out.mono ?_);rintro e w1_ ⟨rfl,hb⟩;have B1_:=zz (B0.out.below hb);clear hb B0 KC x0 x1 x2 x3 x4;obtain⟨x0,x1,x2,x3,x4⟩:=B1_.out.cs
      by_cases hq:¬(-1≤nn)
      ·rw[decide_eq_false hq] at HE;have e1_0:¬(-1:Int)≤nn:=hq;clear hq;go_wp2_with fail;go_ret;exact⟨by rw[HE.out];rfl,B1_.out.low⟩
      ·replace hq:=Decidable.of_not_not hq;rw[decide_eq_true hq] at HE;have e1_0:(-1:Int)≤nn:=hq;clear hq
       by_cases hq:¬(nn≤9007199254740993)
       ·rw[decide_eq_false hq] at HE;have e2_0:¬nn≤9007199254740993:=hq;clear hq;go_wp2_with fail;go_ret;exact⟨by rw[HE.out];rfl,B1_.out.low⟩
       ·replace hq:=Decidable.of_not_not hq;rw[decide_eq_true hq] at HE;have e2_0:nn≤9007199254740993:=hq;clear hq;cases hq:(l.take i).all (zad 39 .field) with
        |false=>
         have S1:Shp w1_ (.func (.func 86) #[] #[]) (d+1) (zad 39 .field):=(HI.out .field).shp (cfR .field) w1_;have KC0:=zct w1_ _ (d+1) _ S1 (l.take i) A c (zev HF.out i) (zgj B1_.out.rd hml);rw[show (l.take i).length=i by rw[List.length_take];omega] at KC0;have KC:=zz KC0;clear S1 KC0;rw[hq] at KC HE;clear hq;go_wp2_with fail;(with_reducible refine KC.out.mono ?_);rintro e w2_ ⟨rfl,hb⟩;have B2_:=zz (B1_.out.below hb);clear hb B1_ KC x0 x1 x2 x3 x4;obtain⟨x0,x1,x2,x3,x4⟩:=B2_.out.cs;go_wp2_with fail;go_ret;exact⟨by rw[HE.out];rfl,B2_.out.low⟩
        |true=>
         have S1:Shp w1_ (.func (.func 86) #[] #[]) (d+1) (zad 39 .field):=(HI.out .field).shp (cfR .field) w1_;have KC0:=zct w1_ _ (d+1) _ S1 (l.take i) A c (zev HF.out i) (zgj B1_.out.rd hml);rw[show (l.take i).length=i by rw[List.length_take];omega] at KC0;have KC:=zz KC0;clear S1 KC0;rw[hq] at KC HE;clear hq;go_wp2_with fail;(with_reducible refine KC.out.mono ?_);rintro e w2_ ⟨rfl,hb⟩;have B2_:=zz (B1_.out.below hb);clear hb B1_ KC x0 x1 x2 x3 x4;obtain⟨x0,x1,x2,x3,x4⟩:=B2_.out.cs;have S1:Shp w2_ (.func (.func 92) #[] #[]) (d+1) (zcn 39):=HMb.out.shp zmw w2_;obtain⟨A',hA'⟩:∃A',(if c=i then A else (A:Option Addr).map (λx=>x.add (i*5)))=A':=⟨_,rfl⟩;have KC0:=zct w2_ _ (d+1) _ S1 (l.drop i) A' (c-i) (zih HF.out i) (zhe B2_.out.rd hml A' hA'.symm);rw[show (l.drop i).length=l.length-i from List.length_drop] at KC0;have KC:=zz KC0;clear S1 KC0;go_wp2_with fail;(with_reducible refine KC.out.mono ?_);rintro e w3_ ⟨rfl,hb⟩;have B3_:=zz (B2_.out.below hb);clear hb B2_ KC x0 x1 x2 x3 x4;obtain⟨x0,x1,x2,x3,x4⟩:=B3_.out.cs;go_wp2_with fail;go_ret;exact⟨by rw[HE.out];rfl,B3_.out.low⟩
    ·have hil:i<l.length:=by omega
     have hin:(i:Int)<(l.length:Int):=by omega
     obtain⟨b,off,y,e,_,hget,A',c',p0,_⟩:=zbN B0.out.rd hil;have hyk:(y.kind == 7)=false:=by rw[beq_eq_false_iff_ne];exact zjv (by rw[HMm.out];exact hget)
     subst e;clear hget hend;cases hq:zaw tx with
     |false=>
      have KC:=zz (zaX.run tx wr HT.out);rw[hq] at KC HE;clear hq;go_wp2_with fail;(with_reducible refine KC.out.mono ?_);rintro e w1_ ⟨rfl,hb⟩;have B1_:=zz (B0.out.below hb);clear hb B0 KC x0 x1 x2 x3 x4;obtain⟨x0,x1,x2,x3,x4⟩:=B1_.out.cs;go_wp2_with fail;go_ret;exact⟨by rw[HE.out];rfl,B1_.out.low⟩
     |true=>
      have KC:=zz (zaX.run tx wr HT.out);rw[hq] at KC HE;clear hq;go_wp2_with fail;(with_reducible refine KC.out.mono ?_);rintro e w1_ ⟨rfl,hb⟩;have B1_:=zz (B0.out.below hb);clear hb B0 KC x0 x1 x2 x3 x4;obtain⟨x0,x1,x2,x3,x4⟩:=B1_.out.cs
      by_cases hq:¬(-1≤nn)
      ·rw[decide_eq_false hq] at HE;have e1_0:¬(-1:Int)≤nn:=hq;clear hq;go_wp2_with fail;go_ret;exact⟨by rw[HE.out];rfl,B1_.out.low⟩
      ·replace hq:=Decidable.of_not_not hq;rw[decide_eq_true hq] at HE;have e1_0:(-1:Int)≤nn:=hq;clear hq
       by_cases hq:¬(nn≤9007199254740993)
       ·rw[decide_eq_false hq] at HE;have e2_0:¬nn≤9007199254740993:=hq;clear hq;go_wp2_with fail;go_ret;exact⟨by rw[HE.out];rfl,B1_.out.low⟩
       ·replace hq:=Decidable.of_not_not hq;rw[decide_eq_true hq] at HE;have e2_0:nn≤9007199254740993:=hq;clear hq;cases hq:(l.take i).all (zad 39 .field) with
        |false=>
         have S1:Shp w1_ (.func (.func 86) #[] #[]) (d+1) (zad 39 .field):=(HI.out .field).shp (cfR .field) w1_;have KC0:=zct w1_ _ (d+1) _ S1 (l.take i) (some ⟨b,off,none⟩:Option Addr) c (zev HF.out i) (zgj B1_.out.rd hml);rw[show (l.take i).length=i by rw[List.length_take];omega] at KC0;have KC:=zz KC0;clear S1 KC0;rw[hq] at KC HE;clear hq;go_wp2_with fail;(with_reducible refine KC.out.mono ?_);rintro e w2_ ⟨rfl,hb⟩;have B2_:=zz (B1_.out.below hb);clear hb B1_ KC x0 x1 x2 x3 x4;obtain⟨x0,x1,x2,x3,x4⟩:=B2_.out.cs;go_wp2_with fail;go_ret;exact⟨by rw[HE.out];rfl,B2_.out.low⟩
        |true=>
         have S1:Shp w1_ (.func (.func 86) #[] #[]) (d+1) (zad 39 .field):=(HI.out .field).shp (cfR .field) w1_;have KC0:=zct w1_ _ (d+1) _ S1 (l.take i) (some ⟨b,off,none⟩:Option Addr) c (zev HF.out i) (zgj B1_.out.rd hml);rw[show (l.take i).length=i by rw[List.length_take];omega] at KC0;have KC:=zz KC0;clear S1 KC0;rw[hq] at KC HE;clear hq;go_wp2_with fail;(with_reducible refine KC.out.mono ?_);rintro e w2_ ⟨rfl,hb⟩;have B2_:=zz (B1_.out.below hb);clear hb B1_ KC x0 x1 x2 x3 x4;obtain⟨x0,x1,x2,x3,x4⟩:=B2_.out.cs;have S1:Shp w2_ (.func (.func 92) #[] #[]) (d+1) (zcn 39):=HMb.out.shp zmw w2_;obtain⟨A',hA'⟩:∃A',(if c=i then (some ⟨b,off,none⟩:Option Addr) else ((some ⟨b,off,none⟩:Option Addr):Option Addr).map (λx=>x.add (i*5)))=A':=⟨_,rfl⟩;have KC0:=zct w2_ _ (d+1) _ S1 (l.drop i) A' (c-i) (zih HF.out i) (zhe B2_.out.rd hml A' hA'.symm);rw[show (l.drop i).length=l.length-i from List.length_drop] at KC0;have KC:=zz KC0;clear S1 KC0;have hA2:(if c=i then some (⟨b,off,none⟩:Addr) else some ⟨b,off+i*5,none⟩)=A':=by rw[←hA'];simp[Addr.add_lit]
         clear hA';go_wp2_with fail;(with_reducible refine KC.out.mono ?_);rintro e w3_ ⟨rfl,hb⟩;have B3_:=zz (B2_.out.below hb);clear hb B2_ KC x0 x1 x2 x3 x4;obtain⟨x0,x1,x2,x3,x4⟩:=B3_.out.cs;go_wp2_with fail;go_ret;exact⟨by rw[HE.out];rfl,B3_.out.low⟩
 have HE:Hid (zcN (.mk kd tx nn at' l)=false):=zz (by simp[zcN,Nd.kind,hk2,hk3,hk4,hk5,hk6]);have ek2:(kd == 2)=false:=by simp[hk2]
 have ek3:(kd == 3)=false:=by simp[hk3]
 have ek4:(kd == 4)=false:=by simp[hk4]
 have ek5:(kd == 5)=false:=by simp[hk5]
 have ek6:(kd == 6)=false:=by simp[hk6]
 clear hk2 hk3 hk4 hk5 hk6;go_enter Tryz.func57,Tryz.ntmps57;go_wp2_with fail;go_ret;exact⟨by rw[HE.out];rfl,B0.out.low⟩
theorem zmW (d:Int) (hd:d=1) (kd:Int) (tx:ByteArray) (nn at':Int) (l:List Nd) (A:Option Addr) (c:Nat) (hk:kd<70) (ht:tx.size≤32768) (hf:fitL l=true) (w:World) (h:Rd (Lt w.heap.size) w (ns l) (.slice A l.length c)) :
 Calls Tryz.prog 58 #[nd5 kd tx nn at' l A c,.int .i64 d] w λe w'=>e=.returned (.bool (zdf (.mk kd tx nn at' l)))∧Below w.heap.size w w':=by
 have hl:=zaD h;have hn:l.length≤9223372036854775807:=Nat.le_trans hl.2.1 hl.2.2;have B0r:=BxN.new (w:=w) (kd:=kd) (tx:=tx) (nn:=nn) (at':=at') h;obtain⟨w0,hw⟩:∃W,w.alloc (.cells #[.int .i64 kd,.string tx,.int .i64 nn,.int .i64 at',.slice A l.length c] 25)=W:=⟨_,rfl⟩;rw[hw] at B0r;have B0:=zz B0r;clear B0r;have HF:=zz hf;have HT:=zz ht;obtain⟨x0,x1,x2,x3,x4⟩:=B0.out.cs;clear h hl hf ht;have hdm:¬(40:Int)<d:=by omega
 have hwd:IntKind.i64.wrap (d+1)=d+1:=IntWalk.i64_in _ (by omega);clear hd;have hk70:¬kd=70:=by omega
 have ek70:(kd == 70)=false:=by simp[hk70]
 have hk71:¬kd=71:=by omega
 have ek71:(kd == 71)=false:=by simp[hk71]
 have hk72:¬kd=72:=by omega
 have ek72:(kd == 72)=false:=by simp[hk72]
 have hk73:¬kd=73:=by omega
 have ek73:(kd == 73)=false:=by simp[hk73]
 have hk74:¬kd=74:=by omega
 have ek74:(kd == 74)=false:=by simp[hk74]
 have HE:Hid (zdf (.mk kd tx nn at' l)=false):=zz (by simp[zdf,Nd.kind,hk70,hk71,hk72,hk73,hk74]);clear hk hk70 hk71 hk72 hk73 hk74;go_enter Tryz.func58,Tryz.ntmps58;go_wp2_with fail;go_ret;exact⟨by rw[HE.out];rfl,B0.out.low⟩
theorem zjX {y:Nd} (h:y.kind<70):zdf y=false:=by
 unfold zdf;rw[if_neg (by omega),if_neg (by omega),if_neg (by omega),if_neg (by omega),if_neg (by omega)]
theorem zpP:ShpC 57 1 zcN:=λn A c W hf hr=>by
 obtain⟨kd,tx,nn,at',l⟩:=n;exact znX 1 rfl (zmj 39 2 (by omega) (by omega)) zqo zny kd tx nn at' l A c (zbe hf) (zay hf) W hr
theorem zpB (tx:ByteArray) (nn at':Int) (l:List Nd) (A:Option Addr) (c:Nat) (hf:fitL l=true) (hk:∀k∈l,k.kind<70) (w:World) (h:Rd (Lt w.heap.size) w (ns l) (.slice A l.length c)) :
 Calls Tryz.prog 31 #[nd5 1 tx nn at' l A c] w λe w'=>e=.returned (.bool (zfs (.mk 1 tx nn at' l)))∧Below w.heap.size w w':=by
 have hl:=zaD h;have hn:l.length≤9223372036854775807:=Nat.le_trans hl.2.1 hl.2.2;have B0r:=BxN.new (w:=w) (kd:=1) (tx:=tx) (nn:=nn) (at':=at') h;obtain⟨w0,hw⟩:∃W,w.alloc (.cells #[.int .i64 1,.string tx,.int .i64 nn,.int .i64 at',.slice A l.length c] 25)=W:=⟨_,rfl⟩;rw[hw] at B0r;have B0:=zz B0r;have HF:=zz hf;have HK:=zz hk;obtain⟨x0,x1,x2,x3,x4⟩:=B0.out.cs;obtain⟨r,hr⟩:∃r,zfs (.mk 1 tx nn at' l)=r:=⟨_,rfl⟩;rw[hr];have HE:Hid (r=(true&&zbf (.mk 1 tx nn at' l)&&l.all (λk=>zcN k || zdf k))):=zz (by rw[←hr];rfl);clear hr;have KC:=zz (zaG 1 tx nn at' l A c w0);clear h hl hf hk B0r;go_enter Tryz.func31,Tryz.ntmps31;cases hq:zbf (.mk 1 tx nn at' l) with
 |false=>
  rw[hq] at KC HE;clear hq;go_wp2_with fail;(with_reducible refine KC.out.mono ?_);rintro e w1 ⟨rfl,hb⟩;have B1:=zz (B0.out.below hb);clear hb B0 KC x0 x1 x2 x3 x4 hw;go_wp2_with fail;go_ret;exact⟨by rw[HE.out];rfl,B1.out.low⟩
 |true=>
  rw[hq] at KC HE;clear hq;go_wp2_with fail;(with_reducible refine KC.out.mono ?_);rintro e w1 ⟨rfl,hb⟩;have B1:=zz (B0.out.below hb);clear hb B0 KC x0 x1 x2 x3 x4 hw;have x4:w1.cell? ⟨w.heap.size,4,none⟩=some (.slice A l.length c):=B1.out.c4;have HA0:Hid ((l.drop 0).all (λk=>zcN k || zdf k)=r):=zz (by rw[HE.out];rfl);clear HE;go_wp2_with fail;clear x4
  go_loopw [16] (λs wr=>∃i:Nat,i≤l.length∧s=.int .i64 i∧Hid ((l.drop i).all (λk=>zcN k || zdf k)=r)∧Hid (BxN w 1 tx nn at' l A c wr)) (λs _=>l.length-(intOf s).toNat)
  case atStart=>exact⟨0,by omega,rfl,HA0,B1⟩
  case round=>
   clear HA0 B1;obtain⟨i,hi,rfl,HA,HB⟩:=hrel
   by_cases hlt:i<l.length
   ·obtain⟨b,off,y,e,_,hget,A',c',p0,p1,p2,p3,p4,r5⟩:=zbN HB.out.rd hlt;have q:=HA.out;rw[zak hget,List.all_cons] at q;have hin:(i:Int)<l.length:=by omega
    obtain⟨w2,hw2,hb1,hx1⟩:=zai wr #[.int .i64 y.kind,.string y.text,.int .i64 y.n,.int .i64 y.at',.slice A' y.kids.length c'] 25;obtain⟨q0,q1,q2,q3,q4⟩:=hx1.c5;have HX:=zz hx1;have HB2:=zz (HB.out.below hb1);have R2:=r5.belows hb1;have hfy:=zaM HF.out (List.mem_of_getElem? hget);have hky:=HK.out y (List.mem_of_getElem? hget);have KY:=zz (zpP y A' c' w2 hfy R2);have HR2:=zz R2;have HFY:=zz hfy;have HKY:=zz hky;subst e;clear r5 hb1 hx1 HA hget R2 hfy hky;cases hg:zcN y with
    |true=>
     rw[hg] at KY q;have HA2:Hid ((l.drop (i+1)).all (λk=>zcN k || zdf k)=r):=zz q;clear q hg;go_wp2_with fail;(with_reducible refine KY.out.mono ?_);rintro e w3 ⟨rfl,hb2⟩;have HB3:=zz (HB2.out.below hb2);clear hb2 q0 q1 q2 q3 q4 hw2;go_wp2_with fail;exact⟨⟨i+1,by omega,by go_num,HA2,HB3⟩,by simp[intOf];omega⟩
    |false=>
     rw[hg] at KY q;have hc:zdf y=false:=zjX HKY.out;have HQ:Hid (false=r):=zz (by rw[hc] at q;exact q);clear q hg;go_wp2_with fail;(with_reducible refine KY.out.mono ?_);rintro e w3 ⟨rfl,hb2⟩;have HB3:=zz (HB2.out.below hb2)
     have KZ:Hid (Calls Tryz.prog 58 #[.agg #[.int .i64 y.kind,.string y.text,.int .i64 y.n,.int .i64 y.at',.slice A' y.kids.length c'],.int .i64 1] w3 λe w'=>e=.returned (.bool false)∧Below w3.heap.size w3 w'):=zz (by
      have h3:=HR2.out.belows hb2;have h4:=HFY.out;have h5:=HKY.out;rw[←hc];obtain⟨kd,tx,nn,at',l⟩:=y;exact zmW 1 rfl kd tx nn at' l A' c' h5 (zbe h4) (zay h4) w3 h3)
     have hx3:=zaa hb2 HX.out;clear hb2 q0 q1 q2 q3 q4 hw2 hc;obtain⟨q0,q1,q2,q3,q4⟩:=hx3.c5;clear hx3;go_wp2_with fail;(with_reducible refine KZ.out.mono ?_);rintro e w4 ⟨rfl,hb4⟩;have HB4:=zz (HB3.out.below hb4);clear hb4 q0 q1 q2 q3 q4;go_wp2_with fail;go_ret;exact⟨by rw[←HQ.out];rfl,HB4.out.low⟩
   ·have HQ:Hid (true=r):=zz (by have q:=HA.out;rw[List.drop_eq_nil_of_le (by omega)] at q;exact q);go_wp2_with fail;go_ret;exact⟨by rw[←HQ.out];rfl,HB.out.low⟩
end Go.Proofs.YtjdpocmlimkjjaaGreat
