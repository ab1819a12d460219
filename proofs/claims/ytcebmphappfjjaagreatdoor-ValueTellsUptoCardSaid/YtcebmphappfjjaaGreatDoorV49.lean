/- Conditions: those in each statement. -/
import Derived.Test.YtcebmphappfjjaaGreatDoorV47
import Derived.Lib.QuietBelow
import Derived.Test.YtcebmphappfjjaaGreatDoorV48
set_option maxHeartbeats 32000000
set_option maxRecDepth 100000
namespace Go.Proofs.YtcebmphappfjjaaGreatDoor
open Go.RowKit Go.Sort
theorem zAd (k:Int) (t:ByteArray) (n m:Int) (s:ByteArray) (l:List V) (A:Option Addr) (c:Nat) (w:World) (hb:(V.mk k t n m s l).bulk<=2097152) (hr:Rd (Lt w.heap.size) w (vs l) (.slice A l.length c)) :
 Calls Tryz.prog 25 #[.agg #[↑k,↑t,↑n,↑m,↑s,.slice A l.length c]] w λe w'=>e=.returned (.bool (zkS zbL (.mk k t n m s l)))/\Below w.heap.size w w':=by
 have HR:=zz hr;have HC:=zz (λW h=>zBi _ k t n m s l A c W (Nat.le_refl _) hb h);have HD:=zz (λW h=>zCB _ k t n m s l A c W (Nat.le_refl _) hb h);have HU:=zz (zDd (.mk k t n m s l));have hcb:=zBj (.mk k t n m s l);clear hr;generalize (V.mk k t n m s l).count=q at *
 generalize zkS zbL (.mk k t n m s l)=R at *
 generalize allN zzw (.mk k t n m s l)=RN at *
 by_cases hq:q<=16384
 ·have HE:Hid (R=RN):=zz (by rw[<-HU.out,decide_eq_true hq,Bool.true_and]);have hq':(q:Int)<=16384:=zo
  go_in;go_wp2_with fail;(with_reducible refine(HC.out _ ?_).mono ?_)
  ·exact HR.out.allocs _
  rintro e w1 ⟨rfl,hb1⟩;have hbx:w1.heap[w.heap.size]?=some (.cells #[↑k,↑t,↑n,↑m,↑s,.slice A l.length c] 24 (0,0)):=(hb1.block w.heap.size zs).trans (heap_alloc_new w _);have c0:w1.cell? ⟨w.heap.size,0,none⟩=some ↑k:=by rw[Lib.cell_of_heap hbx];rfl
  have c1:w1.cell? ⟨w.heap.size,1,none⟩=some ↑t:=by rw[Lib.cell_of_heap hbx];rfl
  have c2:w1.cell? ⟨w.heap.size,2,none⟩=some ↑n:=by rw[Lib.cell_of_heap hbx];rfl
  have c3:w1.cell? ⟨w.heap.size,3,none⟩=some ↑m:=by rw[Lib.cell_of_heap hbx];rfl
  have c4:w1.cell? ⟨w.heap.size,4,none⟩=some ↑s:=by rw[Lib.cell_of_heap hbx];rfl
  have c5:w1.cell? ⟨w.heap.size,5,none⟩=some (.slice A l.length c):=by rw[Lib.cell_of_heap hbx];rfl
  have HB:=zz (((Below.refl _ _).alloc (Nat.le_refl w.heap.size) _).trans (hb1.mono zs));have R1:=zz ((HR.out.allocs _).belows hb1);clear hb1 hbx;go_wp2_with fail;(with_reducible refine(HD.out _ R1.out).mono ?_);rintro e w2 ⟨rfl,hb2⟩;have HB2:=zz (HB.out.trans (hb2.mono HB.out.size));clear hb2;go_wp2;go_ret;exact⟨by rw[HE.out];rfl,HB2.out⟩
 ·have HE:Hid (R=false):=zz (by rw[<-HU.out,decide_eq_false hq,Bool.false_and]);have hq':¬(q:Int)<=16384:=zo
  have hq2:decide ((q:Int)<=16384)=false:=decide_eq_false hq';go_in;go_wp2_with fail;(with_reducible refine(HC.out _ ?_).mono ?_)
  ·exact HR.out.allocs _
  rintro e w1 ⟨rfl,hb1⟩;have HB:=zz (((Below.refl _ _).alloc (Nat.le_refl w.heap.size) _).trans (hb1.mono zs));clear hb1;go_wp2;go_ret;exact⟨by rw[HE.out];rfl,HB.out⟩
theorem zAS (s:ByteArray):(⟨s.data.toList.toArray⟩:ByteArray)=s:=by
 apply zbX;rw[ByteArray.toList_eq]
theorem zAA (l:List V) (i:Nat):(zeP (l.take i)).length<=9*zcl l:=Nat.le_trans (zhB _) (Nat.mul_le_mul_left _ (zvK l i))
theorem zCG:∀(N:Nat) (k:Int) (t:ByteArray) (n m:Int) (s:ByteArray) (l:List V) (A:Option Addr) (c:Nat) (w:World),(V.mk k t n m s l).bulk<=N->N<=2097152->(V.mk k t n m s l).Wf->Rd (Lt w.heap.size) w (vs l) (.slice A l.length c)->
 Calls Tryz.prog 64 #[.agg #[↑k,↑t,↑n,↑m,↑s,.slice A l.length c]] w λe w'=>e=.returned (.string ⟨(zgJ (.mk k t n m s l)).toArray⟩)/\Below w.heap.size w w':=by
 intro N
 induction N with
 |zero=>
  intro k t n m s l A c w hb;rw[zbv] at hb;omega
 |succ N ih=>
  intro k t n m s l A c w hb hN hwf hr;rw[zbv] at hb;rw[V.Wf] at hwf;obtain⟨⟨k0,k1⟩,⟨n0,n1⟩,⟨m0,m1⟩,hwl⟩:=hwf;have hll:=zdB l;have HR:=zz hr;have IH:=zz ih;have HW:=zz hwl;have h0:=zpJ k;have h1:=zjo t;have h2:=zkO n;have h3:=zkO m;have h4:=zjo s;have h5:=zfP l.length;obtain⟨W,hW⟩:=zn (w.alloc (.cells #[↑k,↑t,↑n,↑m,↑s,.slice A l.length c] 24));have hbx:W.heap[w.heap.size]?=some (.cells #[↑k,↑t,↑n,↑m,↑s,.slice A l.length c] 24 (0,0)):=by rw[<-hW];exact heap_alloc_new w _
  have HBX:=zz hbx;have HWB:Hid (Below w.heap.size w W):=zz (by rw[<-hW];exact(Below.refl _ _).alloc (Nat.le_refl _) _);have HWZ:Hid (W.heap.size=w.heap.size+1):=zz (by rw[<-hW];simp);have c0:∀d os,(grow (redrawn W d) os).cell? ⟨w.heap.size,0,none⟩=some ↑k:=λd os=>cell_regrown (by rw[Lib.cell_of_heap hbx];rfl) d os;have c1:∀d os,(grow (redrawn W d) os).cell? ⟨w.heap.size,1,none⟩=some ↑t:=λd os=>cell_regrown (by rw[Lib.cell_of_heap hbx];rfl) d os;have c2:∀d os,(grow (redrawn W d) os).cell? ⟨w.heap.size,2,none⟩=some ↑n:=λd os=>cell_regrown (by rw[Lib.cell_of_heap hbx];rfl) d os;have c3:∀d os,(grow (redrawn W d) os).cell? ⟨w.heap.size,3,none⟩=some ↑m:=λd os=>cell_regrown (by rw[Lib.cell_of_heap hbx];rfl) d os;have c4:∀d os,(grow (redrawn W d) os).cell? ⟨w.heap.size,4,none⟩=some ↑s:=λd os=>cell_regrown (by rw[Lib.cell_of_heap hbx];rfl) d os;have c5:∀d os,(grow (redrawn W d) os).cell? ⟨w.heap.size,5,none⟩=some (.slice A l.length c):=λd os=>cell_regrown (by rw[Lib.cell_of_heap hbx];rfl) d os;have K0:=zz (λd os=>Calls.regrown_of (zBo k k1 (grow (redrawn W d) os)));have K1:=zz (λd os=>Calls.regrown_of (zAG t zo (grow (redrawn W d) os)));have K2:=zz (λd os=>Calls.regrown_of (zBm n (grow (redrawn W d) os)));have K3:=zz (λd os=>Calls.regrown_of (zBm m (grow (redrawn W d) os)));have K4:=zz (λd os=>Calls.regrown_of (zAG s zo (grow (redrawn W d) os)));have K5:=zz (λd os=>Calls.regrown_of (zAu l.length zo (grow (redrawn W d) os)));have HY:Hid (zgJ (.mk k t n m s l)=(numZ k++zoI t++intB n++intB m++zoI s++numB l.length).data.toList++zeP l):=zz (by rw[zgJ];simp[ByteArray.data_append]);obtain⟨x0,e0⟩:=zn (numZ k);obtain⟨x1,e1⟩:=zn (zoI t);obtain⟨x2,e2⟩:=zn (intB n);obtain⟨x3,e3⟩:=zn (intB m);obtain⟨x4,e4⟩:=zn (zoI s);obtain⟨x5,e5⟩:=zn (numB l.length);rw[e0,e1,e2,e3,e4,e5] at HY;rw[e0] at h0 K0;rw[e1] at h1 K1;rw[e2] at h2 K2;rw[e3] at h3 K3;rw[e4] at h4 K4;rw[e5] at h5 K5;have z1:¬9223372036854775807<x0.size+x1.size:=zo
  have z2:¬9223372036854775807<x0.size+x1.size+x2.size:=zo
  have z3:¬9223372036854775807<x0.size+x1.size+x2.size+x3.size:=zo
  have z4:¬9223372036854775807<x0.size+x1.size+x2.size+x3.size+x4.size:=zo
  have z5:¬9223372036854775807<x0.size+x1.size+x2.size+x3.size+x4.size+x5.size:=zo
  clear hr ih hwl hbx e0 e1 e2 e3 e4 e5;go_in;go_wp2;clear hW;refine wp_region_quiet_below zk zk ?_
  repeat (quiet_step (first|with_reducible exact K0.out _ _|with_reducible exact K1.out _ _|with_reducible exact K2.out _ _|with_reducible exact K3.out _ _|with_reducible exact K4.out _ _|with_reducible exact K5.out _ _))
  refine wpQuiet_nil ?_;intro _ hw';obtain⟨⟨dq,osq⟩,hw''⟩:=hw';subst hw'';clear c0 c1 c2 c3 c4 c5 K0 K1 K2 K3 K4 K5;have hb1:=below_regrown W dq osq;obtain⟨w1,hw1⟩:=zn (grow (redrawn W dq) osq);rw[hw1] at hb1 ⊢;have HB1:=zz (HWB.out.trans (hb1.mono (by rw[HWZ.out];omega)));have HB2:=zz hb1;clear hw1 hb1;obtain⟨hd,hhd⟩:=zn (x0++x1++x2++x3++x4++x5);have hhs:hd.size<=54+t.size+s.size:=by rw[<-hhd];simp only[ByteArray.size_append];omega
  have HH:=zz hhd;rw[hhd] at HY;go_wp2;rw[HH.out];clear hhd HH z1 z2 z3 z4 z5 h0 h1 h2 h3 h4 h5
  go_loopw [3,4] (λs3 s4 wr=>∃(i:Nat) (acc:ByteArray),i<=l.length/\s4=↑i/\s3=↑acc/\Hid (acc.data.toList=hd.data.toList++zeP (l.take i))/\Hid (Below W.heap.size W wr)) (λ_ s4 _=>l.length-(intOf s4).toNat)
  case atStart=>exact⟨0,hd,zo,rfl,rfl,zz (by simp[zeP]),HB2⟩
  case round=>
   obtain⟨i,acc,hi,rfl,rfl,HQ,HB⟩:=hrel;have hbw:Below w.heap.size w wr:=HWB.out.trans (HB.out.mono (by rw[HWZ.out];omega));have hc5:wr.cell? ⟨w.heap.size,5,none⟩=some (.slice A l.length c):=by rw[Lib.cell_of_heap ((HB.out.block w.heap.size (by rw[HWZ.out];omega)).trans HBX.out)];rfl
   have hbt:=zAA l i
   have hacc:acc.size<=54+t.size+s.size+9*zcl l:=by
    have:=congrArg List.length HQ.out;rw[List.length_append,zai,zai] at this;omega
   by_cases hlt:i<l.length
   ·obtain⟨b,off,kd,t',n',m',s',l',A',c',e,hlb,hget,h2⟩:=zrO (HR.out.belows hbw) hlt;subst e;obtain⟨c0,c1,c2,c3,c4,c5,r5⟩:=h2;have hbk:=zeK _ _ _ hget;have HC:=zz (IH.out kd t' n' m' s' l' A' c' wr zo zo (zxq _ _ _ HW.out hget) r5);have hyl:=znK (.mk kd t' n' m' s' l')
    have HQ2:Hid ((acc++⟨(zgJ (.mk kd t' n' m' s' l')).toArray⟩).data.toList=hd.data.toList++zeP (l.take (i+1))):=zz (by
     rw[ByteArray.data_append,Array.toList_append,HQ.out,zvk l i _ hget,List.append_assoc])
    obtain⟨y,hy⟩:∃y:ByteArray,⟨(zgJ (.mk kd t' n' m' s' l')).toArray⟩=y:=⟨_,rfl⟩;have hys:y.size<=9*(V.mk kd t' n' m' s' l').bulk:=by rw[<-hy];simpa [ByteArray.size] using hyl
    rw[hy] at HC HQ2;have HWS:=zz HB.out.size;clear r5 hget hy HQ hbw;go_wp2_with fail;refine zi HC ?_;rintro e w4 ⟨rfl,hb4⟩;have B4:=zz (HB.out.trans (hb4.mono HWS.out));clear hb4;go_wp2;exact⟨⟨i+1,acc++y,zo,by go_num,rfl,HQ2,B4⟩,by simp[intOf];omega⟩
   ·obtain rfl:i=l.length:=zo
    have HE:Hid ((⟨(zgJ (.mk k t n m s l)).toArray⟩:ByteArray)=acc):=zz (by
     rw[HY.out];have:=HQ.out;rw[List.take_length] at this;rw[<-this,zAS])
    have HBW:=zz hbw;clear hbw HQ;go_wp2;go_ret;exact⟨by rw[HE.out];rfl,HBW.out⟩
theorem zCk (k:Int) (t:ByteArray) (n m:Int) (s:ByteArray) (l:List V) (A:Option Addr) (c:Nat) (w:World) (hb:(V.mk k t n m s l).bulk<=2097152) (hwf:(V.mk k t n m s l).Wf) (hr:Rd (Lt w.heap.size) w (vs l) (.slice A l.length c)) :
 Calls Tryz.prog 31 #[.agg #[↑k,↑t,↑n,↑m,↑s,.slice A l.length c]] w λe w'=>e=.returned (.string (zjt zbL (.mk k t n m s l)))/\Below w.heap.size w w':=by
 have HR:=zz hr;have HC:=zz (λW h=>zAd k t n m s l A c W hb h);have HD:=zz (λW h=>zCG _ k t n m s l A c W (Nat.le_refl _) hb hwf h);have HU:Hid (zjt zbL (.mk k t n m s l)=if zkS zbL (.mk k t n m s l) then ⟨(zgJ (.mk k t n m s l)).toArray⟩ else ⟨#[]⟩):=zz rfl;clear hr hwf;generalize zjt zbL (.mk k t n m s l)=R at *
 generalize zkS zbL (.mk k t n m s l)=rp at *
 cases rp with
 |false=>
  go_in;go_wp2_with fail;(with_reducible refine(HC.out _ ?_).mono ?_)
  ·exact HR.out.allocs _
  rintro e w1 ⟨rfl,hb1⟩;have HB:=zz hb1;clear hb1;go_wp2;go_ret;exact⟨by rw[HU.out];rfl,((Below.refl _ _).alloc (Nat.le_refl _) _).trans (HB.out.mono zs)⟩
 |true=>
  go_in;go_wp2_with fail;(with_reducible refine(HC.out _ ?_).mono ?_)
  ·exact HR.out.allocs _
  rintro e w1 ⟨rfl,hb1⟩;have hbx:w1.heap[w.heap.size]?=some (.cells #[↑k,↑t,↑n,↑m,↑s,.slice A l.length c] 24 (0,0)):=(hb1.block w.heap.size zs).trans (heap_alloc_new w _);have c0:w1.cell? ⟨w.heap.size,0,none⟩=some ↑k:=by rw[Lib.cell_of_heap hbx];rfl
  have c1:w1.cell? ⟨w.heap.size,1,none⟩=some ↑t:=by rw[Lib.cell_of_heap hbx];rfl
  have c2:w1.cell? ⟨w.heap.size,2,none⟩=some ↑n:=by rw[Lib.cell_of_heap hbx];rfl
  have c3:w1.cell? ⟨w.heap.size,3,none⟩=some ↑m:=by rw[Lib.cell_of_heap hbx];rfl
  have c4:w1.cell? ⟨w.heap.size,4,none⟩=some ↑s:=by rw[Lib.cell_of_heap hbx];rfl
  have c5:w1.cell? ⟨w.heap.size,5,none⟩=some (.slice A l.length c):=by rw[Lib.cell_of_heap hbx];rfl
  have HB:=zz (((Below.refl _ _).alloc (Nat.le_refl w.heap.size) _).trans (hb1.mono zs));have R1:=zz ((HR.out.allocs _).belows hb1);clear hb1 hbx;go_wp2_with fail;(with_reducible refine(HD.out _ R1.out).mono ?_);rintro e w2 ⟨rfl,hb2⟩;have HB2:=zz (HB.out.trans (hb2.mono HB.out.size));clear hb2;go_wp2;go_ret;exact⟨by rw[HU.out];rfl,HB2.out⟩
end Go.Proofs.YtcebmphappfjjaaGreatDoor
set_option maxHeartbeats 32000000
set_option maxRecDepth 100000
namespace Go.Proofs.YtcebmphappfjjaaGreatDoor
open Go.RowKit
def zAK (b:Nat) (o:Option (V × RS)) (w:World) (e:Ending) (w':World):Prop:=
 Chg (λk=>k=b) w w'/\
 match o with
 |none=>e=.returned (.tuple #[.agg #[.int .i64 0,.string ⟨#[]⟩,.int .i64 0,.int .i64 0,.string ⟨#[]⟩,.slice none 0 0],.bool false])/\R2At w' b RS.bad
 |some (v,r')=>∃A c,e=.returned (.tuple #[.agg #[.int .i64 v.kind,.string v.t,.int .i64 v.n,.int .i64 v.m,.string v.s,.slice A v.l.length c],.bool true])/\Rd (Bt w.heap.size w'.heap.size) w' (vs v.l) (.slice A v.l.length c)/\R2At w' b r'
theorem zCy {r:RS} (h:Gone r) (n:Int):zuh r n=RS.bad:=by unfold zuh;rw[if_pos (.inl h.1)]
theorem zCm {r:RS} (h:r.f=false):zuh r 0=r:=by
 unfold zuh
 rw[if_neg (by rw[h];rintro (h|h|h)<;>first|cases h|omega)]
 obtain⟨s,f⟩:=r;have h':f=false:=h;subst h';simp
theorem zzJ {b:Nat} {w0 W:World} (hb:b<w0.heap.size) (hc:Chg (λk=>k=b) w0 W) (hr:R2At W b RS.bad) (hz:zab W w0.heap.size #[↑(),↑zj.a,↑(),↑(),↑zj.a,.slice none 0 0] 24) {a:Act}
 (h4:a.tmps.getD 2 undef=.pointer (some ⟨w0.heap.size,0,none⟩)) (h5:a.tmps.getD 3 undef=.bool false) (hd:a.defers=[]) :
 bodyPost Tryz.prog Tryz.f16 (zAK b none w0) Exit.ret a ((((((W.setCell ⟨w0.heap.size,0,none⟩ ↑()).setCell ⟨w0.heap.size,1,none⟩ ↑zj.a).setCell ⟨w0.heap.size,2,none⟩ ↑()).setCell ⟨w0.heap.size,3,none⟩ ↑()).setCell ⟨w0.heap.size,4,none⟩ ↑zj.a).setCell ⟨w0.heap.size,5,none⟩ (.slice none 0 0)):=by
 refine bodyPost_ret (v:=ZT) ?_ hd ⟨zlG hc (.inr (Nat.le_refl _)) _ _ _ _ _ _,rfl,hr.keep (zlJ _ _ _ _ _ _) zo⟩;have:=zah Tryz.results16 a.tmps _ w0.heap.size _ _ (0,0) _ h4 (zhz ↑() ↑zj.a ↑() ↑() ↑zj.a (.slice none 0 0) hz) Tryz.underlying24 rfl zkU;rw[h5] at this;exact this
theorem zBh {b:Nat} {w0 W:World} {v:V} {r':RS} {A:Option Addr} {c:Nat} (hb:b<w0.heap.size) (hc:Chg (λk=>k=b) w0 W) (hr:R2At W b r') (hz:zab W w0.heap.size #[↑(),↑zj.a,↑(),↑(),↑zj.a,.slice none 0 0] 24) (hrd:Rd (Bt (w0.heap.size+1) W.heap.size) W (vs v.l) (.slice A v.l.length c)) {a:Act}
 (h4:a.tmps.getD 2 undef=.pointer (some ⟨w0.heap.size,0,none⟩)) (h5:a.tmps.getD 3 undef=.bool true) (hd:a.defers=[]) :
 bodyPost Tryz.prog Tryz.f16 (zAK b (some (v,r')) w0) Exit.ret a ((((((W.setCell ⟨w0.heap.size,0,none⟩ ↑v.kind).setCell ⟨w0.heap.size,1,none⟩ ↑v.t).setCell ⟨w0.heap.size,2,none⟩ ↑v.n).setCell ⟨w0.heap.size,3,none⟩ ↑v.m).setCell ⟨w0.heap.size,4,none⟩ ↑v.s).setCell ⟨w0.heap.size,5,none⟩ (.slice A v.l.length c)):=by
 have:=zah Tryz.results16 a.tmps _ w0.heap.size _ _ (0,0) _ h4 (zhz ↑v.kind ↑v.t ↑v.n ↑v.m ↑v.s (.slice A v.l.length c) hz) Tryz.underlying24 rfl zkU;rw[h5] at this;have hc1:=zlJ (w:=W) (g:=w0.heap.size) ↑v.kind ↑v.t ↑v.n ↑v.m ↑v.s (.slice A v.l.length c);have h1:=hc1.rd (ok:=Bt (w0.heap.size+1) W.heap.size) (λb hb=>⟨hb.2,by have:=hb.1;omega⟩) hrd;exact bodyPost_ret this hd ⟨zlG hc (.inr (Nat.le_refl _)) _ _ _ _ _ _,A,c,rfl,h1.weaken (λb hb=>⟨by have:=hb.1;omega,Nat.lt_of_lt_of_le hb.2 hc1.size⟩),hr.keep (zlJ _ _ _ _ _ _) zo⟩
theorem zDv {r:RS} {v:V} {r':RS} {l':Nat} (hf:Sane r) (hz:r.s.size<=4294967296) (h:tkS 16385 r 16384=some (v,r',l')) (hg:¬Gone r'):zwo r v r':=by
 have hf0:r.f=false:=by
  rcases hf with hf|hf
  ·exact hf
  ·rw[zAQ _ _ _ hf] at h;cases h
 rcases zAW 16385 r 16384 with e|⟨_,v2,r2,l2,e',hg'⟩
 ·exact zwd _ _ _ _ _ _ hf0 hz (e▸h)
 ·rw[h] at e';injection e' with e';injection e' with _ e';injection e' with e' _;exact absurd (e'▸hg') hg
theorem zCQ (b:Nat) (r:RS) (w:World) (hr:R2At w b r) (hf:Sane r) (hs:r.s.size<=1048576):Calls Tryz.prog 16 #[.pointer (some ⟨b,0,none⟩)] w (zAK b (zub r) w):=by
 have hb:=hr.lt;obtain⟨W,hW⟩:∃W,w.alloc (.cells #[↑(),↑zj.a,↑(),↑(),↑zj.a,.slice none 0 0] 24)=W:=⟨_,rfl⟩;have hA:Below w.heap.size w W:=by rw[<-hW];exact(Below.refl _ _).alloc (Nat.le_refl _) _
 have HSZ:Hid (W.heap.size=w.heap.size+1):=zz (by rw[<-hW];simp);have HZ:Hid (zab W w.heap.size #[↑(),↑zj.a,↑(),↑(),↑zj.a,.slice none 0 0] 24):=zz (by rw[<-hW];exact zab.new w _ _);have hd:=zBz 16385 b r 16384 W zo zo zo (hr.below hA);rw[show ((16384:Nat):Int)=16384 from rfl] at hd;have HD:=zz hd;clear hd;have HA:=zz hA;have HDF:Hid (∀v r' l',tkS 16385 r 16384=some (v,r',l')->¬Gone r'->zwo r v r'):=zz (λv r' l' h hg=>zDv hf zo h hg);have HRS:Hid (∀v r' l',tkS 16385 r 16384=some (v,r',l')->r'.s.size<=4294967296):=zz (λv r' l' h=>by have:=(zCh _ _ _ _ _ _ h).2;omega);have HO:Hid (zub r=(tkS 16385 r 16384).bind λp=>if p.2.1.s.size=0/\zti p.2.1=false then none else if zkS zbL p.1 then some (p.1,p.2.1) else none):=zz (by rw[<-zDq hf zo];rfl);generalize zub r=O at *
 generalize tkS 16385 r 16384=d at *
 clear hA hr;go_in;go_wp2_with fail;clear hW;refine zi HD ?_;rintro e w3 ⟨hc3,hp3⟩;have HC3:Hid (Chg (λk=>k=b) w w3):=zz ((Chg.of_below HA.out).trans hc3 (λk hk=>.inl hk));have Z3:=zz (HZ.out.keep hc3 zo);have hsz:=hc3.size;have hsz2:=HSZ.out;have hb3:w.heap.size+1<=w3.heap.size:=zo
 clear HD HZ hc3 hsz hsz2;cases d with
 |none=>
  obtain⟨rfl,r3,hr3,hrs⟩:=hp3;have HN:Hid (O=none):=zz (by rw[HO.out];rfl);have R3:=zz hr3;clear hr3 HO HDF HRS;have hal:Below w3.heap.size w3 (w3.alloc (.cells #[↑(),↑zj.a,↑(),↑(),↑zj.a,.slice none 0 0] 24)):=(Below.refl _ _).alloc (Nat.le_refl _) _;have HAL:=zz hal;have X3:Hid (zab (w3.alloc (.cells #[↑(),↑zj.a,↑(),↑(),↑zj.a,.slice none 0 0] 24)) w3.heap.size #[↑(),↑zj.a,↑(),↑(),↑zj.a,.slice none 0 0] 24):=zz (zab.new w3 _ _);clear hal;go_wp2_with fail;(with_reducible refine(zzB b r3 0 _ (R3.out.below HAL.out) hrs).mono ?_);rintro e w4 ⟨rfl,hc4,hr4⟩;have Z4:Hid (zab w4 w.heap.size #[↑(),↑zj.a,↑(),↑(),↑zj.a,.slice none 0 0] 24):=zz ((Z3.out.keep (M:=λk=>k=b) (Chg.of_below HAL.out) zo).keep hc4 zo);have X4:Hid (zab w4 w3.heap.size #[↑(),↑zj.a,↑(),↑(),↑zj.a,.slice none 0 0] 24):=zz (X3.out.keep hc4 (by have:=HC3.out.size;omega));have HC4:=zz ((HC3.out.thenBelow HAL.out).next hc4);have hrs4:(zuh r3 0).s.size<=4294967296:=Nat.le_trans (zwS _ _) hrs;generalize zuh r3 0=r4 at *
  have R4:=zz hr4;clear hr4 hc4
  by_cases hz:r4.s.size=0
  ·have hzb:((r4.s.size:Int) == 0)=true:=by simp[hz]
   go_wp2_with fail;(with_reducible refine(zzE b r4 w4 R4.out).mono ?_);rintro e w5 ⟨rfl,rfl⟩;go_wp2_with fail;(with_reducible refine(zzW b r4 w4 R4.out).mono ?_);rintro e w5 ⟨rfl,rfl⟩;cases zti r4<;>dsimp only
   ·
    go_wp2_with fail;(with_reducible refine(zzB b r4 (-1) _ R4.out hrs4).mono ?_);rintro e w6 ⟨rfl,hc6,hr6⟩;rw[zwe] at hr6;have R6:=zz hr6;have Z6:=zz (Z4.out.keep hc6 zo);have HC6:=zz (HC4.out.next hc6);clear hc6 hr6;have z0:w6.cell? ⟨w.heap.size,0,none⟩=some ↑():=by rw[Z6.out.cell];rfl
    have z1:w6.cell? ⟨w.heap.size,1,none⟩=some ↑zj.a:=by rw[Z6.out.cell];rfl
    have z2:w6.cell? ⟨w.heap.size,2,none⟩=some ↑():=by rw[Z6.out.cell];rfl
    have z3:w6.cell? ⟨w.heap.size,3,none⟩=some ↑():=by rw[Z6.out.cell];rfl
    have z4:w6.cell? ⟨w.heap.size,4,none⟩=some ↑zj.a:=by rw[Z6.out.cell];rfl
    have z5:w6.cell? ⟨w.heap.size,5,none⟩=some (.slice none 0 0):=by rw[Z6.out.cell];rfl
    have zf:=Z6.out.fz;go_wp2_with fail;rw[HN.out];exact zzJ hb HC6.out R6.out Z6.out rfl rfl rfl
   ·
    go_wp2_with fail;(with_reducible refine(zzB b r4 (-1) _ R4.out hrs4).mono ?_);rintro e w6 ⟨rfl,hc6,hr6⟩;rw[zwe] at hr6;have R6:=zz hr6;have Z6:=zz (Z4.out.keep hc6 zo);have HC6:=zz (HC4.out.next hc6);clear hc6 hr6;have z0:w6.cell? ⟨w.heap.size,0,none⟩=some ↑():=by rw[Z6.out.cell];rfl
    have z1:w6.cell? ⟨w.heap.size,1,none⟩=some ↑zj.a:=by rw[Z6.out.cell];rfl
    have z2:w6.cell? ⟨w.heap.size,2,none⟩=some ↑():=by rw[Z6.out.cell];rfl
    have z3:w6.cell? ⟨w.heap.size,3,none⟩=some ↑():=by rw[Z6.out.cell];rfl
    have z4:w6.cell? ⟨w.heap.size,4,none⟩=some ↑zj.a:=by rw[Z6.out.cell];rfl
    have z5:w6.cell? ⟨w.heap.size,5,none⟩=some (.slice none 0 0):=by rw[Z6.out.cell];rfl
    have zf:=Z6.out.fz;go_wp2_with fail;rw[HN.out];exact zzJ hb HC6.out R6.out Z6.out rfl rfl rfl
  ·have hzb:((r4.s.size:Int) == 0)=false:=by rw[beq_eq_false_iff_ne];omega
   go_wp2_with fail;(with_reducible refine(zzE b r4 w4 R4.out).mono ?_);rintro e w5 ⟨rfl,rfl⟩;go_wp2_with fail;(with_reducible refine(zzB b r4 (-1) _ R4.out hrs4).mono ?_);rintro e w6 ⟨rfl,hc6,hr6⟩;rw[zwe] at hr6;have R6:=zz hr6;have Z6:=zz (Z4.out.keep hc6 zo);have HC6:=zz (HC4.out.next hc6);clear hc6 hr6;have z0:w6.cell? ⟨w.heap.size,0,none⟩=some ↑():=by rw[Z6.out.cell];rfl
   have z1:w6.cell? ⟨w.heap.size,1,none⟩=some ↑zj.a:=by rw[Z6.out.cell];rfl
   have z2:w6.cell? ⟨w.heap.size,2,none⟩=some ↑():=by rw[Z6.out.cell];rfl
   have z3:w6.cell? ⟨w.heap.size,3,none⟩=some ↑():=by rw[Z6.out.cell];rfl
   have z4:w6.cell? ⟨w.heap.size,4,none⟩=some ↑zj.a:=by rw[Z6.out.cell];rfl
   have z5:w6.cell? ⟨w.heap.size,5,none⟩=some (.slice none 0 0):=by rw[Z6.out.cell];rfl
   have zf:=Z6.out.fz;go_wp2_with fail;rw[HN.out];exact zzJ hb HC6.out R6.out Z6.out rfl rfl rfl
 |some p=>
  obtain⟨x,r3,l3⟩:=p;obtain⟨A,c,rfl,hx,hr3⟩:=hp3;have hrs:=HRS.out _ _ _ rfl;have R3:=zz hr3;have HX:=zz (hx.weaken (ok':=Bt (w.heap.size+1) w3.heap.size) (λq hq=>⟨by have:=hq.1;have:=HSZ.out;omega,hq.2⟩));clear hr3 hx HRS;have hl30:¬(l3:Int)<0:=zo
  have hl31:decide ((l3:Int)<0)=false:=decide_eq_false hl30;have hal:Below w3.heap.size w3 (w3.alloc (.cells #[↑x.kind,↑x.t,↑x.n,↑x.m,↑x.s,.slice A x.l.length c] 24)):=(Below.refl _ _).alloc (Nat.le_refl _) _;have HAL:=zz hal;have X3:Hid (zab (w3.alloc (.cells #[↑x.kind,↑x.t,↑x.n,↑x.m,↑x.s,.slice A x.l.length c] 24)) w3.heap.size #[↑x.kind,↑x.t,↑x.n,↑x.m,↑x.s,.slice A x.l.length c] 24):=zz (zab.new w3 _ _);clear hal;go_wp2_with fail;(with_reducible refine(zzB b r3 0 _ (R3.out.below HAL.out) hrs).mono ?_);rintro e w4 ⟨rfl,hc4,hr4⟩;have Z4:Hid (zab w4 w.heap.size #[↑(),↑zj.a,↑(),↑(),↑zj.a,.slice none 0 0] 24):=zz ((Z3.out.keep (M:=λk=>k=b) (Chg.of_below HAL.out) zo).keep hc4 zo);have X4:Hid (zab w4 w3.heap.size #[↑x.kind,↑x.t,↑x.n,↑x.m,↑x.s,.slice A x.l.length c] 24):=zz (X3.out.keep hc4 (by have:=HC3.out.size;omega));have HC4:=zz ((HC3.out.thenBelow HAL.out).next hc4)
  by_cases hg:Gone r3
  ·have HN:Hid (O=none):=zz (by rw[HO.out,Option.bind_some,if_pos (zAi hg)]);rw[zCy hg] at hr4;have R4:=zz hr4;have hD:zti RS.bad=false:=rfl;have hrb:RS.bad.s.size<=4294967296:=Nat.zero_le _;have hzb:((RS.bad.s.size:Int) == 0)=true:=rfl;clear hr4 hc4 HO HDF hg;generalize RS.bad=rb at R4 hD hrb hzb;go_wp2_with fail;(with_reducible refine(zzE b rb w4 R4.out).mono ?_);rintro e w5 ⟨rfl,rfl⟩;go_wp2_with fail;(with_reducible refine(zzW b rb w4 R4.out).mono ?_);rintro e w5 ⟨rfl,rfl⟩;rw[hD];go_wp2_with fail;(with_reducible refine(zzB b rb (-1) _ R4.out hrb).mono ?_);rintro e w6 ⟨rfl,hc6,hr6⟩;rw[zwe] at hr6;have R6:=zz hr6;have Z6:=zz (Z4.out.keep hc6 zo);have HC6:=zz (HC4.out.next hc6);clear hc6 hr6;have z0:w6.cell? ⟨w.heap.size,0,none⟩=some ↑():=by rw[Z6.out.cell];rfl
   have z1:w6.cell? ⟨w.heap.size,1,none⟩=some ↑zj.a:=by rw[Z6.out.cell];rfl
   have z2:w6.cell? ⟨w.heap.size,2,none⟩=some ↑():=by rw[Z6.out.cell];rfl
   have z3:w6.cell? ⟨w.heap.size,3,none⟩=some ↑():=by rw[Z6.out.cell];rfl
   have z4:w6.cell? ⟨w.heap.size,4,none⟩=some ↑zj.a:=by rw[Z6.out.cell];rfl
   have z5:w6.cell? ⟨w.heap.size,5,none⟩=some (.slice none 0 0):=by rw[Z6.out.cell];rfl
   have zf:=Z6.out.fz;go_wp2_with fail;rw[HN.out];exact zzJ hb HC6.out R6.out Z6.out rfl rfl rfl
  ·obtain⟨f1,f2,f3,f4⟩:=HDF.out _ _ _ rfl hg;rw[zCm f1] at hr4;have R4:=zz hr4;have hbk:x.bulk<=2097152:=zo
   have hnd:¬(r3.s.size=0/\zti r3=false):=λh=>hg (zzP h.1 h.2);obtain⟨g,hgg⟩:=zn (zkS zbL x)
   have HR:Hid (∀W,Rd (Lt W.heap.size) W (vs x.l) (.slice A x.l.length c)->Calls Tryz.prog 25 #[.agg #[↑x.kind,↑x.t,↑x.n,↑x.m,↑x.s,.slice A x.l.length c]] W λe w'=>e=.returned ↑g/\Below W.heap.size W w'):=zz (λW h=>by
    rw[<-hgg];obtain⟨k,t,n,m,s,l⟩:=x;exact zAd k t n m s l A c W hbk h)
   have HO2:Hid (O=if g then some (x,r3) else none):=zz (by rw[HO.out,Option.bind_some,if_neg hnd,hgg]);have HX4:=zz (hc4.rd (λq hq=>⟨Nat.lt_of_lt_of_le hq.2 HAL.out.size,by have:=hq.1;omega⟩) (HX.out.below HAL.out (λq hq=>hq.2)));have hsz4:=Nat.le_trans HAL.out.size hc4.size;have x0:w4.cell? ⟨w3.heap.size,0,none⟩=some ↑x.kind:=by rw[X4.out.cell];rfl
   have x1:w4.cell? ⟨w3.heap.size,1,none⟩=some ↑x.t:=by rw[X4.out.cell];rfl
   have x2:w4.cell? ⟨w3.heap.size,2,none⟩=some ↑x.n:=by rw[X4.out.cell];rfl
   have x3:w4.cell? ⟨w3.heap.size,3,none⟩=some ↑x.m:=by rw[X4.out.cell];rfl
   have x4:w4.cell? ⟨w3.heap.size,4,none⟩=some ↑x.s:=by rw[X4.out.cell];rfl
   have x5:w4.cell? ⟨w3.heap.size,5,none⟩=some (.slice A x.l.length c):=by rw[X4.out.cell];rfl
   clear hr4 hc4 HO HDF hg hgg f1 f2 f3 f4
   by_cases hz:r3.s.size=0
   ·have hzb:((r3.s.size:Int) == 0)=true:=by simp[hz]
    have hD:zti r3=true:=by cases h:zti r3 with|true=>rfl|false=>exact absurd ⟨hz,h⟩ hnd
    clear hnd;go_wp2_with fail;(with_reducible refine(zzE b r3 w4 R4.out).mono ?_);rintro e w5 ⟨rfl,rfl⟩;go_wp2_with fail;(with_reducible refine(zzW b r3 w4 R4.out).mono ?_);rintro e w5 ⟨rfl,rfl⟩;rw[hD];go_wp2_with fail;(with_reducible refine(HR.out _ ?_).mono ?_)
    ·exact HX4.out.weaken (λq hq=>Nat.lt_of_lt_of_le hq.2 hsz4)
    rintro e w5 ⟨rfl,hb5⟩;have R5:=zz (R4.out.below hb5);have Z5:=zz (Z4.out.keep (M:=λk=>k=b) (Chg.of_below hb5) zo);have X5:Hid (zab w5 w3.heap.size #[↑x.kind,↑x.t,↑x.n,↑x.m,↑x.s,.slice A x.l.length c] 24):=zz (X4.out.keep (M:=λk=>k=b) (Chg.of_below hb5) (by have:=HC3.out.size;omega));have HC5:=zz (HC4.out.thenBelow hb5);have HX5:=zz ((HX4.out.below hb5 (λq hq=>Nat.lt_of_lt_of_le hq.2 hsz4)).weaken (ok':=Bt (w.heap.size+1) w5.heap.size) (λq hq=>⟨hq.1,Nat.lt_of_lt_of_le hq.2 (Nat.le_trans hsz4 hb5.size)⟩));clear hb5 x0 x1 x2 x3 x4 x5 HR;cases g with
    |false=>
     have HN:Hid (O=none):=zz (by rw[HO2.out];rfl);go_wp2_with fail;(with_reducible refine(zzB b r3 (-1) _ R5.out hrs).mono ?_);rintro e w6 ⟨rfl,hc6,hr6⟩;rw[zwe] at hr6;have R6:=zz hr6;have Z6:=zz (Z5.out.keep hc6 zo);have HC6:=zz (HC5.out.next hc6);clear hc6 hr6;have z0:w6.cell? ⟨w.heap.size,0,none⟩=some ↑():=by rw[Z6.out.cell];rfl
     have z1:w6.cell? ⟨w.heap.size,1,none⟩=some ↑zj.a:=by rw[Z6.out.cell];rfl
     have z2:w6.cell? ⟨w.heap.size,2,none⟩=some ↑():=by rw[Z6.out.cell];rfl
     have z3:w6.cell? ⟨w.heap.size,3,none⟩=some ↑():=by rw[Z6.out.cell];rfl
     have z4:w6.cell? ⟨w.heap.size,4,none⟩=some ↑zj.a:=by rw[Z6.out.cell];rfl
     have z5:w6.cell? ⟨w.heap.size,5,none⟩=some (.slice none 0 0):=by rw[Z6.out.cell];rfl
     have zf:=Z6.out.fz;go_wp2_with fail;rw[HN.out];exact zzJ hb HC6.out R6.out Z6.out rfl rfl rfl
    |true=>
     have HN:Hid (O=some (x,r3)):=zz (by rw[HO2.out];rfl);have z0:w5.cell? ⟨w.heap.size,0,none⟩=some ↑():=by rw[Z5.out.cell];rfl
     have z1:w5.cell? ⟨w.heap.size,1,none⟩=some ↑zj.a:=by rw[Z5.out.cell];rfl
     have z2:w5.cell? ⟨w.heap.size,2,none⟩=some ↑():=by rw[Z5.out.cell];rfl
     have z3:w5.cell? ⟨w.heap.size,3,none⟩=some ↑():=by rw[Z5.out.cell];rfl
     have z4:w5.cell? ⟨w.heap.size,4,none⟩=some ↑zj.a:=by rw[Z5.out.cell];rfl
     have z5:w5.cell? ⟨w.heap.size,5,none⟩=some (.slice none 0 0):=by rw[Z5.out.cell];rfl
     have zf:=Z5.out.fz;have x0:w5.cell? ⟨w3.heap.size,0,none⟩=some ↑x.kind:=by rw[X5.out.cell];rfl
     have x1:w5.cell? ⟨w3.heap.size,1,none⟩=some ↑x.t:=by rw[X5.out.cell];rfl
     have x2:w5.cell? ⟨w3.heap.size,2,none⟩=some ↑x.n:=by rw[X5.out.cell];rfl
     have x3:w5.cell? ⟨w3.heap.size,3,none⟩=some ↑x.m:=by rw[X5.out.cell];rfl
     have x4:w5.cell? ⟨w3.heap.size,4,none⟩=some ↑x.s:=by rw[X5.out.cell];rfl
     have x5:w5.cell? ⟨w3.heap.size,5,none⟩=some (.slice A x.l.length c):=by rw[X5.out.cell];rfl
     go_wp2_with fail;rw[HN.out];exact zBh hb HC5.out R5.out Z5.out HX5.out rfl rfl rfl
   ·have hzb:((r3.s.size:Int) == 0)=false:=by rw[beq_eq_false_iff_ne];omega
    clear hnd;go_wp2_with fail;(with_reducible refine(zzE b r3 w4 R4.out).mono ?_);rintro e w5 ⟨rfl,rfl⟩;go_wp2_with fail;(with_reducible refine(HR.out _ ?_).mono ?_)
    ·exact HX4.out.weaken (λq hq=>Nat.lt_of_lt_of_le hq.2 hsz4)
    rintro e w5 ⟨rfl,hb5⟩;have R5:=zz (R4.out.below hb5);have Z5:=zz (Z4.out.keep (M:=λk=>k=b) (Chg.of_below hb5) zo);have X5:Hid (zab w5 w3.heap.size #[↑x.kind,↑x.t,↑x.n,↑x.m,↑x.s,.slice A x.l.length c] 24):=zz (X4.out.keep (M:=λk=>k=b) (Chg.of_below hb5) (by have:=HC3.out.size;omega));have HC5:=zz (HC4.out.thenBelow hb5);have HX5:=zz ((HX4.out.below hb5 (λq hq=>Nat.lt_of_lt_of_le hq.2 hsz4)).weaken (ok':=Bt (w.heap.size+1) w5.heap.size) (λq hq=>⟨hq.1,Nat.lt_of_lt_of_le hq.2 (Nat.le_trans hsz4 hb5.size)⟩));clear hb5 x0 x1 x2 x3 x4 x5 HR;cases g with
    |false=>
     have HN:Hid (O=none):=zz (by rw[HO2.out];rfl);go_wp2_with fail;(with_reducible refine(zzB b r3 (-1) _ R5.out hrs).mono ?_);rintro e w6 ⟨rfl,hc6,hr6⟩;rw[zwe] at hr6;have R6:=zz hr6;have Z6:=zz (Z5.out.keep hc6 zo);have HC6:=zz (HC5.out.next hc6);clear hc6 hr6;have z0:w6.cell? ⟨w.heap.size,0,none⟩=some ↑():=by rw[Z6.out.cell];rfl
     have z1:w6.cell? ⟨w.heap.size,1,none⟩=some ↑zj.a:=by rw[Z6.out.cell];rfl
     have z2:w6.cell? ⟨w.heap.size,2,none⟩=some ↑():=by rw[Z6.out.cell];rfl
     have z3:w6.cell? ⟨w.heap.size,3,none⟩=some ↑():=by rw[Z6.out.cell];rfl
     have z4:w6.cell? ⟨w.heap.size,4,none⟩=some ↑zj.a:=by rw[Z6.out.cell];rfl
     have z5:w6.cell? ⟨w.heap.size,5,none⟩=some (.slice none 0 0):=by rw[Z6.out.cell];rfl
     have zf:=Z6.out.fz;go_wp2_with fail;rw[HN.out];exact zzJ hb HC6.out R6.out Z6.out rfl rfl rfl
    |true=>
     have HN:Hid (O=some (x,r3)):=zz (by rw[HO2.out];rfl);have z0:w5.cell? ⟨w.heap.size,0,none⟩=some ↑():=by rw[Z5.out.cell];rfl
     have z1:w5.cell? ⟨w.heap.size,1,none⟩=some ↑zj.a:=by rw[Z5.out.cell];rfl
     have z2:w5.cell? ⟨w.heap.size,2,none⟩=some ↑():=by rw[Z5.out.cell];rfl
     have z3:w5.cell? ⟨w.heap.size,3,none⟩=some ↑():=by rw[Z5.out.cell];rfl
     have z4:w5.cell? ⟨w.heap.size,4,none⟩=some ↑zj.a:=by rw[Z5.out.cell];rfl
     have z5:w5.cell? ⟨w.heap.size,5,none⟩=some (.slice none 0 0):=by rw[Z5.out.cell];rfl
     have zf:=Z5.out.fz;have x0:w5.cell? ⟨w3.heap.size,0,none⟩=some ↑x.kind:=by rw[X5.out.cell];rfl
     have x1:w5.cell? ⟨w3.heap.size,1,none⟩=some ↑x.t:=by rw[X5.out.cell];rfl
     have x2:w5.cell? ⟨w3.heap.size,2,none⟩=some ↑x.n:=by rw[X5.out.cell];rfl
     have x3:w5.cell? ⟨w3.heap.size,3,none⟩=some ↑x.m:=by rw[X5.out.cell];rfl
     have x4:w5.cell? ⟨w3.heap.size,4,none⟩=some ↑x.s:=by rw[X5.out.cell];rfl
     have x5:w5.cell? ⟨w3.heap.size,5,none⟩=some (.slice A x.l.length c):=by rw[X5.out.cell];rfl
     go_wp2_with fail;rw[HN.out];exact zBh hb HC5.out R5.out Z5.out HX5.out rfl rfl rfl
end Go.Proofs.YtcebmphappfjjaaGreatDoor
