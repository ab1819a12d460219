/- Conditions: those in each statement. -/
import Derived.Test.YtcebmphappfjjaaGreatDoorV50
import Derived.Test.YtcebmphappfjjaaGreatDoorV38
import Derived.Test.YtcebmphappfjjaaGreatDoorV41
import Derived.Test.YtcebmphappfjjaaGreatDoorV35
import Derived.Test.YtcebmphappfjjaaGreatDoorV44
import Derived.Test.YtcebmphappfjjaaGreatDoorV45
import Derived.Test.YtcebmphappfjjaaGreatDoorV39
set_option maxHeartbeats 32000000
set_option maxRecDepth 100000
namespace Go.Proofs.YtcebmphappfjjaaGreatDoor
open Go.RowKit Go.Sort
theorem zBn:∀(f u:Nat),u<10 ^ (f+1)->decU (f+1) u=Lib.decDigits u
 |0,u,h=>by
  have h1:u<10:=by simpa using h
  rw[decU,if_pos h1,Lib.decDigits,dif_pos h1]
 |f+1,u,h=>by
  rw[decU,Lib.decDigits]
  by_cases h1:u<10
  ·rw[if_pos h1,dif_pos h1]
  ·rw[if_neg h1,dif_neg h1,zBn f (u / 10) (by rw[Nat.pow_succ] at h;omega)]
theorem zBI (n:Int) (h:inRg n):zzH n=Lib.itoa n:=by
 have e:10 ^ (19+1)=100000000000000000000:=by decide
 obtain⟨h1,h2⟩:=h;unfold zzH Lib.itoa
 split
 ·rw[show n.natAbs=(-n).toNat by omega,zBn 19 _ zo]
 ·rw[zBn 19 _ zo]
theorem zAV (q:List UInt8) (r:ByteArray):lb q++r=lb (q++bl r):=(congrArg (lb q++·) (zuE r).symm).trans (zBH q (bl r))
theorem zAI (q:List UInt8):(lb q).size=q.length:=by simp[ByteArray.size]
theorem zCr (s:ByteArray) (hs:s.size<=2097152) (w:World) :
 Calls Tryz.prog 110 #[↑s] w λe w'=>e=.returned (.string (lb (34::zoS (bl s))))/\Below w.heap.size w w':=by
 obtain⟨R,hR⟩:=zn (34::zoS (bl s))
 have hRl:R.length<=1100000000000:=by
  have:=zqy (bl s);have h2:(bl s).length=s.size:=zai s;rw[<-hR];unfold zoS;simp only[List.length_append,List.length_cons,List.length_nil];omega
 have HA0:Hid ([34]++(((bl s).drop 0).flatMap escL++[34])=R):=zz (by rw[List.drop_zero];exact hR);have HB0:=zz (Below.refl w.heap.size w);rw[hR];clear hR;go_in;go_wp2
 go_loopw [3,4] (λs3 s4 wr=>∃(i:Nat) (cs:List UInt8),i<=s.size/\s4=↑i/\s3=.string (lb cs)/\Hid (cs++(((bl s).drop i).flatMap escL++[34])=R)/\Hid (Below w.heap.size w wr)) (λ_ s4 _=>s.size-(intOf s4).toNat)
 case atStart=>exact⟨0,[34],zo,rfl,rfl,HA0,HB0⟩
 case round=>
  clear HA0 HB0;obtain⟨i,cs,hi,rfl,rfl,HA,HB⟩:=hrel;have hz:(lb cs).size=cs.length:=zAI cs
  by_cases hlt:i<s.size
  ·obtain⟨c,hd,hbt⟩:=zed s i hlt;have hin:(i:Int)<s.size:=zo
   have hix:=zaP s i hlt;rw[hbt] at hix;have q:=HA.out;have hd':(bl s).drop i=c::(bl s).drop (i+1):=hd;rw[hd',List.flatMap_cons,List.append_assoc,<-List.append_assoc] at q;have hl:=congrArg List.length q;rw[List.length_append,List.length_append] at hl;have HQ:=zz q;have hc0:=c.toNat_lt;have HE:Hid (s.extract i (i+1)=lb [c]):=zz (zrb zo zo hd.symm);obtain⟨x,hx⟩:∃x:Int,(c.toNat:Int)=x:=⟨_,rfl⟩;rw[hx] at hix;obtain⟨y,hy⟩:=zn (lb cs);rw[hy] at hz ⊢;have HY:=zz hy;clear HA q hd hd' hbt hy;unfold escL at HQ hl
   by_cases h1:x=10
   ·obtain rfl:c=10:=UInt8.toNat_inj.1 (by show c.toNat=10;omega);rw[if_pos rfl] at HQ hl;have hyl:y.size<=1100000000000:=zo
    clear hl hx hc0 hz;go_wp2;exact⟨⟨i+1,_,zo,by go_num,by rw[<-HY.out,zAV],HQ,HB⟩,by simp[intOf];omega⟩
   ·rw[if_neg (λe=>h1 (by rw[<-hx,e];rfl))] at HQ hl
    by_cases h2:x=9
    ·obtain rfl:c=9:=UInt8.toNat_inj.1 (by show c.toNat=9;omega);rw[if_pos rfl] at HQ hl;have hyl:y.size<=1100000000000:=zo
     clear hl hx hc0 hz;go_wp2;exact⟨⟨i+1,_,zo,by go_num,by rw[<-HY.out,zAV],HQ,HB⟩,by simp[intOf];omega⟩
    ·rw[if_neg (λe=>h2 (by rw[<-hx,e];rfl))] at HQ hl
     by_cases h3:x=34
     ·obtain rfl:c=34:=UInt8.toNat_inj.1 (by show c.toNat=34;omega);rw[if_pos (.inl rfl)] at HQ hl;have hyl:y.size<=1100000000000:=zo
      clear hl hx hc0 hz;go_wp2;exact⟨⟨i+1,_,zo,by go_num,by rw[<-HY.out,zAV],HQ,HB⟩,by simp[intOf];omega⟩
     ·by_cases h4:x=92
      ·obtain rfl:c=92:=UInt8.toNat_inj.1 (by show c.toNat=92;omega);rw[if_pos (.inr rfl)] at HQ hl;have hyl:y.size<=1100000000000:=zo
       clear hl hx hc0 hz;go_wp2;exact⟨⟨i+1,_,zo,by go_num,by rw[<-HY.out,zAV],HQ,HB⟩,by simp[intOf];omega⟩
      ·rw[if_neg (λh=>h.elim (λe=>h3 (by rw[<-hx,e];rfl)) (λe=>h4 (by rw[<-hx,e];rfl)))] at HQ hl;have hyl:y.size<=1100000000000:=zo
       obtain⟨z,hzz⟩:=zn (s.extract i (i+1));have hzs:z.size=1:=by rw[<-hzz,HE.out];rfl
       rw[hzz] at HE;clear hl hx hc0 hz;go_wp2;exact⟨⟨i+1,_,zo,by go_num,by rw[HE.out,<-HY.out,zAV],HQ,HB⟩,by simp[intOf];omega⟩
  ·obtain rfl:i=s.size:=zo
   have q:=HA.out;rw[List.drop_eq_nil_of_le (by have:(bl s).length=s.size:=zai s;omega),List.flatMap_nil,List.nil_append] at q;have hl:=congrArg List.length q;rw[List.length_append] at hl;have HQ:=zz q;obtain⟨y,hy⟩:=zn (lb cs);rw[hy] at hz ⊢;have HY:=zz hy;have hyl:y.size<=1100000000000:=zo
   clear HA q hy hl hz;go_wp2;go_ret;exact⟨by rw[<-HQ.out,<-HY.out,zAV];rfl,HB.out⟩
def RSv (v:V):Prop:=∀(A:Option Addr) (c:Nat) (w:World),Rd (Lt w.heap.size) w (vs v.l) (.slice A v.l.length c)->Pl v->v.bulk<=2097152->
 Calls Tryz.prog 62 #[.agg #[.int .i64 v.kind,.string v.t,.int .i64 v.n,.int .i64 v.m,.string v.s,.slice A v.l.length c]] w λe w'=>e=.returned (.string (lb (shv v)))/\Below w.heap.size w w'
theorem zBQ (l:List V) (IH:∀v∈l,RSv v) (A:Option Addr) (c:Nat) (w:World) (h:Rd (Lt w.heap.size) w (vs l) (.slice A l.length c)) (hp:Pls l) (hbk:zcl l<=2097152) :
 Calls Tryz.prog 111 #[.slice A l.length c] w λe w'=>e=.returned (.string (lb (shvs l true)))/\Below w.heap.size w w':=by
 have hRl:=zhi l true hp;have hl:=zdB l;have hn:l.length<=2097152:=zo
 have HA0:Hid ([]++shvs (l.drop 0) (decide (0=0))=shvs l true):=zz (by rw[List.drop_zero];rfl);obtain⟨R,hR⟩:=zn (shvs l true);have HB0:=zz (Below.refl w.heap.size w);rw[hR] at hRl HA0 ⊢;have HI:=zz IH;have HP:=zz hp;have HR:=zz h;have hRl:R.length<=100000000:=zo
 clear hR IH hp h hl;go_in;go_wp2
 go_loopw [3,4] (λs3 s4 wr=>∃(i:Nat) (cs:List UInt8),i<=l.length/\s4=↑i/\s3=.string (lb cs)/\Hid (cs++shvs (l.drop i) (decide (i=0))=R)/\Hid (Below w.heap.size w wr)) (λ_ s4 _=>l.length-(intOf s4).toNat)
 case atStart=>exact⟨0,[],zo,rfl,rfl,HA0,HB0⟩
 case round=>
  clear HA0 HB0;obtain⟨i,cs,hi,rfl,rfl,HA,HB⟩:=hrel;have hz:(lb cs).size=cs.length:=zAI cs;have q:=HA.out
  by_cases hlt:i<l.length
  ·have hin:(i:Int)<l.length:=zo
   obtain⟨b,off,k,t,n',m,s,l1,A1,c1,e,hlb,hget,p0,p1,p2,p3,p4,p5,r5⟩:=zrO (HR.out.belows HB.out) hlt;subst e;have hy:=zeK _ _ _ hget;have hm:=List.mem_of_getElem? hget;have hpl:=zqd HP.out hm;have KI:Hid (Calls _ _ #[.agg #[↑k,↑t,↑n',↑m,↑s,.slice A1 l1.length c1]] wr _):=zz (HI.out _ hm A1 c1 wr r5 hpl zo);have hsl:=zpC _ hpl;rw[zal hget,zlh] at q;have hql:=congrArg List.length q;rw[List.length_append,List.length_append,List.length_append] at hql;obtain⟨z,hzz⟩:=zn (shv (V.mk k t n' m s l1));rw[hzz] at KI q hql;have hzl:(lb z).size=z.length:=zAI z;obtain⟨y,hyy⟩:=zn (lb cs);obtain⟨x,hx⟩:=zn (lb z);rw[hyy] at hz ⊢;rw[hx] at hzl KI;have hyl:y.size<=1100000000:=zo
   have hxl:x.size<=1100000000:=zo
   have HY:=zz hyy;have HX:=zz hx;have HBS:=zz HB.out.size;clear r5 hget hlb hy hm hpl hsl hzz hzl hz hyy hx hql HA
   by_cases h0:i=0
   ·have HQ:Hid ((cs++z)++shvs (l.drop (i+1)) (decide (i+1=0))=R):=zz (by rw[<-q,decide_eq_true h0];simp);have hi0:¬(0:Int)<i:=zo
    clear q h0;go_wp2_with fail;refine KI.out.mono ?_;rintro e w4 ⟨rfl,hb4⟩;have HB2:=zz (zac HB.out hb4 HBS.out);clear hb4;go_wp2;exact⟨⟨i+1,_,zo,by go_num,by rw[<-HY.out,<-HX.out,zBH],HQ,HB2⟩,by simp[intOf];omega⟩
   ·have h0':(0:Int)<i:=zo
    rw[decide_eq_false h0] at q;have HQ:Hid (((cs++[44,32])++z)++shvs (l.drop (i+1)) (decide (i+1=0))=R):=zz (by rw[<-q];simp);clear q;go_wp2_with fail;refine KI.out.mono ?_;rintro e w4 ⟨rfl,hb4⟩;have HB2:=zz (zac HB.out hb4 HBS.out);clear hb4;go_wp2;exact⟨⟨i+1,_,zo,by go_num,by rw[<-HY.out,<-HX.out,zAV,zBH],HQ,HB2⟩,by simp[intOf];omega⟩
  ·obtain rfl:i=l.length:=zo
   rw[List.drop_eq_nil_of_le (Nat.le_refl _),zmL,List.append_nil] at q;have HQ:=zz q;clear q HA hz;go_wp2;go_ret;exact⟨by rw[<-HQ.out];rfl,HB.out⟩
theorem zCD (k:Int) (t:ByteArray) (n m:Int) (s:ByteArray) (l:List V) (IH:∀v∈l,RSv v):RSv (.mk k t n m s l):=by
 intro A c w h hP hb;have hb0:=hb;rw[zbv] at hb0;have hSL:=zpC _ hP;rw[Pl] at hP;obtain⟨rfl,hP⟩:=hP;obtain⟨w1,h1,b1,c1⟩:=zaj w #[.int .i64 k,.string t,.int .i64 n,.int .i64 0,.string s,.slice A l.length c] 24;obtain⟨x0,x1,x2,x3,x4,x5⟩:_/\_/\_/\_/\_/\_:=⟨c1.cell 0,c1.cell 1,c1.cell 2,c1.cell 3,c1.cell 4,c1.cell 5⟩;have HB1:=zz b1;have HR:=zz (h.belows b1);have HI:=zz IH;have HC:=zz c1;have HBK:Hid (zcl l<=2097152):=zz zo;have HSS:Hid (s.size<=2097152):=zz zo;have HS1:=zz b1.size;have hts:t.size<=2097152:=zo
 have hss:s.size<=2097152:=zo
 show Calls Tryz.prog 62 #[.agg #[.int .i64 k,.string t,.int .i64 n,.int .i64 0,.string s,.slice A l.length c]] w _
 unfold shv zfO;unfold shv zfO at hSL;have hbk:(V.mk k t n 0 s l).bulk<=2097152:=hb;have hSL:_<=67108864:=Nat.le_trans (Nat.le_trans (Nat.le_add_right _ 2) hSL) zo;clear b1 c1 h IH hb hb0 hbk;rcases hP with ⟨rfl,-⟩|⟨rfl,-,hn,-⟩|⟨rfl,-,hn,-⟩|⟨rfl,-⟩|⟨rfl,-,-,-,hl⟩|⟨rfl,-,-,-,hl⟩|⟨rfl,-,hn,-,hl⟩|⟨rfl,-⟩
 ·rw[if_pos rfl];clear hSL;go_in;go_wp2;go_ret;exact⟨rfl,HB1.out⟩
 ·rw[if_neg zo,if_pos rfl];clear hSL;rcases hn with rfl|rfl
  all_goals
   go_in;go_wp2;go_ret;exact⟨rfl,HB1.out⟩
 ·rw[if_neg zo,if_neg zo,if_pos rfl];have KT:=zz (zAj n w1 (by obtain⟨h1,h2⟩:=hn;omega) (by obtain⟨h1,h2⟩:=hn;omega));rw[zBI n hn] at KT;clear hSL hn;go_in;go_wp2_with fail;refine zi KT ?_;rintro e w2 ⟨rfl,hb2⟩;have HB2:=zz (zac HB1.out hb2 HS1.out);clear hb2;go_wp2;go_ret;exact⟨rfl,HB2.out⟩
 ·rw[if_neg zo,if_neg zo,if_neg zo,if_pos rfl];have KT:=zz (zCr s HSS.out w1);clear hSL;go_in;go_wp2_with fail;refine zi KT ?_;rintro e w2 ⟨rfl,hb2⟩;have HB2:=zz (zac HB1.out hb2 HS1.out);clear hb2;go_wp2;go_ret;exact⟨rfl,HB2.out⟩
 ·rw[if_neg zo,if_neg zo,if_neg zo,if_neg zo,if_pos rfl];rw[if_neg zo,if_neg zo,if_neg zo,if_neg zo,if_pos rfl] at hSL;have KT:=zz (zBQ l HI.out A c w1 HR.out hl HBK.out);obtain⟨z,hz⟩:=zn (zbP Lib.itoa l true);rw[hz] at hSL ⊢;rw[show shvs l true=z from hz] at KT;have hzl:(lb z).size<=67108864:=by rw[zAI];simp only[List.length_cons,List.length_append,List.length_nil] at hSL;omega
  obtain⟨y,hy⟩:=zn (lb z);rw[hy] at hzl KT;have HE:Hid (Ending.returned (.string (⟨#[91]⟩++y++⟨#[93]⟩))=Ending.returned (.string (lb (91::(z++[93]))))):=zz (congrArg (λx=>Ending.returned (.string x)) (zbX (by rw[<-hy];simp[ByteArray.toList_eq,ByteArray.data_append])));clear hSL hl hz hy;go_in;go_wp2_with fail;refine zi KT ?_;rintro e w2 ⟨rfl,hb2⟩;have HB2:=zz (zac HB1.out hb2 HS1.out);clear hb2;go_wp2;go_ret;exact⟨HE.out,HB2.out⟩
 ·rw[if_neg zo,if_neg zo,if_neg zo,if_neg zo,if_neg zo,if_pos rfl];rw[if_neg zo,if_neg zo,if_neg zo,if_neg zo,if_neg zo,if_pos rfl] at hSL;have K0:=zz (λd os=>Calls.regrown_of (zBQ l HI.out A c (grow (redrawn w1 d) os) (HR.out.belows (below_regrown w1 d os)) hl HBK.out));obtain⟨z,hz⟩:=zn (zbP Lib.itoa l true);rw[hz] at hSL ⊢;rw[show shvs l true=z from hz] at K0;have hzl:(lb z).size<=67108864:=by rw[zAI];simp only[List.length_cons,List.length_append,List.length_nil] at hSL;omega
  obtain⟨y,hy⟩:=zn (lb z);rw[hy] at hzl K0;have HE:Hid (Ending.returned (.string (t++⟨#[123]⟩++y++⟨#[125]⟩))=Ending.returned (.string (lb (bl t++123::(z++[125]))))):=zz (congrArg (λx=>Ending.returned (.string x)) (zbX (by rw[<-hy];simp[ByteArray.toList_eq,ByteArray.data_append])));have q1:∀d os,(grow (redrawn w1 d) os).cell? ⟨w.heap.size,1,none⟩=some (.string t):=λd os=>cell_regrown (HC.out.cell 1) d os;have q5:∀d os,(grow (redrawn w1 d) os).cell? ⟨w.heap.size,5,none⟩=some (.slice A l.length c):=λd os=>cell_regrown (HC.out.cell 5) d os;clear hSL hl hz hy;go_in;go_wp2_with fail;refine wp_region_quiet_below zk zk ?_
  repeat (go_big_quiet_step (first|with_reducible exact K0.out _ _))
  refine wpQuiet_nil ?_;intro _ hw';obtain⟨⟨dq,osq⟩,hw''⟩:=hw';subst hw'';have HB2:=zz (zac HB1.out (below_regrown w1 dq osq) HS1.out);clear q1 q5 K0;go_wp2;go_ret;exact⟨HE.out,HB2.out⟩
 ·rw[if_neg zo,if_neg zo,if_neg zo,if_neg zo,if_neg zo,if_neg zo,if_pos rfl];rw[if_neg zo,if_neg zo,if_neg zo,if_neg zo,if_neg zo,if_neg zo,if_pos rfl] at hSL;have K0:=zz (λd os=>Calls.regrown_of (zBQ l HI.out A c (grow (redrawn w1 d) os) (HR.out.belows (below_regrown w1 d os)) hl HBK.out));have K1:=zz (λd os=>Calls.regrown_of (zAj n (grow (redrawn w1 d) os) (by obtain⟨h1,h2⟩:=hn;omega) (by obtain⟨h1,h2⟩:=hn;omega)));rw[zBI n hn] at K1;obtain⟨x,hx⟩:∃x:ByteArray,⟨(Lib.itoa n).toArray⟩=x:=⟨_,rfl⟩;rw[hx] at K1;have hil:x.size<=20:=by rw[<-hx];exact Nat.le_trans (Nat.le_of_eq (zAI _)) (zst n hn)
  obtain⟨z,hz⟩:=zn (zbP Lib.itoa l true);rw[hz] at hSL ⊢;rw[show shvs l true=z from hz] at K0;have hzl:(lb z).size<=67108864:=by rw[zAI];simp only[List.length_cons,List.length_append,List.length_nil] at hSL;omega
  obtain⟨y,hy⟩:=zn (lb z);rw[hy] at hzl K0;have HE:Hid (Ending.returned (.string (t++⟨#[35]⟩++x++⟨#[40]⟩++y++⟨#[41]⟩))=Ending.returned (.string (lb (bl t++35::(Lib.itoa n++40::(z++[41])))))):=zz (congrArg (λx=>Ending.returned (.string x)) (zbX (by rw[<-hy,<-hx];simp[ByteArray.toList_eq,ByteArray.data_append])));have q1:∀d os,(grow (redrawn w1 d) os).cell? ⟨w.heap.size,1,none⟩=some (.string t):=λd os=>cell_regrown (HC.out.cell 1) d os;have q2:∀d os,(grow (redrawn w1 d) os).cell? ⟨w.heap.size,2,none⟩=some (.int .i64 n):=λd os=>cell_regrown (HC.out.cell 2) d os;have q5:∀d os,(grow (redrawn w1 d) os).cell? ⟨w.heap.size,5,none⟩=some (.slice A l.length c):=λd os=>cell_regrown (HC.out.cell 5) d os;clear hSL hl hz hy hx hn;go_in;go_wp2_with fail;refine wp_region_quiet_below zk zk ?_
  repeat (go_big_quiet_step (first|with_reducible exact K0.out _ _|with_reducible exact K1.out _ _))
  refine wpQuiet_nil ?_;intro _ hw';obtain⟨⟨dq,osq⟩,hw''⟩:=hw';subst hw'';have HB2:=zz (zac HB1.out (below_regrown w1 dq osq) HS1.out);clear q1 q2 q5 K0 K1;go_wp2;go_ret;exact⟨HE.out,HB2.out⟩
 ·rw[if_neg zo,if_neg zo,if_neg zo,if_neg zo,if_neg zo,if_neg zo,if_neg zo];have HE:Hid (Ending.returned (.string (t++⟨#[64]⟩++s))=Ending.returned (.string (lb (bl t++64::bl s)))):=zz (congrArg (λx=>Ending.returned (.string x)) (zbX (by simp[ByteArray.toList_eq,ByteArray.data_append])));clear hSL;go_in;go_wp2;go_ret;exact⟨HE.out,HB1.out⟩
theorem zCR:∀v:V,RSv v
 |.mk k t n m s l=>zCD k t n m s l (λx _=>zCR x)
theorem zBA (k:Int) (t:ByteArray) (n m:Int) (s:ByteArray) (l:List V) (A:Option Addr) (c:Nat) (w:World) (hb:(V.mk k t n m s l).bulk<=2097152) (hr:Rd (Lt w.heap.size) w (vs l) (.slice A l.length c)) :
 Calls Tryz.prog 29 #[.agg #[↑k,↑t,↑n,↑m,↑s,.slice A l.length c]] w λe w'=>e=.returned (.string (zoQ (.mk k t n m s l)))/\Below w.heap.size w w':=by
 obtain⟨w1,h1,b1,c1⟩:=zaj w #[↑k,↑t,↑n,↑m,↑s,.slice A l.length c] 24;obtain⟨x0,x1,x2,x3,x4,x5⟩:_/\_/\_/\_/\_/\_:=⟨c1.cell 0,c1.cell 1,c1.cell 2,c1.cell 3,c1.cell 4,c1.cell 5⟩;have KP:=zz (zCj k t n m s l A c w1 hb (hr.belows b1));have HC:=zz c1;have HB1:=zz b1;have HR:=zz hr;have HBK:=zz hb;unfold zoQ;obtain⟨pl,hpl⟩:=zn (zfN (.mk k t n m s l));rw[hpl] at KP ⊢;have HP:=zz hpl;clear b1 c1 hr hb hpl;cases pl with
 |false=>
  rw[if_neg zs];go_in;go_wp2_with fail;refine zi KP ?_;rintro e w2 ⟨rfl,hb2⟩;have HB2:=zz (zac HB1.out hb2 HB1.out.size);clear hb2 x0 x1 x2 x3 x4 x5 h1;go_wp2;go_ret;exact⟨rfl,HB2.out⟩
 |true=>
  rw[if_pos rfl];have KS:=zz (λW hR=>zCR (.mk k t n m s l) A c W hR (zrm HP.out).1 HBK.out);obtain⟨R,hR⟩:=zn (zfO Lib.itoa (.mk k t n m s l));rw[hR];rw[show shv (.mk k t n m s l)=R from hR] at KS;clear hR;go_in;go_wp2_with fail;refine zi KP ?_;rintro e w2 ⟨rfl,hb2⟩;have hb12:=zac HB1.out hb2 HB1.out.size;have c2:=zaa hb2 HC.out;clear x0 x1 x2 x3 x4 x5 h1;obtain⟨x0,x1,x2,x3,x4,x5⟩:_/\_/\_/\_/\_/\_:=⟨c2.cell 0,c2.cell 1,c2.cell 2,c2.cell 3,c2.cell 4,c2.cell 5⟩;have KU:=KS.out w2 (HR.out.belows hb12);have KU:Hid (Calls _ _ #[.agg #[↑k,↑t,↑n,↑m,↑s,.slice A l.length c]] w2 _):=zz KU;have HB2:=zz hb12;clear hb2 hb12 c2 KS;go_wp2_with fail;refine zi KU ?_;rintro e w3 ⟨rfl,hb3⟩;have HB3:=zz (zac HB2.out hb3 HB2.out.size);clear hb3;go_wp2;go_ret;exact⟨rfl,HB3.out⟩
end Go.Proofs.YtcebmphappfjjaaGreatDoor
set_option maxHeartbeats 32000000
set_option maxRecDepth 100000
namespace Go.Proofs.YtcebmphappfjjaaGreatDoor
open Go.RowKit
abbrev zEq:Array Value:=#[.int .i64 0,.string ⟨#[]⟩,.int .i64 0,.int .i64 0,.string ⟨#[]⟩,.slice none 0 0]
theorem zCe {fn:Func} (hfn:fn.results=#[.cell 2 24,.tmp 3]) {w W:World} {v:V} {A:Option Addr} {c:Nat} {bo:Bool} (hB:Below w.heap.size w W) (hz:zab W w.heap.size zEq 24) (hrd:Rd (Bt (w.heap.size+1) W.heap.size) W (vs v.l) (.slice A v.l.length c)) {a:Act}
 (h4:a.tmps.getD 2 undef=.pointer (some ⟨w.heap.size,0,none⟩)) (h5:a.tmps.getD 3 undef=↑bo) (hd:a.defers=[]) :
 bodyPost Tryz.prog fn (zlv (v,bo) w) Exit.ret a ((((((W.setCell ⟨w.heap.size,0,none⟩ ↑v.kind).setCell ⟨w.heap.size,1,none⟩ ↑v.t).setCell ⟨w.heap.size,2,none⟩ ↑v.n).setCell ⟨w.heap.size,3,none⟩ ↑v.m).setCell ⟨w.heap.size,4,none⟩ ↑v.s).setCell ⟨w.heap.size,5,none⟩ (.slice A v.l.length c)):=by
 have:=zah hfn a.tmps _ w.heap.size _ _ (0,0) _ h4 (zhz ↑v.kind ↑v.t ↑v.n ↑v.m ↑v.s (.slice A v.l.length c) hz) Tryz.underlying24 rfl zkU;rw[h5] at this;have hc1:=zlJ (w:=W) (g:=w.heap.size) ↑v.kind ↑v.t ↑v.n ↑v.m ↑v.s (.slice A v.l.length c);have h1:=hc1.rd (ok:=Bt (w.heap.size+1) W.heap.size) (λb hb=>⟨hb.2,by have:=hb.1;omega⟩) hrd;exact bodyPost_ret this hd ⟨low6 hB _ _ _ _ _ _,A,c,rfl,h1.weaken (λb hb=>⟨by have:=hb.1;omega,Nat.lt_of_lt_of_le hb.2 hc1.size⟩)⟩
theorem zDH (s:ByteArray) (w:World) (hs:s.size<=30000):Calls Tryz.prog 12 #[↑s] w (zlv (zeR s) w):=by
 obtain⟨w1,h1,b1,c1⟩:=zaj w zEq 24;obtain⟨w2,h2,b2,c2⟩:=zaj w1 #[↑s,↑()] 83;have z1:w1.heap.size=w.heap.size+1:=by rw[<-h1];simp
 have hbs:(bl s).length=s.size:=zai s;have KV:=zCo s 100000 w1.heap.size w2 (some (bl s)) (by show 3*(bl s).length+3<=100000;omega) ⟨0,List.drop_zero,c2,Nat.zero_le _,zo⟩;have HP:=zz (zCW s);have HU:=zz ((zCO 100000).1 (bl s))
 have hp:zeR s=match (zzz 100000 (some (bl s))).2 with
  |some []=>if (zoQ (zzz 100000 (some (bl s))).1).toList == s.toList then ((zzz 100000 (some (bl s))).1,true) else (vE,false)
  |_=>(vE,false):=by rw[<-HP.out];rfl
 obtain⟨O,hO⟩:=zn (zzz 100000 (some (bl s)));rw[hO] at KV hp HU;obtain⟨⟨k,t,n,m,s',l⟩,st⟩:=O;have KV:=zz KV;have HB2:=zz (zac b1 b2 b1.size);have HC:=zz (zaa b2 c1);have HZ:=zz z1;have HL2:=zz c2.lt;have HO:=zz hp;have HS:=zz hbs;clear b1 b2 c1 c2 hO hp z1 HP hbs;go_in;go_wp2_with fail;refine KV.out.mono ?_;rintro e w3 ⟨hc,hv,A,c,rfl,hrd⟩;have hz:=HZ.out;have hl2:=HL2.out;have hb3:Below w.heap.size w w3:=HB2.out.trans (hc.below HB2.out.size (λq hq=>by omega));have hc3:=HC.out.keep hc zo;have hsz:=hc.size;have hrd:Rd (Bt w2.heap.size w3.heap.size) w3 (vs l) (.slice A l.length c):=hrd;have hv:Sc s w3 w1.heap.size st:=hv;dsimp only[V.kind,V.t,V.n,V.m,V.s,V.l];obtain⟨w4,h4,b4,c4⟩:=zaj w3 #[↑k,↑t,↑n,↑m,↑s',.slice A l.length c] 24;have HB4:=zz (zac hb3 b4 hb3.size);have HC4:=zz (zaa b4 hc3);have HX4:=zz c4;have HR4:=zz (hrd.below b4 (λb hb=>hb.2));have HV4:=zz (hv.chg (M:=λ_=>False) (Chg.of_below b4) (λh=>h));have HW:=zz b4.size;obtain⟨z0,z1,z2,z3,z4,z5⟩:_/\_/\_/\_/\_/\_:=⟨HC4.out.cell 0,HC4.out.cell 1,HC4.out.cell 2,HC4.out.cell 3,HC4.out.cell 4,HC4.out.cell 5⟩;have zf:=HC4.out.fz;have HSZ:=zz hsz;clear hb3 hc3 b4 c4 hc hrd hv h1 h2 KV HC;cases st with
 |none=>
  have HN:Hid (zeR s=(vE,false)):=zz HO.out;have c1:w4.cell? ⟨w.heap.size+1,1,none⟩=some (.int .i64 (-1)):=by rw[<-HZ.out];exact HV4.out.1.cell 1
  have hne:((-1:Int) == (s.size:Int))=false:=by rw[beq_eq_false_iff_ne];omega
  go_wp2;rw[HN.out];exact zCe (v:=vE) Tryz.results12 HB4.out HC4.out Rd.sl_nil rfl rfl rfl
 |some r=>
  obtain⟨j,hr,hj1,hj2,_⟩:=HV4.out;have c1:w4.cell? ⟨w.heap.size+1,1,none⟩=some (.int .i64 (j:Int)):=by rw[<-HZ.out];exact hj1.cell 1
  have hrl:r.length=s.size-j:=by rw[<-hr,List.length_drop];have:=HS.out;omega
  cases r with
  |cons x r=>
   have HN:Hid (zeR s=(vE,false)):=zz HO.out;have hlt:j<s.size:=by simp at hrl;omega
   have hne:((j:Int) == (s.size:Int))=false:=by rw[beq_eq_false_iff_ne];omega
   have hne2:((j:Int) != (s.size:Int))=true:=by unfold bne;rw[hne];rfl
   clear hj1 hr hrl;go_wp2;rw[HN.out];exact zCe (v:=vE) Tryz.results12 HB4.out HC4.out Rd.sl_nil rfl rfl rfl
  |nil=>
   obtain rfl:j=s.size:=by simp at hrl;omega
   obtain⟨x0,x1,x2,x3,x4,x5⟩:_/\_/\_/\_/\_/\_:=⟨HX4.out.cell 0,HX4.out.cell 1,HX4.out.cell 2,HX4.out.cell 3,HX4.out.cell 4,HX4.out.cell 5⟩;have hbk:(V.mk k t n m s' l).bulk<=2097152:=by have h1:(V.mk k t n m s' l).bulk+8*0<=8*(bl s).length:=HU.out [] rfl;have:=HS.out;omega
   have KS:=zBA k t n m s' l A c w4 hbk (HR4.out.weaken (λb hb=>Nat.lt_of_lt_of_le hb.2 HW.out));obtain⟨sh,hsh⟩:=zn (zoQ (.mk k t n m s' l));have ho:zeR s=if (zoQ (.mk k t n m s' l)).toList == s.toList then (.mk k t n m s' l,true) else (vE,false):=HO.out
   rw[hsh] at KS ho;have KS:=zz KS;clear hj1 hr hbk hsh HO;cases he:(sh.toList == s.toList) with
   |false=>
    rw[he] at ho;have HN:Hid (zeR s=(vE,false)):=zz ho;clear ho;go_wp2_with fail;refine KS.out.mono ?_;rintro e w5 ⟨rfl,hb5⟩;have HB5:=zz (zac HB4.out hb5 HB4.out.size);have HC5:=zz (zaa hb5 HC4.out);clear hb5 z0 z1 z2 z3 z4 z5 zf x0 x1 x2 x3 x4 x5;obtain⟨z0,z1,z2,z3,z4,z5⟩:_/\_/\_/\_/\_/\_:=⟨HC5.out.cell 0,HC5.out.cell 1,HC5.out.cell 2,HC5.out.cell 3,HC5.out.cell 4,HC5.out.cell 5⟩;have zf:=HC5.out.fz;go_wp2;rw[HN.out];exact zCe (v:=vE) Tryz.results12 HB5.out HC5.out Rd.sl_nil rfl rfl rfl
   |true=>
    rw[he] at ho;have HN:Hid (zeR s=(.mk k t n m s' l,true)):=zz ho;clear ho;go_wp2_with fail;refine KS.out.mono ?_;rintro e w5 ⟨rfl,hb5⟩;have HB5:=zz (zac HB4.out hb5 HB4.out.size);have HC5:=zz (zaa hb5 HC4.out);have HX5:=zz (zaa hb5 HX4.out);have HW5:=zz hb5.size;have HR5:=zz ((HR4.out.weaken (ok':=Bt w2.heap.size w4.heap.size) (λb hb=>⟨hb.1,Nat.lt_of_lt_of_le hb.2 HW.out⟩)).below hb5 (λb hb=>hb.2));clear hb5 z0 z1 z2 z3 z4 z5 zf x0 x1 x2 x3 x4 x5;obtain⟨z0,z1,z2,z3,z4,z5⟩:_/\_/\_/\_/\_/\_:=⟨HC5.out.cell 0,HC5.out.cell 1,HC5.out.cell 2,HC5.out.cell 3,HC5.out.cell 4,HC5.out.cell 5⟩;obtain⟨x0,x1,x2,x3,x4,x5⟩:_/\_/\_/\_/\_/\_:=⟨HX5.out.cell 0,HX5.out.cell 1,HX5.out.cell 2,HX5.out.cell 3,HX5.out.cell 4,HX5.out.cell 5⟩;have zf:=HC5.out.fz;go_wp2;rw[HN.out];exact zCe (v:=.mk k t n m s' l) Tryz.results12 HB5.out HC5.out (HR5.out.weaken (λb hb=>⟨by have:=hb.1;have:=HZ.out;have:=HL2.out;omega,Nat.lt_of_lt_of_le hb.2 HW5.out⟩)) rfl rfl rfl
end Go.Proofs.YtcebmphappfjjaaGreatDoor
