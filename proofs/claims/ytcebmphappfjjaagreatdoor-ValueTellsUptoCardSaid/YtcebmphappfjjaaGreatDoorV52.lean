/- Conditions: those in each statement. -/
import Derived.Test.YtcebmphappfjjaaGreatDoorV40
import Derived.Test.YtcebmphappfjjaaGreatDoorV51
import Derived.Test.YtcebmphappfjjaaGreatDoorV42
import Derived.Test.YtcebmphappfjjaaGreatDoorV41
import Derived.Test.YtcebmphappfjjaaGreatDoorV49
import Derived.Test.YtcebmphappfjjaaGreatDoorV46
import Derived.Lib.QuietBelow
import Derived.Test.YtcebmphappfjjaaGreatDoorCards
import Derived.Test.YtcebmphappfjjaaGreatDoorTie
import Derived.WalkKit
import Derived.ProofKit
import Derived.OpenShut
import Derived.ShutString
import Derived.ChangeMaps5
import Derived.Carry
import Derived.Deep.DeepHandedRow
import Derived.Lib.LaidTab
import Derived.Stop.LaidErr
set_option maxHeartbeats 32000000
set_option maxRecDepth 100000
namespace Go.Proofs.YtcebmphappfjjaaGreatDoor
open Go.RowKit Go.Sort
mutual
theorem zAC:∀v:V,v.count=zcf v
 |.mk _ _ _ _ _ l=>by rw[V.count,zcf,zAy l]
theorem zAy:∀l:List V,zzx l=zbl l
 |[]=>rfl
 |v::r=>by rw[zzx,zbl,zAC v,zAy r]
end
theorem zCP {fn:FuncId} {args:Array Value} {W:World} {k n m:Int} {t s':ByteArray} {l:List V} {ok:Bool} (h:Calls Tryz.prog fn args W (zlv (.mk k t n m s' l,ok) W)):Calls Tryz.prog fn args W λe w'=>Below W.heap.size W w'/\∃(A:Option Addr) (c:Nat),e=.returned (.tuple #[.agg #[↑k,↑t,↑n,↑m,↑s',.slice A l.length c],↑ok])/\Rd (Lt w'.heap.size) w' (vs l) (.slice A l.length c):=
 h.mono (λ_ _ ⟨hb,A,c,he,hr⟩=>⟨hb,A,c,he,hr.weaken (λ_ h=>h.2)⟩)
theorem zDu {s:ByteArray} {v:V} {ok:Bool} (h:zeR s=(v,ok)):v.bulk<=114688+s.size:=by
 unfold zeR at h;have hz:vZ.bulk<=114688+s.size:=Nat.le_trans (show vZ.bulk<=7 by decide) zo
 split at h
 ·rename_i v' q hv
  split at h
  ·cases h;have h1:=zqo hv;have h2:(bl s).length=s.size:=zai s;omega
  ·cases h;exact hz
 ·cases h;exact hz
def zBL (s:ByteArray):V × Bool × RS:=match zub ⟨s,false⟩ with
 |none=>(vZ,false,RS.bad)
 |some (v,r)=>(v,true,r)
theorem zDK {s:ByteArray} {v:V} {ok:Bool} {r:RS} (hs:s.size<=4294967296) (h:zBL s=(v,ok,r)):v.bulk<=7+2*s.size:=by
 unfold zBL at h;cases hr:zub ⟨s,false⟩ with
 |none=>rw[hr] at h;cases h;exact Nat.le_trans (show vZ.bulk<=7 by decide) zo
 |some p=>
  obtain⟨v',r'⟩:=p;rw[hr] at h;cases h;have h2:v.bulk+2*r.s.size<=2*s.size:=(zyX rfl hs hr).1.2.1;omega
theorem zDV {b:Nat} {s:ByteArray} {W:World} {k n m:Int} {t s':ByteArray} {l:List V} {ok:Bool} {r:RS} (h:zdd W b ⟨s,false⟩) (hs:s.size<=1048576) (hU:zBL s=(.mk k t n m s' l,ok,r)):Calls Tryz.prog 15 #[.pointer (some ⟨b,0,none⟩)] W λe w'=>Chg (λk=>k=b) W w'/\∃(A:Option Addr) (c:Nat),e=.returned (.tuple #[.agg #[↑k,↑t,↑n,↑m,↑s',.slice A l.length c],↑ok])/\Rd (Bt W.heap.size w'.heap.size) w' (vs l) (.slice A l.length c)/\zdd w' b r:=by
 refine(zxh b _ W h (.inl rfl) hs).mono ?_;rintro e w' ⟨hc,hp⟩;unfold zBL at hU;cases hr:zub ⟨s,false⟩ with
 |none=>
  rw[hr] at hp hU;obtain⟨he,hx⟩:=hp;cases hU;exact⟨hc,none,0,he,Rd.sl_nil,hx⟩
 |some p=>
  obtain⟨v,r'⟩:=p;rw[hr] at hp hU;cases hU;obtain⟨A,c,he,hd,hx⟩:=hp;exact⟨hc,A,c,he,hd,hx⟩
theorem zEg {b:Nat} {s:ByteArray} {W:World} {k n m:Int} {t s':ByteArray} {l:List V} {ok:Bool} {r:RS} (h:R2At W b ⟨s,false⟩) (hs:s.size<=1048576) (hU:zBL s=(.mk k t n m s' l,ok,r)):Calls Tryz.prog 16 #[.pointer (some ⟨b,0,none⟩)] W λe w'=>Chg (λk=>k=b) W w'/\∃(A:Option Addr) (c:Nat),e=.returned (.tuple #[.agg #[↑k,↑t,↑n,↑m,↑s',.slice A l.length c],↑ok])/\Rd (Bt W.heap.size w'.heap.size) w' (vs l) (.slice A l.length c)/\R2At w' b r:=by
 refine(zCQ b _ W h (.inl rfl) hs).mono ?_;rintro e w' ⟨hc,hp⟩;unfold zBL at hU;cases hr:zub ⟨s,false⟩ with
 |none=>
  rw[hr] at hp hU;obtain⟨he,hx⟩:=hp;cases hU;exact⟨hc,none,0,he,Rd.sl_nil,hx⟩
 |some p=>
  obtain⟨v,r'⟩:=p;rw[hr] at hp hU;cases hU;obtain⟨A,c,he,hd,hx⟩:=hp;exact⟨hc,A,c,he,hd,hx⟩
theorem Zs.grow {w W:World} {L:List (Nat × Array Value × TypeId)} {R:List (D × Value)} (Z:Hid (Zs w W L R)) (d:Nat) (os:Array Obj):Hid (Zs w (grow (redrawn W d) os) L R):=zz (Z.out.below (below_regrown W d os))
theorem zzZ {fn:FuncId} {args:Array Value} {W:World} {v:Value} (h:Calls Tryz.prog fn args W λe w'=>e=.returned v/\W=w'):Calls Tryz.prog fn args W λe w'=>e=.returned v/\Below W.heap.size W w':=h.mono (λ_ _ ⟨he,hw⟩=>⟨he,hw▸Below.refl _ _⟩)
theorem zCU (ka:Int) (ta:ByteArray) (na ma:Int) (sa:ByteArray) (la:List V) (kb:Int) (tb:ByteArray) (nb mb:Int) (sb:ByteArray) (lb:List V) (lx ly:List V) (src:ByteArray) (Aa Ab Ax Ay:Option Addr) (ca cb cx cy:Nat) (w:World) (hba:(V.mk ka ta na ma sa la).bulk<=1048576) (hwa:(V.mk ka ta na ma sa la).Wf) (hbb:(V.mk kb tb nb mb sb lb).bulk<=1048576) (hbx:zcl lx<=1048576) (hby:zcl ly<=1048576) (hra:Rd (Lt w.heap.size) w (vs la) (.slice Aa la.length ca)) (hrb:Rd (Lt w.heap.size) w (vs lb) (.slice Ab lb.length cb)) (hrx:Rd (Lt w.heap.size) w (vs lx) (.slice Ax lx.length cx)) (hry:Rd (Lt w.heap.size) w (vs ly) (.slice Ay ly.length cy)) (hT:Tab w.heap.size w) :
 Calls Tryz.prog 3 #[.agg #[↑ka,↑ta,↑na,↑ma,↑sa,.slice Aa la.length ca],.agg #[↑kb,↑tb,↑nb,↑mb,↑sb,.slice Ab lb.length cb],.slice Ax lx.length cx,.slice Ay ly.length cy,↑src] w λe w'=>e=.returned (.bool true)/\Below w.heap.size w w':=by
 have HBA:Hid ((V.mk ka ta na ma sa la).bulk<=2097152):=zz zo;have HBB:Hid ((V.mk kb tb nb mb sb lb).bulk<=2097152):=zz zo;have HLA:Hid (zcl la<=2097152):=zz (by rw[zbv] at hba;omega);have HLB:Hid (zcl lb<=2097152):=zz (by rw[zbv] at hbb;omega);have HBX:Hid (zcl lx<=2097152):=zz zo;have HBY:Hid (zcl ly<=2097152):=zz zo;have HT:=zz hT;have HW:=zz hwa;obtain⟨⟨⟨kp,tp,np,mp,sp,lp⟩,op⟩,hp⟩:∃o,zeR src=o:=⟨_,rfl⟩;obtain⟨⟨⟨kr,tr,nr,mr,sr,lr⟩,okr,rr⟩,hu⟩:∃o,zBL src=o:=⟨_,rfl⟩;have HP:=zz hp;have HU:=zz hu
 have Z:Hid (Zs w w [] [(vs la,.slice Aa la.length ca),(vs lb,.slice Ab lb.length cb),(vs lx,.slice Ax lx.length cx),(vs ly,.slice Ay ly.length cy)]):=zz ⟨Below.refl _ _,λ_ h=>(by cases h),λq h=>by
  simp only[List.mem_cons,List.not_mem_nil,or_false] at h;rcases h with rfl|rfl|rfl|rfl
  ·exact hra
  ·exact hrb
  ·exact hrx
  ·exact hry⟩
 clear hba hwa hbb hbx hby hra hrb hrx hry hT hp hu;obtain⟨w1,hw1,Z⟩:=Zs.box Z #[↑ka,↑ta,↑na,↑ma,↑sa,.slice Aa la.length ca] 24;obtain⟨w2,hw2,Z⟩:=Zs.box Z #[↑kb,↑tb,↑nb,↑mb,↑sb,.slice Ab lb.length cb] 24;go_in;go_wp2_with fail;have K:=zz (zyq w2 (Tab.up (HT.out.on Z.out.low) Z.out.low.size));refine Zs.call Z K.out ?_;clear hw1 hw2 K Z;intro w3 Z;have z0:=Zs.c Z 1 0 rfl rfl;have z1:=Zs.c Z 1 1 rfl rfl;have z2:=Zs.c Z 1 2 rfl rfl;have z3:=Zs.c Z 1 3 rfl rfl;have z4:=Zs.c Z 1 4 rfl rfl;have z5:=Zs.c Z 1 5 rfl rfl;have K:=zz (zzp ka ta na ma sa la _ _ w3 HBA.out (Zs.rd Z 0 rfl));go_wp2_with fail;refine K.out.mono ?_;rintro e w4 ⟨⟨q,rfl,hq⟩,hb⟩;replace Z:=zz (Z.out.below hb);clear z0 z1 z2 z3 z4 z5 K hb;cases q
 ·clear hq;go_wp2;go_ret;exact⟨rfl,Z.out.low⟩
 have HQA:=zz (hq rfl);clear hq;have z0:=Zs.c Z 0 0 rfl rfl;have z1:=Zs.c Z 0 1 rfl rfl;have z2:=Zs.c Z 0 2 rfl rfl;have z3:=Zs.c Z 0 3 rfl rfl;have z4:=Zs.c Z 0 4 rfl rfl;have z5:=Zs.c Z 0 5 rfl rfl;have K:=zz (zzp kb tb nb mb sb lb _ _ w4 HBB.out (Zs.rd Z 1 rfl));go_wp2_with fail;refine K.out.mono ?_;rintro e w5 ⟨⟨q,rfl,hq⟩,hb⟩;replace Z:=zz (Z.out.below hb);clear z0 z1 z2 z3 z4 z5 K hb;cases q
 ·clear hq;go_wp2;go_ret;exact⟨rfl,Z.out.low⟩
 have HQB:=zz (hq rfl);clear hq;have K:=zz (zCb lx _ _ w5 HBX.out (Zs.rd Z 2 rfl));go_wp2_with fail;refine K.out.mono ?_;rintro e w6 ⟨⟨q,rfl,hq⟩,hb⟩;replace Z:=zz (Z.out.below hb);clear K hb hq;cases q
 ·go_wp2;go_ret;exact⟨rfl,Z.out.low⟩
 have K:=zz (zCb ly _ _ w6 HBY.out (Zs.rd Z 3 rfl));go_wp2_with fail;refine K.out.mono ?_;rintro e w7 ⟨⟨q,rfl,hq⟩,hb⟩;replace Z:=zz (Z.out.below hb);clear K hb hq;cases q
 ·go_wp2;go_ret;exact⟨rfl,Z.out.low⟩
 by_cases hs:(1500:Int)<src.size
 ·go_wp2;go_ret;exact⟨rfl,Z.out.low⟩
 have hsz:src.size<=1500:=zo
 have K0:=ztT src w7 zo (Tab.up (HT.out.on Z.out.low) Z.out.low.size);rw[HP.out] at K0;have K:=zz (zCP K0);clear K0;go_wp2_with fail;refine K.out.mono ?_;rintro e w8 ⟨hb,Ap1,cp1,rfl,hr⟩;replace Z:=zz (Z.out.below hb);have Z:=Zs.more Z hr;clear K hb hr;obtain⟨w9,hw9,Z⟩:=Zs.box Z #[↑kp,↑tp,↑np,↑mp,↑sp,.slice Ap1 lp.length cp1] 24;have K0:=zDH src w9 zo;rw[HP.out] at K0;have K:=zz (zCP K0);clear K0;go_wp2_with fail;refine K.out.mono ?_;rintro e w10 ⟨hb,Ap2,cp2,rfl,hr⟩;replace Z:=zz (Z.out.below hb);have Z:=Zs.more Z hr;clear K hb hr;obtain⟨w11,hw11,Z⟩:=Zs.box Z #[↑kp,↑tp,↑np,↑mp,↑sp,.slice Ap2 lp.length cp2] 24;have K:=zz (zxQ src w11);go_wp2_with fail;refine K.out.mono ?_;rintro e w12 ⟨rfl,hb1,hr1⟩;clear K hw11;have HB1:=zz hb1;have HR1:=zz hr1;clear hb1 hr1;have K:=zz (zCt src w12);go_wp2_with fail;refine K.out.mono ?_;rintro e w13 ⟨rfl,hb2,hr2⟩;clear K;have hr1:=HR1.out.below hb2;have HB2:Hid (Below w11.heap.size w11 w13):=zz (zac HB1.out hb2 HB1.out.size);have hx1:w11.heap.size<w12.heap.size:=HR1.out.lt;have hx2:w12.heap.size<w13.heap.size:=hr2.lt;have HR2:=zz hr2;have K:=zz (zDV hr1 zo HU.out);clear hb2 hr1 hr2 HR1 HB1;go_wp2_with fail;refine K.out.mono ?_;rintro e w14 ⟨hc,A3,c3,rfl,hd,hr1⟩;have hr2:=HR2.out.keep hc zo;have HB3:Hid (Below w11.heap.size w11 w14):=zz (HB2.out.trans (hc.below HB2.out.size (λq hq=>by omega)));have hx3:=hc.size;obtain⟨wx,hwx,b4,c4⟩:=zaj w14 #[↑kr,↑tr,↑nr,↑mr,↑sr,.slice A3 lr.length c3] 24;have hr1:zdd wx w11.heap.size rr:=zaa b4 hr1;have hr2:=hr2.below b4;have hd:=hd.below b4 (λb hb=>hb.2);have HB4:Hid (Below w11.heap.size w11 wx):=zz (zac HB3.out b4 HB3.out.size);have hx4:=b4.size;have HR1:=zz hr1;have HD:=zz hd;have HX:=zz c4;have K:=zz (zEg hr2 zo HU.out);clear hr1 hr2 hc hd b4 c4 HB2 HB3 HR2;go_wp2_with fail;refine K.out.mono ?_;rintro e w15 ⟨hc,A4,c4,rfl,hd4,hr2⟩;have hr1:zdd w15 w11.heap.size rr:=zab.keep HR1.out hc zo;have hc4:=HX.out.keep hc zo;have hd3:=hc.rd (ok:=Bt w13.heap.size w14.heap.size) (λq hq=>⟨by have:=hq.2;omega,by have:=hq.1;omega⟩) HD.out;have hx5:=hc.size;have hB5:Below w11.heap.size w11 w15:=HB4.out.trans (hc.below HB4.out.size (λq hq=>by omega));replace Z:=zz (Z.out.below hB5);have Z:=Zs.put Z (show zab w15 w11.heap.size #[↑rr.s,↑rr.f] 86 from hr1);have Z:=Zs.put Z (show zab w15 w12.heap.size #[↑rr.s,↑rr.f] 88 from hr2);have Z:=Zs.put Z hc4;have Z:=Zs.more Z (hd3.weaken (λq hq=>(by have:=hq.2;show q<_;omega)));have Z:=Zs.more Z (hd4.weaken (λq hq=>hq.2));clear hc hr1 hr2 hc4 hd3 hd4 hB5 K HB4 HR1 HD HX;obtain⟨w16,hw16,Z⟩:=Zs.box Z #[↑kr,↑tr,↑nr,↑mr,↑sr,.slice A4 lr.length c4] 24;have hlp:zcl lp<=2097152:=by have:=zDu HP.out;rw[zbv] at this;omega
 have hlr:zcl lr<=2097152:=by have:=zDK zo HU.out;rw[zbv] at this;omega
 have HLP:=zz hlp;have HLR:=zz hlr;clear hlp hlr;have z0:=Zs.c Z 5 0 rfl rfl;have z1:=Zs.c Z 5 1 rfl rfl;have z2:=Zs.c Z 5 2 rfl rfl;have z3:=Zs.c Z 5 3 rfl rfl;have z4:=Zs.c Z 5 4 rfl rfl;have z5:=Zs.c Z 5 5 rfl rfl;have q0:=Zs.c Z 4 0 rfl rfl;have q1:=Zs.c Z 4 1 rfl rfl;have q2:=Zs.c Z 4 2 rfl rfl;have q3:=Zs.c Z 4 3 rfl rfl;have q4:=Zs.c Z 4 4 rfl rfl;have q5:=Zs.c Z 4 5 rfl rfl;have K0:=zAk kp tp np mp sp lp kp tp np mp sp lp Ap1 Ap2 cp1 cp2 w16 (zBp HLP.out) HLP.out (Zs.rd Z 3 rfl) (Zs.rd Z 2 rfl);rw[(zsV _ _).2 rfl] at K0;have K:=zz (K0);go_wp2_with fail;refine Zs.call Z K.out ?_;clear z0 z1 z2 z3 z4 z5 q0 q1 q2 q3 q4 q5 K0 K Z;intro w17 Z;have z0:=Zs.c Z 1 0 rfl rfl;have z1:=Zs.c Z 1 1 rfl rfl;have z2:=Zs.c Z 1 2 rfl rfl;have z3:=Zs.c Z 1 3 rfl rfl;have z4:=Zs.c Z 1 4 rfl rfl;have z5:=Zs.c Z 1 5 rfl rfl;have q0:=Zs.c Z 0 0 rfl rfl;have q1:=Zs.c Z 0 1 rfl rfl;have q2:=Zs.c Z 0 2 rfl rfl;have q3:=Zs.c Z 0 3 rfl rfl;have q4:=Zs.c Z 0 4 rfl rfl;have q5:=Zs.c Z 0 5 rfl rfl;have K0:=zAk kr tr nr mr sr lr kr tr nr mr sr lr A3 A4 c3 c4 w17 (zBp HLR.out) HLR.out (Zs.rd Z 1 rfl) (Zs.rd Z 0 rfl);rw[(zsV _ _).2 rfl] at K0;have K:=zz (K0);go_wp2_with fail;refine Zs.call Z K.out ?_;clear z0 z1 z2 z3 z4 z5 q0 q1 q2 q3 q4 q5 K0 K Z;intro w18 Z;have K:=zz (zzZ (zva _ rr w18 (Zs.g Z 3 rfl)));go_wp2_with fail;refine Zs.call Z K.out ?_;clear K Z;intro w19 Z;have K:=zz (zzZ (zzE _ rr w19 (Zs.g Z 2 rfl)));go_wp2_with fail;refine Zs.call Z K.out ?_;clear K Z;intro w20 Z;have K:=zz (zzZ (zxw _ rr w20 (Zs.g Z 3 rfl)));go_wp2_with fail;refine Zs.call Z K.out ?_;clear K Z;intro w21 Z;have K:=zz (zzZ (zzW _ rr w21 (Zs.g Z 2 rfl)));go_wp2_with fail;refine Zs.call Z K.out ?_;clear K Z;intro w22 Z;have z0:=λd os=>cell_regrown (Zs.c Z 7 0 rfl rfl) d os;have z1:=λd os=>cell_regrown (Zs.c Z 7 1 rfl rfl) d os;have z2:=λd os=>cell_regrown (Zs.c Z 7 2 rfl rfl) d os;have z3:=λd os=>cell_regrown (Zs.c Z 7 3 rfl rfl) d os;have z4:=λd os=>cell_regrown (Zs.c Z 7 4 rfl rfl) d os;have z5:=λd os=>cell_regrown (Zs.c Z 7 5 rfl rfl) d os;obtain⟨g1,hg1⟩:=zn (znX src);have K1:=zz (λd os=>Calls.regrown_of (by have t:=zrD src (grow (redrawn w22 d) os) zo;exact t));rw[hg1] at K1;have K2:=zz (λd os=>Calls.regrown_of (by have t:=zBJ src (grow (redrawn w22 d) os) zo;exact t));rw[hg1] at K2;obtain⟨g2,hg2⟩:=zn (zkS zbL (.mk ka ta na ma sa la));have K3:=zz (λd os=>Calls.regrown_of (by have t:=zuQ zbL ka ta na ma sa la Aa ca (grow (redrawn w22 d) os) HBA.out (znD _ HBA.out) (Zs.rd (Zs.grow Z d os) 4 rfl);exact t));rw[hg2] at K3;have K4:=zz (λd os=>Calls.regrown_of (by have t:=zAd ka ta na ma sa la Aa ca (grow (redrawn w22 d) os) HBA.out (Zs.rd (Zs.grow Z d os) 4 rfl);exact t));rw[hg2] at K4;obtain⟨g3,hg3⟩:=zn (zcf (.mk ka ta na ma sa la))
 have K5:=zz (λd os=>Calls.regrown_of (by have t:=(show Calls Tryz.prog 26 #[.agg #[↑ka,↑ta,↑na,↑ma,↑sa,.slice Aa la.length ca]] (grow (redrawn w22 d) os) λe w'=>e=.returned (.int .i64 (zcf (.mk ka ta na ma sa la)))/\Below (grow (redrawn w22 d) os).heap.size (grow (redrawn w22 d) os) w' from zvN (.mk ka ta na ma sa la) Aa ca (grow (redrawn w22 d) os) HBA.out (Zs.rd (Zs.grow Z d os) 4 rfl));exact t));rw[hg3] at K5;have K6:=zz (λd os=>Calls.regrown_of (by have t:=zBi _ ka ta na ma sa la Aa ca (grow (redrawn w22 d) os) (Nat.le_refl _) HBA.out (Zs.rd (Zs.grow Z d os) 4 rfl);rw[zAC,hg3] at t;exact t));obtain⟨g4,hg4⟩:=zn (zoQ (.mk ka ta na ma sa la));have K7:=zz (λd os=>Calls.regrown_of (by have t:=zqB ka ta na ma sa la Aa ca (grow (redrawn w22 d) os) HBA.out (Tab.up (HT.out.on (Zs.grow Z d os).out.low) (Zs.grow Z d os).out.low.size) (Zs.rd (Zs.grow Z d os) 4 rfl);exact t));rw[hg4] at K7;have K8:=zz (λd os=>Calls.regrown_of (by have t:=zBA ka ta na ma sa la Aa ca (grow (redrawn w22 d) os) HBA.out (Zs.rd (Zs.grow Z d os) 4 rfl);exact t));rw[hg4] at K8;obtain⟨g5,hg5⟩:=zn (zjt zbL (.mk ka ta na ma sa la));have K9:=zz (λd os=>Calls.regrown_of (by have t:=zvT zbL ka ta na ma sa la Aa ca (grow (redrawn w22 d) os) HBA.out HW.out (znD _ HBA.out) (Zs.rd (Zs.grow Z d os) 4 rfl);exact t));rw[hg5] at K9;have K10:=zz (λd os=>Calls.regrown_of (by have t:=zCk ka ta na ma sa la Aa ca (grow (redrawn w22 d) os) HBA.out HW.out (Zs.rd (Zs.grow Z d os) 4 rfl);exact t));rw[hg5] at K10;clear hg1 hg2 hg3 hg4 hg5;go_wp2_with fail;refine wp_region_quiet_below zk zk ?_
 repeat (go_big_quiet_step (first|with_reducible exact K1.out _ _|with_reducible exact K2.out _ _|with_reducible exact K3.out _ _|with_reducible exact K4.out _ _|with_reducible exact K5.out _ _|with_reducible exact K6.out _ _|with_reducible exact K7.out _ _|with_reducible exact K8.out _ _|with_reducible exact K9.out _ _|with_reducible exact K10.out _ _))
 refine wpQuiet_nil ?_;intro _ hw';obtain⟨⟨dq,oq⟩,hw''⟩:=hw';subst hw'';have Z:=Zs.grow Z dq oq;clear z0 z1 z2 z3 z4 z5 K1 K2 K3 K4 K5 K6 K7 K8 K9 K10;obtain⟨w23,hw23⟩:=zn (grow (redrawn w22 dq) oq);rw[hw23] at Z ⊢;clear hw23;have z0:=λd os=>cell_regrown (Zs.c Z 7 0 rfl rfl) d os;have z1:=λd os=>cell_regrown (Zs.c Z 7 1 rfl rfl) d os;have z2:=λd os=>cell_regrown (Zs.c Z 7 2 rfl rfl) d os;have z3:=λd os=>cell_regrown (Zs.c Z 7 3 rfl rfl) d os;have z4:=λd os=>cell_regrown (Zs.c Z 7 4 rfl rfl) d os;have z5:=λd os=>cell_regrown (Zs.c Z 7 5 rfl rfl) d os;have q0:=λd os=>cell_regrown (Zs.c Z 6 0 rfl rfl) d os;have q1:=λd os=>cell_regrown (Zs.c Z 6 1 rfl rfl) d os;have q2:=λd os=>cell_regrown (Zs.c Z 6 2 rfl rfl) d os;have q3:=λd os=>cell_regrown (Zs.c Z 6 3 rfl rfl) d os;have q4:=λd os=>cell_regrown (Zs.c Z 6 4 rfl rfl) d os;have q5:=λd os=>cell_regrown (Zs.c Z 6 5 rfl rfl) d os;obtain⟨g6,hg6⟩:=zn (eqV (.mk ka ta na ma sa la) (.mk kb tb nb mb sb lb));have K11:=zz (λd os=>Calls.regrown_of (by have t:=zvo ka ta na ma sa la kb tb nb mb sb lb Aa Ab ca cb (grow (redrawn w23 d) os) (zxx HLA.out) HLB.out (Zs.rd (Zs.grow Z d os) 4 rfl) (Zs.rd (Zs.grow Z d os) 5 rfl);exact t));rw[hg6] at K11;have K12:=zz (λd os=>Calls.regrown_of (by have t:=zAk ka ta na ma sa la kb tb nb mb sb lb Aa Ab ca cb (grow (redrawn w23 d) os) (zBp HLA.out) HLB.out (Zs.rd (Zs.grow Z d os) 4 rfl) (Zs.rd (Zs.grow Z d os) 5 rfl);exact t));rw[hg6] at K12;obtain⟨g7,hg7⟩:=zn (cmpV (.mk ka ta na ma sa la) (.mk kb tb nb mb sb lb));have K13:=zz (λd os=>Calls.regrown_of (by have t:=znS ka ta na ma sa la kb tb nb mb sb lb Aa Ab ca cb (grow (redrawn w23 d) os) (zuM HLA.out) HLB.out (Zs.rd (Zs.grow Z d os) 4 rfl) (Zs.rd (Zs.grow Z d os) 5 rfl);exact t));rw[hg7] at K13;have K14:=zz (λd os=>Calls.regrown_of (by have t:=(show Calls Tryz.prog 34 #[.agg #[↑ka,↑ta,↑na,↑ma,↑sa,.slice Aa la.length ca],.agg #[↑kb,↑tb,↑nb,↑mb,↑sb,.slice Ab lb.length cb]] (grow (redrawn w23 d) os) λe w'=>e=.returned (.int .i64 (cmpV (.mk ka ta na ma sa la) (.mk kb tb nb mb sb lb)))/\Below (grow (redrawn w23 d) os).heap.size (grow (redrawn w23 d) os) w' from zAx (.mk ka ta na ma sa la) (.mk kb tb nb mb sb lb) Aa Ab ca cb (grow (redrawn w23 d) os) (Zs.rd (Zs.grow Z d os) 4 rfl) (Zs.rd (Zs.grow Z d os) 5 rfl));exact t));rw[hg7] at K14;obtain⟨g8,hg8⟩:=zn (eqVs lx ly);have K15:=zz (λd os=>Calls.regrown_of (by have t:=zxx HBX.out ly Ax Ay _ _ cx cy (grow (redrawn w23 d) os) HBY.out (Zs.rd (Zs.grow Z d os) 6 rfl) (Zs.rd (Zs.grow Z d os) 7 rfl);exact t));rw[hg8] at K15;have K16:=zz (λd os=>Calls.regrown_of (by have t:=zBp HBX.out ly Ax Ay _ _ cx cy (grow (redrawn w23 d) os) HBY.out (Zs.rd (Zs.grow Z d os) 6 rfl) (Zs.rd (Zs.grow Z d os) 7 rfl);exact t));rw[hg8] at K16;clear hg6 hg7 hg8;go_wp2_with fail;refine wp_region_quiet_below zk zk ?_
 repeat (go_big_quiet_step (first|with_reducible exact K11.out _ _|with_reducible exact K12.out _ _|with_reducible exact K13.out _ _|with_reducible exact K14.out _ _|with_reducible exact K15.out _ _|with_reducible exact K16.out _ _))
 refine wpQuiet_nil ?_;intro _ hw';obtain⟨⟨dq,oq⟩,hw''⟩:=hw';subst hw'';have Z:=Zs.grow Z dq oq;go_wp2;go_ret;exact⟨rfl,Z.out.low⟩
end Go.Proofs.YtcebmphappfjjaaGreatDoor
set_option maxHeartbeats 32000000
set_option maxRecDepth 100000
namespace Go.Proofs.YtcebmphappfjjaaGreatDoor.valueTells
open Go.ChangeShapes Go.WideShapes Go.ChangeAt Go.RowKit
theorem own:ownKnob Tryz.prog.godebug=none:=by kernel_rfl
theorem zwt:laidOutB Tryz.prog=true:=by kernel_rfl
theorem gTab:Tryz.prog.globalNamed "internal/strconv.uint64pow10"=some 1:=by kernel_rfl
theorem zxM:(Tryz.prog.globals[1]?).map (·.type)=some 252:=by kernel_rfl
theorem zyA:Tryz.prog.cellsOf 252=20:=by kernel_rfl
theorem zyC:Tryz.prog.cellsOf 246=1:=by kernel_rfl
theorem zyT {W:World} (h:laidMetH Tryz.prog Rows.valueTellsUptoRow.laid W):Tab W.heap.size W:=
 Lib.tabBelow_of_tabIs (Lib.tabIs_of_head (rest:=[]) gTab zxM Tryz.underlying252 Tryz.underlying246 zyC zyA (laidMet.tail (laidMet.tail (show laidMet Tryz.prog Rows.valueTellsUptoRow.laid W from h))))
theorem zxI (H:Type) (enc:TypeId × Value->H) (W:World) (base:Nat) (args:Array Value) (ds gs:List (DataW H)) (before:List MemPlace)
 (hval:∀(j:Nat) t v,Tryz.f3.params[j]?=some t->args[j]?=some v->Value.okWide Tryz.prog W .any base t v)
 (hW:DataW.Whole enc Tryz.prog Tryz.f3.params.toList Rows.valueTellsSpec.vars false W args.toList ds gs before) (hk:Rows.uptoSmall H (ds++gs)=true) (hL:laidMetH Tryz.prog Rows.valueTellsUptoRow.laid W) :
 Calls Tryz.prog 3 args W λe W'=>∃v,e=.returned v/\Rows.valueTellsSpec.post enc Tryz.prog Tryz.f3 false true false false W args v W':=by
 have hW':=hW;obtain⟨p,q,hA0,hV,rfl,hfz,hnd⟩:=hW;have hA:DataW.TrodAll enc Tryz.prog W 0 (λ_=>true) true Tryz.f3.params.toList args.toList ds p:=hA0;rw[Tryz.params3] at hA hval;obtain⟨v0,vs0,d0,ds0,p0,q0,hargs,rfl,rfl,h0,r0⟩:=trodAll_cons hA;obtain⟨v1,vs1,d1,ds1,p1,q1,rfl,rfl,rfl,h1,r1⟩:=trodAll_cons r0;obtain⟨v2,vs2,d2,ds2,p2,q2,rfl,rfl,rfl,h2,r2⟩:=trodAll_cons r1;obtain⟨v3,vs3,d3,ds3,p3,q3,rfl,rfl,rfl,h3,r3⟩:=trodAll_cons r2;obtain⟨v4,vs4,d4,ds4,p4,q4,rfl,rfl,rfl,h4,r4⟩:=trodAll_cons r3;obtain⟨rfl,rfl,rfl⟩:=trodAll_nil r4;obtain rfl:args=#[v0,v1,v2,v3,v4]:=by cases args;simp_all
 obtain⟨rfl,rfl⟩:=trodVars_none hV;have hbk:=of_decide_eq_true hk;simp only[Rows.uptoBulkAll,List.append_nil] at hbk;have k0:=h0;have lt0:∀x∈p0,x.block<W.heap.size:=by obtain⟨m,hm⟩:=k0;exact DataW.trod_lt m _ _ _ hm
 obtain⟨l0,A0,c0,rfl,rd0,bk0,wf0⟩:∃a:V,∃A c,v0=.agg #[↑a.kind,↑a.t,↑a.n,↑a.m,↑a.s,.slice A a.l.length c]/\Rd (Lt W.heap.size) W (vs a.l) (.slice A a.l.length c)/\a.bulk<=Rows.uptoBulk d0/\a.Wf:=by
  obtain⟨fuel,hf⟩:=h0;obtain⟨a,A,c,e,h1,h2,h3⟩:=zvi fuel _ _ hf;obtain⟨cs,hcs,_⟩:=okWide_struct Tryz.underlying24 (hval 0 24 v0 rfl rfl);subst hcs;refine⟨a,A,c,?_,h1,h2,h3⟩;have e:cs.toList=_:=e;rw[<-Array.toArray_toList (xs:=cs),e]
 obtain⟨k0_,t0_,n0_,m0_,s0_,l0_⟩:=l0;have k1:=h1;have lt1:∀x∈p1,x.block<W.heap.size:=by obtain⟨m,hm⟩:=k1;exact DataW.trod_lt m _ _ _ hm
 obtain⟨l1,A1,c1,rfl,rd1,bk1,wf1⟩:∃a:V,∃A c,v1=.agg #[↑a.kind,↑a.t,↑a.n,↑a.m,↑a.s,.slice A a.l.length c]/\Rd (Lt W.heap.size) W (vs a.l) (.slice A a.l.length c)/\a.bulk<=Rows.uptoBulk d1/\a.Wf:=by
  obtain⟨fuel,hf⟩:=h1;obtain⟨a,A,c,e,h1,h2,h3⟩:=zvi fuel _ _ hf;obtain⟨cs,hcs,_⟩:=okWide_struct Tryz.underlying24 (hval 1 24 v1 rfl rfl);subst hcs;refine⟨a,A,c,?_,h1,h2,h3⟩;have e:cs.toList=_:=e;rw[<-Array.toArray_toList (xs:=cs),e]
 obtain⟨k1_,t1_,n1_,m1_,s1_,l1_⟩:=l1;have k2:=h2;have lt2:∀x∈p2,x.block<W.heap.size:=by obtain⟨m,hm⟩:=k2;exact DataW.trod_lt m _ _ _ hm
 obtain⟨a2,n2,c2,rfl⟩:=okWide_slice Tryz.underlying22 (hval 2 22 v2 rfl rfl)
 obtain⟨l2,rfl,rd2,bk2,wf2⟩:∃l:List V,n2=l.length/\Rd (Lt W.heap.size) W (vs l) (.slice a2 n2 c2)/\zcl l+1<=Rows.uptoBulk d2/\WfV l:=by
  obtain⟨fuel,hf⟩:=h2;obtain⟨A,c,l,e,h1,h2,h3⟩:=zwx fuel fuel (Nat.le_refl _) _ _ hf;simp[Value.cells] at e;obtain⟨rfl,rfl,rfl⟩:=e;exact⟨l,rfl,h1,h2,h3⟩
 have k3:=h3;have lt3:∀x∈p3,x.block<W.heap.size:=by obtain⟨m,hm⟩:=k3;exact DataW.trod_lt m _ _ _ hm
 obtain⟨a3,n3,c3,rfl⟩:=okWide_slice Tryz.underlying22 (hval 3 22 v3 rfl rfl)
 obtain⟨l3,rfl,rd3,bk3,wf3⟩:∃l:List V,n3=l.length/\Rd (Lt W.heap.size) W (vs l) (.slice a3 n3 c3)/\zcl l+1<=Rows.uptoBulk d3/\WfV l:=by
  obtain⟨fuel,hf⟩:=h3;obtain⟨A,c,l,e,h1,h2,h3⟩:=zwx fuel fuel (Nat.le_refl _) _ _ hf;simp[Value.cells] at e;obtain⟨rfl,rfl,rfl⟩:=e;exact⟨l,rfl,h1,h2,h3⟩
 have k4:=h4;have lt4:∀x∈p4,x.block<W.heap.size:=by obtain⟨m,hm⟩:=k4;exact DataW.trod_lt m _ _ _ hm
 obtain⟨s4,rfl,rfl,rfl,hs4⟩:=Go.ChangeMaps.open_string Tryz.underlying9 (hval 4 9 v4 rfl rfl) h4;clear hA0;simp only[List.append_nil] at hW';refine(zCU k0_ t0_ n0_ m0_ s0_ l0_ k1_ t1_ n1_ m1_ s1_ l1_ l2 l3 s4 A0 A1 a2 a3 c0 c1 c2 c3 W zo wf0 zo zo zo rd0 rd1 rd2 rd3 (zyT hL)).mono λe W' ⟨he,bel⟩=>?_;subst he;exact⟨_,rfl,_,_,_,[],_,[],hW',trodAll_mk1 (shut_bool Tryz.underlying4 _),(trodAll_cons_mk (Below.trod zwt zk (of_decide_eq_true zk) k0 bel lt0) (trodAll_cons_mk (Below.trod zwt zk (of_decide_eq_true zk) k1 bel lt1) (trodAll_cons_mk (Below.trod zwt zk (of_decide_eq_true zk) k2 bel lt2) (trodAll_cons_mk (Below.trod zwt zk (of_decide_eq_true zk) k3 bel lt3) (trodAll_cons_mk (Below.trod zwt zk (of_decide_eq_true zk) k4 bel lt4) trodAll_mk0))))),rfl,bel.frame _,λh=>by cases h⟩
noncomputable def zvv (os:Os):World:=
 {World.holding Tryz.prog os ⟨#[],#[],[]⟩ with heap:=((((World.holding Tryz.prog os ⟨#[],#[],[]⟩).heap.modify 2 fun
  |.cells _ t frozen=>.cells #[.int .u8 0,.int .u8 1,.int .u8 28,.int .u8 2,.int .u8 29,.int .u8 14,.int .u8 24,.int .u8 3,.int .u8 30,.int .u8 22,.int .u8 20,.int .u8 15,.int .u8 25,.int .u8 17,.int .u8 4,.int .u8 8,.int .u8 31,.int .u8 27,.int .u8 13,.int .u8 23,.int .u8 21,.int .u8 19,.int .u8 16,.int .u8 7,.int .u8 26,.int .u8 12,.int .u8 18,.int .u8 6,.int .u8 11,.int .u8 5,.int .u8 10,.int .u8 9] t frozen
  |o=>o).modify 3 fun
  |.cells _ t frozen=>.cells #[.int .u8 0,.int .u8 1,.int .u8 56,.int .u8 2,.int .u8 57,.int .u8 49,.int .u8 28,.int .u8 3,.int .u8 61,.int .u8 58,.int .u8 42,.int .u8 50,.int .u8 38,.int .u8 29,.int .u8 17,.int .u8 4,.int .u8 62,.int .u8 47,.int .u8 59,.int .u8 36,.int .u8 45,.int .u8 43,.int .u8 51,.int .u8 22,.int .u8 53,.int .u8 39,.int .u8 33,.int .u8 30,.int .u8 24,.int .u8 18,.int .u8 12,.int .u8 5,.int .u8 63,.int .u8 55,.int .u8 48,.int .u8 27,.int .u8 60,.int .u8 41,.int .u8 37,.int .u8 16,.int .u8 46,.int .u8 35,.int .u8 44,.int .u8 21,.int .u8 52,.int .u8 32,.int .u8 23,.int .u8 11,.int .u8 54,.int .u8 26,.int .u8 40,.int .u8 15,.int .u8 34,.int .u8 20,.int .u8 31,.int .u8 10,.int .u8 25,.int .u8 14,.int .u8 19,.int .u8 9,.int .u8 13,.int .u8 8,.int .u8 7,.int .u8 6] t frozen
  |o=>o).modify 1 fun
  |.cells _ t frozen=>.cells #[.int .u64 1,.int .u64 10,.int .u64 100,.int .u64 1000,.int .u64 10000,.int .u64 100000,.int .u64 1000000,.int .u64 10000000,.int .u64 100000000,.int .u64 1000000000,.int .u64 10000000000,.int .u64 100000000000,.int .u64 1000000000000,.int .u64 10000000000000,.int .u64 100000000000000,.int .u64 1000000000000000,.int .u64 10000000000000000,.int .u64 100000000000000000,.int .u64 1000000000000000000,.int .u64 10000000000000000000] t frozen
  |o=>o) }
theorem zxK (os:Os):laidMet Tryz.prog Rows.valueTellsUptoRow.laid ((zvv os).forCall (λ_ _=>0) ⟨#[],#[.agg #[↑(),↑zj.a,↑(),↑(),↑zj.a,.slice none 0 0],.agg #[↑(),↑zj.a,↑(),↑(),↑zj.a,.slice none 0 0],.slice none 0 0,.slice none 0 0,↑zj.a],[]⟩).memory:=
 laidMet_of_run' 8 zk zk
theorem reads (os:Os) {H:Type} (enc:TypeId × Value->H):∃places,DataW.whole enc Tryz.prog ((zvv os).forCall (λ_ _=>0) ⟨#[],#[.agg #[.int .i64 0,.string ⟨#[]⟩,.int .i64 0,.int .i64 0,.string ⟨#[]⟩,.slice none 0 0],.agg #[.int .i64 0,.string ⟨#[]⟩,.int .i64 0,.int .i64 0,.string ⟨#[]⟩,.slice none 0 0],.slice none 0 0,.slice none 0 0,.string ⟨#[]⟩],[]⟩).memory Tryz.f3.params.toList Rows.valueTellsSpec.vars false (#[.agg #[.int .i64 0,.string ⟨#[]⟩,.int .i64 0,.int .i64 0,.string ⟨#[]⟩,.slice none 0 0],.agg #[.int .i64 0,.string ⟨#[]⟩,.int .i64 0,.int .i64 0,.string ⟨#[]⟩,.slice none 0 0],.slice none 0 0,.slice none 0 0,.string ⟨#[]⟩]:Array Value).toList 8=some ([.agg [.lit (.int .i64 0),.lit (.string []),.lit (.int .i64 0),.lit (.int .i64 0),.lit (.string []),.nil],.agg [.lit (.int .i64 0),.lit (.string []),.lit (.int .i64 0),.lit (.int .i64 0),.lit (.string []),.nil],.nil,.nil,.lit (.string [])],[],places):=
 ⟨[],by kernel_rfl⟩
theorem zwQ (os:Os) (started:os.Started) (H:Type) (enc:TypeId × Value->H) (F:Stop.Interp) :
 ReturnsInHanded {} Tryz.checked os 3 .any ((Rows.OpenSpec.upto Rows.valueTellsSpec).preRow enc Tryz.prog Tryz.f3 Rows.valueTellsUptoRow.domain false Rows.valueTellsUptoRow.laid) (((Rows.OpenSpec.upto Rows.valueTellsSpec).at F).post enc Tryz.prog Tryz.f3 false true false false):=by
 obtain⟨places,hx⟩:=reads os enc
 refine returnsInHanded_of_row (C:=Tryz.checked) (s:=Rows.OpenSpec.upto Rows.valueTellsSpec) own started zk Tryz.func3
  (witness_row_at (enc:=enc) (C:=Tryz.checked) false (zvv os) #[.agg #[↑(),↑zj.a,↑(),↑(),↑zj.a,.slice none 0 0],.agg #[↑(),↑zj.a,↑(),↑(),↑zj.a,.slice none 0 0],.slice none 0 0,.slice none 0 0,↑zj.a] rfl zk zk zk
   (OpenSpec.preRow_of_cond 8 hx zk (λk hk=>by cases hk;kernel_rfl) zk (zxK os))) ?_
 intro W base args ds gs before hval hW _ hcond _ hL _ _;exact zxI H enc W base args ds gs before hval hW (hcond _ rfl) hL
theorem zxU:Rows.ValueTellsUptoSaid:=
 OpenClaim.holds_of_cond 3 Tryz.f3 rfl rfl rfl rfl rfl rfl rfl ⟨rfl,rfl,rfl,rfl,rfl⟩ rfl rfl rfl rfl rfl zk Tryz.func3 zk
  (of_decide_eq_true zk) (by unfold Func.isWrapper;first|(rw[if_pos (by decide +kernel)];kernel_rfl)|(rw[if_neg (by decide +kernel)];exact⟨rfl,rfl⟩))
  (λos started H enc _ F=>by rw[OpenClaim.pre_eq_preRow];exact zwQ os started H enc F)
theorem zyR (f:FuncId) (fn:Func) (hf:Tryz.pinned.checked.prog.funcNamed "retroact/retroactlaw12.ValueTells"=some f) (hfn:Tryz.pinned.checked.prog.funcs[f]?=some fn) :
 true=Tryz.pinned.checked.prog.looks []/\∀(j:Nat) t,fn.params[j]?=some t->Tryz.pinned.checked.prog.wantsStandIn t=false:=by
 obtain rfl:f=3:=Option.some.inj ((show Tryz.prog.funcNamed "retroact/retroactlaw12.ValueTells"=some 3 by kernel_rfl).symm.trans hf) |>.symm;obtain rfl:fn=Tryz.f3:=(Option.some.inj (Tryz.func3.symm.trans hfn)).symm;refine⟨by kernel_rfl,λj t ht=>?_⟩;rw[Tryz.params3] at ht;have hm:=Array.mem_of_getElem? ht;simp only[List.mem_toArray,List.mem_cons,List.not_mem_nil,or_false] at hm;have hs:Tryz.prog.wantsStandIn 24=false/\Tryz.prog.wantsStandIn 24=false/\Tryz.prog.wantsStandIn 22=false/\Tryz.prog.wantsStandIn 22=false/\Tryz.prog.wantsStandIn 9=false:=⟨by kernel_rfl,by kernel_rfl,by kernel_rfl,by kernel_rfl,by kernel_rfl⟩;rcases hm with rfl|rfl|rfl|rfl|rfl
 ·exact hs.1
 ·exact hs.2.1
 ·exact hs.2.2.1
 ·exact hs.2.2.2.1
 ·exact hs.2.2.2.2
theorem proved:Rows.ValueTellsUptoCardSaid:=
 Claim7.holds_tied_plain_at .later [] _ _ _ _ zxU (λ_ h=>by cases h) zk (λ_ h=>by cases h) valueTellsUpto_row_tie rfl ⟨rfl,rfl⟩ zk rfl zyR zk
#print axioms proved
end Go.Proofs.YtcebmphappfjjaaGreatDoor.valueTells
