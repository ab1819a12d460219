/- Conditions: those in each statement. -/
import Derived.Test.YtjdpocmlimkjjaaGreatQ52
import Derived.Lib.QuietBelow
import Derived.Test.YtjdpocmlimkjjaaGreatRows
import Derived.WalkKit
import Derived.ProofKit
import Derived.OpenShut
import Derived.ShutString
import Derived.ChangeOld
import Derived.ChangeMaps5
import Derived.Below
set_option maxHeartbeats 32000000
set_option maxRecDepth 100000
namespace Go.Proofs.YtjdpocmlimkjjaaGreat
open Go.RowKit Go.Sort
theorem zpG {s:ByteArray} {e:Int × Int} (h:zdC s=.error e):e.1≠0:=by
 unfold zdC at h;cases hs:zgo s with
 |error e'=>
  rw[hs] at h;injection h with h;subst h;obtain⟨c,a⟩:=e';exact zkK hs
 |ok T=>
  rw[hs] at h;dsimp only at h
  split at h
  ·injection h with h;rw[←h];exact(by decide:(2:Int)≠0)
  ·split at h
   ·injection h with h;rw[←h];exact(by decide:(10:Int)≠0)
   ·cases h
theorem zoN {l:List Nd} (hf:fitL l=true):zry (zbW (.mk 1 ⟨#[]⟩ 0 0 l)).1:=by
 cases hr:zfs (.mk 1 ⟨#[]⟩ 0 0 l) with
 |false=>rw[zju _ _ _ _ hr];exact zhO (l:=[]) rfl
 |true=>
  rw[zlq _ _ _ _ hr];cases (cksN (l.filter zbl)).findSome? id with
  |none=>exact zhO (zgh hf)
  |some p=>exact zhO (l:=[]) rfl
theorem zmB:∀{T:List Dcl} {i k:Nat} {d:Dcl} {c:Ctr},(T.flatMap (λd=>d.ctors.map Ctr.name)).Nodup→T[i]?=some d→d.ctors[k]?=some c→zhJ T c.name=some (d.name,k)
 |[],i,k,d,c,_,h,_=>by simp at h
 |d0::r,i,k,d,c,hn,h,hc=>by
  rw[List.flatMap_cons,List.nodup_append] at hn;rw[zjg];cases i with
  |zero=>
   obtain rfl:d0=d:=by simpa using h
   rw[zgH _ k c.name hn.1 (by rw[List.getElem?_map,hc];rfl)]
  |succ i=>
   have hm:d∈r:=List.mem_of_getElem? (by simpa using h);have hcm:c.name∈r.flatMap (λd=>d.ctors.map Ctr.name):=List.mem_flatMap.2 ⟨d,hm,List.mem_map.2 ⟨c,List.mem_of_getElem? hc,rfl⟩⟩;rw[zfN (λhx=>hn.2.2 _ hx _ hcm rfl)];exact zmB hn.2.1 (by simpa using h) hc
theorem zqv {pv:PgV} {p:Prg} {s:ByteArray} {i:Nat} {W:World} (h:PgRd W pv p) (hi:zcW (p.types.map Dcl.name) s=some i):Calls Tryz.prog 9 #[pgA pv,.string s] W λe w'=>e=.returned (.tuple #[.int .i64 (i:Int),.bool true])∧Below W.heap.size W w':=by
 refine(zld pv _ s W h.tn).mono ?_;rintro e w' ⟨hb,he⟩;rw[hi] at he;exact⟨he,hb⟩
theorem zko {pv:PgV} {p:Prg} {s:ByteArray} {i:Nat} {W:World} (h:PgRd W pv p) (hi:zcW (p.actors.map Actr.name) s=some i):Calls Tryz.prog 10 #[pgA pv,.string s] W λe w'=>e=.returned (.tuple #[.int .i64 (i:Int),.bool true])∧Below W.heap.size W w':=by
 refine(zhf pv _ s W h.an).mono ?_;rintro e w' ⟨hb,he⟩;rw[hi] at he;exact⟨he,hb⟩
theorem zoH {pv:PgV} {p:Prg} {s:ByteArray} {W:World} (h:PgRd W pv p) (hi:zcW (p.actors.map Actr.name) s=none):Calls Tryz.prog 10 #[pgA pv,.string s] W λe w'=>e=.returned (.tuple #[.int .i64 0,.bool false])∧Below W.heap.size W w':=by
 refine(zhf pv _ s W h.an).mono ?_;rintro e w' ⟨hb,he⟩;rw[hi] at he;exact⟨he,hb⟩
theorem zqu {pv:PgV} {p:Prg} {s:ByteArray} {x:ByteArray × Nat} {W:World} (h:PgRd W pv p) (hi:zhJ p.types s=some x):Calls Tryz.prog 11 #[pgA pv,.string s] W λe w'=>e=.returned (.tuple #[.string x.1,.int .i64 (x.2:Int),.bool true])∧Below W.heap.size W w':=by
 refine(zkD pv _ s W h.nT h.types).mono ?_;rintro e w' ⟨hb,he⟩;rw[hi] at he;exact⟨he,hb⟩
theorem zrV {ok:Nat→Prop} {W:World} {A:Option Addr} {n c j:Nat} {T:List Actr} {a:Actr} (h:Rd ok W (slG 7 zhp T) (.slice A n c)) (hj:T[j]?=some a):∃b off Ao co,A=some ⟨b,off,none⟩∧W.cell? ⟨b,off+j*7,none⟩=some (.string a.name)∧W.cell? ⟨b,off+j*7+1,none⟩=some (.slice Ao a.params.length co):=by
 obtain⟨h1,_,_⟩:=zci h;obtain⟨b,off,x,e,_,hx,hr⟩:=zcG h (i:=j) (by rw[h1];exact(List.getElem?_eq_some_iff.1 hj).1);rw[hj] at hx;obtain rfl:a=x:=Option.some.inj hx;obtain⟨u0,hu0,hd0⟩:=hr 0 (by omega);obtain⟨u,hu,hd⟩:=hr 1 (by omega);have e0:u0=.string a.name:=hd0;have hd3:Rd ok W (fls a.params) u:=hd;obtain⟨Ao,co,e2,_⟩:=zcA hd3;subst e0 e2;exact⟨b,off,Ao,co,e,by simpa using hu0,hu⟩
theorem zov {ok:Nat→Prop} {W:World} {A:Option Addr} {n c j:Nat} {T:List Dcl} {d:Dcl} (h:Rd ok W (slG 3 zfq T) (.slice A n c)) (hj:T[j]?=some d):∃b off Ao co,A=some ⟨b,off,none⟩∧W.cell? ⟨b,off+j*3,none⟩=some (.string d.name)∧W.cell? ⟨b,off+j*3+2,none⟩=some (.slice Ao d.ctors.length co)∧Rd ok W (slG 2 zfx d.ctors) (.slice Ao d.ctors.length co):=by
 obtain⟨h1,_,_⟩:=zci h;obtain⟨b,off,x,e,_,hx,hr⟩:=zcG h (i:=j) (by rw[h1];exact(List.getElem?_eq_some_iff.1 hj).1);rw[hj] at hx;obtain rfl:d=x:=Option.some.inj hx;obtain⟨u0,hu0,hd0⟩:=hr 0 (by omega);obtain⟨u,hu,hd⟩:=hr 2 (by omega);have e0:u0=.string d.name:=hd0;have hd3:Rd ok W (slG 2 zfx d.ctors) u:=hd;obtain⟨Ao,co,e2,_⟩:=zcA hd3;subst e0 e2;exact⟨b,off,Ao,co,e,by simpa using hu0,hu,hd3⟩
theorem zsj {ok:Nat→Prop} {W:World} {A:Option Addr} {n c j:Nat} {T:List Ctr} {d:Ctr} (h:Rd ok W (slG 2 zfx T) (.slice A n c)) (hj:T[j]?=some d):∃b off,A=some ⟨b,off,none⟩∧W.cell? ⟨b,off+j*2,none⟩=some (.string d.name):=by
 obtain⟨h1,_,_⟩:=zci h;obtain⟨b,off,x,e,_,hx,hr⟩:=zcG h (i:=j) (by rw[h1];exact(List.getElem?_eq_some_iff.1 hj).1);rw[hj] at hx;obtain rfl:d=x:=Option.some.inj hx;obtain⟨u0,hu0,hd0⟩:=hr 0 (by omega);have e0:u0=.string d.name:=hd0;subst e0;exact⟨b,off,e,by simpa using hu0⟩
theorem zrz (s:ByteArray) (w:World):Calls Tryz.prog 3 #[.string s] w λe w'=>e=.returned (.bool true)∧Below w.heap.size w w':=by
 have KM:=zz (zoS w)
 by_cases hbig:2000<s.size
 ·have hbi:(2000:Int)<(s.size:Int):=by omega
  clear hbig;go_enter Tryz.func3,Tryz.ntmps3;go_wp2_with fail;(with_reducible refine KM.out.mono ?_);rintro e w1 ⟨rfl,hb1⟩;have HL:=zz hb1;clear hb1 KM;go_wp2_with fail;go_ret;exact⟨rfl,HL.out⟩
 ·have hbi:¬(2000:Int)<(s.size:Int):=by omega
  clear hbig;have KP:=λ(W:World)=>zkP s W;unfold zhi at KP;cases hp:zdC s with
  |error e0=>
   obtain⟨ec,ea⟩:=e0;have hec:ec≠0:=zpG hp;rw[hp] at KP;have hne:(ec == 0)=false:=by rw[beq_eq_false_iff_ne];exact hec
   have HP:=zz KP;clear KP hp hec;go_enter Tryz.func3,Tryz.ntmps3;go_wp2_with fail;(with_reducible refine KM.out.mono ?_);rintro e w1 ⟨rfl,hb1⟩;have HL:=zz hb1;clear hb1 KM;go_wp2_with fail
   (refine(HP.out w1).mono ?_)
   rintro e w2 ⟨hb,rfl⟩;have HL2:=zz (zab HL.out hb HL.out.size);have HL3:=zz (zab HL2.out (zag w2 (.cells #[.int .i64 0,.string ⟨#[]⟩,.int .i64 0,.int .i64 0,.slice none 0 0] 25)) HL2.out.size);clear hb HL HP;go_wp2_with fail;go_ret;exact⟨rfl,HL3.out⟩
  |ok n=>
   obtain⟨l,rfl,hf,hs,hk⟩:=zeV hp;have KP1:=zz (λW=>zhN (s:=s) rfl hp W);have KDL:=zz (λA c W h=>zhQ (l:=l) (e1:=(zbW (.mk 1 ⟨#[]⟩ 0 0 l)).2.1) (a1:=(zbW (.mk 1 ⟨#[]⟩ 0 0 l)).2.2) rfl hk hf hs A c W h);have hfit:=zoN hf;have hclo:=zkw (.mk 1 ⟨#[]⟩ 0 0 l);have hbad:=zpC (.mk 1 ⟨#[]⟩ 0 0 l);obtain⟨p,hpe⟩:∃p,(zbW (.mk 1 ⟨#[]⟩ 0 0 l)).1=p:=⟨_,rfl⟩;obtain⟨ee,hee⟩:∃p,(zbW (.mk 1 ⟨#[]⟩ 0 0 l)).2.1=p:=⟨_,rfl⟩;obtain⟨ea,hea⟩:∃p,(zbW (.mk 1 ⟨#[]⟩ 0 0 l)).2.2=p:=⟨_,rfl⟩;rw[hpe,hee,hea] at KDL;rw[hpe] at hfit;rw[hpe,hee] at hclo hbad;have HFIT:=zz hfit;have HCLO:=zz hclo;have HBAD:=zz hbad;clear KP hp hf hs hk hfit hclo hbad hpe hee hea;go_enter Tryz.func3,Tryz.ntmps3;go_wp2_with fail;(with_reducible refine KM.out.mono ?_);rintro e w1 ⟨rfl,hb1⟩;have HL:=zz hb1;clear hb1 KM;go_wp2_with fail;(with_reducible refine(KP1.out w1).mono ?_);rintro e w2 ⟨hb,A,c,rfl,hr⟩;have HL2:=zz (zab HL.out hb HL.out.size);obtain⟨w3,hw3,hb2,hx⟩:=zai w2 #[.int .i64 1,.string ⟨#[]⟩,.int .i64 0,.int .i64 0,.slice A l.length c] 25;have HL3:=zz (zab HL2.out hb2 HL2.out.size);obtain⟨y0,y1,y2,y3,y4⟩:=hx.c5;have KD:=zz (KDL.out A c w3 (hr.belows hb2));clear hb hb2 hx hr HL KP1 KDL;go_wp2_with fail;(with_reducible refine KD.out.mono ?_);rintro e w4 ⟨hb,pv,rfl,hpg⟩;obtain⟨At,nT,ct,Ae,nE,ce,Af,nF,cf,Aa,nA,ca⟩:=pv;have HL4:=zz (zab HL3.out hb HL3.out.size);obtain⟨w5,hw5,hb2,hx⟩:=zai w4 #[.slice At nT ct,.slice Ae nE ce,.slice Af nF cf,.slice Aa nA ca] 34;have HL5:=zz (zab HL4.out hb2 HL4.out.size);have HC5:=zz hx;have HP5:=zz (hpg.below hb2);obtain⟨pb,hpb⟩:∃n,w4.heap.size=n:=⟨_,rfl⟩;have hlb:pb<w5.heap.size:=by rw[←hpb];exact hx.lt
   clear hb hb2 y0 y1 y2 y3 y4 KD hw3 hx hpg HL2 HL3 HL4
   by_cases h0:ee=0
   ·have hcl:=HCLO.out h0;subst h0;have HCL:=zz hcl;clear hcl HCLO HBAD;have HC5':Hid (zac w5 pb #[.slice At nT ct,.slice Ae nE ce,.slice Af nF cf,.slice Aa nA ca] 34):=zz (by rw[←hpb];exact HC5.out);have HPB:=zz hpb;have HB0:Hid (Below w5.heap.size w5 w5):=zz (Below.refl _ _);have lT:=(zci HP5.out.types).2;have lA:=(zci HP5.out.actors).2;dsimp only at lT lA;clear HC5 hpb;have HC5:=HC5';clear HC5';go_wp2_with fail;rw[HPB.out];clear hw5
    go_loopw [10] (λs10 wr=>∃i:Nat,i≤nT∧s10=.int .i64 i∧Hid (Below w5.heap.size w5 wr)) (λs10 _=>nT-(intOf s10).toNat)
    case atStart=>exact⟨0,by omega,rfl,HB0⟩
    case round=>
     clear HB0;obtain⟨i,hi,rfl,HB⟩:=hrel;rename World=>wo;have cp:=zaa HB.out HC5.out;have z0:wo.cell? ⟨pb,0,none⟩=some (.slice At nT ct):=cp.cell 0;have z1:wo.cell? ⟨pb,1,none⟩=some (.slice Ae nE ce):=cp.cell 1;have z2:wo.cell? ⟨pb,2,none⟩=some (.slice Af nF cf):=cp.cell 2;have z3:wo.cell? ⟨pb,3,none⟩=some (.slice Aa nA ca):=cp.cell 3;clear cp
     by_cases hlt:i<nT
     ·have hin:(i:Int)<nT:=by omega
      have hPo:=HP5.out.below HB.out;have hd0:p.types[i]?=some (p.types[i]'(by have:=hPo.nT;dsimp only at this;omega)):=List.getElem?_eq_getElem _;obtain⟨d,hdd⟩:∃d,p.types[i]'(by have:=hPo.nT;dsimp only at this;omega)=d:=⟨_,rfl⟩;rw[hdd] at hd0;obtain⟨bt,ot,Ac,cc,e,v0,v2,rC⟩:=zov hPo.types hd0;dsimp only at e;subst e;have hfi:zcW (p.types.map Dcl.name) d.name=some i:=zgH _ i d.name HCL.out.tyn (by rw[List.getElem?_map,hd0];rfl);have hfa:zcW (p.actors.map Actr.name) d.name=none:=zfN (HCL.out.dis d.name (List.mem_map.2 ⟨d,List.mem_of_getElem? hd0,rfl⟩))
      have hdl:d.ctors.length≤9223372036854775807:=by
       obtain⟨_,_,_,h1,h2⟩:=zcA rC;exact Nat.le_trans h1 h2
      have hcne:d.ctors≠[]:=HCL.out.ne d (List.mem_of_getElem? hd0)
      have hc0:((d.ctors.length:Int) == 0)=false:=by
       rw[beq_eq_false_iff_ne];intro h;exact hcne (List.eq_nil_of_length_eq_zero (by omega))
      have HD0:=zz hd0;have HFA:=zz hfa;have K1:Hid (∀dd os,Calls Tryz.prog 9 #[.agg #[.slice (some ⟨bt,ot,none⟩) nT ct,.slice Ae nE ce,.slice Af nF cf,.slice Aa nA ca],.string d.name] (grow (redrawn wo dd) os) λe w'=>e=.returned (.tuple #[.int .i64 (i:Int),.bool true])∧∃p:Regrown,w'=grow (redrawn wo p.d) p.os):=zz (λdd os=>Calls.regrown_of (by have t:=zqv (hPo.below (below_regrown wo dd os)) hfi;exact t));clear hd0 hfi hfa hcne hdd hPo rC;go_wp2_with fail;have o0:=λd os=>cell_regrown z0 d os;have o1:=λd os=>cell_regrown z1 d os;have o2:=λd os=>cell_regrown z2 d os;have o3:=λd os=>cell_regrown z3 d os;have o4:=λd os=>cell_regrown v0 d os;refine wp_region_quiet_below (by kernel_rfl) (by kernel_rfl) ?_
      repeat (go_big_quiet_step (first|with_reducible exact K1.out _ _))
      refine wpQuiet_nil ?_;intro _ hw';obtain⟨⟨dq,osq⟩,hw''⟩:=hw';subst hw'';have BQ:=below_regrown wo dq osq;generalize grow (redrawn wo dq) osq=w6 at BQ ⊢;have BQ1:=zz BQ;clear BQ o0 o1 o2 o3 o4;have HB6:=zz (zab HB.out BQ1.out HB.out.size);clear z0 z1 z2 z3 v0 v2 K1;have cp:=zaa HB6.out HC5.out;have z0:w6.cell? ⟨pb,0,none⟩=some (.slice (some ⟨bt,ot,none⟩) nT ct):=cp.cell 0;have z1:w6.cell? ⟨pb,1,none⟩=some (.slice Ae nE ce):=cp.cell 1;have z2:w6.cell? ⟨pb,2,none⟩=some (.slice Af nF cf):=cp.cell 2;have z3:w6.cell? ⟨pb,3,none⟩=some (.slice Aa nA ca):=cp.cell 3;clear cp;have hP6:=HP5.out.below HB6.out;obtain⟨bt',ot',Ac',cc',e,v0,v2,rC⟩:=zov hP6.types HD0.out;injection e with e;injection e with e1 e2;subst e1 e2;have K2:Hid (∀dd os,Calls Tryz.prog 10 #[.agg #[.slice (some ⟨bt,ot,none⟩) nT ct,.slice Ae nE ce,.slice Af nF cf,.slice Aa nA ca],.string d.name] (grow (redrawn w6 dd) os) λe w'=>e=.returned (.tuple #[.int .i64 0,.bool false])∧∃p:Regrown,w'=grow (redrawn w6 p.d) p.os):=zz (λdd os=>Calls.regrown_of (by have t:=zoH (hP6.below (below_regrown w6 dd os)) HFA.out;exact t));clear hP6 rC;go_wp2_with fail;have o0:=λd os=>cell_regrown z0 d os;have o1:=λd os=>cell_regrown z1 d os;have o2:=λd os=>cell_regrown z2 d os;have o3:=λd os=>cell_regrown z3 d os;have o4:=λd os=>cell_regrown v0 d os;refine wp_region_quiet_below (by kernel_rfl) (by kernel_rfl) ?_
      repeat (go_big_quiet_step (first|with_reducible exact K2.out _ _))
      refine wpQuiet_nil ?_;intro _ hw';obtain⟨⟨dq,osq⟩,hw''⟩:=hw';subst hw'';have BQ:=below_regrown w6 dq osq;generalize grow (redrawn w6 dq) osq=w7 at BQ ⊢;have BQ2:=zz BQ;clear BQ o0 o1 o2 o3 o4;have HB7:=zz (zab HB6.out BQ2.out HB6.out.size);clear z0 z1 z2 z3 v0 v2 K2;have cp:=zaa HB7.out HC5.out;have z0:w7.cell? ⟨pb,0,none⟩=some (.slice (some ⟨bt,ot,none⟩) nT ct):=cp.cell 0;have z1:w7.cell? ⟨pb,1,none⟩=some (.slice Ae nE ce):=cp.cell 1;have z2:w7.cell? ⟨pb,2,none⟩=some (.slice Af nF cf):=cp.cell 2;have z3:w7.cell? ⟨pb,3,none⟩=some (.slice Aa nA ca):=cp.cell 3;clear cp;have hP7:=HP5.out.below HB7.out;obtain⟨bt',ot',Ac1,cc1,e,v0,v2,rC⟩:=zov hP7.types HD0.out;injection e with e;injection e with e1 e2;subst e1 e2;clear hP7 rC;go_wp2_with fail;clear z0 z1 z2 z3 v0 v2 hc0
      go_loopw [15] (λs15 wr=>∃k:Nat,k≤d.ctors.length∧s15=.int .i64 k∧Hid (Below w5.heap.size w5 wr)) (λs15 _=>d.ctors.length-(intOf s15).toNat)
      case atStart=>exact⟨0,by omega,rfl,HB7⟩
      case round=>
       clear HB7 BQ1 BQ2 HB6;obtain⟨k,hk,rfl,HX⟩:=hrel;rename World=>wx;have cp:=zaa HX.out HC5.out;have z0:wx.cell? ⟨pb,0,none⟩=some (.slice (some ⟨bt,ot,none⟩) nT ct):=cp.cell 0;have z1:wx.cell? ⟨pb,1,none⟩=some (.slice Ae nE ce):=cp.cell 1;have z2:wx.cell? ⟨pb,2,none⟩=some (.slice Af nF cf):=cp.cell 2;have z3:wx.cell? ⟨pb,3,none⟩=some (.slice Aa nA ca):=cp.cell 3;clear cp;have hPx:=HP5.out.below HX.out;obtain⟨bt',ot',Ac2,cc2,e,v0,v2,rC⟩:=zov hPx.types HD0.out;injection e with e;injection e with e1 e2;subst e1 e2
       by_cases hlk:k<d.ctors.length
       ·have hkn:(k:Int)<d.ctors.length:=by omega
        have hx0:d.ctors[k]?=some d.ctors[k]:=List.getElem?_eq_getElem hlk;obtain⟨x,hxx⟩:∃x,d.ctors[k]=x:=⟨_,rfl⟩;rw[hxx] at hx0;obtain⟨bc,oc,e,v3⟩:=zsj rC hx0;subst e;have hct:=zmB HCL.out.ctn HD0.out hx0;have K3:Hid (∀dd os,Calls Tryz.prog 11 #[.agg #[.slice (some ⟨bt,ot,none⟩) nT ct,.slice Ae nE ce,.slice Af nF cf,.slice Aa nA ca],.string x.name] (grow (redrawn wx dd) os) λe w'=>e=.returned (.tuple #[.string d.name,.int .i64 (k:Int),.bool true])∧∃p:Regrown,w'=grow (redrawn wx p.d) p.os):=zz (λdd os=>Calls.regrown_of (by have t:=zqu (hPx.below (below_regrown wx dd os)) hct;exact t));clear hx0 hxx hct hPx rC;go_wp2_with fail;have o0:=λd os=>cell_regrown z0 d os;have o1:=λd os=>cell_regrown z1 d os;have o2:=λd os=>cell_regrown z2 d os;have o3:=λd os=>cell_regrown z3 d os;have o4:=λd os=>cell_regrown v0 d os;have o5:=λd os=>cell_regrown v2 d os;have o6:=λd os=>cell_regrown v3 d os;refine wp_region_quiet_below (by kernel_rfl) (by kernel_rfl) ?_
        repeat (go_big_quiet_step (first|with_reducible exact K3.out _ _))
        refine wpQuiet_nil ?_;intro _ hw';obtain⟨⟨dq,osq⟩,hw''⟩:=hw';subst hw'';have BQ:=below_regrown wx dq osq;generalize grow (redrawn wx dq) osq=w8 at BQ ⊢;have BQ3:=zz BQ;clear BQ o0 o1 o2 o3 o4 o5 o6;have HB8:=zz (zab HX.out BQ3.out HX.out.size);clear z0 z1 z2 z3 v0 v2 v3 K3;have cp:=zaa HB8.out HC5.out;have z0:w8.cell? ⟨pb,0,none⟩=some (.slice (some ⟨bt,ot,none⟩) nT ct):=cp.cell 0;have z1:w8.cell? ⟨pb,1,none⟩=some (.slice Ae nE ce):=cp.cell 1;have z2:w8.cell? ⟨pb,2,none⟩=some (.slice Af nF cf):=cp.cell 2;have z3:w8.cell? ⟨pb,3,none⟩=some (.slice Aa nA ca):=cp.cell 3;clear cp;have hP8:=HP5.out.below HB8.out;obtain⟨bt',ot',Ac3,cc3,e,v0,v2,rC⟩:=zov hP8.types HD0.out;injection e with e;injection e with e1 e2;subst e1 e2;clear hP8 rC;go_wp2_with fail;exact⟨⟨k+1,by omega,by go_num,HB8⟩,by simp[intOf];omega⟩
       ·clear hPx rC;go_wp2_with fail;exact⟨⟨i+1,by omega,by go_num,HX⟩,by simp[intOf];omega⟩
     ·go_wp2_with fail;clear z0 z1 z2 z3
      go_loopw [19] (λs19 wr=>∃i:Nat,i≤nA∧s19=.int .i64 i∧Hid (Below w5.heap.size w5 wr)) (λs19 _=>nA-(intOf s19).toNat)
      case atStart=>exact⟨0,by omega,rfl,HB⟩
      case round=>
       clear HB hi hlt;obtain⟨i,hi,rfl,HB⟩:=hrel;rename World=>wo;have cp:=zaa HB.out HC5.out;have z0:wo.cell? ⟨pb,0,none⟩=some (.slice At nT ct):=cp.cell 0;have z1:wo.cell? ⟨pb,1,none⟩=some (.slice Ae nE ce):=cp.cell 1;have z2:wo.cell? ⟨pb,2,none⟩=some (.slice Af nF cf):=cp.cell 2;have z3:wo.cell? ⟨pb,3,none⟩=some (.slice Aa nA ca):=cp.cell 3;clear cp;have hPo:=HP5.out.below HB.out
       by_cases hlt:i<nA
       ·have hin:(i:Int)<nA:=by omega
        have hd0:p.actors[i]?=some (p.actors[i]'(by have:=hPo.nA;dsimp only at this;omega)):=List.getElem?_eq_getElem _;obtain⟨d,hdd⟩:∃d,p.actors[i]'(by have:=hPo.nA;dsimp only at this;omega)=d:=⟨_,rfl⟩;rw[hdd] at hd0;obtain⟨bt,ot,Ac,cc,e,v0,v2⟩:=zrV hPo.actors hd0;dsimp only at e;subst e;have hfi:zcW (p.actors.map Actr.name) d.name=some i:=zgH _ i d.name HCL.out.acn (by rw[List.getElem?_map,hd0];rfl);have K1:Hid (∀dd os,Calls Tryz.prog 10 #[.agg #[.slice At nT ct,.slice Ae nE ce,.slice Af nF cf,.slice (some ⟨bt,ot,none⟩) nA ca],.string d.name] (grow (redrawn wo dd) os) λe w'=>e=.returned (.tuple #[.int .i64 (i:Int),.bool true])∧∃p:Regrown,w'=grow (redrawn wo p.d) p.os):=zz (λdd os=>Calls.regrown_of (by have t:=zko (hPo.below (below_regrown wo dd os)) hfi;exact t));clear hd0 hfi hdd hPo;go_wp2_with fail;have o0:=λd os=>cell_regrown z0 d os;have o1:=λd os=>cell_regrown z1 d os;have o2:=λd os=>cell_regrown z2 d os;have o3:=λd os=>cell_regrown z3 d os;have o4:=λd os=>cell_regrown v0 d os;refine wp_region_quiet_below (by kernel_rfl) (by kernel_rfl) ?_
        repeat (go_big_quiet_step (first|with_reducible exact K1.out _ _))
        refine wpQuiet_nil ?_;intro _ hw';obtain⟨⟨dq,osq⟩,hw''⟩:=hw';subst hw'';have BQ:=below_regrown wo dq osq;generalize grow (redrawn wo dq) osq=w6 at BQ ⊢;have BQ1:=zz BQ;clear BQ o0 o1 o2 o3 o4;have HB6:=zz (zab HB.out BQ1.out HB.out.size);clear z0 z1 z2 z3 v0 v2 K1;go_wp2_with fail;exact⟨⟨i+1,by omega,by go_num,HB6⟩,by simp[intOf];omega⟩
       ·obtain⟨j,a,hj,han,hap⟩:=HCL.out.root;have hfi:zcW (p.actors.map Actr.name) (⟨#[77,97,105,110]⟩:ByteArray)=some j:=zgH _ j _ HCL.out.acn (by rw[List.getElem?_map,hj,←han];rfl);have KA:=zz (zko hPo hfi);have hjn:j<nA:=by have:=hPo.nA;dsimp only at this;rw[this];exact(List.getElem?_eq_some_iff.1 hj).1
        have hjni:(j:Int)<nA:=by omega
        have HJ:=zz hj;have HAP:=zz hap;clear hfi hj han hap hPo;go_wp2_with fail;(with_reducible refine KA.out.mono ?_);rintro e w6 ⟨rfl,hb⟩;have HB6:=zz (zab HB.out hb HB.out.size);clear hb z0 z1 z2 z3 KA;have cp:=zaa HB6.out HC5.out;have z0:w6.cell? ⟨pb,0,none⟩=some (.slice At nT ct):=cp.cell 0;have z1:w6.cell? ⟨pb,1,none⟩=some (.slice Ae nE ce):=cp.cell 1;have z2:w6.cell? ⟨pb,2,none⟩=some (.slice Af nF cf):=cp.cell 2;have z3:w6.cell? ⟨pb,3,none⟩=some (.slice Aa nA ca):=cp.cell 3;clear cp;have hP6:=HP5.out.below HB6.out;obtain⟨ba,oa,Ap,cp',e,v0,v2⟩:=zrV hP6.actors HJ.out;dsimp only at e;subst e;rw[HAP.out] at v2;have v3:w6.cell? ⟨ba,oa+j*7+1,none⟩=some (.slice Ap 0 cp'):=v2;have KC:=zz (zlL ⟨At,nT,ct,Ae,nE,ce,Af,nF,cf,some ⟨ba,oa,none⟩,nA,ca⟩ p w6 HCL.out.closed HFIT.out hP6);clear v2 hP6;go_wp2_with fail;(with_reducible refine KC.out.mono ?_);rintro e w7 ⟨rfl,hb⟩;have HL7:=zz (zab (zab HL5.out HB6.out HL5.out.size) hb (Nat.le_trans HL5.out.size HB6.out.size));clear hb KC z0 z1 z2 z3 v0 v3;go_wp2_with fail;go_ret;exact⟨rfl,HL7.out⟩
   ·have hne:(ee == 0)=false:=by rw[beq_eq_false_iff_ne];exact h0
    have hz:=HBAD.out h0;subst hz;obtain rfl:nT=0:=HP5.out.nT;obtain rfl:nE=0:=HP5.out.nE;obtain rfl:nF=0:=HP5.out.nF;obtain rfl:nA=0:=HP5.out.nA;have z0:=HC5.out.cell 0;have z1:=HC5.out.cell 1;have z2:=HC5.out.cell 2;have z3:=HC5.out.cell 3;clear h0 HCLO HBAD hpb;go_wp2_with fail;go_ret;exact⟨rfl,HL5.out⟩
end Go.Proofs.YtjdpocmlimkjjaaGreat
set_option maxHeartbeats 32000000
set_option maxRecDepth 100000
namespace Go.Proofs.YtjdpocmlimkjjaaGreat.typesClosed
open Go.ChangeShapes Go.WideShapes Go.ChangeAt Go.RowKit
theorem own:ownKnob Tryz.prog.godebug=none:=by kernel_rfl
theorem zsl:laidOutB Tryz.prog=true:=by kernel_rfl
theorem zsm (os:Os) (started:os.Started) (H:Type) (enc:TypeId × Value→H) :
 ReturnsInHanded {} Tryz.checked os 3 .any (Rows.typesClosedSpec.pre6 enc Tryz.prog Tryz.f3 Rows.typesClosedRow.domain false) (Rows.typesClosedSpec.post enc Tryz.prog Tryz.f3 false true false false):=by
 refine returnsInHanded_of_change (C:=Tryz.checked) own started (by kernel_rfl) Tryz.func3
  (ChangeSpec.witness6 (enc:=enc) (C:=Tryz.checked) false ⟨#[],#[.string ⟨#[]⟩],[]⟩ 8 (by kernel_rfl) (by kernel_rfl) (by kernel_rfl) (by kernel_rfl)) ?_
 intro W base args ds gs before hval0 hW hcnd _;have hval:∀(j:Nat) t v,Tryz.f3.params[j]?=some t→args[j]?=some v→Value.okWide Tryz.prog W .any base t v:=hval0;have hW':=hW;obtain⟨p,q,hA0,hV,rfl,hfz,hnd⟩:=hW;have hA:DataW.TrodAll enc Tryz.prog W 0 (λ_=>true) true Tryz.f3.params.toList args.toList ds p:=hA0;rw[Tryz.params3] at hA hval;obtain⟨v0,vs0,d0,ds0,p0,q0,hargs,rfl,rfl,h0,r0⟩:=trodAll_cons hA;obtain⟨rfl,rfl,rfl⟩:=trodAll_nil r0;obtain rfl:args=#[v0]:=by cases args;simp_all
 obtain⟨rfl,rfl⟩:=trodVars_none hV;have k0:=h0;have lt0:∀x∈p0,x.block<W.heap.size:=by obtain⟨m,hm⟩:=k0;exact DataW.trod_lt m _ _ _ hm
 obtain⟨s0,rfl,rfl,rfl,hs0⟩:=Go.ChangeMaps.open_string Tryz.underlying9 (hval 0 9 v0 rfl rfl) h0;clear hA0 hval0;refine(zrz s0 W).mono λe W' ⟨he,bel⟩=>?_;subst he;exact⟨_,rfl,_,_,_,[],_,[],hW',trodAll_mk1 (shut_bool Tryz.underlying4 _),(trodAll_cons_mk (Below.trod zsl (by kernel_rfl) (of_decide_eq_true (by kernel_rfl)) k0 bel lt0) trodAll_mk0),rfl,bel.frame _,λh=>by cases h⟩
theorem over:Rows.typesClosedRow.holds Tryz.pinned (OpenSpec.ofChange Rows.typesClosedSpec):=
 OpenClaim.holds_of_wide 3 Tryz.f3 rfl rfl rfl rfl rfl rfl rfl ⟨rfl,rfl,rfl,rfl,rfl⟩ rfl rfl rfl rfl rfl (by kernel_rfl) Tryz.func3 (by kernel_rfl)
  (of_decide_eq_true (by kernel_rfl)) (by unfold Func.isWrapper;first|(rw[if_pos (by decide +kernel)];kernel_rfl)|(rw[if_neg (by decide +kernel)];exact⟨rfl,rfl⟩))
  (λos started H enc _=>zsm os started H enc)
theorem proved:Rows.TypesClosedSaid:=over
#print axioms proved
end Go.Proofs.YtjdpocmlimkjjaaGreat.typesClosed
