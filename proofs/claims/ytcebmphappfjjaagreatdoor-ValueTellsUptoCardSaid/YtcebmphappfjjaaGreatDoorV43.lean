/- Conditions: those in each statement. -/
import Derived.Test.YtcebmphappfjjaaGreatDoorV35
import Derived.Deep.DeepCutAuto
import Derived.Deep.CutRange
import Derived.Deep.CutBlock
import Derived.Test.YtcebmphappfjjaaGreatDoorV41
import Derived.Test.YtcebmphappfjjaaGreatDoorV33
import Derived.Test.YtcebmphappfjjaaGreatDoorV42
set_option maxHeartbeats 32000000
set_option maxRecDepth 100000
namespace Go.Proofs.YtcebmphappfjjaaGreatDoor
open Go.RowKit
def ScS (S:ByteArray) (j:Nat) (w:World) (b:Nat):Prop:=zab w b #[.string S,.int .i64 (j:Int)] 83/\j<=S.size/\S.size<=2097152
def Sc (S:ByteArray) (w:World) (b:Nat):Option (List UInt8)->Prop
 |some r=>∃j,(bl S).drop j=r/\ScS S j w b
 |none=>zab w b #[.string S,.int .i64 (-1)] 83/\S.size<=2097152
theorem Sc.chg {S:ByteArray} {w w':World} {b:Nat} {st:Option (List UInt8)} (h:Sc S w b st) {M:Nat->Prop} (hc:Chg M w w') (hm:¬M b):Sc S w' b st:=by
 cases st with
 |none=>exact⟨h.1.keep hc hm,h.2⟩
 |some r=>obtain⟨j,hr,h1,h2⟩:=h;exact⟨j,hr,h1.keep hc hm,h2⟩
theorem Sc.lt {S:ByteArray} {w:World} {b:Nat} {st:Option (List UInt8)} (h:Sc S w b st):b<w.heap.size:=by
 cases st with
 |none=>exact h.1.lt
 |some r=>obtain⟨j,hr,h1,h2⟩:=h;exact h1.lt
def SOne (S:ByteArray) (b:Nat) (w:World) (x:Value) (st:Option (List UInt8)) (e:Ending) (w':World):Prop:=e=.returned x/\Chg (λj=>j=b) w w'/\Sc S w' b st
def hasL (p:List UInt8):Option (List UInt8)->Option (List UInt8)
 |none=>none
 |some r=>pre p r
theorem zzF:∀{p l r:List UInt8},pre p l=some r->l=p++r
 |[],l,r,h=>by rw[pre] at h;cases h;rfl
 |a::p,[],r,h=>by cases h
 |a::p,c::l,r,h=>by
  rw[pre] at h
  split at h
  ·rename_i e;rw[e,List.cons_append,<-zzF h]
  ·cases h
theorem zDY {S p:ByteArray} {j:Nat} (hj:j+p.size<=S.size):(pre (bl p) ((bl S).drop j)).isSome=decide (S.extract j (j+p.size)=p):=by
 have hl:(bl p).length=p.size:=zai p;cases h:pre (bl p) ((bl S).drop j) with
 |some r=>
  have e:=zzF h;have h2:r=(bl S).drop (j+p.size):=by rw[<-List.drop_drop,e,<-hl,List.drop_left]
  rw[h2] at e;rw[zrb (TW:=bl p) zo hj e.symm,zuE];simp
 |none=>
  symm;refine decide_eq_false (λe=>?_)
  have e2:bl p=((bl S).drop j).take p.size:=by
   have:=congrArg bl e;rw[<-this]
   show (S.extract j (j+p.size)).data.toList=_
   rw[ByteArray.data_extract,Array.toList_extract,List.extract_eq_take_drop,Nat.add_sub_cancel_left]
  have e3:(bl S).drop j=bl p++(bl S).drop (j+p.size):=by rw[e2,<-List.drop_drop,List.take_append_drop]
  rw[e3,zmi] at h;cases h
theorem zBP (S p:ByteArray) (b:Nat) (w:World) (st:Option (List UInt8)) (hp:p.size<=100) (h:Sc S w b st) :
 Calls Tryz.prog 88 #[.pointer (some ⟨b,0,none⟩),↑p] w (SOne S b w (.bool (hasL (bl p) st).isSome) ((hasL (bl p) st).or st)):=by
 cases st with
 |none=>
  have c0:=λn=>(show zab (w.drewN n) b _ _ from h.1).cell 0;have c1:=λn=>(show zab (w.drewN n) b _ _ from h.1).cell 1;have HS:=zz h;clear h;go_in;go_wp2
  go_quiet (fail)
  go_wp2;go_ret;exact⟨rfl,(Chg.refl _ _).drewN _,HS.out⟩
 |some r=>
  obtain⟨j,hr,hv⟩:=h;have c0:∀n,(w.drewN n).cell? ⟨b,0,none⟩=some ↑S:=λn=>(show zab (w.drewN n) b _ _ from hv.1).cell 0;have c1:∀n,(w.drewN n).cell? ⟨b,1,none⟩=some (.int .i64 (j:Int)):=λn=>(show zab (w.drewN n) b _ _ from hv.1).cell 1;have hj:=hv.2.1;have hS:=hv.2.2;have hj0:¬(j:Int)<0:=zo
  have hd0:decide ((j:Int)<0)=false:=decide_eq_false hj0;have hw1:IntKind.i64.wrap ((S.size:Int)-j)=(S.size:Int)-j:=by rw[IntWalk.i64_in _ zo]
  have hpl:(bl p).length=p.size:=zai p
  by_cases hk:j+p.size<=S.size
  ·have hk':¬(S.size:Int)-j<p.size:=zo
   have hd1:decide ((S.size:Int)-j<p.size)=false:=decide_eq_false hk';have hw2:IntKind.i64.wrap ((j:Int)+p.size)=((j+p.size:Nat):Int):=by rw[IntWalk.i64_in _ zo];omega
   have he:=zDY (S:=S) (p:=p) (j:=j) hk;rw[hr] at he;cases ho:pre (bl p) r with
   |none=>
    rw[ho] at he;have hne:¬S.extract j (j+p.size)=p:=of_decide_eq_false he.symm;have hd2:((S.extract j (j+p.size)).toList == p.toList)=false:=beq_eq_false_iff_ne.2 (λe=>hne (zbX e));have HS:Hid (Sc S w b (some r)):=zz ⟨j,hr,hv⟩
    show Calls _ _ _ _ (SOne S b w (.bool (hasL (bl p) (some r)).isSome) ((hasL (bl p) (some r)).or (some r)))
    rw[show hasL (bl p) (some r)=none from ho];clear hr hv ho he hpl;go_in;go_wp2
    go_quiet (fail)
    go_wp2;go_ret;exact⟨rfl,(Chg.refl _ _).drewN _,HS.out⟩
   |some r'=>
    rw[ho] at he;have hne:S.extract j (j+p.size)=p:=of_decide_eq_true he.symm;have hd2:((S.extract j (j+p.size)).toList == p.toList)=true:=by rw[hne];exact beq_self_eq_true _
    have HR:Hid ((bl S).drop (j+p.size)=r'):=zz (by rw[<-List.drop_drop,hr,zzF ho,<-hpl,List.drop_left]);have HS:Hid (Sc S w b (some r)):=zz ⟨j,hr,hv⟩;have HV:=zz hv;have z1:∀n,(w.drewN n).frozen? ⟨b,1,none⟩=false:=λn=>(show zab (w.drewN n) b _ _ from hv.1).fz 1
    show Calls _ _ _ _ (SOne S b w (.bool (hasL (bl p) (some r)).isSome) ((hasL (bl p) (some r)).or (some r)))
    rw[show hasL (bl p) (some r)=some r' from ho];clear hr hv ho he hpl;go_in;go_wp2
    go_quiet (fail)
    go_wp2;go_ret;exact⟨rfl,((Chg.refl (λj=>j=b) w).drewN _).setCell (p:=⟨b,1,none⟩) (.inl rfl) _,_,HR.out,by simpa using zab.set (show zab (w.drewN _) b _ _ from HV.out.1) 1 (.int .i64 ((j+p.size:Nat):Int)),hk,hS⟩
  ·have hk':(S.size:Int)-j<p.size:=zo
   have hd1:decide ((S.size:Int)-j<p.size)=true:=decide_eq_true hk'
   have ho:pre (bl p) r=none:=by
    cases ho:pre (bl p) r with
    |none=>rfl
    |some r'=>
     have:=congrArg List.length (zzF ho);rw[<-hr,zpH,List.length_append] at this;omega
   have HS:Hid (Sc S w b (some r)):=zz ⟨j,hr,hv⟩
   show Calls _ _ _ _ (SOne S b w (.bool (hasL (bl p) (some r)).isSome) ((hasL (bl p) (some r)).or (some r)))
   rw[show hasL (bl p) (some r)=none from ho];clear hr hv ho hpl;go_in;go_wp2
   go_quiet (fail)
   go_wp2;go_ret;exact⟨rfl,(Chg.refl _ _).drewN _,HS.out⟩
def whB (word:Bool) (set:List UInt8) (c:UInt8):Bool:=(word&&((97<=c&&c<=122) || upB c || c == 95)) || digB c || set.any (· == c)
def whL (p:UInt8->Bool):Option (List UInt8)->List UInt8 × Option (List UInt8)
 |none=>([],none)
 |some r=>(r.takeWhile p,some (r.dropWhile p))
def zBu (w:World) (b:Nat):Nat:=match w.cell? ⟨b,1,none⟩ with|some (.int _ n)=>n.toNat|_=>0
theorem ScS.next {S:ByteArray} {i:Nat} {w:World} {b:Nat} (h:ScS S i w b):zBu w b=i:=by unfold zBu;rw[h.1.cell 1];rfl
theorem ScS.set1 {S:ByteArray} {i:Nat} {w:World} {b:Nat} (h:ScS S i w b) (j:Nat) (hj:j<=S.size):ScS S j (w.setCell ⟨b,1,none⟩ (.int .i64 (j:Int))) b:=by
 obtain⟨h1,_,h3⟩:=h;exact⟨by simpa using h1.set 1 (.int .i64 (j:Int)),hj,h3⟩
theorem zEs (word:Bool) (c:UInt8):whB word [] c=((word&&decide (97<=(c.toNat:Int)/\(c.toNat:Int)<=122\/65<=(c.toNat:Int)/\(c.toNat:Int)<=90\/(c.toNat:Int)=95)) || decide (48<=(c.toNat:Int)/\(c.toNat:Int)<=57)):=by
 unfold whB upB;rw[zsY,List.any_nil,Bool.or_false]
 congr 2
 rw[Bool.eq_iff_iff];simp only[Bool.and_eq_true,Bool.or_eq_true,decide_eq_true_eq,UInt8.le_iff_toNat_le,beq_iff_eq,<-UInt8.toNat_inj]
 show (97<=c.toNat/\c.toNat<=122\/65<=c.toNat/\c.toNat<=90)\/c.toNat=95↔_
 omega
theorem zEa (word:Bool) (set:List UInt8) (c:UInt8):whB word set c=(whB word [] c || set.any (· == c)):=by
 unfold whB;rw[List.any_nil,Bool.or_false]
theorem zCs (S set:ByteArray) (word:Bool) (b:Nat) (w:World) (st:Option (List UInt8)) (hset:set.size<=100) (h:Sc S w b st) :
 Calls Tryz.prog 91 #[.pointer (some ⟨b,0,none⟩),↑set,↑word] w (SOne S b w (.string (lb (whL (whB word (bl set)) st).1)) (whL (whB word (bl set)) st).2):=by
 cases st with
 |none=>
  have c0:=λn=>(show zab (w.drewN n) b _ _ from h.1).cell 0;have c1:=λn=>(show zab (w.drewN n) b _ _ from h.1).cell 1;have c1':=h.1.cell 1;have HS:=zz h;clear h;go_in;go_wp2;clear c1'
  go_loopw [] (λwr=>Hid (Chg (λj=>j=b) w wr)/\Hid (Sc S wr b none)) (λ_=>0)
  case atStart=>exact⟨zz (Chg.refl _ _),HS⟩
  case round=>
   obtain⟨HC,HV⟩:=hrel;have c0:=λn=>(show zab (wr.drewN n) b _ _ from HV.out.1).cell 0;have c1:=λn=>(show zab (wr.drewN n) b _ _ from HV.out.1).cell 1;go_wp2
   go_quiet (fail)
   go_wp2;go_ret;exact⟨rfl,HC.out.drewN _,HV.out⟩
 |some r=>
  obtain⟨i0,hr,hv⟩:=h;obtain⟨p,hp⟩:=zn (whB word (bl set));obtain⟨wf,hwf⟩:=zn (whB word []);have HP:Hid (∀c,p c=(wf c || (bl set).any (· == c))):=zz (λc=>by rw[<-hp,<-hwf];exact zEa _ _ _);have HWE:=zz (zEs word);rw[hwf] at HWE;rw[hp];have c0:=hv.1.cell 0;have c1:=hv.1.cell 1;have HV0:=zz hv;have hi0:=hv.2.1;have hS:=hv.2.2;have hw0:r.takeWhile p++r.dropWhile p=(bl S).drop i0:=by rw[List.takeWhile_append_dropWhile,hr]
  obtain⟨R,hR⟩:=zn (r.dropWhile p);have HR:Hid (((bl S).drop i0).dropWhile p=R):=zz (by rw[hr];exact hR);have HW:Hid (r.takeWhile p++R=(bl S).drop i0):=zz (by rw[<-hR];exact hw0)
  show Calls _ _ _ _ (SOne S b w (.string (lb (r.takeWhile p))) (some (r.dropWhile p)))
  rw[hR];generalize r.takeWhile p=TW at *
  clear hv hr hR hw0 hp hwf;cases word
  all_goals
   go_in;go_wp2;clear c0 c1
   go_loopw [] (λwr=>∃i:Nat,i0<=i/\i<=S.size/\Hid (((bl S).drop i).dropWhile p=R)/\Hid (ScS S i wr b)/\Hid (Chg (λj=>j=b) w wr)) (λwr=>S.size-zBu wr b)
   case atStart=>exact⟨i0,Nat.le_refl _,hi0,HR,HV0,zz (Chg.refl _ _)⟩
   case round=>
    obtain⟨i,hii,hi,HA,HV,HC⟩:=hrel;have c0:∀n,(wr.drewN n).cell? ⟨b,0,none⟩=some ↑S:=λn=>(show zab (wr.drewN n) b _ _ from HV.out.1).cell 0;have c1:∀n,(wr.drewN n).cell? ⟨b,1,none⟩=some (.int .i64 (i:Int)):=λn=>(show zab (wr.drewN n) b _ _ from HV.out.1).cell 1;have hg0:decide (0<=(i:Int))=true:=decide_eq_true zo;have hij:(i0:Int)<=(i:Int):=zo
    by_cases hlt:i<S.size
    ·have hlti:(i:Int)<(S.size:Int):=zo
     have hlt':decide ((i:Int)<(S.size:Int))=true:=decide_eq_true hlti;obtain⟨c,hd,hbt⟩:=zed S i hlt;have HJ:∀W,_:=zaP S i hlt;rw[hbt] at HJ;have HD:Hid ((bl S).drop i=c::(bl S).drop (i+1)):=zz hd;have hx256:=c.toNat_lt;have HE:=zz (HWE.out c);obtain⟨ok0,hok0⟩:=zn (wf c);have HPC:=HP.out c;rw[hok0] at HE HPC;have HPC:=zz HPC;obtain⟨x,hx⟩:∃x:Int,(c.toNat:Int)=x:=⟨_,rfl⟩;rw[hx] at HJ HE;have HX:=zz hx;have HMM:=zz HV.out.next;clear hd hbt hok0 hx hx256;go_wp2
     go_quiet (fail)
     obtain⟨w2,hw2⟩:=zn (wr.drewN nq);have HV2:=zz (show ScS S i (wr.drewN nq) b from HV.out);have HC2:=zz (HC.out.drewN nq);rw[hw2] at HV2 HC2;rw[hw2];clear c0 c1 HV HC hw2;have c0:∀n,(w2.drewN n).cell? ⟨b,0,none⟩=some ↑S:=λn=>(show zab (w2.drewN n) b _ _ from HV2.out.1).cell 0;have c1:∀n,(w2.drewN n).cell? ⟨b,1,none⟩=some (.int .i64 (i:Int)):=λn=>(show zab (w2.drewN n) b _ _ from HV2.out.1).cell 1;go_wp2
     go_quiet (fail)
     obtain⟨w3,hw3⟩:=zn (w2.drewN nq);have HV:=zz (show ScS S i (w2.drewN nq) b from HV2.out);have HC:=zz (HC2.out.drewN nq);rw[hw3] at HV HC;rw[hw3];clear c0 c1 HV2 HC2 hw3
     go_upto_region 4 with fail
     go_cut [9] from 15 to 102 (λs9 wx=>s9=↑ok0/\wx=w3)
     case first=>
      cases hq:(x == 95)
      all_goals go_wp2
      all_goals (go_meet;refine⟨?_,rfl⟩;rw[HE.out])
      all_goals refine congrArg Value.bool ?_
      all_goals rw[Bool.eq_iff_iff]
      all_goals (first|have hq:=beq_iff_eq.1 hq|have hq:=beq_eq_false_iff_ne.1 hq)
      all_goals simp
      all_goals omega
     case rest=>
      obtain⟨rfl,rfl⟩:=hcut;clear HE HWE HJ hlti hlt';have HL0:Hid ((ok0 || ((bl set).drop 0).any (· == c))=p c):=zz (by rw[HPC.out];rfl);go_wp2;rename World=>wo
      go_loopw [9,10] (λs9 s10 wx=>∃(k:Nat) (ok:Bool),k<=set.size/\s10=↑k/\s9=↑ok/\Hid ((ok || ((bl set).drop k).any (· == c))=p c)/\wo=wx) (λ_ s10 _=>set.size-(intOf s10).toNat)
      case atStart=>exact⟨0,ok0,zo,rfl,rfl,HL0,rfl⟩
      case round=>
       obtain⟨k,ok,hk,rfl,rfl,HL,rfl⟩:=hrel;clear HL0
       by_cases hlk:k<set.size
       ·have hlki:(k:Int)<(set.size:Int):=zo
        obtain⟨d,hdd,hdt⟩:=zed set k hlk;have HJ2:∀W,_:=zaP set k hlk;rw[hdt] at HJ2;have q:=HL.out;rw[show (bl set).drop k=d::(bl set).drop (k+1) from hdd,List.any_cons,<-Bool.or_assoc,show (d == c)=((d.toNat:Int) == x) by rw[<-HX.out,Bool.eq_iff_iff,beq_iff_eq,beq_iff_eq,<-UInt8.toNat_inj];omega] at q;obtain⟨y,hy⟩:∃y:Int,(d.toNat:Int)=y:=⟨_,rfl⟩;rw[hy] at HJ2 q;have HL2:=zz q;clear q hdd hdt hy HL;cases ok with
        |true=>
         go_wp2;exact⟨⟨k+1,true,zo,by go_num,rfl,HL2,by trivial⟩,by simp[intOf];omega⟩
        |false=>
         go_wp2;exact⟨⟨k+1,_,zo,by go_num,rfl,HL2,by trivial⟩,by simp[intOf];omega⟩
       ·obtain rfl:k=set.size:=zo
        have q:=HL.out;rw[List.drop_eq_nil_of_le (by have:(bl set).length=set.size:=zai set;omega),List.any_nil,Bool.or_false] at q;clear HL;have HQ:=zz q;clear q;have c0:∀n,(wo.drewN n).cell? ⟨b,0,none⟩=some ↑S:=λn=>(show zab (wo.drewN n) b _ _ from HV.out.1).cell 0;have c1:∀n,(wo.drewN n).cell? ⟨b,1,none⟩=some (.int .i64 (i:Int)):=λn=>(show zab (wo.drewN n) b _ _ from HV.out.1).cell 1;have z1:∀n,(wo.drewN n).frozen? ⟨b,1,none⟩=false:=λn=>(show zab (wo.drewN n) b _ _ from HV.out.1).fz 1;cases ok with
        |true=>
         have HA2:Hid (((bl S).drop (i+1)).dropWhile p=R):=zz (by rw[<-HA.out];exact(zro HD.out HQ.out.symm).1.symm);have hwr:IntKind.i64.wrap ((i:Int)+1)=((i+1:Nat):Int):=by rw[IntWalk.i64_in _ zo];omega
         have c1':wo.cell? ⟨b,1,none⟩=some (.int .i64 (i:Int)):=c1 0;have z1':wo.frozen? ⟨b,1,none⟩=false:=z1 0;have HV2:=zz (HV.out.set1 (i+1) zo);have HC2:=zz (HC.out.setCell (p:=⟨b,1,none⟩) (.inl rfl) (.int .i64 ((i+1:Nat):Int)));have HM2:Hid (zBu (wo.setCell ⟨b,1,none⟩ (.int .i64 ((i:Int)+1))) b=i+1):=zz HV2.out.next;go_wp2;exact⟨⟨i+1,zo,zo,HA2,HV2,HC2⟩,by have:=HM2.out;have:=HMM.out;omega⟩
        |false=>
         have HRi:Hid ((bl S).drop i=R):=zz (by rw[<-HA.out,HD.out];simp[<-HQ.out]);have HX2:Hid (S.extract i0 i=lb TW):=zz (zrb hii hi (by rw[HRi.out];exact HW.out));go_wp2
         go_quiet (fail)
         go_wp2;go_ret;exact⟨by rw[<-HX2.out];rfl,HC.out.drewN _,i,HRi.out,HV.out⟩
    ·have hn:((bl S).drop i)=[]:=List.drop_eq_nil_of_le (by have:(bl S).length=S.size:=zai S;omega);have HRi:Hid ((bl S).drop i=R):=zz (by rw[<-HA.out,hn];rfl);have HX:Hid (S.extract i0 i=lb TW):=zz (zrb hii hi (by rw[HRi.out];exact HW.out));have hlti:¬(i:Int)<(S.size:Int):=zo
     have hlt':decide ((i:Int)<(S.size:Int))=false:=decide_eq_false hlti;have hi00:¬(i0:Int)<0:=zo
     clear hn HA HWE;go_wp2
     go_quiet (fail)
     obtain⟨w2,hw2⟩:=zn (wr.drewN nq);have HV2:=zz (show ScS S i (wr.drewN nq) b from HV.out);have HC2:=zz (HC.out.drewN nq);rw[hw2] at HV2 HC2;rw[hw2];clear c0 c1 hw2 HV HC;have c0:∀n,(w2.drewN n).cell? ⟨b,0,none⟩=some ↑S:=λn=>(show zab (w2.drewN n) b _ _ from HV2.out.1).cell 0;have c1:∀n,(w2.drewN n).cell? ⟨b,1,none⟩=some (.int .i64 (i:Int)):=λn=>(show zab (w2.drewN n) b _ _ from HV2.out.1).cell 1;go_wp2
     go_quiet (fail)
     go_wp2;go_ret;exact⟨by rw[<-HX.out];rfl,HC2.out.drewN _,i,HRi.out,HV2.out⟩
def rqL:List UInt8->Option (List UInt8 × List UInt8)
 |[]=>none
 |[c]=>if c=34 then some ([],[]) else none
 |c::d::r=>if c=34 then some ([],d::r) else if c=92 then (if d=110\/d=116\/d=34\/d=92 then (rqL r).map (λp=>(zho d::p.1,p.2)) else none) else (rqL (d::r)).map (λp=>(c::p.1,p.2))
theorem rq_q (r:List UInt8):rqL (34::r)=some ([],r):=by
 cases r<;>rw[rqL,if_pos rfl]
theorem rq_c (c:UInt8) (r:List UInt8) (h1:c≠34) (h2:c≠92):rqL (c::r)=(rqL r).map (λp=>(c::p.1,p.2)):=by
 cases r with
 |nil=>simp[rqL,h1]
 |cons d r=>rw[rqL,if_neg h1,if_neg h2]
theorem rq_e (a e:UInt8) (he:zho a=e) (ha:a=110\/a=116\/a=34\/a=92) (r1 r2:List UInt8) (h:pre [a] r1=some r2):rqL (92::r1)=(rqL r2).map (λp=>(e::p.1,p.2)):=by
 obtain rfl:r1=a::r2:=zzF h;rw[rqL,if_neg zd,if_pos rfl,if_pos ha,he]
theorem zBt {a d:UInt8} {r:List UInt8} (h:pre [a] (d::r)=none):d≠a:=by
 intro e;rw[pre,if_pos e.symm,pre] at h;cases h
theorem rq_n (r1:List UInt8) (h1:pre [110] r1=none) (h2:pre [116] r1=none) (h3:pre [34] r1=none) (h4:pre [92] r1=none):rqL (92::r1)=none:=by
 cases r1 with
 |nil=>rfl
 |cons d r=>
  rw[rqL,if_neg zd,if_pos rfl,if_neg (λh=>by
   rcases h with h|h|h|h
   ·exact zBt h1 h
   ·exact zBt h2 h
   ·exact zBt h3 h
   ·exact zBt h4 h)]
structure TQ (b:Nat) (S:ByteArray) (w W:World) (st:Option (List UInt8)) (v:Value) (acc:List UInt8):Prop where
 own:Chg (λj=>j=b) w W
 at':Sc S W b st
 row:W.ownsRow w.heap.size 5 1 v acc.length (Lib.byteCells acc)
 lt:b<w.heap.size
section
variable {b:Nat} {S:ByteArray} {w W W':World} {st st':Option (List UInt8)} {v v':Value} {acc acc':List UInt8}
theorem TQ.move (h:TQ b S w W st v acc) (hc:Chg (λj=>j=b) W W') (hs:Sc S W' b st'):TQ b S w W' st' v acc:=by
 refine⟨h.own.next hc,hs,?_,h.lt⟩;have hl:=h.lt;refine h.row.kept (row:=some b) ⟨hc.os,hc.tape,hc.output,hc.size,λk hk hn=>hc.block k hk (λe=>hn (congrArg some e))⟩ ?_;rcases h.row.2 with ⟨rfl,_⟩|⟨g',cap,cur,rfl,hb,_⟩
 ·exact .inl rfl
 ·exact .inr (λe=>by
   have:g'=b:=Option.some.inj e;omega)
theorem TQ.drewN (h:TQ b S w W st v acc) (n:Nat):TQ b S w (W.drewN n) st v acc:=h.move ((Chg.refl _ _).drewN n) (by cases st<;>exact h.at')
theorem TQ.app (h:TQ b S w W st v acc) (o:Obj) (hown:RowB w.heap.size W' v' acc') (hg:(W.alloc o).grownBy W' v.ownBlock):TQ b S w W' st v' acc':=by
 have hsz:=h.own.size;have ha:=zag W o;have hX:=zqQ h.row ha
 have hch:Chg (λk=>w.heap.size<=k) W W':=(Chg.of_below (M:=λk=>w.heap.size<=k) ha).next (Chg.of_grown hg (λk hk=>by
  have:=(hX.lt k hk).1;exact this))
 exact⟨h.own.trans hch (λj hj=>.inr hj),h.at'.chg hch (by have:=h.lt;omega),hown,h.lt⟩
end
def scMs (S:ByteArray) (w:World) (b:Nat):Nat:=match w.cell? ⟨b,1,none⟩ with|some (.int _ n)=>if n<0 then 0 else S.size-n.toNat+1|_=>0
theorem Sc.ms {S:ByteArray} {w:World} {b:Nat} {r:List UInt8} (h:Sc S w b (some r)):scMs S w b=r.length+1:=by
 obtain⟨j,hr,h1,h2,h3⟩:=h;unfold scMs;rw[h1.cell 1,<-hr,zpH]
 show (if (j:Int)<0 then 0 else S.size-(j:Int).toNat+1)=_
 rw[if_neg zo,Int.toNat_natCast]
theorem Sc.ms0 {S:ByteArray} {w:World} {b:Nat} (h:Sc S w b none):scMs S w b=0:=by
 unfold scMs;rw[h.1.cell 1]
 rfl
theorem Sc.err {S:ByteArray} {w:World} {b:Nat} {st:Option (List UInt8)} (h:Sc S w b st):Sc S (w.setCell ⟨b,1,none⟩ (.int .i64 (-1))) b none:=by
 cases st with
 |none=>exact⟨by simpa using h.1.set 1 (.int .i64 (-1)),h.2⟩
 |some r=>obtain⟨j,hr,h1,h2⟩:=h;exact⟨by simpa using h1.set 1 (.int .i64 (-1)),h2.2⟩
theorem Sc.cells {S:ByteArray} {w:World} {b:Nat} {st:Option (List UInt8)} (h:Sc S w b st):∃i:Int,zab w b #[↑S,.int .i64 i] 83:=by
 cases st with
 |none=>exact⟨-1,h.1⟩
 |some r=>obtain⟨j,hr,h1,h2⟩:=h;exact⟨j,h1⟩
theorem zBT (S:ByteArray) (b:Nat) (w:World) (r:List UInt8) (h:Sc S w b (some r)) :
 Calls Tryz.prog 89 #[.pointer (some ⟨b,0,none⟩)] w (SOne S b w (.string (lb (((rqL r).map Prod.fst).getD []))) ((rqL r).map Prod.snd)):=by
 obtain⟨O,hO⟩:=zn (rqL r);have HO:Hid ((rqL r).map (λp=>([]++p.1,p.2))=O):=zz (by rw[hO];cases O<;>rfl);have T0:Hid (TQ b S w w (some r) (.slice none 0 0) []):=zz ⟨Chg.refl _ _,h,World.ownsRow_nil _ _ _ _,h.lt⟩;have KA:=zz (λp W st (hp:p.size<=100) h=>zBP S p b W st hp h);have hrl:r.length<=2097152:=by obtain⟨j,hr,h1,h2,h3⟩:=h;rw[<-hr,zpH];omega
 rw[hO];clear h hO;go_in;go_wp2
 go_loopw [3] (λs3 wr=>∃(st:Option (List UInt8)) (acc:List UInt8),acc.length+(st.getD []).length<=2097152/\Hid ((st.bind rqL).map (λp=>(acc++p.1,p.2))=O)/\Hid (TQ b S w wr st s3 acc)) (λ_ wr=>scMs S wr b)
 case atStart=>exact⟨some r,[],by simpa using hrl,HO,T0⟩
 case round=>
  clear HO T0;obtain⟨st,acc,hal,HO,HT⟩:=hrel;cases st with
  |none=>
   have hcs:=HT.out.at'.1;have c0:∀n,(wr.drewN n).cell? ⟨b,0,none⟩=some ↑S:=λn=>(show zab (wr.drewN n) b _ _ from hcs).cell 0;have c1:∀n,(wr.drewN n).cell? ⟨b,1,none⟩=some (.int .i64 (-1)):=λn=>(show zab (wr.drewN n) b _ _ from hcs).cell 1;have z1:∀n,(wr.drewN n).frozen? ⟨b,1,none⟩=false:=λn=>(show zab (wr.drewN n) b _ _ from hcs).fz 1;have HN:Hid (O=none):=zz HO.out.symm;clear hcs;go_wp2
   go_quiet (fail)
   go_wp2;go_ret;exact⟨by rw[HN.out];rfl,(HT.out.own.drewN _).setCell (p:=⟨b,1,none⟩) (.inl rfl) _,by rw[HN.out];exact(show Sc S (wr.drewN _) b none from HT.out.at').err⟩
  |some r0=>
   have hms:=HT.out.at'.ms;obtain⟨i,hr,hcs,hi,hS⟩:=HT.out.at';have c0:∀n,(wr.drewN n).cell? ⟨b,0,none⟩=some ↑S:=λn=>(show zab (wr.drewN n) b _ _ from hcs).cell 0;have c1:∀n,(wr.drewN n).cell? ⟨b,1,none⟩=some (.int .i64 (i:Int)):=λn=>(show zab (wr.drewN n) b _ _ from hcs).cell 1;have hg0:decide (0<=(i:Int))=true:=decide_eq_true zo;have HMM:=zz hms
   by_cases hlt:i<S.size
   ·have hlti:(i:Int)<(S.size:Int):=zo
    have hlt':decide ((i:Int)<(S.size:Int))=true:=decide_eq_true hlti;obtain⟨c,hd,hbt⟩:=zed S i hlt;have HJ:∀W,_:=zaP S i hlt;rw[hbt] at HJ;have hd:(bl S).drop i=c::(bl S).drop (i+1):=hd;have hq:(rqL r0).map (λp=>(acc++p.1,p.2))=O:=HO.out;rw[<-hr,hd] at hq;have hrl2:r0.length=((bl S).drop (i+1)).length+1:=by rw[<-hr,hd,List.length_cons]
    have ht0:TQ b S w wr (some r0) u3 acc:=HT.out;have HV0:Hid (ScS S i wr b):=zz ⟨hcs,hi,hS⟩;obtain⟨r1,hr1⟩:=zn ((bl S).drop (i+1));rw[hr1] at hq hrl2;have HQ:=zz hq;have HR1:=zz hr1;have hal:acc.length+(r0.length)<=2097152:=hal;clear hcs hi hq hd hr hms HT HO hr1 hbt;go_wp2
    go_quiet (fail)
    obtain⟨w2,hw2⟩:=zn (wr.drewN nq);have ht2:=ht0.drewN nq;have HV2:=zz (show ScS S i (wr.drewN nq) b from HV0.out);rw[hw2] at ht2 HV2;rw[hw2];clear c0 c1 HV0 hw2 ht0;have c0:∀n,(w2.drewN n).cell? ⟨b,0,none⟩=some ↑S:=λn=>(show zab (w2.drewN n) b _ _ from HV2.out.1).cell 0;have c1:∀n,(w2.drewN n).cell? ⟨b,1,none⟩=some (.int .i64 (i:Int)):=λn=>(show zab (w2.drewN n) b _ _ from HV2.out.1).cell 1;obtain⟨x,hx⟩:∃x:Int,(c.toNat:Int)=x:=⟨_,rfl⟩;rw[hx] at HJ;have HT2:=zz ht2;clear ht2 hlt';go_wp2
    go_quiet (fail)
    obtain⟨w3,hw3⟩:=zn (w2.drewN nq);have ht3:=HT2.out.drewN nq;have hv3:=(show ScS S i (w2.drewN nq) b from HV2.out);rw[hw3] at ht3 hv3;rw[hw3];have d1:=hv3.1.a 1 rfl;have z1:=hv3.1.fz 1;have hwr:IntKind.i64.wrap ((i:Int)+1)=((i+1:Nat):Int):=by rw[IntWalk.i64_in _ zo];omega
    have ht4:TQ b S w (w3.setCell ⟨b,1,none⟩ (.int .i64 ((i:Int)+1))) (some r1) u3 acc:=ht3.move ((Chg.refl (λj=>j=b) w3).setCell (p:=⟨b,1,none⟩) (.inl rfl) _) ⟨i+1,HR1.out,hv3.set1 (i+1) hlt⟩;obtain⟨w4,hw4⟩:∃W,w3.setCell ⟨b,1,none⟩ (.int .i64 ((i:Int)+1))=W:=⟨_,rfl⟩;rw[hw4] at ht4;have HT4:=zz ht4;have hc0:=c.toNat_lt;have hac:acc.length<=4294967296:=zo
    clear hw3 c0 c1 ht3 hv3 ht4 HT2 HV2 HJ hlti hg0
    by_cases h34:x=34
    ·obtain rfl:c=34:=UInt8.toNat_inj.1 (by show c.toNat=34;omega);have HN:Hid (O=some (acc,r1)):=zz (by rw[<-HQ.out,rq_q];simp);have hcv:=OwnB.conv (w0:=w4) ⟨HT4.out.row,Below.refl _ _,HT4.out.own.size⟩;go_wp2;go_ret;exact⟨by rw[HN.out];rfl,HT4.out.own,by rw[HN.out];exact HT4.out.at'⟩
    ·have hc34:c≠34:=λe=>h34 (by rw[<-hx,e];rfl)
     by_cases h92:x=92
     ·obtain rfl:c=92:=UInt8.toNat_inj.1 (by show c.toNat=92;omega);have K0:=KA.out ⟨#[110]⟩ w4 (some r1) zd HT4.out.at';rw[show hasL (bl ⟨#[110]⟩) (some r1)=pre [110] r1 from rfl] at K0;cases p0:pre [110] r1 with
      |some r2=>
       rw[p0] at K0;have K0:=zz K0;have HO2:Hid (((some r2).bind rqL).map (λp=>((acc++[10])++p.1,p.2))=O):=zz (by rw[<-HQ.out,rq_e 110 10 rfl zd r1 r2 p0];show (rqL r2).map _=_;cases rqL r2<;>simp);have hlr:r1.length=r2.length+1:=by rw[zzF p0,List.length_append,List.length_singleton,Nat.add_comm]
       clear p0;go_wp2_with fail;refine K0.out.mono ?_;rintro e w5 ⟨rfl,hc,hs⟩;have HT8:=zz (HT4.out.move hc hs);clear hc hs;go_wp2_with (at_builtin;refine zzy rfl _ _ rfl w.heap.size ?c1 u3 acc rfl ?c2 w5.heap.size 0 1 10 rfl ?c3 ?c4 ?_)
       case c1=>exact Nat.le_trans HT8.out.own.size (zag _ _).size
       case c2=>exact zqQ HT8.out.row (zag _ _)
       case c3=>rw[zbG];rfl
       case c4=>exact hac
       intro v' w' h1 h2;have HT9:=zz (HT8.out.app _ h1 h2);clear h1 h2;go_wp2;exact⟨⟨some r2,acc++[10],by simp;omega,HO2,HT9⟩,by have h1:=HT9.out.at'.ms;have h2:=HMM.out;omega⟩
      |none=>
       rw[p0] at K0;have K0:=zz K0;go_wp2_with fail;refine K0.out.mono ?_;rintro e w5 ⟨rfl,hc,hs⟩;have HT5:=zz (HT4.out.move hc hs);clear hc hs;have K1:=KA.out ⟨#[116]⟩ w5 (some r1) zd HT5.out.at';rw[show hasL (bl ⟨#[116]⟩) (some r1)=pre [116] r1 from rfl] at K1;cases p1:pre [116] r1 with
       |some r2=>
        rw[p1] at K1;have K1:=zz K1;have HO2:Hid (((some r2).bind rqL).map (λp=>((acc++[9])++p.1,p.2))=O):=zz (by rw[<-HQ.out,rq_e 116 9 rfl zd r1 r2 p1];show (rqL r2).map _=_;cases rqL r2<;>simp);have hlr:r1.length=r2.length+1:=by rw[zzF p1,List.length_append,List.length_singleton,Nat.add_comm]
        clear p1;go_wp2_with fail;refine K1.out.mono ?_;rintro e w6 ⟨rfl,hc,hs⟩;have HT8:=zz (HT5.out.move hc hs);clear hc hs;go_wp2_with (at_builtin;refine zzy rfl _ _ rfl w.heap.size ?c1 u3 acc rfl ?c2 w6.heap.size 0 1 9 rfl ?c3 ?c4 ?_)
        case c1=>exact Nat.le_trans HT8.out.own.size (zag _ _).size
        case c2=>exact zqQ HT8.out.row (zag _ _)
        case c3=>rw[zbG];rfl
        case c4=>exact hac
        intro v' w' h1 h2;have HT9:=zz (HT8.out.app _ h1 h2);clear h1 h2;go_wp2;exact⟨⟨some r2,acc++[9],by simp;omega,HO2,HT9⟩,by have h1:=HT9.out.at'.ms;have h2:=HMM.out;omega⟩
       |none=>
        rw[p1] at K1;have K1:=zz K1;go_wp2_with fail;refine K1.out.mono ?_;rintro e w6 ⟨rfl,hc,hs⟩;have HT6:=zz (HT5.out.move hc hs);clear hc hs;have K2:=KA.out ⟨#[34]⟩ w6 (some r1) zd HT6.out.at';rw[show hasL (bl ⟨#[34]⟩) (some r1)=pre [34] r1 from rfl] at K2;cases p2:pre [34] r1 with
        |some r2=>
         rw[p2] at K2;have K2:=zz K2;have HO2:Hid (((some r2).bind rqL).map (λp=>((acc++[34])++p.1,p.2))=O):=zz (by rw[<-HQ.out,rq_e 34 34 rfl zd r1 r2 p2];show (rqL r2).map _=_;cases rqL r2<;>simp);have hlr:r1.length=r2.length+1:=by rw[zzF p2,List.length_append,List.length_singleton,Nat.add_comm]
         clear p2;go_wp2_with fail;refine K2.out.mono ?_;rintro e w7 ⟨rfl,hc,hs⟩;have HT8:=zz (HT6.out.move hc hs);clear hc hs;go_wp2_with (at_builtin;refine zzy rfl _ _ rfl w.heap.size ?c1 u3 acc rfl ?c2 w7.heap.size 0 1 34 rfl ?c3 ?c4 ?_)
         case c1=>exact Nat.le_trans HT8.out.own.size (zag _ _).size
         case c2=>exact zqQ HT8.out.row (zag _ _)
         case c3=>rw[zbG];rfl
         case c4=>exact hac
         intro v' w' h1 h2;have HT9:=zz (HT8.out.app _ h1 h2);clear h1 h2;go_wp2;exact⟨⟨some r2,acc++[34],by simp;omega,HO2,HT9⟩,by have h1:=HT9.out.at'.ms;have h2:=HMM.out;omega⟩
        |none=>
         rw[p2] at K2;have K2:=zz K2;go_wp2_with fail;refine K2.out.mono ?_;rintro e w7 ⟨rfl,hc,hs⟩;have HT7:=zz (HT6.out.move hc hs);clear hc hs;have K3:=KA.out ⟨#[92]⟩ w7 (some r1) zd HT7.out.at';rw[show hasL (bl ⟨#[92]⟩) (some r1)=pre [92] r1 from rfl] at K3;cases p3:pre [92] r1 with
         |some r2=>
          rw[p3] at K3;have K3:=zz K3;have HO2:Hid (((some r2).bind rqL).map (λp=>((acc++[92])++p.1,p.2))=O):=zz (by rw[<-HQ.out,rq_e 92 92 rfl zd r1 r2 p3];show (rqL r2).map _=_;cases rqL r2<;>simp);have hlr:r1.length=r2.length+1:=by rw[zzF p3,List.length_append,List.length_singleton,Nat.add_comm]
          clear p3;go_wp2_with fail;refine K3.out.mono ?_;rintro e w8 ⟨rfl,hc,hs⟩;have HT8:=zz (HT7.out.move hc hs);clear hc hs;go_wp2_with (at_builtin;refine zzy rfl _ _ rfl w.heap.size ?c1 u3 acc rfl ?c2 w8.heap.size 0 1 92 rfl ?c3 ?c4 ?_)
          case c1=>exact Nat.le_trans HT8.out.own.size (zag _ _).size
          case c2=>exact zqQ HT8.out.row (zag _ _)
          case c3=>rw[zbG];rfl
          case c4=>exact hac
          intro v' w' h1 h2;have HT9:=zz (HT8.out.app _ h1 h2);clear h1 h2;go_wp2;exact⟨⟨some r2,acc++[92],by simp;omega,HO2,HT9⟩,by have h1:=HT9.out.at'.ms;have h2:=HMM.out;omega⟩
         |none=>
          rw[p3] at K3;have K3:=zz K3;go_wp2_with fail;refine K3.out.mono ?_;rintro e w8 ⟨rfl,hc,hs⟩;have HT8:=zz (HT7.out.move hc hs);clear hc hs;have HO2:Hid (((none:Option (List UInt8)).bind rqL).map (λp=>(acc++p.1,p.2))=O):=zz (by rw[<-HQ.out,rq_n r1 p0 p1 p2 p3];rfl);obtain⟨i9,hc9⟩:=HT8.out.at'.cells;have e1:=hc9.a 1 rfl;have e2:=hc9.fz 1;have HT9:=zz (HT8.out.move ((Chg.refl (λj=>j=b) w8).setCell (p:=⟨b,1,none⟩) (.inl rfl) (.int .i64 (-1))) HT8.out.at'.err);clear hc9 p0 p1 p2 p3;go_wp2;exact⟨⟨none,acc,by simp;omega,HO2,HT9⟩,by have h1:=HT9.out.at'.ms0;have h2:=HMM.out;omega⟩
     ·have hc92:c≠92:=λe=>h92 (by rw[<-hx,e];rfl);have HO2:Hid (((some r1).bind rqL).map (λp=>((acc++[c])++p.1,p.2))=O):=zz (by rw[<-HQ.out,rq_c c r1 hc34 hc92];show (rqL r1).map _=_;cases rqL r1<;>simp);have HX:=zz hx;clear hc34 hc92 hx hc0;go_wp2_with (at_builtin;refine zzy rfl _ _ rfl w.heap.size ?c1 u3 acc rfl ?c2 w4.heap.size 0 1 c rfl ?c3 ?c4 ?_)
      case c1=>exact Nat.le_trans HT4.out.own.size (zag _ _).size
      case c2=>exact zqQ HT4.out.row (zag _ _)
      case c3=>rw[zbG,HX.out];rfl
      case c4=>exact hac
      intro v' w' h1 h2;have HT9:=zz (HT4.out.app _ h1 h2);clear h1 h2;go_wp2;exact⟨⟨some r1,acc++[c],by simp;omega,HO2,HT9⟩,by have h1:=HT9.out.at'.ms;have h2:=HMM.out;omega⟩
   ·obtain rfl:i=S.size:=zo
    have HN:Hid (O=none):=zz (by
     rw[<-HO.out,show ((some r0).bind rqL)=rqL r0 from rfl,<-hr,List.drop_eq_nil_of_le (by have:(bl S).length=S.size:=zai S;omega)];rfl)
    have hlt':decide ((S.size:Int)<(S.size:Int))=false:=decide_eq_false zo;clear hcs hr hms HO hal;go_wp2
    go_quiet (fail)
    obtain⟨w2,hw2⟩:=zn (wr.drewN nq);have ht2:=HT.out.drewN nq;rw[hw2] at ht2;rw[hw2];clear c0 c1 hw2;obtain⟨i9,hc9⟩:=ht2.at'.cells;have e1:=hc9.a 1 rfl;have e2:=hc9.fz 1;have HT9:=zz (ht2.move ((Chg.refl (λj=>j=b) w2).setCell (p:=⟨b,1,none⟩) (.inl rfl) (.int .i64 (-1))) ht2.at'.err);clear hc9 ht2;go_wp2;go_ret;exact⟨by rw[HN.out];rfl,HT9.out.own,by rw[HN.out];exact HT9.out.at'⟩
def vE:V:=.mk 0 ⟨#[]⟩ 0 0 ⟨#[]⟩ []
def zzv (it:UInt8->Option (List UInt8)->List V × Option (List UInt8)) (e:UInt8) (st:Option (List UInt8)):List V × Option (List UInt8):=
 match hasL [e] st with
 |some r=>([],some r)
 |none=>it e st
def zAl (q:List UInt8 × Option (List UInt8)):Option (List UInt8):=if (zbD (lb q.1) 0 4096).2=true then hasL [40] q.2 else none
def zBO (s:List UInt8) (st:Option (List UInt8)):Option (List UInt8):=if (zbD (lb s) (-9007199254740992) 9007199254740992).2=true then st else none
def zAf (it:UInt8->Option (List UInt8)->List V × Option (List UInt8)) (s:List UInt8) (st:Option (List UInt8)):V × Option (List UInt8):=
 match hasL [123] st with
 |some r=>(.mk 6 (lb s) 0 0 ⟨#[]⟩ (zzv it 125 (some r)).1,(zzv it 125 (some r)).2)
 |none=>match hasL [35] st with
 |some r=>(.mk 7 (lb s) (zbD (lb (whL (whB false []) (some r)).1) 0 4096).1 0 ⟨#[]⟩ (zzv it 41 (zAl (whL (whB false []) (some r)))).1,(zzv it 41 (zAl (whL (whB false []) (some r)))).2)
 |none=>match hasL [64] st with
 |some r=>(.mk 8 (lb s) 0 0 (lb (whL (whB false [46]) (some r)).1) [],(whL (whB false [46]) (some r)).2)
 |none=>(.mk 3 ⟨#[]⟩ (zbD (lb s) (-9007199254740992) 9007199254740992).1 0 ⟨#[]⟩ [],zBO s st)
def zAo (it:UInt8->Option (List UInt8)->List V × Option (List UInt8)) (st:Option (List UInt8)):V × Option (List UInt8):=
 match hasL [40,41] st with
 |some r=>(.mk 1 ⟨#[]⟩ 0 0 ⟨#[]⟩ [],some r)
 |none=>match hasL [116,114,117,101] st with
 |some r=>(.mk 2 ⟨#[]⟩ 1 0 ⟨#[]⟩ [],some r)
 |none=>match hasL [102,97,108,115,101] st with
 |some r=>(.mk 2 ⟨#[]⟩ 0 0 ⟨#[]⟩ [],some r)
 |none=>match hasL [34] st with
 |some r=>(.mk 4 ⟨#[]⟩ 0 0 (lb (((rqL r).map Prod.fst).getD [])) [],(rqL r).map Prod.snd)
 |none=>match hasL [91] st with
 |some r=>(.mk 5 ⟨#[]⟩ 0 0 ⟨#[]⟩ (zzv it 93 (some r)).1,(zzv it 93 (some r)).2)
 |none=>zAf it (whL (whB true [45]) st).1 (whL (whB true [45]) st).2
def ritI (x:V × Option (List UInt8)) (it:UInt8->Option (List UInt8)->List V × Option (List UInt8)) (e:UInt8):List V × Option (List UInt8):=
 match hasL [e] x.2 with
 |some r=>([x.1],some r)
 |none=>match hasL [44,32] x.2 with
 |some r=>(match (it e (some r)).2 with|some r2=>(x.1::(it e (some r)).1,some r2)|none=>([],none))
 |none=>([],none)
mutual
def zzz:Nat->Option (List UInt8)->V × Option (List UInt8)
 |0,_=>(vE,none)
 |f+1,st=>zAo (λe s=>zzs f e s) st
def zzs:Nat->UInt8->Option (List UInt8)->List V × Option (List UInt8)
 |0,_,_=>([],none)
 |f+1,e,st=>match st with
  |none=>([],none)
  |some r=>ritI (zzz f (some r)) (λe s=>zzs f e s) e
end
theorem zzO (f:Nat) (e:UInt8):zzs f e none=([],none):=by cases f<;>rw[zzs]
theorem zCA:∀(f:Nat) (e:UInt8) (st:Option (List UInt8)),(zzs f e st).2=none->zzs f e st=([],none)
 |0,e,st,h=>by rw[zzs]
 |f+1,e,none,h=>by rw[zzs]
 |f+1,e,some r,h=>by
  rw[zzs] at h ⊢;have h:(ritI (zzz f (some r)) (λe s=>zzs f e s) e).2=none:=h
  show ritI (zzz f (some r)) (λe s=>zzs f e s) e=([],none)
  unfold ritI at h ⊢;cases h1:hasL [e] (zzz f (some r)).2 with
  |some r1=>rw[h1] at h;cases h
  |none=>
   rw[h1] at h;cases h2:hasL [44,32] (zzz f (some r)).2 with
   |none=>rfl
   |some r1=>
    rw[h2] at h;have h:(match (zzs f e (some r1)).2 with|some r2=>((zzz f (some r)).1::(zzs f e (some r1)).1,some r2)|none=>([],none):List V × Option (List UInt8)).2=none:=h
    show (match (zzs f e (some r1)).2 with|some r2=>((zzz f (some r)).1::(zzs f e (some r1)).1,some r2)|none=>([],none))=([],none)
    cases h3:(zzs f e (some r1)).2 with
    |none=>rfl
    |some r2=>rw[h3] at h;cases h
theorem zzu {p r r':List UInt8} (h:pre p r=some r'):r.length=p.length+r'.length:=by rw[zzF h,List.length_append]
theorem zCV:∀(r l r':List UInt8),rqL r=some (l,r')->r'.length<r.length
 |[],l,r',h=>by cases h
 |[c],l,r',h=>by
  rw[rqL] at h
  split at h
  ·cases h;simp
  ·cases h
 |c::d::r,l,r',h=>by
  rw[rqL] at h
  split at h
  ·cases h;simp
  ·split at h
   ·split at h
    ·cases hr:rqL r with
     |none=>rw[hr] at h;cases h
     |some p=>rw[hr] at h;cases h;have:=zCV r p.1 p.2 hr;simp;omega
    ·cases h
   ·cases hr:rqL (d::r) with
    |none=>rw[hr] at h;cases h
    |some p=>rw[hr] at h;cases h;have:=zCV (d::r) p.1 p.2 hr;simp at this;simp;omega
theorem zAR (lo hi:Int):(zbD (lb []) lo hi).2=false:=by unfold zbD;rfl
theorem zBS (p:UInt8->Bool) (r:List UInt8):(r.dropWhile p).length<=r.length:=by
 have:=congrArg List.length (List.takeWhile_append_dropWhile (p:=p) (l:=r));rw[List.length_append] at this;omega
section
variable {it:UInt8->Option (List UInt8)->List V × Option (List UInt8)}
theorem zBq (h0:∀e,it e none=([],none)) (H:∀e r r',(it e (some r)).2=some r'->r'.length<r.length) {e:UInt8} {st:Option (List UInt8)} {r':List UInt8} (h:(zzv it e st).2=some r'):∃r,st=some r/\r'.length<r.length:=by
 unfold zzv at h;cases st with
 |none=>
  rw[show hasL [e] none=none from rfl] at h;have h:(it e none).2=some r':=h;rw[h0] at h;cases h
 |some r=>
  refine⟨r,rfl,?_⟩;cases h1:hasL [e] (some r) with
  |some r1=>
   rw[h1] at h;cases h;have:=zzu (show pre [e] r=some r' from h1);simp at this;omega
  |none=>
   rw[h1] at h;exact H e r r' h
theorem zEd (h0:∀e,it e none=([],none)) (H:∀e r r',(it e (some r)).2=some r'->r'.length<r.length) {s r r':List UInt8} (h:(zAf it s (some r)).2=some r'):r'.length<s.length+r.length:=by
 unfold zAf at h;cases h1:hasL [123] (some r) with
 |some r1=>
  rw[h1] at h;obtain⟨r2,e,h2⟩:=zBq h0 H h;cases e;have:=zzu (show pre [123] r=some r1 from h1);omega
 |none=>
  rw[h1] at h;cases h2:hasL [35] (some r) with
  |some r1=>
   rw[h2] at h;obtain⟨r2,e,h3⟩:=zBq h0 H h;have h4:=zzu (show pre [35] r=some r1 from h2);unfold zAl at e
   split at e
   ·have h5:=zzu (show pre [40] (r1.dropWhile (whB false []))=some r2 from e);have:=zBS (whB false []) r1;omega
   ·cases e
  |none=>
   rw[h2] at h;cases h3:hasL [64] (some r) with
   |some r1=>
    rw[h3] at h;have h4:=zzu (show pre [64] r=some r1 from h3);have h:some (r1.dropWhile (whB false [46]))=some r':=h;cases h;have:=zBS (whB false [46]) r1;simp at h4;omega
   |none=>
    rw[h3] at h;have h:zBO s (some r)=some r':=h;unfold zBO at h
    split at h
    ·rename_i hp;cases h;cases s with
     |nil=>rw[zAR] at hp;cases hp
     |cons a l=>simp
    ·cases h
theorem zEl (h0:∀e,it e none=([],none)) (H:∀e r r',(it e (some r)).2=some r'->r'.length<r.length) {r r':List UInt8} (h:(zAo it (some r)).2=some r'):r'.length<r.length:=by
 unfold zAo at h;cases h1:hasL [40,41] (some r) with
 |some r1=>rw[h1] at h;cases h;have:=zzu (show pre [40,41] r=some r' from h1);simp at this;omega
 |none=>
 rw[h1] at h;cases h1:hasL [116,114,117,101] (some r) with
 |some r1=>rw[h1] at h;cases h;have:=zzu (show pre [116,114,117,101] r=some r' from h1);simp at this;omega
 |none=>
 rw[h1] at h;cases h1:hasL [102,97,108,115,101] (some r) with
 |some r1=>rw[h1] at h;cases h;have:=zzu (show pre [102,97,108,115,101] r=some r' from h1);simp at this;omega
 |none=>
 rw[h1] at h;cases h1:hasL [34] (some r) with
 |some r1=>
  rw[h1] at h;have h:(rqL r1).map Prod.snd=some r':=h;have h2:=zzu (show pre [34] r=some r1 from h1);cases hq:rqL r1 with
  |none=>rw[hq] at h;cases h
  |some p=>rw[hq] at h;cases h;have:=zCV r1 p.1 p.2 hq;omega
 |none=>
 rw[h1] at h;cases h1:hasL [91] (some r) with
 |some r1=>
  rw[h1] at h;obtain⟨r2,e,h2⟩:=zBq h0 H h;cases e;have:=zzu (show pre [91] r=some r1 from h1);omega
 |none=>
 rw[h1] at h;have:=zEd h0 H (s:=r.takeWhile (whB true [45])) (r:=r.dropWhile (whB true [45])) h;rw[<-List.length_append,List.takeWhile_append_dropWhile] at this;exact this
end
theorem zEc:∀f:Nat,(∀r r',(zzz f (some r)).2=some r'->r'.length<r.length)/\(∀e r r',(zzs f e (some r)).2=some r'->r'.length<r.length)
 |0=>⟨λr r' h=>(by rw[zzz] at h;cases h),λe r r' h=>(by rw[zzs] at h;cases h)⟩
 |f+1=>by
  obtain⟨ih1,ih2⟩:=zEc f;refine⟨λr r' h=>?_,λe r r' h=>?_⟩
  ·rw[zzz] at h;exact zEl (λe=>zzO f e) ih2 h
  ·rw[zzs] at h;unfold ritI at h;obtain⟨x,hx⟩:=zn (zzz f (some r))
   have h:(match hasL [e] (zzz f (some r)).2 with
    |some r1=>([(zzz f (some r)).1],some r1)
    |none=>match hasL [44,32] (zzz f (some r)).2 with
    |some r1=>(match (zzs f e (some r1)).2 with|some r2=>((zzz f (some r)).1::(zzs f e (some r1)).1,some r2)|none=>([],none))
    |none=>([],none):List V × Option (List UInt8)).2=some r':=h
   cases hs:(zzz f (some r)).2 with
   |none=>rw[hs] at h;cases h
   |some r0=>
    have h2:=ih1 r r0 hs;rw[hs] at h;cases h1:hasL [e] (some r0) with
    |some r1=>rw[h1] at h;cases h;have:=zzu (show pre [e] r0=some r' from h1);omega
    |none=>
     rw[h1] at h;cases h3:hasL [44,32] (some r0) with
     |none=>rw[h3] at h;cases h
     |some r1=>
      rw[h3] at h;have h4:=zzu (show pre [44,32] r0=some r1 from h3);have h:(match (zzs f e (some r1)).2 with|some r2=>((zzz f (some r)).1::(zzs f e (some r1)).1,some r2)|none=>([],none):List V × Option (List UInt8)).2=some r':=h;cases h5:(zzs f e (some r1)).2 with
      |none=>rw[h5] at h;cases h
      |some r2=>rw[h5] at h;cases h;have:=ih2 e r1 r' h5;omega
end Go.Proofs.YtcebmphappfjjaaGreatDoor
