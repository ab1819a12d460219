/- Conditions: those in each statement. -/
import Derived.Test.YtcebmphappfjjaaGreatDoorV21
import Derived.Test.YtcebmphappfjjaaGreatDoorV25
import Derived.Test.YtcebmphappfjjaaGreatDoorProg
import Derived.Test.YtcebmphappfjjaaGreatDoorV00
import Derived.Deep.RegionWith
import Derived.Laws.Strings
set_option maxHeartbeats 32000000
set_option maxRecDepth 100000
namespace Go.Proofs.YtcebmphappfjjaaGreatDoor
open Go.RowKit
structure PgV where
 At:Option Addr
 nT:Nat
 ct:Nat
 Ae:Option Addr
 nE:Nat
 ce:Nat
 Af:Option Addr
 nF:Nat
 cf:Nat
 Aa:Option Addr
 nA:Nat
 ca:Nat
abbrev pgA (p:PgV):Value:=.agg #[.slice p.At p.nT p.ct,.slice p.Ae p.nE p.ce,.slice p.Af p.nF p.cf,.slice p.Aa p.nA p.ca]
def zdE (w:World) (k:Nat) (L:List ByteArray) (A:Option Addr) (n c:Nat):Prop:=n=L.length/\n<=c/\c<=9223372036854775807/\(0<n->∃b off,A=some ⟨b,off,none⟩/\b<w.heap.size/\∀i x,L[i]?=some x->w.cell? ⟨b,off+i*k,none⟩=some (.string x))
theorem zdE.below {w w':World} {k:Nat} {L:List ByteArray} {A:Option Addr} {n c:Nat} (h:zdE w k L A n c) (hb:Below w.heap.size w w'):zdE w' k L A n c:=by
 obtain⟨h1,h2,h3,h4⟩:=h;refine⟨h1,h2,h3,λhp=>?_⟩;obtain⟨b,off,e,hl,hc⟩:=h4 hp;exact⟨b,off,e,Nat.lt_of_lt_of_le hl hb.size,λi x hx=>(hb.cell (p:=⟨b,_,none⟩) hl).trans (hc i x hx)⟩
theorem zdE.of {α:Type} {w:World} {k:Nat} {row:α->Nat->D} {nm:α->ByteArray} {l:List α} {A:Option Addr} {n c:Nat} (hk:0<k) (hr:∀x,row x 0=.str (nm x)) (h:Rd (Lt w.heap.size) w (slG k row l) (.slice A n c)):zdE w k (l.map nm) A n c:=by
 obtain⟨h1,h2,h3⟩:=ztO h;refine⟨by rw[h1,List.length_map],h2,h3,λhp=>?_⟩;obtain⟨b,off,x0,e,hb,_,_⟩:=zqT h hp;refine⟨b,off,e,hb,λi x hx=>?_⟩;have hi:i<n:=by rw[h1];have:=(List.getElem?_eq_some_iff.1 hx).1;simpa using this
 obtain⟨b2,off2,y,e2,_,hy,hrow⟩:=zqT h hi;rw[e] at e2;injection e2 with e2;injection e2 with e3 e4;subst e3 e4;obtain⟨u,hu,hd⟩:=hrow 0 hk;rw[hr y] at hd;have:u=.string (nm y):=hd;subst this;rw[List.getElem?_map,hy] at hx;have:=Option.some.inj hx;rw[<-this];exact hu
theorem ziT {L:List ByteArray} {s:ByteArray} {i:Nat} (h:L[i]?=some s) (hn:∀j x,j<i->L[j]?=some x->x≠s):zft L s=some i:=by
 induction L generalizing i with
 |nil=>simp at h
 |cons a r ih=>
  rw[zje];cases i with
  |zero=>simp at h;rw[if_pos h]
  |succ i=>
   rw[if_neg (hn 0 a zo rfl),ih (by simpa using h) (λj x hj hx=>hn (j+1) x zo (by simpa using hx))]
   rfl
theorem zmF {L:List ByteArray} {s:ByteArray} (hn:∀(j:Nat) x,L[j]?=some x->x≠s):zft L s=none:=ziI (λh=>by
 obtain⟨j,hj⟩:=List.getElem?_of_mem h;exact hn j s hj rfl)
def zsF (w:World) (o:Option Nat) (e:Ending) (w':World):Prop:=Below w.heap.size w w'/\match o with
 |some i=>e=.returned (.tuple #[.int .i64 (i:Int),.bool true])
 |none=>e=.returned (.tuple #[.int .i64 0,.bool false])
theorem zpW (p:PgV) (L:List ByteArray) (s:ByteArray) (w:World) (h:zdE w 3 L p.At p.nT p.ct) :
 Calls Tryz.prog 81 #[pgA p,↑s] w (zsF w (zft L s)):=by
 obtain⟨At,nT,ct,Ae,nE,ce,Af,nF,cf,Aa,nA,ca⟩:=p;simp only[pgA] at h ⊢;obtain⟨w1,h1,b1,c1⟩:=zaj w #[.slice At nT ct,.slice Ae nE ce,.slice Af nF cf,.slice Aa nA ca] 58;have xc:=c1.a 0 rfl;have h2:=h.below b1;have HN:=zz h2;obtain⟨hn1,hn2,hn3,_⟩:=h2;have hnm:nT<=9223372036854775807:=Nat.le_trans hn2 hn3;have HL:=zz hn1;have HB:=zz b1;have HF0:Hid (∀j x,j<0->L[j]?=some x->x≠s):=zz (λj x hj _=>absurd hj zo);obtain⟨r,hr⟩:=zn (zft L s);rw[hr];have HR:=zz hr;clear b1 c1 h hn1 hr;go_in;go_wp2;clear h1
 go_loopw [10] (λs10 wr=>∃i:Nat,i<=nT/\s10=↑i/\Hid (∀j x,j<i->L[j]?=some x->x≠s)/\wr=w1) (λs10 _=>nT-(intOf s10).toNat)
 case atStart=>exact⟨0,zo,rfl,HF0,rfl⟩
 case round=>
  clear HF0;obtain⟨i,hi,rfl,HF,rfl⟩:=hrel
  by_cases hlt:i<nT
  ·obtain⟨b,off,e,hlb,hc⟩:=HN.out.2.2.2 zo;subst e;have hiL:i<L.length:=by have:=HL.out;omega
   have hx:L[i]?=some L[i]:=List.getElem?_eq_getElem hiL;obtain⟨x,hxx⟩:=zn (L[i]);rw[hxx] at hx;have p0:=hc i x hx;have hin:(i:Int)<nT:=zo
   by_cases hs:x=s
   ·have hb2:(x.toList == s.toList)=true:=by rw[hs];simp
    subst hs;have HQ:Hid (some i=r):=zz (by rw[<-HR.out];exact(ziT hx HF.out).symm);clear hc hx hxx HF;go_wp2
    go_ret2
    rw[<-HQ.out];exact⟨HB.out,rfl⟩
   ·have hb2:(x.toList == s.toList)=false:=zfo hs
    have HF2:Hid (∀j x,j<i+1->L[j]?=some x->x≠s):=zz (λj z hj hz=>by
     rcases Nat.lt_or_eq_of_le (Nat.lt_succ_iff.1 hj) with h2|h2
     ·exact HF.out j z h2 hz
     ·subst h2;rw[hx] at hz;cases hz;exact hs)
    clear hc hx hxx HF hs;go_wp2;exact⟨⟨i+1,zo,by go_num,HF2,trivial⟩,by simp[intOf];omega⟩
  ·have HQ:Hid (none=r):=zz (by
    rw[<-HR.out];exact(zmF (λj x hx=>HF.out j x (by have:=(List.getElem?_eq_some_iff.1 hx).1;have:=HL.out;omega) hx)).symm)
   clear HF;go_wp2
   go_ret2
   rw[<-HQ.out];exact⟨HB.out,rfl⟩
theorem zoH (p:PgV) (L:List ByteArray) (s:ByteArray) (w:World) (h:zdE w 7 L p.Aa p.nA p.ca) :
 Calls Tryz.prog 237 #[pgA p,↑s] w (zsF w (zft L s)):=by
 obtain⟨At,nT,ct,Ae,nE,ce,Af,nF,cf,Aa,nA,ca⟩:=p;simp only[pgA] at h ⊢;obtain⟨w1,h1,b1,c1⟩:=zaj w #[.slice At nT ct,.slice Ae nE ce,.slice Af nF cf,.slice Aa nA ca] 58;have xc:=c1.a 3 rfl;have h2:=h.below b1;have HN:=zz h2;obtain⟨hn1,hn2,hn3,_⟩:=h2;have hnm:nA<=9223372036854775807:=Nat.le_trans hn2 hn3;have HL:=zz hn1;have HB:=zz b1;have HF0:Hid (∀j x,j<0->L[j]?=some x->x≠s):=zz (λj x hj _=>absurd hj zo);obtain⟨r,hr⟩:=zn (zft L s);rw[hr];have HR:=zz hr;clear b1 c1 h hn1 hr;go_in;go_wp2;clear h1
 go_loopw [10] (λs10 wr=>∃i:Nat,i<=nA/\s10=↑i/\Hid (∀j x,j<i->L[j]?=some x->x≠s)/\wr=w1) (λs10 _=>nA-(intOf s10).toNat)
 case atStart=>exact⟨0,zo,rfl,HF0,rfl⟩
 case round=>
  clear HF0;obtain⟨i,hi,rfl,HF,rfl⟩:=hrel
  by_cases hlt:i<nA
  ·obtain⟨b,off,e,hlb,hc⟩:=HN.out.2.2.2 zo;subst e;have hiL:i<L.length:=by have:=HL.out;omega
   have hx:L[i]?=some L[i]:=List.getElem?_eq_getElem hiL;obtain⟨x,hxx⟩:=zn (L[i]);rw[hxx] at hx;have p0:=hc i x hx;have hin:(i:Int)<nA:=zo
   by_cases hs:x=s
   ·have hb2:(x.toList == s.toList)=true:=by rw[hs];simp
    subst hs;have HQ:Hid (some i=r):=zz (by rw[<-HR.out];exact(ziT hx HF.out).symm);clear hc hx hxx HF;go_wp2
    go_ret2
    rw[<-HQ.out];exact⟨HB.out,rfl⟩
   ·have hb2:(x.toList == s.toList)=false:=zfo hs
    have HF2:Hid (∀j x,j<i+1->L[j]?=some x->x≠s):=zz (λj z hj hz=>by
     rcases Nat.lt_or_eq_of_le (Nat.lt_succ_iff.1 hj) with h2|h2
     ·exact HF.out j z h2 hz
     ·subst h2;rw[hx] at hz;cases hz;exact hs)
    clear hc hx hxx HF hs;go_wp2;exact⟨⟨i+1,zo,by go_num,HF2,trivial⟩,by simp[intOf];omega⟩
  ·have HQ:Hid (none=r):=zz (by
    rw[<-HR.out];exact(zmF (λj x hx=>HF.out j x (by have:=(List.getElem?_eq_some_iff.1 hx).1;have:=HL.out;omega) hx)).symm)
   clear HF;go_wp2
   go_ret2
   rw[<-HQ.out];exact⟨HB.out,rfl⟩
mutual
def Ty.fit:Ty->Bool
 |.mk _ n a=>decide (n.size<=2097152)&&zrN a
def zrN:List Ty->Bool
 |[]=>true
 |t::r=>t.fit&&zrN r
end
theorem zhZ:∀{l:List Ty} {t:Ty},zrN l=true->t∈l->t.fit=true
 |[],t,_,h=>by simp at h
 |x::r,t,h,ht=>by
  rw[zrN,Bool.and_eq_true] at h;rcases List.mem_cons.1 ht with rfl|h2
  ·exact h.1
  ·exact zhZ h.2 h2
theorem zma (s:ByteArray) (w:World) (hs:s.size<=2097152):Calls Tryz.prog 185 #[↑s] w λe w'=>e=.returned (.bool (zaw s))/\w=w':=by
 have h:=zkj s w hs
 rwa [show zcB 65 90 s=zaw s from zgk 65 90 s] at h
theorem zin:zcp []=true:=by rw[zcp]
theorem zgF (t:Ty) (r:List Ty):zcp (t::r)=(zdT t&&zcp r):=by rw[zcp]
def FmAt (t:Ty):Prop:=∀(A:Option Addr) (c:Nat) (w:World),t.fit=true->Rd (Lt w.heap.size) w (ys t.args) (.slice A t.args.length c)->
 Calls Tryz.prog 187 #[.agg #[.int .i64 t.kind,.string t.name,.slice A t.args.length c]] w λe w'=>e=.returned (.bool (zdT t))/\Below w.heap.size w w'
theorem zsQ (k:Int) (nm:ByteArray) (l:List Ty) (IH:∀t∈l,FmAt t):FmAt (.mk k nm l):=by
 intro A c w hf h;replace h:Rd (Lt w.heap.size) w (ys l) (.slice A l.length c):=h;rw[Ty.fit,Bool.and_eq_true] at hf;have hns:nm.size<=2097152:=of_decide_eq_true hf.1;have hfl:=hf.2
 show Calls Tryz.prog 187 #[.agg #[↑k,↑nm,.slice A l.length c]] w λe w'=>e=.returned (.bool (zdT (.mk k nm l)))/\Below w.heap.size w w'
 rw[zdT];have hl:=zqb h;have hc1:=hl.2.1;have hc2:=hl.2.2;have hn:l.length<=9223372036854775807:=Nat.le_trans hl.2.1 hl.2.2;obtain⟨w1,h1,b1,c1⟩:=zaj w #[↑k,↑nm,.slice A l.length c] 70;have x0:=c1.a 0 rfl;have x1:=c1.a 1 rfl;have x2:=c1.a 2 rfl;have HB1:=zz b1;have HR:=zz h;have HI:=zz IH;have HFL:=zz hfl;have KU:=zz (zma nm w1 hns);obtain⟨R,hR⟩:∃R,(if k=1\/k=2\/k=3\/k=4 then decide (nm=⟨#[]⟩)&&l.isEmpty else if k=6\/k=7 then zaw nm&&l.isEmpty else if k=5 then decide (nm=⟨#[]⟩)&&decide (l.length=1)&&zcp l else if k=8 then decide (nm=⟨#[]⟩)&&!l.isEmpty&&zcp l else false)=R:=⟨_,rfl⟩;rw[hR];have hie:l.isEmpty=decide (l.length=0):=by cases l<;>simp
 rw[hie] at hR;clear b1 c1 hl h IH hf hns hfl hie;rcases (show k=1\/k=2\/k=3\/k=4\/k=6\/k=7\/k=5\/k=8\/(k≠1/\k≠2/\k≠3/\k≠4/\k≠6/\k≠7/\k≠5/\k≠8) by omega) with rfl|rfl|rfl|rfl|rfl|rfl|rfl|rfl|hz
 ·rw[if_pos zo] at hR
  by_cases hnm:nm=⟨#[]⟩
  ·have g1:nm.toList.isEmpty=true:=by rw[hnm,ByteArray.toList_eq];rfl
   by_cases hl0:l.length=0
   ·have g2:((l.length:Int) == 0)=true:=by rw[beq_iff_eq];omega
    have HQ:Hid (true=R):=zz (by rw[<-hR,decide_eq_true hnm,decide_eq_true hl0];rfl);clear hR hnm hl0;go_in;go_wp2;go_ret;exact⟨by rw[<-HQ.out];rfl,HB1.out⟩
   ·have g2:((l.length:Int) == 0)=false:=by rw[beq_eq_false_iff_ne];omega
    have HQ:Hid (false=R):=zz (by rw[<-hR,decide_eq_true hnm,decide_eq_false hl0];rfl);clear hR hnm hl0;go_in;go_wp2;go_ret;exact⟨by rw[<-HQ.out];rfl,HB1.out⟩
  ·have g1:nm.toList.isEmpty=false:=zcV hnm;have HQ:Hid (false=R):=zz (by rw[<-hR,decide_eq_false hnm];rfl);clear hR hnm;go_in;go_wp2;go_ret;exact⟨by rw[<-HQ.out];rfl,HB1.out⟩
 ·rw[if_pos zo] at hR
  by_cases hnm:nm=⟨#[]⟩
  ·have g1:nm.toList.isEmpty=true:=by rw[hnm,ByteArray.toList_eq];rfl
   by_cases hl0:l.length=0
   ·have g2:((l.length:Int) == 0)=true:=by rw[beq_iff_eq];omega
    have HQ:Hid (true=R):=zz (by rw[<-hR,decide_eq_true hnm,decide_eq_true hl0];rfl);clear hR hnm hl0;go_in;go_wp2;go_ret;exact⟨by rw[<-HQ.out];rfl,HB1.out⟩
   ·have g2:((l.length:Int) == 0)=false:=by rw[beq_eq_false_iff_ne];omega
    have HQ:Hid (false=R):=zz (by rw[<-hR,decide_eq_true hnm,decide_eq_false hl0];rfl);clear hR hnm hl0;go_in;go_wp2;go_ret;exact⟨by rw[<-HQ.out];rfl,HB1.out⟩
  ·have g1:nm.toList.isEmpty=false:=zcV hnm;have HQ:Hid (false=R):=zz (by rw[<-hR,decide_eq_false hnm];rfl);clear hR hnm;go_in;go_wp2;go_ret;exact⟨by rw[<-HQ.out];rfl,HB1.out⟩
 ·rw[if_pos zo] at hR
  by_cases hnm:nm=⟨#[]⟩
  ·have g1:nm.toList.isEmpty=true:=by rw[hnm,ByteArray.toList_eq];rfl
   by_cases hl0:l.length=0
   ·have g2:((l.length:Int) == 0)=true:=by rw[beq_iff_eq];omega
    have HQ:Hid (true=R):=zz (by rw[<-hR,decide_eq_true hnm,decide_eq_true hl0];rfl);clear hR hnm hl0;go_in;go_wp2;go_ret;exact⟨by rw[<-HQ.out];rfl,HB1.out⟩
   ·have g2:((l.length:Int) == 0)=false:=by rw[beq_eq_false_iff_ne];omega
    have HQ:Hid (false=R):=zz (by rw[<-hR,decide_eq_true hnm,decide_eq_false hl0];rfl);clear hR hnm hl0;go_in;go_wp2;go_ret;exact⟨by rw[<-HQ.out];rfl,HB1.out⟩
  ·have g1:nm.toList.isEmpty=false:=zcV hnm;have HQ:Hid (false=R):=zz (by rw[<-hR,decide_eq_false hnm];rfl);clear hR hnm;go_in;go_wp2;go_ret;exact⟨by rw[<-HQ.out];rfl,HB1.out⟩
 ·rw[if_pos zo] at hR
  by_cases hnm:nm=⟨#[]⟩
  ·have g1:nm.toList.isEmpty=true:=by rw[hnm,ByteArray.toList_eq];rfl
   by_cases hl0:l.length=0
   ·have g2:((l.length:Int) == 0)=true:=by rw[beq_iff_eq];omega
    have HQ:Hid (true=R):=zz (by rw[<-hR,decide_eq_true hnm,decide_eq_true hl0];rfl);clear hR hnm hl0;go_in;go_wp2;go_ret;exact⟨by rw[<-HQ.out];rfl,HB1.out⟩
   ·have g2:((l.length:Int) == 0)=false:=by rw[beq_eq_false_iff_ne];omega
    have HQ:Hid (false=R):=zz (by rw[<-hR,decide_eq_true hnm,decide_eq_false hl0];rfl);clear hR hnm hl0;go_in;go_wp2;go_ret;exact⟨by rw[<-HQ.out];rfl,HB1.out⟩
  ·have g1:nm.toList.isEmpty=false:=zcV hnm;have HQ:Hid (false=R):=zz (by rw[<-hR,decide_eq_false hnm];rfl);clear hR hnm;go_in;go_wp2;go_ret;exact⟨by rw[<-HQ.out];rfl,HB1.out⟩
 ·rw[if_neg zo,if_pos zo] at hR;cases hu:zaw nm with
  |true=>
   rw[hu] at KU hR
   by_cases hl0:l.length=0
   ·have g2:((l.length:Int) == 0)=true:=by rw[beq_iff_eq];omega
    have HQ:Hid (true=R):=zz (by rw[<-hR,decide_eq_true hl0];rfl);clear hR hl0 hu;go_in;go_wp2_with fail;refine zi KU ?_;rintro e w2 ⟨rfl,rfl⟩;go_wp2;go_ret;exact⟨by rw[<-HQ.out];rfl,HB1.out⟩
   ·have g2:((l.length:Int) == 0)=false:=by rw[beq_eq_false_iff_ne];omega
    have HQ:Hid (false=R):=zz (by rw[<-hR,decide_eq_false hl0];rfl);clear hR hl0 hu;go_in;go_wp2_with fail;refine zi KU ?_;rintro e w2 ⟨rfl,rfl⟩;go_wp2;go_ret;exact⟨by rw[<-HQ.out];rfl,HB1.out⟩
  |false=>
   rw[hu] at KU hR;have HQ:Hid (false=R):=zz hR;clear hR hu;go_in;go_wp2_with fail;refine zi KU ?_;rintro e w2 ⟨rfl,rfl⟩;go_wp2;go_ret;exact⟨by rw[<-HQ.out];rfl,HB1.out⟩
 ·rw[if_neg zo,if_pos zo] at hR;cases hu:zaw nm with
  |true=>
   rw[hu] at KU hR
   by_cases hl0:l.length=0
   ·have g2:((l.length:Int) == 0)=true:=by rw[beq_iff_eq];omega
    have HQ:Hid (true=R):=zz (by rw[<-hR,decide_eq_true hl0];rfl);clear hR hl0 hu;go_in;go_wp2_with fail;refine zi KU ?_;rintro e w2 ⟨rfl,rfl⟩;go_wp2;go_ret;exact⟨by rw[<-HQ.out];rfl,HB1.out⟩
   ·have g2:((l.length:Int) == 0)=false:=by rw[beq_eq_false_iff_ne];omega
    have HQ:Hid (false=R):=zz (by rw[<-hR,decide_eq_false hl0];rfl);clear hR hl0 hu;go_in;go_wp2_with fail;refine zi KU ?_;rintro e w2 ⟨rfl,rfl⟩;go_wp2;go_ret;exact⟨by rw[<-HQ.out];rfl,HB1.out⟩
  |false=>
   rw[hu] at KU hR;have HQ:Hid (false=R):=zz hR;clear hR hu;go_in;go_wp2_with fail;refine zi KU ?_;rintro e w2 ⟨rfl,rfl⟩;go_wp2;go_ret;exact⟨by rw[<-HQ.out];rfl,HB1.out⟩
 ·rw[if_neg zo,if_neg zo,if_pos rfl] at hR
  by_cases hnm:nm=⟨#[]⟩
  ·have g1:nm.toList.isEmpty=true:=by rw[hnm,ByteArray.toList_eq];rfl
   by_cases hl0:l.length=1
   ·have g2:((l.length:Int) == 1)=true:=by rw[beq_iff_eq];omega
    obtain⟨b,off,y,e,hlb,hget,A',c',p0,p1,p2,r5⟩:=znN (HR.out.belows HB1.out) (i:=0) zo;subst e
    have hly:l=[y]:=by
     match l,hl0,hget with
     |[a],_,hg=>simp at hg;rw[hg]
    have hlp:0<l.length:=zo
    have KF:=zz (HI.out y (List.mem_of_getElem? hget) A' c' w1 (zhZ HFL.out (List.mem_of_getElem? hget)) r5);rw[decide_eq_true hnm,decide_eq_true hl0] at hR;have HQ:Hid (zdT y=R):=zz (by rw[<-hR,hly,zgF,zin];simp);simp only[Nat.zero_mul,Nat.add_zero] at p0 p1 p2;clear hR hnm hl0 hly hget r5 hlb;go_in;go_wp2_with fail;refine zi KF ?_;rintro e w2 ⟨rfl,hb2⟩;have HB2:=zz (zac HB1.out hb2 HB1.out.size);clear hb2;go_wp2;go_ret;exact⟨by rw[<-HQ.out];rfl,HB2.out⟩
   ·have g2:((l.length:Int) == 1)=false:=by rw[beq_eq_false_iff_ne];omega
    have HQ:Hid (false=R):=zz (by rw[<-hR,decide_eq_true hnm,decide_eq_false hl0];rfl);clear hR hnm hl0;go_in;go_wp2;go_ret;exact⟨by rw[<-HQ.out];rfl,HB1.out⟩
  ·have g1:nm.toList.isEmpty=false:=zcV hnm;have HQ:Hid (false=R):=zz (by rw[<-hR,decide_eq_false hnm];rfl);clear hR hnm;go_in;go_wp2;go_ret;exact⟨by rw[<-HQ.out];rfl,HB1.out⟩
 ·rw[if_neg zo,if_neg zo,if_neg zo,if_pos rfl] at hR
  by_cases hnm:nm=⟨#[]⟩
  ·have g1:nm.toList.isEmpty=true:=by rw[hnm,ByteArray.toList_eq];rfl
   by_cases hl0:l.length=0
   ·have g2:((l.length:Int) == 0)=true:=by rw[beq_iff_eq];omega
    have HQ:Hid (false=R):=zz (by rw[<-hR,decide_eq_true hnm,decide_eq_true hl0];rfl);clear hR hnm hl0;go_in;go_wp2;go_ret;exact⟨by rw[<-HQ.out];rfl,HB1.out⟩
   ·have g2:((l.length:Int) == 0)=false:=by rw[beq_eq_false_iff_ne];omega
    have HA0:Hid (zcp (l.drop 0)=R):=zz (by rw[List.drop_zero,<-hR,decide_eq_true hnm,decide_eq_false hl0];simp);clear hR hnm hl0;go_in;go_wp2;clear h1 x0 x1 x2
    go_loopw [65] (λs wr=>∃i:Nat,i<=l.length/\s=↑i/\Hid (zcp (l.drop i)=R)/\Hid (Below w.heap.size w wr)) (λs _=>l.length-(intOf s).toNat)
    case atStart=>exact⟨0,zo,rfl,HA0,HB1⟩
    case round=>
     clear HA0 HB1;obtain⟨i,hi,rfl,HA,HB⟩:=hrel
     by_cases hlt:i<l.length
     ·obtain⟨b,off,y,e,hlb,hget,A',c',p0,p1,p2,r5⟩:=znN (HR.out.belows HB.out) hlt;subst e;have hin:(i:Int)<l.length:=zo
      have q:=HA.out;rw[zal hget,zgF] at q;obtain⟨w3,hw3,hb3,hx3⟩:=zaj wr #[↑y.kind,↑y.name,.slice A' y.args.length c'] 70;have q0:=hx3.cell 0;have q1:=hx3.cell 1;have q2:=hx3.cell 2;have HB3:=zz (zac HB.out hb3 HB.out.size);have KF:=zz (HI.out y (List.mem_of_getElem? hget) A' c' w3 (zhZ HFL.out (List.mem_of_getElem? hget)) (r5.belows hb3));obtain⟨bf,hbf⟩:=zn (zdT y);rw[hbf] at q KF;clear hbf r5 hb3 hx3 HA HB hget hlb;cases bf with
      |false=>
       have HQ:Hid (false=R):=zz q;clear q;go_wp2_with fail;refine zi KF ?_;rintro e w4 ⟨rfl,hb4⟩;have HB4:=zz (zac HB3.out hb4 HB3.out.size);clear hb4 q0 q1 q2;go_wp2;go_ret;exact⟨by rw[<-HQ.out];rfl,HB4.out⟩
      |true=>
       have HQ:Hid (zcp (l.drop (i+1))=R):=zz (by simpa using q);clear q;go_wp2_with fail;refine zi KF ?_;rintro e w4 ⟨rfl,hb4⟩;have HB4:=zz (zac HB3.out hb4 HB3.out.size);clear hb4 q0 q1 q2;go_wp2;exact⟨⟨i+1,zo,by go_num,HQ,HB4⟩,by simp[intOf];omega⟩
     ·have HQ:Hid (true=R):=zz (by
       have q:=HA.out;rw[List.drop_eq_nil_of_le zo,zin] at q;exact q)
      clear HA;go_wp2;go_ret;exact⟨by rw[<-HQ.out];rfl,HB.out⟩
  ·have g1:nm.toList.isEmpty=false:=zcV hnm;have HQ:Hid (false=R):=zz (by rw[<-hR,decide_eq_false hnm];rfl);clear hR hnm;go_in;go_wp2;go_ret;exact⟨by rw[<-HQ.out];rfl,HB1.out⟩
 ·rw[if_neg zo,if_neg zo,if_neg zo,if_neg zo] at hR;have g1:(k == 1)=false:=by rw[beq_eq_false_iff_ne];omega
  have g2:(k == 2)=false:=by rw[beq_eq_false_iff_ne];omega
  have g3:(k == 3)=false:=by rw[beq_eq_false_iff_ne];omega
  have g4:(k == 4)=false:=by rw[beq_eq_false_iff_ne];omega
  have g5:(k == 5)=false:=by rw[beq_eq_false_iff_ne];omega
  have g6:(k == 6)=false:=by rw[beq_eq_false_iff_ne];omega
  have g7:(k == 7)=false:=by rw[beq_eq_false_iff_ne];omega
  have g8:(k == 8)=false:=by rw[beq_eq_false_iff_ne];omega
  have HQ:Hid (false=R):=zz hR;clear hR hz;go_in;go_wp2;go_ret;exact⟨by rw[<-HQ.out];rfl,HB1.out⟩
theorem ziQ:∀t:Ty,FmAt t
 |.mk k n a=>zsQ k n a (λx _hx=>ziQ x)
theorem zem (p:Prg):zaT p []=true:=by rw[zaT]
theorem zdX (p:Prg) (t:Ty) (r:List Ty):zaT p (t::r)=(zch p t&&zaT p r):=by rw[zaT]
def DlAt (p:PgV) (pp:Prg) (t:Ty):Prop:=∀(A:Option Addr) (c:Nat) (w:World),zdE w 3 (pp.types.map Dcl.name) p.At p.nT p.ct->zdE w 7 (pp.actors.map Actr.name) p.Aa p.nA p.ca->Rd (Lt w.heap.size) w (ys t.args) (.slice A t.args.length c)->
 Calls Tryz.prog 188 #[pgA p,.agg #[.int .i64 t.kind,.string t.name,.slice A t.args.length c]] w λe w'=>e=.returned (.bool (zch pp t))/\Below w.heap.size w w'
theorem ztb (p:PgV) (pp:Prg) (k:Int) (nm:ByteArray) (l:List Ty) (IH:∀t∈l,DlAt p pp t):DlAt p pp (.mk k nm l):=by
 intro A c w hT hA h;replace h:Rd (Lt w.heap.size) w (ys l) (.slice A l.length c):=h
 show Calls Tryz.prog 188 #[pgA p,.agg #[↑k,↑nm,.slice A l.length c]] w λe w'=>e=.returned (.bool (zch pp (.mk k nm l)))/\Below w.heap.size w w'
 rw[zch];unfold zqM zkt;obtain⟨R,hR⟩:=zn (((if k=6 then (zft (pp.types.map Dcl.name) nm).isSome else if k=7 then (zft (pp.actors.map Actr.name) nm).isSome else true)&&zaT pp l));rw[hR];have KF:=λ(W:World) (hb:Below w.heap.size w W)=>zpW p (pp.types.map Dcl.name) nm W (hT.below hb);have KA:=λ(W:World) (hb:Below w.heap.size w W)=>zoH p (pp.actors.map Actr.name) nm W (hA.below hb);have KI:=λ(t:Ty) (ht:t∈l) (A:Option Addr) (c:Nat) (W:World) (hb:Below w.heap.size w W) (hr:Rd (Lt W.heap.size) W (ys t.args) (.slice A t.args.length c))=>IH t ht A c W (hT.below hb) (hA.below hb) hr;obtain⟨At,nT,ct,Ae,nE,ce,Af,nF,cf,Aa,nA,ca⟩:=p;simp only[pgA] at KF KA KI ⊢;have hl:=zqb h;have hc1:=hl.2.1;have hc2:=hl.2.2;have hn:l.length<=9223372036854775807:=Nat.le_trans hl.2.1 hl.2.2;obtain⟨w1,h1,b1,c1⟩:=zaj w #[.slice At nT ct,.slice Ae nE ce,.slice Af nF cf,.slice Aa nA ca] 58;obtain⟨w2,h2,b2,c2⟩:=zaj w1 #[↑k,↑nm,.slice A l.length c] 70;have cp:=zaa b2 c1;have x0:=cp.cell 0;have x1:=cp.cell 1;have x2:=cp.cell 2;have x3:=cp.cell 3;have y0:=c2.a 0 rfl;have y1:=c2.a 1 rfl;have y2:=c2.a 2 rfl;have HB12:=zz (zac b1 b2 b1.size);have HP1:=zz b1;have HC1:=zz c1;have HC2:=zz c2;have HW2:=zz b2;have HR:=zz h;have HKF:=zz (KF w2 HB12.out);have HKA:=zz (KA w2 HB12.out);have HI:=zz KI;clear b1 b2 c1 c2 cp hl h IH KF KA KI hT hA
 by_cases h6:k=6
 ·subst h6;rw[if_pos rfl] at hR;obtain⟨o,ho⟩:=zn (zft (pp.types.map Dcl.name) nm);rw[ho] at HKF hR;clear ho;cases o with
  |none=>
   have HQ:Hid (false=R):=zz (by rw[<-hR];rfl);clear hR;go_in;go_wp2_with fail;refine zi HKF ?_;rintro e w3 ⟨hb3,rfl⟩;have HB3:=zz (zac HB12.out hb3 HB12.out.size);clear hb3 h1 h2 x0 x1 x2 x3 y0 y1 y2;go_wp2;go_ret;exact⟨by rw[<-HQ.out];rfl,HB3.out⟩
  |some j=>
   have HA0:Hid (zaT pp (l.drop 0)=R):=zz (by rw[List.drop_zero,<-hR];rfl);clear hR;go_in;go_wp2_with fail;refine zi HKF ?_;rintro e w3 ⟨hb3,rfl⟩;have HB2:Hid (Below w1.heap.size w1 w3):=zz (zac HW2.out hb3 HW2.out.size);have y2:=(zaa hb3 HC2.out).a 2 rfl;clear hb3 h1 h2 x0 x1 x2 x3 y0 y1;go_wp2;clear y2
   go_loopw [33] (λs wr=>∃i:Nat,i<=l.length/\s=↑i/\Hid (zaT pp (l.drop i)=R)/\Hid (Below w1.heap.size w1 wr)) (λs _=>l.length-(intOf s).toNat)
   case atStart=>exact⟨0,zo,rfl,HA0,HB2⟩
   case round=>
    clear HA0 HB2;obtain⟨i,hi,rfl,HA,HB⟩:=hrel;have HBW:=zz (zac HP1.out HB.out HP1.out.size)
    by_cases hlt:i<l.length
    ·obtain⟨b,off,y,e,hlb,hget,A',c',p0,p1,p2,r5⟩:=znN (HR.out.belows HBW.out) hlt;subst e;have hin:(i:Int)<l.length:=zo
     have q:=HA.out;rw[zal hget,zdX] at q;obtain⟨w3,hw3,hb3,hx3⟩:=zaj wr #[↑y.kind,↑y.name,.slice A' y.args.length c'] 70;have q0:=hx3.cell 0;have q1:=hx3.cell 1;have q2:=hx3.cell 2;have HB3:=zz (zac HB.out hb3 HB.out.size);have HBW3:=zz (zac HBW.out hb3 HBW.out.size);have cp:=zaa HB3.out HC1.out;have z0:=cp.cell 0;have z1:=cp.cell 1;have z2:=cp.cell 2;have z3:=cp.cell 3;have KD:=zz (HI.out y (List.mem_of_getElem? hget) A' c' w3 HBW3.out (r5.belows hb3));obtain⟨bf,hbf⟩:=zn (zch pp y);rw[hbf] at q KD;clear hbf r5 hb3 hx3 HA HB hget hlb cp HBW;cases bf with
     |false=>
      have HQ:Hid (false=R):=zz q;clear q;go_wp2_with fail;refine zi KD ?_;rintro e w4 ⟨rfl,hb4⟩;have HB4:=zz (zac HBW3.out hb4 HBW3.out.size);clear hb4 q0 q1 q2 z0 z1 z2 z3;go_wp2;go_ret;exact⟨by rw[<-HQ.out];rfl,HB4.out⟩
     |true=>
      have HQ:Hid (zaT pp (l.drop (i+1))=R):=zz (by simpa using q);clear q;go_wp2_with fail;refine zi KD ?_;rintro e w4 ⟨rfl,hb4⟩;have HB4:=zz (zac HB3.out hb4 HB3.out.size);clear hb4 q0 q1 q2 z0 z1 z2 z3;go_wp2;exact⟨⟨i+1,zo,by go_num,HQ,HB4⟩,by simp[intOf];omega⟩
    ·have HQ:Hid (true=R):=zz (by
      have q:=HA.out;rw[List.drop_eq_nil_of_le zo,zem] at q;exact q)
     clear HA;go_wp2;go_ret;exact⟨by rw[<-HQ.out];rfl,HBW.out⟩
 ·have g6:(k == 6)=false:=by rw[beq_eq_false_iff_ne];exact h6
  rw[if_neg h6] at hR
  by_cases h7:k=7
  ·subst h7;rw[if_pos rfl] at hR;clear h6;obtain⟨o,ho⟩:=zn (zft (pp.actors.map Actr.name) nm);rw[ho] at HKA hR;clear ho;cases o with
   |none=>
    have HQ:Hid (false=R):=zz (by rw[<-hR];rfl);clear hR;go_in;go_wp2_with fail;refine zi HKA ?_;rintro e w3 ⟨hb3,rfl⟩;have HB3:=zz (zac HB12.out hb3 HB12.out.size);clear hb3 h1 h2 x0 x1 x2 x3 y0 y1 y2;go_wp2;go_ret;exact⟨by rw[<-HQ.out];rfl,HB3.out⟩
   |some j=>
    have HA0:Hid (zaT pp (l.drop 0)=R):=zz (by rw[List.drop_zero,<-hR];rfl);clear hR;go_in;go_wp2_with fail;refine zi HKA ?_;rintro e w3 ⟨hb3,rfl⟩;have HB2:Hid (Below w1.heap.size w1 w3):=zz (zac HW2.out hb3 HW2.out.size);have y2:=(zaa hb3 HC2.out).a 2 rfl;clear hb3 h1 h2 x0 x1 x2 x3 y0 y1;go_wp2;clear y2
    go_loopw [33] (λs wr=>∃i:Nat,i<=l.length/\s=↑i/\Hid (zaT pp (l.drop i)=R)/\Hid (Below w1.heap.size w1 wr)) (λs _=>l.length-(intOf s).toNat)
    case atStart=>exact⟨0,zo,rfl,HA0,HB2⟩
    case round=>
     clear HA0 HB2;obtain⟨i,hi,rfl,HA,HB⟩:=hrel;have HBW:=zz (zac HP1.out HB.out HP1.out.size)
     by_cases hlt:i<l.length
     ·obtain⟨b,off,y,e,hlb,hget,A',c',p0,p1,p2,r5⟩:=znN (HR.out.belows HBW.out) hlt;subst e;have hin:(i:Int)<l.length:=zo
      have q:=HA.out;rw[zal hget,zdX] at q;obtain⟨w3,hw3,hb3,hx3⟩:=zaj wr #[↑y.kind,↑y.name,.slice A' y.args.length c'] 70;have q0:=hx3.cell 0;have q1:=hx3.cell 1;have q2:=hx3.cell 2;have HB3:=zz (zac HB.out hb3 HB.out.size);have HBW3:=zz (zac HBW.out hb3 HBW.out.size);have cp:=zaa HB3.out HC1.out;have z0:=cp.cell 0;have z1:=cp.cell 1;have z2:=cp.cell 2;have z3:=cp.cell 3;have KD:=zz (HI.out y (List.mem_of_getElem? hget) A' c' w3 HBW3.out (r5.belows hb3));obtain⟨bf,hbf⟩:=zn (zch pp y);rw[hbf] at q KD;clear hbf r5 hb3 hx3 HA HB hget hlb cp HBW;cases bf with
      |false=>
       have HQ:Hid (false=R):=zz q;clear q;go_wp2_with fail;refine zi KD ?_;rintro e w4 ⟨rfl,hb4⟩;have HB4:=zz (zac HBW3.out hb4 HBW3.out.size);clear hb4 q0 q1 q2 z0 z1 z2 z3;go_wp2;go_ret;exact⟨by rw[<-HQ.out];rfl,HB4.out⟩
      |true=>
       have HQ:Hid (zaT pp (l.drop (i+1))=R):=zz (by simpa using q);clear q;go_wp2_with fail;refine zi KD ?_;rintro e w4 ⟨rfl,hb4⟩;have HB4:=zz (zac HB3.out hb4 HB3.out.size);clear hb4 q0 q1 q2 z0 z1 z2 z3;go_wp2;exact⟨⟨i+1,zo,by go_num,HQ,HB4⟩,by simp[intOf];omega⟩
     ·have HQ:Hid (true=R):=zz (by
       have q:=HA.out;rw[List.drop_eq_nil_of_le zo,zem] at q;exact q)
      clear HA;go_wp2;go_ret;exact⟨by rw[<-HQ.out];rfl,HBW.out⟩
  ·have g7:(k == 7)=false:=by rw[beq_eq_false_iff_ne];exact h7
   rw[if_neg h7] at hR;have HA0:Hid (zaT pp (l.drop 0)=R):=zz (by rw[List.drop_zero,<-hR];rfl);have HB2:=HW2;clear hR h6 h7;go_in;go_wp2;clear h1 h2 x0 x1 x2 x3 y0 y1 y2
   go_loopw [33] (λs wr=>∃i:Nat,i<=l.length/\s=↑i/\Hid (zaT pp (l.drop i)=R)/\Hid (Below w1.heap.size w1 wr)) (λs _=>l.length-(intOf s).toNat)
   case atStart=>exact⟨0,zo,rfl,HA0,HB2⟩
   case round=>
    clear HA0 HB2;obtain⟨i,hi,rfl,HA,HB⟩:=hrel;have HBW:=zz (zac HP1.out HB.out HP1.out.size)
    by_cases hlt:i<l.length
    ·obtain⟨b,off,y,e,hlb,hget,A',c',p0,p1,p2,r5⟩:=znN (HR.out.belows HBW.out) hlt;subst e;have hin:(i:Int)<l.length:=zo
     have q:=HA.out;rw[zal hget,zdX] at q;obtain⟨w3,hw3,hb3,hx3⟩:=zaj wr #[↑y.kind,↑y.name,.slice A' y.args.length c'] 70;have q0:=hx3.cell 0;have q1:=hx3.cell 1;have q2:=hx3.cell 2;have HB3:=zz (zac HB.out hb3 HB.out.size);have HBW3:=zz (zac HBW.out hb3 HBW.out.size);have cp:=zaa HB3.out HC1.out;have z0:=cp.cell 0;have z1:=cp.cell 1;have z2:=cp.cell 2;have z3:=cp.cell 3;have KD:=zz (HI.out y (List.mem_of_getElem? hget) A' c' w3 HBW3.out (r5.belows hb3));obtain⟨bf,hbf⟩:=zn (zch pp y);rw[hbf] at q KD;clear hbf r5 hb3 hx3 HA HB hget hlb cp HBW;cases bf with
     |false=>
      have HQ:Hid (false=R):=zz q;clear q;go_wp2_with fail;refine zi KD ?_;rintro e w4 ⟨rfl,hb4⟩;have HB4:=zz (zac HBW3.out hb4 HBW3.out.size);clear hb4 q0 q1 q2 z0 z1 z2 z3;go_wp2;go_ret;exact⟨by rw[<-HQ.out];rfl,HB4.out⟩
     |true=>
      have HQ:Hid (zaT pp (l.drop (i+1))=R):=zz (by simpa using q);clear q;go_wp2_with fail;refine zi KD ?_;rintro e w4 ⟨rfl,hb4⟩;have HB4:=zz (zac HB3.out hb4 HB3.out.size);clear hb4 q0 q1 q2 z0 z1 z2 z3;go_wp2;exact⟨⟨i+1,zo,by go_num,HQ,HB4⟩,by simp[intOf];omega⟩
    ·have HQ:Hid (true=R):=zz (by
      have q:=HA.out;rw[List.drop_eq_nil_of_le zo,zem] at q;exact q)
     clear HA;go_wp2;go_ret;exact⟨by rw[<-HQ.out];rfl,HBW.out⟩
theorem zgH (p:PgV) (pp:Prg):∀t:Ty,DlAt p pp t
 |.mk k n a=>ztb p pp k n a (λx _hx=>zgH p pp x)
theorem ztU (p:PgV) (pp:Prg) (t:Ty) (hf:t.fit=true) (A:Option Addr) (c:Nat) (w:World) (hT:zdE w 3 (pp.types.map Dcl.name) p.At p.nT p.ct) (hA:zdE w 7 (pp.actors.map Actr.name) p.Aa p.nA p.ca) (h:Rd (Lt w.heap.size) w (ys t.args) (.slice A t.args.length c)) :
 Calls Tryz.prog 141 #[pgA p,.agg #[↑t.kind,↑t.name,.slice A t.args.length c]] w λe w'=>e=.returned (.bool (zsM pp t))/\Below w.heap.size w w':=by
 unfold zsM;have KD:=λ(W:World) (hb:Below w.heap.size w W)=>zgH p pp t A c W (hT.below hb) (hA.below hb) (h.belows hb);have KF:=λ(W:World) (hb:Below w.heap.size w W)=>ziQ t A c W hf (h.belows hb);obtain⟨At,nT,ct,Ae,nE,ce,Af,nF,cf,Aa,nA,ca⟩:=p;simp only[pgA] at KD ⊢;obtain⟨w1,h1,b1,c1⟩:=zaj w #[.slice At nT ct,.slice Ae nE ce,.slice Af nF cf,.slice Aa nA ca] 58;obtain⟨w2,h2,b2,c2⟩:=zaj w1 #[↑t.kind,↑t.name,.slice A t.args.length c] 70;have y0:=c2.cell 0;have y1:=c2.cell 1;have y2:=c2.cell 2;have HB12:=zz (zac b1 b2 b1.size);have HC1:=zz (zaa b2 c1);have HC2:=zz c2;have HKF:=zz (KF w2 HB12.out);have HKD:=zz KD;clear b1 b2 c1 c2 KD KF hT hA h hf;go_in;go_wp2_with fail;refine zi HKF ?_;obtain⟨bf,hbf⟩:=zn (zdT t);have HFB:=zz hbf;rw[hbf];clear hbf;cases bf with
 |false=>
  rintro e w3 ⟨rfl,hb3⟩;have HB3:=zz (zac HB12.out hb3 HB12.out.size);clear hb3 h1 h2 y0 y1 y2;go_wp2;go_ret;exact⟨by rw[HFB.out];rfl,HB3.out⟩
 |true=>
  rintro e w3 ⟨rfl,hb3⟩;have HB3:=zz (zac HB12.out hb3 HB12.out.size);have d1:=zaa hb3 HC1.out;have d2:=zaa hb3 HC2.out;have x0:=d1.cell 0;have x1:=d1.cell 1;have x2:=d1.cell 2;have x3:=d1.cell 3;have z0:=d2.cell 0;have z1:=d2.cell 1;have z2:=d2.cell 2;have K:=zz (HKD.out w3 HB3.out);clear hb3 h1 h2 y0 y1 y2 d1 d2;go_wp2_with fail;refine zi K ?_;rintro e w4 ⟨rfl,hb4⟩;have HB4:=zz (zac HB3.out hb4 HB3.out.size);clear hb4 x0 x1 x2 x3 z0 z1 z2;go_wp2;go_ret;exact⟨by rw[HFB.out];rfl,HB4.out⟩
mutual
def eqV:V->V->Bool
 |.mk k t n m s l,.mk k' t' n' m' s' l'=>(k == k')&&((n == n')&&((m == m')&&((t.toList == t'.toList)&&((s.toList == s'.toList)&&eqVs l l'))))
def eqVs:List V->List V->Bool
 |[],[]=>true
 |v::r,v'::r'=>eqV v v'&&eqVs r r'
 |[],_::_=>false
 |_::_,[]=>false
end
mutual
theorem zsV:∀a b:V,eqV a b=true↔a=b
 |.mk k t n m s l,.mk k' t' n' m' s' l'=>by
  rw[eqV];simp only[Bool.and_eq_true,beq_iff_eq,zny l l']
  constructor
  ·rintro⟨rfl,rfl,rfl,h1,h2,rfl⟩;rw[zbX h1,zbX h2]
  ·intro h;injection h with e1 e2 e3 e4 e5 e6;exact⟨e1,e3,e4,by rw[e2],by rw[e5],e6⟩
theorem zny:∀a b:List V,eqVs a b=true↔a=b
 |[],[]=>by simp[eqVs]
 |v::r,v'::r'=>by
  rw[eqVs];simp only[Bool.and_eq_true,zsV v v',zny r r',List.cons.injEq]
 |[],_::_=>by simp[eqVs]
 |_::_,[]=>by simp[eqVs]
end
theorem zwL {a b:List V} (h:a.length≠b.length):eqVs a b=false:=by
 cases hb:eqVs a b with
 |false=>rfl
 |true=>exact absurd (congrArg List.length ((zny a b).1 hb)) h
theorem zyz {a b:List V} {i:Nat} {x y:V} (hx:a[i]?=some x) (hy:b[i]?=some y) (h:eqV x y=false):eqVs a b=false:=by
 cases hb:eqVs a b with
 |false=>rfl
 |true=>
  have:=(zny a b).1 hb;subst this;rw[hx] at hy;have e:=Option.some.inj hy;rw[(zsV x y).2 e] at h;cases h
theorem zxz {a b:List V} (hl:a.length=b.length) (h:∀(i:Nat) (x y:V),a[i]?=some x->b[i]?=some y->eqV x y=true):eqVs a b=true:=by
 rw[zny];apply List.ext_getElem?;intro i
 by_cases hi:i<a.length
 ·have h1:=List.getElem?_eq_getElem hi;have h2:=List.getElem?_eq_getElem (l:=b) (i:=i) zo;rw[h1,h2,(zsV _ _).1 (h i _ _ h1 h2)]
 ·rw[List.getElem?_eq_none zo,List.getElem?_eq_none zo]
def zwN (l:List V):Prop:=∀(l':List V) (A A':Option Addr) (n n' c c':Nat) (w:World),zcl l'<=2097152->Rd (Lt w.heap.size) w (vs l) (.slice A n c)->Rd (Lt w.heap.size) w (vs l') (.slice A' n' c')->
 Calls Tryz.prog 35 #[.slice A n c,.slice A' n' c'] w λe w'=>e=.returned (.bool (eqVs l l'))/\Below w.heap.size w w'
theorem zvo (k:Int) (t:ByteArray) (n m:Int) (s:ByteArray) (l:List V) (k':Int) (t':ByteArray) (n' m':Int) (s':ByteArray) (l':List V) (A A':Option Addr) (c c':Nat) (w:World) (hS:zwN l) (hb:zcl l'<=2097152)
 (hr:Rd (Lt w.heap.size) w (vs l) (.slice A l.length c)) (hr':Rd (Lt w.heap.size) w (vs l') (.slice A' l'.length c')) :
 Calls Tryz.prog 32 #[.agg #[↑k,↑t,↑n,↑m,↑s,.slice A l.length c],.agg #[↑k',↑t',↑n',↑m',↑s',.slice A' l'.length c']] w
  λe w'=>e=.returned (.bool (eqV (.mk k t n m s l) (.mk k' t' n' m' s' l')))/\Below w.heap.size w w':=by
 have HR:=zz hr;have HR':=zz hr';unfold zwN at hS;have HS:=zz hS;clear hr hr' hS;have HU:Hid (eqV (.mk k t n m s l) (.mk k' t' n' m' s' l')=((k == k')&&((n == n')&&((m == m')&&((t.toList == t'.toList)&&((s.toList == s'.toList)&&eqVs l l')))))):=zz (by rw[eqV]);generalize eqV (.mk k t n m s l) (.mk k' t' n' m' s' l')=R at *
 have fin:∀x y:Obj,Below w.heap.size w ((w.alloc x).alloc y):=λx y=>((Below.refl _ _).alloc (Nat.le_refl _) _).alloc zs _;have FIN:=zz fin;clear fin;cases h1:(k == k') with
 |false=>
  rw[h1] at HU;go_in;go_wp2;go_ret;exact⟨by rw[HU.out];rfl,FIN.out _ _⟩
 |true=>
  rw[h1] at HU;cases h2:(n == n') with
  |false=>
   rw[h2] at HU;go_in;go_wp2;go_ret;exact⟨by rw[HU.out];rfl,FIN.out _ _⟩
  |true=>
   rw[h2] at HU;cases h3:(m == m') with
   |false=>
    rw[h3] at HU;go_in;go_wp2;go_ret;exact⟨by rw[HU.out];rfl,FIN.out _ _⟩
   |true=>
    rw[h3] at HU;cases h4:(t.toList == t'.toList) with
    |false=>
     rw[h4] at HU;go_in;go_wp2;go_ret;exact⟨by rw[HU.out];rfl,FIN.out _ _⟩
    |true=>
     rw[h4] at HU;cases h5:(s.toList == s'.toList) with
     |false=>
      rw[h5] at HU;go_in;go_wp2;go_ret;exact⟨by rw[HU.out];rfl,FIN.out _ _⟩
     |true=>
      rw[h5] at HU;go_in;go_wp2_with fail;(with_reducible refine(HS.out l' A A' _ _ c c' _ hb ?_ ?_).mono ?_)
      ·exact(HR.out.allocs _).allocs _
      ·exact(HR'.out.allocs _).allocs _
      rintro e w1 ⟨rfl,hb1⟩;have HB1:=zz hb1;clear hb1;go_wp2;go_ret;exact⟨by rw[HU.out];simp,(FIN.out _ _).trans (HB1.out.mono (by simp;omega))⟩
theorem zxT:∀(N:Nat) (l:List V),zcl l<=N->N<=2097152->zwN l:=by
 intro N
 induction N with
 |zero=>
  intro l hb hN l' A A' n n' c c' w hb' hr hr';have hl:=zno hr;have hl':=zno hr';have hll:=zdB l';have hz:l=[]:=List.eq_nil_of_length_eq_zero (by have:=zdB l;omega);subst hz;have hn:n=0:=hl.1;subst hn;clear hr hr' hb
  by_cases hz':n'=0
  ·subst hz';have hz:l'=[]:=List.eq_nil_of_length_eq_zero hl'.1.symm;subst hz;clear hl hl';go_in;go_wp2
   go_loop [13] (λi=>i=↑()) (λ_=>0)
   case atStart=>rfl
   case round=>
    subst hrel;go_wp2;go_ret;exact⟨rfl,Below.refl _ _⟩
  ·have HE:Hid (eqVs [] l'=false):=zz (zwL (by simp only[List.length_nil];omega));have hne:((0:Int) != (n':Int))=true:=by simp;omega
   have hp:0<n':=zo
   clear hz' hl hl';go_in;go_wp2;go_ret;exact⟨by rw[HE.out];rfl,Below.refl _ _⟩
 |succ N ih=>
  intro l hb hN l' A A' n n' c c' w hb' hr hr';have hl:=zno hr;have hl':=zno hr';have hll:=zdB l;have hll':=zdB l';have HR:=zz hr;have HR':=zz hr';have IH:=zz ih;have HL:=zz hl.1;have HL':=zz hl'.1;have hn:n<=2097152:=zo
  have hn':n'<=2097152:=zo
  clear hr hr' ih hl hl'
  by_cases hnn:n=n'
  ·subst hnn;go_in;go_wp2
   go_loopw [13] (λs13 wr=>∃i:Nat,i<=n/\s13=↑i/\Hid (∀(j:Nat) (x y:V),j<i->l[j]?=some x->l'[j]?=some y->eqV x y=true)/\Hid (Below w.heap.size w wr)) (λs13 _=>n-(intOf s13).toNat)
   case atStart=>exact⟨0,zo,rfl,zz (λj _ _ hj=>absurd hj zo),zz (Below.refl _ _)⟩
   case round=>
    obtain⟨i,hi,rfl,HA,HB⟩:=hrel
    by_cases hlt:i<n
    ·obtain⟨b,off,kd,t1,n1,m1,s1,l1,A1,c1,e,hlb,hget,h2⟩:=zrO (HR.out.belows HB.out) hlt;subst e;obtain⟨b',off',kd',t2,n2,m2,s2,l2,A2,c2,e,hlb',hget',h2'⟩:=zrO (HR'.out.belows HB.out) hlt;subst e;obtain⟨p0,p1,p2,p3,p4,p5,r5⟩:=h2;obtain⟨q0,q1,q2,q3,q4,q5,r5'⟩:=h2';have hbk:=zeK _ _ _ hget;have hbk':=zeK _ _ _ hget';rw[zbv] at hbk hbk';have HC:Hid (∀W,Rd (Lt W.heap.size) W (vs l1) (.slice A1 l1.length c1)->Rd (Lt W.heap.size) W (vs l2) (.slice A2 l2.length c2)->_):=zz (λW h1 h2=>zvo kd t1 n1 m1 s1 l1 kd' t2 n2 m2 s2 l2 A1 A2 c1 c2 W (IH.out l1 zo zo) zo h1 h2);have R5:=zz r5;have R5':=zz r5';have HG:=zz hget;have HG':=zz hget';have hlb1:b<wr.heap.size:=hlb;have hlb2:b'<wr.heap.size:=hlb';have hin:(i:Int)<n:=zo
     clear r5 r5' hget hget' hbk hbk' hlb hlb';cases hq:eqV (.mk kd t1 n1 m1 s1 l1) (.mk kd' t2 n2 m2 s2 l2) with
     |false=>
      have HE:=zz (zyz HG.out HG'.out hq);rw[hq] at HC;clear hq;go_wp2
      go_region_with (first|(go_at_call 32;refine(HC.out _ R5.out.drew R5'.out.drew).mono ?_;rintro e w4 ⟨rfl,hb4⟩;have B4:=zz hb4;clear hb4))
      all_goals (
       go_wp2;go_ret;exact⟨by rw[HE.out];rfl,HB.out.drew.trans (B4.out.mono HB.out.size)⟩)
     |true=>
      have HA2:Hid (∀(j:Nat) (x y:V),j<i+1->l[j]?=some x->l'[j]?=some y->eqV x y=true):=zz (λj x y hj hx hy=>by
       rcases Nat.lt_or_ge j i with hji|hji
       ·exact HA.out j x y hji hx hy
       ·obtain rfl:j=i:=zo
        rw[HG.out] at hx;rw[HG'.out] at hy;rw[<-Option.some.inj hx,<-Option.some.inj hy];exact hq)
      rw[hq] at HC;clear hq;go_wp2
      go_region_with (first|(go_at_call 32;refine(HC.out _ R5.out.drew R5'.out.drew).mono ?_;rintro e w4 ⟨rfl,hb4⟩;have B4:=zz (HB.out.drew.trans (hb4.mono HB.out.size));clear hb4))
      all_goals (
       go_wp2;exact⟨⟨i+1,zo,by go_num,HA2,B4⟩,by simp[intOf];omega⟩)
    ·have HE:Hid (eqVs l l'=true):=zz (zxz (by rw[<-HL.out,<-HL'.out]) (λj x y hx hy=>HA.out j x y (by
      have:=(List.getElem?_eq_some_iff.1 hx).1;have:=HL.out;omega) hx hy))
     go_wp2;go_ret;exact⟨by rw[HE.out];rfl,HB.out⟩
  ·have HE:Hid (eqVs l l'=false):=zz (zwL (by rw[<-HL.out,<-HL'.out];exact hnn));have hne:((n:Int) != (n':Int))=true:=by simp;omega
   go_in;go_wp2;go_ret;exact⟨by rw[HE.out];rfl,Below.refl _ _⟩
theorem zxx {l:List V} (h:zcl l<=2097152):zwN l:=zxT _ l (Nat.le_refl _) h
end Go.Proofs.YtcebmphappfjjaaGreatDoor
