/- Conditions: those in each statement. -/
import Derived.Test.YtcebmphappfjjaaGreatDoorQ22
import Derived.Test.YtcebmphappfjjaaGreatDoorQ33
set_option maxHeartbeats 32000000
set_option maxRecDepth 100000
namespace Go.Proofs.YtcebmphappfjjaaGreatDoor
open Go.RowKit
structure PgV where
 At:Option Addr
 nT:Nat
 ct:Nat
 Ae:Option Addr
 nE:Nat
 ce:Nat
 Af:Option Addr
 nF:Nat
 cf:Nat
 Aa:Option Addr
 nA:Nat
 ca:Nat
abbrev pgA (p:PgV):Value:=.agg #[.slice p.At p.nT p.ct,.slice p.Ae p.nE p.ce,.slice p.Af p.nF p.cf,.slice p.Aa p.nA p.ca]
def zdE (w:World) (k:Nat) (L:List ByteArray) (A:Option Addr) (n c:Nat):Prop:=n=L.length/\n<=c/\c<=9223372036854775807/\(0<n->∃b off,A=some ⟨b,off,none⟩/\b<w.heap.size/\∀i x,L[i]?=some x->w.cell? ⟨b,off+i*k,none⟩=some (.string x))
theorem zdE.below {w w':World} {k:Nat} {L:List ByteArray} {A:Option Addr} {n c:Nat} (h:zdE w k L A n c) (hb:Below w.heap.size w w'):zdE w' k L A n c:=by
 obtain⟨h1,h2,h3,h4⟩:=h;refine⟨h1,h2,h3,λhp=>?_⟩;obtain⟨b,off,e,hl,hc⟩:=h4 hp;exact⟨b,off,e,Nat.lt_of_lt_of_le hl hb.size,λi x hx=>(hb.cell (p:=⟨b,_,none⟩) hl).trans (hc i x hx)⟩
theorem zdE.of {α:Type} {w:World} {k:Nat} {row:α->Nat->D} {nm:α->ByteArray} {l:List α} {A:Option Addr} {n c:Nat} (hk:0<k) (hr:∀x,row x 0=.str (nm x)) (h:Rd (Lt w.heap.size) w (slG k row l) (.slice A n c)):zdE w k (l.map nm) A n c:=by
 obtain⟨h1,h2,h3⟩:=ztO h;refine⟨by rw[h1,List.length_map],h2,h3,λhp=>?_⟩;obtain⟨b,off,x0,e,hb,_,_⟩:=zqT h hp;refine⟨b,off,e,hb,λi x hx=>?_⟩;have hi:i<n:=by rw[h1];have:=(List.getElem?_eq_some_iff.1 hx).1;simpa using this
 obtain⟨b2,off2,y,e2,_,hy,hrow⟩:=zqT h hi;rw[e] at e2;injection e2 with e2;injection e2 with e3 e4;subst e3 e4;obtain⟨u,hu,hd⟩:=hrow 0 hk;rw[hr y] at hd;have:u=.string (nm y):=hd;subst this;rw[List.getElem?_map,hy] at hx;have:=Option.some.inj hx;rw[<-this];exact hu
theorem ziT {L:List ByteArray} {s:ByteArray} {i:Nat} (h:L[i]?=some s) (hn:∀j x,j<i->L[j]?=some x->x≠s):zft L s=some i:=by
 induction L generalizing i with
 |nil=>simp at h
 |cons a r ih=>
  rw[zje];cases i with
  |zero=>simp at h;rw[if_pos h]
  |succ i=>
   rw[if_neg (hn 0 a (by omega) rfl),ih (by simpa using h) (λj x hj hx=>hn (j+1) x (by omega) (by simpa using hx))]
   rfl
theorem zmF {L:List ByteArray} {s:ByteArray} (hn:∀(j:Nat) x,L[j]?=some x->x≠s):zft L s=none:=ziI (λh=>by
 obtain⟨j,hj⟩:=List.getElem?_of_mem h;exact hn j s hj rfl)
def zsF (w:World) (o:Option Nat) (e:Ending) (w':World):Prop:=Below w.heap.size w w'/\match o with
 |some i=>e=.returned (.tuple #[.int .i64 (i:Int),.bool true])
 |none=>e=.returned (.tuple #[.int .i64 0,.bool false])
theorem zpW (p:PgV) (L:List ByteArray) (s:ByteArray) (w:World) (h:zdE w 3 L p.At p.nT p.ct) :
 Calls Tryz.prog 81 #[pgA p,.string s] w (zsF w (zft L s)):=by
 obtain⟨At,nT,ct,Ae,nE,ce,Af,nF,cf,Aa,nA,ca⟩:=p;simp only[pgA] at h ⊢;obtain⟨w1,h1,b1,c1⟩:=zaj w #[.slice At nT ct,.slice Ae nE ce,.slice Af nF cf,.slice Aa nA ca] 58;have xc:w1.cell? ⟨w.heap.size,0,none⟩=some (.slice At nT ct):=c1.cell 0;have h2:=h.below b1;have HN:=zz h2;obtain⟨hn1,hn2,hn3,_⟩:=h2;have hnm:nT<=9223372036854775807:=Nat.le_trans hn2 hn3;have HL:=zz hn1;have HB:=zz b1;have HF0:Hid (∀j x,j<0->L[j]?=some x->x≠s):=zz (λj x hj _=>absurd hj (by omega));obtain⟨r,hr⟩:∃r,zft L s=r:=⟨_,rfl⟩;rw[hr];have HR:=zz hr;clear b1 c1 h hn1 hr;go_enter Tryz.func81,Tryz.ntmps81;go_wp2_with fail;clear h1
 go_loopw [10] (λs10 wr=>∃i:Nat,i<=nT/\s10=.int .i64 i/\Hid (∀j x,j<i->L[j]?=some x->x≠s)/\wr=w1) (λs10 _=>nT-(intOf s10).toNat)
 case atStart=>exact⟨0,by omega,rfl,HF0,rfl⟩
 case round=>
  clear HF0;obtain⟨i,hi,rfl,HF,rfl⟩:=hrel
  by_cases hlt:i<nT
  ·obtain⟨b,off,e,hlb,hc⟩:=HN.out.2.2.2 (by omega);subst e;have hiL:i<L.length:=by have:=HL.out;omega
   have hx:L[i]?=some L[i]:=List.getElem?_eq_getElem hiL;obtain⟨x,hxx⟩:∃x,L[i]=x:=⟨_,rfl⟩;rw[hxx] at hx;have p0:=hc i x hx;have hin:(i:Int)<nT:=by omega
   by_cases hs:x=s
   ·have hb2:(x.toList == s.toList)=true:=by rw[hs];simp
    subst hs;have HQ:Hid (some i=r):=zz (by rw[<-HR.out];exact(ziT hx HF.out).symm);clear hc hx hxx HF;go_wp2
    go_ret2
    rw[<-HQ.out];exact⟨HB.out,rfl⟩
   ·have hb2:(x.toList == s.toList)=false:=zfo hs
    have HF2:Hid (∀j x,j<i+1->L[j]?=some x->x≠s):=zz (λj z hj hz=>by
     rcases Nat.lt_or_eq_of_le (Nat.lt_succ_iff.1 hj) with h2|h2
     ·exact HF.out j z h2 hz
     ·subst h2;rw[hx] at hz;cases hz;exact hs)
    clear hc hx hxx HF hs;go_wp2_with fail;exact⟨⟨i+1,by omega,by go_num,HF2,trivial⟩,by simp[intOf];omega⟩
  ·have HQ:Hid (none=r):=zz (by
    rw[<-HR.out];exact(zmF (λj x hx=>HF.out j x (by have:=(List.getElem?_eq_some_iff.1 hx).1;have:=HL.out;omega) hx)).symm)
   clear HF;go_wp2
   go_ret2
   rw[<-HQ.out];exact⟨HB.out,rfl⟩
theorem zoH (p:PgV) (L:List ByteArray) (s:ByteArray) (w:World) (h:zdE w 7 L p.Aa p.nA p.ca) :
 Calls Tryz.prog 237 #[pgA p,.string s] w (zsF w (zft L s)):=by
 obtain⟨At,nT,ct,Ae,nE,ce,Af,nF,cf,Aa,nA,ca⟩:=p;simp only[pgA] at h ⊢;obtain⟨w1,h1,b1,c1⟩:=zaj w #[.slice At nT ct,.slice Ae nE ce,.slice Af nF cf,.slice Aa nA ca] 58;have xc:w1.cell? ⟨w.heap.size,3,none⟩=some (.slice Aa nA ca):=c1.cell 3;have h2:=h.below b1;have HN:=zz h2;obtain⟨hn1,hn2,hn3,_⟩:=h2;have hnm:nA<=9223372036854775807:=Nat.le_trans hn2 hn3;have HL:=zz hn1;have HB:=zz b1;have HF0:Hid (∀j x,j<0->L[j]?=some x->x≠s):=zz (λj x hj _=>absurd hj (by omega));obtain⟨r,hr⟩:∃r,zft L s=r:=⟨_,rfl⟩;rw[hr];have HR:=zz hr;clear b1 c1 h hn1 hr;go_enter Tryz.func237,Tryz.ntmps237;go_wp2_with fail;clear h1
 go_loopw [10] (λs10 wr=>∃i:Nat,i<=nA/\s10=.int .i64 i/\Hid (∀j x,j<i->L[j]?=some x->x≠s)/\wr=w1) (λs10 _=>nA-(intOf s10).toNat)
 case atStart=>exact⟨0,by omega,rfl,HF0,rfl⟩
 case round=>
  clear HF0;obtain⟨i,hi,rfl,HF,rfl⟩:=hrel
  by_cases hlt:i<nA
  ·obtain⟨b,off,e,hlb,hc⟩:=HN.out.2.2.2 (by omega);subst e;have hiL:i<L.length:=by have:=HL.out;omega
   have hx:L[i]?=some L[i]:=List.getElem?_eq_getElem hiL;obtain⟨x,hxx⟩:∃x,L[i]=x:=⟨_,rfl⟩;rw[hxx] at hx;have p0:=hc i x hx;have hin:(i:Int)<nA:=by omega
   by_cases hs:x=s
   ·have hb2:(x.toList == s.toList)=true:=by rw[hs];simp
    subst hs;have HQ:Hid (some i=r):=zz (by rw[<-HR.out];exact(ziT hx HF.out).symm);clear hc hx hxx HF;go_wp2
    go_ret2
    rw[<-HQ.out];exact⟨HB.out,rfl⟩
   ·have hb2:(x.toList == s.toList)=false:=zfo hs
    have HF2:Hid (∀j x,j<i+1->L[j]?=some x->x≠s):=zz (λj z hj hz=>by
     rcases Nat.lt_or_eq_of_le (Nat.lt_succ_iff.1 hj) with h2|h2
     ·exact HF.out j z h2 hz
     ·subst h2;rw[hx] at hz;cases hz;exact hs)
    clear hc hx hxx HF hs;go_wp2_with fail;exact⟨⟨i+1,by omega,by go_num,HF2,trivial⟩,by simp[intOf];omega⟩
  ·have HQ:Hid (none=r):=zz (by
    rw[<-HR.out];exact(zmF (λj x hx=>HF.out j x (by have:=(List.getElem?_eq_some_iff.1 hx).1;have:=HL.out;omega) hx)).symm)
   clear HF;go_wp2
   go_ret2
   rw[<-HQ.out];exact⟨HB.out,rfl⟩
mutual
def Ty.fit:Ty->Bool
 |.mk _ n a=>decide (n.size<=2097152)&&zrN a
def zrN:List Ty->Bool
 |[]=>true
 |t::r=>t.fit&&zrN r
end
theorem zhZ:∀{l:List Ty} {t:Ty},zrN l=true->t∈l->t.fit=true
 |[],t,_,h=>by simp at h
 |x::r,t,h,ht=>by
  rw[zrN,Bool.and_eq_true] at h;rcases List.mem_cons.1 ht with rfl|h2
  ·exact h.1
  ·exact zhZ h.2 h2
theorem zma (s:ByteArray) (w:World) (hs:s.size<=2097152):Calls Tryz.prog 185 #[.string s] w λe w'=>e=.returned (.bool (zaw s))/\w=w':=by
 have h:=zkj s w hs
 rwa [show zcB 65 90 s=zaw s from zgk 65 90 s] at h
theorem zin:zcp []=true:=by rw[zcp]
theorem zgF (t:Ty) (r:List Ty):zcp (t::r)=(zdT t&&zcp r):=by rw[zcp]
def FmAt (t:Ty):Prop:=∀(A:Option Addr) (c:Nat) (w:World),t.fit=true->Rd (Lt w.heap.size) w (ys t.args) (.slice A t.args.length c)->
 Calls Tryz.prog 187 #[.agg #[.int .i64 t.kind,.string t.name,.slice A t.args.length c]] w λe w'=>e=.returned (.bool (zdT t))/\Below w.heap.size w w'
theorem zsQ (k:Int) (nm:ByteArray) (l:List Ty) (IH:∀t∈l,FmAt t):FmAt (.mk k nm l):=by
 intro A c w hf h;replace h:Rd (Lt w.heap.size) w (ys l) (.slice A l.length c):=h;rw[Ty.fit,Bool.and_eq_true] at hf;have hns:nm.size<=2097152:=of_decide_eq_true hf.1;have hfl:=hf.2
 show Calls Tryz.prog 187 #[.agg #[.int .i64 k,.string nm,.slice A l.length c]] w λe w'=>e=.returned (.bool (zdT (.mk k nm l)))/\Below w.heap.size w w'
 rw[zdT];have hl:=zqb h;have hc1:=hl.2.1;have hc2:=hl.2.2;have hn:l.length<=9223372036854775807:=Nat.le_trans hl.2.1 hl.2.2;obtain⟨w1,h1,b1,c1⟩:=zaj w #[.int .i64 k,.string nm,.slice A l.length c] 70;have x0:w1.cell? ⟨w.heap.size,0,none⟩=some (.int .i64 k):=c1.cell 0;have x1:w1.cell? ⟨w.heap.size,1,none⟩=some (.string nm):=c1.cell 1;have x2:w1.cell? ⟨w.heap.size,2,none⟩=some (.slice A l.length c):=c1.cell 2;have HB1:=zz b1;have HR:=zz h;have HI:=zz IH;have HFL:=zz hfl;have KU:=zz (zma nm w1 hns);obtain⟨R,hR⟩:∃R,(if k=1\/k=2\/k=3\/k=4 then decide (nm=⟨#[]⟩)&&l.isEmpty else if k=6\/k=7 then zaw nm&&l.isEmpty else if k=5 then decide (nm=⟨#[]⟩)&&decide (l.length=1)&&zcp l else if k=8 then decide (nm=⟨#[]⟩)&&!l.isEmpty&&zcp l else false)=R:=⟨_,rfl⟩;rw[hR];have hie:l.isEmpty=decide (l.length=0):=by cases l<;>simp
 rw[hie] at hR;clear b1 c1 hl h IH hf hns hfl hie;rcases (show k=1\/k=2\/k=3\/k=4\/k=6\/k=7\/k=5\/k=8\/(k≠1/\k≠2/\k≠3/\k≠4/\k≠6/\k≠7/\k≠5/\k≠8) by omega) with rfl|rfl|rfl|rfl|rfl|rfl|rfl|rfl|hz
 ·rw[if_pos (by omega)] at hR
  by_cases hnm:nm=⟨#[]⟩
  ·have g1:nm.toList.isEmpty=true:=by rw[hnm,ByteArray.toList_eq];rfl
   by_cases hl0:l.length=0
   ·have g2:((l.length:Int) == 0)=true:=by rw[beq_iff_eq];omega
    have HQ:Hid (true=R):=zz (by rw[<-hR,decide_eq_true hnm,decide_eq_true hl0];rfl);clear hR hnm hl0;go_enter Tryz.func187,Tryz.ntmps187;go_wp2;go_ret;exact⟨by rw[<-HQ.out];rfl,HB1.out⟩
   ·have g2:((l.length:Int) == 0)=false:=by rw[beq_eq_false_iff_ne];omega
    have HQ:Hid (false=R):=zz (by rw[<-hR,decide_eq_true hnm,decide_eq_false hl0];rfl);clear hR hnm hl0;go_enter Tryz.func187,Tryz.ntmps187;go_wp2;go_ret;exact⟨by rw[<-HQ.out];rfl,HB1.out⟩
  ·have g1:nm.toList.isEmpty=false:=zcV hnm;have HQ:Hid (false=R):=zz (by rw[<-hR,decide_eq_false hnm];rfl);clear hR hnm;go_enter Tryz.func187,Tryz.ntmps187;go_wp2;go_ret;exact⟨by rw[<-HQ.out];rfl,HB1.out⟩
 ·rw[if_pos (by omega)] at hR
  by_cases hnm:nm=⟨#[]⟩
  ·have g1:nm.toList.isEmpty=true:=by rw[hnm,ByteArray.toList_eq];rfl
   by_cases hl0:l.length=0
   ·have g2:((l.length:Int) == 0)=true:=by rw[beq_iff_eq];omega
    have HQ:Hid (true=R):=zz (by rw[<-hR,decide_eq_true hnm,decide_eq_true hl0];rfl);clear hR hnm hl0;go_enter Tryz.func187,Tryz.ntmps187;go_wp2;go_ret;exact⟨by rw[<-HQ.out];rfl,HB1.out⟩
   ·have g2:((l.length:Int) == 0)=false:=by rw[beq_eq_false_iff_ne];omega
    have HQ:Hid (false=R):=zz (by rw[<-hR,decide_eq_true hnm,decide_eq_false hl0];rfl);clear hR hnm hl0;go_enter Tryz.func187,Tryz.ntmps187;go_wp2;go_ret;exact⟨by rw[<-HQ.out];rfl,HB1.out⟩
  ·have g1:nm.toList.isEmpty=false:=zcV hnm;have HQ:Hid (false=R):=zz (by rw[<-hR,decide_eq_false hnm];rfl);clear hR hnm;go_enter Tryz.func187,Tryz.ntmps187;go_wp2;go_ret;exact⟨by rw[<-HQ.out];rfl,HB1.out⟩
 ·rw[if_pos (by omega)] at hR
  by_cases hnm:nm=⟨#[]⟩
  ·have g1:nm.toList.isEmpty=true:=by rw[hnm,ByteArray.toList_eq];rfl
   by_cases hl0:l.length=0
   ·have g2:((l.length:Int) == 0)=true:=by rw[beq_iff_eq];omega
    have HQ:Hid (true=R):=zz (by rw[<-hR,decide_eq_true hnm,decide_eq_true hl0];rfl);clear hR hnm hl0;go_enter Tryz.func187,Tryz.ntmps187;go_wp2;go_ret;exact⟨by rw[<-HQ.out];rfl,HB1.out⟩
   ·have g2:((l.length:Int) == 0)=false:=by rw[beq_eq_false_iff_ne];omega
    have HQ:Hid (false=R):=zz (by rw[<-hR,decide_eq_true hnm,decide_eq_false hl0];rfl);clear hR hnm hl0;go_enter Tryz.func187,Tryz.ntmps187;go_wp2;go_ret;exact⟨by rw[<-HQ.out];rfl,HB1.out⟩
  ·have g1:nm.toList.isEmpty=false:=zcV hnm;have HQ:Hid (false=R):=zz (by rw[<-hR,decide_eq_false hnm];rfl);clear hR hnm;go_enter Tryz.func187,Tryz.ntmps187;go_wp2;go_ret;exact⟨by rw[<-HQ.out];rfl,HB1.out⟩
 ·rw[if_pos (by omega)] at hR
  by_cases hnm:nm=⟨#[]⟩
  ·have g1:nm.toList.isEmpty=true:=by rw[hnm,ByteArray.toList_eq];rfl
   by_cases hl0:l.length=0
   ·have g2:((l.length:Int) == 0)=true:=by rw[beq_iff_eq];omega
    have HQ:Hid (true=R):=zz (by rw[<-hR,decide_eq_true hnm,decide_eq_true hl0];rfl);clear hR hnm hl0;go_enter Tryz.func187,Tryz.ntmps187;go_wp2;go_ret;exact⟨by rw[<-HQ.out];rfl,HB1.out⟩
   ·have g2:((l.length:Int) == 0)=false:=by rw[beq_eq_false_iff_ne];omega
    have HQ:Hid (false=R):=zz (by rw[<-hR,decide_eq_true hnm,decide_eq_false hl0];rfl);clear hR hnm hl0;go_enter Tryz.func187,Tryz.ntmps187;go_wp2;go_ret;exact⟨by rw[<-HQ.out];rfl,HB1.out⟩
  ·have g1:nm.toList.isEmpty=false:=zcV hnm;have HQ:Hid (false=R):=zz (by rw[<-hR,decide_eq_false hnm];rfl);clear hR hnm;go_enter Tryz.func187,Tryz.ntmps187;go_wp2;go_ret;exact⟨by rw[<-HQ.out];rfl,HB1.out⟩
 ·rw[if_neg (by omega),if_pos (by omega)] at hR;cases hu:zaw nm with
  |true=>
   rw[hu] at KU hR
   by_cases hl0:l.length=0
   ·have g2:((l.length:Int) == 0)=true:=by rw[beq_iff_eq];omega
    have HQ:Hid (true=R):=zz (by rw[<-hR,decide_eq_true hl0];rfl);clear hR hl0 hu;go_enter Tryz.func187,Tryz.ntmps187;go_wp2_with fail;(with_reducible refine KU.out.mono ?_);rintro e w2 ⟨rfl,rfl⟩;go_wp2;go_ret;exact⟨by rw[<-HQ.out];rfl,HB1.out⟩
   ·have g2:((l.length:Int) == 0)=false:=by rw[beq_eq_false_iff_ne];omega
    have HQ:Hid (false=R):=zz (by rw[<-hR,decide_eq_false hl0];rfl);clear hR hl0 hu;go_enter Tryz.func187,Tryz.ntmps187;go_wp2_with fail;(with_reducible refine KU.out.mono ?_);rintro e w2 ⟨rfl,rfl⟩;go_wp2;go_ret;exact⟨by rw[<-HQ.out];rfl,HB1.out⟩
  |false=>
   rw[hu] at KU hR;have HQ:Hid (false=R):=zz hR;clear hR hu;go_enter Tryz.func187,Tryz.ntmps187;go_wp2_with fail;(with_reducible refine KU.out.mono ?_);rintro e w2 ⟨rfl,rfl⟩;go_wp2;go_ret;exact⟨by rw[<-HQ.out];rfl,HB1.out⟩
 ·rw[if_neg (by omega),if_pos (by omega)] at hR;cases hu:zaw nm with
  |true=>
   rw[hu] at KU hR
   by_cases hl0:l.length=0
   ·have g2:((l.length:Int) == 0)=true:=by rw[beq_iff_eq];omega
    have HQ:Hid (true=R):=zz (by rw[<-hR,decide_eq_true hl0];rfl);clear hR hl0 hu;go_enter Tryz.func187,Tryz.ntmps187;go_wp2_with fail;(with_reducible refine KU.out.mono ?_);rintro e w2 ⟨rfl,rfl⟩;go_wp2;go_ret;exact⟨by rw[<-HQ.out];rfl,HB1.out⟩
   ·have g2:((l.length:Int) == 0)=false:=by rw[beq_eq_false_iff_ne];omega
    have HQ:Hid (false=R):=zz (by rw[<-hR,decide_eq_false hl0];rfl);clear hR hl0 hu;go_enter Tryz.func187,Tryz.ntmps187;go_wp2_with fail;(with_reducible refine KU.out.mono ?_);rintro e w2 ⟨rfl,rfl⟩;go_wp2;go_ret;exact⟨by rw[<-HQ.out];rfl,HB1.out⟩
  |false=>
   rw[hu] at KU hR;have HQ:Hid (false=R):=zz hR;clear hR hu;go_enter Tryz.func187,Tryz.ntmps187;go_wp2_with fail;(with_reducible refine KU.out.mono ?_);rintro e w2 ⟨rfl,rfl⟩;go_wp2;go_ret;exact⟨by rw[<-HQ.out];rfl,HB1.out⟩
 ·rw[if_neg (by omega),if_neg (by omega),if_pos rfl] at hR
  by_cases hnm:nm=⟨#[]⟩
  ·have g1:nm.toList.isEmpty=true:=by rw[hnm,ByteArray.toList_eq];rfl
   by_cases hl0:l.length=1
   ·have g2:((l.length:Int) == 1)=true:=by rw[beq_iff_eq];omega
    obtain⟨b,off,y,e,hlb,hget,A',c',p0,p1,p2,r5⟩:=znN (HR.out.belows HB1.out) (i:=0) (by omega);subst e
    have hly:l=[y]:=by
     match l,hl0,hget with
     |[a],_,hg=>simp at hg;rw[hg]
    have hlp:0<l.length:=by omega
    have KF:=zz (HI.out y (List.mem_of_getElem? hget) A' c' w1 (zhZ HFL.out (List.mem_of_getElem? hget)) r5);rw[decide_eq_true hnm,decide_eq_true hl0] at hR;have HQ:Hid (zdT y=R):=zz (by rw[<-hR,hly,zgF,zin];simp);simp only[Nat.zero_mul,Nat.add_zero] at p0 p1 p2;clear hR hnm hl0 hly hget r5 hlb;go_enter Tryz.func187,Tryz.ntmps187;go_wp2_with fail;(with_reducible refine KF.out.mono ?_);rintro e w2 ⟨rfl,hb2⟩;have HB2:=zz (zac HB1.out hb2 HB1.out.size);clear hb2;go_wp2;go_ret;exact⟨by rw[<-HQ.out];rfl,HB2.out⟩
   ·have g2:((l.length:Int) == 1)=false:=by rw[beq_eq_false_iff_ne];omega
    have HQ:Hid (false=R):=zz (by rw[<-hR,decide_eq_true hnm,decide_eq_false hl0];rfl);clear hR hnm hl0;go_enter Tryz.func187,Tryz.ntmps187;go_wp2;go_ret;exact⟨by rw[<-HQ.out];rfl,HB1.out⟩
  ·have g1:nm.toList.isEmpty=false:=zcV hnm;have HQ:Hid (false=R):=zz (by rw[<-hR,decide_eq_false hnm];rfl);clear hR hnm;go_enter Tryz.func187,Tryz.ntmps187;go_wp2;go_ret;exact⟨by rw[<-HQ.out];rfl,HB1.out⟩
 ·rw[if_neg (by omega),if_neg (by omega),if_neg (by omega),if_pos rfl] at hR
  by_cases hnm:nm=⟨#[]⟩
  ·have g1:nm.toList.isEmpty=true:=by rw[hnm,ByteArray.toList_eq];rfl
   by_cases hl0:l.length=0
   ·have g2:((l.length:Int) == 0)=true:=by rw[beq_iff_eq];omega
    have HQ:Hid (false=R):=zz (by rw[<-hR,decide_eq_true hnm,decide_eq_true hl0];rfl);clear hR hnm hl0;go_enter Tryz.func187,Tryz.ntmps187;go_wp2;go_ret;exact⟨by rw[<-HQ.out];rfl,HB1.out⟩
   ·have g2:((l.length:Int) == 0)=false:=by rw[beq_eq_false_iff_ne];omega
    have HA0:Hid (zcp (l.drop 0)=R):=zz (by rw[List.drop_zero,<-hR,decide_eq_true hnm,decide_eq_false hl0];simp);clear hR hnm hl0;go_enter Tryz.func187,Tryz.ntmps187;go_wp2_with fail;clear h1 x0 x1 x2
    go_loopw [65] (λs wr=>∃i:Nat,i<=l.length/\s=.int .i64 i/\Hid (zcp (l.drop i)=R)/\Hid (Below w.heap.size w wr)) (λs _=>l.length-(intOf s).toNat)
    case atStart=>exact⟨0,by omega,rfl,HA0,HB1⟩
    case round=>
     clear HA0 HB1;obtain⟨i,hi,rfl,HA,HB⟩:=hrel
     by_cases hlt:i<l.length
     ·obtain⟨b,off,y,e,hlb,hget,A',c',p0,p1,p2,r5⟩:=znN (HR.out.belows HB.out) hlt;subst e;have hin:(i:Int)<l.length:=by omega
      have q:=HA.out;rw[zal hget,zgF] at q;obtain⟨w3,hw3,hb3,hx3⟩:=zaj wr #[.int .i64 y.kind,.string y.name,.slice A' y.args.length c'] 70;have q0:=hx3.cell 0;have q1:=hx3.cell 1;have q2:=hx3.cell 2;have HB3:=zz (zac HB.out hb3 HB.out.size);have KF:=zz (HI.out y (List.mem_of_getElem? hget) A' c' w3 (zhZ HFL.out (List.mem_of_getElem? hget)) (r5.belows hb3));obtain⟨bf,hbf⟩:∃bf,zdT y=bf:=⟨_,rfl⟩;rw[hbf] at q KF;clear hbf r5 hb3 hx3 HA HB hget hlb;cases bf with
      |false=>
       have HQ:Hid (false=R):=zz q;clear q;go_wp2_with fail;(with_reducible refine KF.out.mono ?_);rintro e w4 ⟨rfl,hb4⟩;have HB4:=zz (zac HB3.out hb4 HB3.out.size);clear hb4 q0 q1 q2;go_wp2;go_ret;exact⟨by rw[<-HQ.out];rfl,HB4.out⟩
      |true=>
       have HQ:Hid (zcp (l.drop (i+1))=R):=zz (by simpa using q);clear q;go_wp2_with fail;(with_reducible refine KF.out.mono ?_);rintro e w4 ⟨rfl,hb4⟩;have HB4:=zz (zac HB3.out hb4 HB3.out.size);clear hb4 q0 q1 q2;go_wp2_with fail;exact⟨⟨i+1,by omega,by go_num,HQ,HB4⟩,by simp[intOf];omega⟩
     ·have HQ:Hid (true=R):=zz (by
       have q:=HA.out;rw[List.drop_eq_nil_of_le (by omega),zin] at q;exact q)
      clear HA;go_wp2;go_ret;exact⟨by rw[<-HQ.out];rfl,HB.out⟩
  ·have g1:nm.toList.isEmpty=false:=zcV hnm;have HQ:Hid (false=R):=zz (by rw[<-hR,decide_eq_false hnm];rfl);clear hR hnm;go_enter Tryz.func187,Tryz.ntmps187;go_wp2;go_ret;exact⟨by rw[<-HQ.out];rfl,HB1.out⟩
 ·rw[if_neg (by omega),if_neg (by omega),if_neg (by omega),if_neg (by omega)] at hR;have g1:(k == 1)=false:=by rw[beq_eq_false_iff_ne];omega
  have g2:(k == 2)=false:=by rw[beq_eq_false_iff_ne];omega
  have g3:(k == 3)=false:=by rw[beq_eq_false_iff_ne];omega
  have g4:(k == 4)=false:=by rw[beq_eq_false_iff_ne];omega
  have g5:(k == 5)=false:=by rw[beq_eq_false_iff_ne];omega
  have g6:(k == 6)=false:=by rw[beq_eq_false_iff_ne];omega
  have g7:(k == 7)=false:=by rw[beq_eq_false_iff_ne];omega
  have g8:(k == 8)=false:=by rw[beq_eq_false_iff_ne];omega
  have HQ:Hid (false=R):=zz hR;clear hR hz;go_enter Tryz.func187,Tryz.ntmps187;go_wp2;go_ret;exact⟨by rw[<-HQ.out];rfl,HB1.out⟩
theorem ziQ:∀t:Ty,FmAt t
 |.mk k n a=>zsQ k n a (λx _hx=>ziQ x)
end Go.Proofs.YtcebmphappfjjaaGreatDoor
