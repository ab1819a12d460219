/- Conditions: those in each statement. -/
import Derived.Test.YtjdpocmlimkjjaaGreatQ03
set_option maxHeartbeats 32000000
set_option maxRecDepth 100000
namespace Go.Proofs.YtjdpocmlimkjjaaGreat
theorem zhM {s:ByteArray} {l:List ByteArray}:memB s l=true↔s∈l:=by
 unfold memB;rw[List.any_eq_true]
 constructor
 ·rintro⟨x,hx,h⟩;have:=of_decide_eq_true h;subst this;exact hx
 ·intro h;exact⟨s,h,by simp⟩
theorem zka {s:ByteArray} {l:List ByteArray}:memB s l=false↔s∉l:=by
 rw[←Bool.not_eq_true,zhM]
theorem zeu (x:ByteArray) (r:List ByteArray) (s:ByteArray):zcW (x::r) s=if x=s then some 0 else (zcW r s).map (·+1):=by
 unfold zcW;rw[List.findIdx?_cons]
 by_cases h:x=s<;>simp[h]
theorem zgH:∀(l:List ByteArray) (i:Nat) (s:ByteArray),l.Nodup→l[i]?=some s→zcW l s=some i
 |[],i,s,_,h=>by simp at h
 |x::r,0,s,_,h=>by
  simp at h;rw[zeu,if_pos h]
 |x::r,i+1,s,hn,h=>by
  rw[List.nodup_cons] at hn;have h':r[i]?=some s:=by simpa using h
  have hm:s∈r:=List.mem_of_getElem? h';rw[zeu,if_neg (λe:x=s=>hn.1 (by rw[e];exact hm)),zgH r i s hn.2 h']
  rfl
theorem zfN:∀{l:List ByteArray} {s:ByteArray},s∉l→zcW l s=none
 |[],s,_=>rfl
 |x::r,s,h=>by
  rw[List.mem_cons,not_or] at h;rw[zeu,if_neg (λe=>h.1 e.symm),zfN h.2];rfl
theorem ziC:∀{l:List ByteArray} {s:ByteArray},s∈l→(zcW l s).isSome=true
 |x::r,s,h=>by
  rw[zeu]
  by_cases hx:x=s
  ·rw[if_pos hx];rfl
  ·rw[if_neg hx];rcases List.mem_cons.1 h with h|h
   ·exact absurd h.symm hx
   ·have:=ziC h;cases hf:zcW r s with
    |none=>rw[hf] at this;cases this
    |some i=>rfl
theorem ziJ:∀(l:List Nd) (seen c:List ByteArray),zaJ l seen=(none,c)→seen.Nodup→c=seen++l.map Nd.text∧c.Nodup
 |[],seen,c,h,hs=>by
  rw[zaJ] at h;injection h with _ h;subst h;exact⟨by simp,hs⟩
 |n::r,seen,c,h,hs=>by
  rw[zaJ] at h
  split at h
  ·injection h with h;cases h
  ·rename_i hm;have hm:n.text∉seen:=λe=>hm (zhM.2 e)
   obtain⟨h1,h2⟩:=ziJ r _ c h (by
    rw[List.nodup_append];refine⟨hs,by simp,λa ha b hb=>?_⟩;simp at hb;subst hb;exact λe=>hm (e▸ha))
   exact⟨by rw[h1];simp,h2⟩
def tyNs (n:Nd):List ByteArray:=if n.kind=2∨n.kind=3 then [n.text] else []
def acNs (n:Nd):List ByteArray:=if n.kind=6 then [n.text] else []
def ctNs (n:Nd):List ByteArray:=if n.kind=2 then [n.text] else if n.kind=3 then n.kids.map Nd.text else []
theorem ziE {a b:List ByteArray} {x:ByteArray} (h:(a++b).Nodup) (h1:x∉a) (h2:x∉b):((a++[x])++b).Nodup:=by
 rw[List.append_assoc,List.nodup_append];obtain⟨ha,hb,hab⟩:=List.nodup_append.1 h;refine⟨ha,?_,λy hy z hz=>?_⟩
 ·rw[List.singleton_append,List.nodup_cons];exact⟨h2,hb⟩
 ·rw[List.singleton_append,List.mem_cons] at hz;rcases hz with rfl|hz
  ·exact λe=>h1 (e▸hy)
  ·exact hab y hy z hz
theorem zkt {a:List ByteArray} {x:ByteArray} (h:a.Nodup) (h1:x∉a):(a++[x]).Nodup:=by
 have:=ziE (a:=a) (b:=[]) (x:=x) (by simpa using h) h1 (by simp)
 simpa using this
theorem zgx:∀(l:List Nd) (s:Nms),zcl l s=none→(s.types++s.actors).Nodup→s.ctors.Nodup→
 ((s.types++l.flatMap tyNs)++(s.actors++l.flatMap acNs)).Nodup∧(s.ctors++l.flatMap ctNs).Nodup
 |[],s,_,h1,h2=>by simpa using ⟨h1,h2⟩
 |n::r,s,h,h1,h2=>by
  rw[zcl] at h
  split at h
  ·cases h
  rename_i hb;have hb:badN n s=false:=by simpa using hb
  rw[List.flatMap_cons,List.flatMap_cons,List.flatMap_cons];unfold badN at hb;unfold addN at h
  by_cases k2:n.kind=2
  ·rw[if_pos k2] at hb;have hb:=Bool.or_eq_false_iff.1 hb;obtain⟨hb1,hb3⟩:=hb;obtain⟨hb1,hb2⟩:=Bool.or_eq_false_iff.1 hb1;rw[zka] at hb1 hb2 hb3
   have hw:zcz n (s.ctors++[n.text])=((zaJ (zaL n.kids) []).1,s.ctors++[n.text]):=by
    unfold zcz;rw[if_neg (by omega)];cases hq:(zaJ (zaL n.kids) []).1 with
    |none=>simp[k2]
    |some a=>rfl
   simp only[if_pos k2,hw] at h;cases hq:(zaJ (zaL n.kids) []).1 with
   |some a=>rw[hq] at h;cases h
   |none=>
    rw[hq] at h;have:=zgx r _ h (ziE h1 hb1 hb2) (zkt h2 hb3)
    simpa [tyNs,acNs,ctNs,k2,List.append_assoc] using this
  ·rw[if_neg k2] at hb
   by_cases k3:n.kind=3
   ·rw[if_pos (.inl k3)] at hb;obtain⟨hb1,hb2⟩:=Bool.or_eq_false_iff.1 hb;rw[zka] at hb1 hb2;simp only[if_neg k2,if_pos k3,zcz] at h;cases hq:zaJ n.kids s.ctors with
    |mk o c=>
     rw[hq] at h;cases o with
     |some a=>cases h
     |none=>
      obtain⟨hc1,hc2⟩:=ziJ _ _ _ hq h2;have:=zgx r _ h (ziE h1 hb1 hb2) hc2;simp only at this;rw[hc1] at this
      simpa [tyNs,acNs,ctNs,k3,List.append_assoc] using this
   ·by_cases k6:n.kind=6
    ·rw[if_pos (.inr k6)] at hb;obtain⟨hb1,hb2⟩:=Bool.or_eq_false_iff.1 hb;rw[zka] at hb1 hb2
     have h1':(s.types++(s.actors++[n.text])).Nodup:=by
      rw[←List.append_assoc];exact zkt h1 (by rw[List.mem_append,not_or];exact⟨hb1,hb2⟩)
     simp only[if_neg k2,if_neg k3,if_pos k6,zcz] at h
     have hfin:∀x:Option Int × List ByteArray,x.2=s.ctors→(match x with|(some a,_)=>some a|(none,c)=>zcl r {types:=s.types,actors:=s.actors++[n.text],ctors:=c,effects:=s.effects,funs:=s.funs})=none→zcl r {types:=s.types,actors:=s.actors++[n.text],ctors:=s.ctors,effects:=s.effects,funs:=s.funs}=none:=by
      rintro⟨o,c⟩ hc hx;simp only at hc;subst hc;cases o with
      |some a=>cases hx
      |none=>exact hx
     have h':=hfin _ (by cases (zaJ (zaL n.kids) []).1<;>rfl) h;have:=zgx r _ h' h1' h2
     simpa [tyNs,acNs,ctNs,k2,k3,k6,List.append_assoc] using this
    ·have hadd:∀c:List ByteArray,∃e f,((if n.kind=5 then {types:=s.types,actors:=s.actors,ctors:=s.ctors,effects:=s.effects,funs:=s.funs++[n.text] } else if n.kind=4 then {types:=s.types,actors:=s.actors,ctors:=s.ctors,effects:=s.effects++[n.text],funs:=s.funs} else s):Nms)=⟨s.types,s.actors,s.ctors,e,f⟩:=λc=>by
      split
      ·exact⟨_,_,rfl⟩
      ·split
       ·exact⟨_,_,rfl⟩
       ·exact⟨_,_,rfl⟩
     obtain⟨e,f,hs⟩:=hadd [];simp only[if_neg k2,if_neg k3,if_neg k6,zcz,hs] at h;cases hq:(zaJ (zaL n.kids) []).1 with
     |some a=>rw[hq] at h;cases h
     |none=>
      rw[hq] at h;have:=zgx r _ h h1 h2
      simpa [tyNs,acNs,ctNs,k2,k3,k6] using this
structure zpT (n:Nd) (t:Ty):Prop where
 read:zfp n=some t
 formed:zbJ t=true
 decl:∀(p:Prg) (ts acs:List ByteArray),(∀s,memB s ts=true→(zmd p s).isSome=true)→(∀s,memB s acs=true→(zhZ p s).isSome=true)→zbc ts acs n=none→zbz p t=true
structure zmP (l:List Nd) (t:List Ty):Prop where
 read:zer l=some t
 len:t.length=l.length
 formed:zbZ t=true
 decl:∀(p:Prg) (ts acs:List ByteArray),(∀s,memB s ts=true→(zmd p s).isSome=true)→(∀s,memB s acs=true→(zhZ p s).isSome=true)→zbx ts acs l=none→zaP p t=true
theorem zpT.cons {n:Nd} {l:List Nd} {t:Ty} {r:List Ty} (h:zpT n t) (k:zmP l r):zmP (n::l) (t::r):=by
 refine⟨?_,by simp[k.len],?_,λp ts acs h1 h2 h3=>?_⟩
 ·rw[zer,h.read];simp only;rw[k.read]
 ·rw[zbZ,h.formed,k.formed];rfl
 ·rw[zbx] at h3;rw[zaP];cases hu:zbc ts acs n with
  |some a=>rw[hu] at h3;cases h3
  |none=>rw[hu] at h3;rw[h.decl p ts acs h1 h2 hu,k.decl p ts acs h1 h2 h3];rfl
theorem zkL {g:Nd→Bool} (hg:∀n,g n=true→∃t,zpT n t):∀l:List Nd,l.all g=true→∃t,zmP l t
 |[],_=>⟨[],by rw[zer],rfl,by rw[zbZ],λp ts acs _ _ _=>by rw[zaP]⟩
 |n::r,h=>by
  rw[List.all_cons,Bool.and_eq_true] at h;obtain⟨t,ht⟩:=hg n h.1;obtain⟨ts,hts⟩:=zkL hg r h.2;exact⟨_,ht.cons hts⟩
theorem zqf {s:ByteArray} (h:zfu s=true):zbr s=1∨zbr s=2∨zbr s=3∨zbr s=4:=by
 unfold zfu at h;unfold zbr
 by_cases h1:s=(⟨#[105,110,116]⟩:ByteArray)
 ·rw[if_pos h1];simp
 by_cases h2:s=(⟨#[98,111,111,108]⟩:ByteArray)
 ·rw[if_neg h1,if_pos h2];simp
 by_cases h3:s=(⟨#[116,101,120,116]⟩:ByteArray)
 ·rw[if_neg h1,if_neg h2,if_pos h3];simp
 by_cases h4:s=(⟨#[117,110,105,116]⟩:ByteArray)
 ·rw[if_neg h1,if_neg h2,if_neg h3,if_pos h4];simp
 simp[h1,h2,h3,h4] at h
theorem zgm {l:List Nd} {g:Nd→Bool} (h:zaA l [g]=true):∃n,l=[n]∧g n=true:=by
 match l with
 |[]=>simp[zaA] at h
 |[n]=>simp[zaA] at h;exact⟨n,rfl,h⟩
 |n::m::r=>simp[zaA] at h
theorem zgg {l:List Nd} {g g':Nd→Bool} (h:zaA l [g,g']=true):∃n m,l=[n,m]∧g n=true∧g' m=true:=by
 match l with
 |[]=>simp[zaA] at h
 |[n]=>simp[zaA] at h
 |[n,m]=>simp[zaA] at h;exact⟨n,m,rfl,h⟩
 |n::m::x::r=>simp[zaA] at h
theorem zpq {rec:ST→Nd→Bool} {n:Nd} (h:zhG rec n=true):n.kind=12∨n.kind=13∨n.kind=14∨n.kind=15:=by
 unfold zhG at h
 by_cases h1:n.kind=12
 ·exact .inl h1
 by_cases h2:n.kind=13
 ·exact .inr (.inl h2)
 by_cases h3:n.kind=14
 ·exact .inr (.inr (.inl h3))
 by_cases h4:n.kind=15
 ·exact .inr (.inr (.inr h4))
 simp[h1,h2,h3,h4] at h
theorem zgW:∀(f:Nat) (n:Nd),zad f .type n=true→∃t,zpT n t
 |0,n,h=>by cases h
 |f+1,⟨k,s,m,a,l⟩,h=>by
  have h:zhG (zad f) ⟨k,s,m,a,l⟩=true:=h;unfold zhG at h;simp only[show (Nd.mk k s m a l).kind=k from rfl] at h
  by_cases k12:k=12
  ·subst k12;rw[if_pos rfl] at h;have h:((zcw s&&decide (m=0))&&l.isEmpty)=true:=h;simp only[Bool.and_eq_true,List.isEmpty_iff,decide_eq_true_eq] at h;obtain⟨⟨h1,rfl⟩,rfl⟩:=h
   by_cases hb:zbr s=0
   ·have hu:zaw s=true:=by
     unfold zcw at h1;rw[Bool.or_eq_true] at h1;rcases h1 with h1|h1
     ·have:=zqf h1;omega
     ·exact h1
    refine⟨.mk 6 s [],?_,?_,λp ts acs h1 h2 h3=>?_⟩
    ·rw[zfp];simp[hb,hu]
    ·rw[zbJ];simp[hu]
    ·rw[zbc] at h3
     have hm:memB s ts=true:=by
      cases hm:memB s ts with
      |true=>rfl
      |false=>rw[if_pos (.inl ⟨rfl,hb,hm⟩)] at h3;cases h3
     rw[zbz,zaP];simp[h1 s hm]
   ·have hf:zbr s=1∨zbr s=2∨zbr s=3∨zbr s=4:=by
     unfold zbr at hb ⊢
     split
     ·simp
     ·split
      ·simp
      ·split
       ·simp
       ·split
        ·simp
        ·rename_i e1 e2 e3 e4;simp[e1,e2,e3,e4] at hb
    refine⟨.mk (zbr s) ⟨#[]⟩ [],?_,?_,λp ts acs h1 h2 h3=>?_⟩
    ·rw[zfp];simp[hb]
    ·rw[zbJ,if_pos (by omega)];simp
    ·rw[zbz,zaP,if_neg (by omega),if_neg (by omega)];rfl
  ·rw[if_neg k12] at h
   by_cases k13:k=13
   ·subst k13;rw[if_pos rfl] at h;have h:((decide (s=⟨#[]⟩)&&decide (m=0))&&zaA l [zad f .type])=true:=h;simp only[Bool.and_eq_true,decide_eq_true_eq] at h;obtain⟨⟨rfl,rfl⟩,h3⟩:=h;obtain⟨x,rfl,hx⟩:=zgm h3;obtain⟨t,ht⟩:=zgW f x hx;have hl:zmP [x] [t]:=ht.cons ⟨by rw[zer],rfl,by rw[zbZ],λp ts acs _ _ _=>by rw[zaP]⟩;refine⟨.mk 5 ⟨#[]⟩ [t],?_,?_,λp ts acs h1 h2 h3=>?_⟩
    ·rw[zfp,hl.read];simp
    ·rw[zbJ,hl.formed];simp
    ·rw[zbc,if_neg (by omega)] at h3;rw[zbz,hl.decl p ts acs h1 h2 h3,if_neg (by omega),if_neg (by omega)];rfl
   ·rw[if_neg k13] at h
    by_cases k14:k=14
    ·subst k14;rw[if_pos rfl] at h;have h:((zaw s&&decide (m=0))&&l.isEmpty)=true:=h;simp only[Bool.and_eq_true,List.isEmpty_iff,decide_eq_true_eq] at h;obtain⟨⟨hu,rfl⟩,rfl⟩:=h;refine⟨.mk 7 s [],?_,?_,λp ts acs h1 h2 h3=>?_⟩
     ·rw[zfp];simp[hu]
     ·rw[zbJ];simp[hu]
     ·rw[zbc] at h3
      have hm:memB s acs=true:=by
       cases hm:memB s acs with
       |true=>rfl
       |false=>rw[if_pos (.inr ⟨rfl,hm⟩)] at h3;cases h3
      rw[zbz,zaP];simp[h2 s hm]
    ·rw[if_neg k14] at h
     by_cases k15:k=15
     ·subst k15;rw[if_pos rfl] at h;have h:(((decide (s=⟨#[]⟩)&&decide (m=0))&&!l.isEmpty)&&l.all (zad f .type))=true:=h;simp only[Bool.and_eq_true,decide_eq_true_eq] at h;obtain⟨⟨⟨rfl,rfl⟩,h3⟩,h4⟩:=h;obtain⟨ts,hts⟩:=zkL (λn hn=>zgW f n hn) l h4;have hl:l≠[]:=by rintro rfl;simp at h3
      have hl0:0<l.length:=List.length_pos_iff.2 hl;have ht0:ts≠[]:=by rintro rfl;have:=hts.len;simp at this;omega
      refine⟨.mk 8 ⟨#[]⟩ ts,?_,?_,λp ts acs h1 h2 h3=>?_⟩
      ·rw[zfp,hts.read];simp[hl0]
      ·rw[zbJ,hts.formed];simp[ht0]
      ·rw[zbc,if_neg (by omega)] at h3;rw[zbz,hts.decl p ts acs h1 h2 h3,if_neg (by omega),if_neg (by omega)];rfl
     ·rw[if_neg k15] at h;cases h
theorem zel:∀(fs:List Nd) (t:Nd) (r:List Nd),(∀x∈fs,x.kind=7)→t.kind≠7→zaL (fs++t::r)=fs
 |[],t,r,_,h=>by unfold zaL;simp[h]
 |x::fs,t,r,h,ht=>by
  have:=zel fs t r (λy hy=>h y (List.mem_cons_of_mem _ hy)) ht;unfold zaL at this ⊢;rw[List.cons_append,List.takeWhile_cons_of_pos (by simpa using h x List.mem_cons_self),this]
theorem zmU:∀(fs:List Nd),(∀x∈fs,x.kind=7)→zaL fs=fs
 |[],_=>rfl
 |x::fs,h=>by
  have:=zmU fs (λy hy=>h y (List.mem_cons_of_mem _ hy));unfold zaL at this ⊢;rw[List.takeWhile_cons_of_pos (by simpa using h x List.mem_cons_self),this]
theorem zes:∀(l:List Nd) (x:Nd),x∈zaL l→x.kind=7∧x∈l
 |[],x,h=>by cases h
 |y::l,x,h=>by
  unfold zaL at h
  by_cases hy:y.kind=7
  ·rw[List.takeWhile_cons_of_pos (by simpa using hy)] at h;rcases List.mem_cons.1 h with rfl|h
   ·exact⟨hy,List.mem_cons_self⟩
   ·have:=zes l x h;exact⟨this.1,List.mem_cons_of_mem _ this.2⟩
  ·rw[List.takeWhile_cons_of_neg (by simpa using hy)] at h;cases h
theorem zgt {l:List Nd} {g h:Nd→Bool} (e:zcg l g [h]=true):∃fs t,l=fs++[t]∧fs.all g=true∧h t=true:=by
 unfold zcg at e;rw[Bool.and_eq_true,Bool.and_eq_true] at e;obtain⟨⟨_,e2⟩,e3⟩:=e;obtain⟨t,ht,hh⟩:=zgm e3;exact⟨_,t,by rw[←ht];exact(List.take_append_drop _ l).symm,e2,hh⟩
theorem zkS {l:List Nd} {g h h':Nd→Bool} (e:zcg l g [h,h']=true):∃fs t u,l=fs++[t,u]∧fs.all g=true∧h t=true∧h' u=true:=by
 unfold zcg at e;rw[Bool.and_eq_true,Bool.and_eq_true] at e;obtain⟨⟨_,e2⟩,e3⟩:=e;obtain⟨t,u,ht,hh⟩:=zgg e3;exact⟨_,t,u,by rw[←ht];exact(List.take_append_drop _ l).symm,e2,hh⟩
theorem zeT {f:Nat} {x:Nd} (h:zad f .field x=true):x.kind=7∧∃t,x.kids=[t]∧kid0 x=t∧∃g,zad g .type t=true:=by
 cases f with
 |zero=>cases h
 |succ f=>
  have h:zhX (zad f) x=true:=h;unfold zhX at h;rw[Bool.and_eq_true,Bool.and_eq_true] at h;obtain⟨t,ht,hr⟩:=zgm h.2;exact⟨of_decide_eq_true h.1.1,t,ht,by unfold kid0;rw[ht];rfl,f,hr⟩
theorem zcy {f:Nat} {l:List Nd} (h:l.all (zad f .field)=true):∀x∈l,x.kind=7:=λx hx=>(zeT (List.all_eq_true.1 h x hx)).1
theorem zdQ {f:Nat} {t:Nd} (h:zad f .type t=true):t.kind=12∨t.kind=13∨t.kind=14∨t.kind=15:=by
 cases f with
 |zero=>cases h
 |succ f=>exact zpq (rec:=zad f) h
def zba (p:Prg) (l:List Fld) (store:Bool):Bool:=l.all (λf=>zhz p f.ty&&(!store || zaZ f.ty))
def zjP (p:Prg):Bool:=
 p.types.all (λd=>d.ctors.all (λc=>zba p c.fields true))&&
 p.effects.all (λe=>zba p e.params true&&zba p [⟨⟨#[]⟩,e.answer⟩] true)&&
 p.funs.all (λf=>zba p f.params false&&zba p [⟨⟨#[]⟩,f.result⟩] false)&&
 p.actors.all (λa=>zba p a.params true&&a.vars.all (λv=>zba p [⟨⟨#[]⟩,v.ty⟩] true)&&a.on.all (λh=>zba p h.params true))
structure Good (p:Prg) (store:Bool) (t:Nd):Prop where
 right:zhz p (zcs t)=true
 stor:store=true→zaZ (zcs t)=true
theorem Good.typed {p:Prg} {store:Bool} {t:Nd} (h:Good p store t) (s:ByteArray):zba p [⟨s,zcs t⟩] store=true:=by
 unfold zba;rw[List.all_cons,List.all_nil,h.right];cases store with
 |false=>rfl
 |true=>rw[h.stor rfl];rfl
theorem zdX {p:Prg} {store:Bool} {l:List Nd} (h:∀x∈zaL l,Good p store (kid0 x)):zba p (zbk l) store=true:=by
 unfold zba zbk;rw[List.all_map,List.all_eq_true];intro x hx;have:=h x hx;simp only[Function.comp,this.right];cases store with
 |false=>rfl
 |true=>rw[this.stor rfl];rfl
section
variable {p:Prg} {ts acs:List ByteArray} (hts:∀s,memB s ts=true→(zmd p s).isSome=true) (has:∀s,memB s acs=true→(zhZ p s).isSome=true)
include hts has
theorem zeI {f:Nat} {t:Nd} {store:Bool} (h:zad f .type t=true) (hu:zbc ts acs t=none) (hst:store=true→zaZ (zcs t)=true):Good p store t:=by
 obtain⟨y,hy⟩:=zgW f t h;refine⟨?_,hst⟩;unfold zcs zhz;rw[hy.read];simp only[Option.getD_some];rw[hy.formed,hy.decl p ts acs hts has hu];rfl
theorem zlu {n:Nd} (hk:n.kind=2) (hd:zcN n=true) (hu:∀t∈zbo n,zbc ts acs t=none) (hs:∀t∈zbo n,zaZ (zcs t)=true):zba p (zbk n.kids) true=true:=by
 unfold zcN at hd;rw[if_pos hk,Bool.and_eq_true] at hd;refine zdX λx hx=>?_;have hm:=(zes _ _ hx).2;obtain⟨h7,t,h1,h2,g,h3⟩:=zeT (List.all_eq_true.1 hd.2 x hm);have hsg:kid0 x∈zbo n:=List.mem_flatMap.2 ⟨x,hm,by rw[if_pos h7];exact List.mem_singleton_self _⟩;exact zeI hts has (h2▸h3) (hu _ hsg) (λ_=>hs _ hsg)
theorem zhx {n:Nd} (hk:n.kind=3) (hd:zcN n=true) (hu:∀t∈zbo n,zbc ts acs t=none) (hs:∀t∈zbo n,zaZ (zcs t)=true):(zdH n).ctors.all (λc=>zba p c.fields true)=true∧(zdH n).ctors≠[]:=by
 unfold zcN at hd;rw[if_neg (by omega),if_pos hk,Bool.and_eq_true,Bool.and_eq_true] at hd;obtain⟨⟨_,hne⟩,hall⟩:=hd;unfold zdH;refine⟨?_,λe=>?_⟩
 ·rw[List.all_map,List.all_eq_true];intro x hx;have hc:=List.all_eq_true.1 hall x hx;unfold zhI at hc;rw[Bool.and_eq_true,Bool.and_eq_true,Bool.and_eq_true] at hc;obtain⟨⟨⟨_,h8⟩,_⟩,hts'⟩:=hc;have h8:=of_decide_eq_true h8;simp only[Function.comp];unfold zba;rw[List.all_map,List.all_eq_true];intro t ht;have hsg:t∈zbo n:=List.mem_flatMap.2 ⟨x,hx,by rw[if_neg (by omega),if_pos h8];exact ht⟩;have:=zeI (store:=true) hts has (List.all_eq_true.1 hts' t ht) (hu _ hsg) (λ_=>hs _ hsg);simp only[Function.comp,this.right,this.stor rfl];rfl
 ·have:n.kids=[]:=by simpa using e
  rw[this] at hne;simp at hne
theorem zlw {n:Nd} (hk:n.kind=4) (hd:zcN n=true) (hu:∀t∈zbo n,zbc ts acs t=none) (hs:∀t∈zbo n,zaZ (zcs t)=true):zba p (zbk n.kids) true=true∧zba p [⟨⟨#[]⟩,zby n.kids⟩] true=true:=by
 unfold zcN at hd;rw[if_neg (by omega),if_neg (by omega),if_pos hk,Bool.and_eq_true] at hd;obtain⟨fs,t,hl,hfs,ht⟩:=zgt hd.2;have hkt:=zdQ ht;have hlead:zaL n.kids=fs:=by rw[hl];exact zel fs t [] (zcy hfs) (by omega)
 refine⟨zdX λx hx=>?_,?_⟩
 ·rw[hlead] at hx;obtain⟨h7,y,h1,h2,g,h3⟩:=zeT (List.all_eq_true.1 hfs x hx);have hsg:kid0 x∈zbo n:=List.mem_flatMap.2 ⟨x,by rw[hl];exact List.mem_append_left _ hx,by rw[if_pos h7];exact List.mem_singleton_self _⟩;exact zeI hts has (h2▸h3) (hu _ hsg) (λ_=>hs _ hsg)
 ·have hsg:t∈zbo n:=List.mem_flatMap.2 ⟨t,by rw[hl];simp,by rw[if_neg (by omega),if_neg (by omega),if_neg (by omega),if_neg (by omega),if_pos hkt];exact List.mem_singleton_self _⟩;have hr:zby n.kids=zcs t:=by unfold zby;rw[hlead,hl];simp
  rw[hr];exact(zeI (store:=true) hts has ht (hu _ hsg) (λ_=>hs _ hsg)).typed _
theorem zqk {n:Nd} (hk:n.kind=5) (hd:zcN n=true) (hu:∀t∈zbo n,zbc ts acs t=none):zba p (zbk n.kids) false=true∧zba p [⟨⟨#[]⟩,zby n.kids⟩] false=true:=by
 unfold zcN at hd;rw[if_neg (by omega),if_neg (by omega),if_neg (by omega),if_pos hk,Bool.and_eq_true] at hd;obtain⟨fs,t,e,hl,hfs,ht,_⟩:=zkS hd.2;have hkt:=zdQ ht;have hlead:zaL n.kids=fs:=by rw[hl];exact zel fs t [e] (zcy hfs) (by omega)
 refine⟨zdX λx hx=>?_,?_⟩
 ·rw[hlead] at hx;obtain⟨h7,y,h1,h2,g,h3⟩:=zeT (List.all_eq_true.1 hfs x hx);have hsg:kid0 x∈zbo n:=List.mem_flatMap.2 ⟨x,by rw[hl];exact List.mem_append_left _ hx,by rw[if_pos h7];exact List.mem_singleton_self _⟩;exact zeI hts has (h2▸h3) (hu _ hsg) (λh=>by cases h)
 ·have hsg:t∈zbo n:=List.mem_flatMap.2 ⟨t,by rw[hl];simp,by rw[if_neg (by omega),if_neg (by omega),if_neg (by omega),if_neg (by omega),if_pos hkt];exact List.mem_singleton_self _⟩;have hr:zby n.kids=zcs t:=by unfold zby;rw[hlead,hl];simp
  rw[hr];exact(zeI (store:=false) hts has ht (hu _ hsg) (λh=>by cases h)).typed _
theorem znC {n:Nd} (hk:n.kind=6) (hd:zcN n=true) (hu:∀t∈zbo n,zbc ts acs t=none) (hs:∀t∈zbo n,zaZ (zcs t)=true) :
 zba p (zeF n).params true=true∧(zeF n).vars.all (λv=>zba p [⟨⟨#[]⟩,v.ty⟩] true)=true∧(zeF n).on.all (λh=>zba p h.params true)=true:=by
 unfold zcN at hd;rw[if_neg (by omega),if_neg (by omega),if_neg (by omega),if_neg (by omega),if_pos hk] at hd;simp only[Bool.and_eq_true] at hd;obtain⟨⟨_,hf⟩,hm⟩:=hd
 have hft:n.kids.take (zbR n.kids)=zaL n.kids:=by
  have h1:zaL n.kids <+: n.kids:=List.takeWhile_prefix _;exact(List.prefix_iff_eq_take.1 h1).symm
 rw[hft] at hf
 have hmem:∀x∈n.kids,x.kind=9∨x.kind=10→zcn 39 x=true:=λx hx hk=>by
  rw[←List.take_append_drop (zbR n.kids) n.kids,hft] at hx;rcases List.mem_append.1 hx with hx|hx
  ·have:=(zes _ _ hx).1;omega
  ·exact List.all_eq_true.1 hm x hx
 unfold zeF;refine⟨zdX λx hx=>?_,?_,?_⟩
 ·obtain⟨h7,y,h1,h2,g,h3⟩:=zeT (List.all_eq_true.1 hf x hx);have hsg:kid0 x∈zbo n:=List.mem_flatMap.2 ⟨x,(zes _ _ hx).2,by rw[if_pos h7];exact List.mem_singleton_self _⟩;exact zeI hts has (h2▸h3) (hu _ hsg) (λ_=>hs _ hsg)
 ·rw[List.all_map,List.all_eq_true];intro x hx;obtain⟨hx,h9⟩:=List.mem_filter.1 hx;have h9:=of_decide_eq_true h9;have hd:=hmem x hx (.inl h9);unfold zcn at hd;rw[if_pos h9,Bool.and_eq_true,Bool.and_eq_true] at hd;obtain⟨t,e,hl,ht,_⟩:=zgg hd.2.2;have hkt:=zdQ ht;have hsg:t∈zbo n:=List.mem_flatMap.2 ⟨x,hx,by rw[if_neg (by omega),if_neg (by omega),if_pos h9];unfold kid0;rw[hl];exact List.mem_singleton_self _⟩;have hlead:zaL x.kids=[]:=by rw[hl];exact zel [] t [e] (λ_ h=>by cases h) (by omega)
  have hr:zby x.kids=zcs t:=by unfold zby;rw[hlead,hl];simp
  simp only[Function.comp,hr];exact(zeI (store:=true) hts has ht (hu _ hsg) (λ_=>hs _ hsg)).typed _
 ·rw[List.all_map,List.all_eq_true];intro x hx;obtain⟨hx,h10⟩:=List.mem_filter.1 hx;have h10:=of_decide_eq_true h10;have hd:=hmem x hx (.inr h10);unfold zcn at hd;rw[if_neg (by omega),Bool.and_eq_true,Bool.and_eq_true] at hd;obtain⟨fs,b,hl,hfs,hb⟩:=zgt hd.2.2
  have hkb:b.kind=11:=by
   have hb:zgn (zad 37) b=true:=hb;unfold zgn at hb;rw[Bool.and_eq_true,Bool.and_eq_true] at hb;exact of_decide_eq_true hb.1.1
  have hlead:zaL x.kids=fs:=by rw[hl];exact zel fs b [] (zcy hfs) (by omega)
  simp only[Function.comp];refine zdX λy hy=>?_;have hy':y∈fs:=by rw[hlead] at hy;exact hy
  obtain⟨h7,z,h1,h2,g,h3⟩:=zeT (List.all_eq_true.1 hfs y hy');have hsg:kid0 y∈zbo n:=List.mem_flatMap.2 ⟨x,hx,by rw[if_neg (by omega),if_neg (by omega),if_neg (by omega),if_pos h10];exact List.mem_map.2 ⟨y,hy,rfl⟩⟩;exact zeI hts has (h2▸h3) (hu _ hsg) (λ_=>hs _ hsg)
end
theorem zfQ:∀l:List Nd,(zaR l).types.map Dcl.name=l.flatMap tyNs
 |[]=>rfl
 |n::r=>by
  have ih:=zfQ r;rw[List.flatMap_cons,←ih,zaR];unfold tyNs
  by_cases h2:n.kind=2
  ·simp[h2]
  by_cases h3:n.kind=3
  ·simp[h3,zdH]
  by_cases h4:n.kind=4
  ·simp[h4]
  by_cases h5:n.kind=5
  ·simp[h5]
  by_cases h6:n.kind=6<;>simp[h2,h3,h4,h5,h6]
theorem zeL:∀l:List Nd,(zaR l).actors.map Actr.name=l.flatMap acNs
 |[]=>rfl
 |n::r=>by
  have ih:=zeL r;rw[List.flatMap_cons,←ih,zaR];unfold acNs
  by_cases h2:n.kind=2
  ·simp[h2]
  by_cases h3:n.kind=3
  ·simp[h3]
  by_cases h4:n.kind=4
  ·simp[h4]
  by_cases h5:n.kind=5
  ·simp[h5]
  by_cases h6:n.kind=6<;>simp[h2,h3,h4,h5,h6,zeF]
theorem zjr:∀l:List Nd,(zaR l).types.flatMap (λd=>d.ctors.map Ctr.name)=l.flatMap ctNs
 |[]=>rfl
 |n::r=>by
  have ih:=zjr r;rw[List.flatMap_cons,←ih,zaR];unfold ctNs
  by_cases h2:n.kind=2
  ·simp[h2]
  by_cases h3:n.kind=3
  ·simp[h3,zdH]
  by_cases h4:n.kind=4
  ·simp[h4]
  by_cases h5:n.kind=5
  ·simp[h5]
  by_cases h6:n.kind=6<;>simp[h2,h3,h4,h5,h6]
def all4 (qt:Dcl→Bool) (qe:Eff→Bool) (qf:Fun'→Bool) (qa:Actr→Bool) (p:Prg):Bool:=p.types.all qt&&p.effects.all qe&&p.funs.all qf&&p.actors.all qa
theorem zjC (qt:Dcl→Bool) (qe:Eff→Bool) (qf:Fun'→Bool) (qa:Actr→Bool):∀l:List Nd,(∀n∈l,all4 qt qe qf qa (zaR [n])=true)→all4 qt qe qf qa (zaR l)=true
 |[],_=>rfl
 |n::r,h=>by
  have ih:=zjC qt qe qf qa r (λm hm=>h m (List.mem_cons_of_mem _ hm));have h1:=h n List.mem_cons_self;rw[zaR] at h1 ⊢;rw[show zaR []=Prg.zero from rfl] at h1;unfold all4 at ih h1 ⊢;rw[Bool.and_eq_true,Bool.and_eq_true,Bool.and_eq_true] at ih;obtain⟨⟨⟨i1,i2⟩,i3⟩,i4⟩:=ih
  by_cases h2:n.kind=2
  ·rw[if_pos h2] at h1 ⊢;simp only[Prg.zero,List.all_cons,List.all_nil,Bool.and_true,i1,i2,i3,i4] at h1 ⊢;exact h1
  by_cases h3:n.kind=3
  ·rw[if_neg h2,if_pos h3] at h1 ⊢;simp only[Prg.zero,List.all_cons,List.all_nil,Bool.and_true,i1,i2,i3,i4] at h1 ⊢;exact h1
  by_cases h4:n.kind=4
  ·rw[if_neg h2,if_neg h3,if_pos h4] at h1 ⊢;simp only[Prg.zero,List.all_cons,List.all_nil,Bool.and_true,Bool.true_and,i1,i2,i3,i4] at h1 ⊢;exact h1
  by_cases h5:n.kind=5
  ·rw[if_neg h2,if_neg h3,if_neg h4,if_pos h5] at h1 ⊢;simp only[Prg.zero,List.all_cons,List.all_nil,Bool.and_true,Bool.true_and,i1,i2,i3,i4] at h1 ⊢;exact h1
  by_cases h6:n.kind=6
  ·rw[if_neg h2,if_neg h3,if_neg h4,if_neg h5,if_pos h6] at h1 ⊢;simp only[Prg.zero,List.all_cons,List.all_nil,Bool.and_true,Bool.true_and,i1,i2,i3,i4] at h1 ⊢;exact h1
  ·rw[if_neg h2,if_neg h3,if_neg h4,if_neg h5,if_neg h6];simp only[i1,i2,i3,i4,Bool.and_true]
theorem zkE:∀l:List Nd,zie l=l.flatMap tyNs
 |[]=>rfl
 |n::r=>by
  have ih:=zkE r;unfold zie at ih ⊢;rw[List.flatMap_cons,←ih];unfold tyNs
  by_cases h:n.kind=2∨n.kind=3
  ·rw[List.filter_cons_of_pos (by simpa using h),if_pos h];rfl
  ·rw[List.filter_cons_of_neg (by simpa using h),if_neg h];rfl
theorem zjz:∀l:List Nd,zgc l=l.flatMap acNs
 |[]=>rfl
 |n::r=>by
  have ih:=zjz r;unfold zgc at ih ⊢;rw[List.flatMap_cons,←ih];unfold acNs
  by_cases h:n.kind=6
  ·rw[List.filter_cons_of_pos (by simpa using h),if_pos h];rfl
  ·rw[List.filter_cons_of_neg (by simpa using h),if_neg h];rfl
structure zrA (p:Prg):Prop where
 tyn:(p.types.map Dcl.name).Nodup
 dis:∀s∈p.types.map Dcl.name,s∉p.actors.map Actr.name
 acn:(p.actors.map Actr.name).Nodup
 ctn:(p.types.flatMap (λd=>d.ctors.map Ctr.name)).Nodup
 ne:∀d∈p.types,d.ctors≠[]
 root:∃(i:Nat) (a:Actr),p.actors[i]?=some a∧a.name=(⟨#[77,97,105,110]⟩:ByteArray)∧a.params=[]
 closed:zjP p=true
theorem zhv {n:Nd} (hk:n.kind=2∨n.kind=3∨n.kind=4∨n.kind=5∨n.kind=6) (h:(zcN n || zdf n)=true):zcN n=true:=by
 rw[Bool.or_eq_true] at h;rcases h with h|h
 ·exact h
 ·unfold zdf at h;rw[if_neg (by omega),if_neg (by omega),if_neg (by omega),if_neg (by omega),if_neg (by omega)] at h;cases h
theorem zgG {α β:Type} {f:α→Option β} {l:List α} (h:l.findSome? f=none):∀x∈l,f x=none:=List.findSome?_eq_none_iff.1 h
theorem zkw (n:Nd) (h:(zbW n).2.1=0):zrA (zbW n).1:=by
 unfold zbW at h ⊢
 by_cases hk:n.kind≠1∨zfs n=false
 ·rw[if_pos hk] at h;cases h
 rw[if_neg hk] at h ⊢;rw[not_or] at hk;have hr:zfs n=true:=by simpa using hk.2
 have hd:∀x∈n.kids.filter (λk=>decide (k.kind=2∨k.kind=3∨k.kind=4∨k.kind=5∨k.kind=6)),zcN x=true:=λx hx=>by
  obtain⟨hx,hk⟩:=List.mem_filter.1 hx;unfold zfs at hr;rw[Bool.and_eq_true] at hr;exact zhv (of_decide_eq_true hk) (List.all_eq_true.1 hr.2 x hx)
 generalize n.kids.filter (λk=>decide (k.kind=2∨k.kind=3∨k.kind=4∨k.kind=5∨k.kind=6))=l at hd h ⊢;simp only at h ⊢;cases h1:zcl l .start with
 |some a=>rw[h1] at h;cases h
 |none=>
 cases h2:zgA l with
 |some a=>rw[h1,h2] at h;cases h
 |none=>
 cases h3:zeK l with
 |some a=>rw[h1,h2,h3] at h;cases h
 |none=>
 cases h4:zeQ l with
 |some a=>rw[h1,h2,h3,h4] at h;cases h
 |none=>
 cases h5:zfX l with
 |some a=>rw[h1,h2,h3,h4,h5] at h;cases h
 |none=>
 cases h6:zgD l with
 |some x=>
  obtain⟨e,a⟩:=x;rw[h1,h2,h3,h4,h5,h6] at h;have he:e=0:=h;unfold zgD at h6
  split at h6
  ·injection h6 with h6;injection h6 with h6 _;omega
  ·split at h6
   ·injection h6 with h6;injection h6 with h6 _;omega
   ·cases h6
 |none=>
 obtain⟨hn1,hn2⟩:=zgx l .start h1 (by simp[Nms.start]) (by simp[Nms.start]);simp only[Nms.start,List.nil_append] at hn1 hn2;obtain⟨a1,a2,a3⟩:=List.nodup_append.1 hn1
 have hf:∀s,memB s (zie l)=true→(zmd (zaR l) s).isSome=true:=λs hs=>by
  unfold zmd;rw[zfQ,←zkE];exact ziC (zhM.1 hs)
 have ha:∀s,memB s (zgc l)=true→(zhZ (zaR l) s).isSome=true:=λs hs=>by
  unfold zhZ;rw[zeL,←zjz];exact ziC (zhM.1 hs)
 have hu:∀x∈l,∀t∈zbo x,zbc (zie l) (zgc l) t=none:=λx hx t ht=>zgG h2 t (List.mem_flatMap.2 ⟨x,hx,ht⟩)
 have hs:∀x∈l,x.kind≠5→∀t∈zbo x,zaZ (zcs t)=true:=λx hx hk t ht=>by
  have:=zgG h3 t (List.mem_flatMap.2 ⟨x,List.mem_filter.2 ⟨hx,by simpa using hk⟩,ht⟩)
  by_cases hst:zaZ (zcs t)=true
  ·exact hst
  ·rw[if_neg hst] at this;cases this
 refine⟨by rw[zfQ];exact a1,by rw[zfQ,zeL];exact λs h1 h2=>a3 s h1 s h2 rfl,by rw[zeL];exact a2,by rw[zjr];exact hn2,?_,?_,?_⟩
 ·have:=zjC (λd=>!d.ctors.isEmpty) (λ_=>true) (λ_=>true) (λ_=>true) l (λx hx=>by
   rw[zaR,show zaR []=Prg.zero from rfl];unfold all4
   by_cases k2:x.kind=2
   ·simp[k2,Prg.zero]
   by_cases k3:x.kind=3
   ·have:=(zhx hf ha k3 (hd x hx) (hu x hx) (hs x hx (by omega))).2;simp[k3,Prg.zero,this]
   by_cases k4:x.kind=4
   ·simp[k4,Prg.zero]
   by_cases k5:x.kind=5
   ·simp[k5,Prg.zero]
   by_cases k6:x.kind=6<;>simp[k2,k3,k4,k5,k6,Prg.zero])
  intro d hd' e;unfold all4 at this;rw[Bool.and_eq_true,Bool.and_eq_true,Bool.and_eq_true] at this;have:=List.all_eq_true.1 this.1.1.1 d hd';rw[e] at this;simp at this
 ·unfold zgD at h6
  split at h6
  ·cases h6
  ·rename_i x hx
   split at h6
   ·cases h6
   ·rename_i hz;obtain⟨hx1,hx2⟩:x∈l∧(x.kind=6∧x.text=(⟨#[77,97,105,110]⟩:ByteArray)):=⟨List.mem_of_find?_eq_some hx,by simpa using List.find?_some hx⟩
    have hm:∀l:List Nd,x∈l→zeF x∈(zaR l).actors:=λl=>by
     induction l with
     |nil=>intro h;cases h
     |cons y r ih=>
      intro hy;rw[zaR];rcases List.mem_cons.1 hy with rfl|hy
      ·simp[hx2.1]
      ·have:=ih hy
       by_cases k2:y.kind=2
       ·simp[k2,this]
       by_cases k3:y.kind=3
       ·simp[k3,this]
       by_cases k4:y.kind=4
       ·simp[k4,this]
       by_cases k5:y.kind=5
       ·simp[k5,this]
       by_cases k6:y.kind=6<;>simp[k2,k3,k4,k5,k6,this]
    obtain⟨i,hi⟩:=List.mem_iff_getElem?.1 (hm l hx1);refine⟨i,zeF x,hi,hx2.2,?_⟩;unfold zeF zbk;have:zaL x.kids=[]:=List.eq_nil_of_length_eq_zero (by omega);rw[this];rfl
 ·have:=zjC (λd=>d.ctors.all (λc=>zba (zaR l) c.fields true)) (λe=>zba (zaR l) e.params true&&zba (zaR l) [⟨⟨#[]⟩,e.answer⟩] true) (λf=>zba (zaR l) f.params false&&zba (zaR l) [⟨⟨#[]⟩,f.result⟩] false) (λa=>zba (zaR l) a.params true&&a.vars.all (λv=>zba (zaR l) [⟨⟨#[]⟩,v.ty⟩] true)&&a.on.all (λh=>zba (zaR l) h.params true)) l (λx hx=>by
   rw[zaR,show zaR []=Prg.zero from rfl];unfold all4
   by_cases k2:x.kind=2
   ·have:=zlu hf ha k2 (hd x hx) (hu x hx) (hs x hx (by omega));simp[k2,Prg.zero,this]
   by_cases k3:x.kind=3
   ·have:=(zhx hf ha k3 (hd x hx) (hu x hx) (hs x hx (by omega))).1
    simpa [k3,Prg.zero] using this
   by_cases k4:x.kind=4
   ·have:=zlw hf ha k4 (hd x hx) (hu x hx) (hs x hx (by omega));simp[k4,Prg.zero,this]
   by_cases k5:x.kind=5
   ·have:=zqk hf ha k5 (hd x hx) (hu x hx);simp[k5,Prg.zero,this]
   by_cases k6:x.kind=6
   ·have:=znC hf ha k6 (hd x hx) (hu x hx) (hs x hx (by omega));rw[if_neg (by omega),if_neg (by omega),if_neg (by omega),if_neg (by omega),if_pos k6];simp only[Prg.zero,List.all_cons,List.all_nil,this.1,this.2.1,this.2.2];rfl
   ·simp[k2,k3,k4,k5,k6,Prg.zero])
  exact this
theorem zpC (n:Nd) (h:(zbW n).2.1≠0):(zbW n).1=.zero:=by
 unfold zbW at h ⊢
 split
 ·rfl
 ·rename_i hk;rw[if_neg hk] at h;simp only at h ⊢
  repeat' split at h
  all_goals first|exact absurd rfl h|simp_all
end Go.Proofs.YtjdpocmlimkjjaaGreat
