/- Conditions: those in each statement. -/
import Derived.Test.YtcebmphappfjjaaGreatDoorV33
import Derived.Test.YtcebmphappfjjaaGreatDoorV04
import Derived.Lib.ItoaNum
import Derived.Test.YtcebmphappfjjaaGreatDoorV30
set_option maxHeartbeats 32000000
set_option maxRecDepth 100000
namespace Go.Proofs.YtcebmphappfjjaaGreatDoor
open Go.RowKit
def digB (c:UInt8):Bool:=48<=c&&c<=57
def upB (c:UInt8):Bool:=65<=c&&c<=90
def nmB (c:UInt8):Bool:=(97<=c&&c<=122) || upB c || digB c || c == 95
def ptB (c:UInt8):Bool:=digB c || c == 46
abbrev bl (s:ByteArray):List UInt8:=s.data.toList
abbrev lb (l:List UInt8):ByteArray:=⟨l.toArray⟩
def isTy (t:ByteArray):Prop:=∃c r,bl t=c::r/\upB c=true/\∀x∈c::r,nmB x=true
def isPt (s:ByteArray):Prop:=∀x∈bl s,ptB x=true
def inRg (n:Int):Prop:=-9007199254740992<=n/\n<=9007199254740992
mutual
def Pl:V->Prop
 |.mk k t n m s l=>m=0/\((k=1/\t=⟨#[]⟩/\n=0/\s=⟨#[]⟩/\l=[])\/(k=2/\t=⟨#[]⟩/\(n=0\/n=1)/\s=⟨#[]⟩/\l=[])\/(k=3/\t=⟨#[]⟩/\inRg n/\s=⟨#[]⟩/\l=[])\/(k=4/\t=⟨#[]⟩/\n=0/\l=[])\/
  (k=5/\t=⟨#[]⟩/\n=0/\s=⟨#[]⟩/\Pls l)\/(k=6/\isTy t/\n=0/\s=⟨#[]⟩/\Pls l)\/(k=7/\isTy t/\inRg n/\s=⟨#[]⟩/\Pls l)\/(k=8/\isTy t/\n=0/\isPt s/\l=[]))
def Pls:List V->Prop
 |[]=>True
 |v::r=>Pl v/\Pls r
end
mutual
def fuV:V->Nat
 |.mk _ _ _ _ _ l=>2+fuVs l
def fuVs:List V->Nat
 |[]=>1
 |v::r=>2+fuV v+fuVs r
end
def ztP (r:List UInt8):Prop:=∀c s,r=c::s->ptB c=false
theorem zjF {p:UInt8->Bool}:∀(l r:List UInt8),(∀x∈l,p x=true)->(∀c s,r=c::s->p c=false)->(l++r).takeWhile p=l/\(l++r).dropWhile p=r
 |[],r,_,h=>by
  cases r with
  |nil=>exact⟨rfl,rfl⟩
  |cons c s=>simp[h c s rfl]
 |x::l,r,h1,h2=>by
  have:=zjF l r (λy hy=>h1 y (List.mem_cons_of_mem _ hy)) h2;simp[h1 x (List.mem_cons_self ..),this]
theorem zuE (s:ByteArray):lb (bl s)=s:=by cases s;simp
def pre:List UInt8->List UInt8->Option (List UInt8)
 |[],s=>some s
 |_::_,[]=>none
 |a::p,c::s=>if a=c then pre p s else none
theorem zmi:∀p r,pre p (p++r)=some r
 |[],r=>rfl
 |a::p,r=>by rw[List.cons_append,pre,if_pos rfl,zmi p r]
theorem zbS {a c:UInt8} {p r:List UInt8} (h:a≠c):pre (a::p) (c::r)=none:=by rw[pre,if_neg h]
section
variable (itoa:Int->List UInt8) (intL:List UInt8->Option (Int × List UInt8))
mutual
def zfO:V->List UInt8
 |.mk k t n _ s l=>
  if k=1 then [40,41]
  else if k=2 then (if n=1 then [116,114,117,101] else [102,97,108,115,101])
  else if k=3 then itoa n
  else if k=4 then 34::zoS (bl s)
  else if k=5 then 91::(zbP l true++[93])
  else if k=6 then bl t++123::(zbP l true++[125])
  else if k=7 then bl t++35::(itoa n++40::(zbP l true++[41]))
  else bl t++64::bl s
def zbP:List V->Bool->List UInt8
 |[],_=>[]
 |v::r,first=>(if first then [] else [44,32])++(zfO v++zbP r false)
end
mutual
def valL:Nat->Nat->List UInt8->Option (V × Nat × List UInt8)
 |0,_,_=>none
 |_+1,0,_=>none
 |f+1,q+1,s=>match pre [40,41] s with
  |some r=>some (.mk 1 ⟨#[]⟩ 0 0 ⟨#[]⟩ [],q,r)
  |none=>match pre [102,97,108,115,101] s with
  |some r=>some (.mk 2 ⟨#[]⟩ 0 0 ⟨#[]⟩ [],q,r)
  |none=>match pre [116,114,117,101] s with
  |some r=>some (.mk 2 ⟨#[]⟩ 1 0 ⟨#[]⟩ [],q,r)
  |none=>match pre [34] s with
  |some r=>(zbO r).map (λp=>(.mk 4 ⟨#[]⟩ 0 0 (lb p.1) [],q,p.2))
  |none=>match pre [91] s with
  |some r=>(zdf f 93 q r).map (λp=>(.mk 5 ⟨#[]⟩ 0 0 ⟨#[]⟩ p.1,p.2))
  |none=>if (s.head?.map upB).getD false=true then
   match pre [123] (s.dropWhile nmB) with
   |some r=>(zdf f 125 q r).map (λp=>(.mk 6 (lb (s.takeWhile nmB)) 0 0 ⟨#[]⟩ p.1,p.2))
   |none=>match pre [35] (s.dropWhile nmB) with
   |some r=>(match intL r with
    |some p=>(match pre [40] p.2 with
     |some r'=>(zdf f 41 q r').map (λz=>(.mk 7 (lb (s.takeWhile nmB)) p.1 0 ⟨#[]⟩ z.1,z.2))
     |none=>none)
    |none=>none)
   |none=>match pre [64] (s.dropWhile nmB) with
   |some r=>some (.mk 8 (lb (s.takeWhile nmB)) 0 0 (lb (r.takeWhile ptB)) [],q,r.dropWhile ptB)
   |none=>none
   else (intL s).map (λp=>(.mk 3 ⟨#[]⟩ p.1 0 ⟨#[]⟩ [],q,p.2))
def zdf:Nat->UInt8->Nat->List UInt8->Option (List V × Nat × List UInt8)
 |0,_,_,_=>none
 |f+1,e,q,s=>match pre [e] s with
  |some r=>some ([],q,r)
  |none=>zcd f e q s
def zcd:Nat->UInt8->Nat->List UInt8->Option (List V × Nat × List UInt8)
 |0,_,_,_=>none
 |f+1,e,q,s=>match valL f q s with
  |none=>none
  |some z=>match pre [e] z.2.2 with
   |some r=>some ([z.1],z.2.1,r)
   |none=>match pre [44,32] z.2.2 with
    |some r=>(zcd f e z.2.1 r).map (λp=>(z.1::p.1,p.2))
    |none=>none
end
variable (hI:∀n rest,inRg n->ztP rest->intL (itoa n++rest)=some (n,rest)) (hH:∀n,inRg n->∃c r,itoa n=c::r/\(c=45\/digB c=true))
include hI hH
omit hI in
theorem zpI:∀v:V,Pl v->∃c r,zfO itoa v=c::r/\c≠93/\c≠125/\c≠41
 |.mk k t n m s l,h=>by
  rw[Pl] at h;rw[zfO]
  have hup:∀c:UInt8,upB c=true->c≠93/\c≠125/\c≠41:=by
   intro c hc;refine⟨?_,?_,?_⟩<;>(rintro rfl;revert hc;decide)
  obtain⟨_,h⟩:=h;rcases h with ⟨rfl,h⟩|⟨rfl,h⟩|⟨rfl,h⟩|⟨rfl,h⟩|⟨rfl,h⟩|⟨rfl,⟨c,r,e,hc,_⟩,_⟩|⟨rfl,⟨c,r,e,hc,_⟩,_⟩|⟨rfl,⟨c,r,e,hc,_⟩,_⟩
  ·exact⟨40,[41],rfl,by decide⟩
  ·rcases h.2.1 with rfl|rfl
   ·exact⟨102,[97,108,115,101],rfl,by decide⟩
   ·exact⟨116,[114,117,101],rfl,by decide⟩
  ·obtain⟨c,r,e,hc⟩:=hH n h.2.1;refine⟨c,r,e,?_⟩;refine⟨?_,?_,?_⟩<;>(rintro rfl;revert hc;decide)
  ·exact⟨34,_,rfl,by decide⟩
  ·exact⟨91,_,rfl,by decide⟩
  ·rw[e];exact⟨c,_,rfl,hup c hc⟩
  ·rw[e];exact⟨c,_,rfl,hup c hc⟩
  ·rw[e];exact⟨c,_,rfl,hup c hc⟩
omit hI hH in
theorem zqc {c:UInt8} {r:List UInt8} (h:ptB c=false):ztP (c::r):=λc' s e=>by
 injection e with e1 _;rw[<-e1];exact h
set_option linter.unusedSectionVars false
mutual
theorem zmP:∀v:V,Pl v->∀(f q:Nat) (rest:List UInt8),fuV v<=f->ztP rest->valL intL f (q+zcf v) (zfO itoa v++rest)=some (v,q,rest)
 |.mk k t n m s l,h,f,q,rest,hf,hr=>by
  rw[Pl] at h;rw[fuV] at hf;rw[zcf];obtain⟨rfl,h⟩:=h;obtain⟨f,rfl⟩:∃g,f=g+1:=⟨f-1,zo⟩;obtain⟨N,hN⟩:=zn (zbl l);have eq:q+(1+N)=(q+N)+1:=zo
  have IH:Pls l->∀(e:UInt8),(e=93\/e=125\/e=41)->∀rest,zdf intL f e (q+N) (zbP itoa l true++e::rest)=some (l,q,rest):=λhl e he rest=>by
   rw[<-hN];exact zpE l hl f e q rest zo he
  rw[hN,eq];clear eq;rw[zfO]
  have ty:isTy t->∀(d:UInt8) (r:List UInt8),nmB d=false->∃c z,bl t++d::r=c::z/\upB c=true/\c≠40/\c≠102/\c≠116/\c≠34/\c≠91/\(c::z).takeWhile nmB=bl t/\(c::z).dropWhile nmB=d::r:=by
   rintro⟨c,z,e,hc,ha⟩ d r hd;have:=zjF (p:=nmB) (bl t) (d::r) (by rw[e];exact ha) (λc' s' e'=>by injection e' with e1 _;rw[<-e1];exact hd);refine⟨c,z++d::r,by rw[e];rfl,hc,?_,?_,?_,?_,?_,?_,?_⟩
   ·rintro rfl;revert hc;decide
   ·rintro rfl;revert hc;decide
   ·rintro rfl;revert hc;decide
   ·rintro rfl;revert hc;decide
   ·rintro rfl;revert hc;decide
   ·have h2:=this.1;rw[e] at h2;rw[e];exact h2
   ·have h2:=this.2;rw[e] at h2;exact h2
  rcases h with ⟨rfl,rfl,rfl,rfl,rfl⟩|⟨rfl,rfl,hn,rfl,rfl⟩|⟨rfl,rfl,hn,rfl,rfl⟩|⟨rfl,rfl,rfl,rfl⟩|⟨rfl,rfl,rfl,rfl,hl⟩|⟨rfl,ht,rfl,rfl,hl⟩|⟨rfl,ht,hn,rfl,hl⟩|⟨rfl,ht,rfl,hp,rfl⟩
  ·obtain rfl:0=N:=hN;simp[valL,pre]
  ·obtain rfl:0=N:=hN;rcases hn with rfl|rfl<;>simp[valL,pre]
  ·obtain rfl:0=N:=hN;obtain⟨c,z,ec,hc⟩:=hH n hn;have hi:=hI n rest hn hr;rw[if_neg zd,if_neg zd,if_pos rfl];rw[ec,List.cons_append] at hi ⊢
   have hu:upB c=false:=by
    rcases hc with rfl|hc
    ·decide
    ·simp only[digB,upB,Bool.and_eq_true,decide_eq_true_eq,UInt8.le_iff_toNat_le,Bool.and_eq_false_iff,decide_eq_false_iff_not] at hc ⊢
     left
     have:(57:UInt8).toNat=57:=rfl;have:(65:UInt8).toNat=65:=rfl;omega
   have ne:∀d:UInt8,d≠45->digB d=false->d≠c:=by
    rintro d h1 h2 rfl;rcases hc with hc|hc
    ·exact h1 hc
    ·rw[h2] at hc;cases hc
   rw[valL,zbS (ne _ zd zd),zbS (ne _ zd zd),zbS (ne _ zd zd),zbS (ne _ zd zd),zbS (ne _ zd zd)];simp only[List.head?_cons,Option.map_some,Option.getD_some,hu];rw[if_neg zd,hi]
   rfl
  ·obtain rfl:0=N:=hN;have:=zlt (bl s) rest;rw[if_neg zd,if_neg zd,if_neg zd,if_pos rfl];simp only[zoS,List.cons_append,List.append_assoc,List.nil_append];simp[valL,pre,this]
  ·have:=IH hl 93 zs rest;rw[if_neg zd,if_neg zd,if_neg zd,if_neg zd,if_pos rfl];simp only[List.cons_append,List.append_assoc,List.nil_append];simp[valL,pre,this]
  ·have:=IH hl 125 zs rest;rw[if_neg zd,if_neg zd,if_neg zd,if_neg zd,if_neg zd,if_pos rfl];simp only[List.cons_append,List.append_assoc,List.nil_append];obtain⟨c,z,e,hc,n1,n2,n3,n4,n5,h1,h2⟩:=ty ht 123 (zbP itoa l true++125::rest) zd;rw[e,valL,zbS (Ne.symm n1),zbS (Ne.symm n2),zbS (Ne.symm n3),zbS (Ne.symm n4),zbS (Ne.symm n5)];simp only[List.head?_cons,Option.map_some,Option.getD_some,hc,h1,h2];simp[pre,this]
  ·have:=IH hl 41 zs rest;have hi:=hI n (40::(zbP itoa l true++41::rest)) hn (zqc zd);rw[if_neg zd,if_neg zd,if_neg zd,if_neg zd,if_neg zd,if_neg zd,if_pos rfl];simp only[List.cons_append,List.append_assoc,List.nil_append];obtain⟨c,z,e,hc,n1,n2,n3,n4,n5,h1,h2⟩:=ty ht 35 (itoa n++40::(zbP itoa l true++41::rest)) zd;rw[e,valL,zbS (Ne.symm n1),zbS (Ne.symm n2),zbS (Ne.symm n3),zbS (Ne.symm n4),zbS (Ne.symm n5)];simp only[List.head?_cons,Option.map_some,Option.getD_some,hc,h1,h2];simp[pre,hi,this]
  ·obtain rfl:0=N:=hN;rw[if_neg zd,if_neg zd,if_neg zd,if_neg zd,if_neg zd,if_neg zd,if_neg zd];simp only[List.cons_append,List.append_assoc];obtain⟨c,z,e,hc,n1,n2,n3,n4,n5,h1,h2⟩:=ty ht 64 (bl s++rest) zd;have h3:=zjF (p:=ptB) (bl s) rest hp hr;rw[e,valL,zbS (Ne.symm n1),zbS (Ne.symm n2),zbS (Ne.symm n3),zbS (Ne.symm n4),zbS (Ne.symm n5)];simp only[List.head?_cons,Option.map_some,Option.getD_some,hc,h1,h2];simp[pre,h3]
termination_by _v _h f=>f
theorem zpE:∀l:List V,Pls l->∀(f:Nat) (e:UInt8) (q:Nat) (rest:List UInt8),fuVs l+1<=f->(e=93\/e=125\/e=41)->zdf intL f e (q+zbl l) (zbP itoa l true++e::rest)=some (l,q,rest)
 |[],_,f,e,q,rest,hf,he=>by
  obtain⟨f,rfl⟩:∃g,f=g+1:=⟨f-1,zo⟩;rw[zbP,zbl,zdf,List.nil_append,show e::rest=[e]++rest from rfl,zmi]
  rfl
 |v::r,h,f,e,q,rest,hf,he=>by
  obtain⟨f,rfl⟩:∃g,f=g+1:=⟨f-1,zo⟩;have hi:=ziV v r h f e q rest zo he;obtain⟨c,z,ec,h1,h2,h3⟩:=zpI itoa hH v h.1;rw[zbP,if_pos rfl,List.nil_append,List.append_assoc,zdf,ec,List.cons_append,zbS (by rintro rfl;rcases he with he|he|he<;>contradiction)];rw[ec,List.cons_append] at hi;exact hi
termination_by _l _h f=>f
theorem ziV:∀(v:V) (r:List V),Pls (v::r)->∀(f:Nat) (e:UInt8) (q:Nat) (rest:List UInt8),fuVs (v::r)<=f->(e=93\/e=125\/e=41)->zcd intL f e (q+zbl (v::r)) (zfO itoa v++(zbP itoa r false++e::rest))=some (v::r,q,rest)
 |v,[],h,f,e,q,rest,hf,he=>by
  rw[fuVs] at hf;obtain⟨f,rfl⟩:∃g,f=g+1:=⟨f-1,zo⟩;have hs:ptB e=false:=by rcases he with rfl|rfl|rfl<;>decide
  have:=zmP v h.1 f q (e::rest) zo (zqc hs);rw[zbP,List.nil_append,zbl,zbl,Nat.add_zero (zcf v),zcd,this]
  show (match pre [e] ([e]++rest) with|some r=>_|none=>_)=_
  rw[zmi]
 |v,x::r,h,f,e,q,rest,hf,he=>by
  rw[fuVs] at hf;obtain⟨f,rfl⟩:∃g,f=g+1:=⟨f-1,zo⟩;have h1:=zmP v h.1 f (q+zbl (x::r)) (44::32::(zfO itoa x++(zbP itoa r false++e::rest))) zo (zqc zd);have h2:=ziV x r h.2 f e q rest zo he;have e1:zbP itoa (x::r) false++e::rest=44::32::(zfO itoa x++(zbP itoa r false++e::rest)):=by rw[zbP];simp
  rw[e1,zbl,show q+(zcf v+zbl (x::r))=q+zbl (x::r)+zcf v by omega,zcd,h1]
  show (match pre [e] (44::32::(zfO itoa x++(zbP itoa r false++e::rest))) with|some r=>_|none=>_)=_
  rw[zbS (by rcases he with rfl|rfl|rfl<;>decide)];simp[pre,h2]
termination_by _v _r _h f=>f
end
end
theorem zwb:∀(l:List UInt8) (c:UInt8) (n:Int),digs (l++[c]) n=(digs l n).bind (λm=>zcm m (c.toNat:Int))
 |[],c,n=>by
  simp only[List.nil_append,digs,Option.bind_some];cases zcm n (c.toNat:Int)<;>rfl
 |a::l,c,n=>by
  rw[List.cons_append,digs,digs,Option.bind_assoc]
  congr 1;funext m
  exact zwb l c m
theorem zym (u:Nat) (h:u<10):(UInt8.ofNat (48+u)).toNat=48+u:=by rw[UInt8.toNat_ofNat'];omega
theorem zwJ (m:Nat) (d:Nat) (hd:d<10) (h:m*10+d<=9007199254740992):zcm (-(m:Int)) ((UInt8.ofNat (48+d)).toNat:Int)=some (-((m*10+d:Nat):Int)):=by
 rw[zym d hd];unfold zcm;rw[if_neg zo,zpy zo,if_neg zo]
 congr 1
 omega
theorem zvX (u:Nat) (h:u<=9007199254740992):digs (Lib.decDigits u) 0=some (-(u:Int)):=by
 rw[Lib.decDigits]
 split
 ·rename_i h10;rw[digs,show (0:Int)=-((0:Nat):Int) from rfl,zwJ 0 u h10 zo];simp[digs]
 ·rw[zwb,zvX (u / 10) zo];simp only[Option.bind_some];rw[zwJ _ _ zo zo]
  congr 2
  omega
termination_by u
theorem zvf (u:Nat):∀x∈Lib.decDigits u,digB x=true:=by
 have key:∀d,d<10->digB (UInt8.ofNat (48+d))=true:=λd hd=>by
  unfold digB;simp only[Bool.and_eq_true,decide_eq_true_eq,UInt8.le_iff_toNat_le,zym d hd];exact⟨by show 48<=_;omega,by show _<=57;omega⟩
 rw[Lib.decDigits]
 split
 ·rename_i h;intro x hx;rw[List.mem_singleton] at hx;subst hx;exact key u h
 ·intro x hx;rw[List.mem_append,List.mem_singleton] at hx;rcases hx with hx|rfl
  ·exact zvf (u / 10) x hx
  ·exact key _ zo
termination_by u
theorem zuT (u:Nat):∃c r,Lib.decDigits u=c::r/\(0<u->c≠48)/\(u=0->r=[]):=by
 rw[Lib.decDigits]
 split
 ·rename_i h;refine⟨_,[],rfl,λh0 e=>?_,λ_=>rfl⟩;have:=congrArg UInt8.toNat e;rw[zym u h] at this;have:48+u=48:=this;omega
 ·obtain⟨c,r,e,h1,_⟩:=zuT (u / 10);exact⟨c,r++[UInt8.ofNat (48+u % 10)],by rw[e];rfl,λ_=>h1 zo,λh=>by omega⟩
termination_by u
def intL (s:List UInt8):Option (Int × List UInt8):=
 let g:=if s.head?=some 45 then [45] else []
 let r:=if s.head?=some 45 then s.tail else s
 let p:=zbD (lb (g++r.takeWhile digB)) (-9007199254740992) 9007199254740992
 if p.2 then some (p.1,r.dropWhile digB) else none
theorem zvA (l:List UInt8) (i:Nat):zak (lb l) i=((l.getD i 0).toNat:Int):=rfl
theorem zxj (u:Nat) (h:u<=9007199254740992):zbD (lb (Lib.decDigits u)) (-9007199254740992) 9007199254740992=((u:Int),true):=by
 obtain⟨c,r,e,h1,h2⟩:=zuT u;have hd:=zvf u c (by rw[e];exact List.mem_cons_self ..);have hb:zak (lb (Lib.decDigits u)) 0=(c.toNat:Int):=by rw[e,zvA];rfl
 have hs:(lb (Lib.decDigits u)).size=r.length+1:=by rw[e];simp[ByteArray.size]
 have hc:48<=c.toNat/\c.toNat<=57:=by
  unfold digB at hd;simp only[Bool.and_eq_true,decide_eq_true_eq,UInt8.le_iff_toNat_le] at hd;exact hd
 unfold zbD
 rw[hb,hs,if_neg zo,if_neg zo,if_neg (by
  intro ⟨h3,h4⟩;have:c=48:=UInt8.toNat_inj.1 (by show c.toNat=48;omega);rcases Nat.eq_zero_or_pos u with h5|h5
  ·rw[h2 h5] at h4;exact h4 rfl
  ·exact h1 h5 this)]
 rw[show (lb (Lib.decDigits u)).data.toList=Lib.decDigits u by simp,zvX u h];unfold zcU;simp only;rw[if_neg zs,if_neg zo,if_neg zo];simp
theorem zwX (u:Nat) (h0:0<u) (h:u<=9007199254740992):zbD (lb (45::Lib.decDigits u)) (-9007199254740992) 9007199254740992=(-(u:Int),true):=by
 obtain⟨c,r,e,h1,h2⟩:=zuT u;have hb:zak (lb (45::Lib.decDigits u)) 0=45:=by rw[zvA];rfl
 have hb1:zak (lb (45::Lib.decDigits u)) 1=(c.toNat:Int):=by rw[e,zvA];rfl
 have hs:(lb (45::Lib.decDigits u)).size=r.length+2:=by rw[e];simp[ByteArray.size]
 unfold zbD
 rw[hb,hb1,if_neg zo,if_pos rfl,if_neg (by
  intro h3;rcases h3 with h3|h3
  ·omega
  ·exact h1 h0 (UInt8.toNat_inj.1 (by show c.toNat=48;omega)))]
 have he:((lb (45::Lib.decDigits u)).extract 1 (lb (45::Lib.decDigits u)).size).data.toList=Lib.decDigits u:=by
  rw[ByteArray.data_extract,Array.toList_extract];simp[ByteArray.size,List.extract]
 rw[he,zvX u h];unfold zcU;simp only;rw[if_pos trivial,if_neg zo]
theorem zwD (l r:List UInt8) (h1:∀x∈l,digB x=true) (h:ztP r):(l++r).takeWhile digB=l/\(l++r).dropWhile digB=r:=
 zjF l r h1 (λc s e=>by
  have:=h c s e;unfold ptB at this;simp only[Bool.or_eq_false_iff] at this;exact this.1)
theorem zxB (n:Int) (rest:List UInt8) (hn:inRg n) (hr:ztP rest):intL (Lib.itoa n++rest)=some (n,rest):=by
 obtain⟨h1,h2⟩:=hn;unfold Lib.itoa
 split
 ·rename_i h;have hu:0<n.natAbs:=zo
  obtain⟨e1,e2⟩:=zwD _ _ (zvf n.natAbs) hr;unfold intL;simp only[List.cons_append,List.head?_cons,if_true,List.tail_cons,e1,e2];rw[List.nil_append,zwX _ hu zo];simp only[if_true]
  congr 2
  omega
 ·obtain⟨c,r,e,_⟩:=zuT n.toNat;obtain⟨e1,e2⟩:=zwD _ _ (zvf n.toNat) hr;have hd:=zvf n.toNat c (by rw[e];exact List.mem_cons_self ..)
  have hne:¬(Lib.decDigits n.toNat++rest).head?=some 45:=by
   rw[e];intro h;have:c=45:=by simpa using h
   rw[this] at hd
   revert hd;decide
  unfold intL;simp only[if_neg hne,e1,e2,List.nil_append];rw[zxj _ zo];simp only[if_true]
  congr 2
  omega
theorem zxV (n:Int):∃c r,Lib.itoa n=c::r/\(c=45\/digB c=true):=by
 unfold Lib.itoa
 split
 ·exact⟨45,_,rfl,.inl rfl⟩
 ·obtain⟨c,r,e,_⟩:=zuT n.toNat;exact⟨c,r,e,.inr (zvf _ c (by rw[e];exact List.mem_cons_self ..))⟩
theorem zcD {s:ByteArray} (h:s.toList.isEmpty=true):s=⟨#[]⟩:=zbX (by rw[List.isEmpty_iff.1 h,ByteArray.toList_eq])
theorem zuI {c:UInt8} (h:zdj (c.toNat:Int)=true):nmB c=true:=by
 unfold zdj at h;have h:=of_decide_eq_true h;unfold nmB upB digB;simp only[Bool.or_eq_true,Bool.and_eq_true,decide_eq_true_eq,UInt8.le_iff_toNat_le,beq_iff_eq,<-UInt8.toNat_inj]
 show ((97<=c.toNat/\c.toNat<=122\/65<=c.toNat/\c.toNat<=90)\/48<=c.toNat/\c.toNat<=57)\/c.toNat=95
 omega
theorem zmp {s:ByteArray} (h:zdV s=true):isTy s:=by
 unfold zdV at h;obtain⟨h0,h1,h2,h3⟩:=of_decide_eq_true h;have hs:(bl s).length=s.size:=zai s;cases he:bl s with
 |nil=>rw[he] at hs;simp at hs;omega
 |cons c r=>
  refine⟨c,r,he,?_,?_⟩
  ·have hb:zak s 0=(c.toNat:Int):=by show (((bl s).getD 0 0).toNat:Int)=_;rw[he];rfl
   rw[hb] at h1 h2;unfold upB;simp only[Bool.and_eq_true,decide_eq_true_eq,UInt8.le_iff_toNat_le]
   show 65<=c.toNat/\c.toNat<=90
   omega
  ·intro x hx;rw[<-he] at hx;obtain⟨i,hi,e⟩:=List.getElem_of_mem hx;have:=h3 i zo
   have hb:zak s i=(x.toNat:Int):=by
    show (((bl s).getD i 0).toNat:Int)=_
    rw[List.getD_eq_getElem?_getD,List.getElem?_eq_getElem hi,e];rfl
   rw[hb] at this;exact zuI this
theorem zmH:∀(l:List UInt8) (n m:Int),digs l n=some m->∀x∈l,digB x=true
 |[],_,_,_,x,hx=>by cases hx
 |c::r,n,m,h,x,hx=>by
  rw[digs] at h;obtain⟨q,h1,h2⟩:=Option.bind_eq_some_iff.1 h;rcases List.mem_cons.1 hx with rfl|hx
  ·unfold zcm at h1
   split at h1
   ·cases h1
   ·rename_i hc;unfold digB;simp only[Bool.and_eq_true,decide_eq_true_eq,UInt8.le_iff_toNat_le]
    show 48<=x.toNat/\x.toNat<=57
    omega
  ·exact zmH r q m h2 x hx
theorem zpt:∀(l:List UInt8) (n m:Int),n<=0->digs l n=some m->m<=0
 |[],n,m,hn,h=>by rw[digs] at h;cases h;exact hn
 |c::r,n,m,hn,h=>by
  rw[digs] at h;obtain⟨q,h1,h2⟩:=Option.bind_eq_some_iff.1 h;refine zpt r q m ?_ h2;unfold zcm at h1
  split at h1
  ·cases h1
  ·split at h1
   ·cases h1
   ·cases h1;omega
theorem zlb {s:ByteArray} (h:(zbD s 0 9007199254740992).2=true):∀x∈bl s,digB x=true:=by
 unfold zbD at h
 split at h
 ·cases h
 split at h
 ·split at h
  ·cases h
  ·rename_i hm hz;cases hd:digs (s.extract 1 s.size).data.toList 0 with
   |none=>rw[hd] at h;cases h
   |some m=>
    rw[hd] at h;have h1:=zpt _ _ _ (Int.le_refl 0) hd;unfold zcU at h;simp only[if_true] at h
    split at h
    ·cases h
    ·have hm0:m=0:=zo
     subst hm0
     exfalso
     have hsz:1<s.size:=zo
     have hl:(s.extract 1 s.size).data.toList=(bl s).drop 1:=zcw s 1;rw[hl] at hd;have hs:(bl s).length=s.size:=zai s;have hlt:1<(bl s).length:=zo
     rw[zgc hlt] at hd;obtain⟨q,h2,h3⟩:=Option.bind_eq_some_iff.1 hd;have hb:zak s 1=(((bl s).getD 1 0).toNat:Int):=rfl;rw[<-hb] at h2;unfold zcm at h2
     split at h2
     ·cases h2
     ·split at h2
      ·cases h2
      ·cases h2
       have key:∀(l:List UInt8) (n m:Int),n<0->digs l n=some m->m<0:=by
        intro l
        induction l with
        |nil=>intro n m hn h;rw[digs] at h;cases h;exact hn
        |cons c r ih=>
         intro n m hn h;rw[digs] at h;obtain⟨q,h1,h2⟩:=Option.bind_eq_some_iff.1 h;refine ih q m ?_ h2;unfold zcm at h1
         split at h1
         ·cases h1
         ·split at h1
          ·cases h1
          ·cases h1;omega
       have:=key _ _ _ zo h3;omega
 ·split at h
  ·cases h
  ·cases hd:digs s.data.toList 0 with
   |none=>rw[hd] at h;cases h
   |some m=>exact zmH _ _ _ hd
theorem zkr {s:ByteArray} (h:cutF s=true):bl s=bl (cutA s)++46::bl (cutR s):=by
 unfold cutF at h;have h:=of_decide_eq_true h;rcases zfD s with h1|⟨i,h1,h2⟩
 ·omega
 have h3:=(Lib.indexByte_some (l:=s.data.toList) (c:=46) (o:=i) h1).1;unfold cutA cutR;rw[if_neg zo,if_neg zo,h1];have e1:bl (s.extract 0 i)=(bl s).take i:=zgO s i;have e2:bl (s.extract (i+1) s.size)=(bl s).drop (i+1):=zcw s (i+1);rw[show ((i:Int)).toNat=i from rfl,e1,e2];have hi:i<(bl s).length:=(List.getElem?_eq_some_iff.1 h3).1;have e3:(bl s)[i]=46:=(List.getElem?_eq_some_iff.1 h3).2;rw[<-e3,<-List.drop_eq_getElem_cons hi,List.take_append_drop]
theorem znk {s:ByteArray} (h:cutF s=false):cutA s=s:=by
 unfold cutF at h;unfold cutA;rw[if_pos (by have:=of_decide_eq_false h;omega)]
theorem zly {c:UInt8} (h:digB c=true):ptB c=true:=by unfold ptB;rw[h];rfl
theorem zus:∀(f:Nat) (r:ByteArray),r.size<f->zfB f r true=true->∀x∈bl r,ptB x=true
 |0,r,hf,_=>by omega
 |f+1,r,hf,h=>by
  rw[zfB,Bool.and_eq_true] at h;have hd:=zlb h.1;cases hc:cutF r with
  |false=>
   rw[znk hc] at hd;exact λx hx=>zly (hd x hx)
  |true=>
   have hl:=ziw r hc;have ih:=zus f (cutR r) zo (by rw[hc] at h;exact h.2);intro x hx;rw[zkr hc,List.mem_append,List.mem_cons] at hx;rcases hx with hx|rfl|hx
   ·exact zly (hd x hx)
   ·rfl
   ·exact ih x hx
theorem ztS {s:ByteArray} (h:znX s=true):isPt s:=by
 unfold znX at h;simp only[Bool.and_eq_true,decide_eq_true_eq] at h;obtain⟨_,h1,h2⟩:=h;intro x hx;cases hc:cutF s with
 |false=>
  rw[znk hc] at h1;rw[h1] at hx;obtain rfl:x=48:=by simpa using hx
  rfl
 |true=>
  have hl:=ziw s hc;rw[hc] at h2;have h3:=zus _ _ zo h2;rw[zkr hc,List.mem_append,List.mem_cons] at hx;rcases hx with hx|rfl|hx
  ·rw[h1] at hx;obtain rfl:x=48:=by simpa using hx
   rfl
  ·rfl
  ·exact h3 x hx
def zdZ (v:V):Bool:=v.kind != 9&&v.kind != 10&&zbL v
theorem zsP {k:Int} {t:ByteArray} {n m:Int} {s:ByteArray} {l:List V} (h:zdZ (.mk k t n m s l)=true) (hl:Pls l):Pl (.mk k t n m s l):=by
 unfold zdZ at h;simp only[Bool.and_eq_true,bne_iff_ne,ne_eq,V.kind] at h;obtain⟨⟨h9,h10⟩,h⟩:=h;rw[zbL] at h;rw[Pl];have nil:((l.length:Int) == 0)=true->l=[]:=λh=>List.eq_nil_of_length_eq_zero (by have:=eq_of_beq h;omega)
 repeat' split at h
 all_goals try (rename_i hk;subst hk)
 ·unfold zmu at h;simp only[Bool.and_eq_true,beq_iff_eq] at h;exact⟨h.1.2.1,.inl ⟨rfl,zcD h.1.1.1,h.1.1.2,zcD h.1.2.2,nil (by simpa using h.2)⟩⟩
 ·unfold zlV at h;simp only[Bool.and_eq_true,Bool.or_eq_true,beq_iff_eq] at h;exact⟨h.1.2.1,.inr (.inl ⟨rfl,zcD h.1.1.1,h.1.1.2,zcD h.1.2.2,nil (by simpa using h.2)⟩)⟩
 ·unfold zmb at h;simp only[Bool.and_eq_true,beq_iff_eq] at h;exact⟨h.1.2.1,.inr (.inr (.inl ⟨rfl,zcD h.1.1.1,(show inRg n from by have h3:=h.1.1.2;unfold inR at h3;have h4:=of_decide_eq_true h3;exact h4),zcD h.1.2.2,nil (by simpa using h.2)⟩))⟩
 ·unfold zmE at h;simp only[Bool.and_eq_true,beq_iff_eq] at h;exact⟨h.1.1.2,.inr (.inr (.inr (.inl ⟨rfl,zcD h.1.1.1.1,h.1.1.1.2,nil (by simpa using h.2)⟩)))⟩
 ·unfold zmv at h;simp only[Bool.and_eq_true,beq_iff_eq] at h;exact⟨h.1.2.1,.inr (.inr (.inr (.inr (.inl ⟨rfl,zcD h.1.1.1,h.1.1.2,zcD h.1.2.2,hl⟩))))⟩
 ·unfold zmx at h;simp only[Bool.and_eq_true,beq_iff_eq] at h;exact⟨h.2.1,.inr (.inr (.inr (.inr (.inr (.inl ⟨rfl,zmp h.1.1,h.1.2,zcD h.2.2,hl⟩)))))⟩
 ·unfold zlY at h;simp only[Bool.and_eq_true,beq_iff_eq,decide_eq_true_eq] at h;exact⟨h.2.1,.inr (.inr (.inr (.inr (.inr (.inr (.inl ⟨rfl,zmp h.1.1.1,⟨zo,zo⟩,zcD h.2.2,hl⟩))))))⟩
 ·unfold zmm at h;simp only[Bool.and_eq_true,beq_iff_eq] at h;exact⟨h.1.1.2,.inr (.inr (.inr (.inr (.inr (.inr (.inr ⟨rfl,zmp h.1.1.1.1,h.1.1.1.2,ztS h.1.2,nil (by simpa using h.2)⟩))))))⟩
 all_goals first|exact absurd rfl h9|exact absurd rfl h10|cases h
mutual
theorem zlc:∀(v:V) (a b:Nat),zbk zdZ v a=(true,b)->Pl v/\a=b+zcf v
 |.mk k t n m s l,a,b,h=>by
  rw[zbk] at h
  split at h
  ·cases h
  ·rename_i hn;rw[not_or] at hn;obtain⟨h1,h2⟩:=zlf l _ _ h;refine⟨zsP (by simpa using hn.2) h1,?_⟩;rw[zcf];have:=hn.1;omega
theorem zlf:∀(l:List V) (a b:Nat),zbm zdZ l a=(true,b)->Pls l/\a=b+zbl l
 |[],a,b,h=>by
  rw[zbm] at h;cases h;rw[Pls,zbl];exact⟨trivial,rfl⟩
 |v::r,a,b,h=>by
  rw[zbm] at h
  split at h
  ·rename_i hv;obtain⟨h1,h2⟩:=zlc v a (zbk zdZ v a).2 (by rw[<-hv]);obtain⟨h3,h4⟩:=zlf r _ _ h;rw[Pls,zbl];exact⟨⟨h1,h3⟩,zo⟩
  ·cases h
end
def zfN (v:V):Bool:=(zbk zdZ v 16384).1
theorem zrm {v:V} (h:zfN v=true):Pl v/\zcf v<=16384:=by
 obtain⟨h1,h2⟩:=zlc v 16384 (zbk zdZ v 16384).2 (by unfold zfN at h;rw[<-h]);exact⟨h1,zo⟩
def zoQ (v:V):ByteArray:=if zfN v then lb (zfO Lib.itoa v) else ⟨#[]⟩
theorem zxH:ztP []:=λc s h=>by cases h
theorem zvu {v:V} (h:Pl v) (f q:Nat) (hf:fuV v<=f):valL intL f (q+zcf v) (zfO Lib.itoa v)=some (v,q,[]):=by
 have:=zmP Lib.itoa intL zxB (λn _=>zxV n) v h f q [] hf zxH
 rwa [List.append_nil] at this
end Go.Proofs.YtcebmphappfjjaaGreatDoor
