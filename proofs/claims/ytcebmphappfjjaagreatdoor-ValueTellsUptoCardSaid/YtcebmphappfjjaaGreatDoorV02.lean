/- Conditions: those in each statement. -/
import Derived.Test.YtcebmphappfjjaaGreatDoorV00
import Derived.MapKept
import Derived.Carry
import Derived.Test.YtcebmphappfjjaaGreatDoorV01
set_option maxHeartbeats 32000000
set_option maxRecDepth 100000
namespace Go.Proofs.YtcebmphappfjjaaGreatDoor
open Go.RowKit Go.MapKept
def zaN (w:World) (m:Nat) (L:List (ByteArray × Value)):Prop:=
 ∃es clock,w.heap[m]?=some (.map es clock)/\es.toList.map (λe=>(e.key,e.val))=L.map (λp=>(Value.string p.1,p.2))
def fnd (k:ByteArray):List (ByteArray × Value)->Nat->Option (Nat × Value)
 |[],_=>none
 |p::r,i=>if k=p.1 then some (i,p.2) else fnd k r (i+1)
def mget (z:Value) (L:List (ByteArray × Value)) (k:ByteArray):Value:=match fnd k L 0 with|some p=>p.2|none=>z
def mput (L:List (ByteArray × Value)) (k:ByteArray) (v:Value):List (ByteArray × Value):=match fnd k L 0 with|some p=>L.set p.1 (k,v)|none=>L++[(k,v)]
theorem zcO (k:ByteArray):∀(es:List MapEntry) (L:List (ByteArray × Value)) (i:Nat),es.map (λe=>(e.key,e.val))=L.map (λp=>(Value.string p.1,p.2))->Instr.findNow .string ↑k es i=some (fnd k L i)
 |[],L,i,h=>by
  cases L with
  |nil=>rfl
  |cons p r=>simp at h
 |e::es,L,i,h=>by
  cases L with
  |nil=>simp at h
  |cons p r=>
   simp only[List.map_cons,List.cons.injEq,Prod.mk.injEq] at h;obtain⟨⟨h1,h2⟩,h3⟩:=h;have ih:=zcO k es r (i+1) h3;rw[Instr.findNow,h1,fnd]
   by_cases hk:k=p.1
   ·have hb:(k == p.1)=true:=(bytes_beq _ _).2 hk;rw[if_pos hk];simp[Instr.sameNow,hb,h2]
   ·have hb:(k == p.1)=false:=by
     cases hq:(k == p.1) with
     |false=>rfl
     |true=>exact absurd ((bytes_beq _ _).1 hq) hk
    rw[if_neg hk];simp[Instr.sameNow,hb,ih]
theorem zqZ {k:ByteArray}:∀{L:List (ByteArray × Value)} {i:Nat} {p:Nat × Value},fnd k L i=some p->i<=p.1/\L[p.1-i]?=some (k,p.2)
 |[],_,_,h=>by simp[fnd] at h
 |q::r,i,p,h=>by
  rw[fnd] at h
  by_cases hk:k=q.1
  ·rw[if_pos hk] at h;have:=Option.some.inj h;subst this hk;simp
  ·rw[if_neg hk] at h;obtain⟨h1,h2⟩:=zqZ h;refine⟨zo,?_⟩;rw[show p.1-i=(p.1-(i+1))+1 by omega]
   simpa using h2
theorem zaN.lt {w:World} {m:Nat} {L:List (ByteArray × Value)} (h:zaN w m L):m<w.heap.size:=by
 obtain⟨es,clock,h,_⟩:=h;exact(Array.getElem?_eq_some_iff.1 h).1
theorem zaN.keep {w w':World} {m:Nat} {L:List (ByteArray × Value)} (h:zaN w m L) (hk:w'.heap[m]?=w.heap[m]?):zaN w' m L:=by
 obtain⟨es,clock,h,h2⟩:=h;exact⟨es,clock,hk.trans h,h2⟩
theorem zaN.new (w:World):zaN (w.alloc (.map #[] 0)) w.heap.size []:=⟨#[],0,heap_alloc_new w _,rfl⟩
section
variable {P:Program} {T K E:TypeId} (hT:P.underlying T=some (.map K E)) (hK:P.underlying K=some .string)
include hT hK
theorem zfy {w:World} {m:Nat} {L:List (ByteArray × Value)} (h:zaN w m L) {z:Value} (hz:(zeroValue E).run P w=.ok z w) (k:ByteArray) :
 (Instr.lookup T (.map (some m)) ↑k false).run P w=.ok (mget z L k) w:=by
 obtain⟨es,clock,hb,he⟩:=h;have hf:=zcO k es.toList L 0 he;have hfk:=run_findKey (P:=P) (w:=w) hK hf;have hck:∀b,(Instr.checkKey b 10000 K ↑k).run P w=.ok () w:=λb=>run_checkKey (P:=P) (w:=w) hK (k:=↑k) trivial b 9999;unfold mget;cases hx:fnd k L 0 with
 |none=>
  rw[hx] at hfk;simp[Instr.lookup,run_underlying hT,MapKept.run_getObj_map hb,hck,hfk,hz]
 |some p=>
  rw[hx] at hfk;simp[Instr.lookup,run_underlying hT,MapKept.run_getObj_map hb,hck,hfk]
theorem zap {w:World} {m:Nat} {L:List (ByteArray × Value)} (h:zaN w m L) (k:ByteArray) (v:Value) :
 ∃w',(Instr.mapUpdate T (.map (some m)) ↑k v).run P w=.ok () w'/\zaN w' m (mput L k v)/\w.grownBy w' (some m)/\w'.heap.size=w.heap.size:=by
 have hlt:=h.lt;obtain⟨es,clock,hb,he⟩:=h;have hf:=zcO k es.toList L 0 he;have hfk:=run_findKey (P:=P) (w:=w) hK hf;have hck:∀b,(Instr.checkKey b 10000 K ↑k).run P w=.ok () w:=λb=>run_checkKey (P:=P) (w:=w) hK (k:=↑k) trivial b 9999
 have hgr:∀o:Obj,w.grownBy {w with heap:=w.heap.setIfInBounds m o} (some m):=λo=>
  ⟨rfl,rfl,rfl,by simp,λj _ hj=>(heap_set hb).2 j (λe=>hj (by rw[e]))⟩
 unfold mput;cases hx:fnd k L 0 with
 |none=>
  rw[hx] at hfk;refine⟨{w with heap:=w.heap.setIfInBounds m (.map (es.push ⟨.string k,v,clock⟩) (clock+1)) },?_,⟨_,_,(heap_set hb).1,?_⟩,hgr _,by simp⟩
  ·simp[Instr.mapUpdate,run_underlying hT,MapKept.run_getObj_map hb,hck,hfk,MapKept.run_setObj_map _ hb]
  ·simp[he]
 |some p=>
  rw[hx] at hfk;obtain⟨_,hp⟩:=zqZ hx;rw[Nat.sub_zero] at hp;have hlen:es.toList.length=L.length:=by simpa using congrArg List.length he
  have hpl:p.1<L.length:=(List.getElem?_eq_some_iff.1 hp).1;have hpe:p.1<es.size:=by simpa [<-hlen] using hpl
  have hke:es[p.1].key=↑k:=by
   have:=congrArg (λl=>l[p.1]?) he;simp only[List.getElem?_map,hp,Array.getElem?_toList,Array.getElem?_eq_getElem hpe,Option.map_some] at this;exact congrArg Prod.fst (Option.some.inj this)
  refine⟨{w with heap:=w.heap.setIfInBounds m (.map (es.modify p.1 λe=>{e with key:=↑k,val:=v}) clock) },?_,⟨_,_,(heap_set hb).1,?_⟩,hgr _,by simp⟩
  ·simp[Instr.mapUpdate,run_underlying hT,MapKept.run_getObj_map hb,hck,hfk,MapKept.run_setObj_map _ hb,Instr.keyThatStays,hpe,hke,Instr.sameBits,(bytes_beq k k).2 rfl]
  ·apply List.ext_getElem?;intro j;have:=congrArg (λl=>l[j]?) he;simp only[List.getElem?_map,Array.getElem?_toList] at this;simp only[List.getElem?_map,Array.getElem?_toList,Array.getElem?_modify,List.getElem?_set]
   by_cases hj:p.1=j
   ·subst hj;simp[hpl,hpe]
   ·simp[hj,this]
end
end Go.Proofs.YtcebmphappfjjaaGreatDoor
set_option maxHeartbeats 32000000
set_option maxRecDepth 100000
namespace Go.Proofs.YtcebmphappfjjaaGreatDoor
open Go.RowKit
namespace Nd
def kind:Nd->Int|.mk k _ _ _ _=>k
def text:Nd->ByteArray|.mk _ t _ _ _=>t
def n:Nd->Int|.mk _ _ n _ _=>n
def at':Nd->Int|.mk _ _ _ a _=>a
def kids:Nd->List Nd|.mk _ _ _ _ l=>l
end Nd
def fld5 (k:Int) (t:ByteArray) (n a:Int) (d:D):Nat->D
 |0=>.num .i64 k
 |1=>.str t
 |2=>.num .i64 n
 |3=>.num .i64 a
 |_=>d
mutual
def Nd.row:Nd->Nat->D
 |.mk k t n a l=>fld5 k t n a (.sl 5 l.length (zoa l))
def zoa:List Nd->Nat->Nat->D
 |[],_,_=>.bool false
 |v::r,i,j=>match i with
  |0=>v.row j
  |i+1=>zoa r i j
end
def ns (l:List Nd):D:=.sl 5 l.length (zoa l)
theorem zeW:∀(l:List Nd) (i:Nat) (v:Nd),l[i]?=some v->zoa l i=v.row
 |[],i,v,h=>by simp at h
 |x::r,0,v,h=>by simp at h;subst h;funext j;rfl
 |x::r,i+1,v,h=>by
  have:=zeW r i v (by simpa using h)
  funext j
  show zoa r i j=_
  rw[this]
theorem zgq {l:List Nd} {i:Nat} (h:i<l.length):zoa l i=zan Nd.row l i:=by
 have hv:l[i]?=some l[i]:=List.getElem?_eq_getElem h;rw[zeW l i _ hv,zas hv]
section
variable {ok:Nat->Prop} {w:World}
theorem zid {l:List Nd} {v:Value} (h:Rd ok w (.sl 5 l.length (zan Nd.row l)) v):Rd ok w (ns l) v:=h.sl_congr (λi j hi _=>by rw[zgq hi])
def NdAt (ok:Nat->Prop) (w:World) (b o:Nat) (x:Nd) (A:Option Addr) (c:Nat):Prop:=
 w.cell? ⟨b,o,none⟩=some (.int .i64 x.kind)/\w.cell? ⟨b,o+1,none⟩=some (.string x.text)/\w.cell? ⟨b,o+2,none⟩=some (.int .i64 x.n)/\w.cell? ⟨b,o+3,none⟩=some (.int .i64 x.at')/\w.cell? ⟨b,o+4,none⟩=some (.slice A x.kids.length c)/\Rd ok w (ns x.kids) (.slice A x.kids.length c)
theorem zmq {b o:Nat} {x:Nd} (h:zcI ok w b o 5 x.row):∃A c,NdAt ok w b o x A c:=by
 obtain⟨k,t,n,a,l⟩:=x;rw[Nd.row] at h;obtain⟨u0,c0,r0⟩:=h 0 zo;obtain⟨u1,c1,r1⟩:=h 1 zo;obtain⟨u2,c2,r2⟩:=h 2 zo;obtain⟨u3,c3,r3⟩:=h 3 zo;obtain⟨u4,c4,r4⟩:=h 4 zo;have e0:u0=↑k:=r0;have e1:u1=↑t:=r1;have e2:u2=↑n:=r2;have e3:u3=↑a:=r3;have r4':Rd ok w (ns l) u4:=r4;obtain⟨A,c,e4,_⟩:=r4'.sl_inv;subst e0 e1 e2 e3 e4;exact⟨A,c,c0,c1,c2,c3,c4,r4'⟩
theorem zbC {l:List Nd} {A:Option Addr} {n c:Nat} (h:Rd ok w (ns l) (.slice A n c)) {i:Nat} (hi:i<l.length) :
 ∃b off x,A=some ⟨b,off,none⟩/\ok b/\l[i]?=some x/\∃A' c',NdAt ok w b (off+i*5) x A' c':=by
 obtain⟨A0,c0,e,_,_,h3⟩:=h.sl_inv;injection e with e1 e2 e3;subst e1 e2;obtain⟨b,off,rfl,hb,hr⟩:=h3 zo;have hv:l[i]?=some l[i]:=List.getElem?_eq_getElem hi;have h1:=hr i hi;rw[zeW l i _ hv] at h1;exact⟨b,off,l[i],rfl,hb,hv,zmq h1⟩
theorem zaS {l:List Nd} {A:Option Addr} {n c:Nat} (h:Rd ok w (ns l) (.slice A n c)):n=l.length/\n<=c/\c<=9223372036854775807:=by
 obtain⟨A0,c0,e,h1,h2,_⟩:=h.sl_inv;injection e with e1 e2 e3;subst e1 e2 e3;exact⟨rfl,h1,h2⟩
theorem zby {x:Nd} {A:Option Addr} {c:Nat} (h:Rd ok w (ns x.kids) (.slice A x.kids.length c)):∀j u,[Value.int .i64 x.kind,↑x.text,↑x.n,↑x.at',.slice A x.kids.length c][j]?=some u->Rd ok w (x.row j) u:=by
 obtain⟨k,t,n,a,l⟩:=x;intro j u hj;rw[Nd.row]
 match j with
 |0=>simp at hj;exact hj.symm
 |1=>simp at hj;exact hj.symm
 |2=>simp at hj;exact hj.symm
 |3=>simp at hj;exact hj.symm
 |4=>simp at hj;rw[<-hj];exact h
 |j+5=>simp at hj
end
def rowT (t:Tok):Nat->D
 |0=>.num .i64 t.kind
 |1=>.str t.text
 |2=>.num .i64 t.n
 |_=>.num .i64 t.at'
def slT (T:List Tok):D:=slG 4 rowT T
end Go.Proofs.YtcebmphappfjjaaGreatDoor
set_option maxHeartbeats 32000000
set_option maxRecDepth 100000
namespace Go.Proofs.YtcebmphappfjjaaGreatDoor
inductive ST where
 |type|field|expr|set|arm|block|stmt|sarm|send
section
variable (rec:ST->Nd->Bool) (f:Nat)
end
end Go.Proofs.YtcebmphappfjjaaGreatDoor
set_option maxHeartbeats 32000000
set_option maxRecDepth 100000
namespace Go.Proofs.YtcebmphappfjjaaGreatDoor
inductive Ty where
 |mk (kind:Int) (name:ByteArray) (args:List Ty)
def memB (s:ByteArray) (l:List ByteArray):Bool:=l.any (λx=>decide (x=s))
def Ty.zero:Ty:=.mk 0 ⟨#[]⟩ []
namespace Ty
def kind:Ty->Int|.mk k _ _=>k
def name:Ty->ByteArray|.mk _ n _=>n
def args:Ty->List Ty|.mk _ _ a=>a
end Ty
structure Fld where
 name:ByteArray
 ty:Ty
structure Ctr where
 name:ByteArray
 fields:List Fld
structure Dcl where
 name:ByteArray
 record:Bool
 ctors:List Ctr
structure Eff where
 name:ByteArray
 params:List Fld
 answer:Ty
structure Fun' where
 name:ByteArray
 params:List Fld
 result:Ty
structure Var' where
 name:ByteArray
 ty:Ty
structure Hnd where
 msg:ByteArray
 params:List Fld
structure Actr where
 name:ByteArray
 params:List Fld
 vars:List Var'
 on:List Hnd
 policy:Int
 most:Int
structure Prg where
 types:List Dcl
 effects:List Eff
 funs:List Fun'
 actors:List Actr
def Prg.zero:Prg:=⟨[],[],[],[]⟩
def zbW (s:ByteArray):Int:=if s=(⟨#[105,110,116]⟩:ByteArray) then 3 else if s=(⟨#[98,111,111,108]⟩:ByteArray) then 2 else if s=(⟨#[116,101,120,116]⟩:ByteArray) then 4 else if s=(⟨#[117,110,105,116]⟩:ByteArray) then 1 else 0
mutual
def zdT:Ty->Bool
 |.mk k n a=>
  if k=1\/k=2\/k=3\/k=4 then decide (n=⟨#[]⟩)&&a.isEmpty
  else if k=6\/k=7 then zaw n&&a.isEmpty
  else if k=5 then decide (n=⟨#[]⟩)&&decide (a.length=1)&&zcp a
  else if k=8 then decide (n=⟨#[]⟩)&&!a.isEmpty&&zcp a
  else false
def zcp:List Ty->Bool
 |[]=>true
 |t::r=>zdT t&&zcp r
end
mutual
def zjC:Nd->Option Ty
 |.mk k t n _ l=>
  if n≠0 then none
  else if k=12 then
   if zbW t≠0/\l.length=0 then some (.mk (zbW t) ⟨#[]⟩ [])
   else if zaw t=true/\l.length=0 then some (.mk 6 t []) else none
  else if k=14 then if zaw t=true/\l.length=0 then some (.mk 7 t []) else none
  else if k=13 then if t=⟨#[]⟩/\l.length=1 then (zgD l).map (Ty.mk 5 ⟨#[]⟩) else none
  else if k=15 then if t=⟨#[]⟩/\0<l.length then (zgD l).map (Ty.mk 8 ⟨#[]⟩) else none
  else none
def zgD:List Nd->Option (List Ty)
 |[]=>some []
 |n::r=>match zjC n with
  |none=>none
  |some t=>match zgD r with
   |none=>none
   |some l=>some (t::l)
end
def zfu (n:Nd):Ty:=(zjC n).getD .zero
mutual
def zuF:Ty->Ty->Bool
 |.mk k n a,.mk k' n' a'=>decide (k=k')&&decide (n=n')&&decide (a.length=a'.length)&&zsB a a'
def zsB:List Ty->List Ty->Bool
 |a::r,a'::r'=>zuF a a'&&zsB r r'
 |_,_=>true
end
mutual
def zce:Ty->Bool
 |.mk k _ a=>!decide (k=8)&&zbR a
def zbR:List Ty->Bool
 |[]=>true
 |t::r=>zce t&&zbR r
end
def zft (l:List ByteArray) (s:ByteArray):Option Nat:=l.findIdx? (λx=>decide (x=s))
def zqM (p:Prg) (s:ByteArray):Option Nat:=zft (p.types.map Dcl.name) s
def zkt (p:Prg) (s:ByteArray):Option Nat:=zft (p.actors.map Actr.name) s
mutual
def zch (p:Prg):Ty->Bool
 |.mk k n a=>(if k=6 then (zqM p n).isSome else if k=7 then (zkt p n).isSome else true)&&zaT p a
def zaT (p:Prg):List Ty->Bool
 |[]=>true
 |t::r=>zch p t&&zaT p r
end
def zsM (p:Prg) (t:Ty):Bool:=zdT t&&zch p t
def zaL (l:List Nd):List Nd:=l.takeWhile (λn=>decide (n.kind=7))
def kid0 (n:Nd):Nd:=n.kids.headD (.mk 0 ⟨#[]⟩ 0 0 [])
def zbz (l:List Nd):List Fld:=(zaL l).map (λf=>⟨f.text,zfu (kid0 f)⟩)
def zcQ (l:List Nd):Ty:=zfu (l.getD (zaL l).length (.mk 0 ⟨#[]⟩ 0 0 []))
def zaY:List Nd->List ByteArray->Option Int × List ByteArray
 |[],seen=>(none,seen)
 |n::r,seen=>if memB n.text seen=true then (some n.at',seen) else zaY r (seen++[n.text])
def zcS:List Nd->List ByteArray->List ByteArray->Option Int
 |[],_,_=>none
 |k::r,states,hands=>
  if memB k.text (if k.kind=10 then hands else states)=true then some k.at'
  else match (zaY (zaL k.kids) []).1 with
   |some a=>some a
   |none=>if k.kind=10 then zcS r states (hands++[k.text]) else zcS r (states++[k.text]) hands
def zdR (n:Nd) (ctors:List ByteArray):Option Int × List ByteArray:=
 if n.kind=3 then zaY n.kids ctors
 else match (zaY (zaL n.kids) []).1 with
  |some a=>(some a,ctors)
  |none=>if n.kind=6 then (zcS (n.kids.drop (zaL n.kids).length) [] [],ctors) else (none,ctors)
structure Nms where
 types:List ByteArray
 actors:List ByteArray
 ctors:List ByteArray
 effects:List ByteArray
 funs:List ByteArray
def Nms.start:Nms:=⟨[],[],[],[],[(⟨#[108,101,110]⟩:ByteArray),(⟨#[97,116]⟩:ByteArray),(⟨#[112,117,116]⟩:ByteArray),(⟨#[115,108,105,99,101]⟩:ByteArray),(⟨#[115,105,122,101]⟩:ByteArray),(⟨#[115,117,98]⟩:ByteArray),(⟨#[115,104,111,119]⟩:ByteArray)]⟩
def badN (n:Nd) (s:Nms):Bool:=
 if n.kind=2 then memB n.text s.types || memB n.text s.actors || memB n.text s.ctors
 else if n.kind=3\/n.kind=6 then memB n.text s.types || memB n.text s.actors
 else if n.kind=5 then memB n.text s.funs
 else if n.kind=4 then memB n.text s.effects
 else false
def addN (n:Nd) (s:Nms):Nms:=
 if n.kind=2 then {s with types:=s.types++[n.text],ctors:=s.ctors++[n.text] }
 else if n.kind=3 then {s with types:=s.types++[n.text] }
 else if n.kind=6 then {s with actors:=s.actors++[n.text] }
 else if n.kind=5 then {s with funs:=s.funs++[n.text] }
 else if n.kind=4 then {s with effects:=s.effects++[n.text] }
 else s
def zcL:List Nd->Nms->Option Int
 |[],_=>none
 |n::r,s=>
  if badN n s=true then some n.at'
  else match zdR n (addN n s).ctors with
   |(some a,_)=>some a
   |(none,c)=>zcL r {addN n s with ctors:=c}
def zca (n:Nd):List Nd:=n.kids.flatMap (λk=>
 if k.kind=7 then [kid0 k]
 else if k.kind=8 then k.kids
 else if k.kind=9 then [kid0 k]
 else if k.kind=10 then (zaL k.kids).map kid0
 else if k.kind=12\/k.kind=13\/k.kind=14\/k.kind=15 then [k]
 else [])
def zpj (l:List Nd):List ByteArray:=(l.filter (λn=>decide (n.kind=2\/n.kind=3))).map Nd.text
def zmh (l:List Nd):List ByteArray:=(l.filter (λn=>decide (n.kind=6))).map Nd.text
mutual
def zbA (ts acs:List ByteArray):Nd->Option Int
 |.mk k t _ a l=>
  if (k=12/\zbW t=0/\memB t ts=false)\/(k=14/\memB t acs=false) then some a else zbg ts acs l
def zbg (ts acs:List ByteArray):List Nd->Option Int
 |[]=>none
 |n::r=>match zbA ts acs n with
  |some a=>some a
  |none=>zbg ts acs r
end
def zgV (l:List Nd):Option Int:=(l.flatMap zca).findSome? (zbA (zpj l) (zmh l))
def zeN (l:List Nd):Option Int:=((l.filter (λn=>decide (n.kind≠5))).flatMap zca).findSome? (λt=>if zce (zfu t)=true then none else some t.at')
def zeX (l:List Nd):Option Int:=(l.find? (λn=>decide (n.kind=6/\(101<n.n\/n.n=1)))).map Nd.at'
def zbf (n:Nd):List (List Nd):=if n.kind=2 then [zca n] else if n.kind=3 then n.kids.map Nd.kids else []
def zhY (l:List Nd):Option (Int × Int):=match l.find? (λn=>decide (n.kind=6/\n.text=(⟨#[77,97,105,110]⟩:ByteArray))) with
 |none=>some (5,0)
 |some n=>if 0<(zaL n.kids).length then some (7,n.at') else none
structure Lq where
 fin:List Bool
 ready:List Nat
 needs:List (Nat × Int)
 wait:List (List Nat)
def tyP (k:ByteArray) (n:Nd):Bool:=decide ((n.kind=2\/n.kind=3)/\n.text=k)
def zeA (l:List Nd) (k:ByteArray):Nat:=(l.findIdx? (tyP k)).getD 0
def zaV (s:Lq) (i:Nat):Lq:=if s.fin.getD i false=true then s else {s with fin:=s.fin.set i true,ready:=s.ready++[i] }
def argQ (l:List Nd) (k:Nat) (p:List (List Nat) × Int) (t:Nd):List (List Nat) × Int:=
 if t.kind=12/\zbW t.text=0 then (p.1.set (zeA l t.text) (p.1.getD (zeA l t.text) []++[k]),IntKind.i64.wrap (p.2+1)) else p
def zkp (l:List Nd) (i:Nat) (s:Lq) (c:List Nd):Lq:=
 let p:=c.foldl (argQ l s.needs.length) (s.wait,0)
 let s':Lq:={s with wait:=p.1,needs:=s.needs++[(i,p.2)] }
 if p.2=0 then zaV s' i else s'
def zfw (l:List Nd):List Nd->Nat->Lq->Lq
 |[],_,s=>s
 |n::r,i,s=>zfw l r (i+1) ((zbf n).foldl (zkp l i) s)
def hitQ (s:Lq) (c:Nat):Lq:=
 let d:=s.needs.getD c (0,0)
 let s':Lq:={s with needs:=s.needs.set c (d.1,IntKind.i64.wrap (d.2-1)) }
 if IntKind.i64.wrap (d.2-1)=0 then zaV s' d.1 else s'
def zdW:Nat->Lq->Lq
 |0,s=>s
 |f+1,s=>match s.ready.getLast? with
  |none=>s
  |some i=>zdW f ((s.wait.getD i []).foldl hitQ {s with ready:=s.ready.dropLast})
def zfA (l:List Nd):Lq:=⟨List.replicate l.length false,[],[],List.replicate l.length []⟩
def zgn (l:List Nd):List Bool:=(zdW l.length (zfw l l 0 (zfA l))).fin
def zfW (l:List Nd):Option Int:=((l.zipIdx).find? (λp=>decide ((p.1.kind=2\/p.1.kind=3)/\(zgn l).getD p.2 false=false))).map (λp=>p.1.at')
def zhe (n:Nd):Dcl:=⟨n.text,false,n.kids.map (λk=>⟨k.text,k.kids.map (λt=>⟨⟨#[]⟩,zfu t⟩)⟩)⟩
def zkn (n:Nd):Actr:=⟨n.text,zbz n.kids,(n.kids.filter (λk=>decide (k.kind=9))).map (λk=>⟨k.text,zcQ k.kids⟩),(n.kids.filter (λk=>decide (k.kind=10))).map (λk=>⟨k.text,zbz k.kids⟩),if n.n<0 then 2 else if 0<n.n then 1 else 0,if 0<n.n then n.n-1 else 0⟩
def zbn:List Nd->Prg
 |[]=>.zero
 |n::r=>let p:=zbn r
  if n.kind=2 then {p with types:=⟨n.text,true,[⟨n.text,zbz n.kids⟩]⟩::p.types}
  else if n.kind=3 then {p with types:=zhe n::p.types}
  else if n.kind=4 then {p with effects:=⟨n.text,zbz n.kids,zcQ n.kids⟩::p.effects}
  else if n.kind=5 then {p with funs:=⟨n.text,zbz n.kids,zcQ n.kids⟩::p.funs}
  else if n.kind=6 then {p with actors:=zkn n::p.actors}
  else p
end Go.Proofs.YtcebmphappfjjaaGreatDoor
set_option maxHeartbeats 32000000
set_option maxRecDepth 100000
namespace Go.Proofs.YtcebmphappfjjaaGreatDoor
open Go.RowKit
structure PG where
 T:List Tok
 A:Option Addr
 c:Nat
 en:Int
 m:Nat
 lim:Nat
 nbr:∀st:Ps,zao T st≠(⟨#[91]⟩:ByteArray)
 nref:∀st:Ps,zao T st≠(⟨#[114,101,102]⟩:ByteArray)
 nrec:∀st:Ps,zao T st≠(⟨#[114,101,99,111,114,100]⟩:ByteArray)
 neff:∀st:Ps,zao T st≠(⟨#[101,102,102,101,99,116]⟩:ByteArray)
 nesc:∀st:Ps,zao T st≠(⟨#[101,115,99,97,108,97,116,101]⟩:ByteArray)
 nres:∀st:Ps,zao T st≠(⟨#[114,101,115,116,97,114,116]⟩:ByteArray)
 nsta:∀st:Ps,zao T st≠(⟨#[115,116,97,116,101]⟩:ByteArray)
 non:∀st:Ps,zao T st≠(⟨#[111,110]⟩:ByteArray)
 hfn:∀st:Ps,(zao T st=(⟨#[58]⟩:ByteArray)\/zao T st=(⟨#[40]⟩:ByteArray)\/zao T st=(⟨#[44]⟩:ByteArray))->zao T st.adv≠(⟨#[102,117,110]⟩:ByteArray)
 heq:∀st:Ps,zao T st=(⟨#[61]⟩:ByteArray)->zao T st.adv=(⟨#[116,114,117,101]⟩:ByteArray)
 htr:∀st:Ps,zao T st=(⟨#[116,114,117,101]⟩:ByteArray)->zao T st.adv=(⟨#[97,99,116,111,114]⟩:ByteArray)
def zgA:List (ByteArray × Value):=zgv.map (λp=>(p.1,.int .i64 p.2))
structure PsAt (G:PG) (b:Nat) (w:World) (st:Ps):Prop where
 box:w.heap[b]?=some (.cells #[.slice G.A G.T.length G.c,.int .i64 st.next,.int .i64 G.en,.bool st.head,.map (some G.m)] 152 (0,0))
 le:st.next<=G.T.length
 len:G.T.length<=32768
 tk:Rd (λk=>k≠b/\k<G.lim) w (slT G.T) (.slice G.A G.T.length G.c)
 mp:zaN w G.m zgA
 mb:G.m≠b/\G.m<G.lim
 lim:G.lim<=w.heap.size
 tx:∀t∈G.T,t.text.size<=32768
 nm:∀t∈G.T,0<=t.n/\t.n<=9007199254740992
section
variable {G:PG} {b:Nat} {w w1:World} {st st1:Ps}
theorem PsAt.lt (h:PsAt G b w st):b<w.heap.size:=(Array.getElem?_eq_some_iff.1 h.box).1
theorem PsAt.c0 (h:PsAt G b w st):w.cell? ⟨b,0,none⟩=some (.slice G.A G.T.length G.c):=by rw[Lib.cell_of_heap h.box];rfl
theorem PsAt.c1 (h:PsAt G b w st):w.cell? ⟨b,1,none⟩=some (.int .i64 st.next):=by rw[Lib.cell_of_heap h.box];rfl
theorem PsAt.c2 (h:PsAt G b w st):w.cell? ⟨b,2,none⟩=some (.int .i64 G.en):=by rw[Lib.cell_of_heap h.box];rfl
theorem PsAt.c3 (h:PsAt G b w st):w.cell? ⟨b,3,none⟩=some (.bool st.head):=by rw[Lib.cell_of_heap h.box];rfl
theorem PsAt.c4 (h:PsAt G b w st):w.cell? ⟨b,4,none⟩=some (.map (some G.m)):=by rw[Lib.cell_of_heap h.box];rfl
theorem PsAt.word (h:PsAt G b w st):(zao G.T st).size<=32768:=by
 unfold zao;cases hx:G.T[st.next]? with
 |none=>exact Nat.zero_le _
 |some t=>
  simp only
  split
  ·exact h.tx t (List.mem_of_getElem? hx)
  ·exact Nat.zero_le _
theorem PsAt.fz (h:PsAt G b w st) (j:Nat):w.frozen? ⟨b,j,none⟩=false:=by simp[World.frozen?,h.box]
theorem PsAt.keepIf (h:PsAt G b w st) (hs:w.heap.size<=w1.heap.size) (hk:∀k,k<G.lim->k≠b->w1.heap[k]?=w.heap[k]?)
 (hb:w1.heap[b]?=some (.cells #[.slice G.A G.T.length G.c,.int .i64 st1.next,.int .i64 G.en,.bool st1.head,.map (some G.m)] 152 (0,0))) (hl:st1.next<=G.T.length):PsAt G b w1 st1:=
 ⟨hb,hl,h.len,h.tk.keep (λk _ hk'=>World.cell?_of_block (hk k hk'.2 hk'.1)),h.mp.keep (hk _ h.mb.2 h.mb.1),h.mb,Nat.le_trans h.lim hs,h.tx,h.nm⟩
theorem PsAt.below (h:PsAt G b w st) (hb:Below w.heap.size w w1):PsAt G b w1 st:=h.keepIf hb.size (λk hk _=>hb.block k (Nat.lt_of_lt_of_le hk h.lim)) ((hb.block b h.lt).trans h.box) h.le
theorem PsAt.keep {M:Nat->Prop} (h:PsAt G b w st) (hc:Chg M w w1) (hM:∀k,M k->G.lim<=k/\k≠b):PsAt G b w1 st:=
 h.keepIf hc.size (λk hk _=>hc.block k (Nat.lt_of_lt_of_le hk h.lim) (λh'=>by have:=(hM k h').1;omega)) ((hc.block b h.lt (λh'=>(hM b h').2 rfl)).trans h.box) h.le
theorem PsAt.set1 (h:PsAt G b w st) (hl:st.next+1<=G.T.length):PsAt G b (w.setCell ⟨b,1,none⟩ (.int .i64 ((st.next+1:Nat):Int))) st.adv:=
 h.keepIf (by rw[zbs];exact Nat.le_refl _) (λk _ hk=>Below.heap_setCell w _ _ k (λe=>hk e)) (by have:=h.box;simp[World.setCell,Array.getElem?_modify,this,Ps.adv]) hl
theorem PsAt.set3 (h:PsAt G b w st) (hd:Bool):PsAt G b (w.setCell ⟨b,3,none⟩ ↑hd) ⟨st.next,hd⟩:=
 h.keepIf (by rw[zbs];exact Nat.le_refl _) (λk _ hk=>Below.heap_setCell w _ _ k (λe=>hk e)) (by have:=h.box;simp[World.setCell,Array.getElem?_modify,this]) h.le
end
def zcJ (a:Int):Ending:=.panicked [{v:=.iface 144 (.int .i64 a),recovered:=false}]
def Own1 (b:Nat) (w w':World):Prop:=Chg (λk=>k=b) w w'
def zaG {α:Type} (G:PG) (b:Nat) (Q:α->World->Ending->World->Prop) (x:R α) (w:World) (e:Ending) (w':World):Prop:=Own1 b w w'/\match x with
 |.error a=>e=zcJ a
 |.ok (v,st')=>PsAt G b w' st'/\Q v w e w'
def zuj (_:Unit) (_:World) (e:Ending) (_:World):Prop:=e=.returned (.tuple #[])
def QStr (s:ByteArray) (_:World) (e:Ending) (_:World):Prop:=e=.returned (.string s)
def QInt (n:Int) (_:World) (e:Ending) (_:World):Prop:=e=.returned (.int .i64 n)
def QNd (x:Nd) (w:World) (e:Ending) (w':World):Prop:=∃A c,e=.returned (.agg #[.int .i64 x.kind,.string x.text,.int .i64 x.n,.int .i64 x.at',.slice A x.kids.length c])/\Rd (Bt w.heap.size w'.heap.size) w' (ns x.kids) (.slice A x.kids.length c)
def QNs (m:Nat) (l:List Nd) (w:World) (e:Ending) (w':World):Prop:=∃A c,e=.returned (.slice A l.length c)/\l.length<=m/\zaz w.heap.size 49 5 l.length (zan Nd.row l) w' (.slice A l.length c)
theorem zx {α β:Type} {x:R α} {f:α->Ps->R β} {r:R β} (h:Hid (R.next x f=r)) {a:α} {st:Ps} (e:x=.ok (a,st)):Hid (f a st=r):=zz (by rw[<-h.out,e];rfl)
theorem PsAt.tok {G:PG} {b:Nat} {w:World} {st:Ps} (h:PsAt G b w st) {t:Tok} (ht:G.T[st.next]?=some t) :
 ∃B off,G.A=some ⟨B,off,none⟩/\w.cell? ⟨B,off+st.next*4,none⟩=some ↑t.kind/\w.cell? ⟨B,off+st.next*4+1,none⟩=some ↑t.text/\w.cell? ⟨B,off+st.next*4+2,none⟩=some ↑t.n/\w.cell? ⟨B,off+st.next*4+3,none⟩=some ↑t.at':=by
 obtain⟨B,off,x,e,_,hx,hr⟩:=zqT h.tk (i:=st.next) (List.getElem?_eq_some_iff.1 ht).1;rw[ht] at hx;obtain rfl:=Option.some.inj hx;obtain⟨u0,c0,r0⟩:=hr 0 zo;obtain⟨u1,c1,r1⟩:=hr 1 zo;obtain⟨u2,c2,r2⟩:=hr 2 zo;obtain⟨u3,c3,r3⟩:=hr 3 zo;obtain rfl:u0=↑t.kind:=r0;obtain rfl:u1=↑t.text:=r1;obtain rfl:u2=↑t.n:=r2;obtain rfl:u3=↑t.at':=r3;exact⟨B,off,e,c0,c1,c2,c3⟩
theorem zjE (G:PG) (b:Nat) (st:Ps) (w:World) (h:PsAt G b w st):Calls Tryz.prog 165 #[.pointer (some ⟨b,0,none⟩)] w λe w'=>e=.returned (.bool ((st.next:Int) == (G.T.length:Int)))/\Below w.heap.size w w':=by
 have c0:=h.c0;have c1:=h.c1;clear h;go_in;go_wp2
 go_quiet (fail)
 go_wp2;go_ret;exact⟨rfl,zae (Below.refl _ _) _⟩
theorem zbj {w:World} {g:Nat} {e:TypeId} {a0 a1 a2 a3:Value} (u0 u1 u2 u3:Value) (h:zab w g #[a0,a1,a2,a3] e) :
 zab ((((w.setCell ⟨g,0,none⟩ u0).setCell ⟨g,1,none⟩ u1).setCell ⟨g,2,none⟩ u2).setCell ⟨g,3,none⟩ u3) g #[u0,u1,u2,u3] e:=by
 have:=(((h.set 0 u0).set 1 u1).set 2 u2).set 3 u3
 simpa using this
theorem zex {w:World} {g:Nat} {e:TypeId} {a0 a1 a2 a3 a4:Value} (u0 u1 u2 u3 u4:Value) (h:zab w g #[a0,a1,a2,a3,a4] e) :
 zab (((((w.setCell ⟨g,0,none⟩ u0).setCell ⟨g,1,none⟩ u1).setCell ⟨g,2,none⟩ u2).setCell ⟨g,3,none⟩ u3).setCell ⟨g,4,none⟩ u4) g #[u0,u1,u2,u3,u4] e:=by
 have:=((((h.set 0 u0).set 1 u1).set 2 u2).set 3 u3).set 4 u4
 simpa using this
theorem ziL {w W:World} {g:Nat} (hB:Below w.heap.size w W) (hg:w.heap.size<=g) (u0 u1 u2 u3:Value):Below w.heap.size w ((((W.setCell ⟨g,0,none⟩ u0).setCell ⟨g,1,none⟩ u1).setCell ⟨g,2,none⟩ u2).setCell ⟨g,3,none⟩ u3):=
 (((hB.setCell (p:=⟨g,0,none⟩) hg u0).setCell (p:=⟨g,1,none⟩) hg u1).setCell (p:=⟨g,2,none⟩) hg u2).setCell (p:=⟨g,3,none⟩) hg u3
theorem zbY:(Tryz.prog.info? 198).map (·.size)=some 4:=by kernel_rfl
def zcq (G:PG) (st:Ps):Tok:=match G.T[st.next]? with|some t=>t|none=>⟨0,⟨#[]⟩,0,G.en⟩
theorem zfl (G:PG) (b:Nat) (st:Ps) (w:World) (h:PsAt G b w st):Calls Tryz.prog 245 #[.pointer (some ⟨b,0,none⟩)] w λe w'=>e=.returned (.agg #[.int .i64 (zcq G st).kind,.string (zcq G st).text,.int .i64 (zcq G st).n,.int .i64 (zcq G st).at'])/\Below w.heap.size w w':=by
 have c0:=h.c0;have c1:=h.c1;have c2:=h.c2;have hbl:=h.lt;have hle:=h.le;have hlen:=h.len
 by_cases hd:st.next=G.T.length
 ·have hp:zcq G st=⟨0,⟨#[]⟩,0,G.en⟩:=by unfold zcq;rw[List.getElem?_eq_none zo]
  rw[hp];have hdi:((st.next:Int) == (G.T.length:Int))=true:=by rw[hd];simp
  have HD:=zz (zjE G b st _ (h.below ((Below.refl _ _).alloc (Nat.le_refl _) (.cells #[↑(),↑zj.a,↑(),↑()] 198))));rw[hdi] at HD;clear hp h hd;go_in;go_wp2_with fail;refine zi HD ?_;rintro e w1 ⟨rfl,hb⟩;have c2':w1.cell? ⟨b,2,none⟩=some ↑G.en:=(hb.cell (p:=⟨b,2,none⟩) (by simp;omega)).trans (((Below.refl w.heap.size w).alloc (Nat.le_refl _) _).cell (p:=⟨b,2,none⟩) hbl |>.trans c2);have X1:zab w1 w.heap.size #[↑(),↑zj.a,↑(),↑()] 198:=(hb.block _ zs).trans (heap_alloc_new w _);have x0:=X1.a 0 rfl;have x1:=X1.a 1 rfl;have x2:=X1.a 2 rfl;have x3:=X1.a 3 rfl;have z:=X1.fz;have HB0:=zz (((Below.refl w.heap.size w).alloc (Nat.le_refl _) (.cells #[↑(),↑zj.a,↑(),↑()] 198)).trans (hb.mono zs));have HX1:=zz X1;clear hb X1;go_wp2;exact bodyPost_ret (results_cell_row zr _ _ w.heap.size _ _ (0,0) _ rfl (zbj _ _ _ _ HX1.out) Tryz.underlying198 rfl zbY) rfl ⟨rfl,ziL HB0.out (Nat.le_refl _) _ _ _ _⟩
 ·have hlt:st.next<G.T.length:=zo
  have ht:G.T[st.next]?=some G.T[st.next]:=List.getElem?_eq_getElem hlt;have hp:zcq G st=G.T[st.next]:=by unfold zcq;rw[ht]
  rw[hp];obtain⟨B,off,hA,t0,t1,t2,t3⟩:=h.tok ht;generalize G.T[st.next]=t at *
  have hdi:((st.next:Int) == (G.T.length:Int))=false:=by rw[beq_eq_false_iff_ne];omega
  rw[hA] at c0;have HD:=zz (zjE G b st _ (h.below ((Below.refl _ _).alloc (Nat.le_refl _) (.cells #[↑(),↑zj.a,↑(),↑()] 198))));rw[hdi] at HD;have hbl:=h.lt;clear hp h hd;go_in;go_wp2_with fail;refine zi HD ?_;rintro e w1 ⟨rfl,hb⟩;have X1:zab w1 w.heap.size #[↑(),↑zj.a,↑(),↑()] 198:=(hb.block _ zs).trans (heap_alloc_new w _);have x0:=X1.a 0 rfl;have x1:=X1.a 1 rfl;have x2:=X1.a 2 rfl;have x3:=X1.a 3 rfl;have z:=X1.fz;have HB0:=zz (((Below.refl w.heap.size w).alloc (Nat.le_refl _) (.cells #[↑(),↑zj.a,↑(),↑()] 198)).trans (hb.mono zs));have HX1:=zz X1;have m:∀p:Addr,p.block<w.heap.size->w1.cell? p=w.cell? p:=λp hp=>HB0.out.cell hp;have q0:=(m ⟨b,0,none⟩ hbl).trans c0;have q1:=(m ⟨b,1,none⟩ hbl).trans c1;have hBl:B<w.heap.size:=World.block_lt_of_cell? w _ t0;have r0:=(m ⟨B,_,none⟩ hBl).trans t0;have r1:=(m ⟨B,_,none⟩ hBl).trans t1;have r2:=(m ⟨B,_,none⟩ hBl).trans t2;have r3:=(m ⟨B,_,none⟩ hBl).trans t3;clear hb X1 m c0 c1 c2 t0 t1 t2 t3 hBl;have hlti:(st.next:Int)<G.T.length:=zo
  go_wp2
  go_region
  go_wp2;exact bodyPost_ret (results_cell_row zr _ _ w.heap.size _ _ (0,0) _ rfl (show zab (World.drew _) _ _ _ from zbj _ _ _ _ HX1.out) Tryz.underlying198 rfl zbY) rfl ⟨rfl,zae (ziL HB0.out (Nat.le_refl _) _ _ _ _) 1⟩
theorem ztR (G:PG) (st:Ps):zao G.T st=if (zcq G st).kind=1\/(zcq G st).kind=4 then (zcq G st).text else ⟨#[]⟩:=by
 unfold zao zcq;cases G.T[st.next]? with
 |none=>rfl
 |some t=>rfl
theorem zpd (G:PG) (st:Ps):zaC G.T G.en st=(zcq G st).at':=by
 unfold zaC zcq;cases G.T[st.next]?<;>rfl
theorem zju (G:PG) (b:Nat) (st:Ps) (w:World) (h:PsAt G b w st):Calls Tryz.prog 210 #[.pointer (some ⟨b,0,none⟩)] w λe w'=>e=.returned (.int .i64 (zaC G.T G.en st))/\Below w.heap.size w w':=by
 have HP:=zz (zfl G b st w h);rw[zpd];generalize zcq G st=t at *
 have hfld:∀W:World,(Instr.field 198 (.agg #[↑t.kind,↑t.text,↑t.n,↑t.at']) 3).run Tryz.prog W=.ok ↑t.at' W:=λW=>by kernel_rfl
 clear h;go_in;go_wp2_with fail;refine zi HP ?_;rintro e w1 ⟨rfl,hb⟩;have HB:=zz hb;clear hb;go_wp2;go_ret;exact⟨rfl,HB.out⟩
theorem zhm (G:PG) (b:Nat) (st:Ps) (w:World) (h:PsAt G b w st):Calls Tryz.prog 209 #[.pointer (some ⟨b,0,none⟩)] w λe w'=>e=.returned (.string (zao G.T st))/\Below w.heap.size w w':=by
 have HP:=zz (zfl G b st w h);have HW:=zz (ztR G st);generalize zao G.T st=s at *
 generalize zcq G st=t at *
 clear h
 by_cases h1:t.kind=1
 ·have k1:(t.kind == 1)=true:=by simpa using h1
  have HS:Hid (s=t.text):=zz (by rw[HW.out,if_pos (.inl h1)]);go_in;go_wp2_with fail;refine zi HP ?_;rintro e w1 ⟨rfl,hb⟩;have HB:=zz hb;clear hb;go_wp2;go_ret;rw[HS.out];exact⟨rfl,HB.out.alloc HB.out.size _⟩
 ·have k1:(t.kind == 1)=false:=by simpa using h1
  by_cases h4:t.kind=4
  ·have k4:(t.kind == 4)=true:=by simpa using h4
   have HS:Hid (s=t.text):=zz (by rw[HW.out,if_pos (.inr h4)]);go_in;go_wp2_with fail;refine zi HP ?_;rintro e w1 ⟨rfl,hb⟩;have HB:=zz hb;clear hb;go_wp2;go_ret;rw[HS.out];exact⟨rfl,HB.out.alloc HB.out.size _⟩
  ·have k4:(t.kind == 4)=false:=by simpa using h4
   have HS:Hid (s=⟨#[]⟩):=zz (by rw[HW.out,if_neg (λh=>h.elim h1 h4)]);go_in;go_wp2_with fail;refine zi HP ?_;rintro e w1 ⟨rfl,hb⟩;have HB:=zz hb;clear hb;go_wp2;go_ret;rw[HS.out];exact⟨rfl,HB.out.alloc HB.out.size _⟩
end Go.Proofs.YtcebmphappfjjaaGreatDoor
