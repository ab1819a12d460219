/- Conditions: those in each statement. -/
import Derived.Test.YtjdpocmlimkjjaaGreatQ02
import Derived.Test.YtjdpocmlimkjjaaGreatQ00
set_option maxHeartbeats 32000000
set_option maxRecDepth 100000
namespace Go.Proofs.YtjdpocmlimkjjaaGreat
inductive Ty where
 |mk (kind:Int) (name:ByteArray) (args:List Ty)
def memB (s:ByteArray) (l:List ByteArray):Bool:=l.any (λx=>decide (x=s))
def Ty.zero:Ty:=.mk 0 ⟨#[]⟩ []
namespace Ty
def kind:Ty→Int|.mk k _ _=>k
def name:Ty→ByteArray|.mk _ n _=>n
def args:Ty→List Ty|.mk _ _ a=>a
end Ty
structure Fld where
 name:ByteArray
 ty:Ty
structure Ctr where
 name:ByteArray
 fields:List Fld
structure Dcl where
 name:ByteArray
 record:Bool
 ctors:List Ctr
structure Eff where
 name:ByteArray
 params:List Fld
 answer:Ty
structure Fun' where
 name:ByteArray
 params:List Fld
 result:Ty
structure Var' where
 name:ByteArray
 ty:Ty
structure Hnd where
 msg:ByteArray
 params:List Fld
structure Actr where
 name:ByteArray
 params:List Fld
 vars:List Var'
 on:List Hnd
 policy:Int
 most:Int
structure Prg where
 types:List Dcl
 effects:List Eff
 funs:List Fun'
 actors:List Actr
def Prg.zero:Prg:=⟨[],[],[],[]⟩
def zbr (s:ByteArray):Int:=if s=(⟨#[105,110,116]⟩:ByteArray) then 3 else if s=(⟨#[98,111,111,108]⟩:ByteArray) then 2 else if s=(⟨#[116,101,120,116]⟩:ByteArray) then 4 else if s=(⟨#[117,110,105,116]⟩:ByteArray) then 1 else 0
mutual
def zbJ:Ty→Bool
 |.mk k n a=>
  if k=1∨k=2∨k=3∨k=4 then decide (n=⟨#[]⟩)&&a.isEmpty
  else if k=6∨k=7 then zaw n&&a.isEmpty
  else if k=5 then decide (n=⟨#[]⟩)&&decide (a.length=1)&&zbZ a
  else if k=8 then decide (n=⟨#[]⟩)&&!a.isEmpty&&zbZ a
  else false
def zbZ:List Ty→Bool
 |[]=>true
 |t::r=>zbJ t&&zbZ r
end
mutual
def zfp:Nd→Option Ty
 |.mk k t n _ l=>
  if n≠0 then none
  else if k=12 then
   if zbr t≠0∧l.length=0 then some (.mk (zbr t) ⟨#[]⟩ [])
   else if zaw t=true∧l.length=0 then some (.mk 6 t []) else none
  else if k=14 then if zaw t=true∧l.length=0 then some (.mk 7 t []) else none
  else if k=13 then if t=⟨#[]⟩∧l.length=1 then (zer l).map (Ty.mk 5 ⟨#[]⟩) else none
  else if k=15 then if t=⟨#[]⟩∧0<l.length then (zer l).map (Ty.mk 8 ⟨#[]⟩) else none
  else none
def zer:List Nd→Option (List Ty)
 |[]=>some []
 |n::r=>match zfp n with
  |none=>none
  |some t=>match zer r with
   |none=>none
   |some l=>some (t::l)
end
def zcs (n:Nd):Ty:=(zfp n).getD .zero
mutual
def zsk:Ty→Ty→Bool
 |.mk k n a,.mk k' n' a'=>decide (k=k')&&decide (n=n')&&decide (a.length=a'.length)&&zqO a a'
def zqO:List Ty→List Ty→Bool
 |a::r,a'::r'=>zsk a a'&&zqO r r'
 |_,_=>true
end
mutual
def zaZ:Ty→Bool
 |.mk k _ a=>!decide (k=8)&&zcm a
def zcm:List Ty→Bool
 |[]=>true
 |t::r=>zaZ t&&zcm r
end
def zcW (l:List ByteArray) (s:ByteArray):Option Nat:=l.findIdx? (λx=>decide (x=s))
def zmd (p:Prg) (s:ByteArray):Option Nat:=zcW (p.types.map Dcl.name) s
def zhZ (p:Prg) (s:ByteArray):Option Nat:=zcW (p.actors.map Actr.name) s
def zhJ:List Dcl→ByteArray→Option (ByteArray × Nat)
 |[],_=>none
 |d::r,s=>match zcW (d.ctors.map Ctr.name) s with
  |some j=>some (d.name,j)
  |none=>zhJ r s
mutual
def zbz (p:Prg):Ty→Bool
 |.mk k n a=>(if k=6 then (zmd p n).isSome else if k=7 then (zhZ p n).isSome else true)&&zaP p a
def zaP (p:Prg):List Ty→Bool
 |[]=>true
 |t::r=>zbz p t&&zaP p r
end
def zhz (p:Prg) (t:Ty):Bool:=zbJ t&&zbz p t
def zaL (l:List Nd):List Nd:=l.takeWhile (λn=>decide (n.kind=7))
def kid0 (n:Nd):Nd:=n.kids.headD (.mk 0 ⟨#[]⟩ 0 0 [])
def zbk (l:List Nd):List Fld:=(zaL l).map (λf=>⟨f.text,zcs (kid0 f)⟩)
def zby (l:List Nd):Ty:=zcs (l.getD (zaL l).length (.mk 0 ⟨#[]⟩ 0 0 []))
def zaJ:List Nd→List ByteArray→Option Int × List ByteArray
 |[],seen=>(none,seen)
 |n::r,seen=>if memB n.text seen=true then (some n.at',seen) else zaJ r (seen++[n.text])
def zdi:List Nd→List ByteArray→List ByteArray→Option Int
 |[],_,_=>none
 |k::r,states,hands=>
  if memB k.text (if k.kind=10 then hands else states)=true then some k.at'
  else match (zaJ (zaL k.kids) []).1 with
   |some a=>some a
   |none=>if k.kind=10 then zdi r states (hands++[k.text]) else zdi r (states++[k.text]) hands
def zcz (n:Nd) (ctors:List ByteArray):Option Int × List ByteArray:=
 if n.kind=3 then zaJ n.kids ctors
 else match (zaJ (zaL n.kids) []).1 with
  |some a=>(some a,ctors)
  |none=>if n.kind=6 then (zdi (n.kids.drop (zaL n.kids).length) [] [],ctors) else (none,ctors)
structure Nms where
 types:List ByteArray
 actors:List ByteArray
 ctors:List ByteArray
 effects:List ByteArray
 funs:List ByteArray
def Nms.start:Nms:=⟨[],[],[],[],[(⟨#[108,101,110]⟩:ByteArray),(⟨#[97,116]⟩:ByteArray),(⟨#[112,117,116]⟩:ByteArray),(⟨#[115,108,105,99,101]⟩:ByteArray),(⟨#[115,105,122,101]⟩:ByteArray),(⟨#[115,117,98]⟩:ByteArray),(⟨#[115,104,111,119]⟩:ByteArray)]⟩
def badN (n:Nd) (s:Nms):Bool:=
 if n.kind=2 then memB n.text s.types || memB n.text s.actors || memB n.text s.ctors
 else if n.kind=3∨n.kind=6 then memB n.text s.types || memB n.text s.actors
 else if n.kind=5 then memB n.text s.funs
 else if n.kind=4 then memB n.text s.effects
 else false
def addN (n:Nd) (s:Nms):Nms:=
 if n.kind=2 then {s with types:=s.types++[n.text],ctors:=s.ctors++[n.text] }
 else if n.kind=3 then {s with types:=s.types++[n.text] }
 else if n.kind=6 then {s with actors:=s.actors++[n.text] }
 else if n.kind=5 then {s with funs:=s.funs++[n.text] }
 else if n.kind=4 then {s with effects:=s.effects++[n.text] }
 else s
def zcl:List Nd→Nms→Option Int
 |[],_=>none
 |n::r,s=>
  if badN n s=true then some n.at'
  else match zcz n (addN n s).ctors with
   |(some a,_)=>some a
   |(none,c)=>zcl r {addN n s with ctors:=c}
def zbo (n:Nd):List Nd:=n.kids.flatMap (λk=>
 if k.kind=7 then [kid0 k]
 else if k.kind=8 then k.kids
 else if k.kind=9 then [kid0 k]
 else if k.kind=10 then (zaL k.kids).map kid0
 else if k.kind=12∨k.kind=13∨k.kind=14∨k.kind=15 then [k]
 else [])
def zie (l:List Nd):List ByteArray:=(l.filter (λn=>decide (n.kind=2∨n.kind=3))).map Nd.text
def zgc (l:List Nd):List ByteArray:=(l.filter (λn=>decide (n.kind=6))).map Nd.text
mutual
def zbc (ts acs:List ByteArray):Nd→Option Int
 |.mk k t _ a l=>
  if (k=12∧zbr t=0∧memB t ts=false)∨(k=14∧memB t acs=false) then some a else zbx ts acs l
def zbx (ts acs:List ByteArray):List Nd→Option Int
 |[]=>none
 |n::r=>match zbc ts acs n with
  |some a=>some a
  |none=>zbx ts acs r
end
def zgA (l:List Nd):Option Int:=(l.flatMap zbo).findSome? (zbc (zie l) (zgc l))
def zeK (l:List Nd):Option Int:=((l.filter (λn=>decide (n.kind≠5))).flatMap zbo).findSome? (λt=>if zaZ (zcs t)=true then none else some t.at')
def zeQ (l:List Nd):Option Int:=(l.find? (λn=>decide (n.kind=6∧(101<n.n∨n.n=1)))).map Nd.at'
def zbw (n:Nd):List (List Nd):=if n.kind=2 then [zbo n] else if n.kind=3 then n.kids.map Nd.kids else []
def zgD (l:List Nd):Option (Int × Int):=match l.find? (λn=>decide (n.kind=6∧n.text=(⟨#[77,97,105,110]⟩:ByteArray))) with
 |none=>some (5,0)
 |some n=>if 0<(zaL n.kids).length then some (7,n.at') else none
structure Lq where
 fin:List Bool
 ready:List Nat
 needs:List (Nat × Int)
 wait:List (List Nat)
def tyP (k:ByteArray) (n:Nd):Bool:=decide ((n.kind=2∨n.kind=3)∧n.text=k)
def zff (l:List Nd) (k:ByteArray):Nat:=(l.findIdx? (tyP k)).getD 0
def zbg (s:Lq) (i:Nat):Lq:=if s.fin.getD i false=true then s else {s with fin:=s.fin.set i true,ready:=s.ready++[i] }
def argQ (l:List Nd) (k:Nat) (p:List (List Nat) × Int) (t:Nd):List (List Nat) × Int:=
 if t.kind=12∧zbr t.text=0 then (p.1.set (zff l t.text) (p.1.getD (zff l t.text) []++[k]),IntKind.i64.wrap (p.2+1)) else p
def zkX (l:List Nd) (i:Nat) (s:Lq) (c:List Nd):Lq:=
 let p:=c.foldl (argQ l s.needs.length) (s.wait,0)
 let s':Lq:={s with wait:=p.1,needs:=s.needs++[(i,p.2)] }
 if p.2=0 then zbg s' i else s'
def zga (l:List Nd):List Nd→Nat→Lq→Lq
 |[],_,s=>s
 |n::r,i,s=>zga l r (i+1) ((zbw n).foldl (zkX l i) s)
def hitQ (s:Lq) (c:Nat):Lq:=
 let d:=s.needs.getD c (0,0)
 let s':Lq:={s with needs:=s.needs.set c (d.1,IntKind.i64.wrap (d.2-1)) }
 if IntKind.i64.wrap (d.2-1)=0 then zbg s' d.1 else s'
def zeq:Nat→Lq→Lq
 |0,s=>s
 |f+1,s=>match s.ready.getLast? with
  |none=>s
  |some i=>zeq f ((s.wait.getD i []).foldl hitQ {s with ready:=s.ready.dropLast})
def zfW (l:List Nd):Lq:=⟨List.replicate l.length false,[],[],List.replicate l.length []⟩
def zha (l:List Nd):List Bool:=(zeq l.length (zga l l 0 (zfW l))).fin
def zfX (l:List Nd):Option Int:=((l.zipIdx).find? (λp=>decide ((p.1.kind=2∨p.1.kind=3)∧(zha l).getD p.2 false=false))).map (λp=>p.1.at')
def zdH (n:Nd):Dcl:=⟨n.text,false,n.kids.map (λk=>⟨k.text,k.kids.map (λt=>⟨⟨#[]⟩,zcs t⟩)⟩)⟩
def zeF (n:Nd):Actr:=⟨n.text,zbk n.kids,(n.kids.filter (λk=>decide (k.kind=9))).map (λk=>⟨k.text,zby k.kids⟩),(n.kids.filter (λk=>decide (k.kind=10))).map (λk=>⟨k.text,zbk k.kids⟩),if n.n<0 then 2 else if 0<n.n then 1 else 0,if 0<n.n then n.n-1 else 0⟩
def zaR:List Nd→Prg
 |[]=>.zero
 |n::r=>let p:=zaR r
  if n.kind=2 then {p with types:=⟨n.text,true,[⟨n.text,zbk n.kids⟩]⟩::p.types}
  else if n.kind=3 then {p with types:=zdH n::p.types}
  else if n.kind=4 then {p with effects:=⟨n.text,zbk n.kids,zby n.kids⟩::p.effects}
  else if n.kind=5 then {p with funs:=⟨n.text,zbk n.kids,zby n.kids⟩::p.funs}
  else if n.kind=6 then {p with actors:=zeF n::p.actors}
  else p
def zbW (n:Nd):Prg × Int × Int:=
 if n.kind≠1∨zfs n=false then (.zero,1,0)
 else
  let l:=n.kids.filter (λk=>decide (k.kind=2∨k.kind=3∨k.kind=4∨k.kind=5∨k.kind=6))
  match zcl l .start with
  |some a=>(.zero,4,a)
  |none=>match zgA l with
   |some a=>(.zero,8,a)
   |none=>match zeK l with
    |some a=>(.zero,7,a)
    |none=>match zeQ l with
     |some a=>(.zero,6,a)
     |none=>match zfX l with
      |some a=>(.zero,11,a)
      |none=>match zgD l with
       |some (e,a)=>(.zero,e,a)
       |none=>(zaR l,0,0)
end Go.Proofs.YtjdpocmlimkjjaaGreat
set_option maxHeartbeats 32000000
set_option maxRecDepth 100000
namespace Go.Proofs.YtjdpocmlimkjjaaGreat
open Go.RowKit
structure PG where
 T:List Tok
 A:Option Addr
 c:Nat
 en:Int
 m:Nat
 lim:Nat
def zhc:List (ByteArray × Value):=zho.map (λp=>(p.1,.int .i64 p.2))
structure PsAt (G:PG) (b:Nat) (w:World) (st:Ps):Prop where
 box:w.heap[b]?=some (.cells #[.slice G.A G.T.length G.c,.int .i64 st.next,.int .i64 G.en,.bool st.head,.map (some G.m)] 109 (0,0))
 le:st.next≤G.T.length
 len:G.T.length≤32768
 tk:Rd (λk=>k≠b∧k<G.lim) w (slT G.T) (.slice G.A G.T.length G.c)
 mp:zbb w G.m zhc
 mb:G.m≠b∧G.m<G.lim
 lim:G.lim≤w.heap.size
 tx:∀t∈G.T,t.text.size≤32768
 nm:∀t∈G.T,0≤t.n∧t.n≤9007199254740992
section
variable {G:PG} {b:Nat} {w w1:World} {st st1:Ps}
theorem PsAt.lt (h:PsAt G b w st):b<w.heap.size:=(Array.getElem?_eq_some_iff.1 h.box).1
theorem PsAt.c0 (h:PsAt G b w st):w.cell? ⟨b,0,none⟩=some (.slice G.A G.T.length G.c):=by rw[Lib.cell_of_heap h.box];rfl
theorem PsAt.c1 (h:PsAt G b w st):w.cell? ⟨b,1,none⟩=some (.int .i64 st.next):=by rw[Lib.cell_of_heap h.box];rfl
theorem PsAt.c2 (h:PsAt G b w st):w.cell? ⟨b,2,none⟩=some (.int .i64 G.en):=by rw[Lib.cell_of_heap h.box];rfl
theorem PsAt.c3 (h:PsAt G b w st):w.cell? ⟨b,3,none⟩=some (.bool st.head):=by rw[Lib.cell_of_heap h.box];rfl
theorem PsAt.c4 (h:PsAt G b w st):w.cell? ⟨b,4,none⟩=some (.map (some G.m)):=by rw[Lib.cell_of_heap h.box];rfl
theorem PsAt.word (h:PsAt G b w st):(zao G.T st).size≤32768:=by
 unfold zao;cases hx:G.T[st.next]? with
 |none=>exact Nat.zero_le _
 |some t=>
  simp only
  split
  ·exact h.tx t (List.mem_of_getElem? hx)
  ·exact Nat.zero_le _
theorem PsAt.fz (h:PsAt G b w st) (j:Nat):w.frozen? ⟨b,j,none⟩=false:=by simp[World.frozen?,h.box]
theorem PsAt.keepIf (h:PsAt G b w st) (hs:w.heap.size≤w1.heap.size) (hk:∀k,k<G.lim→k≠b→w1.heap[k]?=w.heap[k]?)
 (hb:w1.heap[b]?=some (.cells #[.slice G.A G.T.length G.c,.int .i64 st1.next,.int .i64 G.en,.bool st1.head,.map (some G.m)] 109 (0,0))) (hl:st1.next≤G.T.length):PsAt G b w1 st1:=
 ⟨hb,hl,h.len,h.tk.keep (λk _ hk'=>World.cell?_of_block (hk k hk'.2 hk'.1)),h.mp.keep (hk _ h.mb.2 h.mb.1),h.mb,Nat.le_trans h.lim hs,h.tx,h.nm⟩
theorem PsAt.below (h:PsAt G b w st) (hb:Below w.heap.size w w1):PsAt G b w1 st:=h.keepIf hb.size (λk hk _=>hb.block k (Nat.lt_of_lt_of_le hk h.lim)) ((hb.block b h.lt).trans h.box) h.le
theorem PsAt.keep {M:Nat→Prop} (h:PsAt G b w st) (hc:Chg M w w1) (hM:∀k,M k→G.lim≤k∧k≠b):PsAt G b w1 st:=
 h.keepIf hc.size (λk hk _=>hc.block k (Nat.lt_of_lt_of_le hk h.lim) (λh'=>by have:=(hM k h').1;omega)) ((hc.block b h.lt (λh'=>(hM b h').2 rfl)).trans h.box) h.le
theorem PsAt.set1 (h:PsAt G b w st) (hl:st.next+1≤G.T.length):PsAt G b (w.setCell ⟨b,1,none⟩ (.int .i64 ((st.next+1:Nat):Int))) st.adv:=
 h.keepIf (by rw[zbO];exact Nat.le_refl _) (λk _ hk=>Below.heap_setCell w _ _ k (λe=>hk e)) (by have:=h.box;simp[World.setCell,Array.getElem?_modify,this,Ps.adv]) hl
theorem PsAt.set3 (h:PsAt G b w st) (hd:Bool):PsAt G b (w.setCell ⟨b,3,none⟩ (.bool hd)) ⟨st.next,hd⟩:=
 h.keepIf (by rw[zbO];exact Nat.le_refl _) (λk _ hk=>Below.heap_setCell w _ _ k (λe=>hk e)) (by have:=h.box;simp[World.setCell,Array.getElem?_modify,this]) h.le
end
def zcX (a:Int):Ending:=.panicked [{v:=.iface 101 (.int .i64 a),recovered:=false}]
def Own1 (b:Nat) (w w':World):Prop:=Chg (λk=>k=b) w w'
def zaS {α:Type} (G:PG) (b:Nat) (Q:α→World→Ending→World→Prop) (x:R α) (w:World) (e:Ending) (w':World):Prop:=Own1 b w w'∧match x with
 |.error a=>e=zcX a
 |.ok (v,st')=>PsAt G b w' st'∧Q v w e w'
def zrJ (_:Unit) (_:World) (e:Ending) (_:World):Prop:=e=.returned (.tuple #[])
def QStr (s:ByteArray) (_:World) (e:Ending) (_:World):Prop:=e=.returned (.string s)
def QInt (n:Int) (_:World) (e:Ending) (_:World):Prop:=e=.returned (.int .i64 n)
def QNd (x:Nd) (w:World) (e:Ending) (w':World):Prop:=∃A c,e=.returned (.agg #[.int .i64 x.kind,.string x.text,.int .i64 x.n,.int .i64 x.at',.slice A x.kids.length c])∧Rd (Bt w.heap.size w'.heap.size) w' (ns x.kids) (.slice A x.kids.length c)
def QNs (m:Nat) (l:List Nd) (w:World) (e:Ending) (w':World):Prop:=∃A c,e=.returned (.slice A l.length c)∧l.length≤m∧zaK w.heap.size 25 5 l.length (zap Nd.row l) w' (.slice A l.length c)
theorem zx {α β:Type} {x:R α} {f:α→Ps→R β} {r:R β} (h:Hid (R.next x f=r)) {a:α} {st:Ps} (e:x=.ok (a,st)):Hid (f a st=r):=zz (by rw[←h.out,e];rfl)
theorem PsAt.tok {G:PG} {b:Nat} {w:World} {st:Ps} (h:PsAt G b w st) {t:Tok} (ht:G.T[st.next]?=some t) :
 ∃B off,G.A=some ⟨B,off,none⟩∧w.cell? ⟨B,off+st.next*4,none⟩=some (.int .i64 t.kind)∧w.cell? ⟨B,off+st.next*4+1,none⟩=some (.string t.text)∧w.cell? ⟨B,off+st.next*4+2,none⟩=some (.int .i64 t.n)∧w.cell? ⟨B,off+st.next*4+3,none⟩=some (.int .i64 t.at'):=by
 obtain⟨B,off,x,e,_,hx,hr⟩:=zcG h.tk (i:=st.next) (List.getElem?_eq_some_iff.1 ht).1;rw[ht] at hx;obtain rfl:=Option.some.inj hx;obtain⟨u0,c0,r0⟩:=hr 0 (by omega);obtain⟨u1,c1,r1⟩:=hr 1 (by omega);obtain⟨u2,c2,r2⟩:=hr 2 (by omega);obtain⟨u3,c3,r3⟩:=hr 3 (by omega);obtain rfl:u0=.int .i64 t.kind:=r0;obtain rfl:u1=.string t.text:=r1;obtain rfl:u2=.int .i64 t.n:=r2;obtain rfl:u3=.int .i64 t.at':=r3;exact⟨B,off,e,c0,c1,c2,c3⟩
theorem zjD (G:PG) (b:Nat) (st:Ps) (w:World) (h:PsAt G b w st):Calls Tryz.prog 78 #[.pointer (some ⟨b,0,none⟩)] w λe w'=>e=.returned (.bool ((st.next:Int) == (G.T.length:Int)))∧Below w.heap.size w w':=by
 have c0:=h.c0;have c1:=h.c1;clear h;go_enter Tryz.func78,Tryz.ntmps78;go_wp2_with fail
 go_quiet (fail)
 go_wp2_with fail;go_ret;exact⟨rfl,zae (Below.refl _ _) _⟩
theorem zbA {w:World} {g:Nat} {e:TypeId} {a0 a1 a2 a3:Value} (u0 u1 u2 u3:Value) (h:zac w g #[a0,a1,a2,a3] e) :
 zac ((((w.setCell ⟨g,0,none⟩ u0).setCell ⟨g,1,none⟩ u1).setCell ⟨g,2,none⟩ u2).setCell ⟨g,3,none⟩ u3) g #[u0,u1,u2,u3] e:=by
 have:=(((h.set 0 u0).set 1 u1).set 2 u2).set 3 u3
 simpa using this
theorem zeP {w:World} {g:Nat} {e:TypeId} {a0 a1 a2 a3 a4:Value} (u0 u1 u2 u3 u4:Value) (h:zac w g #[a0,a1,a2,a3,a4] e) :
 zac (((((w.setCell ⟨g,0,none⟩ u0).setCell ⟨g,1,none⟩ u1).setCell ⟨g,2,none⟩ u2).setCell ⟨g,3,none⟩ u3).setCell ⟨g,4,none⟩ u4) g #[u0,u1,u2,u3,u4] e:=by
 have:=((((h.set 0 u0).set 1 u1).set 2 u2).set 3 u3).set 4 u4
 simpa using this
theorem zjq {w W:World} {g:Nat} (hB:Below w.heap.size w W) (hg:w.heap.size≤g) (u0 u1 u2 u3:Value):Below w.heap.size w ((((W.setCell ⟨g,0,none⟩ u0).setCell ⟨g,1,none⟩ u1).setCell ⟨g,2,none⟩ u2).setCell ⟨g,3,none⟩ u3):=
 (((hB.setCell (p:=⟨g,0,none⟩) hg u0).setCell (p:=⟨g,1,none⟩) hg u1).setCell (p:=⟨g,2,none⟩) hg u2).setCell (p:=⟨g,3,none⟩) hg u3
theorem zcj:(Tryz.prog.info? 140).map (·.size)=some 4:=by kernel_rfl
def zcB (G:PG) (st:Ps):Tok:=match G.T[st.next]? with|some t=>t|none=>⟨0,⟨#[]⟩,0,G.en⟩
theorem zfJ (G:PG) (b:Nat) (st:Ps) (w:World) (h:PsAt G b w st):Calls Tryz.prog 136 #[.pointer (some ⟨b,0,none⟩)] w λe w'=>e=.returned (.agg #[.int .i64 (zcB G st).kind,.string (zcB G st).text,.int .i64 (zcB G st).n,.int .i64 (zcB G st).at'])∧Below w.heap.size w w':=by
 have c0:=h.c0;have c1:=h.c1;have c2:=h.c2;have hbl:=h.lt;have hle:=h.le;have hlen:=h.len
 by_cases hd:st.next=G.T.length
 ·have hp:zcB G st=⟨0,⟨#[]⟩,0,G.en⟩:=by unfold zcB;rw[List.getElem?_eq_none (by omega)]
  rw[hp];have hdi:((st.next:Int) == (G.T.length:Int))=true:=by rw[hd];simp
  have HD:=zz (zjD G b st _ (h.below ((Below.refl _ _).alloc (Nat.le_refl _) (.cells #[.int .i64 0,.string ⟨#[]⟩,.int .i64 0,.int .i64 0] 140))));rw[hdi] at HD;clear hp h hd;go_enter Tryz.func136,Tryz.ntmps136;go_wp2_with fail;(with_reducible refine HD.out.mono ?_);rintro e w1 ⟨rfl,hb⟩;have c2':w1.cell? ⟨b,2,none⟩=some (.int .i64 G.en):=(hb.cell (p:=⟨b,2,none⟩) (by simp;omega)).trans (((Below.refl w.heap.size w).alloc (Nat.le_refl _) _).cell (p:=⟨b,2,none⟩) hbl |>.trans c2);have X1:zac w1 w.heap.size #[.int .i64 0,.string ⟨#[]⟩,.int .i64 0,.int .i64 0] 140:=(hb.block _ (by simp)).trans (heap_alloc_new w _);have x0:w1.cell? ⟨w.heap.size,0,none⟩=some (.int .i64 0):=X1.cell 0;have x1:w1.cell? ⟨w.heap.size,1,none⟩=some (.string ⟨#[]⟩):=X1.cell 1;have x2:w1.cell? ⟨w.heap.size,2,none⟩=some (.int .i64 0):=X1.cell 2;have x3:w1.cell? ⟨w.heap.size,3,none⟩=some (.int .i64 0):=X1.cell 3;have z:=X1.fz;have HB0:=zz (((Below.refl w.heap.size w).alloc (Nat.le_refl _) (.cells #[.int .i64 0,.string ⟨#[]⟩,.int .i64 0,.int .i64 0] 140)).trans (hb.mono (by simp)));have HX1:=zz X1;clear hb X1;go_wp2_with fail;exact bodyPost_ret (results_cell_row (by rfl) _ _ w.heap.size _ _ (0,0) _ rfl (zbA _ _ _ _ HX1.out) Tryz.underlying140 rfl zcj) rfl ⟨rfl,zjq HB0.out (Nat.le_refl _) _ _ _ _⟩
 ·have hlt:st.next<G.T.length:=by omega
  have ht:G.T[st.next]?=some G.T[st.next]:=List.getElem?_eq_getElem hlt;have hp:zcB G st=G.T[st.next]:=by unfold zcB;rw[ht]
  rw[hp];obtain⟨B,off,hA,t0,t1,t2,t3⟩:=h.tok ht;generalize G.T[st.next]=t at *
  have hdi:((st.next:Int) == (G.T.length:Int))=false:=by rw[beq_eq_false_iff_ne];omega
  rw[hA] at c0;have HD:=zz (zjD G b st _ (h.below ((Below.refl _ _).alloc (Nat.le_refl _) (.cells #[.int .i64 0,.string ⟨#[]⟩,.int .i64 0,.int .i64 0] 140))));rw[hdi] at HD;have hbl:=h.lt;clear hp h hd;go_enter Tryz.func136,Tryz.ntmps136;go_wp2_with fail;(with_reducible refine HD.out.mono ?_);rintro e w1 ⟨rfl,hb⟩;have X1:zac w1 w.heap.size #[.int .i64 0,.string ⟨#[]⟩,.int .i64 0,.int .i64 0] 140:=(hb.block _ (by simp)).trans (heap_alloc_new w _);have x0:w1.cell? ⟨w.heap.size,0,none⟩=some (.int .i64 0):=X1.cell 0;have x1:w1.cell? ⟨w.heap.size,1,none⟩=some (.string ⟨#[]⟩):=X1.cell 1;have x2:w1.cell? ⟨w.heap.size,2,none⟩=some (.int .i64 0):=X1.cell 2;have x3:w1.cell? ⟨w.heap.size,3,none⟩=some (.int .i64 0):=X1.cell 3;have z:=X1.fz;have HB0:=zz (((Below.refl w.heap.size w).alloc (Nat.le_refl _) (.cells #[.int .i64 0,.string ⟨#[]⟩,.int .i64 0,.int .i64 0] 140)).trans (hb.mono (by simp)));have HX1:=zz X1;have m:∀p:Addr,p.block<w.heap.size→w1.cell? p=w.cell? p:=λp hp=>HB0.out.cell hp;have q0:=(m ⟨b,0,none⟩ hbl).trans c0;have q1:=(m ⟨b,1,none⟩ hbl).trans c1;have hBl:B<w.heap.size:=World.block_lt_of_cell? w _ t0;have r0:=(m ⟨B,_,none⟩ hBl).trans t0;have r1:=(m ⟨B,_,none⟩ hBl).trans t1;have r2:=(m ⟨B,_,none⟩ hBl).trans t2;have r3:=(m ⟨B,_,none⟩ hBl).trans t3;clear hb X1 m c0 c1 c2 t0 t1 t2 t3 hBl;have hlti:(st.next:Int)<G.T.length:=by omega
  go_wp2_with fail
  go_region
  go_wp2_with fail;exact bodyPost_ret (results_cell_row (by rfl) _ _ w.heap.size _ _ (0,0) _ rfl (show zac (World.drew _) _ _ _ from zbA _ _ _ _ HX1.out) Tryz.underlying140 rfl zcj) rfl ⟨rfl,zae (zjq HB0.out (Nat.le_refl _) _ _ _ _) 1⟩
theorem zrt (G:PG) (st:Ps):zao G.T st=if (zcB G st).kind=1∨(zcB G st).kind=4 then (zcB G st).text else ⟨#[]⟩:=by
 unfold zao zcB;cases G.T[st.next]? with
 |none=>rfl
 |some t=>rfl
theorem zpb (G:PG) (st:Ps):zaN G.T G.en st=(zcB G st).at':=by
 unfold zaN zcB;cases G.T[st.next]?<;>rfl
theorem zjo (G:PG) (b:Nat) (st:Ps) (w:World) (h:PsAt G b w st):Calls Tryz.prog 106 #[.pointer (some ⟨b,0,none⟩)] w λe w'=>e=.returned (.int .i64 (zaN G.T G.en st))∧Below w.heap.size w w':=by
 have HP:=zz (zfJ G b st w h);rw[zpb];generalize zcB G st=t at *
 have hfld:∀W:World,(Instr.field 140 (.agg #[.int .i64 t.kind,.string t.text,.int .i64 t.n,.int .i64 t.at']) 3).run Tryz.prog W=.ok (.int .i64 t.at') W:=λW=>by kernel_rfl
 clear h;go_enter Tryz.func106,Tryz.ntmps106;go_wp2_with fail;(with_reducible refine HP.out.mono ?_);rintro e w1 ⟨rfl,hb⟩;have HB:=zz hb;clear hb;go_wp2_with fail;go_ret;exact⟨rfl,HB.out⟩
theorem zhR (G:PG) (b:Nat) (st:Ps) (w:World) (h:PsAt G b w st):Calls Tryz.prog 105 #[.pointer (some ⟨b,0,none⟩)] w λe w'=>e=.returned (.string (zao G.T st))∧Below w.heap.size w w':=by
 have HP:=zz (zfJ G b st w h);have HW:=zz (zrt G st);generalize zao G.T st=s at *
 generalize zcB G st=t at *
 clear h
 by_cases h1:t.kind=1
 ·have k1:(t.kind == 1)=true:=by simpa using h1
  have HS:Hid (s=t.text):=zz (by rw[HW.out,if_pos (.inl h1)]);go_enter Tryz.func105,Tryz.ntmps105;go_wp2_with fail;(with_reducible refine HP.out.mono ?_);rintro e w1 ⟨rfl,hb⟩;have HB:=zz hb;clear hb;go_wp2_with fail;go_ret;rw[HS.out];exact⟨rfl,HB.out.alloc HB.out.size _⟩
 ·have k1:(t.kind == 1)=false:=by simpa using h1
  by_cases h4:t.kind=4
  ·have k4:(t.kind == 4)=true:=by simpa using h4
   have HS:Hid (s=t.text):=zz (by rw[HW.out,if_pos (.inr h4)]);go_enter Tryz.func105,Tryz.ntmps105;go_wp2_with fail;(with_reducible refine HP.out.mono ?_);rintro e w1 ⟨rfl,hb⟩;have HB:=zz hb;clear hb;go_wp2_with fail;go_ret;rw[HS.out];exact⟨rfl,HB.out.alloc HB.out.size _⟩
  ·have k4:(t.kind == 4)=false:=by simpa using h4
   have HS:Hid (s=⟨#[]⟩):=zz (by rw[HW.out,if_neg (λh=>h.elim h1 h4)]);go_enter Tryz.func105,Tryz.ntmps105;go_wp2_with fail;(with_reducible refine HP.out.mono ?_);rintro e w1 ⟨rfl,hb⟩;have HB:=zz hb;clear hb;go_wp2_with fail;go_ret;rw[HS.out];exact⟨rfl,HB.out.alloc HB.out.size _⟩
end Go.Proofs.YtjdpocmlimkjjaaGreat
