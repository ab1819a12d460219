/- Conditions: those in each statement. -/
import Derived.WalkKit
import Derived.Test.YtcebmphappfjjaaGreatDoorV00
import Derived.Deep.RegionWith
import Derived.Laws.Strings
import Derived.Deep.AppendLies
set_option maxHeartbeats 32000000
set_option maxRecDepth 100000
namespace Go.Proofs.YtcebmphappfjjaaGreatDoor
structure Tok where
 kind:Int
 text:ByteArray
 n:Int
 at':Int
inductive Nd where
 |mk (kind:Int) (text:ByteArray) (n at':Int) (kids:List Nd)
structure Ps where
 next:Nat
 head:Bool
def Ps.adv (st:Ps):Ps:=⟨st.next+1,st.head⟩
abbrev R (α:Type):=Except Int (α × Ps)
def R.next {α β:Type} (x:R α) (f:α->Ps->R β):R β:=match x with
 |.error a=>.error a
 |.ok (a,st)=>f a st
def wc (c:UInt8):Bool:=(decide (97<=c)&&decide (c<=122)) || (decide (65<=c)&&decide (c<=90)) || (decide (48<=c)&&decide (c<=57)) || c == 95
def isW (lo hi:UInt8) (s:ByteArray):Bool:=match s.data.toList with
 |[]=>false
 |c::r=>decide (lo<=c)&&decide (c<=hi)&&(c::r).all wc
def zkv:List ByteArray:=[(⟨#[114,101,99,111,114,100]⟩:ByteArray),(⟨#[118,97,114,105,97,110,116]⟩:ByteArray),(⟨#[101,102,102,101,99,116]⟩:ByteArray),(⟨#[102,117,110]⟩:ByteArray),(⟨#[97,99,116,111,114]⟩:ByteArray),(⟨#[114,101,115,116,97,114,116]⟩:ByteArray),(⟨#[101,115,99,97,108,97,116,101]⟩:ByteArray),(⟨#[115,116,97,116,101]⟩:ByteArray),(⟨#[111,110]⟩:ByteArray),(⟨#[108,101,116]⟩:ByteArray),(⟨#[105,110]⟩:ByteArray),(⟨#[105,102]⟩:ByteArray),(⟨#[116,104,101,110]⟩:ByteArray),(⟨#[101,108,115,101]⟩:ByteArray),(⟨#[109,97,116,99,104]⟩:ByteArray),(⟨#[119,105,116,104]⟩:ByteArray),(⟨#[97,110,100]⟩:ByteArray),(⟨#[111,114]⟩:ByteArray),(⟨#[110,111,116]⟩:ByteArray),(⟨#[116,114,117,101]⟩:ByteArray),(⟨#[102,97,108,115,101]⟩:ByteArray),(⟨#[115,101,108,102]⟩:ByteArray),(⟨#[102,111,114]⟩:ByteArray),(⟨#[115,101,110,100]⟩:ByteArray),(⟨#[97,102,116,101,114]⟩:ByteArray),(⟨#[115,112,97,119,110]⟩:ByteArray),(⟨#[100,111]⟩:ByteArray),(⟨#[115,116,111,112]⟩:ByteArray),(⟨#[102,97,105,108]⟩:ByteArray),(⟨#[114,101,102]⟩:ByteArray),(⟨#[105,110,116]⟩:ByteArray),(⟨#[98,111,111,108]⟩:ByteArray),(⟨#[116,101,120,116]⟩:ByteArray),(⟨#[117,110,105,116]⟩:ByteArray)]
def zar (s:ByteArray):Bool:=zkv.any (λx=>decide (x=s))
def zfE (s:ByteArray):Bool:=decide (s=(⟨#[105,110,116]⟩:ByteArray)) || decide (s=(⟨#[98,111,111,108]⟩:ByteArray)) || decide (s=(⟨#[116,101,120,116]⟩:ByteArray)) || decide (s=(⟨#[117,110,105,116]⟩:ByteArray))
def zaH (s:ByteArray):Bool:=isW 97 122 s&&!zar s
def zaw (s:ByteArray):Bool:=isW 65 90 s
def zdl (s:ByteArray):Bool:=decide (s=(⟨#[95]⟩:ByteArray)) || zaH s
def zdi (s:ByteArray):Bool:=decide (s=(⟨#[95]⟩:ByteArray)) || zaw s
def zdr (s:ByteArray):Bool:=zfE s || zaw s
def zgv:List (ByteArray × Nat):=[((⟨#[111,114]⟩:ByteArray),1),((⟨#[97,110,100]⟩:ByteArray),2),((⟨#[61,61]⟩:ByteArray),4),((⟨#[33,61]⟩:ByteArray),4),((⟨#[60]⟩:ByteArray),4),((⟨#[60,61]⟩:ByteArray),4),((⟨#[62]⟩:ByteArray),4),((⟨#[62,61]⟩:ByteArray),4),((⟨#[43,43]⟩:ByteArray),5),((⟨#[43]⟩:ByteArray),6),((⟨#[45]⟩:ByteArray),6),((⟨#[42]⟩:ByteArray),7),((⟨#[47]⟩:ByteArray),7),((⟨#[37]⟩:ByteArray),7)]
def zeH (s:ByteArray):Option Nat:=(zgv.find? (λp=>decide (p.1=s))).map Prod.snd
inductive NT where
 |typ|field|expr|heading|operand (l:Nat)|postf|primary|set|arm|bind|block|stmt|letS|branch|cases|sarm|send|doS|ctor|member|decl|group (at':Int)
section
variable (T:List Tok) (en:Int)
def zao (st:Ps):ByteArray:=match T[st.next]? with
 |some t=>if t.kind=1\/t.kind=4 then t.text else ⟨#[]⟩
 |none=>⟨#[]⟩
def zaC (st:Ps):Int:=match T[st.next]? with
 |some t=>t.at'
 |none=>en
def zhu {α:Type} (st:Ps):R α:=.error (zaC T en st)
def zax (w:ByteArray) (st:Ps):R Unit:=if zao T st=w then .ok ((),st.adv) else zhu T en st
def zbw (q:ByteArray->Bool) (st:Ps):R ByteArray:=if q (zao T st)=true then .ok (zao T st,st.adv) else zhu T en st
def zcb (st:Ps):R Int:=match T[st.next]? with
 |some t=>if t.kind=2 then .ok (t.n,st.adv) else .error t.at'
 |none=>.error en
def ziZ (item:Ps->R Nd) (stop:ByteArray) (hd:Bool):Nat->List Nd->Ps->R (List Nd)
 |0,_,_=>.error (-1)
 |k+1,acc,st=>if zao T st=(⟨#[44]⟩:ByteArray) then (item st.adv).next λn st=>ziZ item stop hd k (acc++[n]) st else (zax T en stop st).next λ_ st=>.ok (acc,⟨st.next,hd⟩)
def zdM (item:Ps->R Nd) (stop:ByteArray) (k:Nat) (st:Ps):R (List Nd):=(item ⟨st.next,false⟩).next λn st'=>ziZ T en item stop st.head k [n] st'
def zia (item:Ps->R Nd) (stop:ByteArray) (k:Nat) (st:Ps):R (List Nd):=if zao T st=stop then .ok ([],st.adv) else zdM T en item stop k st
def zdG (item:Ps->R Nd) (stop:ByteArray):Nat->List Nd->Ps->R (List Nd)
 |0,_,_=>.error (-1)
 |k+1,acc,st=>if zao T st=stop then .ok (acc,st.adv) else (item st).next λn st=>zdG item stop k (acc++[n]) st
variable (rec:NT->Ps->R Nd) (k:Nat)
def zfa (st:Ps):R (List Nd):=(zax T en (⟨#[40]⟩:ByteArray) st).next λ_ st=>zia T en (rec .field) (⟨#[41]⟩:ByteArray) k st
def zbI (st:Ps):R (List Nd):=(zax T en (⟨#[40]⟩:ByteArray) st).next λ_ st=>zia T en (rec .expr) (⟨#[41]⟩:ByteArray) k st
def zdv (st:Ps):R (List Nd):=
 (zfa T en rec k st).next λl st=>
 (zax T en (⟨#[58]⟩:ByteArray) st).next λ_ st=>
 (rec .typ st).next λt st=>
 (zax T en (⟨#[61]⟩:ByteArray) st).next λ_ st=>
 (rec .expr st).next λe st=>.ok (l++[t]++[e],st)
def typF (st:Ps):R Nd:=
 if zao T st=(⟨#[91]⟩:ByteArray) then
  (rec .typ st.adv).next λt st'=>
  (zax T en (⟨#[93]⟩:ByteArray) st').next λ_ st'=>.ok (.mk 13 ⟨#[]⟩ 0 (zaC T en st) [t],st')
 else if zao T st=(⟨#[114,101,102]⟩:ByteArray) then
  (zbw T en zaw st.adv).next λs st'=>.ok (.mk 14 s 0 (zaC T en st) [],st')
 else if zao T st=(⟨#[102,117,110]⟩:ByteArray) then
  (zax T en (⟨#[40]⟩:ByteArray) st.adv).next λ_ st'=>
  (zia T en (rec .typ) (⟨#[41]⟩:ByteArray) k st').next λl st'=>
  (zax T en (⟨#[58]⟩:ByteArray) st').next λ_ st'=>
  (rec .typ st').next λt st'=>.ok (.mk 15 ⟨#[]⟩ 0 (zaC T en st) (l++[t]),st')
 else (zbw T en zdr st).next λs st'=>.ok (.mk 12 s 0 (zaC T en st) [],st')
def zlr (st:Ps):R Nd:=
 (zbw T en zaH st).next λs st'=>
 (zax T en (⟨#[58]⟩:ByteArray) st').next λ_ st'=>
 (rec .typ st').next λt st'=>.ok (.mk 7 s 0 (zaC T en st) [t],st')
def zrt (st:Ps):R Nd:=
 if zao T st=(⟨#[108,101,116]⟩:ByteArray) then
  (zbw T en zaH st.adv).next λs st'=>
  (zax T en (⟨#[61]⟩:ByteArray) st').next λ_ st'=>
  (rec .expr st').next λa st'=>
  (zax T en (⟨#[105,110]⟩:ByteArray) st').next λ_ st'=>
  (rec .expr st').next λb st'=>.ok (.mk 37 s 0 (zaC T en st) [a,b],st')
 else if zao T st=(⟨#[105,102]⟩:ByteArray) then
  (rec .expr st.adv).next λa st'=>
  (zax T en (⟨#[116,104,101,110]⟩:ByteArray) st').next λ_ st'=>
  (rec .expr st').next λb st'=>
  (zax T en (⟨#[101,108,115,101]⟩:ByteArray) st').next λ_ st'=>
  (rec .expr st').next λc st'=>.ok (.mk 36 ⟨#[]⟩ 0 (zaC T en st) [a,b,c],st')
 else if zao T st=(⟨#[109,97,116,99,104]⟩:ByteArray) then
  (rec .heading st.adv).next λa st'=>
  (zax T en (⟨#[123]⟩:ByteArray) st').next λ_ st'=>
  (zdM T en (rec .arm) (⟨#[125]⟩:ByteArray) k st').next λl st'=>.ok (.mk 38 ⟨#[]⟩ 0 (zaC T en st) ([a]++l),st')
 else if zao T st=(⟨#[102,117,110]⟩:ByteArray) then
  (zdv T en rec k st.adv).next λl st'=>.ok (.mk 41 ⟨#[]⟩ 0 (zaC T en st) l,st')
 else rec (.operand 1) st
def zgf (st:Ps):R Nd:=(rec .expr ⟨st.next,true⟩).next λn st'=>.ok (n,⟨st'.next,st.head⟩)
def zfe (l:Nat) (at':Int):Nat->Nd->Ps->R Nd
 |0,_,_=>.error (-1)
 |k+1,left,st=>if zeH (zao T st)=some l then
  (rec (.operand (l+1)) st.adv).next λr st'=>if l=4 then .ok (.mk 35 (zao T st) 0 at' [left,r],st') else zfe l at' k (.mk 35 (zao T st) 0 at' [left,r]) st'
  else .ok (left,st)
def zfj (l:Nat) (st:Ps):R Nd:=
 if l=3 then
  if zao T st=(⟨#[110,111,116]⟩:ByteArray) then (rec (.operand 3) st.adv).next λn st'=>.ok (.mk 34 ⟨#[]⟩ 0 (zaC T en st) [n],st') else rec (.operand 4) st
 else if l=8 then
  if zao T st=(⟨#[45]⟩:ByteArray) then (rec (.operand 8) st.adv).next λn st'=>.ok (.mk 33 ⟨#[]⟩ 0 (zaC T en st) [n],st') else rec .postf st
 else (rec (.operand (l+1)) st).next λn st'=>zfe T rec l (zaC T en st) k n st'
def zdL (at':Int):Nat->Nd->Ps->R Nd
 |0,_,_=>.error (-1)
 |j+1,n,st=>
  if zao T st=(⟨#[40]⟩:ByteArray) then (zbI T en rec k st).next λl st'=>zdL at' j (.mk 32 ⟨#[]⟩ 0 at' ([n]++l)) st'
  else if zao T st=(⟨#[46]⟩:ByteArray) then (zbw T en zaH st.adv).next λs st'=>zdL at' j (.mk 30 s 0 at' [n]) st'
  else if zao T st=(⟨#[119,105,116,104]⟩:ByteArray) then
   (zax T en (⟨#[123]⟩:ByteArray) st.adv).next λ_ st'=>
   (zdM T en (rec .set) (⟨#[125]⟩:ByteArray) k st').next λl st'=>zdL at' j (.mk 31 ⟨#[]⟩ 0 at' ([n]++l)) st'
  else .ok (n,st)
def zfR (st:Ps):R Nd:=(rec .primary st).next λn st'=>zdL T en rec k (zaC T en st) k n st'
def zfn (st:Ps):R Nd:=
 if zao T st=(⟨#[116,114,117,101]⟩:ByteArray) then .ok (.mk 22 ⟨#[]⟩ 1 (zaC T en st) [],st.adv)
 else if zao T st=(⟨#[102,97,108,115,101]⟩:ByteArray) then .ok (.mk 22 ⟨#[]⟩ 0 (zaC T en st) [],st.adv)
 else if zao T st=(⟨#[115,101,108,102]⟩:ByteArray) then .ok (.mk 25 ⟨#[]⟩ 0 (zaC T en st) [],st.adv)
 else if zao T st=(⟨#[91]⟩:ByteArray) then (zia T en (rec .expr) (⟨#[93]⟩:ByteArray) k st.adv).next λl st'=>.ok (.mk 26 ⟨#[]⟩ 0 (zaC T en st) l,st')
 else if zao T st=(⟨#[40]⟩:ByteArray) then rec (.group (zaC T en st)) st.adv
 else if zaH (zao T st)=true then .ok (.mk 24 (zao T st) 0 (zaC T en st) [],st.adv)
 else (zbw T en zaw st).next λs st'=>
  if zao T st'=(⟨#[123]⟩:ByteArray)/\st'.head=false then (zia T en (rec .set) (⟨#[125]⟩:ByteArray) k st'.adv).next λl st'=>.ok (.mk 27 s 0 (zaC T en st) l,st')
  else if zao T st'=(⟨#[40]⟩:ByteArray) then (zdM T en (rec .expr) (⟨#[41]⟩:ByteArray) k st'.adv).next λl st'=>.ok (.mk 29 s 0 (zaC T en st) l,st')
  else .ok (.mk 29 s 0 (zaC T en st) [],st')
def zcA (st:Ps):R Nd:=match T[st.next]? with
 |some t=>if t.kind=2 then .ok (.mk 20 ⟨#[]⟩ t.n t.at' [],st.adv) else if t.kind=3 then .ok (.mk 21 t.text 0 t.at' [],st.adv) else zfn T en rec k st
 |none=>zfn T en rec k st
def ziS (at':Int) (st:Ps):R Nd:=
 if zao T st=(⟨#[41]⟩:ByteArray) then .ok (.mk 23 ⟨#[]⟩ 0 at' [],st.adv)
 else (rec .expr ⟨st.next,false⟩).next λn st'=>(zax T en (⟨#[41]⟩:ByteArray) st').next λ_ st'=>.ok (n,⟨st'.next,st.head⟩)
def setF (st:Ps):R Nd:=
 (zbw T en zaH st).next λs st'=>
 (zax T en (⟨#[61]⟩:ByteArray) st').next λ_ st'=>
 (rec .expr st').next λe st'=>.ok (.mk 28 s 0 (zaC T en st) [e],st')
def zel (st:Ps):R (ByteArray × List Nd):=
 (zbw T en zdi st).next λs st'=>
 if s≠(⟨#[95]⟩:ByteArray)/\zao T st'=(⟨#[40]⟩:ByteArray) then (zdM T en (rec .bind) (⟨#[41]⟩:ByteArray) k st'.adv).next λl st'=>.ok ((s,l),st')
 else .ok ((s,[]),st')
def armF (st:Ps):R Nd:=
 (zel T en rec k st).next λp st'=>
 (zax T en (⟨#[61,62]⟩:ByteArray) st').next λ_ st'=>
 (rec .expr st').next λe st'=>.ok (.mk 39 p.1 0 (zaC T en st) (p.2++[e]),st')
def zoc (st:Ps):R Nd:=(zbw T en zdl st).next λs st'=>.ok (.mk 40 s 0 (zaC T en st) [],st')
def zkY (st:Ps):R Nd:=
 (zax T en (⟨#[123]⟩:ByteArray) st).next λ_ st'=>
 (zdG T (rec .stmt) (⟨#[125]⟩:ByteArray) k [] st').next λl st'=>.ok (.mk 11 ⟨#[]⟩ 0 (zaC T en st) l,st')
def zgG (at':Int) (b:Nd) (st:Ps):R Nd:=
 (zax T en (⟨#[115,112,97,119,110]⟩:ByteArray) st).next λ_ st'=>
 (zbw T en zaw st').next λs st'=>
 (zbI T en rec k st').next λl st'=>
 if zao T st'=(⟨#[111,110]⟩:ByteArray) then (rec .expr st'.adv).next λe st'=>.ok (.mk 58 s 1 at' ([b]++l++[e]),st')
 else .ok (.mk 58 s 0 at' ([b]++l),st')
def zra (st:Ps):R Nd:=
 if zao T st=(⟨#[108,101,116]⟩:ByteArray) then rec .letS st
 else if zao T st=(⟨#[115,112,97,119,110]⟩:ByteArray) then zgG T en rec k (zaC T en st) (.mk 40 (⟨#[95]⟩:ByteArray) 0 (zaC T en st) []) st
 else if zao T st=(⟨#[105,102]⟩:ByteArray) then rec .branch st
 else if zao T st=(⟨#[109,97,116,99,104]⟩:ByteArray) then rec .cases st
 else if zao T st=(⟨#[102,111,114]⟩:ByteArray) then
  (zbw T en zaH st.adv).next λs st'=>
  (zax T en (⟨#[105,110]⟩:ByteArray) st').next λ_ st'=>
  (rec .heading st').next λo st'=>
  (rec .block st').next λb st'=>.ok (.mk 55 s 0 (zaC T en st) [o,b],st')
 else if zao T st=(⟨#[115,101,110,100]⟩:ByteArray) then rec .send st
 else if zao T st=(⟨#[97,102,116,101,114]⟩:ByteArray) then
  (rec .expr st.adv).next λd st'=>
  (rec .send st').next λs st'=>.ok (.mk 57 ⟨#[]⟩ 0 (zaC T en st) [d,s],st')
 else if zao T st=(⟨#[100,111]⟩:ByteArray) then rec .doS st
 else if zao T st=(⟨#[115,116,111,112]⟩:ByteArray) then .ok (.mk 60 ⟨#[]⟩ 0 (zaC T en st) [],st.adv)
 else if zao T st=(⟨#[102,97,105,108]⟩:ByteArray) then (rec .expr st.adv).next λe st'=>.ok (.mk 61 ⟨#[]⟩ 0 (zaC T en st) [e],st')
 else (zbw T en zaH st).next λs st'=>
  (zax T en (⟨#[61]⟩:ByteArray) st').next λ_ st'=>
  (rec .expr st').next λe st'=>.ok (.mk 51 s 0 (zaC T en st) [e],st')
def letF (st:Ps):R Nd:=
 (zax T en (⟨#[108,101,116]⟩:ByteArray) st).next λ_ st1=>
 (zbw T en zaH st1).next λs st'=>
 (zax T en (⟨#[61]⟩:ByteArray) st').next λ_ st'=>
 if zao T st'=(⟨#[115,112,97,119,110]⟩:ByteArray) then zgG T en rec k (zaC T en st) (.mk 40 s 0 (zaC T en st1) []) st'
 else (rec .expr st').next λe st'=>.ok (.mk 50 s 0 (zaC T en st) [e],st')
def zil (st:Ps):R Nd:=
 (zax T en (⟨#[105,102]⟩:ByteArray) st).next λ_ st'=>
 (rec .heading st').next λa st'=>
 (rec .block st').next λb st'=>
 if zao T st'=(⟨#[101,108,115,101]⟩:ByteArray) then (rec .block st'.adv).next λc st'=>.ok (.mk 52 ⟨#[]⟩ 0 (zaC T en st) ([a]++[b]++[c]),st')
 else .ok (.mk 52 ⟨#[]⟩ 0 (zaC T en st) ([a]++[b]),st')
def zle (st:Ps):R Nd:=
 (zax T en (⟨#[109,97,116,99,104]⟩:ByteArray) st).next λ_ st'=>
 (rec .heading st').next λa st'=>
 (zax T en (⟨#[123]⟩:ByteArray) st').next λ_ st'=>
 (rec .sarm st').next λb st'=>
 (zdG T (rec .sarm) (⟨#[125]⟩:ByteArray) k ([a]++[b]) st').next λl st'=>.ok (.mk 53 ⟨#[]⟩ 0 (zaC T en st) l,st')
def zpG (st:Ps):R Nd:=
 (zel T en rec k st).next λp st'=>
 (rec .block st').next λe st'=>.ok (.mk 54 p.1 0 (zaC T en st) (p.2++[e]),st')
def zqu (st:Ps):R Nd:=
 (zax T en (⟨#[115,101,110,100]⟩:ByteArray) st).next λ_ st'=>
 (rec .expr st').next λa st'=>
 (zbw T en zaw st').next λs st'=>
 (zbI T en rec k st').next λl st'=>.ok (.mk 56 s 0 (zaC T en st) ([a]++l),st')
def doF (st:Ps):R Nd:=
 (zax T en (⟨#[100,111]⟩:ByteArray) st).next λ_ st'=>
 (zbw T en zaH st').next λs st'=>
 (zbI T en rec k st').next λl st'=>
 (zax T en (⟨#[116,104,101,110]⟩:ByteArray) st').next λ_ st1=>
 (zbw T en zaw st1).next λm st'=>.ok (.mk 59 s 0 (zaC T en st) (l++[.mk 75 m 0 (zaC T en st1) []]),st')
def zrj (st:Ps):R Nd:=
 (zbw T en zaw st).next λs st'=>
 if zao T st'=(⟨#[40]⟩:ByteArray) then (zdM T en (rec .typ) (⟨#[41]⟩:ByteArray) k st'.adv).next λl st'=>.ok (.mk 8 s 0 (zaC T en st) l,st')
 else .ok (.mk 8 s 0 (zaC T en st) [],st')
def zhT (st:Ps):R Nd:=
 if zao T st=(⟨#[115,116,97,116,101]⟩:ByteArray) then
  (zbw T en zaH st.adv).next λs st'=>
  (zax T en (⟨#[58]⟩:ByteArray) st').next λ_ st'=>
  (rec .typ st').next λt st'=>
  (zax T en (⟨#[61]⟩:ByteArray) st').next λ_ st'=>
  (rec .expr st').next λe st'=>.ok (.mk 9 s 0 (zaC T en st) [t,e],st')
 else
  (zax T en (⟨#[111,110]⟩:ByteArray) st).next λ_ st'=>
  (zbw T en zaw st').next λs st'=>
  (zfa T en rec k st').next λl st'=>
  (rec .block st').next λb st'=>.ok (.mk 10 s 0 (zaC T en st) (l++[b]),st')
def zgt (st:Ps):R Int:=
 if zao T st=(⟨#[101,115,99,97,108,97,116,101]⟩:ByteArray) then .ok (-1,st.adv)
 else if zao T st=(⟨#[114,101,115,116,97,114,116]⟩:ByteArray) then (zcb T en st.adv).next λn st'=>.ok (n+1,st')
 else .ok (0,st)
def zqC (st:Ps):R Nd:=
 if zao T st=(⟨#[114,101,99,111,114,100]⟩:ByteArray) then
  (zbw T en zaw st.adv).next λs st'=>
  (zax T en (⟨#[123]⟩:ByteArray) st').next λ_ st'=>
  (zia T en (rec .field) (⟨#[125]⟩:ByteArray) k st').next λl st'=>.ok (.mk 2 s 0 (zaC T en st) l,st')
 else if zao T st=(⟨#[118,97,114,105,97,110,116]⟩:ByteArray) then
  (zbw T en zaw st.adv).next λs st'=>
  (zax T en (⟨#[123]⟩:ByteArray) st').next λ_ st'=>
  (zdM T en (rec .ctor) (⟨#[125]⟩:ByteArray) k st').next λl st'=>.ok (.mk 3 s 0 (zaC T en st) l,st')
 else if zao T st=(⟨#[101,102,102,101,99,116]⟩:ByteArray) then
  (zbw T en zaH st.adv).next λs st'=>
  (zfa T en rec k st').next λl st'=>
  (zax T en (⟨#[58]⟩:ByteArray) st').next λ_ st'=>
  (rec .typ st').next λt st'=>.ok (.mk 4 s 0 (zaC T en st) (l++[t]),st')
 else if zao T st=(⟨#[102,117,110]⟩:ByteArray) then
  (zbw T en zaH st.adv).next λs st'=>
  (zdv T en rec k st').next λl st'=>.ok (.mk 5 s 0 (zaC T en st) l,st')
 else if zao T st=(⟨#[97,99,116,111,114]⟩:ByteArray) then
  (zbw T en zaw st.adv).next λs st'=>
  (zfa T en rec k st').next λl st'=>
  (zgt T en st').next λp st'=>
  (zax T en (⟨#[123]⟩:ByteArray) st').next λ_ st'=>
  (zdG T (rec .member) (⟨#[125]⟩:ByteArray) k l st').next λl st'=>.ok (.mk 6 s p (zaC T en st) l,st')
 else zhu T en st
def ztJ:NT->Ps->R Nd
 |.typ=>typF T en rec k
 |.field=>zlr T en rec
 |.expr=>zrt T en rec k
 |.heading=>zgf rec
 |.operand l=>zfj T en rec k l
 |.postf=>zfR T en rec k
 |.primary=>zcA T en rec k
 |.set=>setF T en rec
 |.arm=>armF T en rec k
 |.bind=>zoc T en
 |.block=>zkY T en rec k
 |.stmt=>zra T en rec k
 |.letS=>letF T en rec k
 |.branch=>zil T en rec
 |.cases=>zle T en rec k
 |.sarm=>zpG T en rec k
 |.send=>zqu T en rec k
 |.doS=>doF T en rec k
 |.ctor=>zrj T en rec k
 |.member=>zhT T en rec k
 |.decl=>zqC T en rec k
 |.group at'=>ziS T en rec at'
def zgM:Nat->NT->Ps->R Nd
 |0=>λ_ _=>.error (-1)
 |f+1=>ztJ T en (zgM f) f
def zdJ:Nat->List Nd->Ps->R (List Nd)
 |0,_,_=>.error (-1)
 |j+1,acc,st=>if st.next=T.length then .ok (acc,st) else (rec .decl st).next λn st'=>zdJ j (acc++[n]) st'
end
def NT.rank:NT->Nat
 |.typ=>0|.bind=>0|.field=>0|.group _=>12|.primary=>1|.postf=>2|.operand l=>11-l|.expr=>11|.heading=>12|.set=>0|.arm=>0|.block=>0|.letS=>0|.branch=>0|.cases=>0|.sarm=>0|.send=>0|.doS=>0|.ctor=>0|.member=>0|.stmt=>1|.decl=>0
def need (T:List Tok) (nt:NT) (st:Ps):Nat:=16*(T.length-st.next)+nt.rank
end Go.Proofs.YtcebmphappfjjaaGreatDoor
set_option maxHeartbeats 32000000
set_option maxRecDepth 100000
namespace Go.Proofs.YtcebmphappfjjaaGreatDoor
open Go.RowKit
def zdj (X:Int):Bool:=decide (97<=X/\X<=122\/65<=X/\X<=90\/48<=X/\X<=57\/X=95)
def zcB (lo hi:Int) (s:ByteArray):Bool:=decide (0<s.size/\lo<=zak s 0/\zak s 0<=hi/\∀i,i<s.size->zdj (zak s i)=true)
theorem zod (lo hi:Int) (s:ByteArray) (w:World) (hs:s.size<=2097152):Calls Tryz.prog 228 #[↑s,.int .u8 lo,.int .u8 hi] w λe w'=>e=.returned (.bool (zcB lo hi s))/\w=w':=by
 rcases Nat.eq_zero_or_pos s.size with h0|h0
 ·have HE:Hid (zcB lo hi s=false):=zz (by unfold zcB;simp;omega);have he:s.toList=[]:=by rw[ByteArray.toList_eq];exact List.eq_nil_of_length_eq_zero (by rw[zai];exact h0)
  go_in;go_wp2;go_ret;exact⟨by rw[HE.out];rfl,rfl⟩
 ·have hne:¬s.toList=[]:=λh=>by
   rw[ByteArray.toList_eq] at h;have:=zai s;rw[h] at this;simp at this;omega
  have hemp:s.toList.isEmpty=false:=by simpa using hne
  have hi0:(Instr.index 9 ↑s ↑()).run Tryz.prog w=.ok (.int .u8 (zak s 0)) w:=by simpa using zaP s 0 h0 w
  have hr0:=zbt s 0;have HI:=zz (zaP s);have HT:Hid (zcB lo hi s=decide (0<s.size/\lo<=zak s 0/\zak s 0<=hi/\∀i,i<s.size->zdj (zak s i)=true)):=zz rfl;obtain⟨X0,hX0⟩:=zn (zak s 0);rw[hX0] at hi0 hr0 HT;clear hX0;generalize zcB lo hi s=R at *
  by_cases hu:lo<=X0/\X0<=hi
  ·obtain⟨hu1,hu2⟩:=hu;have hu3:¬X0<lo:=zo
   have hu4:¬hi<X0:=zo
   go_in;go_wp2
   go_loopw [25] (λs19 wr=>∃(i:Nat),i<=s.size/\s19=↑i/\Hid (∀j,j<i->zdj (zak s j)=true)/\wr=w) (λs19 _=>s.size-(intOf s19).toNat)
   case atStart=>exact⟨0,zo,rfl,zz (λj hj=>absurd hj zo),rfl⟩
   case round=>
    obtain⟨i,hi,rfl,HN,rfl⟩:=hrel
    by_cases hlt:i<s.size
    ·have hix:=HI.out i hlt wr;have hr:=zbt s i
     have HS:Hid (zdj (zak s i)=true->∀j,j<i+1->zdj (zak s j)=true):=zz (λh j hj=>by
      rcases Nat.lt_or_eq_of_le (Nat.lt_succ_iff.1 hj) with h2|h2
      ·exact HN.out j h2
      ·subst h2;exact h)
     have HF:Hid (zdj (zak s i)=false->R=false):=zz (λh=>by
      rw[HT.out];rw[decide_eq_false];rintro⟨_,_,_,h2⟩;rw[h2 i hlt] at h;cases h)
     obtain⟨X,hX⟩:=zn (zak s i);rw[hX] at hix hr HS HF;have HC:Hid (zdj X=decide (97<=X/\X<=122\/65<=X/\X<=90\/48<=X/\X<=57\/X=95)):=zz rfl;clear hX HN hi0;rcases (show X<48\/(48<=X/\X<=57)\/(58<=X/\X<=64)\/(65<=X/\X<=90)\/(91<=X/\X<=94)\/(95<=X/\X<=95)\/(96<=X/\X<=96)\/(97<=X/\X<=122)\/122<X by omega) with h|⟨h,h'⟩|⟨h,h'⟩|⟨h,h'⟩|⟨h,h'⟩|⟨h,h'⟩|⟨h,h'⟩|⟨h,h'⟩|h
     ·have k97:¬97<=X:=zo
      have k122:X<=122:=zo
      have k65:¬65<=X:=zo
      have k90:X<=90:=zo
      have k48:¬48<=X:=zo
      have k57:X<=57:=zo
      have h95:(X == 95)=false:=by simp;omega
      have HY:=zz (HF.out (by rw[HC.out];exact decide_eq_false zo));clear HS HF HC;go_wp2
      all_goals first
       |(exfalso;omega)
       |(go_ret;exact⟨by rw[HY.out];rfl,rfl⟩)
     ·have k97:¬97<=X:=zo
      have k122:X<=122:=zo
      have k65:¬65<=X:=zo
      have k90:X<=90:=zo
      have k48:48<=X:=zo
      have k57:X<=57:=zo
      have h95:(X == 95)=false:=by simp;omega
      have HY:=zz (HS.out (by rw[HC.out];exact decide_eq_true zo));clear HS HF HC;go_wp2
      all_goals first
       |(exfalso;omega)
       |exact⟨⟨i+1,zo,by go_num,HY,trivial⟩,by simp[intOf];omega⟩
     ·have k97:¬97<=X:=zo
      have k122:X<=122:=zo
      have k65:¬65<=X:=zo
      have k90:X<=90:=zo
      have k48:48<=X:=zo
      have k57:¬X<=57:=zo
      have h95:(X == 95)=false:=by simp;omega
      have HY:=zz (HF.out (by rw[HC.out];exact decide_eq_false zo));clear HS HF HC;go_wp2
      all_goals first
       |(exfalso;omega)
       |(go_ret;exact⟨by rw[HY.out];rfl,rfl⟩)
     ·have k97:¬97<=X:=zo
      have k122:X<=122:=zo
      have k65:65<=X:=zo
      have k90:X<=90:=zo
      have k48:48<=X:=zo
      have k57:¬X<=57:=zo
      have h95:(X == 95)=false:=by simp;omega
      have HY:=zz (HS.out (by rw[HC.out];exact decide_eq_true zo));clear HS HF HC;go_wp2
      all_goals first
       |(exfalso;omega)
       |exact⟨⟨i+1,zo,by go_num,HY,trivial⟩,by simp[intOf];omega⟩
     ·have k97:¬97<=X:=zo
      have k122:X<=122:=zo
      have k65:65<=X:=zo
      have k90:¬X<=90:=zo
      have k48:48<=X:=zo
      have k57:¬X<=57:=zo
      have h95:(X == 95)=false:=by simp;omega
      have HY:=zz (HF.out (by rw[HC.out];exact decide_eq_false zo));clear HS HF HC;go_wp2
      all_goals first
       |(exfalso;omega)
       |(go_ret;exact⟨by rw[HY.out];rfl,rfl⟩)
     ·have k97:¬97<=X:=zo
      have k122:X<=122:=zo
      have k65:65<=X:=zo
      have k90:¬X<=90:=zo
      have k48:48<=X:=zo
      have k57:¬X<=57:=zo
      have h95:(X == 95)=true:=by simp;omega
      have HY:=zz (HS.out (by rw[HC.out];exact decide_eq_true zo));clear HS HF HC;go_wp2
      all_goals first
       |(exfalso;omega)
       |exact⟨⟨i+1,zo,by go_num,HY,trivial⟩,by simp[intOf];omega⟩
     ·have k97:¬97<=X:=zo
      have k122:X<=122:=zo
      have k65:65<=X:=zo
      have k90:¬X<=90:=zo
      have k48:48<=X:=zo
      have k57:¬X<=57:=zo
      have h95:(X == 95)=false:=by simp;omega
      have HY:=zz (HF.out (by rw[HC.out];exact decide_eq_false zo));clear HS HF HC;go_wp2
      all_goals first
       |(exfalso;omega)
       |(go_ret;exact⟨by rw[HY.out];rfl,rfl⟩)
     ·have k97:97<=X:=zo
      have k122:X<=122:=zo
      have k65:65<=X:=zo
      have k90:¬X<=90:=zo
      have k48:48<=X:=zo
      have k57:¬X<=57:=zo
      have h95:(X == 95)=false:=by simp;omega
      have HY:=zz (HS.out (by rw[HC.out];exact decide_eq_true zo));clear HS HF HC;go_wp2
      all_goals first
       |(exfalso;omega)
       |exact⟨⟨i+1,zo,by go_num,HY,trivial⟩,by simp[intOf];omega⟩
     ·have k97:97<=X:=zo
      have k122:¬X<=122:=zo
      have k65:65<=X:=zo
      have k90:¬X<=90:=zo
      have k48:48<=X:=zo
      have k57:¬X<=57:=zo
      have h95:(X == 95)=false:=by simp;omega
      have HY:=zz (HF.out (by rw[HC.out];exact decide_eq_false zo));clear HS HF HC;go_wp2
      all_goals first
       |(exfalso;omega)
       |(go_ret;exact⟨by rw[HY.out];rfl,rfl⟩)
    ·obtain rfl:i=s.size:=zo
     have HY:Hid (R=true):=zz (by rw[HT.out];exact decide_eq_true ⟨h0,hu1,hu2,HN.out⟩);clear hi0;go_wp2;go_ret;exact⟨by rw[HY.out];rfl,rfl⟩
  ·have HE:Hid (R=false):=zz (by rw[HT.out];simp;intro _ h1 h2;exact absurd ⟨h1,h2⟩ hu);rcases (show X0<lo\/hi<X0 by omega) with hx|hx
   all_goals
    clear hu;go_in;go_wp2
    all_goals (go_ret;exact⟨by rw[HE.out];rfl,rfl⟩)
theorem zna (c:UInt8):zdj (c.toNat:Int)=wc c:=by
 unfold zdj wc;have h:=c.toNat_lt;rw[Bool.eq_iff_iff];simp only[decide_eq_true_eq,Bool.or_eq_true,Bool.and_eq_true,beq_iff_eq,UInt8.le_iff_toNat_le,<-UInt8.toNat_inj];simp only[UInt8.reduceToNat];omega
theorem zgk (lo hi:UInt8) (s:ByteArray):zcB (lo.toNat:Int) (hi.toNat:Int) s=isW lo hi s:=by
 unfold zcB isW;have hsz:s.data.toList.length=s.size:=by simp
 have hb:∀i,zak s i=((s.data.toList.getD i 0).toNat:Int):=λ_=>rfl;simp only[hb,<-hsz];clear hb hsz;cases hl:s.data.toList with
 |nil=>simp
 |cons c r=>
  rw[Bool.eq_iff_iff];simp only[decide_eq_true_eq,Bool.and_eq_true,List.all_eq_true,UInt8.le_iff_toNat_le]
  constructor
  ·rintro⟨_,h1,h2,h3⟩;refine⟨⟨?_,?_⟩,λx hx=>?_⟩
   ·simpa using h1
   ·simpa using h2
   ·obtain⟨i,hi,e⟩:=List.mem_iff_getElem.1 hx;have:=h3 i hi;rw[zna,List.getD_eq_getElem?_getD,List.getElem?_eq_getElem hi,Option.getD_some,e] at this;exact this
  ·rintro⟨⟨h1,h2⟩,h3⟩;refine⟨by simp,by simpa using h1,by simpa using h2,λi hi=>?_⟩;rw[zna,List.getD_eq_getElem?_getD,List.getElem?_eq_getElem hi,Option.getD_some];exact h3 _ (List.getElem_mem hi)
def zab (w:World) (g:Nat) (cs:Array Value) (e:TypeId):Prop:=w.heap[g]?=some (.cells cs e (0,0))
section
variable {w w':World} {g:Nat} {cs:Array Value} {e:TypeId} {M:Nat->Prop}
theorem zab.lt (h:zab w g cs e):g<w.heap.size:=(Array.getElem?_eq_some_iff.1 h).1
theorem zab.cell (h:zab w g cs e) (j:Nat):w.cell? ⟨g,j,none⟩=cs[j]?:=Lib.cell_of_heap h j
theorem zab.a {w:World} {g:Nat} {cs:Array Value} {e:TypeId} (h:zab w g cs e) (j:Nat) {v:Value} (hv:cs[j]?=some v):w.cell? ⟨g,j,none⟩=some v:=(h.cell j).trans hv
theorem zab.c5 {a0 a1 a2 a3 a4:Value} (h:zab w g #[a0,a1,a2,a3,a4] e):w.cell? ⟨g,0,none⟩=some a0/\w.cell? ⟨g,1,none⟩=some a1/\w.cell? ⟨g,2,none⟩=some a2/\w.cell? ⟨g,3,none⟩=some a3/\w.cell? ⟨g,4,none⟩=some a4:=⟨h.cell 0,h.cell 1,h.cell 2,h.cell 3,h.cell 4⟩
theorem zab.fz (h:zab w g cs e) (j:Nat):w.frozen? ⟨g,j,none⟩=false:=by simp[World.frozen?,show w.heap[g]?=_ from h]
theorem zab.set (h:zab w g cs e) (j:Nat) (u:Value):zab (w.setCell ⟨g,j,none⟩ u) g (cs.setIfInBounds j u) e:=by
 unfold zab at h ⊢;simp[World.setCell,Array.getElem?_modify,h]
theorem zab.keep (h:zab w g cs e) (hc:Chg M w w') (hm:¬M g):zab w' g cs e:=(hc.block g h.lt hm).trans h
theorem zab.new (w:World) (cs:Array Value) (e:TypeId):zab (w.alloc (.cells cs e)) w.heap.size cs e:=heap_alloc_new w _
theorem zaz.chg {B:Nat} {k n:Nat} {f:Nat->Nat->D} {v:Value} (h:zaz B e k n f w v) (hc:Chg M w w') (hm:∀j,M j->j<B):zaz B e k n f w' v:=by
 rcases h with h|⟨g,c,rfl,hB,hnc,hcm,⟨cur,hcur,hsz⟩,hr⟩
 ·exact .inl h
 ·have hg:g<w.heap.size:=(Array.getElem?_eq_some_iff.1 hcur).1;have keep:∀j,B<=j->j<w.heap.size->w'.heap[j]?=w.heap[j]?:=λj h1 h2=>hc.block j h2 (λhmj=>by have:=hm j hmj;omega);refine .inr ⟨g,c,rfl,hB,hnc,hcm,⟨cur,(keep g hB hg).trans hcur,hsz⟩,λa ha=>?_⟩;refine zcI.weaken (ok:=λb=>Bt B w.heap.size b/\b≠g) (λb hb'=>⟨⟨hb'.1.1,Nat.lt_of_lt_of_le hb'.1.2 hc.size⟩,hb'.2⟩) ?_;exact(hr a ha).keep (λb o hb'=>World.cell?_of_block (a:=⟨b,o,none⟩) (keep b hb'.1.1 hb'.1.2)) (λj _=>World.cell?_of_block (a:=⟨g,_,none⟩) (keep g hB hg))
end
theorem zah {P:Program} {fn:Func} {p q:Tmp} {ty:TypeId} (h:fn.results=#[.cell p ty,.tmp q]) (tmps:Array Value) (w:World) (g:Nat) (t:TypeId) (cs:Array Value) (fr:Nat × Nat) (d:TypeDesc)
 (hp:tmps.getD p undef=.pointer (some ⟨g,0,none⟩)) (hg:w.heap[g]?=some (.cells cs t fr))
 (hu:P.underlying ty=some d) (hd:(match d with|.struct _|.array _ _=>true|_=>false)=true) (hi:(P.info? ty).map (·.size)=some cs.size) :
 (results fn tmps).run P w=.ok (.tuple #[.agg cs,tmps.getD q undef]) w:=by
 have hp':tmps[p]?.getD undef=.pointer (some ⟨g,0,none⟩):=by simpa using hp
 simp[results,h,hp',asAddr,run_loadVar_row w g t ty cs fr d hg hu hd hi]
theorem zaz.below_own {B:Nat} {e:TypeId} {k n:Nat} {f:Nat->Nat->D} {w:World} {v:Value} (h:zaz B e k n f w v):∀g,v.ownBlock=some g->B<=g/\g<w.heap.size:=by
 intro q hq;rcases h with ⟨rfl,_⟩|⟨g,c,rfl,hB,_,_,hbk,_⟩
 ·cases hq
 ·have:g=q:=Option.some.inj hq;subst this;exact⟨hB,hbk.lt⟩
def zan {α:Type} (row:α->Nat->D) (l:List α) (i:Nat):Nat->D:=match l[i]? with|some x=>row x|none=>λ_=>.bool false
theorem zas {α:Type} {row:α->Nat->D} {l:List α} {i:Nat} {x:α} (h:l[i]?=some x):zan row l i=row x:=by unfold zan;rw[h]
def slG {α:Type} (k:Nat) (row:α->Nat->D) (l:List α):D:=.sl k l.length (zan row l)
theorem zqT {α:Type} {k:Nat} {row:α->Nat->D} {ok:Nat->Prop} {w:World} {l:List α} {A:Option Addr} {n c:Nat} (h:Rd ok w (slG k row l) (.slice A n c)) {i:Nat} (hi:i<n) :
 ∃b off x,A=some ⟨b,off,none⟩/\ok b/\l[i]?=some x/\zcI ok w b (off+i*k) k (row x):=by
 obtain⟨A0,c0,e,_,_,h3⟩:=h.sl_inv;injection e with e1 e2 e3;subst e1 e2;obtain⟨b,off,rfl,hb,hr⟩:=h3 zo;have hv:l[i]?=some l[i]:=List.getElem?_eq_getElem hi;have h1:=hr i hi;rw[zas hv] at h1;exact⟨b,off,l[i],rfl,hb,hv,h1⟩
theorem ztO {α:Type} {k:Nat} {row:α->Nat->D} {ok:Nat->Prop} {w:World} {l:List α} {A:Option Addr} {n c:Nat} (h:Rd ok w (slG k row l) (.slice A n c)):n=l.length/\n<=c/\c<=9223372036854775807:=by
 obtain⟨A0,c0,e,h1,h2,_⟩:=h.sl_inv;injection e with e1 e2 e3;subst e1 e2 e3;exact⟨rfl,h1,h2⟩
theorem zba {α:Type} (row:α->Nat->D) {T E:TypeId} {size bytes:Nat} {z:Value} (hinfo:(Tryz.prog.info? E).map (λi=>(i.zero,i.size,i.bytes))=some (some z,size,bytes)) (hund:Tryz.prog.underlying T=some (.slice E)) (hzs:z.cells.size=size) (hsz:0<size) (hbb:bytes<=8192)
 {w:World} {ops:Array Oper} {rest:List Oper} {o:Oper} {a:Act} {Q:Exit->Act->World->Prop} (hgd:o.guard=none) (s x:Operand)
 (ho:o.op=.call {callee:=.builtin .append,args:=#[s,x],argTypes:=#[T,T] })
 (B:Nat) (hB:B<=w.heap.size) (v:Value) (acc:List α) (hs:a.eval s=v) (hO:zaz B E size acc.length (zan row acc) w v)
 (ad:Addr) (c:Nat) (y:α) (cs:List Value) (hcl:cs.length=size) (hx:a.eval x=.slice (some ad) 1 c) (hcells:∀(j:Nat) (u:Value),cs[j]?=some u->w.cell? (ad.add j)=some u)
 (hrd:∀(j:Nat) (u:Value),cs[j]?=some u->Rd (λb=>Bt B w.heap.size b/\some b≠v.ownBlock) w (row y j) u) (hlen:acc.length<=2097152)
 (h:∀v' w',zaz B E size (acc++[y]).length (zan row (acc++[y])) w' v'->w.grownBy w' v.ownBlock->(∀q,v'.ownBlock=some q->v.ownBlock=some q\/q=w.heap.size)->wpList Tryz.prog ops Q rest (a.put o.dst v') w'):wpList Tryz.prog ops Q (o::rest) a w:=by
 obtain⟨i0,hi0,hz0,hz1,hz2⟩:=info_parts hinfo;obtain⟨xs,hown⟩:=hO.own;have hb:(acc.length+1)*bytes<=2097153*8192:=Nat.mul_le_mul zo hbb;refine wpList_append_lies w hgd s x T ho B E i0 z size bytes hund hi0 hz0 hz1 hz2 hzs hsz v acc.length xs hs hown ad 1 c cs hx (by rw[hcl,Nat.one_mul]) hcells (λu hu=>?_) zo (by unfold maxLen;omega) zo hB w.heap.size rfl ?_
 ·obtain⟨j,hj⟩:=List.getElem?_of_mem hu;exact(hrd j u hj).oneCell
 intro g cap w' h2 h3 h4 _
 refine h _ w' ?_ h3 (λq hq=>by
  obtain rfl:g=q:=Option.some.inj hq;exact h4)
 have hl:(acc++[y]).length=acc.length+1:=by simp
 rw[hl];refine hO.append hown h2 h3 h4 hcl (λk hk=>?_) (λj u hj=>?_)
 ·have hx:acc[k]?=some acc[k]:=List.getElem?_eq_getElem hk;rw[zas hx,zas (l:=acc++[y]) (i:=k) (by rw[List.getElem?_append_left hk];exact hx)]
 ·rw[zas (l:=acc++[y]) (i:=acc.length) (x:=y) (by rw[List.getElem?_append_right (Nat.le_refl _)];simp)];exact hrd j u hj
end Go.Proofs.YtcebmphappfjjaaGreatDoor
