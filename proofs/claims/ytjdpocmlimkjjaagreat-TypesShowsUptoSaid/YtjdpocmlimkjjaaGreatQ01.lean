/- Conditions: those in each statement. -/
import Derived.WalkKit
set_option maxHeartbeats 32000000
set_option maxRecDepth 100000
namespace Go.Proofs.YtjdpocmlimkjjaaGreat
structure Tok where
 kind:Int
 text:ByteArray
 n:Int
 at':Int
inductive Nd where
 |mk (kind:Int) (text:ByteArray) (n at':Int) (kids:List Nd)
structure Ps where
 next:Nat
 head:Bool
def Ps.adv (st:Ps):Ps:=⟨st.next+1,st.head⟩
abbrev R (α:Type):=Except Int (α × Ps)
def R.next {α β:Type} (x:R α) (f:α→Ps→R β):R β:=match x with
 |.error a=>.error a
 |.ok (a,st)=>f a st
def wc (c:UInt8):Bool:=(decide (97≤c)&&decide (c≤122)) || (decide (65≤c)&&decide (c≤90)) || (decide (48≤c)&&decide (c≤57)) || c == 95
def isW (lo hi:UInt8) (s:ByteArray):Bool:=match s.data.toList with
 |[]=>false
 |c::r=>decide (lo≤c)&&decide (c≤hi)&&(c::r).all wc
def zkA:List ByteArray:=[(⟨#[114,101,99,111,114,100]⟩:ByteArray),(⟨#[118,97,114,105,97,110,116]⟩:ByteArray),(⟨#[101,102,102,101,99,116]⟩:ByteArray),(⟨#[102,117,110]⟩:ByteArray),(⟨#[97,99,116,111,114]⟩:ByteArray),(⟨#[114,101,115,116,97,114,116]⟩:ByteArray),(⟨#[101,115,99,97,108,97,116,101]⟩:ByteArray),(⟨#[115,116,97,116,101]⟩:ByteArray),(⟨#[111,110]⟩:ByteArray),(⟨#[108,101,116]⟩:ByteArray),(⟨#[105,110]⟩:ByteArray),(⟨#[105,102]⟩:ByteArray),(⟨#[116,104,101,110]⟩:ByteArray),(⟨#[101,108,115,101]⟩:ByteArray),(⟨#[109,97,116,99,104]⟩:ByteArray),(⟨#[119,105,116,104]⟩:ByteArray),(⟨#[97,110,100]⟩:ByteArray),(⟨#[111,114]⟩:ByteArray),(⟨#[110,111,116]⟩:ByteArray),(⟨#[116,114,117,101]⟩:ByteArray),(⟨#[102,97,108,115,101]⟩:ByteArray),(⟨#[115,101,108,102]⟩:ByteArray),(⟨#[102,111,114]⟩:ByteArray),(⟨#[115,101,110,100]⟩:ByteArray),(⟨#[97,102,116,101,114]⟩:ByteArray),(⟨#[115,112,97,119,110]⟩:ByteArray),(⟨#[100,111]⟩:ByteArray),(⟨#[115,116,111,112]⟩:ByteArray),(⟨#[102,97,105,108]⟩:ByteArray),(⟨#[114,101,102]⟩:ByteArray),(⟨#[105,110,116]⟩:ByteArray),(⟨#[98,111,111,108]⟩:ByteArray),(⟨#[116,101,120,116]⟩:ByteArray),(⟨#[117,110,105,116]⟩:ByteArray)]
def zau (s:ByteArray):Bool:=zkA.any (λx=>decide (x=s))
def zfu (s:ByteArray):Bool:=decide (s=(⟨#[105,110,116]⟩:ByteArray)) || decide (s=(⟨#[98,111,111,108]⟩:ByteArray)) || decide (s=(⟨#[116,101,120,116]⟩:ByteArray)) || decide (s=(⟨#[117,110,105,116]⟩:ByteArray))
def zaH (s:ByteArray):Bool:=isW 97 122 s&&!zau s
def zaw (s:ByteArray):Bool:=isW 65 90 s
def zmq (s:ByteArray):Bool:=decide (s=(⟨#[105,110,105,116]⟩:ByteArray)) || zaw s
def zdM (s:ByteArray):Bool:=decide (s=(⟨#[95]⟩:ByteArray)) || zaH s
def zdG (s:ByteArray):Bool:=decide (s=(⟨#[95]⟩:ByteArray)) || zaw s
def zcw (s:ByteArray):Bool:=zfu s || zaw s
def zho:List (ByteArray × Nat):=[((⟨#[111,114]⟩:ByteArray),1),((⟨#[97,110,100]⟩:ByteArray),2),((⟨#[61,61]⟩:ByteArray),4),((⟨#[33,61]⟩:ByteArray),4),((⟨#[60]⟩:ByteArray),4),((⟨#[60,61]⟩:ByteArray),4),((⟨#[62]⟩:ByteArray),4),((⟨#[62,61]⟩:ByteArray),4),((⟨#[43,43]⟩:ByteArray),5),((⟨#[43]⟩:ByteArray),6),((⟨#[45]⟩:ByteArray),6),((⟨#[42]⟩:ByteArray),7),((⟨#[47]⟩:ByteArray),7),((⟨#[37]⟩:ByteArray),7)]
def zfg (s:ByteArray):Option Nat:=(zho.find? (λp=>decide (p.1=s))).map Prod.snd
inductive NT where
 |typ|field|expr|heading|operand (l:Nat)|postf|primary|set|arm|bind|block|stmt|letS|branch|cases|sarm|send|doS|ctor|member|decl|group (at':Int)
section
variable (T:List Tok) (en:Int)
def zao (st:Ps):ByteArray:=match T[st.next]? with
 |some t=>if t.kind=1∨t.kind=4 then t.text else ⟨#[]⟩
 |none=>⟨#[]⟩
def zaN (st:Ps):Int:=match T[st.next]? with
 |some t=>t.at'
 |none=>en
def zfo {α:Type} (st:Ps):R α:=.error (zaN T en st)
def zaC (w:ByteArray) (st:Ps):R Unit:=if zao T st=w then .ok ((),st.adv) else zfo T en st
def zbG (q:ByteArray→Bool) (st:Ps):R ByteArray:=if q (zao T st)=true then .ok (zao T st,st.adv) else zfo T en st
def zce (st:Ps):R Int:=match T[st.next]? with
 |some t=>if t.kind=2 then .ok (t.n,st.adv) else .error t.at'
 |none=>.error en
def zfV (item:Ps→R Nd) (stop:ByteArray) (hd:Bool):Nat→List Nd→Ps→R (List Nd)
 |0,_,_=>.error (-1)
 |k+1,acc,st=>if zao T st=(⟨#[44]⟩:ByteArray) then (item st.adv).next λn st=>zfV item stop hd k (acc++[n]) st else (zaC T en stop st).next λ_ st=>.ok (acc,⟨st.next,hd⟩)
def zdA (item:Ps→R Nd) (stop:ByteArray) (k:Nat) (st:Ps):R (List Nd):=(item ⟨st.next,false⟩).next λn st'=>zfV T en item stop st.head k [n] st'
def zge (item:Ps→R Nd) (stop:ByteArray) (k:Nat) (st:Ps):R (List Nd):=if zao T st=stop then .ok ([],st.adv) else zdA T en item stop k st
def zcO (item:Ps→R Nd) (stop:ByteArray):Nat→List Nd→Ps→R (List Nd)
 |0,_,_=>.error (-1)
 |k+1,acc,st=>if zao T st=stop then .ok (acc,st.adv) else (item st).next λn st=>zcO item stop k (acc++[n]) st
variable (rec:NT→Ps→R Nd) (k:Nat)
def zem (st:Ps):R (List Nd):=(zaC T en (⟨#[40]⟩:ByteArray) st).next λ_ st=>zge T en (rec .field) (⟨#[41]⟩:ByteArray) k st
def zbB (st:Ps):R (List Nd):=(zaC T en (⟨#[40]⟩:ByteArray) st).next λ_ st=>zge T en (rec .expr) (⟨#[41]⟩:ByteArray) k st
def zcp (st:Ps):R (List Nd):=
 (zem T en rec k st).next λl st=>
 (zaC T en (⟨#[58]⟩:ByteArray) st).next λ_ st=>
 (rec .typ st).next λt st=>
 (zaC T en (⟨#[61]⟩:ByteArray) st).next λ_ st=>
 (rec .expr st).next λe st=>.ok (l++[t]++[e],st)
def typF (st:Ps):R Nd:=
 if zao T st=(⟨#[91]⟩:ByteArray) then
  (rec .typ st.adv).next λt st'=>
  (zaC T en (⟨#[93]⟩:ByteArray) st').next λ_ st'=>.ok (.mk 13 ⟨#[]⟩ 0 (zaN T en st) [t],st')
 else if zao T st=(⟨#[114,101,102]⟩:ByteArray) then
  (zbG T en zaw st.adv).next λs st'=>.ok (.mk 14 s 0 (zaN T en st) [],st')
 else if zao T st=(⟨#[102,117,110]⟩:ByteArray) then
  (zaC T en (⟨#[40]⟩:ByteArray) st.adv).next λ_ st'=>
  (zge T en (rec .typ) (⟨#[41]⟩:ByteArray) k st').next λl st'=>
  (zaC T en (⟨#[58]⟩:ByteArray) st').next λ_ st'=>
  (rec .typ st').next λt st'=>.ok (.mk 15 ⟨#[]⟩ 0 (zaN T en st) (l++[t]),st')
 else (zbG T en zcw st).next λs st'=>.ok (.mk 12 s 0 (zaN T en st) [],st')
def ziN (st:Ps):R Nd:=
 (zbG T en zaH st).next λs st'=>
 (zaC T en (⟨#[58]⟩:ByteArray) st').next λ_ st'=>
 (rec .typ st').next λt st'=>.ok (.mk 7 s 0 (zaN T en st) [t],st')
def zlR (st:Ps):R Nd:=
 if zao T st=(⟨#[108,101,116]⟩:ByteArray) then
  (zbG T en zaH st.adv).next λs st'=>
  (zaC T en (⟨#[61]⟩:ByteArray) st').next λ_ st'=>
  (rec .expr st').next λa st'=>
  (zaC T en (⟨#[105,110]⟩:ByteArray) st').next λ_ st'=>
  (rec .expr st').next λb st'=>.ok (.mk 37 s 0 (zaN T en st) [a,b],st')
 else if zao T st=(⟨#[105,102]⟩:ByteArray) then
  (rec .expr st.adv).next λa st'=>
  (zaC T en (⟨#[116,104,101,110]⟩:ByteArray) st').next λ_ st'=>
  (rec .expr st').next λb st'=>
  (zaC T en (⟨#[101,108,115,101]⟩:ByteArray) st').next λ_ st'=>
  (rec .expr st').next λc st'=>.ok (.mk 36 ⟨#[]⟩ 0 (zaN T en st) [a,b,c],st')
 else if zao T st=(⟨#[109,97,116,99,104]⟩:ByteArray) then
  (rec .heading st.adv).next λa st'=>
  (zaC T en (⟨#[123]⟩:ByteArray) st').next λ_ st'=>
  (zdA T en (rec .arm) (⟨#[125]⟩:ByteArray) k st').next λl st'=>.ok (.mk 38 ⟨#[]⟩ 0 (zaN T en st) ([a]++l),st')
 else if zao T st=(⟨#[102,117,110]⟩:ByteArray) then
  (zcp T en rec k st.adv).next λl st'=>.ok (.mk 41 ⟨#[]⟩ 0 (zaN T en st) l,st')
 else rec (.operand 1) st
def zeY (st:Ps):R Nd:=(rec .expr ⟨st.next,true⟩).next λn st'=>.ok (n,⟨st'.next,st.head⟩)
def zdj (l:Nat) (at':Int):Nat→Nd→Ps→R Nd
 |0,_,_=>.error (-1)
 |k+1,left,st=>if zfg (zao T st)=some l then
  (rec (.operand (l+1)) st.adv).next λr st'=>if l=4 then .ok (.mk 35 (zao T st) 0 at' [left,r],st') else zdj l at' k (.mk 35 (zao T st) 0 at' [left,r]) st'
  else .ok (left,st)
def zdm (l:Nat) (st:Ps):R Nd:=
 if l=3 then
  if zao T st=(⟨#[110,111,116]⟩:ByteArray) then (rec (.operand 3) st.adv).next λn st'=>.ok (.mk 34 ⟨#[]⟩ 0 (zaN T en st) [n],st') else rec (.operand 4) st
 else if l=8 then
  if zao T st=(⟨#[45]⟩:ByteArray) then (rec (.operand 8) st.adv).next λn st'=>.ok (.mk 33 ⟨#[]⟩ 0 (zaN T en st) [n],st') else rec .postf st
 else (rec (.operand (l+1)) st).next λn st'=>zdj T rec l (zaN T en st) k n st'
def zcx (at':Int):Nat→Nd→Ps→R Nd
 |0,_,_=>.error (-1)
 |j+1,n,st=>
  if zao T st=(⟨#[40]⟩:ByteArray) then (zbB T en rec k st).next λl st'=>zcx at' j (.mk 32 ⟨#[]⟩ 0 at' ([n]++l)) st'
  else if zao T st=(⟨#[46]⟩:ByteArray) then (zbG T en zaH st.adv).next λs st'=>zcx at' j (.mk 30 s 0 at' [n]) st'
  else if zao T st=(⟨#[119,105,116,104]⟩:ByteArray) then
   (zaC T en (⟨#[123]⟩:ByteArray) st.adv).next λ_ st'=>
   (zdA T en (rec .set) (⟨#[125]⟩:ByteArray) k st').next λl st'=>zcx at' j (.mk 31 ⟨#[]⟩ 0 at' ([n]++l)) st'
  else .ok (n,st)
def zfd (st:Ps):R Nd:=(rec .primary st).next λn st'=>zcx T en rec k (zaN T en st) k n st'
def zdh (st:Ps):R Nd:=
 if zao T st=(⟨#[116,114,117,101]⟩:ByteArray) then .ok (.mk 22 ⟨#[]⟩ 1 (zaN T en st) [],st.adv)
 else if zao T st=(⟨#[102,97,108,115,101]⟩:ByteArray) then .ok (.mk 22 ⟨#[]⟩ 0 (zaN T en st) [],st.adv)
 else if zao T st=(⟨#[115,101,108,102]⟩:ByteArray) then .ok (.mk 25 ⟨#[]⟩ 0 (zaN T en st) [],st.adv)
 else if zao T st=(⟨#[91]⟩:ByteArray) then (zge T en (rec .expr) (⟨#[93]⟩:ByteArray) k st.adv).next λl st'=>.ok (.mk 26 ⟨#[]⟩ 0 (zaN T en st) l,st')
 else if zao T st=(⟨#[40]⟩:ByteArray) then rec (.group (zaN T en st)) st.adv
 else if zaH (zao T st)=true then .ok (.mk 24 (zao T st) 0 (zaN T en st) [],st.adv)
 else (zbG T en zaw st).next λs st'=>
  if zao T st'=(⟨#[123]⟩:ByteArray)∧st'.head=false then (zge T en (rec .set) (⟨#[125]⟩:ByteArray) k st'.adv).next λl st'=>.ok (.mk 27 s 0 (zaN T en st) l,st')
  else if zao T st'=(⟨#[40]⟩:ByteArray) then (zdA T en (rec .expr) (⟨#[41]⟩:ByteArray) k st'.adv).next λl st'=>.ok (.mk 29 s 0 (zaN T en st) l,st')
  else .ok (.mk 29 s 0 (zaN T en st) [],st')
def zch (st:Ps):R Nd:=match T[st.next]? with
 |some t=>if t.kind=2 then .ok (.mk 20 ⟨#[]⟩ t.n t.at' [],st.adv) else if t.kind=3 then .ok (.mk 21 t.text 0 t.at' [],st.adv) else zdh T en rec k st
 |none=>zdh T en rec k st
def zfY (at':Int) (st:Ps):R Nd:=
 if zao T st=(⟨#[41]⟩:ByteArray) then .ok (.mk 23 ⟨#[]⟩ 0 at' [],st.adv)
 else (rec .expr ⟨st.next,false⟩).next λn st'=>(zaC T en (⟨#[41]⟩:ByteArray) st').next λ_ st'=>.ok (n,⟨st'.next,st.head⟩)
def setF (st:Ps):R Nd:=
 (zbG T en zaH st).next λs st'=>
 (zaC T en (⟨#[61]⟩:ByteArray) st').next λ_ st'=>
 (rec .expr st').next λe st'=>.ok (.mk 28 s 0 (zaN T en st) [e],st')
def zcU (st:Ps):R (ByteArray × List Nd):=
 (zbG T en zdG st).next λs st'=>
 if s≠(⟨#[95]⟩:ByteArray)∧zao T st'=(⟨#[40]⟩:ByteArray) then (zdA T en (rec .bind) (⟨#[41]⟩:ByteArray) k st'.adv).next λl st'=>.ok ((s,l),st')
 else .ok ((s,[]),st')
def armF (st:Ps):R Nd:=
 (zcU T en rec k st).next λp st'=>
 (zaC T en (⟨#[61,62]⟩:ByteArray) st').next λ_ st'=>
 (rec .expr st').next λe st'=>.ok (.mk 39 p.1 0 (zaN T en st) (p.2++[e]),st')
def ziW (st:Ps):R Nd:=(zbG T en zdM st).next λs st'=>.ok (.mk 40 s 0 (zaN T en st) [],st')
def zid (st:Ps):R Nd:=
 (zaC T en (⟨#[123]⟩:ByteArray) st).next λ_ st'=>
 (zcO T (rec .stmt) (⟨#[125]⟩:ByteArray) k [] st').next λl st'=>.ok (.mk 11 ⟨#[]⟩ 0 (zaN T en st) l,st')
def zfi (at':Int) (b:Nd) (st:Ps):R Nd:=
 (zaC T en (⟨#[115,112,97,119,110]⟩:ByteArray) st).next λ_ st'=>
 (zbG T en zaw st').next λs st'=>
 (zbB T en rec k st').next λl st'=>
 if zao T st'=(⟨#[111,110]⟩:ByteArray) then (rec .expr st'.adv).next λe st'=>.ok (.mk 58 s 1 at' ([b]++l++[e]),st')
 else .ok (.mk 58 s 0 at' ([b]++l),st')
def zlk (st:Ps):R Nd:=
 if zao T st=(⟨#[108,101,116]⟩:ByteArray) then rec .letS st
 else if zao T st=(⟨#[115,112,97,119,110]⟩:ByteArray) then zfi T en rec k (zaN T en st) (.mk 40 (⟨#[95]⟩:ByteArray) 0 (zaN T en st) []) st
 else if zao T st=(⟨#[105,102]⟩:ByteArray) then rec .branch st
 else if zao T st=(⟨#[109,97,116,99,104]⟩:ByteArray) then rec .cases st
 else if zao T st=(⟨#[102,111,114]⟩:ByteArray) then
  (zbG T en zaH st.adv).next λs st'=>
  (zaC T en (⟨#[105,110]⟩:ByteArray) st').next λ_ st'=>
  (rec .heading st').next λo st'=>
  (rec .block st').next λb st'=>.ok (.mk 55 s 0 (zaN T en st) [o,b],st')
 else if zao T st=(⟨#[115,101,110,100]⟩:ByteArray) then rec .send st
 else if zao T st=(⟨#[97,102,116,101,114]⟩:ByteArray) then
  (rec .expr st.adv).next λd st'=>
  (rec .send st').next λs st'=>.ok (.mk 57 ⟨#[]⟩ 0 (zaN T en st) [d,s],st')
 else if zao T st=(⟨#[100,111]⟩:ByteArray) then rec .doS st
 else if zao T st=(⟨#[115,116,111,112]⟩:ByteArray) then .ok (.mk 60 ⟨#[]⟩ 0 (zaN T en st) [],st.adv)
 else if zao T st=(⟨#[102,97,105,108]⟩:ByteArray) then (rec .expr st.adv).next λe st'=>.ok (.mk 61 ⟨#[]⟩ 0 (zaN T en st) [e],st')
 else (zbG T en zaH st).next λs st'=>
  (zaC T en (⟨#[61]⟩:ByteArray) st').next λ_ st'=>
  (rec .expr st').next λe st'=>.ok (.mk 51 s 0 (zaN T en st) [e],st')
def letF (st:Ps):R Nd:=
 (zaC T en (⟨#[108,101,116]⟩:ByteArray) st).next λ_ st1=>
 (zbG T en zaH st1).next λs st'=>
 (zaC T en (⟨#[61]⟩:ByteArray) st').next λ_ st'=>
 if zao T st'=(⟨#[115,112,97,119,110]⟩:ByteArray) then zfi T en rec k (zaN T en st) (.mk 40 s 0 (zaN T en st1) []) st'
 else (rec .expr st').next λe st'=>.ok (.mk 50 s 0 (zaN T en st) [e],st')
def zgi (st:Ps):R Nd:=
 (zaC T en (⟨#[105,102]⟩:ByteArray) st).next λ_ st'=>
 (rec .heading st').next λa st'=>
 (rec .block st').next λb st'=>
 if zao T st'=(⟨#[101,108,115,101]⟩:ByteArray) then (rec .block st'.adv).next λc st'=>.ok (.mk 52 ⟨#[]⟩ 0 (zaN T en st) ([a]++[b]++[c]),st')
 else .ok (.mk 52 ⟨#[]⟩ 0 (zaN T en st) ([a]++[b]),st')
def ziM (st:Ps):R Nd:=
 (zaC T en (⟨#[109,97,116,99,104]⟩:ByteArray) st).next λ_ st'=>
 (rec .heading st').next λa st'=>
 (zaC T en (⟨#[123]⟩:ByteArray) st').next λ_ st'=>
 (rec .sarm st').next λb st'=>
 (zcO T (rec .sarm) (⟨#[125]⟩:ByteArray) k ([a]++[b]) st').next λl st'=>.ok (.mk 53 ⟨#[]⟩ 0 (zaN T en st) l,st')
def zlO (st:Ps):R Nd:=
 (zcU T en rec k st).next λp st'=>
 (rec .block st').next λe st'=>.ok (.mk 54 p.1 0 (zaN T en st) (p.2++[e]),st')
def zlE (st:Ps):R Nd:=
 (zaC T en (⟨#[115,101,110,100]⟩:ByteArray) st).next λ_ st'=>
 (rec .expr st').next λa st'=>
 (zbG T en zaw st').next λs st'=>
 (zbB T en rec k st').next λl st'=>.ok (.mk 56 s 0 (zaN T en st) ([a]++l),st')
def doF (st:Ps):R Nd:=
 (zaC T en (⟨#[100,111]⟩:ByteArray) st).next λ_ st'=>
 (zbG T en zaH st').next λs st'=>
 (zbB T en rec k st').next λl st'=>
 (zaC T en (⟨#[116,104,101,110]⟩:ByteArray) st').next λ_ st1=>
 (zbG T en zaw st1).next λm st'=>.ok (.mk 59 s 0 (zaN T en st) (l++[.mk 75 m 0 (zaN T en st1) []]),st')
def zlA (st:Ps):R Nd:=
 (zbG T en zaw st).next λs st'=>
 if zao T st'=(⟨#[40]⟩:ByteArray) then (zdA T en (rec .typ) (⟨#[41]⟩:ByteArray) k st'.adv).next λl st'=>.ok (.mk 8 s 0 (zaN T en st) l,st')
 else .ok (.mk 8 s 0 (zaN T en st) [],st')
def zgf (st:Ps):R Nd:=
 if zao T st=(⟨#[115,116,97,116,101]⟩:ByteArray) then
  (zbG T en zaH st.adv).next λs st'=>
  (zaC T en (⟨#[58]⟩:ByteArray) st').next λ_ st'=>
  (rec .typ st').next λt st'=>
  (zaC T en (⟨#[61]⟩:ByteArray) st').next λ_ st'=>
  (rec .expr st').next λe st'=>.ok (.mk 9 s 0 (zaN T en st) [t,e],st')
 else
  (zaC T en (⟨#[111,110]⟩:ByteArray) st).next λ_ st'=>
  (zbG T en zaw st').next λs st'=>
  (zem T en rec k st').next λl st'=>
  (rec .block st').next λb st'=>.ok (.mk 10 s 0 (zaN T en st) (l++[b]),st')
def zgl (st:Ps):R Int:=
 if zao T st=(⟨#[101,115,99,97,108,97,116,101]⟩:ByteArray) then .ok (-1,st.adv)
 else if zao T st=(⟨#[114,101,115,116,97,114,116]⟩:ByteArray) then (zce T en st.adv).next λn st'=>.ok (n+1,st')
 else .ok (0,st)
def zjS (st:Ps):R Nd:=
 if zao T st=(⟨#[114,101,99,111,114,100]⟩:ByteArray) then
  (zbG T en zaw st.adv).next λs st'=>
  (zaC T en (⟨#[123]⟩:ByteArray) st').next λ_ st'=>
  (zge T en (rec .field) (⟨#[125]⟩:ByteArray) k st').next λl st'=>.ok (.mk 2 s 0 (zaN T en st) l,st')
 else if zao T st=(⟨#[118,97,114,105,97,110,116]⟩:ByteArray) then
  (zbG T en zaw st.adv).next λs st'=>
  (zaC T en (⟨#[123]⟩:ByteArray) st').next λ_ st'=>
  (zdA T en (rec .ctor) (⟨#[125]⟩:ByteArray) k st').next λl st'=>.ok (.mk 3 s 0 (zaN T en st) l,st')
 else if zao T st=(⟨#[101,102,102,101,99,116]⟩:ByteArray) then
  (zbG T en zaH st.adv).next λs st'=>
  (zem T en rec k st').next λl st'=>
  (zaC T en (⟨#[58]⟩:ByteArray) st').next λ_ st'=>
  (rec .typ st').next λt st'=>.ok (.mk 4 s 0 (zaN T en st) (l++[t]),st')
 else if zao T st=(⟨#[102,117,110]⟩:ByteArray) then
  (zbG T en zaH st.adv).next λs st'=>
  (zcp T en rec k st').next λl st'=>.ok (.mk 5 s 0 (zaN T en st) l,st')
 else if zao T st=(⟨#[97,99,116,111,114]⟩:ByteArray) then
  (zbG T en zaw st.adv).next λs st'=>
  (zem T en rec k st').next λl st'=>
  (zgl T en st').next λp st'=>
  (zaC T en (⟨#[123]⟩:ByteArray) st').next λ_ st'=>
  (zcO T (rec .member) (⟨#[125]⟩:ByteArray) k l st').next λl st'=>.ok (.mk 6 s p (zaN T en st) l,st')
 else zfo T en st
def zlV:NT→Ps→R Nd
 |.typ=>typF T en rec k
 |.field=>ziN T en rec
 |.expr=>zlR T en rec k
 |.heading=>zeY rec
 |.operand l=>zdm T en rec k l
 |.postf=>zfd T en rec k
 |.primary=>zch T en rec k
 |.set=>setF T en rec
 |.arm=>armF T en rec k
 |.bind=>ziW T en
 |.block=>zid T en rec k
 |.stmt=>zlk T en rec k
 |.letS=>letF T en rec k
 |.branch=>zgi T en rec
 |.cases=>ziM T en rec k
 |.sarm=>zlO T en rec k
 |.send=>zlE T en rec k
 |.doS=>doF T en rec k
 |.ctor=>zlA T en rec k
 |.member=>zgf T en rec k
 |.decl=>zjS T en rec k
 |.group at'=>zfY T en rec at'
def zdB:Nat→NT→Ps→R Nd
 |0=>λ_ _=>.error (-1)
 |f+1=>zlV T en (zdB f) f
def zbS:Nat→List Nd→Ps→R (List Nd)
 |0,_,_=>.error (-1)
 |j+1,acc,st=>if st.next=T.length then .ok (acc,st) else (rec .decl st).next λn st'=>zbS j (acc++[n]) st'
end
def NT.rank:NT→Nat
 |.typ=>0|.bind=>0|.field=>0|.group _=>12|.primary=>1|.postf=>2|.operand l=>11-l|.expr=>11|.heading=>12|.set=>0|.arm=>0|.block=>0|.letS=>0|.branch=>0|.cases=>0|.sarm=>0|.send=>0|.doS=>0|.ctor=>0|.member=>0|.stmt=>1|.decl=>0
def need (T:List Tok) (nt:NT) (st:Ps):Nat:=16*(T.length-st.next)+nt.rank
end Go.Proofs.YtjdpocmlimkjjaaGreat
