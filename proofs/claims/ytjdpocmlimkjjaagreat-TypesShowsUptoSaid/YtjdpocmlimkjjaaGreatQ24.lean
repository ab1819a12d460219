/- Conditions: those in each statement. -/
import Derived.Test.YtjdpocmlimkjjaaGreatQ09
import Derived.Test.YtjdpocmlimkjjaaGreatQ04
set_option maxHeartbeats 32000000
set_option maxRecDepth 100000
namespace Go.Proofs.YtjdpocmlimkjjaaGreat
def Fits {α:Type} (x:R α) (Q:α→Prop):Prop:=∀a st',x=.ok (a,st')→Q a
section
variable {α β:Type} {Q:α→Prop} {Q':β→Prop}
theorem Fits.ok {a:α} {st:Ps} (h:Q a):Fits (.ok (a,st):R α) Q:=λb st' e=>by
 injection e with e;injection e with e1 e2;subst e1;exact h
theorem Fits.err {c:Int}:Fits (.error c:R α) Q:=λb st' e=>by cases e
theorem Fits.next {x:R α} {f:α→Ps→R β} (h:Fits x Q) (hf:∀a st,Q a→Fits (f a st) Q'):Fits (R.next x f) Q':=by
 intro a st' e;cases x with
 |error c=>cases e
 |ok p=>exact hf p.1 p.2 (h p.1 p.2 rfl) a st' e
end
theorem iteF {α:Type} {Q:α→Prop} {c:Prop} [Decidable c] {x y:R α} (h1:Fits x Q) (h2:Fits y Q):Fits (if c then x else y) Q:=by split<;>assumption
theorem zdg:∀(l m:List Nd),fitL (l++m)=(fitL l&&fitL m)
 |[],m=>by rw[List.nil_append,fitL,Bool.true_and]
 |x::r,m=>by rw[List.cons_append,fitL,fitL,zdg r m,Bool.and_assoc]
theorem zbV {k n a:Int} {t:ByteArray} {l:List Nd} (ht:t.size≤32768) (hl:fitL l=true):(Nd.mk k t n a l).fit=true:=by rw[Nd.fit,hl,decide_eq_true ht];rfl
theorem zbq:(⟨#[]⟩:ByteArray).size≤32768:=Nat.zero_le _
theorem zbv:((⟨#[95]⟩:ByteArray):ByteArray).size≤32768:=by decide
theorem zdy:fitL []=true:=rfl
theorem zcf {x:Nd} {r:List Nd} (h1:x.fit=true) (h2:fitL r=true):fitL (x::r)=true:=by rw[fitL,h1,h2];rfl
theorem zdx {l m:List Nd} (h1:fitL l=true) (h2:fitL m=true):fitL (l++m)=true:=by rw[zdg,h1,h2];rfl
abbrev FN (n:Nd):Prop:=n.fit=true
abbrev FL (l:List Nd):Prop:=fitL l=true
abbrev FS (s:ByteArray):Prop:=s.size≤32768
abbrev FP (p:ByteArray × List Nd):Prop:=p.1.size≤32768∧fitL p.2=true
section
variable (T:List Tok) (en:Int) (hT:∀t∈T,t.text.size≤32768)
include hT
theorem zcd (st:Ps):FS (zao T st):=by
 show (zao T st).size≤32768
 unfold zao;cases hx:T[st.next]? with
 |none=>exact Nat.zero_le _
 |some t=>
  simp only
  split
  ·exact hT t (List.mem_of_getElem? hx)
  ·exact Nat.zero_le _
omit hT in
theorem zbF (w:ByteArray) (st:Ps):Fits (zaC T en w st) (λ_=>True):=λ_ _ _=>trivial
omit hT in
theorem zcL (st:Ps):Fits (zce T en st) (λ_=>True):=λ_ _ _=>trivial
omit hT in
theorem zeX (st:Ps):Fits (zgl T en st) (λ_=>True):=λ_ _ _=>trivial
theorem zcR (q:ByteArray→Bool) (st:Ps):Fits (zbG T en q st) FS:=by
 unfold zbG zfo
 split
 ·exact Fits.ok (zcd T hT st)
 ·exact Fits.err
omit hT in
theorem ziD {item:Ps→R Nd} (h:∀st,Fits (item st) FN) (stop:ByteArray) (hd:Bool):∀(k:Nat) (acc:List Nd) (st:Ps),FL acc→Fits (zfV T en item stop hd k acc st) FL
 |0,_,_,_=>Fits.err
 |k+1,acc,st,ha=>by
  rw[zfV]
  split
  ·exact Fits.next (h _) (λn st' hn=>ziD h stop hd k _ st' (by rw[FL,zdg,ha,fitL,hn];rfl))
  ·exact Fits.next (zbF T en _ _) (λ_ _ _=>Fits.ok ha)
omit hT in
theorem zcr {item:Ps→R Nd} (h:∀st,Fits (item st) FN) (stop:ByteArray) (k:Nat) (st:Ps):Fits (zdA T en item stop k st) FL:=
 Fits.next (h _) (λn st' hn=>ziD T en h stop _ k _ st' (by rw[FL,fitL,hn];rfl))
omit hT in
theorem zdu {item:Ps→R Nd} (h:∀st,Fits (item st) FN) (stop:ByteArray) (k:Nat) (st:Ps):Fits (zge T en item stop k st) FL:=by
 unfold zge
 split
 ·exact Fits.ok rfl
 ·exact zcr T en h stop k st
omit hT in
theorem zdb {item:Ps→R Nd} (h:∀st,Fits (item st) FN) (stop:ByteArray):∀(k:Nat) (acc:List Nd) (st:Ps),FL acc→Fits (zcO T item stop k acc st) FL
 |0,_,_,_=>Fits.err
 |k+1,acc,st,ha=>by
  rw[zcO]
  split
  ·exact Fits.ok ha
  ·exact Fits.next (h _) (λn st' hn=>zdb h stop k _ st' (by rw[FL,zdg,ha,fitL,hn];rfl))
theorem zna (st:Ps):Fits (ziW T en st) FN:=by
 unfold ziW;exact Fits.next (zcR T en hT _ _) (λ_ _ hs=>Fits.ok (zbV hs rfl))
variable {rec:NT→Ps→R Nd} (h:∀nt st,Fits (rec nt st) FN) (k:Nat)
include h
omit hT in
theorem zdd (st:Ps):Fits (zem T en rec k st) FL:=Fits.next (zbF T en _ _) (λ_ st' _=>zdu T en (h _) _ k st')
omit hT in
theorem zbH (st:Ps):Fits (zbB T en rec k st) FL:=Fits.next (zbF T en _ _) (λ_ st' _=>zdu T en (h _) _ k st')
theorem zdl (st:Ps):Fits (zcp T en rec k st) FL:=by
 have _:=hT
 unfold zcp
 repeat' first
  |exact Fits.err
  |(refine Fits.ok ?_;(repeat' (first|assumption|exact zdy|exact zbq|exact zbv|exact zcd T hT _|exact And.left (by assumption)|exact And.right (by assumption)|apply zcf|apply zdx|apply zbV));done)
  |(refine Fits.next (zbF T en _ _) (λ_ _ _=>?_))
  |(refine Fits.next (zcR T en hT _ _) (λ_ _ _=>?_))
  |(refine Fits.next (zcL T en _) (λ_ _ _=>?_))
  |(refine Fits.next (h _ _) (λ_ _ _=>?_))
  |(refine Fits.next (zdu T en (h _) _ _ _) (λ_ _ _=>?_))
  |(refine Fits.next (zcr T en (h _) _ _ _) (λ_ _ _=>?_))
  |(refine Fits.next (zdb T (h _) _ _ _ _ (by(repeat' (first|assumption|exact zdy|exact zbq|exact zbv|exact zcd T hT _|exact And.left (by assumption)|exact And.right (by assumption)|apply zcf|apply zdx|apply zbV)))) (λ_ _ _=>?_))
  |(refine Fits.next (zdd T en h _ _) (λ_ _ _=>?_))
  |(refine Fits.next (zbH T en h _ _) (λ_ _ _=>?_))
  |exact h _ _
  |split
theorem zdI (st:Ps):Fits (zcU T en rec k st) FP:=by
 unfold zcU;refine Fits.next (zcR T en hT _ _) (λ_ _ hs=>?_)
 split
 ·exact Fits.next (zcr T en (h _) _ _ _) (λ_ _ hl=>Fits.ok ⟨hs,hl⟩)
 ·exact Fits.ok ⟨hs,rfl⟩
theorem zfa (at':Int) (b:Nd) (st:Ps) (hb:FN b):Fits (zfi T en rec k at' b st) FN:=by
 unfold zfi
 repeat' first
  |exact Fits.err
  |(refine Fits.ok ?_;(repeat' (first|assumption|exact zdy|exact zbq|exact zbv|exact zcd T hT _|exact And.left (by assumption)|exact And.right (by assumption)|apply zcf|apply zdx|apply zbV));done)
  |(refine Fits.next (zbF T en _ _) (λ_ _ _=>?_))
  |(refine Fits.next (zcR T en hT _ _) (λ_ _ _=>?_))
  |(refine Fits.next (zcL T en _) (λ_ _ _=>?_))
  |(refine Fits.next (h _ _) (λ_ _ _=>?_))
  |(refine Fits.next (zdu T en (h _) _ _ _) (λ_ _ _=>?_))
  |(refine Fits.next (zcr T en (h _) _ _ _) (λ_ _ _=>?_))
  |(refine Fits.next (zdb T (h _) _ _ _ _ (by(repeat' (first|assumption|exact zdy|exact zbq|exact zbv|exact zcd T hT _|exact And.left (by assumption)|exact And.right (by assumption)|apply zcf|apply zdx|apply zbV)))) (λ_ _ _=>?_))
  |(refine Fits.next (zdd T en h _ _) (λ_ _ _=>?_))
  |(refine Fits.next (zbH T en h _ _) (λ_ _ _=>?_))
  |(refine Fits.next (zdl T en hT h _ _) (λ_ _ _=>?_))
  |(refine Fits.next (zdI T en hT h _ _) (λ_ _ _=>?_))
  |(refine Fits.next (zeX T en _) (λ_ _ _=>?_))
  |exact h _ _
  |split
theorem zlC (at':Int) (st:Ps):Fits (zfY T en rec at' st) FN:=by
 have _:=hT
 unfold zfY
 repeat' first
  |exact Fits.err
  |(refine Fits.ok ?_;(repeat' (first|assumption|exact zdy|exact zbq|exact zbv|exact zcd T hT _|exact And.left (by assumption)|exact And.right (by assumption)|apply zcf|apply zdx|apply zbV));done)
  |(refine Fits.next (zbF T en _ _) (λ_ _ _=>?_))
  |(refine Fits.next (zcR T en hT _ _) (λ_ _ _=>?_))
  |(refine Fits.next (zcL T en _) (λ_ _ _=>?_))
  |(refine Fits.next (h _ _) (λ_ _ _=>?_))
  |(refine Fits.next (zdu T en (h _) _ _ _) (λ_ _ _=>?_))
  |(refine Fits.next (zcr T en (h _) _ _ _) (λ_ _ _=>?_))
  |(refine Fits.next (zdb T (h _) _ _ _ _ (by(repeat' (first|assumption|exact zdy|exact zbq|exact zbv|exact zcd T hT _|exact And.left (by assumption)|exact And.right (by assumption)|apply zcf|apply zdx|apply zbV)))) (λ_ _ _=>?_))
  |(refine Fits.next (zdd T en h _ _) (λ_ _ _=>?_))
  |(refine Fits.next (zbH T en h _ _) (λ_ _ _=>?_))
  |(refine Fits.next (zdl T en hT h _ _) (λ_ _ _=>?_))
  |(refine Fits.next (zdI T en hT h _ _) (λ_ _ _=>?_))
  |(refine Fits.next (zeX T en _) (λ_ _ _=>?_))
  |exact zfa T en hT h _ _ _ _ (zbV (by first|assumption|exact zbv) rfl)
  |exact h _ _
  |split
theorem zgw (l:Nat) (at':Int):∀(k:Nat) (x:Nd) (st:Ps),FN x→Fits (zdj T rec l at' k x st) FN
 |0,_,_,_=>Fits.err
 |k+1,x,st,hx=>by
  rw[zdj]
  split
  ·refine Fits.next (h _ _) (λr st' hr=>?_);have hm:FN (.mk 35 (zao T st) 0 at' [x,r]):=zbV (zcd T hT st) (by rw[fitL,fitL,fitL,hx,hr];rfl)
   split
   ·exact Fits.ok hm
   ·exact zgw l at' k _ st' hm
  ·exact Fits.ok hx
theorem zjJ (l:Nat) (st:Ps):Fits (zdm T en rec k l st) FN:=by
 unfold zdm
 split
 ·split
  ·exact Fits.next (h _ _) (λ_ _ hs=>Fits.ok (zbV zbq (by rw[fitL,fitL,hs];rfl)))
  ·exact h _ _
 ·split
  ·split
   ·exact Fits.next (h _ _) (λ_ _ hs=>Fits.ok (zbV zbq (by rw[fitL,fitL,hs];rfl)))
   ·exact h _ _
  ·exact Fits.next (h _ _) (λ_ st' hs=>zgw T hT h l _ k _ st' hs)
theorem zdE (at':Int):∀(j:Nat) (x:Nd) (st:Ps),FN x→Fits (zcx T en rec k at' j x st) FN
 |0,_,_,_=>Fits.err
 |j+1,x,st,hx=>by
  rw[zcx]
  split
  ·exact Fits.next (zbH T en h k _) (λ_ st' hs=>zdE at' j _ st' (zbV zbq (by rw[zdg,fitL,fitL,hx,show fitL _=true from hs];rfl)))
  ·split
   ·exact Fits.next (zcR T en hT _ _) (λ_ st' hs=>zdE at' j _ st' (zbV hs (by rw[fitL,fitL,hx];rfl)))
   ·split
    ·exact Fits.next (zbF T en _ _) (λ_ st1 _=>Fits.next (zcr T en (h _) _ k _) (λ_ st' hs=>zdE at' j _ st' (zbV zbq (by rw[zdg,fitL,fitL,hx,show fitL _=true from hs];rfl))))
    ·exact Fits.ok hx
theorem zeH (st:Ps):Fits (zdh T en rec k st) FN:=by
 have _:=hT
 unfold zdh
 repeat' first
  |exact Fits.err
  |(refine Fits.ok ?_;(repeat' (first|assumption|exact zdy|exact zbq|exact zbv|exact zcd T hT _|exact And.left (by assumption)|exact And.right (by assumption)|apply zcf|apply zdx|apply zbV));done)
  |(refine Fits.next (zbF T en _ _) (λ_ _ _=>?_))
  |(refine Fits.next (zcR T en hT _ _) (λ_ _ _=>?_))
  |(refine Fits.next (zcL T en _) (λ_ _ _=>?_))
  |(refine Fits.next (h _ _) (λ_ _ _=>?_))
  |(refine Fits.next (zdu T en (h _) _ _ _) (λ_ _ _=>?_))
  |(refine Fits.next (zcr T en (h _) _ _ _) (λ_ _ _=>?_))
  |(refine Fits.next (zdb T (h _) _ _ _ _ (by(repeat' (first|assumption|exact zdy|exact zbq|exact zbv|exact zcd T hT _|exact And.left (by assumption)|exact And.right (by assumption)|apply zcf|apply zdx|apply zbV)))) (λ_ _ _=>?_))
  |(refine Fits.next (zdd T en h _ _) (λ_ _ _=>?_))
  |(refine Fits.next (zbH T en h _ _) (λ_ _ _=>?_))
  |(refine Fits.next (zdl T en hT h _ _) (λ_ _ _=>?_))
  |(refine Fits.next (zdI T en hT h _ _) (λ_ _ _=>?_))
  |(refine Fits.next (zeX T en _) (λ_ _ _=>?_))
  |exact zfa T en hT h _ _ _ _ (zbV (by first|assumption|exact zbv) rfl)
  |exact h _ _
  |split
theorem zjM (st:Ps):Fits (zch T en rec k st) FN:=by
 unfold zch;cases hx:T[st.next]? with
 |none=>exact zeH T en hT h k st
 |some t=>
  simp only
  split
  ·exact Fits.ok (zbV zbq rfl)
  ·split
   ·exact Fits.ok (zbV (hT t (List.mem_of_getElem? hx)) rfl)
   ·exact zeH T en hT h k st
theorem znS (st:Ps):Fits (zlk T en rec k st) FN:=by
 unfold zlk;refine iteF (h _ _) ?_;refine iteF (zfa T en hT h _ _ _ _ (zbV zbv rfl)) ?_
 repeat' first
  |exact Fits.err
  |(refine Fits.ok ?_;(repeat' (first|assumption|exact zdy|exact zbq|exact zbv|exact zcd T hT _|exact And.left (by assumption)|exact And.right (by assumption)|apply zcf|apply zdx|apply zbV));done)
  |(refine Fits.next (zbF T en _ _) (λ_ _ _=>?_))
  |(refine Fits.next (zcR T en hT _ _) (λ_ _ _=>?_))
  |(refine Fits.next (zcL T en _) (λ_ _ _=>?_))
  |(refine Fits.next (h _ _) (λ_ _ _=>?_))
  |(refine Fits.next (zdu T en (h _) _ _ _) (λ_ _ _=>?_))
  |(refine Fits.next (zcr T en (h _) _ _ _) (λ_ _ _=>?_))
  |(refine Fits.next (zdb T (h _) _ _ _ _ (by(repeat' (first|assumption|exact zdy|exact zbq|exact zbv|exact zcd T hT _|exact And.left (by assumption)|exact And.right (by assumption)|apply zcf|apply zdx|apply zbV)))) (λ_ _ _=>?_))
  |(refine Fits.next (zdd T en h _ _) (λ_ _ _=>?_))
  |(refine Fits.next (zbH T en h _ _) (λ_ _ _=>?_))
  |exact h _ _
  |split
end
theorem zjm (T:List Tok) (en:Int) (hT:∀t∈T,t.text.size≤32768):∀(f:Nat) (nt:NT) (st:Ps),Fits (zdB T en f nt st) FN
 |0,_,_=>Fits.err
 |f+1,nt,st=>by
  have h:=zjm T en hT f
  show Fits (zlV T en (zdB T en f) f nt st) _
  cases nt
  case operand l=>exact zjJ T en hT h f l st
  case group a=>exact zlC T en hT h a st
  case bind=>exact zna T en hT st
  case primary=>exact zjM T en hT h f st
  case stmt=>exact znS T en hT h f st
  all_goals
   dsimp only[zlV]
   first
    |unfold typF
    |unfold ziN
    |unfold zlR
    |unfold zeY
    |unfold zfd
    |unfold setF
    |unfold armF
    |unfold zid
    |unfold letF
    |unfold zgi
    |unfold ziM
    |unfold zlO
    |unfold zlE
    |unfold doF
    |unfold zlA
    |unfold zgf
    |unfold zjS
   repeat' first
    |exact Fits.err
    |(refine Fits.ok ?_;(repeat' (first|assumption|exact zdy|exact zbq|exact zbv|exact zcd T hT _|exact And.left (by assumption)|exact And.right (by assumption)|apply zcf|apply zdx|apply zbV));done)
    |(refine Fits.next (zbF T en _ _) (λ_ _ _=>?_))
    |(refine Fits.next (zcR T en hT _ _) (λ_ _ _=>?_))
    |(refine Fits.next (zcL T en _) (λ_ _ _=>?_))
    |exact Fits.next (h _ _) (λ_ st' hs=>zdE T en hT h f _ f _ st' hs)
    |(refine Fits.next (h _ _) (λ_ _ _=>?_))
    |(refine Fits.next (zdu T en (h _) _ _ _) (λ_ _ _=>?_))
    |(refine Fits.next (zcr T en (h _) _ _ _) (λ_ _ _=>?_))
    |(refine Fits.next (zdb T (h _) _ _ _ _ (by(repeat' (first|assumption|exact zdy|exact zbq|exact zbv|exact zcd T hT _|exact And.left (by assumption)|exact And.right (by assumption)|apply zcf|apply zdx|apply zbV)))) (λ_ _ _=>?_))
    |(refine Fits.next (zdd T en h _ _) (λ_ _ _=>?_))
    |(refine Fits.next (zbH T en h _ _) (λ_ _ _=>?_))
    |(refine Fits.next (zdl T en hT h _ _) (λ_ _ _=>?_))
    |(refine Fits.next (zdI T en hT h _ _) (λ_ _ _=>?_))
    |(refine Fits.next (zeX T en _) (λ_ _ _=>?_))
    |exact zfa T en hT h _ _ _ _ (zbV (by first|assumption|exact zbv) rfl)
    |exact zeH T en hT h _ _
    |exact h _ _
    |split
end Go.Proofs.YtjdpocmlimkjjaaGreat
set_option maxHeartbeats 32000000
set_option maxRecDepth 100000
namespace Go.Proofs.YtjdpocmlimkjjaaGreat
def Sz {α:Type} (f:α→Nat) (x:R α) (n:Nat):Prop:=∀a st',x=.ok (a,st')→n+f a≤st'.next
abbrev zp (p:ByteArray × List Nd):Nat:=zaq p.2
section
variable {α β:Type} {f:α→Nat} {g:β→Nat}
theorem Sz.ok {a:α} {st:Ps} {n:Nat} (h:n+f a≤st.next):Sz f (.ok (a,st):R α) n:=λb st' e=>by
 injection e with e;injection e with e1 e2;subst e1 e2;exact h
theorem Sz.err {c:Int} {n:Nat}:Sz f (.error c:R α) n:=λb st' e=>by cases e
theorem Sz.next {x:R α} {k:α→Ps→R β} {n m:Nat} (h:Sz f x m) (hf:∀a st,m+f a≤st.next→Sz g (k a st) n):Sz g (R.next x k) n:=by
 intro a st' e;cases x with
 |error c=>cases e
 |ok p=>exact hf p.1 p.2 (h p.1 p.2 rfl) a st' e
theorem Sz.mono {x:R α} {n m:Nat} (h:Sz f x m) (hn:n≤m):Sz f x n:=λa st' e=>Nat.le_trans (by omega) (h a st' e)
theorem Sz.ite {c:Prop} [Decidable c] {x y:R α} {n:Nat} (h1:Sz f x n) (h2:Sz f y n):Sz f (if c then x else y) n:=by split<;>assumption
theorem Sz.next0 {x:R α} {k:α→Ps→R β} {n m:Nat} (h:Adv x m) (hf:∀a st,m≤st.next→Sz g (k a st) n):Sz g (R.next x k) n:=
 Sz.next (f:=λ_=>0) (λa st' e=>h a st' e) (λa st e=>hf a st e)
theorem Sz.nextp {x:R (ByteArray × List Nd)} {k:ByteArray × List Nd→Ps→R β} {n m:Nat} (h:Sz zp x m) (hf:∀a st,m+zaq a.2≤st.next→Sz g (k a st) n):Sz g (R.next x k) n:=Sz.next h hf
theorem Sz.okp {s:ByteArray} {l:List Nd} {st:Ps} {n:Nat} (h:n+zaq l≤st.next):Sz zp (.ok ((s,l),st)) n:=Sz.ok h
end
section
variable (T:List Tok) (en:Int)
theorem zkr {item:Ps→R Nd} (h:∀st,Sz Nd.size (item st) st.next) (stop:ByteArray) (hd:Bool) (m:Nat):∀(k:Nat) (acc:List Nd) (st:Ps),m+zaq acc≤st.next→Sz zaq (zfV T en item stop hd k acc st) m
 |0,_,_,_=>Sz.err
 |k+1,acc,st,ha=>by
  rw[zfV]
  split
  ·refine Sz.next (h _) (λn st' hs=>zkr h stop hd m k _ st' ?_);simp only[Ps.adv] at hs;rw[zaj,zaq,zaq];omega
  ·exact Sz.next0 (zaT T en _ _) (λ_ st' hs=>Sz.ok (by show m+zaq acc≤st'.next;omega))
theorem zek {item:Ps→R Nd} (h:∀st,Sz Nd.size (item st) st.next) (stop:ByteArray) (k:Nat) (st:Ps):Sz zaq (zdA T en item stop k st) st.next:=
 Sz.next (h _) (λn st' hs=>zkr T en h stop _ _ k _ st' (by simp only at hs;rw[zaq,zaq];omega))
theorem zft {item:Ps→R Nd} (h:∀st,Sz Nd.size (item st) st.next) (stop:ByteArray) (k:Nat) (st:Ps):Sz zaq (zge T en item stop k st) st.next:=by
 unfold zge
 split
 ·exact Sz.ok (by rw[zaq];simp only[Ps.adv];omega)
 ·exact zek T en h stop k st
theorem zeR {item:Ps→R Nd} (h:∀st,Sz Nd.size (item st) st.next) (stop:ByteArray) (m:Nat):∀(k:Nat) (acc:List Nd) (st:Ps),m+zaq acc≤st.next→Sz zaq (zcO T item stop k acc st) m
 |0,_,_,_=>Sz.err
 |k+1,acc,st,ha=>by
  rw[zcO]
  split
  ·exact Sz.ok (by simp only[Ps.adv];omega)
  ·exact Sz.next (h _) (λn st' hs=>zeR h stop m k _ st' (by rw[zaj,zaq,zaq];omega))
theorem zqz (st:Ps):Sz Nd.size (ziW T en st) st.next:=by
 unfold ziW;exact Sz.next0 (zbI T en _ _) (λ_ _ hs=>Sz.ok (by rw[Nd.size,zaq];omega))
variable {rec:NT→Ps→R Nd} (h:∀nt st,Sz Nd.size (rec nt st) st.next) (k:Nat)
include h
theorem zey (st:Ps):Sz zaq (zem T en rec k st) (st.next+1):=Sz.next0 (zaT T en _ _) (λ_ st' hs=>(zft T en (h _) _ k st').mono (by omega))
theorem zco (st:Ps):Sz zaq (zbB T en rec k st) (st.next+1):=Sz.next0 (zaT T en _ _) (λ_ st' hs=>(zft T en (h _) _ k st').mono (by omega))
theorem zdp (st:Ps):Sz zaq (zcp T en rec k st) st.next:=by
 unfold zcp
 repeat' first
  |with_reducible exact Sz.err
  |(unfold zfo;with_reducible exact Sz.err)
  |(with_reducible refine Sz.okp ?_;((repeat (first|rw[zaj]|rw[zaE]|rw[zat]|rw[zaI]));first|omega|(simp only[Ps.adv] at *;omega)))
  |(with_reducible refine Sz.ok ?_;((repeat (first|rw[zaj]|rw[zaE]|rw[zat]|rw[zaI]));first|omega|(simp only[Ps.adv] at *;omega)))
  |(with_reducible refine Sz.next0 (zaT T en _ _) (λ_ _ _=>?_))
  |(with_reducible refine Sz.next0 (zbI T en _ _) (λ_ _ _=>?_))
  |(with_reducible refine Sz.next0 (zbn T en _) (λ_ _ _=>?_))
  |(with_reducible refine Sz.next (h _ _) (λ_ _ _=>?_))
  |(with_reducible refine Sz.next (zft T en (h _) _ _ _) (λ_ _ _=>?_))
  |(with_reducible refine Sz.next (zek T en (h _) _ _ _) (λ_ _ _=>?_))
  |(with_reducible refine Sz.next (zeR T (h _) _ (st.next+1) _ _ _ ?hu) (λ_ _ _=>?_);case hu=>((repeat (first|rw[zaj]|rw[zaE]|rw[zat]|rw[zaI]));first|omega|(simp only[Ps.adv] at *;omega)))
  |(with_reducible refine Sz.next (zey T en h _ _) (λ_ _ _=>?_))
  |(with_reducible refine Sz.next (zco T en h _ _) (λ_ _ _=>?_))
  |with_reducible exact h _ _
  |(with_reducible refine(h _ _).mono ?_;((repeat (first|rw[zaj]|rw[zaE]|rw[zat]|rw[zaI]));first|omega|(simp only[Ps.adv] at *;omega)))
  |with_reducible refine Sz.ite ?_ ?_
  |split
theorem zfc (st:Ps):Sz zp (zcU T en rec k st) (st.next+1):=by
 unfold zcU
 repeat' first
  |with_reducible exact Sz.err
  |(unfold zfo;with_reducible exact Sz.err)
  |(with_reducible refine Sz.okp ?_;((repeat (first|rw[zaj]|rw[zaE]|rw[zat]|rw[zaI]));first|omega|(simp only[Ps.adv] at *;omega)))
  |(with_reducible refine Sz.ok ?_;((repeat (first|rw[zaj]|rw[zaE]|rw[zat]|rw[zaI]));first|omega|(simp only[Ps.adv] at *;omega)))
  |(with_reducible refine Sz.next0 (zaT T en _ _) (λ_ _ _=>?_))
  |(with_reducible refine Sz.next0 (zbI T en _ _) (λ_ _ _=>?_))
  |(with_reducible refine Sz.next0 (zbn T en _) (λ_ _ _=>?_))
  |(with_reducible refine Sz.next (h _ _) (λ_ _ _=>?_))
  |(with_reducible refine Sz.next (zft T en (h _) _ _ _) (λ_ _ _=>?_))
  |(with_reducible refine Sz.next (zek T en (h _) _ _ _) (λ_ _ _=>?_))
  |(with_reducible refine Sz.next (zeR T (h _) _ (st.next+1) _ _ _ ?hu) (λ_ _ _=>?_);case hu=>((repeat (first|rw[zaj]|rw[zaE]|rw[zat]|rw[zaI]));first|omega|(simp only[Ps.adv] at *;omega)))
  |(with_reducible refine Sz.next (zey T en h _ _) (λ_ _ _=>?_))
  |(with_reducible refine Sz.next (zco T en h _ _) (λ_ _ _=>?_))
  |(with_reducible refine Sz.next (zdp T en h _ _) (λ_ _ _=>?_))
  |with_reducible exact h _ _
  |(with_reducible refine(h _ _).mono ?_;((repeat (first|rw[zaj]|rw[zaE]|rw[zat]|rw[zaI]));first|omega|(simp only[Ps.adv] at *;omega)))
  |with_reducible refine Sz.ite ?_ ?_
  |split
theorem ziA (at':Int) (s:ByteArray) (a:Int) (st:Ps):Sz Nd.size (zfi T en rec k at' (.mk 40 s 0 a []) st) st.next:=by
 unfold zfi
 repeat' first
  |with_reducible exact Sz.err
  |(unfold zfo;with_reducible exact Sz.err)
  |(with_reducible refine Sz.okp ?_;((repeat (first|rw[zaj]|rw[zaE]|rw[zat]|rw[zaI]));first|omega|(simp only[Ps.adv] at *;omega)))
  |(with_reducible refine Sz.ok ?_;((repeat (first|rw[zaj]|rw[zaE]|rw[zat]|rw[zaI]));first|omega|(simp only[Ps.adv] at *;omega)))
  |(with_reducible refine Sz.next0 (zaT T en _ _) (λ_ _ _=>?_))
  |(with_reducible refine Sz.next0 (zbI T en _ _) (λ_ _ _=>?_))
  |(with_reducible refine Sz.next0 (zbn T en _) (λ_ _ _=>?_))
  |(with_reducible refine Sz.next (h _ _) (λ_ _ _=>?_))
  |(with_reducible refine Sz.next (zft T en (h _) _ _ _) (λ_ _ _=>?_))
  |(with_reducible refine Sz.next (zek T en (h _) _ _ _) (λ_ _ _=>?_))
  |(with_reducible refine Sz.next (zeR T (h _) _ (st.next+1) _ _ _ ?hu) (λ_ _ _=>?_);case hu=>((repeat (first|rw[zaj]|rw[zaE]|rw[zat]|rw[zaI]));first|omega|(simp only[Ps.adv] at *;omega)))
  |(with_reducible refine Sz.next (zey T en h _ _) (λ_ _ _=>?_))
  |(with_reducible refine Sz.next (zco T en h _ _) (λ_ _ _=>?_))
  |(with_reducible refine Sz.next (zdp T en h _ _) (λ_ _ _=>?_))
  |(with_reducible refine Sz.nextp (zfc T en h _ _) (λ_ _ _=>?_))
  |(with_reducible refine Sz.next0 (zbU T en _) (λ_ _ _=>?_))
  |with_reducible exact h _ _
  |(with_reducible refine(h _ _).mono ?_;((repeat (first|rw[zaj]|rw[zaE]|rw[zat]|rw[zaI]));first|omega|(simp only[Ps.adv] at *;omega)))
  |with_reducible refine Sz.ite ?_ ?_
  |split
theorem zpi (at':Int) (st:Ps):Sz Nd.size (zfY T en rec at' st) st.next:=by
 unfold zfY
 repeat' first
  |with_reducible exact Sz.err
  |(unfold zfo;with_reducible exact Sz.err)
  |(with_reducible refine Sz.okp ?_;((repeat (first|rw[zaj]|rw[zaE]|rw[zat]|rw[zaI]));first|omega|(simp only[Ps.adv] at *;omega)))
  |(with_reducible refine Sz.ok ?_;((repeat (first|rw[zaj]|rw[zaE]|rw[zat]|rw[zaI]));first|omega|(simp only[Ps.adv] at *;omega)))
  |(with_reducible refine Sz.next0 (zaT T en _ _) (λ_ _ _=>?_))
  |(with_reducible refine Sz.next0 (zbI T en _ _) (λ_ _ _=>?_))
  |(with_reducible refine Sz.next0 (zbn T en _) (λ_ _ _=>?_))
  |(with_reducible refine Sz.next (h _ _) (λ_ _ _=>?_))
  |(with_reducible refine Sz.next (zft T en (h _) _ _ _) (λ_ _ _=>?_))
  |(with_reducible refine Sz.next (zek T en (h _) _ _ _) (λ_ _ _=>?_))
  |(with_reducible refine Sz.next (zeR T (h _) _ (st.next+1) _ _ _ ?hu) (λ_ _ _=>?_);case hu=>((repeat (first|rw[zaj]|rw[zaE]|rw[zat]|rw[zaI]));first|omega|(simp only[Ps.adv] at *;omega)))
  |(with_reducible refine Sz.next (zey T en h _ _) (λ_ _ _=>?_))
  |(with_reducible refine Sz.next (zco T en h _ _) (λ_ _ _=>?_))
  |(with_reducible refine Sz.next (zdp T en h _ _) (λ_ _ _=>?_))
  |(with_reducible refine Sz.nextp (zfc T en h _ _) (λ_ _ _=>?_))
  |(with_reducible refine Sz.next0 (zbU T en _) (λ_ _ _=>?_))
  |(with_reducible refine(ziA T en h _ _ _ _ _).mono ?_;((repeat (first|rw[zaj]|rw[zaE]|rw[zat]|rw[zaI]));first|omega|(simp only[Ps.adv] at *;omega)))
  |with_reducible exact h _ _
  |(with_reducible refine(h _ _).mono ?_;((repeat (first|rw[zaj]|rw[zaE]|rw[zat]|rw[zaI]));first|omega|(simp only[Ps.adv] at *;omega)))
  |with_reducible refine Sz.ite ?_ ?_
  |split
theorem zik (l:Nat) (at':Int) (m:Nat):∀(k:Nat) (x:Nd) (st:Ps),m+x.size≤st.next→Sz Nd.size (zdj T rec l at' k x st) m
 |0,_,_,_=>Sz.err
 |k+1,x,st,hx=>by
  rw[zdj]
  split
  ·refine Sz.next (h _ _) (λr st' hs=>?_);simp only[Ps.adv] at hs;have hm:m+(Nd.mk 35 (zao T st) 0 at' [x,r]).size≤st'.next:=by rw[Nd.size,zaq,zaq,zaq];omega
   split
   ·exact Sz.ok hm
   ·exact zik l at' m k _ st' hm
  ·exact Sz.ok hx
theorem zlQ (l:Nat) (st:Ps):Sz Nd.size (zdm T en rec k l st) st.next:=by
 unfold zdm
 split
 ·split
  ·with_reducible exact Sz.next (h _ _) (λ_ _ hs=>Sz.ok (by simp only[Ps.adv] at hs;rw[Nd.size,zaq,zaq];omega))
  ·with_reducible exact h _ _
 ·split
  ·split
   ·with_reducible exact Sz.next (h _ _) (λ_ _ hs=>Sz.ok (by simp only[Ps.adv] at hs;rw[Nd.size,zaq,zaq];omega))
   ·with_reducible exact h _ _
  ·with_reducible exact Sz.next (h _ _) (λ_ st' hs=>zik T h l _ _ k _ st' hs)
theorem zeU (at':Int) (m:Nat):∀(j:Nat) (x:Nd) (st:Ps),m+x.size≤st.next→Sz Nd.size (zcx T en rec k at' j x st) m
 |0,_,_,_=>Sz.err
 |j+1,x,st,hx=>by
  rw[zcx]
  split
  ·exact Sz.next (zco T en h k _) (λ_ st' hs=>zeU at' m j _ st' (by rw[Nd.size,zaj,zaq,zaq];omega))
  ·split
   ·exact Sz.next0 (zbI T en _ _) (λ_ st' hs=>zeU at' m j _ st' (by simp only[Ps.adv] at hs;rw[Nd.size,zaq,zaq];omega))
   ·split
    ·exact Sz.next0 (zaT T en _ _) (λ_ st1 hs=>Sz.next (zek T en (h _) _ k _) (λ_ st' hs'=>zeU at' m j _ st' (by simp only[Ps.adv] at hs;rw[Nd.size,zaj,zaq,zaq];omega)))
    ·exact Sz.ok hx
theorem zly (st:Ps):Sz Nd.size (zdh T en rec k st) st.next:=by
 unfold zdh
 repeat' first
  |with_reducible exact Sz.err
  |(unfold zfo;with_reducible exact Sz.err)
  |(with_reducible refine Sz.okp ?_;((repeat (first|rw[zaj]|rw[zaE]|rw[zat]|rw[zaI]));first|omega|(simp only[Ps.adv] at *;omega)))
  |(with_reducible refine Sz.ok ?_;((repeat (first|rw[zaj]|rw[zaE]|rw[zat]|rw[zaI]));first|omega|(simp only[Ps.adv] at *;omega)))
  |(with_reducible refine Sz.next0 (zaT T en _ _) (λ_ _ _=>?_))
  |(with_reducible refine Sz.next0 (zbI T en _ _) (λ_ _ _=>?_))
  |(with_reducible refine Sz.next0 (zbn T en _) (λ_ _ _=>?_))
  |(with_reducible refine Sz.next (h _ _) (λ_ _ _=>?_))
  |(with_reducible refine Sz.next (zft T en (h _) _ _ _) (λ_ _ _=>?_))
  |(with_reducible refine Sz.next (zek T en (h _) _ _ _) (λ_ _ _=>?_))
  |(with_reducible refine Sz.next (zeR T (h _) _ (st.next+1) _ _ _ ?hu) (λ_ _ _=>?_);case hu=>((repeat (first|rw[zaj]|rw[zaE]|rw[zat]|rw[zaI]));first|omega|(simp only[Ps.adv] at *;omega)))
  |(with_reducible refine Sz.next (zey T en h _ _) (λ_ _ _=>?_))
  |(with_reducible refine Sz.next (zco T en h _ _) (λ_ _ _=>?_))
  |(with_reducible refine Sz.next (zdp T en h _ _) (λ_ _ _=>?_))
  |(with_reducible refine Sz.nextp (zfc T en h _ _) (λ_ _ _=>?_))
  |(with_reducible refine Sz.next0 (zbU T en _) (λ_ _ _=>?_))
  |(with_reducible refine(ziA T en h _ _ _ _ _).mono ?_;((repeat (first|rw[zaj]|rw[zaE]|rw[zat]|rw[zaI]));first|omega|(simp only[Ps.adv] at *;omega)))
  |with_reducible exact h _ _
  |(with_reducible refine(h _ _).mono ?_;((repeat (first|rw[zaj]|rw[zaE]|rw[zat]|rw[zaI]));first|omega|(simp only[Ps.adv] at *;omega)))
  |with_reducible refine Sz.ite ?_ ?_
  |split
end
theorem zmn (T:List Tok) (en:Int):∀(f:Nat) (nt:NT) (st:Ps),Sz Nd.size (zdB T en f nt st) st.next
 |0,_,_=>Sz.err
 |f+1,nt,st=>by
  have h:=zmn T en f
  show Sz _ (zlV T en (zdB T en f) f nt st) _
  cases nt
  case operand l=>exact zlQ T en h f l st
  case group at'=>exact zpi T en h at' st
  case bind=>exact zqz T en st
  all_goals
   dsimp only[zlV]
   first
    |unfold typF
    |unfold ziN
    |unfold zlR
    |unfold zeY
    |unfold zfd
    |unfold zch
    |unfold setF
    |unfold armF
    |unfold zid
    |unfold zlk
    |unfold letF
    |unfold zgi
    |unfold ziM
    |unfold zlO
    |unfold zlE
    |unfold doF
    |unfold zlA
    |unfold zgf
    |unfold zjS
   repeat' first
    |with_reducible exact Sz.err
    |(unfold zfo;with_reducible exact Sz.err)
    |(with_reducible refine Sz.okp ?_;((repeat (first|rw[zaj]|rw[zaE]|rw[zat]|rw[zaI]));first|omega|(simp only[Ps.adv] at *;omega)))
    |(with_reducible refine Sz.ok ?_;((repeat (first|rw[zaj]|rw[zaE]|rw[zat]|rw[zaI]));first|omega|(simp only[Ps.adv] at *;omega)))
    |(with_reducible refine Sz.next0 (zaT T en _ _) (λ_ _ _=>?_))
    |(with_reducible refine Sz.next0 (zbI T en _ _) (λ_ _ _=>?_))
    |(with_reducible refine Sz.next0 (zbn T en _) (λ_ _ _=>?_))
    |with_reducible exact Sz.next (h _ _) (λ_ st' hs=>zeU T en h f _ _ f _ st' hs)
    |(with_reducible refine Sz.next (h _ _) (λ_ _ _=>?_))
    |(with_reducible refine Sz.next (zft T en (h _) _ _ _) (λ_ _ _=>?_))
    |(with_reducible refine Sz.next (zek T en (h _) _ _ _) (λ_ _ _=>?_))
    |(with_reducible refine Sz.next (zeR T (h _) _ (st.next+1) _ _ _ ?hu) (λ_ _ _=>?_);case hu=>((repeat (first|rw[zaj]|rw[zaE]|rw[zat]|rw[zaI]));first|omega|(simp only[Ps.adv] at *;omega)))
    |(with_reducible refine Sz.next (zey T en h _ _) (λ_ _ _=>?_))
    |(with_reducible refine Sz.next (zco T en h _ _) (λ_ _ _=>?_))
    |(with_reducible refine Sz.next (zdp T en h _ _) (λ_ _ _=>?_))
    |(with_reducible refine Sz.nextp (zfc T en h _ _) (λ_ _ _=>?_))
    |(with_reducible refine Sz.next0 (zbU T en _) (λ_ _ _=>?_))
    |(with_reducible refine(ziA T en h _ _ _ _ _).mono ?_;((repeat (first|rw[zaj]|rw[zaE]|rw[zat]|rw[zaI]));first|omega|(simp only[Ps.adv] at *;omega)))
    |exact zly T en h _ _
    |with_reducible exact h _ _
    |(with_reducible refine(h _ _).mono ?_;((repeat (first|rw[zaj]|rw[zaE]|rw[zat]|rw[zaI]));first|omega|(simp only[Ps.adv] at *;omega)))
    |with_reducible refine Sz.ite ?_ ?_
    |split
theorem ziK (T:List Tok) (rec:NT→Ps→R Nd) (h:∀st,Sz Nd.size (rec .decl st) st.next) (m:Nat):∀(k:Nat) (acc:List Nd) (st:Ps),m+zaq acc≤st.next→Sz zaq (zbS T rec k acc st) m
 |0,_,_,_=>Sz.err
 |k+1,acc,st,ha=>by
  rw[zbS]
  split
  ·exact Sz.ok ha
  ·with_reducible exact Sz.next (h _) (λn st' hs=>ziK T rec h m k _ st' (by rw[zaj,zaq,zaq];omega))
end Go.Proofs.YtjdpocmlimkjjaaGreat
