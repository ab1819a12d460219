/- Conditions: those in each statement. -/
import Derived.Test.YtjdpocmlimkjjaaGreatQ27
import Derived.Test.YtjdpocmlimkjjaaGreatQ24
import Derived.Test.YtjdpocmlimkjjaaGreatQ08
import Derived.Test.YtjdpocmlimkjjaaGreatQ23
import Derived.Test.YtjdpocmlimkjjaaGreatQ00
import Derived.Test.YtjdpocmlimkjjaaGreatProg
import Derived.Shelf.Strings.Builder1
import Derived.Shelf.Strings.Builder2
import Derived.Test.YtjdpocmlimkjjaaGreatQ02
import Derived.Shelf.Strings.BuilderK
set_option maxHeartbeats 32000000
set_option maxRecDepth 100000
namespace Go.Proofs.YtjdpocmlimkjjaaGreat
theorem zhy {neg:Bool} {low high:Int} {o:Option Int} (h:(zdD neg low high o).2=true):low≤(zdD neg low high o).1∧(zdD neg low high o).1≤high:=by
 cases o with
 |none=>exact absurd h (by simp[zdD])
 |some n=>
  unfold zdD at h ⊢;dsimp only at h ⊢;cases neg with
  |true=>
   rw[if_pos rfl] at h ⊢
   by_cases h1:n<low∨high<n
   ·rw[if_pos h1] at h;exact absurd h (by decide)
   ·rw[if_neg h1]
    show low≤n∧n≤high
    omega
  |false=>
   rw[if_neg (by decide)] at h ⊢
   by_cases h0:n < -9223372036854775807
   ·rw[if_pos h0] at h;exact absurd h (by decide)
   ·rw[if_neg h0] at h ⊢
    by_cases h1:-n<low∨high < -n
    ·rw[if_pos h1] at h;exact absurd h (by decide)
    ·rw[if_neg h1]
     show low≤-n∧-n≤high
     omega
theorem zlc {s:ByteArray} {low high:Int} (h:(zfz s low high).2=true):low≤(zfz s low high).1∧(zfz s low high).1≤high:=by
 unfold zfz at h ⊢
 split
 ·rw[if_pos (by assumption)] at h;exact absurd h (by simp)
 ·rw[if_neg (by assumption)] at h
  split
  ·rw[if_pos (by assumption)] at h
   split
   ·rw[if_pos (by assumption)] at h;exact absurd h (by simp)
   ·rw[if_neg (by assumption)] at h;exact zhy h
  ·rw[if_neg (by assumption)] at h
   split
   ·rw[if_pos (by assumption)] at h;exact absurd h (by simp)
   ·rw[if_neg (by assumption)] at h;exact zhy h
theorem zjV {s:ByteArray}:∀{f i:Nat} {acc:List UInt8} {l:List UInt8} {e:Nat},zfG s f i acc=some (l,e)→i+1≤e∧e≤s.size
 |0,i,acc,l,e,h=>by rw[zfG] at h;cases h
 |f+1,i,acc,l,e,h=>by
  rw[zfG] at h
  split at h
  case isFalse=>cases h
  case isTrue hlt=>
   split at h
   ·cases h
   ·split at h
    ·injection h with h;injection h with h1 h2;omega
    ·split at h
     ·split at h
      ·cases h
      ·split at h
       ·cases h
       ·have:=zjV h;omega
     ·have:=zjV h;omega
structure zrO (s:ByteArray) (k:Nat) (t:Tok) (e:Nat):Prop where
 adv:k+1≤e
 le:e≤s.size
 at':t.at'=(k:Int)
 text:t.text.size≤32768
 lo:0≤t.n
 hi:t.n≤9007199254740992
theorem zed (s:ByteArray) (i e:Nat) (hs:s.size≤32768):(s.extract i e).size≤32768:=by
 rw[ByteArray.size_extract];omega
theorem zin {s:ByteArray} {k:Nat} (hk:k<s.size) (hw:wc (bt s k)=true):k+1≤zbm s s.size k∧zbm s s.size k≤s.size:=by
 refine⟨?_,(zeC (by omega)).2⟩;rw[zgR hk hw (by omega)];exact(zeC (by omega)).1
theorem zfy {s:ByteArray} {k:Nat} {t:Tok} {e:Nat} (hs:s.size≤32768) (hk:k<s.size) (h:zdv s k=.ok (t,e)):zrO s k t e:=by
 unfold zdv at h
 split at h
 ·rename_i hl;injection h with h;injection h with h1 h2;subst h1 h2;obtain⟨h3,h4⟩:=zin hk (show wc (bt s k)=true by rw[zrp,hl];rfl);exact⟨h3,h4,rfl,zed _ _ _ hs,Int.le_refl _,by show (0:Int)≤_;omega⟩
 ·split at h
  ·rename_i hd;unfold zeM at h;dsimp only at h
   split at h
   ·cases h
   ·split at h
    ·cases h
    ·split at h
     ·rename_i hp;injection h with h;injection h with h1 h2;subst h1 h2;obtain⟨h3,h4⟩:=zin hk (zmC hd);obtain⟨h5,h6⟩:=zlc hp;exact⟨h3,h4,rfl,Nat.zero_le _,h5,h6⟩
     ·cases h
  ·split at h
   ·unfold zkk at h
    split at h
    ·cases h
    ·rename_i l e' ht
     split at h
     ·cases h
     ·injection h with h;injection h with h1 h2;subst h1 h2;have:=zjV ht;refine⟨by omega,by omega,rfl,?_,Int.le_refl _,by show (0:Int)≤_;omega⟩
      show l.toArray.size≤32768
      simp;omega
   ·unfold zkx at h
    split at h
    ·rename_i hm;injection h with h;injection h with h1 h2;subst h1 h2;exact⟨by omega,by omega,rfl,zed _ _ _ hs,Int.le_refl _,by show (0:Int)≤_;omega⟩
    ·split at h
     ·injection h with h;injection h with h1 h2;subst h1 h2;exact⟨by omega,by omega,rfl,zed _ _ _ hs,Int.le_refl _,by show (0:Int)≤_;omega⟩
     ·cases h
theorem zfK {s:ByteArray} {k:Nat} {c:Int} (h:zdv s k=.error c):c≠0:=by
 unfold zdv zeM zkk zkx at h;dsimp only at h
 repeat' split at h
 all_goals first
  |(cases h;done)
  |(injection h with h;omega)
def zjy (T:List Tok):Prop:=∀t∈T,t.text.size≤32768∧0≤t.n∧t.n≤9007199254740992
theorem zjy.push {T:List Tok} {t:Tok} {s:ByteArray} {k e:Nat} (h:zjy T) (ht:zrO s k t e):zjy (T++[t]):=λx hx=>by
 rcases List.mem_append.1 hx with h1|h1
 ·exact h x h1
 ·obtain rfl:x=t:=by simpa using h1
  exact⟨ht.text,ht.lo,ht.hi⟩
theorem zmT {s:ByteArray} (hs:s.size≤32768):∀{f i:Nat} {acc T:List Tok},i≤s.size→zjy acc→zfS s f i acc=.ok T→zjy T∧T.length≤acc.length+(s.size-i)
 |0,i,acc,T,_,_,h=>by rw[zfS] at h;cases h
 |f+1,i,acc,T,hi,ha,h=>by
  rw[zfS] at h;have hsk:=zhS (s:=s) (f:=s.size) (i:=i) hi
  split at h
  ·injection h with h;subst h;exact⟨ha,by omega⟩
  ·split at h
   ·cases h
   ·rename_i t e ht;have hok:=zfy hs (by omega) ht;have ha2:=hok.adv;obtain⟨h1,h2⟩:=zmT hs hok.le (ha.push hok) h;refine⟨h1,?_⟩;rw[List.length_append,List.length_singleton] at h2;omega
theorem zmk {s:ByteArray} {T:List Tok} (h:zgo s=.ok T):s.size≤32768∧zjy T∧T.length≤s.size:=by
 unfold zgo at h
 split at h
 ·cases h
 ·rename_i hs;obtain⟨h1,h2⟩:=zmT (by omega) (Nat.zero_le _) (λt ht=>by simp at ht) h;simp at h2;exact⟨by omega,h1,h2⟩
end Go.Proofs.YtjdpocmlimkjjaaGreat
set_option maxHeartbeats 32000000
set_option maxRecDepth 100000
namespace Go.Proofs.YtjdpocmlimkjjaaGreat
theorem zqi (T:List Tok) (en:Int) (rec:NT→Ps→R Nd) (k:Nat) (st:Ps):Fits (zjS T en rec k st) (λn=>n.kind<70):=by
 unfold zjS
 repeat' first
  |exact Fits.err
  |(refine Fits.ok ?_;first|exact(by decide:(2:Int)<70)|exact(by decide:(3:Int)<70)|exact(by decide:(4:Int)<70)|exact(by decide:(5:Int)<70)|exact(by decide:(6:Int)<70))
  |(refine Fits.next (Q:=λ_=>True) (λ_ _ _=>trivial) (λ_ _ _=>?_))
  |split
theorem zoK (T:List Tok) (en:Int) (f:Nat) (st:Ps):Fits (zdB T en f .decl st) (λn=>n.kind<70):=by
 cases f with
 |zero=>exact Fits.err
 |succ f=>exact zqi T en (zdB T en f) f st
theorem zeO {T:List Tok} {rec:NT→Ps→R Nd} {Q:Nd→Prop} (h:∀st,Fits (rec .decl st) Q):∀(k:Nat) (acc:List Nd) (st:Ps),(∀x∈acc,Q x)→Fits (zbS T rec k acc st) (λl=>∀x∈l,Q x)
 |0,_,_,_=>Fits.err
 |k+1,acc,st,ha=>by
  rw[zbS]
  split
  ·exact Fits.ok ha
  ·exact Fits.next (h _) (λn st' hn=>zeO h k _ st' (λx hx=>by
    rcases List.mem_append.1 hx with h1|h1
    ·exact ha x h1
    ·rw[List.mem_singleton.1 h1];exact hn))
theorem zhD {T:List Tok} {rec:NT→Ps→R Nd}:∀(k:Nat) (acc:List Nd) (st st':Ps) (l:List Nd),zbS T rec k acc st=.ok (l,st')→st'.next=T.length
 |0,_,_,_,_,h=>by cases h
 |k+1,acc,st,st',l,h=>by
  rw[zbS] at h
  split at h
  ·rename_i hn;injection h with h;injection h with _ h2;rw[←h2];exact hn
  ·cases hr:rec .decl st with
   |error c=>rw[hr] at h;cases h
   |ok p=>rw[hr] at h;exact zhD k _ p.2 st' l h
theorem zmp:∀{l:List Nd},(∀x∈l,x.fit=true)→fitL l=true
 |[],_=>rfl
 |x::_,h=>zcf (h x (List.mem_cons_self ..)) (zmp (λy hy=>h y (List.mem_cons_of_mem _ hy)))
theorem zeV {s:ByteArray} {n:Nd} (h:zdC s=.ok n):∃l,n=.mk 1 ⟨#[]⟩ 0 0 l∧fitL l=true∧zaq l≤2097152∧∀k∈l,k.kind<70:=by
 unfold zdC at h;cases hs:zgo s with
 |error e=>rw[hs] at h;cases h
 |ok T=>
  rw[hs] at h;obtain⟨h1,h2,h3⟩:=zmk hs;simp only at h;cases hp:zbS T (zdB T s.size (64*(T.length+1))) (64*(T.length+1)) [] ⟨0,false⟩ with
  |error a=>rw[hp] at h;cases h
  |ok p=>
   obtain⟨l,st'⟩:=p;rw[hp] at h;simp only at h;have hfit:=zeO (λst=>zjm T s.size (λt ht=>(h2 t ht).1) _ .decl st) _ [] _ (λx hx=>by cases hx) l st' hp;have hlow:=zeO (λst=>zoK T s.size _ st) _ [] _ (λx hx=>by cases hx) l st' hp;have hsz:=ziK T (zdB T s.size (64*(T.length+1))) (λst=>zmn T s.size _ .decl st) 0 _ [] ⟨0,false⟩ (by rw[show zaq []=0 from rfl];exact Nat.le_refl _) l st' hp;have hen:=zhD _ _ _ _ _ hp;cases hd:zdW l 1 with
   |some a=>rw[hd] at h;cases h
   |none=>
    rw[hd] at h;injection h with h;exact⟨l,h.symm,zmp hfit,by omega,hlow⟩
end Go.Proofs.YtjdpocmlimkjjaaGreat
set_option maxHeartbeats 32000000
set_option maxRecDepth 100000
namespace Go.Proofs.YtjdpocmlimkjjaaGreat
theorem zpL:Ty.zero.fit=true:=by decide
mutual
theorem zlm:∀(n:Nd) {t:Ty},n.fit=true→zfp n=some t→t.fit=true
 |.mk k tx nn a l,t,hf,h=>by
  rw[Nd.fit,Bool.and_eq_true] at hf;have hn:tx.size≤2097152:=Nat.le_trans (of_decide_eq_true hf.1) (by decide);have hz:(⟨#[]⟩:ByteArray).size≤2097152:=Nat.zero_le _;have leaf:∀(k':Int) (s:ByteArray),s.size≤2097152→(Ty.mk k' s []).fit=true:=λk' s hs=>by rw[Ty.fit,decide_eq_true hs];rfl
  have many:∀(k':Int) (t:Ty),(zer l).map (Ty.mk k' ⟨#[]⟩)=some t→t.fit=true:=λk' t ht=>by
   cases hr:zer l with
   |none=>rw[hr] at ht;cases ht
   |some ts=>
    rw[hr] at ht;have:Ty.mk k' ⟨#[]⟩ ts=t:=Option.some.inj ht;rw[←this,Ty.fit,decide_eq_true hz,zkN l hf.2 hr]
    rfl
  rw[zfp] at h
  split at h
  ·cases h
  split at h
  ·split at h
   ·rw[←Option.some.inj h];exact leaf _ _ hz
   ·split at h
    ·rw[←Option.some.inj h];exact leaf _ _ hn
    ·cases h
  split at h
  ·split at h
   ·rw[←Option.some.inj h];exact leaf _ _ hn
   ·cases h
  split at h
  ·split at h
   ·exact many _ _ h
   ·cases h
  split at h
  ·split at h
   ·exact many _ _ h
   ·cases h
  ·cases h
theorem zkN:∀(l:List Nd) {ts:List Ty},fitL l=true→zer l=some ts→zlZ ts=true
 |[],ts,_,h=>by rw[zer] at h;rw[←Option.some.inj h,zlZ]
 |n::r,ts,hf,h=>by
  rw[fitL,Bool.and_eq_true] at hf;rw[zer] at h;cases h1:zfp n with
  |none=>rw[h1] at h;cases h
  |some t=>
   rw[h1] at h;simp only at h;cases h2:zer r with
   |none=>rw[h2] at h;cases h
   |some rs=>
    rw[h2] at h;rw[←Option.some.inj h,zlZ,zlm n hf.1 h1,zkN r hf.2 h2]
    rfl
end
theorem ziF {n:Nd} (h:n.fit=true):(zcs n).fit=true:=by
 unfold zcs;cases hr:zfp n with
 |none=>exact zpL
 |some t=>exact zlm n h hr
theorem zqr {n:Nd} (h:n.fit=true):(kid0 n).fit=true:=by
 have:=zay h;unfold kid0;cases hk:n.kids with
 |nil=>rfl
 |cons x r=>rw[hk] at this;exact zaM this (List.mem_cons_self ..)
theorem zeE {l:List Nd} (h:fitL l=true):fitF (zbk l)=true:=by
 unfold fitF zbk;rw[List.all_eq_true];intro f hf;obtain⟨x,hx,rfl⟩:=List.mem_map.1 hf;exact ziF (zqr (zaM h (zes _ _ hx).2))
theorem zhd {l:List Nd} (h:fitL l=true):(zby l).fit=true:=by
 unfold zby;refine ziF ?_;rw[List.getD];cases hg:l[(zaL l).length]? with
 |none=>rfl
 |some x=>exact zaM h (List.mem_of_getElem? hg)
theorem zhO:∀{l:List Nd},fitL l=true→zry (zaR l)
 |[],_=>⟨λd hd=>(by cases hd),λd hd=>(by cases hd),λd hd=>(by cases hd),λd hd=>(by cases hd)⟩
 |n::r,h=>by
  rw[fitL,Bool.and_eq_true] at h;have ih:=zhO h.2;have hk:=zay h.1;rw[zaR]
  split
  ·refine⟨λd hd c hc=>?_,ih.effects,ih.funs,ih.actors⟩;rcases List.mem_cons.1 hd with rfl|hd
   ·rw[List.mem_singleton.1 hc];exact zeE hk
   ·exact ih.types d hd c hc
  split
  ·refine⟨λd hd c hc=>?_,ih.effects,ih.funs,ih.actors⟩;rcases List.mem_cons.1 hd with rfl|hd
   ·obtain⟨x,hx,rfl⟩:=List.mem_map.1 hc;have hxf:=zay (zaM hk hx)
    show fitF (x.kids.map (λt=>(⟨⟨#[]⟩,zcs t⟩:Fld)))=true
    unfold fitF;rw[List.all_eq_true];intro f hf;obtain⟨z,hz,rfl⟩:=List.mem_map.1 hf;exact ziF (zaM hxf hz)
   ·exact ih.types d hd c hc
  split
  ·refine⟨ih.types,λe he=>?_,ih.funs,ih.actors⟩;rcases List.mem_cons.1 he with rfl|he
   ·exact⟨zeE hk,zhd hk⟩
   ·exact ih.effects e he
  split
  ·refine⟨ih.types,ih.effects,λe he=>?_,ih.actors⟩;rcases List.mem_cons.1 he with rfl|he
   ·exact⟨zeE hk,zhd hk⟩
   ·exact ih.funs e he
  split
  ·refine⟨ih.types,ih.effects,ih.funs,λa ha=>?_⟩;rcases List.mem_cons.1 ha with rfl|ha
   ·refine⟨zeE hk,λv hv=>?_,λh hh=>?_⟩
    ·obtain⟨x,hx,rfl⟩:=List.mem_map.1 hv;exact zhd (zay (zaM hk (List.mem_filter.1 hx).1))
    ·obtain⟨x,hx,rfl⟩:=List.mem_map.1 hh;exact zeE (zay (zaM hk (List.mem_filter.1 hx).1))
   ·exact ih.actors a ha
  ·exact ih
theorem zgh {q:Nd→Bool}:∀{l:List Nd},fitL l=true→fitL (l.filter q)=true
 |[],_=>rfl
 |n::r,h=>by
  rw[fitL,Bool.and_eq_true] at h;rw[List.filter_cons]
  split
  ·exact zcf h.1 (zgh h.2)
  ·exact zgh h.2
end Go.Proofs.YtjdpocmlimkjjaaGreat
set_option maxHeartbeats 32000000
set_option maxRecDepth 100000
namespace Go.Proofs.YtjdpocmlimkjjaaGreat
open Go.RowKit Go.Shelf
def zml:Go.Shelf.Ren:=⟨fun|167=>70|240=>98|276=>133|n=>n,
 fun|0=>0|3=>3|4=>4|5=>5|9=>9|20=>20|37=>94|70=>93|72=>96|75=>132|80=>98|164=>168|n=>n,fun|n=>n⟩
theorem layW:Go.Proofs.Lays.n167 Tryz.prog zml:={
 mixed:=by kernel_rfl
 f167:=Tryz.func70.trans (congrArg some (by kernel_rfl))
 f240:=Tryz.func98.trans (congrArg some (by kernel_rfl))
 f276:=Tryz.func133.trans (congrArg some (by kernel_rfl))
 t0:=Tryz.underlying0
 a0:=Tryz.isAgg0
 z0:=Tryz.sizeOf0
 v0:=Tryz.zeroValue0
 t4:=Tryz.underlying4
 a4:=Tryz.isAgg4
 z4:=Tryz.sizeOf4
 v4:=Tryz.zeroValue4
 t5:=Tryz.underlying5
 a5:=Tryz.isAgg5
 z5:=Tryz.sizeOf5
 v5:=Tryz.zeroValue5
 t9:=Tryz.underlying9
 a9:=Tryz.isAgg9
 z9:=Tryz.sizeOf9
 v9:=Tryz.zeroValue9
 t20:=Tryz.underlying20
 a20:=Tryz.isAgg20
 z20:=Tryz.sizeOf20
 v20:=Tryz.zeroValue20
 t37:=Tryz.underlying94
 a37:=Tryz.isAgg94
 z37:=Tryz.sizeOf94
 v37:=Tryz.zeroValue94
 t70:=Tryz.underlying93
 a70:=Tryz.isAgg93
 z70:=Tryz.sizeOf93
 v70:=Tryz.zeroValue93
 t72:=Tryz.underlying96
 a72:=Tryz.isAgg96
 z72:=Tryz.sizeOf96
 v72:=Tryz.zeroValue96
 t75:=Tryz.underlying132
 a75:=Tryz.isAgg132
 z75:=Tryz.sizeOf132
 v75:=Tryz.zeroValue132
 t164:=Tryz.underlying168
 a164:=Tryz.isAgg168
 z164:=Tryz.sizeOf168
 v164:=Tryz.zeroValue168}
theorem zjl:Builder.Extra Tryz.prog zml:={
 sizeBuilder:=by kernel_rfl
 liesBuilder:=by kernel_rfl
 t5:=Tryz.underlying5
 a5:=Tryz.isAgg5
 z5:=Tryz.sizeOf5
 v5:=Tryz.zeroValue5
 infoByte:=by kernel_rfl
 cellsByte:=by kernel_rfl
 sizeByte:=by kernel_rfl
 neB5:=by decide}
def zmR:Go.Shelf.Ren:=⟨fun|169=>46|n=>n,
 fun|0=>0|3=>3|5=>5|9=>9|37=>94|70=>93|72=>96|127=>136|n=>n,fun|n=>n⟩
theorem layS:Go.Proofs.Lays.n169 Tryz.prog zmR:={
 mixed:=by kernel_rfl
 f169:=Tryz.func46.trans (congrArg some (by kernel_rfl))
 t0:=Tryz.underlying0
 a0:=Tryz.isAgg0
 z0:=Tryz.sizeOf0
 v0:=Tryz.zeroValue0
 t3:=Tryz.underlying3
 a3:=Tryz.isAgg3
 z3:=Tryz.sizeOf3
 v3:=Tryz.zeroValue3
 t9:=Tryz.underlying9
 a9:=Tryz.isAgg9
 z9:=Tryz.sizeOf9
 v9:=Tryz.zeroValue9
 t37:=Tryz.underlying94
 a37:=Tryz.isAgg94
 z37:=Tryz.sizeOf94
 v37:=Tryz.zeroValue94
 t70:=Tryz.underlying93
 a70:=Tryz.isAgg93
 z70:=Tryz.sizeOf93
 v70:=Tryz.zeroValue93
 t72:=Tryz.underlying96
 a72:=Tryz.isAgg96
 z72:=Tryz.sizeOf96
 v72:=Tryz.zeroValue96
 t127:=Tryz.underlying136
 a127:=Tryz.isAgg136
 z127:=Tryz.sizeOf136
 v127:=Tryz.zeroValue136}
theorem zjj:Builder.Extra Tryz.prog zmR:={
 sizeBuilder:=by kernel_rfl
 liesBuilder:=by kernel_rfl
 t5:=Tryz.underlying5
 a5:=Tryz.isAgg5
 z5:=Tryz.sizeOf5
 v5:=Tryz.zeroValue5
 infoByte:=by kernel_rfl
 cellsByte:=by kernel_rfl
 sizeByte:=by kernel_rfl
 neB5:=by decide}
def zqe:Go.Shelf.Ren:=⟨fun|170=>102|n=>n,
 fun|0=>0|3=>3|5=>5|37=>94|70=>93|72=>96|n=>n,fun|n=>n⟩
theorem layL:Go.Proofs.Lays.n170 Tryz.prog zqe:={
 mixed:=by kernel_rfl
 f170:=Tryz.func102.trans (congrArg some (by kernel_rfl))
 t0:=Tryz.underlying0
 a0:=Tryz.isAgg0
 z0:=Tryz.sizeOf0
 v0:=Tryz.zeroValue0
 t3:=Tryz.underlying3
 a3:=Tryz.isAgg3
 z3:=Tryz.sizeOf3
 v3:=Tryz.zeroValue3
 t37:=Tryz.underlying94
 a37:=Tryz.isAgg94
 z37:=Tryz.sizeOf94
 v37:=Tryz.zeroValue94
 t70:=Tryz.underlying93
 a70:=Tryz.isAgg93
 z70:=Tryz.sizeOf93
 v70:=Tryz.zeroValue93
 t72:=Tryz.underlying96
 a72:=Tryz.isAgg96
 z72:=Tryz.sizeOf96
 v72:=Tryz.zeroValue96}
structure zhl (b:Nat) (w0 w:World) (bs:List UInt8):Prop where
 at_:Lib.IsBuilder 96 5 b b (Lib.byteCells bs) w
 low:Below b w0 w
 le:b≤w.heap.size
theorem zhl.new (w:World):zhl w.heap.size w (w.alloc (.cells #[.pointer none,.slice none 0 0] 96)) []:=
 ⟨.inl ⟨Nat.le_refl _,.slice none 0 0,heap_alloc_new w _,World.ownsRow_nil _ _ _ _,by simp[Value.ownBlock]⟩,(Below.refl _ _).alloc (Nat.le_refl _) _,by simp⟩
theorem zhl.writeByte {b:Nat} {w0 w:World} {bs:List UInt8} (h:zhl b w0 w bs) (c:UInt8) (hl:bs.length+1≤140737488355328) :
 Calls Tryz.prog 70 #[.pointer (some ⟨b,0,none⟩),.int .u8 (c.toNat:Int)] w λe w'=>e=.returned .nilIface∧zhl b w0 w' (bs++[c]):=by
 refine(Any.Builder_WriteByte layW zjl b b (Lib.byteCells bs) (c.toNat:Int) w h.at_ (by rw[Lib.byteCells_length];exact hl) h.le).mono ?_;rintro e w' ⟨rfl,h1,h2⟩;refine⟨rfl,.inr ?_,h.low.trans h2,Nat.le_trans h.le h2.size⟩;rw[show Lib.byteCells (bs++[c])=Lib.byteCells bs++[.int .u8 (c.toNat:Int)] by simp[Lib.byteCells]];exact h1
theorem zhl.string {b:Nat} {w0 w:World} {bs:List UInt8} (h:zhl b w0 w bs) :
 Calls Tryz.prog 46 #[.pointer (some ⟨b,0,none⟩)] w λe w'=>e=.returned (.string ⟨bs.toArray⟩)∧Below b w0 w':=by
 refine(Any.Builder_String_any layS zjj b b bs w h.at_ h.le).mono ?_;rintro e w' ⟨rfl,h2⟩;exact⟨rfl,h.low.trans h2⟩
theorem zhl.len {b:Nat} {w0 w:World} {bs:List UInt8} (h:zhl b w0 w bs) :
 Calls Tryz.prog 102 #[.pointer (some ⟨b,0,none⟩)] w λe w'=>e=.returned (.int .i64 bs.length)∧w'=w:=by
 have:=Any.Builder_Len layL b b (Lib.byteCells bs) w h.at_;rw[Lib.byteCells_length] at this;exact this
def zmD:Go.Shelf.Ren:=⟨fun|166=>69|240=>98|276=>133|n=>n,
 fun|0=>0|3=>3|4=>4|5=>5|9=>9|20=>20|37=>94|70=>93|72=>96|75=>132|80=>98|164=>168|n=>n,fun|n=>n⟩
theorem layB:Go.Proofs.Lays.n166 Tryz.prog zmD:={
 mixed:=by kernel_rfl
 f166:=Tryz.func69.trans (congrArg some (by kernel_rfl))
 f240:=Tryz.func98.trans (congrArg some (by kernel_rfl))
 f276:=Tryz.func133.trans (congrArg some (by kernel_rfl))
 t0:=Tryz.underlying0
 a0:=Tryz.isAgg0
 z0:=Tryz.sizeOf0
 v0:=Tryz.zeroValue0
 t3:=Tryz.underlying3
 a3:=Tryz.isAgg3
 z3:=Tryz.sizeOf3
 v3:=Tryz.zeroValue3
 t4:=Tryz.underlying4
 a4:=Tryz.isAgg4
 z4:=Tryz.sizeOf4
 v4:=Tryz.zeroValue4
 t9:=Tryz.underlying9
 a9:=Tryz.isAgg9
 z9:=Tryz.sizeOf9
 v9:=Tryz.zeroValue9
 t20:=Tryz.underlying20
 a20:=Tryz.isAgg20
 z20:=Tryz.sizeOf20
 v20:=Tryz.zeroValue20
 t37:=Tryz.underlying94
 a37:=Tryz.isAgg94
 z37:=Tryz.sizeOf94
 v37:=Tryz.zeroValue94
 t70:=Tryz.underlying93
 a70:=Tryz.isAgg93
 z70:=Tryz.sizeOf93
 v70:=Tryz.zeroValue93
 t72:=Tryz.underlying96
 a72:=Tryz.isAgg96
 z72:=Tryz.sizeOf96
 v72:=Tryz.zeroValue96
 t75:=Tryz.underlying132
 a75:=Tryz.isAgg132
 z75:=Tryz.sizeOf132
 v75:=Tryz.zeroValue132
 t164:=Tryz.underlying168
 a164:=Tryz.isAgg168
 z164:=Tryz.sizeOf168
 v164:=Tryz.zeroValue168}
theorem znE:Builder.Extra Tryz.prog zmD:={
 sizeBuilder:=by kernel_rfl
 liesBuilder:=by kernel_rfl
 t5:=Tryz.underlying5
 a5:=Tryz.isAgg5
 z5:=Tryz.sizeOf5
 v5:=Tryz.zeroValue5
 infoByte:=by kernel_rfl
 cellsByte:=by kernel_rfl
 sizeByte:=by kernel_rfl
 neB5:=by decide}
theorem ziO {T e:TypeId} {B b:Nat} {bs:List Value} {w w':World} (h:Lib.IsBuilderF T e B b bs w) (hb:Below w.heap.size w w'):Lib.IsBuilderF T e B b bs w':=by
 have key:∀p,Lib.BuilderAtF T e B b p bs w→Lib.BuilderAtF T e B b p bs w':=λp h=>by
  obtain⟨h1,v,h2,h3,h4⟩:=h;exact⟨h1,v,(hb.block b (Array.getElem?_eq_some_iff.1 h2).1).trans h2,h3.kept (row:=none) ⟨hb.os,hb.tape,hb.output,hb.size,λk hk _=>hb.block k hk⟩ (by cases v.ownBlock<;>simp),h4⟩
 exact h.elim (λh=>.inl (key _ h)) (λh=>.inr (key _ h))
structure BldE (B b:Nat) (w0 w:World) (bs:List UInt8):Prop where
 at_:Lib.IsBuilderF 96 5 B b (Lib.byteCells bs) w
 low:Below B w0 w
 oth:Lib.OthersKept 5 (some b) w0 w
 le:B≤w.heap.size
theorem zkU {e:TypeId} {b:Option Nat} {w w':World} (hb:Below w.heap.size w w'):Lib.OthersKept e b w w':=λk _ h _ _=>(hb.block k (Array.getElem?_eq_some_iff.1 h).1).trans h
section
variable {B b:Nat} {w0 w w':World} {bs:List UInt8}
theorem BldE.below (h:BldE B b w0 w bs) (hb:Below w.heap.size w w'):BldE B b w0 w' bs:=
 ⟨ziO h.at_ hb,h.low.trans (hb.mono h.le),h.oth.trans (zkU hb),Nat.le_trans h.le hb.size⟩
theorem BldE.alloc (h:BldE B b w0 w bs) (o:Obj):BldE B b w0 (w.alloc o) bs:=h.below ((Below.refl _ _).alloc (Nat.le_refl _) o)
theorem BldE.self (h:BldE B b w0 w bs):BldE B b w w bs:=⟨h.at_,Below.refl _ _,Lib.OthersKept.refl _ _ _,h.le⟩
theorem BldE.trans {w1:World} {cs:List UInt8} (h:BldE B b w0 w bs) (k:BldE B b w w1 cs):BldE B b w0 w1 cs:=⟨k.at_,h.low.trans k.low,h.oth.trans k.oth,k.le⟩
theorem BldE.cells {g:Nat} {cs:Array Value} {e:TypeId} (h:BldE B b w0 w bs) (hg:zac w0 g cs e) (hne:g≠b) (he:e≠5):zac w g cs e:=
 h.oth g _ hg (λh=>hne (Option.some.inj h)) (λc fz h=>by injection h with _ h _;exact he h)
end
theorem BldE.new (w:World):BldE w.heap.size w.heap.size w (w.alloc (.cells #[.pointer none,.slice none 0 0] 96)) []:=
 ⟨.inl ⟨Nat.le_refl _,.slice none 0 0,heap_alloc_new w _,World.ownsRowF_nil _ _ _ _,by simp[Value.ownBlock]⟩,(Below.refl _ _).alloc (Nat.le_refl _) _,(Lib.OthersKept.refl _ _ _).alloc _,by simp⟩
def zns (B b:Nat) (w0:World) (bs:List UInt8) (s:ByteArray) (e:Ending) (w':World):Prop:=e=.returned (.tuple #[.int .i64 s.size,.nilIface])∧BldE B b w0 w' (bs++s.data.toList)
theorem zbX {B b:Nat} {w0 w:World} {bs:List UInt8} (h:BldE B b w0 w bs) (s:ByteArray) (hl:bs.length+s.size≤140737488355328) :
 Calls Tryz.prog 69 #[.pointer (some ⟨b,0,none⟩),.string s] w (zns B b w0 bs s):=by
 refine(Any.Builder_WriteString_k layB znE B b (Lib.byteCells bs) s w h.at_ (by rw[Lib.byteCells_length];exact hl) h.le).mono ?_;rintro e w' ⟨rfl,h1,h2,h3⟩;refine⟨rfl,.inr ?_,h.low.trans h2,h.oth.trans h3,Nat.le_trans h.le h2.size⟩;rw[show Lib.byteCells (bs++s.data.toList)=Lib.byteCells bs++Lib.strCells s by simp[Lib.byteCells,Lib.strCells]];exact h1
theorem zlH {B b:Nat} {w0 w:World} {bs:List UInt8} (h:BldE B b w0 w bs) :
 Calls Tryz.prog 46 #[.pointer (some ⟨b,0,none⟩)] w λe w'=>e=.returned (.string ⟨bs.toArray⟩)∧Below B w0 w':=by
 refine(Any.Builder_String_any_k layS zjj B b bs w h.at_ h.le).mono ?_;rintro e w' ⟨rfl,_,h2,_⟩;exact⟨rfl,h.low.trans h2⟩
theorem zou {B b:Nat} {w0 w:World} {bs:List UInt8} (h:BldE B b w0 w bs) (c:UInt8) (hl:bs.length+1≤140737488355328) :
 Calls Tryz.prog 70 #[.pointer (some ⟨b,0,none⟩),.int .u8 (c.toNat:Int)] w (λe w'=>e=.returned .nilIface∧BldE B b w0 w' (bs++[c])):=by
 refine(Any.Builder_WriteByte_k layW zjl B b (Lib.byteCells bs) (c.toNat:Int) w h.at_ (by rw[Lib.byteCells_length];exact hl) h.le).mono ?_;rintro e w' ⟨rfl,h1,h2,h3⟩;refine⟨rfl,.inr ?_,h.low.trans h2,h.oth.trans h3,Nat.le_trans h.le h2.size⟩;rw[show Lib.byteCells (bs++[c])=Lib.byteCells bs++[.int .u8 (c.toNat:Int)] by simp[Lib.byteCells]];exact h1
end Go.Proofs.YtjdpocmlimkjjaaGreat
