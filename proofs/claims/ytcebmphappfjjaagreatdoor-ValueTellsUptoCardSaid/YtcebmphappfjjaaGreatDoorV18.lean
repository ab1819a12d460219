/- Conditions: those in each statement. -/
import Derived.Test.YtcebmphappfjjaaGreatDoorV17
import Derived.Test.YtcebmphappfjjaaGreatDoorV16
import Derived.Test.YtcebmphappfjjaaGreatDoorV14
set_option maxHeartbeats 32000000
set_option maxRecDepth 100000
namespace Go.Proofs.YtcebmphappfjjaaGreatDoor
def basB (n:Nd):Bool:=decide (n.kind=12)&&decide (n.n=0)&&n.kids.isEmpty&&decide (zbW n.text≠0)
theorem zCf {n:Nd} (h:basB n=true):BasN n:=by
 simp only[basB,Bool.and_eq_true,decide_eq_true_eq] at h;exact⟨h.1.1.1,h.1.1.2,List.isEmpty_iff.1 h.1.2,h.2⟩
def sgB (l:List Nd):Bool:=l.all (λx=>decide (x.kind≠7\/0<x.kids.length)&&decide (x.kind≠9/\x.kind≠10/\x.kind≠13/\x.kind≠14/\x.kind≠15))
def dkB (k:Nd):Bool:=sgB k.kids&&(zca k).all basB&&(decide (k.kind=3)&&k.kids.all (λy=>y.kids.all basB) || decide (k.kind=5)&&(zaL k.kids).all (λx=>decide (0<x.kids.length)&&basB (kid0 x))&&decide ((zaL k.kids).length<k.kids.length)&&(k.kids[(zaL k.kids).length]?).all basB || decide (k.kind=6)&&k.kids.isEmpty&&decide (k.n=0))
theorem zui {k:Nd} (h:dkB k=true):zeE k.kids/\DkOk k:=by
 simp only[dkB,sgB,Bool.and_eq_true,Bool.or_eq_true,decide_eq_true_eq,List.all_eq_true] at h;obtain⟨⟨h1,h0⟩,h2⟩:=h;have hb:∀t∈zca k,BasN t:=λt ht=>zCf (h0 t ht);refine⟨⟨λx hx h=>?_,λx hx=>(h1 x hx).2⟩,?_⟩
 ·have:=(h1 x hx).1;omega
 ·rcases h2 with (h2|h2)|h2
  ·exact⟨λh=>by omega,λh=>by omega,λh=>by omega,hb,λ_ y hy z hz=>zCf (h2.2 y hy z hz),λh=>by omega,λh=>by omega⟩
  ·exact⟨λ_ x hx=>(h2.1.1.2 x hx).1,λ_=>h2.1.2,λh=>by omega,hb,λh=>by omega,λ_ f hf=>zCf (h2.1.1.2 f hf).2,λ_ z hz=>zCf (by have:=h2.2;rw[hz] at this;exact this)⟩
  ·exact⟨λh=>by omega,λh=>by omega,λ_=>⟨List.isEmpty_iff.1 h2.1.2,h2.2⟩,hb,λh=>by omega,λh=>by omega,λh=>by omega⟩
end Go.Proofs.YtcebmphappfjjaaGreatDoor
set_option maxHeartbeats 32000000
set_option maxRecDepth 100000
namespace Go.Proofs.YtcebmphappfjjaaGreatDoor
open Go.RowKit
def ziF (l:List Nd):Nat->D:=λ_=>ns l
theorem zuu:(Tryz.prog.info? 47).map (λi=>(i.zero,i.size,i.bytes))=some (some (.slice none 0 0),1,24):=by kernel_rfl
structure ClSt (P:Nat->Prop) (w W:World) (acc:List (List Nd)) (A:Option Addr) (c:Nat):Prop where
 low:Below w.heap.size w W
 own:OwnS (Sg P w.heap.size) 47 1 acc.length (zan ziF acc) W (.slice A acc.length c)
 big:∀q,(Value.slice A acc.length c).ownBlock=some q->w.heap.size<=q
section
variable {P:Nat->Prop} {w W W':World} {acc L:List (List Nd)} {A A':Option Addr} {c c':Nat}
theorem ClSt.below (h:ClSt P w W acc A c) (k:Below W.heap.size W W'):ClSt P w W' acc A c:=⟨zac h.low k h.low.size,h.own.below k,h.big⟩
theorem ClSt.grown (h:ClSt P w W acc A c) (hO:OwnS (Sg P w.heap.size) 47 1 L.length (zan ziF L) W' (.slice A' L.length c')) (hg:W.grownBy W' (Value.slice A acc.length c).ownBlock)
 (hb:∀q,(Value.slice A' L.length c').ownBlock=some q->(Value.slice A acc.length c).ownBlock=some q\/q=W.heap.size):ClSt P w W' L A' c':=
 ⟨h.low.trans ((Chg.of_grown (M:=λk=>w.heap.size<=k) hg (λk hk=>h.big k hk)).below h.low.size (λ_ hq=>hq)),hO,λq hq=>by
  rcases hb q hq with h1|h1
  ·exact h.big q h1
  ·rw[h1];exact h.low.size⟩
end
theorem zhb (P:Nat->Prop) (n:Nd) (hk2:n.kind≠2) (hs:zaB n.kids<=2097152) (A:Option Addr) (c:Nat) (w:World) (h:Rd (LtP P w.heap.size) w (ns n.kids) (.slice A n.kids.length c)) :
 Calls Tryz.prog 134 #[.agg #[↑n.kind,↑n.text,↑n.n,↑n.at',.slice A n.kids.length c]] w (λe w'=>Below w.heap.size w w'/\∃A' c',e=.returned (.slice A' (zbf n).length c')/\Rd (LtP (Sg P w.heap.size) w'.heap.size) w' (slG 1 ziF (zbf n)) (.slice A' (zbf n).length c')):=by
 have hl:=zaS h;have hc1:=hl.2.1;have hc2:=hl.2.2;have hn:n.kids.length<=2097152:=Nat.le_trans (zat _) hs;obtain⟨r,hr⟩:=zn (zbf n);rw[hr];unfold zbf at hr;obtain⟨w1,h1,b1,c1⟩:=zaj w #[↑n.kind,↑n.text,↑n.n,↑n.at',.slice A n.kids.length c] 49;obtain⟨x0,x1,x2,x3,x4⟩:=c1.c5;have HB1:=zz b1;have HR:=zz h;clear b1 c1 hl h
 by_cases h2:n.kind=2
 ·exact absurd h2 hk2
 ·rw[if_neg h2] at hr;have e2:(n.kind == 2)=false:=by rw[beq_eq_false_iff_ne];exact h2
  by_cases h3:n.kind=3
  ·rw[if_pos h3] at hr;have e3:(n.kind == 3)=true:=by rw[h3];rfl
   obtain⟨l,hl0⟩:=zn n.kids;rw[hl0] at hr HR x4 hc1 hn h1;have HA0:Hid ([]++(l.drop 0).map Nd.kids=r):=zz hr;have Z0:Hid (ClSt P w w1 [] none 0):=zz ⟨HB1.out,OwnS.nil _ _ _ _ _,λq hq=>by cases hq⟩;clear hr h2 h3 hs;go_in;rw[hl0];clear hl0;go_wp2;clear h1 x0 x1 x2 x3 x4
   go_loopw [18,3] (λs18 s3 wr=>∃(i:Nat) (acc:List (List Nd)) (A':Option Addr) (c':Nat),i<=l.length/\acc.length<=i/\s18=↑i/\s3=.slice A' acc.length c'/\Hid (acc++(l.drop i).map Nd.kids=r)/\Hid (ClSt P w wr acc A' c')) (λs18 _ _=>l.length-(intOf s18).toNat)
   case atStart=>exact⟨0,[],none,0,zo,by simp,rfl,rfl,HA0,Z0⟩
   case round=>
    clear HA0 Z0;obtain⟨i,acc,A1,c1,hi,hal,rfl,rfl,HA,HB⟩:=hrel
    by_cases hlt:i<l.length
    ·have hsw:=HB.out.low.size;obtain⟨b,off,y,e,hlb,hget,A',c',p0,p1,p2,p3,p4,r5⟩:=zbC (Rd.below (ok:=LtP P w.heap.size) HB.out.low (λ_ h=>h.2) HR.out) hlt;subst e;have q:=HA.out;rw[zal hget,List.map_cons] at q;have HQ:Hid ((acc++[y.kids])++(l.drop (i+1)).map Nd.kids=r):=zz (by rw[<-q];simp);have hin:(i:Int)<l.length:=zo
     obtain⟨w3,hw3,hb3,hx3⟩:=zaj wr #[↑y.kind,↑y.text,↑y.n,↑y.at',.slice A' y.kids.length c'] 49;have q4:=hx3.a 4 rfl;have ba:=zag w3 (.cells #[.slice A' y.kids.length c'] 47);have Z5:=zz ((HB.out.below hb3).below ba);have R5:=zz (Rd.below (ok:=LtP P w.heap.size) ba (λb hb=>Nat.lt_of_lt_of_le hb.2 (Nat.le_trans hsw hb3.size)) (Rd.below (ok:=LtP P w.heap.size) hb3 (λb hb=>Nat.lt_of_lt_of_le hb.2 hsw) r5));have sl5:=Z5.out.low.size;clear q r5 hb3 hx3 HA HB hget hlb ba;go_wp2_with (at_builtin;refine zaJ ziF zuu Tryz.underlying167 rfl zo zo rfl _ _ rfl (Sg P w.heap.size) (.inr Z5.out.low.size) (.slice A1 acc.length c1) acc rfl Z5.out.own ⟨w3.heap.size,0,none⟩ 1 y.kids [.slice A' y.kids.length c'] rfl rfl ?cx2 ?cx3 ?cx4 ?_)
     case cx2=>exact zaI _ rfl _ _
     case cx3=>
      intro j u hj;cases j with
      |zero=>
       simp at hj;rw[<-hj];exact zkz R5.out sl5 Z5.out.big
      |succ j=>simp at hj
     case cx4=>omega
     intro v' w8 hO hg hv8;replace hO:OwnS (Sg P w.heap.size) 47 1 (acc++[y.kids]).length (zan ziF (acc++[y.kids])) w8 v':=by rw[List.length_append];exact hO
     have hLl:(acc++[y.kids]).length=acc.length+1:=by simp
     obtain⟨L,hL⟩:=zn (acc++[y.kids]);have q:=HQ.out;rw[hL] at hO hLl q;have HQ2:=zz q;obtain⟨A8,c8,rfl,_⟩:=hO.owned0.rd.sl_inv;have Z8:=zz (Z5.out.grown hO hg (λq hq=>by rcases hv8 q hq with h|h;exact .inl h;exact .inr (by rw[h];simp)));have hL1:L.length<=acc.length+1:=zo
     clear hO hg hv8 hL hLl Z5 R5 q HQ q4;go_wp2;exact⟨⟨i+1,L,A8,c8,zo,zo,by go_num,rfl,HQ2,Z8⟩,by simp[intOf];omega⟩
    ·have HQ:Hid (acc=r):=zz (by
      have q:=HA.out;rw[List.drop_eq_nil_of_le zo] at q
      simpa using q)
     clear HA;go_wp2;go_ret;rw[<-HQ.out];exact⟨HB.out.low,A1,c1,rfl,HB.out.own.rd⟩
  ·rw[if_neg h3] at hr;have e3:(n.kind == 3)=false:=by rw[beq_eq_false_iff_ne];exact h3
   have HQ:=zz hr;clear hr h2 h3;go_in;go_wp2;go_ret;rw[<-HQ.out];exact⟨HB1.out,none,0,rfl,Rd.sl_nil⟩
end Go.Proofs.YtcebmphappfjjaaGreatDoor
set_option maxHeartbeats 32000000
set_option maxRecDepth 100000
namespace Go.Proofs.YtcebmphappfjjaaGreatDoor
open Go.RowKit Go.MapKept
theorem zjB (k:ByteArray):∀(l:List Nd) (i q:Nat),(∃j x,l.findIdx? (tyP k)=some j/\fnd k (typM l i) q=some (x,.int .i64 ((i+j:Nat):Int)))\/(l.findIdx? (tyP k)=none/\fnd k (typM l i) q=none)
 |[],i,q=>.inr ⟨rfl,rfl⟩
 |n::r,i,q=>by
  rw[typM,List.findIdx?_cons]
  by_cases h6:n.kind=2\/n.kind=3
  ·rw[if_pos h6,fnd]
   by_cases hk:k=n.text
   ·have hp:tyP k n=true:=decide_eq_true ⟨h6,hk.symm⟩;rw[if_pos hk,hp];exact .inl ⟨0,q,rfl,rfl⟩
   ·have hp:tyP k n=false:=decide_eq_false (λh=>hk h.2.symm);rw[if_neg hk,hp];rcases zjB k r (i+1) (q+1) with ⟨j,x,h1,h2⟩|⟨h1,h2⟩
    ·exact .inl ⟨j+1,x,by rw[h1];rfl,by rw[h2];congr 4;omega⟩
    ·exact .inr ⟨by rw[h1];rfl,h2⟩
  ·have hp:tyP k n=false:=decide_eq_false (λh=>h6 h.1);rw[if_neg h6,hp];rcases zjB k r (i+1) q with ⟨j,x,h1,h2⟩|⟨h1,h2⟩
   ·exact .inl ⟨j+1,x,by rw[h1];rfl,by rw[h2];congr 4;omega⟩
   ·exact .inr ⟨by rw[h1];rfl,h2⟩
theorem zrz (k:ByteArray) (l:List Nd):mget ↑() (typM l 0) k=.int .i64 (zeA l k:Int):=by
 unfold mget zeA;rcases zjB k l 0 0 with ⟨j,x,h1,h2⟩|⟨h1,h2⟩
 ·rw[h1,h2];simp
 ·rw[h1,h2];rfl
theorem zmG {l:List Nd} (k:ByteArray) (h:0<l.length):zeA l k<l.length:=by
 unfold zeA;cases hf:l.findIdx? (tyP k) with
 |none=>exact h
 |some j=>exact(List.findIdx?_eq_some_iff_findIdx_eq.1 hf).1
def WOk (n b m:Nat) (L:List (List Nat)):Prop:=L.length=n/\∀r∈L,r.length<=b/\∀c∈r,c<m
theorem WOk.mono {n b b' m m':Nat} {L:List (List Nat)} (h:WOk n b m L) (hb:b<=b') (hm:m<=m'):WOk n b' m' L:=⟨h.1,λr hr=>⟨Nat.le_trans (h.2 r hr).1 hb,λc hc=>Nat.lt_of_lt_of_le ((h.2 r hr).2 c hc) hm⟩⟩
theorem WOk.get {n b m i:Nat} {L:List (List Nat)} (h:WOk n b m L) (hi:i<n):(L.getD i []).length<=b/\∀c∈L.getD i [],c<m:=by
 have hl:i<L.length:=by rw[h.1];exact hi
 have:L.getD i []=L[i]:=by simp[List.getD,List.getElem?_eq_getElem hl]
 rw[this];exact h.2 _ (List.getElem_mem hl)
structure LqOk (n b:Nat) (s:Lq):Prop where
 fl:s.fin.length=n
 wt:WOk n b s.needs.length s.wait
 ow:∀d∈s.needs,d.1<n
 rd:∀i∈s.ready,i<n
 ct:s.fin.count false+s.ready.length<=n
 nl:s.needs.length<=b
theorem LqOk.mono {n b b':Nat} {s:Lq} (h:LqOk n b s) (hb:b<=b'):LqOk n b' s:=⟨h.fl,h.wt.mono hb (Nat.le_refl _),h.ow,h.rd,h.ct,Nat.le_trans h.nl hb⟩
theorem zjw {s:Lq} {i:Nat} (hi:i<s.fin.length):(zaV s i).fin.count false+(zaV s i).ready.length=s.fin.count false+s.ready.length:=by
 unfold zaV
 split
 ·rfl
 ·rename_i h;have hg:s.fin.getD i false=s.fin[i]:=by simp[List.getD,List.getElem?_eq_getElem hi]
  rw[hg] at h;have hg2:s.fin[i]=false:=by simpa using h
  show (s.fin.set i true).count false+(s.ready++[i]).length=_
  rw[List.count_set hi,hg2];have hm:false∈s.fin:=by rw[<-hg2];exact List.getElem_mem hi
  have:=List.count_pos_iff.2 hm;simp;omega
theorem zda (s:Lq) (i:Nat):(zaV s i).needs=s.needs:=by unfold zaV;split<;>rfl
theorem zhJ (s:Lq) (i:Nat):(zaV s i).wait=s.wait:=by unfold zaV;split<;>rfl
theorem zom (s:Lq) (i:Nat):(zaV s i).fin.length=s.fin.length:=by unfold zaV;split<;>simp
theorem LqOk.settle {n b i:Nat} {s:Lq} (h:LqOk n b s) (hi:i<n):LqOk n b (zaV s i):=by
 refine⟨by rw[zom];exact h.fl,by rw[zda,zhJ];exact h.wt,by rw[zda];exact h.ow,?_,by rw[zjw (by rw[h.fl];exact hi)];exact h.ct,by rw[zda];exact h.nl⟩;unfold zaV
 split
 ·exact h.rd
 ·intro j hj;have hj:j∈s.ready++[i]:=hj;rcases List.mem_append.1 hj with h1|h1
  ·exact h.rd j h1
  ·rw[List.mem_singleton.1 h1];exact hi
theorem WOk.arg {l:List Nd} {n b m k:Nat} {L:List (List Nat)} {x:Int} {t:Nd} (h:WOk n b m L) (hk:k<m) (hn:l.length=n) (h0:0<n):WOk n (b+1) m (argQ l k (L,x) t).1:=by
 unfold argQ
 split
 ·have hp:=zmG (l:=l) t.text zo;refine⟨by simpa using h.1,λr hr=>?_⟩;rcases List.mem_or_eq_of_mem_set hr with h2|h2
  ·exact(h.mono (Nat.le_succ b) (Nat.le_refl m)).2 r h2
  ·have:=h.get (i:=zeA l t.text) zo;rw[h2];refine⟨by rw[List.length_append];exact Nat.succ_le_succ this.1,λc hc=>?_⟩;rcases List.mem_append.1 hc with h3|h3
   ·exact this.2 c h3
   ·rw[List.mem_singleton.1 h3];exact hk
 ·exact h.mono (Nat.le_succ b) (Nat.le_refl m)
theorem WOk.args {l:List Nd} {n m k:Nat} (hk:k<m) (hn:l.length=n) (h0:0<n):∀(ts:List Nd) {b:Nat} {L:List (List Nat)} {x:Int},WOk n b m L->WOk n (b+ts.length) m (ts.foldl (argQ l k) (L,x)).1
 |[],_,_,_,h=>h
 |t::r,b,L,x,h=>by
  have h1:=h.arg (x:=x) (t:=t) hk hn h0;have:=WOk.args hk hn h0 r (x:=(argQ l k (L,x) t).2) h1;rw[List.length_cons,show b+(r.length+1)=b+1+r.length by omega];exact this
theorem LqOk.ctor {l:List Nd} {n b i:Nat} {s:Lq} {c:List Nd} (h:LqOk n b s) (hn:l.length=n) (hi:i<n):LqOk n (b+(1+c.length)) (zkp l i s c):=by
 have h0:0<n:=Nat.lt_of_le_of_lt (Nat.zero_le _) hi;have hw:=WOk.args (l:=l) (k:=s.needs.length) (m:=s.needs.length+1) (Nat.lt_succ_self _) hn h0 c (x:=0) (h.wt.mono (Nat.le_refl _) (Nat.le_succ _))
 have h1:LqOk n (b+(1+c.length)) {s with wait:=(c.foldl (argQ l s.needs.length) (s.wait,0)).1,needs:=s.needs++[(i,(c.foldl (argQ l s.needs.length) (s.wait,0)).2)] }:=by
  refine⟨h.fl,(by show WOk n _ (s.needs++[_]).length _;rw[List.length_append];exact hw.mono (Nat.add_le_add_left (Nat.le_add_left _ _) _) (Nat.le_refl _)),λd hd=>?_,h.rd,h.ct,?_⟩
  ·rcases List.mem_append.1 hd with h2|h2
   ·exact h.ow d h2
   ·rw[List.mem_singleton.1 h2];exact hi
  ·have:=h.nl
   show (s.needs++[_]).length<=_
   simp;omega
 unfold zkp
 show LqOk n _ (if _ then zaV _ _ else _)
 split
 ·exact h1.settle hi
 ·exact h1
def zkA (cs:List (List Nd)):Nat:=(cs.map (λc=>1+c.length)).sum
theorem zqU (n:Nd):n.kids.length<n.size:=by
 have:=zat n.kids;cases n with
 |mk k t n a l=>rw[zbT];have:l.length<=zaB l:=this;show l.length<_;omega
theorem ztK (n:Nd):(zca n).length<=zaB n.kids:=by
 unfold zca;generalize n.kids=l
 induction l with
 |nil=>exact Nat.zero_le _
 |cons k r ih=>
  rw[List.flatMap_cons,List.length_append,show zaB (k::r)=k.size+zaB r from rfl];have h1:=zqU k;have h2:(zaL k.kids).length<=k.kids.length:=by unfold zaL;exact(List.takeWhile_sublist _).length_le
  have:(if k.kind=7 then [kid0 k] else if k.kind=8 then k.kids else if k.kind=9 then [kid0 k] else if k.kind=10 then (zaL k.kids).map kid0 else if k.kind=12\/k.kind=13\/k.kind=14\/k.kind=15 then [k] else []).length<=k.size:=by
   repeat' split
   all_goals (first|omega|(simp;done)|(simp;omega))
  omega
theorem ztq (n:Nd):zkA (zbf n)<=n.size:=by
 unfold zbf zkA;have hz:n.size=1+zaB n.kids:=by cases n;rw[zbT];rfl
 split
 ·have:=ztK n;simp;omega
 ·split
  ·rw[hz];generalize n.kids=l
   have:∀l:List Nd,((l.map Nd.kids).map (λc=>1+c.length)).sum<=zaB l:=by
    intro l
    induction l with
    |nil=>exact Nat.le_refl _
    |cons k r ih=>
     rw[show zaB (k::r)=k.size+zaB r from rfl];have:=zqU k;simp only[List.map_cons,List.sum_cons];omega
   have:=this l;omega
  ·simp
def rowI (x:Nat):Nat->D:=λ_=>.num .i64 (x:Int)
def zoi (d:Nat × Int):Nat->D
 |0=>.num .i64 (d.1:Int)
 |_=>.num .i64 d.2
theorem zsG:(Tryz.prog.info? 3).map (λi=>(i.zero,i.size,i.bytes))=some (some ↑(),1,8):=by kernel_rfl
theorem zsU:(Tryz.prog.info? 170).map (λi=>(i.zero,i.size,i.bytes))=some (some (.agg #[↑(),↑()]),2,16):=by kernel_rfl
abbrev LB (B:Nat) (lb:Nat->Nat) (i b:Nat):Prop:=B+5<=b/\lb b=i
def Oth (B:Nat) (lb:Nat->Nat) (b:Nat):Prop:=b<B\/(B+5<=b/\lb b=2)
def Mv (B:Nat) (lb:Nat->Nat) (b:Nat):Prop:=B<=b/\(b<B+5\/¬lb b=2)
theorem zqH {B b:Nat} {lb:Nat->Nat} (h:Oth B lb b):¬Mv B lb b:=λm=>by
 unfold Oth at h;unfold Mv at m;rcases h with h|h<;>omega
theorem ztL {B b i:Nat} {lb:Nat->Nat} (h:LB B lb i b) (hi:i≠2):Mv B lb b:=by
 unfold LB at h;unfold Mv;exact⟨zo,.inr zo⟩
def zeB (l:List Bool):Array Value:=(l.map Value.bool).toArray
section
variable {S:Nat->Prop} {e:TypeId} {k n:Nat} {f:Nat->Nat->D} {w:World} {v:Value}
theorem OwnS.left {A:Option Addr} {c m:Nat} (h:OwnS S e k n f w (.slice A n c)) (hm:m<=n) (h0:A=none->m=0):OwnS S e k m f w (.slice A m c):=by
 rcases h with ⟨h1,h2⟩|⟨g,c',h1,h2,h3,h4,h5,h6⟩
 ·injection h1 with e1 e2 e3;subst e1 e3;obtain rfl:=h0 rfl;exact .inl ⟨rfl,rfl⟩
 ·injection h1 with e1 e2 e3;subst e1 e3;exact .inr ⟨g,c,rfl,h2,zo,h4,h5,λa ha=>h6 a zo⟩
theorem OwnS.alike {f':Nat->Nat->D} (h:OwnS S e k n f w v) (hf:∀a,a<n->f' a=f a):OwnS S e k n f' w v:=by
 rcases h with h|⟨g,c,h1,h2,h3,h4,h5,h6⟩
 ·exact .inl h
 ·exact .inr ⟨g,c,h1,h2,h3,h4,h5,λa ha=>by rw[hf a ha];exact h6 a ha⟩
theorem OwnS.set1 {f':Nat->Nat->D} {g c i j:Nat} {u:Value} (h:OwnS S e k n f w (.slice (some ⟨g,0,none⟩) n c)) (hi:i<n) (hj:j<k) (hf:∀a b,a<n->b<k->¬(a=i/\b=j)->f' a b=f a b)
 (hu:∀(W:World),Rd (λb=>(S b/\b<W.heap.size)/\b≠g) W (f' i j) u):OwnS S e k n f' (w.setCell ⟨g,i*k+j,none⟩ u) (.slice (some ⟨g,0,none⟩) n c):=by
 rcases h with ⟨h1,h2⟩|⟨g',c',h1,h2,h3,h4,h5,h6⟩
 ·cases h1
 injection h1 with e1 e2 e3;injection e1 with e1;injection e1 with e1;subst e1 e3;have hc:Chg (λq=>q=g) w (w.setCell ⟨g,i*k+j,none⟩ u):=(Chg.refl (λq=>q=g) w).setCell (p:=⟨g,i*k+j,none⟩) (.inl rfl) u;obtain⟨cs,h5a,h5b⟩:=h5;have h5c:zab w g cs e:=h5a;have hset:=h5c.set (i*k+j) u;refine .inr ⟨g,c,rfl,h2,h3,h4,⟨_,hset,by simpa using h5b⟩,λa ha b hb=>?_⟩;obtain⟨x,hx,hd⟩:=h6 a ha b hb
 by_cases hab:a=i/\b=j
 ·obtain⟨rfl,rfl⟩:=hab
  have hlt:a*k+b<cs.size:=by
   have h7:=h5c.cell (a*k+b);rw[hx] at h7;exact(Array.getElem?_eq_some_iff.1 h7.symm).1
  refine⟨u,?_,hu _⟩;rw[hset.cell];simp[hlt]
 ·refine⟨x,?_,?_⟩
  ·rw[hset.cell,<-hx,h5c.cell]
   have:¬i*k+j=a*k+b:=λe=>by
    rcases Nat.lt_trichotomy a i with h7|h7|h7
    ·have:=Nat.mul_le_mul_right k h7;rw[Nat.succ_mul] at this;omega
    ·subst h7;exact hab ⟨rfl,zo⟩
    ·have:=Nat.mul_le_mul_right k h7;rw[Nat.succ_mul] at this;omega
   rw[Array.getElem?_setIfInBounds_ne this]
  ·rw[hf a b ha hb hab];exact(hc.rd (λq hq=>⟨hq.1.2,hq.2⟩) hd).weaken (λq hq=>⟨⟨hq.1.1,Nat.lt_of_lt_of_le hq.1.2 hc.size⟩,hq.2⟩)
end
structure WtAt (W:World) (B:Nat) (lb:Nat->Nat) (L:List (List Nat)) (vs:List Value):Prop where
 box:zab W (B+3) vs.toArray 107
 len:vs.length=L.length
 row:∀j r,L[j]?=some r->∃A c,vs[j]?=some (.slice A r.length c)/\OwnS (LB B lb (3+j)) 3 1 r.length (zan rowI r) W (.slice A r.length c)
theorem WtAt.chg {W W':World} {B:Nat} {lb:Nat->Nat} {L:List (List Nat)} {vs:List Value} {M:Nat->Prop} (h:WtAt W B lb L vs) (hc:Chg M W W') (h3:¬M (B+3)) (hm:∀q i,M q->q<W.heap.size->3<=i->¬LB B lb i q):WtAt W' B lb L vs:=
 ⟨h.box.keep hc h3,h.len,λj r hj=>by
  obtain⟨A,c,h1,h2⟩:=h.row j r hj;exact⟨A,c,h1,h2.chg hc (λq hq hl=>hm q (3+j) hq hl zo)⟩⟩
structure LpSt (w W:World) (lb:Nat->Nat) (s:Lq) (An:Option Addr) (cn:Nat) (Ar:Option Addr) (cr:Nat) (vs:List Value):Prop where
 low:Below w.heap.size w W
 res:zab W w.heap.size #[.int .i64 0,.int .i64 0] 117
 fin:zab W (w.heap.size+1) (zeB s.fin) 4
 fbx:zab W (w.heap.size+2) #[.slice (some ⟨w.heap.size+1,0,none⟩) s.fin.length s.fin.length] 163
 wt:WtAt W w.heap.size lb s.wait vs
 rbx:zab W (w.heap.size+4) #[.slice Ar s.ready.length cr] 107
 o0:OwnS (LB w.heap.size lb 0) 170 2 s.needs.length (zan zoi s.needs) W (.slice An s.needs.length cn)
 o1:OwnS (LB w.heap.size lb 1) 3 1 s.ready.length (zan rowI s.ready) W (.slice Ar s.ready.length cr)
section
variable {w W W':World} {lb lb':Nat->Nat} {s:Lq} {An Ar A':Option Addr} {cn cr c':Nat} {vs:List Value}
theorem LpSt.out (h:LpSt w W lb s An cn Ar cr vs) {M:Nat->Prop} (hc:Chg M W W') (hm:∀q,M q->w.heap.size+5<=q/\(q<W.heap.size->lb q=2)):LpSt w W' lb s An cn Ar cr vs:=by
 have hs:∀i,i<5->¬M (w.heap.size+i):=λi hi hq=>by have:=(hm _ hq).1;omega
 have hl:∀i,i≠2->∀q,M q->q<W.heap.size->¬LB w.heap.size lb i q:=λi hi q hq hlt hb=>by have:=(hm q hq).2 hlt;have:=hb.2;omega
 exact⟨h.low.trans (hc.below h.low.size (λq hq=>by have:=(hm q hq).1;omega)),h.res.keep hc (hs 0 zo),h.fin.keep hc (hs 1 zo),h.fbx.keep hc (hs 2 zo),h.wt.chg hc (hs 3 zo) (λq i hq hlt hi=>hl i zo q hq hlt),h.rbx.keep hc (hs 4 zo),h.o0.chg hc (hl 0 zo),h.o1.chg hc (hl 1 zo)⟩
theorem LpSt.below (h:LpSt w W lb s An cn Ar cr vs) (k:Below W.heap.size W W'):LpSt w W' lb s An cn Ar cr vs:=h.out (Chg.of_below (M:=λ_=>False) k) (λ_ hq=>hq.elim)
theorem LpSt.relab (h:LpSt w W lb s An cn Ar cr vs) (hl:∀q,q<W.heap.size->lb' q=lb q):LpSt w W lb' s An cn Ar cr vs:=by
 have hs:∀i b,b<W.heap.size->LB w.heap.size lb i b->LB w.heap.size lb' i b:=λi b hb hq=>⟨hq.1,by rw[hl b hb];exact hq.2⟩
 exact⟨h.low,h.res,h.fin,h.fbx,⟨h.wt.box,h.wt.len,λj r hj=>by
  obtain⟨A,c,h1,h2⟩:=h.wt.row j r hj;exact⟨A,c,h1,h2.sub (hs _)⟩⟩,h.rbx,h.o0.sub (hs _),h.o1.sub (hs _)⟩
theorem zcW {d:D} {v:Value} {n:Nat} (h:Rd (LtP (Oth w.heap.size lb) n) W d v) (hn:n<=W.heap.size) (hl:∀q,q<W.heap.size->lb' q=lb q):Rd (LtP (Oth w.heap.size lb') n) W d v:=
 h.weaken (λq hq=>⟨hq.1.elim .inl (λx=>.inr ⟨x.1,by rw[hl q (by have:=hq.2;omega)];exact x.2⟩),hq.2⟩)
theorem zhL {d:D} {v:Value} {n:Nat} (h:Rd (LtP (Oth w.heap.size lb) n) W d v) (hn:n<=W.heap.size) (hc:Chg (Mv w.heap.size lb) W W'):Rd (LtP (Oth w.heap.size lb) n) W' d v:=
 hc.rd (λ_ hb=>⟨Nat.lt_of_lt_of_le hb.2 hn,zqH hb.1⟩) h
theorem zdA {d:D} {v:Value} {n:Nat} (h:Rd (LtP (Oth w.heap.size lb) n) W d v) (hn:n<=W.heap.size) (hc:Below W.heap.size W W'):Rd (LtP (Oth w.heap.size lb) n) W' d v:=zhL h hn (Chg.of_below hc)
theorem LpSt.finSet (h:LpSt w W lb s An cn Ar cr vs) (i:Nat):LpSt w (W.setCell ⟨w.heap.size+1,i,none⟩ (.bool true)) lb {s with fin:=s.fin.set i true} An cn Ar cr vs:=by
 have hc:Chg (λq=>q=w.heap.size+1) W (W.setCell ⟨w.heap.size+1,i,none⟩ (.bool true)):=(Chg.refl (λq=>q=w.heap.size+1) W).setCell (p:=⟨w.heap.size+1,i,none⟩) (.inl rfl) _;have hl:∀i q,q=w.heap.size+1->q<W.heap.size->¬LB w.heap.size lb i q:=λi q hq _ hb=>by have:=hb.1;omega
 have hf:=h.fin.set i (.bool true);refine⟨h.low.trans (hc.below h.low.size (λq hq=>by omega)),h.res.keep hc zo,?_,?_,h.wt.chg hc zo (λq i hq hlt _=>hl i q hq hlt),h.rbx.keep hc zo,h.o0.chg hc (hl 0),h.o1.chg hc (hl 1)⟩
 ·have e:zeB (s.fin.set i true)=(zeB s.fin).setIfInBounds i (.bool true):=by
   unfold zeB;apply Array.toList_inj.1;simp[List.map_set]
  rw[e];exact hf
 ·have:=h.fbx.keep hc zo
  simpa using this
theorem LpSt.grownR {L:List Nat} (h:LpSt w W lb s An cn Ar cr vs) (hO:OwnS (LB w.heap.size lb 1) 3 1 L.length (zan rowI L) W' (.slice A' L.length c')) (hg:W.grownBy W' (Value.slice Ar s.ready.length cr).ownBlock) :
 LpSt w (W'.setCell ⟨w.heap.size+4,0,none⟩ (.slice A' L.length c')) lb {s with ready:=L} An cn A' c' vs:=by
 have hch:Chg (LB w.heap.size lb 1) W W':=Chg.of_grown hg (λq hq=>(h.o1.below_own q hq).1);have hc2:Chg (λq=>q=w.heap.size+4) W' (W'.setCell ⟨w.heap.size+4,0,none⟩ (.slice A' L.length c')):=(Chg.refl (λq=>q=w.heap.size+4) W').setCell (p:=⟨w.heap.size+4,0,none⟩) (.inl rfl) _;have hl:∀i,i≠1->∀q,LB w.heap.size lb 1 q->q<W.heap.size->¬LB w.heap.size lb i q:=λi hi q hq _ hb=>by have:=hq.2;have:=hb.2;omega
 have hl2:∀i,∀q,q=w.heap.size+4->q<W'.heap.size->¬LB w.heap.size lb i q:=λi q hq _ hb=>by have:=hb.1;omega
 have hs:∀i,i<5->¬LB w.heap.size lb 1 (w.heap.size+i):=λi hi hq=>by have:=hq.1;omega
 have hlow:=h.low.trans (hch.below h.low.size (λq hq=>by have:=hq.1;omega));refine⟨hlow.trans (hc2.below hlow.size (λq hq=>by omega)),(h.res.keep hch (hs 0 zo)).keep hc2 zo,(h.fin.keep hch (hs 1 zo)).keep hc2 zo,(h.fbx.keep hch (hs 2 zo)).keep hc2 zo,(h.wt.chg hch (hs 3 zo) (λq i hq hlt hi=>hl i zo q hq hlt)).chg hc2 zo (λq i hq hlt _=>hl2 i q hq hlt),?_,(h.o0.chg hch (hl 0 zo)).chg hc2 (hl2 0),hO.chg hc2 (hl2 1)⟩;have:=(h.rbx.keep hch (hs 4 zo)).set 0 (.slice A' L.length c')
 simpa using this
theorem LpSt.take (h:LpSt w W lb s An cn Ar cr vs) (h0:0<s.ready.length):LpSt w (W.setCell ⟨w.heap.size+4,0,none⟩ (.slice Ar (s.ready.length-1) cr)) lb {s with ready:=s.ready.dropLast} An cn Ar cr vs:=by
 have hc2:Chg (λq=>q=w.heap.size+4) W (W.setCell ⟨w.heap.size+4,0,none⟩ (.slice Ar (s.ready.length-1) cr)):=(Chg.refl (λq=>q=w.heap.size+4) W).setCell (p:=⟨w.heap.size+4,0,none⟩) (.inl rfl) _;have hl2:∀i,∀q,q=w.heap.size+4->q<W.heap.size->¬LB w.heap.size lb i q:=λi q hq _ hb=>by have:=hb.1;omega
 have hlen:s.ready.dropLast.length=s.ready.length-1:=List.length_dropLast;refine⟨h.low.trans (hc2.below h.low.size (λq hq=>by omega)),h.res.keep hc2 zo,h.fin.keep hc2 zo,h.fbx.keep hc2 zo,h.wt.chg hc2 zo (λq i hq hlt _=>hl2 i q hq hlt),?_,h.o0.chg hc2 (hl2 0),?_⟩
 ·have:=h.rbx.set 0 (.slice Ar (s.ready.length-1) cr)
  show zab _ _ #[.slice Ar s.ready.dropLast.length cr] _
  rw[hlen]
  simpa using this
 ·show OwnS _ _ 1 s.ready.dropLast.length (zan rowI s.ready.dropLast) _ (.slice Ar s.ready.dropLast.length cr)
  have h1:=(h.o1.chg hc2 (hl2 1)).left (m:=s.ready.length-1) zo (λe=>by
   rcases h.o1 with ⟨_,h2⟩|⟨g,c,h2,_⟩
   ·omega
   ·rw[e] at h2;injection h2 with h2;cases h2)
  rw[hlen];refine h1.alike (λa ha=>?_);have hx:s.ready[a]?=some (s.ready[a]'(zo)):=List.getElem?_eq_getElem zo;rw[zas hx,zas (l:=s.ready.dropLast) (i:=a) (by rw[List.getElem?_dropLast,if_pos zo];exact hx)]
theorem LpSt.grownN {L:List (Nat × Int)} (h:LpSt w W lb s An cn Ar cr vs) (hO:OwnS (LB w.heap.size lb 0) 170 2 L.length (zan zoi L) W' (.slice A' L.length c')) (hg:W.grownBy W' (Value.slice An s.needs.length cn).ownBlock) :
 LpSt w W' lb {s with needs:=L} A' c' Ar cr vs:=by
 have hch:Chg (LB w.heap.size lb 0) W W':=Chg.of_grown hg (λq hq=>(h.o0.below_own q hq).1);have hl:∀i,i≠0->∀q,LB w.heap.size lb 0 q->q<W.heap.size->¬LB w.heap.size lb i q:=λi hi q hq _ hb=>by have:=hq.2;have:=hb.2;omega
 have hs:∀i,i<5->¬LB w.heap.size lb 0 (w.heap.size+i):=λi hi hq=>by have:=hq.1;omega
 exact⟨h.low.trans (hch.below h.low.size (λq hq=>by have:=hq.1;omega)),h.res.keep hch (hs 0 zo),h.fin.keep hch (hs 1 zo),h.fbx.keep hch (hs 2 zo),h.wt.chg hch (hs 3 zo) (λq i hq hlt hi=>hl i zo q hq hlt),h.rbx.keep hch (hs 4 zo),hO,h.o1.chg hch (hl 1 zo)⟩
end
end Go.Proofs.YtcebmphappfjjaaGreatDoor
