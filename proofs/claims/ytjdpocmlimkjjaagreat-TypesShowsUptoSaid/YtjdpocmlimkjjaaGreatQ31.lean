/- Conditions: those in each statement. -/
import Derived.Test.YtjdpocmlimkjjaaGreatQ30
import Derived.Test.YtjdpocmlimkjjaaGreatQ19
import Derived.Test.YtjdpocmlimkjjaaGreatQ16
import Derived.Test.YtjdpocmlimkjjaaGreatQ13
set_option maxHeartbeats 32000000
set_option maxRecDepth 100000
namespace Go.Proofs.YtjdpocmlimkjjaaGreat
theorem zoM {f:Nat} {x:Nd} (h:zad f .field x=true):x.kind=7∧0<x.kids.length:=by
 obtain⟨h1,t,h2,_⟩:=zeT h;exact⟨h1,by rw[h2];exact Nat.one_pos⟩
theorem zeD {f:Nat} {l:List Nd} (h:l.all (zad f .field)=true):zhV l:=λx hx=>(zoM (List.all_eq_true.1 h x hx)).2
theorem zor {f:Nat} {n:Nd} (h:zad f .expr n=true):20≤n.kind:=by
 cases f with
 |zero=>cases h
 |succ f=>
  have h:zdz (zad f) n=true:=h;unfold zdz at h;rcases Int.lt_or_le n.kind 20 with hk|hk
  ·repeat rw[if_neg (by omega)] at h
   cases h
  ·exact hk
theorem znN {f:Nat} {n:Nd} (h:zad f .block n=true):n.kind=11:=by
 cases f with
 |zero=>cases h
 |succ f=>
  have h:zgn (zad f) n=true:=h;unfold zgn at h;simp only[Bool.and_eq_true,decide_eq_true_eq] at h;exact h.1.1
theorem zoA {f:Nat} {n:Nd} (h:zhI f n=true):n.kind=8:=by
 unfold zhI at h;simp only[Bool.and_eq_true,decide_eq_true_eq] at h;exact h.1.1.2
theorem zpX {f:Nat} {t:Nd} (h:zad f .type t=true):t.kind≠7:=by
 have:=zdQ h;omega
theorem zds {f:Nat} {n:Nd} (h:zcn f n=true):(n.kind=9∧0<n.kids.length∧(zaL n.kids).length<n.kids.length)∨(n.kind=10∧zhV (zaL n.kids)):=by
 unfold zcn at h;simp only[Bool.and_eq_true,decide_eq_true_eq] at h;obtain⟨_,h⟩:=h
 split at h
 ·rename_i h9;simp only[Bool.and_eq_true] at h;obtain⟨a,b,e,ha,hb⟩:=zgg h.2;refine .inl ⟨h9,by rw[e];simp,?_⟩;rw[e,show zaL [a,b]=[] by unfold zaL;rw[List.takeWhile_cons,decide_eq_false (zpX ha)];rfl];simp
 ·simp only[Bool.and_eq_true,decide_eq_true_eq] at h;obtain⟨fs,t,e,hfs,ht⟩:=zgt h.2;refine .inr ⟨h.1.1,?_⟩;rw[e,zel fs t [] (zcy hfs) (by rw[znN ht];decide)];exact zeD hfs
theorem zrB {k:Nd} (hd:zcN k=true):zfn k.kids∧DkOk k:=by
 unfold zcN at hd
 split at hd
 ·rename_i hk;rw[Bool.and_eq_true] at hd;have h7:=zcy hd.2;have hkd:=zeD hd.2;have hl:=zmU k.kids h7;exact⟨⟨λx hx _=>hkd x hx,λx hx h=>absurd (h7 x hx) (by omega),λx hx h=>absurd (h7 x hx) (by omega)⟩,⟨λ_=>by rw[hl];exact hkd,λh=>by omega,λh=>by omega⟩⟩
 split at hd
 ·rename_i _ hk;simp only[Bool.and_eq_true] at hd;have h8:∀x∈k.kids,x.kind=8:=λx hx=>zoA (List.all_eq_true.1 hd.2 x hx);exact⟨⟨λx hx h=>absurd (h8 x hx) (by omega),λx hx h=>absurd (h8 x hx) (by omega),λx hx h=>absurd (h8 x hx) (by omega)⟩,⟨λh=>by omega,λh=>by omega,λh=>by omega⟩⟩
 split at hd
 ·rename_i _ _ hk;rw[Bool.and_eq_true] at hd;obtain⟨fs,t,e,hfs,ht⟩:=zgt hd.2;have h7:=zcy hfs;have hkd:=zeD hfs;have htk:=zdQ ht;have hl:=zel fs t [] h7 (by omega);rw[e]
  have hm:∀x∈fs++[t],(x.kind=7∧0<x.kids.length)∨12≤x.kind:=λx hx=>by
   rcases List.mem_append.1 hx with h|h
   ·exact .inl ⟨h7 x h,hkd x h⟩
   ·rw[List.mem_singleton.1 h];exact .inr (by omega)
  refine⟨⟨λx hx h=>?_,λx hx h=>?_,λx hx h=>?_⟩,⟨λ_=>?_,λ_=>?_,λh=>by omega⟩⟩
  ·rcases hm x hx with h1|h1
   ·exact h1.2
   ·omega
  ·rcases hm x hx with h1|h1<;>omega
  ·rcases hm x hx with h1|h1<;>omega
  ·rw[e,hl];exact hkd
  ·rw[e,hl];simp
 split at hd
 ·rename_i _ _ _ hk;rw[Bool.and_eq_true] at hd;obtain⟨fs,t,u,e,hfs,ht,hu⟩:=zkS hd.2;have h7:=zcy hfs;have hkd:=zeD hfs;have htk:=zdQ ht;have huk:=zor hu;have hl:=zel fs t [u] h7 (by omega);rw[e]
  have hm:∀x∈fs++[t,u],(x.kind=7∧0<x.kids.length)∨12≤x.kind:=λx hx=>by
   rcases List.mem_append.1 hx with h|h
   ·exact .inl ⟨h7 x h,hkd x h⟩
   ·simp at h;rcases h with h|h
    ·rw[h];exact .inr (by omega)
    ·rw[h];exact .inr (by omega)
  refine⟨⟨λx hx h=>?_,λx hx h=>?_,λx hx h=>?_⟩,⟨λ_=>?_,λ_=>?_,λh=>by omega⟩⟩
  ·rcases hm x hx with h1|h1
   ·exact h1.2
   ·omega
  ·rcases hm x hx with h1|h1<;>omega
  ·rcases hm x hx with h1|h1<;>omega
  ·rw[e,hl];exact hkd
  ·rw[e,hl];simp
 split at hd
 ·rename_i _ _ _ _ hk;simp only[Bool.and_eq_true,decide_eq_true_eq] at hd;obtain⟨⟨⟨⟨_,_⟩,hn⟩,hf⟩,hm⟩:=hd
  have hft:k.kids.take (zbR k.kids)=zaL k.kids:=by
   have h1:zaL k.kids <+: k.kids:=List.takeWhile_prefix _;exact(List.prefix_iff_eq_take.1 h1).symm
  rw[hft] at hf;have hkd:=zeD hf
  have hsp:∀x∈k.kids,(x∈zaL k.kids)∨zcn 39 x=true:=λx hx=>by
   rw[←List.take_append_drop (zbR k.kids) k.kids,hft] at hx;rcases List.mem_append.1 hx with h|h
   ·exact .inl h
   ·exact .inr (List.all_eq_true.1 hm x h)
  have hld:∀x∈zaL k.kids,x.kind=7:=λx hx=>(zes _ _ hx).1;refine⟨⟨λx hx h=>?_,λx hx h=>?_,λx hx h=>?_⟩,⟨λh=>by omega,λh=>by omega,λ_=>⟨⟨hkd,λx hx h=>?_,λx hx h=>?_⟩,hn⟩⟩⟩
  ·rcases hsp x hx with h1|h1
   ·exact hkd x h1
   ·rcases zds h1 with h2|h2<;>omega
  ·rcases hsp x hx with h1|h1
   ·have:=hld x h1;omega
   ·rcases zds h1 with h2|h2
    ·exact h2.2.1
    ·omega
  ·rcases hsp x hx with h1|h1
   ·have:=hld x h1;omega
   ·rcases zds h1 with h2|h2
    ·omega
    ·exact h2.2
  ·rcases hsp x hx with h1|h1
   ·have:=hld x h1;omega
   ·rcases zds h1 with h2|h2
    ·exact h2.2.2
    ·omega
  ·rcases hsp x hx with h1|h1
   ·have:=hld x h1;omega
   ·rcases zds h1 with h2|h2
    ·omega
    ·exact h2.2
 ·cases hd
end Go.Proofs.YtjdpocmlimkjjaaGreat
set_option maxHeartbeats 32000000
set_option maxRecDepth 100000
namespace Go.Proofs.YtjdpocmlimkjjaaGreat
open Go.RowKit
def ziP (l:List Nd):Nat→D:=λ_=>ns l
theorem zrI:(Tryz.prog.info? 23).map (λi=>(i.zero,i.size,i.bytes))=some (some (.slice none 0 0),1,24):=by kernel_rfl
structure ClSt (P:Nat→Prop) (w W:World) (acc:List (List Nd)) (A:Option Addr) (c:Nat):Prop where
 low:Below w.heap.size w W
 own:OwnS (Sg P w.heap.size) 23 1 acc.length (zap ziP acc) W (.slice A acc.length c)
 big:∀q,(Value.slice A acc.length c).ownBlock=some q→w.heap.size≤q
section
variable {P:Nat→Prop} {w W W':World} {acc L:List (List Nd)} {A A':Option Addr} {c c':Nat}
theorem ClSt.below (h:ClSt P w W acc A c) (k:Below W.heap.size W W'):ClSt P w W' acc A c:=⟨zab h.low k h.low.size,h.own.below k,h.big⟩
theorem ClSt.grown (h:ClSt P w W acc A c) (hO:OwnS (Sg P w.heap.size) 23 1 L.length (zap ziP L) W' (.slice A' L.length c')) (hg:W.grownBy W' (Value.slice A acc.length c).ownBlock)
 (hb:∀q,(Value.slice A' L.length c').ownBlock=some q→(Value.slice A acc.length c).ownBlock=some q∨q=W.heap.size):ClSt P w W' L A' c':=
 ⟨h.low.trans ((Chg.of_grown (M:=λk=>w.heap.size≤k) hg (λk hk=>h.big k hk)).below h.low.size (λ_ hq=>hq)),hO,λq hq=>by
  rcases hb q hq with h1|h1
  ·exact h.big q h1
  ·rw[h1];exact h.low.size⟩
end
theorem zhE (P:Nat→Prop) (n:Nd) (hk:zfn n.kids) (hs:zaq n.kids≤2097152) (A:Option Addr) (c:Nat) (w:World) (h:Rd (LtP P w.heap.size) w (ns n.kids) (.slice A n.kids.length c)) :
 Calls Tryz.prog 63 #[.agg #[.int .i64 n.kind,.string n.text,.int .i64 n.n,.int .i64 n.at',.slice A n.kids.length c]] w (λe w'=>Below w.heap.size w w'∧∃A' c',e=.returned (.slice A' (zbw n).length c')∧Rd (LtP (Sg P w.heap.size) w'.heap.size) w' (slG 1 ziP (zbw n)) (.slice A' (zbw n).length c')):=by
 have hS:=λ(W:World) (hb:Below w.heap.size w W)=>zhw P n hk hs A c W ((Rd.below (ok:=LtP P w.heap.size) hb (λ_ h=>h.2) h).weaken (λ_ x=>⟨x.1,Nat.lt_of_lt_of_le x.2 hb.size⟩));have hl:=zaD h;have hc1:=hl.2.1;have hc2:=hl.2.2;have hn:n.kids.length≤2097152:=Nat.le_trans (zaB _) hs;obtain⟨r,hr⟩:∃r,zbw n=r:=⟨_,rfl⟩;rw[hr];unfold zbw at hr;obtain⟨w1,h1,b1,c1⟩:=zai w #[.int .i64 n.kind,.string n.text,.int .i64 n.n,.int .i64 n.at',.slice A n.kids.length c] 25;obtain⟨x0,x1,x2,x3,x4⟩:=c1.c5;have KS:=zz (hS w1 b1);have HB1:=zz b1;have HR:=zz h;clear b1 c1 hl h hS hk
 by_cases h2:n.kind=2
 ·rw[if_pos h2] at hr;have e2:(n.kind == 2)=true:=by rw[h2];rfl
  have HQ:=zz hr;clear hr h2;go_enter Tryz.func63,Tryz.ntmps63;go_wp2_with fail;(with_reducible refine KS.out.mono ?_);rintro e w2 ⟨hb2,A2,c2,rfl,hr2⟩;have HB2:=zz (zab HB1.out hb2 HB1.out.size);have ba:=zag w2 (.cells #[.slice A2 (zbo n).length c2] 23);have HB3:=zz (zab HB2.out ba HB2.out.size);have hr3:Rd (LtP (Sg P w.heap.size) (w2.alloc (.cells #[.slice A2 (zbo n).length c2] 23)).heap.size) _ _ _:=(Rd.below (ok:=LtP (Sg P w1.heap.size) w2.heap.size) ba (λ_ h=>h.2) hr2).weaken (λb hb=>⟨hb.1.elim .inl (λh=>.inr (Nat.le_trans HB1.out.size h)),Nat.lt_of_lt_of_le hb.2 ba.size⟩);have hcl:=zbQ w2 #[.slice A2 (zbo n).length c2] 23 0
  have HRF:Hid (Rd (LtP (Sg P w.heap.size) (w2.alloc (.cells #[.slice A2 (zbo n).length c2] 23)).heap.size) (w2.alloc (.cells #[.slice A2 (zbo n).length c2] 23)) (slG 1 ziP [zbo n]) (.slice (some ⟨w2.heap.size,0,none⟩) 1 1)):=zz
   (Rd.sl_mk (by simp) (by omega) (λ_=>⟨w2.heap.size,0,rfl,⟨.inr HB2.out.size,by simp⟩,λi hi j hj=>by
    obtain rfl:i=0:=by simpa using hi
    obtain rfl:j=0:=by omega
    exact⟨_,hcl,hr3⟩⟩))
  clear hb2 hr2 hr3 ba hcl x0 x1 x2 x3 x4 h1;go_wp2_with fail;go_ret;refine⟨HB3.out,?_⟩;rw[←HQ.out];exact⟨_,1,rfl,HRF.out⟩
 ·rw[if_neg h2] at hr;have e2:(n.kind == 2)=false:=by rw[beq_eq_false_iff_ne];exact h2
  by_cases h3:n.kind=3
  ·rw[if_pos h3] at hr;have e3:(n.kind == 3)=true:=by rw[h3];rfl
   obtain⟨l,hl0⟩:∃l,n.kids=l:=⟨_,rfl⟩;rw[hl0] at hr HR x4 hc1 hn h1;have HA0:Hid ([]++(l.drop 0).map Nd.kids=r):=zz hr;have Z0:Hid (ClSt P w w1 [] none 0):=zz ⟨HB1.out,OwnS.nil _ _ _ _ _,λq hq=>by cases hq⟩;clear hr h2 h3 hs;go_enter Tryz.func63,Tryz.ntmps63;rw[hl0];clear hl0;go_wp2_with fail;clear h1 x0 x1 x2 x3 x4
   go_loopw [18,3] (λs18 s3 wr=>∃(i:Nat) (acc:List (List Nd)) (A':Option Addr) (c':Nat),i≤l.length∧acc.length≤i∧s18=.int .i64 i∧s3=.slice A' acc.length c'∧Hid (acc++(l.drop i).map Nd.kids=r)∧Hid (ClSt P w wr acc A' c')) (λs18 _ _=>l.length-(intOf s18).toNat)
   case atStart=>exact⟨0,[],none,0,by omega,by simp,rfl,rfl,HA0,Z0⟩
   case round=>
    clear HA0 Z0;obtain⟨i,acc,A1,c1,hi,hal,rfl,rfl,HA,HB⟩:=hrel
    by_cases hlt:i<l.length
    ·have hsw:=HB.out.low.size;obtain⟨b,off,y,e,hlb,hget,A',c',p0,p1,p2,p3,p4,r5⟩:=zbN (Rd.below (ok:=LtP P w.heap.size) HB.out.low (λ_ h=>h.2) HR.out) hlt;subst e;have q:=HA.out;rw[zak hget,List.map_cons] at q;have HQ:Hid ((acc++[y.kids])++(l.drop (i+1)).map Nd.kids=r):=zz (by rw[←q];simp);have hin:(i:Int)<l.length:=by omega
     obtain⟨w3,hw3,hb3,hx3⟩:=zai wr #[.int .i64 y.kind,.string y.text,.int .i64 y.n,.int .i64 y.at',.slice A' y.kids.length c'] 25;have q4:w3.cell? ⟨wr.heap.size,4,none⟩=some (.slice A' y.kids.length c'):=hx3.cell 4;have ba:=zag w3 (.cells #[.slice A' y.kids.length c'] 23);have Z5:=zz ((HB.out.below hb3).below ba);have R5:=zz (Rd.below (ok:=LtP P w.heap.size) ba (λb hb=>Nat.lt_of_lt_of_le hb.2 (Nat.le_trans hsw hb3.size)) (Rd.below (ok:=LtP P w.heap.size) hb3 (λb hb=>Nat.lt_of_lt_of_le hb.2 hsw) r5));have sl5:=Z5.out.low.size;clear q r5 hb3 hx3 HA HB hget hlb ba;go_wp2_with (at_builtin;refine zaV ziP zrI Tryz.underlying122 rfl (by omega) (by omega) rfl _ _ rfl (Sg P w.heap.size) (.inr Z5.out.low.size) (.slice A1 acc.length c1) acc rfl Z5.out.own ⟨w3.heap.size,0,none⟩ 1 y.kids [.slice A' y.kids.length c'] rfl rfl ?cx2 ?cx3 ?cx4 ?_)
     case cx2=>exact zaU _ rfl _ _
     case cx3=>
      intro j u hj;cases j with
      |zero=>
       simp at hj;rw[←hj];exact zkn R5.out sl5 Z5.out.big
      |succ j=>simp at hj
     case cx4=>omega
     intro v' w8 hO hg hv8;replace hO:OwnS (Sg P w.heap.size) 23 1 (acc++[y.kids]).length (zap ziP (acc++[y.kids])) w8 v':=by rw[List.length_append];exact hO
     have hLl:(acc++[y.kids]).length=acc.length+1:=by simp
     obtain⟨L,hL⟩:∃L,acc++[y.kids]=L:=⟨_,rfl⟩;have q:=HQ.out;rw[hL] at hO hLl q;have HQ2:=zz q;obtain⟨A8,c8,rfl,_⟩:=hO.owned0.rd.sl_inv;have Z8:=zz (Z5.out.grown hO hg (λq hq=>by rcases hv8 q hq with h|h;exact .inl h;exact .inr (by rw[h];simp)));have hL1:L.length≤acc.length+1:=by omega
     clear hO hg hv8 hL hLl Z5 R5 q HQ q4;go_wp2_with fail;exact⟨⟨i+1,L,A8,c8,by omega,by omega,by go_num,rfl,HQ2,Z8⟩,by simp[intOf];omega⟩
    ·have HQ:Hid (acc=r):=zz (by
      have q:=HA.out;rw[List.drop_eq_nil_of_le (by omega)] at q
      simpa using q)
     clear HA;go_wp2_with fail;go_ret;rw[←HQ.out];exact⟨HB.out.low,A1,c1,rfl,HB.out.own.rd⟩
  ·rw[if_neg h3] at hr;have e3:(n.kind == 3)=false:=by rw[beq_eq_false_iff_ne];exact h3
   have HQ:=zz hr;clear hr h2 h3;go_enter Tryz.func63,Tryz.ntmps63;go_wp2_with fail;go_ret;rw[←HQ.out];exact⟨HB1.out,none,0,rfl,Rd.sl_nil⟩
end Go.Proofs.YtjdpocmlimkjjaaGreat
set_option maxHeartbeats 32000000
set_option maxRecDepth 100000
namespace Go.Proofs.YtjdpocmlimkjjaaGreat
open Go.RowKit Go.MapKept
theorem zjU (k:ByteArray):∀(l:List Nd) (i q:Nat),(∃j x,l.findIdx? (tyP k)=some j∧fnd k (typM l i) q=some (x,.int .i64 ((i+j:Nat):Int)))∨(l.findIdx? (tyP k)=none∧fnd k (typM l i) q=none)
 |[],i,q=>.inr ⟨rfl,rfl⟩
 |n::r,i,q=>by
  rw[typM,List.findIdx?_cons]
  by_cases h6:n.kind=2∨n.kind=3
  ·rw[if_pos h6,fnd]
   by_cases hk:k=n.text
   ·have hp:tyP k n=true:=decide_eq_true ⟨h6,hk.symm⟩;rw[if_pos hk,hp];exact .inl ⟨0,q,rfl,rfl⟩
   ·have hp:tyP k n=false:=decide_eq_false (λh=>hk h.2.symm);rw[if_neg hk,hp];rcases zjU k r (i+1) (q+1) with ⟨j,x,h1,h2⟩|⟨h1,h2⟩
    ·exact .inl ⟨j+1,x,by rw[h1];rfl,by rw[h2];congr 4;omega⟩
    ·exact .inr ⟨by rw[h1];rfl,h2⟩
  ·have hp:tyP k n=false:=decide_eq_false (λh=>h6 h.1);rw[if_neg h6,hp];rcases zjU k r (i+1) q with ⟨j,x,h1,h2⟩|⟨h1,h2⟩
   ·exact .inl ⟨j+1,x,by rw[h1];rfl,by rw[h2];congr 4;omega⟩
   ·exact .inr ⟨by rw[h1];rfl,h2⟩
theorem zqj (k:ByteArray) (l:List Nd):mget (.int .i64 0) (typM l 0) k=.int .i64 (zff l k:Int):=by
 unfold mget zff;rcases zjU k l 0 0 with ⟨j,x,h1,h2⟩|⟨h1,h2⟩
 ·rw[h1,h2];simp
 ·rw[h1,h2];rfl
theorem zmt {l:List Nd} (k:ByteArray) (h:0<l.length):zff l k<l.length:=by
 unfold zff;cases hf:l.findIdx? (tyP k) with
 |none=>exact h
 |some j=>exact(List.findIdx?_eq_some_iff_findIdx_eq.1 hf).1
def WOk (n b m:Nat) (L:List (List Nat)):Prop:=L.length=n∧∀r∈L,r.length≤b∧∀c∈r,c<m
theorem WOk.mono {n b b' m m':Nat} {L:List (List Nat)} (h:WOk n b m L) (hb:b≤b') (hm:m≤m'):WOk n b' m' L:=⟨h.1,λr hr=>⟨Nat.le_trans (h.2 r hr).1 hb,λc hc=>Nat.lt_of_lt_of_le ((h.2 r hr).2 c hc) hm⟩⟩
theorem WOk.get {n b m i:Nat} {L:List (List Nat)} (h:WOk n b m L) (hi:i<n):(L.getD i []).length≤b∧∀c∈L.getD i [],c<m:=by
 have hl:i<L.length:=by rw[h.1];exact hi
 have:L.getD i []=L[i]:=by simp[List.getD,List.getElem?_eq_getElem hl]
 rw[this];exact h.2 _ (List.getElem_mem hl)
structure LqOk (n b:Nat) (s:Lq):Prop where
 fl:s.fin.length=n
 wt:WOk n b s.needs.length s.wait
 ow:∀d∈s.needs,d.1<n
 rd:∀i∈s.ready,i<n
 ct:s.fin.count false+s.ready.length≤n
 nl:s.needs.length≤b
theorem LqOk.mono {n b b':Nat} {s:Lq} (h:LqOk n b s) (hb:b≤b'):LqOk n b' s:=⟨h.fl,h.wt.mono hb (Nat.le_refl _),h.ow,h.rd,h.ct,Nat.le_trans h.nl hb⟩
theorem zje {s:Lq} {i:Nat} (hi:i<s.fin.length):(zbg s i).fin.count false+(zbg s i).ready.length=s.fin.count false+s.ready.length:=by
 unfold zbg
 split
 ·rfl
 ·rename_i h;have hg:s.fin.getD i false=s.fin[i]:=by simp[List.getD,List.getElem?_eq_getElem hi]
  rw[hg] at h;have hg2:s.fin[i]=false:=by simpa using h
  show (s.fin.set i true).count false+(s.ready++[i]).length=_
  rw[List.count_set hi,hg2];have hm:false∈s.fin:=by rw[←hg2];exact List.getElem_mem hi
  have:=List.count_pos_iff.2 hm;simp;omega
theorem zdt (s:Lq) (i:Nat):(zbg s i).needs=s.needs:=by unfold zbg;split<;>rfl
theorem zip (s:Lq) (i:Nat):(zbg s i).wait=s.wait:=by unfold zbg;split<;>rfl
theorem znD (s:Lq) (i:Nat):(zbg s i).fin.length=s.fin.length:=by unfold zbg;split<;>simp
theorem LqOk.settle {n b i:Nat} {s:Lq} (h:LqOk n b s) (hi:i<n):LqOk n b (zbg s i):=by
 refine⟨by rw[znD];exact h.fl,by rw[zdt,zip];exact h.wt,by rw[zdt];exact h.ow,?_,by rw[zje (by rw[h.fl];exact hi)];exact h.ct,by rw[zdt];exact h.nl⟩;unfold zbg
 split
 ·exact h.rd
 ·intro j hj;have hj:j∈s.ready++[i]:=hj;rcases List.mem_append.1 hj with h1|h1
  ·exact h.rd j h1
  ·rw[List.mem_singleton.1 h1];exact hi
theorem LqOk.hit {n b c:Nat} {s:Lq} (h:LqOk n b s) (hc:c<s.needs.length):LqOk n b (hitQ s c):=by
 have hg:s.needs.getD c (0,0)=s.needs[c]:=by simp[List.getD,List.getElem?_eq_getElem hc]
 have ho:(s.needs.getD c (0,0)).1<n:=by rw[hg];exact h.ow _ (List.getElem_mem hc)
 have h1:LqOk n b {s with needs:=s.needs.set c ((s.needs.getD c (0,0)).1,IntKind.i64.wrap ((s.needs.getD c (0,0)).2-1)) }:=by
  refine⟨h.fl,by simpa using h.wt,λd hd=>?_,h.rd,h.ct,by simpa using h.nl⟩;rcases List.mem_or_eq_of_mem_set hd with h2|h2
  ·exact h.ow d h2
  ·rw[h2];exact ho
 unfold hitQ
 show LqOk n b (if _ then zbg _ _ else _)
 split
 ·exact h1.settle ho
 ·exact h1
theorem zof (s:Lq) (c:Nat):(hitQ s c).needs.length=s.needs.length:=by
 unfold hitQ
 show (if _ then zbg _ _ else _:Lq).needs.length=_
 split
 ·rw[zdt];simp
 ·simp
theorem zqs (s:Lq) (c:Nat):(hitQ s c).wait=s.wait:=by
 unfold hitQ
 show (if _ then zbg _ _ else _:Lq).wait=_
 split
 ·rw[zip]
 ·rfl
theorem zru {n b c:Nat} {s:Lq} (h:LqOk n b s) (hc:c<s.needs.length):(hitQ s c).fin.count false+(hitQ s c).ready.length=s.fin.count false+s.ready.length:=by
 have hg:s.needs.getD c (0,0)=s.needs[c]:=by simp[List.getD,List.getElem?_eq_getElem hc]
 have ho:(s.needs.getD c (0,0)).1<n:=by rw[hg];exact h.ow _ (List.getElem_mem hc)
 unfold hitQ
 show (if _ then zbg _ _ else _:Lq).fin.count false+(if _ then zbg _ _ else _:Lq).ready.length=_
 split
 ·rw[zje (by show _<s.fin.length;rw[h.fl];exact ho)]
 ·rfl
theorem WOk.arg {l:List Nd} {n b m k:Nat} {L:List (List Nat)} {x:Int} {t:Nd} (h:WOk n b m L) (hk:k<m) (hn:l.length=n) (h0:0<n):WOk n (b+1) m (argQ l k (L,x) t).1:=by
 unfold argQ
 split
 ·have hp:=zmt (l:=l) t.text (by omega);refine⟨by simpa using h.1,λr hr=>?_⟩;rcases List.mem_or_eq_of_mem_set hr with h2|h2
  ·exact(h.mono (Nat.le_succ b) (Nat.le_refl m)).2 r h2
  ·have:=h.get (i:=zff l t.text) (by omega);rw[h2];refine⟨by rw[List.length_append];exact Nat.succ_le_succ this.1,λc hc=>?_⟩;rcases List.mem_append.1 hc with h3|h3
   ·exact this.2 c h3
   ·rw[List.mem_singleton.1 h3];exact hk
 ·exact h.mono (Nat.le_succ b) (Nat.le_refl m)
theorem WOk.args {l:List Nd} {n m k:Nat} (hk:k<m) (hn:l.length=n) (h0:0<n):∀(ts:List Nd) {b:Nat} {L:List (List Nat)} {x:Int},WOk n b m L→WOk n (b+ts.length) m (ts.foldl (argQ l k) (L,x)).1
 |[],_,_,_,h=>h
 |t::r,b,L,x,h=>by
  have h1:=h.arg (x:=x) (t:=t) hk hn h0;have:=WOk.args hk hn h0 r (x:=(argQ l k (L,x) t).2) h1;rw[List.length_cons,show b+(r.length+1)=b+1+r.length by omega];exact this
theorem LqOk.ctor {l:List Nd} {n b i:Nat} {s:Lq} {c:List Nd} (h:LqOk n b s) (hn:l.length=n) (hi:i<n):LqOk n (b+(1+c.length)) (zkX l i s c):=by
 have h0:0<n:=Nat.lt_of_le_of_lt (Nat.zero_le _) hi;have hw:=WOk.args (l:=l) (k:=s.needs.length) (m:=s.needs.length+1) (Nat.lt_succ_self _) hn h0 c (x:=0) (h.wt.mono (Nat.le_refl _) (Nat.le_succ _))
 have h1:LqOk n (b+(1+c.length)) {s with wait:=(c.foldl (argQ l s.needs.length) (s.wait,0)).1,needs:=s.needs++[(i,(c.foldl (argQ l s.needs.length) (s.wait,0)).2)] }:=by
  refine⟨h.fl,(by show WOk n _ (s.needs++[_]).length _;rw[List.length_append];exact hw.mono (Nat.add_le_add_left (Nat.le_add_left _ _) _) (Nat.le_refl _)),λd hd=>?_,h.rd,h.ct,?_⟩
  ·rcases List.mem_append.1 hd with h2|h2
   ·exact h.ow d h2
   ·rw[List.mem_singleton.1 h2];exact hi
  ·have:=h.nl
   show (s.needs++[_]).length≤_
   simp;omega
 unfold zkX
 show LqOk n _ (if _ then zbg _ _ else _)
 split
 ·exact h1.settle hi
 ·exact h1
def zlp (cs:List (List Nd)):Nat:=(cs.map (λc=>1+c.length)).sum
theorem zpp (n:Nd):n.kids.length<n.size:=by
 have:=zaB n.kids;cases n with
 |mk k t n a l=>rw[zaE];have:l.length≤zaq l:=this;show l.length<_;omega
theorem zqT (n:Nd):(zbo n).length≤zaq n.kids:=by
 unfold zbo;generalize n.kids=l
 induction l with
 |nil=>exact Nat.zero_le _
 |cons k r ih=>
  rw[List.flatMap_cons,List.length_append,show zaq (k::r)=k.size+zaq r from rfl];have h1:=zpp k;have h2:(zaL k.kids).length≤k.kids.length:=by unfold zaL;exact(List.takeWhile_sublist _).length_le
  have:(if k.kind=7 then [kid0 k] else if k.kind=8 then k.kids else if k.kind=9 then [kid0 k] else if k.kind=10 then (zaL k.kids).map kid0 else if k.kind=12∨k.kind=13∨k.kind=14∨k.kind=15 then [k] else []).length≤k.size:=by
   repeat' split
   all_goals (first|omega|(simp;done)|(simp;omega))
  omega
theorem zqQ (n:Nd):zlp (zbw n)≤n.size:=by
 unfold zbw zlp;have hz:n.size=1+zaq n.kids:=by cases n;rw[zaE];rfl
 split
 ·have:=zqT n;simp;omega
 ·split
  ·rw[hz];generalize n.kids=l
   have:∀l:List Nd,((l.map Nd.kids).map (λc=>1+c.length)).sum≤zaq l:=by
    intro l
    induction l with
    |nil=>exact Nat.le_refl _
    |cons k r ih=>
     rw[show zaq (k::r)=k.size+zaq r from rfl];have:=zpp k;simp only[List.map_cons,List.sum_cons];omega
   have:=this l;omega
  ·simp
end Go.Proofs.YtjdpocmlimkjjaaGreat
