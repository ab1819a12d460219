/- Conditions: those in each statement. -/
import Derived.Test.YtcebmphappfjjaaGreatDoorV02
import Derived.Test.YtcebmphappfjjaaGreatDoorV00
import Derived.Test.YtcebmphappfjjaaGreatDoorV01
set_option maxHeartbeats 32000000
set_option maxRecDepth 100000
namespace Go.Proofs.YtcebmphappfjjaaGreatDoor
open Go.RowKit
theorem zfo {s l:ByteArray} (h:¬s=l):(s.toList == l.toList)=false:=by
 rw[beq_eq_false_iff_ne];exact λe=>h (zbX e)
theorem PsAt.more {G:PG} {st:Ps} (hw:zao G.T st≠⟨#[]⟩):st.next+1<=G.T.length:=by
 rcases Nat.lt_or_ge st.next G.T.length with hl|hl
 ·exact hl
 ·exact absurd (by unfold zao;rw[List.getElem?_eq_none hl]) hw
theorem zeQ (G:PG) (b:Nat) (st:Ps) (l:ByteArray) (w:World) (h:PsAt G b w st) (hl:¬zao G.T st=l):Calls Tryz.prog 211 #[.pointer (some ⟨b,0,none⟩),↑l] w λe w'=>e=.returned (.bool false)/\Below w.heap.size w w':=by
 have HW:=zz (zhm G b st w h);have hne:=zfo hl;generalize zao G.T st=s at *
 clear h hl;go_in;go_wp2_with fail;refine zi HW ?_;rintro e w1 ⟨rfl,hb⟩;have HB:=zz hb;clear hb;go_wp2;go_ret;exact⟨rfl,HB.out⟩
theorem zcT {b:Nat} {w w1:World} (h:Below w.heap.size w w1) (j:Nat) (v:Value):Own1 b w (w1.setCell ⟨b,j,none⟩ v):=
 ((Chg.refl (λk=>k=b) w).thenBelow h).setCell (p:=⟨b,j,none⟩) (.inl rfl) v
theorem zfq (G:PG) (b:Nat) (st:Ps) (l:ByteArray) (w:World) (h:PsAt G b w st) (hl:zao G.T st=l) (hn:l≠⟨#[]⟩):Calls Tryz.prog 211 #[.pointer (some ⟨b,0,none⟩),↑l] w λe w'=>e=.returned (.bool true)/\Own1 b w w'/\PsAt G b w' st.adv:=by
 have HW:=zz (zhm G b st w h);have hmore:=PsAt.more (by rw[hl];exact hn);have hlen:=h.len;rw[hl] at HW;have HP:=zz h;have hw1:IntKind.i64.wrap ((st.next:Int)+1)=((st.next+1:Nat):Int):=by rw[IntWalk.i64_in _ zo];omega
 clear h hl;go_in;go_wp2_with fail;refine zi HW ?_;rintro e w1 ⟨rfl,hb⟩;have HB:=zz hb;have HQ:=zz (HP.out.below hb);have c1:=HQ.out.c1;have z1:=HQ.out.fz 1;clear hb;go_wp2;go_ret;exact⟨rfl,zcT HB.out 1 _,HQ.out.set1 hmore⟩
theorem zhc (G:PG) (b:Nat) (st:Ps) (w:World) (h:PsAt G b w st):Calls Tryz.prog 227 #[.pointer (some ⟨b,0,none⟩)] w λe w'=>e=zcJ (zaC G.T G.en st)/\Below w.heap.size w w':=by
 have HW:=zz (zju G b st w h);generalize zaC G.T G.en st=a at *
 clear h;go_in;go_wp2_with fail;refine zi HW ?_;rintro e w1 ⟨rfl,hb⟩;have HB:=zz hb;clear hb;go_wp2;exact⟨rfl,rfl,HB.out⟩
theorem zjT:(Tryz.prog.info? 49).map (·.size)=some 5:=by kernel_rfl
theorem zrB (k:Int) (t:ByteArray) (n a:Int) (A:Option Addr) (m c:Nat) (w:World):Calls Tryz.prog 169 #[↑k,↑t,↑n,↑a,.slice A m c] w λe w'=>e=.returned (.agg #[↑k,↑t,↑n,↑a,.slice A m c])/\Below w.heap.size w w':=by
 go_in;go_wp2;exact bodyPost_ret (results_cell_row zr _ _ w.heap.size _ _ (0,0) _ rfl (heap_alloc_new w _) Tryz.underlying49 rfl zjT) rfl ⟨rfl,(Below.refl _ _).alloc (Nat.le_refl _) _⟩
theorem zaO {b:Nat} {w w1:World} (h:Below w.heap.size w w1):Own1 b w w1:=(Chg.refl (λk=>k=b) w).thenBelow h
theorem zgC (G:PG) (b:Nat) (st:Ps) (l:ByteArray) (w:World) (h:PsAt G b w st) (hn:l≠⟨#[]⟩):Calls Tryz.prog 213 #[.pointer (some ⟨b,0,none⟩),↑l] w (zaG G b zuj (zax G.T G.en l st) w):=by
 have HP:=zz h;unfold zax
 by_cases hl:zao G.T st=l
 ·have HA:=zz (zfq G b st l w h hl hn);rw[if_pos hl];clear h hl;go_in;go_wp2_with fail;refine zi HA ?_;rintro e w1 ⟨rfl,hc,hp⟩;have HC:=zz hc;have HQ:=zz hp;clear hc hp;go_wp2;exact bodyPost_end (v:=.tuple #[]) (by simp[results,Tryz.results213,go_sem]) rfl ⟨HC.out,HQ.out,rfl⟩
 ·have HA:=zz (zeQ G b st l w h hl);rw[if_neg hl];unfold zhu;clear h hl;go_in;go_wp2_with fail;refine zi HA ?_;rintro e w1 ⟨rfl,hb⟩;have HF:=zz (zhc G b st w1 (HP.out.below hb));have HB:=zz hb;clear hb;go_wp2_with fail;refine zi HF ?_;rintro e w2 ⟨he,hb⟩;have HB2:=zz (HB.out.trans (hb.mono HB.out.size));clear hb;unfold zcJ at he;subst he;go_wp2;exact⟨rfl,zaO HB2.out,rfl⟩
theorem zjL (G:PG) (b:Nat) (st:Ps) (K:Nat) (q:ByteArray->Bool) (hcf:∀(x:ByteArray) (W:World),(callFunc K #[↑x]).run Tryz.prog W=.ok (.enter K #[↑x]) W) (hq:∀(s:ByteArray) (w:World),s.size<=32768->Calls Tryz.prog K #[↑s] w λe w'=>e=.returned (.bool (q s))/\Below w.heap.size w w') (hn:q ⟨#[]⟩=false) (w:World) (h:PsAt G b w st):Calls Tryz.prog 212 #[.pointer (some ⟨b,0,none⟩),.func (.func K) #[] #[]] w (zaG G b QStr (zbw G.T G.en q st) w):=by
 have HP:=zz h;have HW:=zz (zhm G b st w h);have hs:=h.word;have HK:=zz (λw=>hq (zao G.T st) w hs);unfold zbw;cases hc:q (zao G.T st) with
 |true=>
  have hmore:=PsAt.more (G:=G) (st:=st) (λe=>by rw[e,hn] at hc;cases hc);have hlen:=h.len;have hw1:IntKind.i64.wrap ((st.next:Int)+1)=((st.next+1:Nat):Int):=by rw[IntWalk.i64_in _ zo];omega
  rw[if_pos rfl];rw[hc] at HK;generalize zao G.T st=s at *
  clear h hc hs hn hq;go_in;go_wp2_with fail;refine zi HW ?_;rintro e w1 ⟨rfl,hb⟩;have HB:=zz hb;clear hb;go_wp2_with fail;(with_reducible refine(HK.out _).mono ?_);rintro e w2 ⟨rfl,hb⟩;have HB2:=zz (HB.out.trans (hb.mono HB.out.size));have HQ:=zz (HP.out.below HB2.out);have c1:=HQ.out.c1;have z1:=HQ.out.fz 1;clear hb;go_wp2;go_ret;exact⟨zcT HB2.out 1 _,HQ.out.set1 hmore,rfl⟩
 |false=>
  rw[if_neg zs];unfold zhu;rw[hc] at HK;generalize zao G.T st=s at *
  clear h hc hs hn hq;go_in;go_wp2_with fail;refine zi HW ?_;rintro e w1 ⟨rfl,hb⟩;have HB:=zz hb;clear hb;go_wp2_with fail;(with_reducible refine(HK.out _).mono ?_);rintro e w2 ⟨rfl,hb⟩;have HB2:=zz (HB.out.trans (hb.mono HB.out.size));have HF:=zz (zhc G b st w2 (HP.out.below HB2.out));clear hb;go_wp2_with fail;refine zi HF ?_;rintro e w3 ⟨he,hb⟩;have HB3:=zz (HB2.out.trans (hb.mono HB2.out.size));clear hb;unfold zcJ at he;subst he;go_wp2;exact⟨rfl,zaO HB3.out,rfl⟩
theorem zms (G:PG) (b:Nat) (st:Ps) (w:World) (h:PsAt G b w st):Calls Tryz.prog 214 #[.pointer (some ⟨b,0,none⟩)] w (zaG G b QInt (zcb G.T G.en st) w):=by
 have HP:=zz h;have HK:=zz (zfl G b st w h)
 by_cases hk:(zcq G st).kind=2
 ·have hlt:st.next+1<=G.T.length:=by
   rcases Nat.lt_or_ge st.next G.T.length with hl|hl
   ·exact hl
   ·unfold zcq at hk;rw[List.getElem?_eq_none hl] at hk;cases hk
  have hlen:=h.len
  have hI:Hid (zcb G.T G.en st=.ok ((zcq G st).n,st.adv)):=zz (by
   unfold zcb;unfold zcq at hk ⊢;cases hx:G.T[st.next]? with
   |none=>rw[hx] at hk;cases hk
   |some t=>rw[hx] at hk;simp only at hk ⊢;rw[if_pos hk])
  generalize zcb G.T G.en st=r at *
  generalize zcq G st=t at *
  have k2:(t.kind != 2)=false:=by simp[hk]
  have hw1:IntKind.i64.wrap ((st.next:Int)+1)=((st.next+1:Nat):Int):=by rw[IntWalk.i64_in _ zo];omega
  clear h hk;go_in;go_wp2_with fail;refine zi HK ?_;rintro e w1 ⟨rfl,hb⟩;have HB:=zz hb;have HQ:=zz (HP.out.below hb);have c1:=HQ.out.c1;have z1:=HQ.out.fz 1;have hlb:=HQ.out.lt;have hne:¬b=w1.heap.size:=zo
  clear hb;go_wp2;go_ret;rw[hI.out];exact⟨Chg.alloc (zcT HB.out 1 _) _,(HQ.out.set1 hlt).below ((Below.refl _ _).alloc (Nat.le_refl _) _),rfl⟩
 ·have hI:Hid (zcb G.T G.en st=.error (zaC G.T G.en st)):=zz (by
   unfold zcb zaC;unfold zcq at hk;cases hx:G.T[st.next]? with
   |none=>rfl
   |some t=>rw[hx] at hk;simp only at hk ⊢;rw[if_neg hk])
  have k2:((zcq G st).kind != 2)=true:=by simpa using hk
  generalize zcb G.T G.en st=r at *
  generalize zcq G st=t at *
  clear h hk;go_in;go_wp2_with fail;refine zi HK ?_;rintro e w1 ⟨rfl,hb⟩;have HB:=zz hb;have HF:=zz (λo=>zhc G b st _ (HP.out.below (hb.alloc hb.size o)));clear hb;go_wp2_with fail;(with_reducible refine(HF.out _).mono ?_);rintro e w3 ⟨he,hb⟩;have HB3:=zz ((HB.out.alloc HB.out.size _).trans (hb.mono (by have:=HB.out.size;simp;omega)));clear hb;unfold zcJ at he;subst he;go_wp2;rw[hI.out];exact⟨rfl,zaO HB3.out,rfl⟩
end Go.Proofs.YtcebmphappfjjaaGreatDoor
set_option maxHeartbeats 32000000
set_option maxRecDepth 100000
namespace Go.Proofs.YtcebmphappfjjaaGreatDoor
def Adv {α:Type} (x:R α) (n:Nat):Prop:=∀a st',x=.ok (a,st')->n<=st'.next
section
variable {α β:Type}
theorem Adv.ok {a:α} {st:Ps} {n:Nat} (h:n<=st.next):Adv (.ok (a,st):R α) n:=λb st' e=>by
 injection e with e;injection e with e1 e2;subst e2;exact h
theorem Adv.err {c:Int} {n:Nat}:Adv (.error c:R α) n:=λb st' e=>by cases e
theorem Adv.next {x:R α} {f:α->Ps->R β} {n m:Nat} (h:Adv x m) (hf:∀a st,m<=st.next->Adv (f a st) n):Adv (R.next x f) n:=by
 intro a st' e;cases x with
 |error c=>cases e
 |ok p=>exact hf p.1 p.2 (h p.1 p.2 rfl) a st' e
theorem Adv.ite {c:Prop} [Decidable c] {x y:R α} {n:Nat} (h1:Adv x n) (h2:Adv y n):Adv (if c then x else y) n:=by split<;>assumption
theorem Adv.mono {x:R α} {n m:Nat} (h:Adv x m) (hn:n<=m):Adv x n:=λa st' e=>Nat.le_trans hn (h a st' e)
end
section
variable (T:List Tok) (en:Int)
theorem zbH (w:ByteArray) (st:Ps):Adv (zax T en w st) (st.next+1):=by
 unfold zax zhu
 split
 ·exact Adv.ok (Nat.le_refl _)
 ·exact Adv.err
theorem zdI (q:ByteArray->Bool) (st:Ps):Adv (zbw T en q st) (st.next+1):=by
 unfold zbw zhu
 split
 ·exact Adv.ok (Nat.le_refl _)
 ·exact Adv.err
theorem zci (st:Ps):Adv (zcb T en st) (st.next+1):=by
 unfold zcb
 split
 ·split
  ·exact Adv.ok (Nat.le_refl _)
  ·exact Adv.err
 ·exact Adv.err
theorem zjh {item:Ps->R Nd} (h:∀st,Adv (item st) (st.next+1)) (stop:ByteArray) (hd:Bool):∀(k:Nat) (acc:List Nd) (st:Ps),Adv (ziZ T en item stop hd k acc st) (st.next+1)
 |0,_,_=>Adv.err
 |k+1,acc,st=>by
  rw[ziZ]
  split
  ·refine Adv.next (h _) (λn st' hs=>(zjh h stop hd k _ st').mono ?_);simp only[Ps.adv] at hs;omega
  ·exact Adv.next (zbH T en _ _) (λ_ st' hs=>Adv.ok hs)
theorem zcg {item:Ps->R Nd} (h:∀st,Adv (item st) (st.next+1)) (stop:ByteArray) (k:Nat) (st:Ps):Adv (zdM T en item stop k st) (st.next+1):=
 Adv.next (h _) (λn st' hs=>(zjh T en h stop _ k _ st').mono (by simp only at hs;omega))
theorem zdm {item:Ps->R Nd} (h:∀st,Adv (item st) (st.next+1)) (stop:ByteArray) (k:Nat) (st:Ps):Adv (zia T en item stop k st) (st.next+1):=by
 unfold zia
 split
 ·exact Adv.ok (Nat.le_refl _)
 ·exact zcg T en h stop k st
theorem zdt {item:Ps->R Nd} (h:∀st,Adv (item st) (st.next+1)) (stop:ByteArray):∀(k:Nat) (acc:List Nd) (st:Ps),Adv (zdG T item stop k acc st) (st.next+1)
 |0,_,_=>Adv.err
 |k+1,acc,st=>by
  rw[zdG]
  split
  ·exact Adv.ok (Nat.le_refl _)
  ·exact Adv.next (h _) (λn st' hs=>(zdt h stop k _ st').mono zo)
theorem zru (st:Ps):Adv (zoc T en st) (st.next+1):=by
 unfold zoc;exact Adv.next (zdI T en _ _) (λ_ _ hs=>Adv.ok hs)
theorem zdz (st:Ps):Adv (zgt T en st) st.next:=by
 unfold zgt
 repeat' first
  |(refine Adv.ok ?_;first|omega|(simp only at *;omega)|(simp only[Ps.adv] at *;omega))
  |(refine Adv.next (zci T en _) (λ_ _ _=>?_))
  |split
variable {rec:NT->Ps->R Nd} (h:∀nt st,Adv (rec nt st) (st.next+1)) (k:Nat)
include h
theorem zbJ (st:Ps):Adv (zfa T en rec k st) (st.next+1):=Adv.next (zbH T en _ _) (λ_ st' hs=>(zdm T en (h _) _ k st').mono zo)
theorem zaU (st:Ps):Adv (zbI T en rec k st) (st.next+1):=Adv.next (zbH T en _ _) (λ_ st' hs=>(zdm T en (h _) _ k st').mono zo)
theorem zbF (st:Ps):Adv (zdv T en rec k st) (st.next+1):=by
 unfold zdv
 repeat' first
  |exact Adv.err
  |(refine Adv.ok ?_;first|omega|(simp only at *;omega)|(simp only[Ps.adv] at *;omega))
  |(refine Adv.next (zbH T en _ _) (λ_ _ _=>?_))
  |(refine Adv.next (zdI T en _ _) (λ_ _ _=>?_))
  |(refine Adv.next (zci T en _) (λ_ _ _=>?_))
  |(refine Adv.next (h _ _) (λ_ _ _=>?_))
  |(refine Adv.next (zdm T en (h _) _ _ _) (λ_ _ _=>?_))
  |(refine Adv.next (zcg T en (h _) _ _ _) (λ_ _ _=>?_))
  |(refine Adv.next (zdt T (h _) _ _ _ _) (λ_ _ _=>?_))
  |(refine Adv.next (zbJ T en h _ _) (λ_ _ _=>?_))
  |(refine Adv.next (zaU T en h _ _) (λ_ _ _=>?_))
  |(refine(h _ _).mono ?_;first|omega|(simp only at *;omega)|(simp only[Ps.adv] at *;omega))
  |refine Adv.ite ?_ ?_
  |split
theorem zcr (st:Ps):Adv (zel T en rec k st) (st.next+1):=by
 unfold zel
 repeat' first
  |exact Adv.err
  |(refine Adv.ok ?_;first|omega|(simp only at *;omega)|(simp only[Ps.adv] at *;omega))
  |(refine Adv.next (zbH T en _ _) (λ_ _ _=>?_))
  |(refine Adv.next (zdI T en _ _) (λ_ _ _=>?_))
  |(refine Adv.next (zci T en _) (λ_ _ _=>?_))
  |(refine Adv.next (h _ _) (λ_ _ _=>?_))
  |(refine Adv.next (zdm T en (h _) _ _ _) (λ_ _ _=>?_))
  |(refine Adv.next (zcg T en (h _) _ _ _) (λ_ _ _=>?_))
  |(refine Adv.next (zdt T (h _) _ _ _ _) (λ_ _ _=>?_))
  |(refine Adv.next (zbJ T en h _ _) (λ_ _ _=>?_))
  |(refine Adv.next (zaU T en h _ _) (λ_ _ _=>?_))
  |(refine Adv.next (zbF T en h _ _) (λ_ _ _=>?_))
  |(refine(h _ _).mono ?_;first|omega|(simp only at *;omega)|(simp only[Ps.adv] at *;omega))
  |refine Adv.ite ?_ ?_
  |split
theorem zcs (at':Int) (b:Nd) (st:Ps):Adv (zgG T en rec k at' b st) (st.next+1):=by
 unfold zgG
 repeat' first
  |exact Adv.err
  |(refine Adv.ok ?_;first|omega|(simp only at *;omega)|(simp only[Ps.adv] at *;omega))
  |(refine Adv.next (zbH T en _ _) (λ_ _ _=>?_))
  |(refine Adv.next (zdI T en _ _) (λ_ _ _=>?_))
  |(refine Adv.next (zci T en _) (λ_ _ _=>?_))
  |(refine Adv.next (h _ _) (λ_ _ _=>?_))
  |(refine Adv.next (zdm T en (h _) _ _ _) (λ_ _ _=>?_))
  |(refine Adv.next (zcg T en (h _) _ _ _) (λ_ _ _=>?_))
  |(refine Adv.next (zdt T (h _) _ _ _ _) (λ_ _ _=>?_))
  |(refine Adv.next (zbJ T en h _ _) (λ_ _ _=>?_))
  |(refine Adv.next (zaU T en h _ _) (λ_ _ _=>?_))
  |(refine Adv.next (zbF T en h _ _) (λ_ _ _=>?_))
  |(refine Adv.next (zcr T en h _ _) (λ_ _ _=>?_))
  |(refine Adv.next (zdz T en _) (λ_ _ _=>?_))
  |(refine(h _ _).mono ?_;first|omega|(simp only at *;omega)|(simp only[Ps.adv] at *;omega))
  |refine Adv.ite ?_ ?_
  |split
theorem znE (at':Int) (st:Ps):Adv (ziS T en rec at' st) (st.next+1):=by
 unfold ziS
 repeat' first
  |exact Adv.err
  |(refine Adv.ok ?_;first|omega|(simp only at *;omega)|(simp only[Ps.adv] at *;omega))
  |(refine Adv.next (zbH T en _ _) (λ_ _ _=>?_))
  |(refine Adv.next (zdI T en _ _) (λ_ _ _=>?_))
  |(refine Adv.next (zci T en _) (λ_ _ _=>?_))
  |(refine Adv.next (h _ _) (λ_ _ _=>?_))
  |(refine Adv.next (zdm T en (h _) _ _ _) (λ_ _ _=>?_))
  |(refine Adv.next (zcg T en (h _) _ _ _) (λ_ _ _=>?_))
  |(refine Adv.next (zdt T (h _) _ _ _ _) (λ_ _ _=>?_))
  |(refine Adv.next (zbJ T en h _ _) (λ_ _ _=>?_))
  |(refine Adv.next (zaU T en h _ _) (λ_ _ _=>?_))
  |(refine Adv.next (zbF T en h _ _) (λ_ _ _=>?_))
  |(refine Adv.next (zcr T en h _ _) (λ_ _ _=>?_))
  |(refine Adv.next (zdz T en _) (λ_ _ _=>?_))
  |exact zcs T en h _ _ _ _
  |(refine(zcs T en h _ _ _ _).mono ?_;first|omega|(simp only at *;omega)|(simp only[Ps.adv] at *;omega))
  |(refine(h _ _).mono ?_;first|omega|(simp only at *;omega)|(simp only[Ps.adv] at *;omega))
  |refine Adv.ite ?_ ?_
  |split
theorem zcx (l:Nat) (at':Int):∀(k:Nat) (x:Nd) (st:Ps),Adv (zfe T rec l at' k x st) st.next
 |0,_,_=>Adv.err
 |k+1,x,st=>by
  rw[zfe]
  split
  ·refine Adv.next (h _ _) (λr st' hs=>?_);simp only[Ps.adv] at hs
   split
   ·exact Adv.ok zo
   ·exact(zcx l at' k _ st').mono zo
  ·exact Adv.ok (Nat.le_refl _)
theorem zlp (l:Nat) (st:Ps):Adv (zfj T en rec k l st) (st.next+1):=by
 unfold zfj
 split
 ·split
  ·exact Adv.next (h _ _) (λ_ _ hs=>Adv.ok (by simp only[Ps.adv] at hs;omega))
  ·exact h _ _
 ·split
  ·split
   ·exact Adv.next (h _ _) (λ_ _ hs=>Adv.ok (by simp only[Ps.adv] at hs;omega))
   ·exact h _ _
  ·exact Adv.next (h _ _) (λ_ st' hs=>(zcx T h l _ k _ st').mono zo)
theorem zcu (at':Int):∀(j:Nat) (x:Nd) (st:Ps),Adv (zdL T en rec k at' j x st) st.next
 |0,_,_=>Adv.err
 |j+1,x,st=>by
  rw[zdL]
  split
  ·exact Adv.next (zaU T en h k _) (λ_ st' hs=>(zcu at' j _ st').mono zo)
  ·split
   ·exact Adv.next (zdI T en _ _) (λ_ st' hs=>(zcu at' j _ st').mono (by simp only[Ps.adv] at hs;omega))
   ·split
    ·exact Adv.next (zbH T en _ _) (λ_ st1 hs=>Adv.next (zcg T en (h _) _ k _) (λ_ st' hs'=>(zcu at' j _ st').mono (by simp only[Ps.adv] at hs;omega)))
    ·exact Adv.ok (Nat.le_refl _)
theorem zkI (st:Ps):Adv (zfn T en rec k st) (st.next+1):=by
 unfold zfn
 repeat' first
  |exact Adv.err
  |(refine Adv.ok ?_;first|omega|(simp only at *;omega)|(simp only[Ps.adv] at *;omega))
  |(refine Adv.next (zbH T en _ _) (λ_ _ _=>?_))
  |(refine Adv.next (zdI T en _ _) (λ_ _ _=>?_))
  |(refine Adv.next (zci T en _) (λ_ _ _=>?_))
  |(refine Adv.next (h _ _) (λ_ _ _=>?_))
  |(refine Adv.next (zdm T en (h _) _ _ _) (λ_ _ _=>?_))
  |(refine Adv.next (zcg T en (h _) _ _ _) (λ_ _ _=>?_))
  |(refine Adv.next (zdt T (h _) _ _ _ _) (λ_ _ _=>?_))
  |(refine Adv.next (zbJ T en h _ _) (λ_ _ _=>?_))
  |(refine Adv.next (zaU T en h _ _) (λ_ _ _=>?_))
  |(refine Adv.next (zbF T en h _ _) (λ_ _ _=>?_))
  |(refine Adv.next (zcr T en h _ _) (λ_ _ _=>?_))
  |(refine Adv.next (zdz T en _) (λ_ _ _=>?_))
  |exact zcs T en h _ _ _ _
  |(refine(zcs T en h _ _ _ _).mono ?_;first|omega|(simp only at *;omega)|(simp only[Ps.adv] at *;omega))
  |(refine Adv.next (zcx T h _ _ _ _ _) (λ_ _ _=>?_))
  |(refine(zcx T h _ _ _ _ _).mono ?_;first|omega|(simp only at *;omega)|(simp only[Ps.adv] at *;omega))
  |(refine Adv.next (h _ _) (λ_ _ _=>(zcu T en h _ _ _ _ _).mono ?_);simp only[Ps.adv] at *;omega)
  |(refine(h _ _).mono ?_;first|omega|(simp only at *;omega)|(simp only[Ps.adv] at *;omega))
  |refine Adv.ite ?_ ?_
  |split
end
theorem zhX (T:List Tok) (en:Int):∀(f:Nat) (nt:NT) (st:Ps),Adv (zgM T en f nt st) (st.next+1)
 |0,_,_=>Adv.err
 |f+1,nt,st=>by
  have h:=zhX T en f
  show Adv (ztJ T en (zgM T en f) f nt st) _
  cases nt
  case operand l=>exact zlp T en h f l st
  case group at'=>exact znE T en h at' st
  case bind=>exact zru T en st
  all_goals
   dsimp only[ztJ]
   first
    |unfold typF
    |unfold zlr
    |unfold zrt
    |unfold zgf
    |unfold zfR
    |unfold zcA
    |unfold setF
    |unfold armF
    |unfold zkY
    |unfold zra
    |unfold letF
    |unfold zil
    |unfold zle
    |unfold zpG
    |unfold zqu
    |unfold doF
    |unfold zrj
    |unfold zhT
    |unfold zqC
   repeat' first
    |exact Adv.err
    |(refine Adv.ok ?_;first|omega|(simp only at *;omega)|(simp only[Ps.adv] at *;omega))
    |(refine Adv.next (zbH T en _ _) (λ_ _ _=>?_))
    |(refine Adv.next (zdI T en _ _) (λ_ _ _=>?_))
    |(refine Adv.next (zci T en _) (λ_ _ _=>?_))
    |exact Adv.next (h _ _) (λ_ st' hs=>(zcu T en h f _ f _ st').mono zo)
    |(refine Adv.next (h _ _) (λ_ _ _=>?_))
    |(refine Adv.next (zdm T en (h _) _ _ _) (λ_ _ _=>?_))
    |(refine Adv.next (zcg T en (h _) _ _ _) (λ_ _ _=>?_))
    |(refine Adv.next (zdt T (h _) _ _ _ _) (λ_ _ _=>?_))
    |(refine Adv.next (zbJ T en h _ _) (λ_ _ _=>?_))
    |(refine Adv.next (zaU T en h _ _) (λ_ _ _=>?_))
    |(refine Adv.next (zbF T en h _ _) (λ_ _ _=>?_))
    |(refine Adv.next (zcr T en h _ _) (λ_ _ _=>?_))
    |(refine Adv.next (zdz T en _) (λ_ _ _=>?_))
    |exact zcs T en h _ _ _ _
    |(refine(zcs T en h _ _ _ _).mono ?_;first|omega|(simp only at *;omega)|(simp only[Ps.adv] at *;omega))
    |(refine Adv.next (zcx T h _ _ _ _ _) (λ_ _ _=>?_))
    |(refine(zcx T h _ _ _ _ _).mono ?_;first|omega|(simp only at *;omega)|(simp only[Ps.adv] at *;omega))
    |(refine Adv.next (h _ _) (λ_ _ _=>(zcu T en h _ _ _ _ _).mono ?_);simp only[Ps.adv] at *;omega)
    |exact zkI T en h _ _
    |(refine(h _ _).mono ?_;first|omega|(simp only at *;omega)|(simp only[Ps.adv] at *;omega))
    |refine Adv.ite ?_ ?_
    |split
end Go.Proofs.YtcebmphappfjjaaGreatDoor
