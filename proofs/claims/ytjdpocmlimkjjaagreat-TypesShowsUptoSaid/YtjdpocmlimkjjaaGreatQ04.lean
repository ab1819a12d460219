/- Conditions: those in each statement. -/
import Derived.Test.YtjdpocmlimkjjaaGreatQ03
import Derived.Test.YtjdpocmlimkjjaaGreatQ00
import Derived.Test.YtjdpocmlimkjjaaGreatQ01
set_option maxHeartbeats 32000000
set_option maxRecDepth 100000
namespace Go.Proofs.YtjdpocmlimkjjaaGreat
open Go.RowKit
theorem zez {s l:ByteArray} (h:¬s=l):(s.toList == l.toList)=false:=by
 rw[beq_eq_false_iff_ne];exact λe=>h (zgu e)
theorem PsAt.more {G:PG} {st:Ps} (hw:zao G.T st≠⟨#[]⟩):st.next+1≤G.T.length:=by
 rcases Nat.lt_or_ge st.next G.T.length with hl|hl
 ·exact hl
 ·exact absurd (by unfold zao;rw[List.getElem?_eq_none hl]) hw
theorem zfA (G:PG) (b:Nat) (st:Ps) (l:ByteArray) (w:World) (h:PsAt G b w st) (hl:¬zao G.T st=l):Calls Tryz.prog 107 #[.pointer (some ⟨b,0,none⟩),.string l] w λe w'=>e=.returned (.bool false)∧Below w.heap.size w w':=by
 have HW:=zz (zhR G b st w h);have hne:=zez hl;generalize zao G.T st=s at *
 clear h hl;go_enter Tryz.func107,Tryz.ntmps107;go_wp2_with fail;(with_reducible refine HW.out.mono ?_);rintro e w1 ⟨rfl,hb⟩;have HB:=zz hb;clear hb;go_wp2_with fail;go_ret;exact⟨rfl,HB.out⟩
theorem zdk {b:Nat} {w w1:World} (h:Below w.heap.size w w1) (j:Nat) (v:Value):Own1 b w (w1.setCell ⟨b,j,none⟩ v):=
 ((Chg.refl (λk=>k=b) w).thenBelow h).setCell (p:=⟨b,j,none⟩) (.inl rfl) v
theorem zfM (G:PG) (b:Nat) (st:Ps) (l:ByteArray) (w:World) (h:PsAt G b w st) (hl:zao G.T st=l) (hn:l≠⟨#[]⟩):Calls Tryz.prog 107 #[.pointer (some ⟨b,0,none⟩),.string l] w λe w'=>e=.returned (.bool true)∧Own1 b w w'∧PsAt G b w' st.adv:=by
 have HW:=zz (zhR G b st w h);have hmore:=PsAt.more (by rw[hl];exact hn);have hlen:=h.len;rw[hl] at HW;have HP:=zz h;have hw1:IntKind.i64.wrap ((st.next:Int)+1)=((st.next+1:Nat):Int):=by rw[IntWalk.i64_in _ (by omega)];omega
 clear h hl;go_enter Tryz.func107,Tryz.ntmps107;go_wp2_with fail;(with_reducible refine HW.out.mono ?_);rintro e w1 ⟨rfl,hb⟩;have HB:=zz hb;have HQ:=zz (HP.out.below hb);have c1:=HQ.out.c1;have z1:=HQ.out.fz 1;clear hb;go_wp2_with fail;go_ret;exact⟨rfl,zdk HB.out 1 _,HQ.out.set1 hmore⟩
theorem zhK (G:PG) (b:Nat) (st:Ps) (w:World) (h:PsAt G b w st):Calls Tryz.prog 123 #[.pointer (some ⟨b,0,none⟩)] w λe w'=>e=zcX (zaN G.T G.en st)∧Below w.heap.size w w':=by
 have HW:=zz (zjo G b st w h);generalize zaN G.T G.en st=a at *
 clear h;go_enter Tryz.func123,Tryz.ntmps123;go_wp2_with fail;(with_reducible refine HW.out.mono ?_);rintro e w1 ⟨rfl,hb⟩;have HB:=zz hb;clear hb;go_wp2_with fail;exact⟨rfl,rfl,HB.out⟩
theorem zjT:(Tryz.prog.info? 25).map (·.size)=some 5:=by kernel_rfl
theorem zqd (k:Int) (t:ByteArray) (n a:Int) (A:Option Addr) (m c:Nat) (w:World):Calls Tryz.prog 82 #[.int .i64 k,.string t,.int .i64 n,.int .i64 a,.slice A m c] w λe w'=>e=.returned (.agg #[.int .i64 k,.string t,.int .i64 n,.int .i64 a,.slice A m c])∧Below w.heap.size w w':=by
 go_enter Tryz.func82,Tryz.ntmps82;go_wp2_with fail;exact bodyPost_ret (results_cell_row (by rfl) _ _ w.heap.size _ _ (0,0) _ rfl (heap_alloc_new w _) Tryz.underlying25 rfl zjT) rfl ⟨rfl,(Below.refl _ _).alloc (Nat.le_refl _) _⟩
theorem zbd {b:Nat} {w w1:World} (h:Below w.heap.size w w1):Own1 b w w1:=(Chg.refl (λk=>k=b) w).thenBelow h
theorem zhg (G:PG) (b:Nat) (st:Ps) (l:ByteArray) (w:World) (h:PsAt G b w st) (hn:l≠⟨#[]⟩):Calls Tryz.prog 109 #[.pointer (some ⟨b,0,none⟩),.string l] w (zaS G b zrJ (zaC G.T G.en l st) w):=by
 have HP:=zz h;unfold zaC
 by_cases hl:zao G.T st=l
 ·have HA:=zz (zfM G b st l w h hl hn);rw[if_pos hl];clear h hl;go_enter Tryz.func109,Tryz.ntmps109;go_wp2_with fail;(with_reducible refine HA.out.mono ?_);rintro e w1 ⟨rfl,hc,hp⟩;have HC:=zz hc;have HQ:=zz hp;clear hc hp;go_wp2_with fail;exact bodyPost_end (v:=.tuple #[]) (by simp[results,Tryz.results109,go_sem]) rfl ⟨HC.out,HQ.out,rfl⟩
 ·have HA:=zz (zfA G b st l w h hl);rw[if_neg hl];unfold zfo;clear h hl;go_enter Tryz.func109,Tryz.ntmps109;go_wp2_with fail;(with_reducible refine HA.out.mono ?_);rintro e w1 ⟨rfl,hb⟩;have HF:=zz (zhK G b st w1 (HP.out.below hb));have HB:=zz hb;clear hb;go_wp2_with fail;(with_reducible refine HF.out.mono ?_);rintro e w2 ⟨he,hb⟩;have HB2:=zz (HB.out.trans (hb.mono HB.out.size));clear hb;unfold zcX at he;subst he;go_wp2_with fail;exact⟨rfl,zbd HB2.out,rfl⟩
theorem zke (G:PG) (b:Nat) (st:Ps) (K:Nat) (q:ByteArray→Bool) (hcf:∀(x:ByteArray) (W:World),(callFunc K #[.string x]).run Tryz.prog W=.ok (.enter K #[.string x]) W) (hq:∀(s:ByteArray) (w:World),s.size≤32768→Calls Tryz.prog K #[.string s] w λe w'=>e=.returned (.bool (q s))∧Below w.heap.size w w') (hn:q ⟨#[]⟩=false) (w:World) (h:PsAt G b w st):Calls Tryz.prog 108 #[.pointer (some ⟨b,0,none⟩),.func (.func K) #[] #[]] w (zaS G b QStr (zbG G.T G.en q st) w):=by
 have HP:=zz h;have HW:=zz (zhR G b st w h);have hs:=h.word;have HK:=zz (λw=>hq (zao G.T st) w hs);unfold zbG;cases hc:q (zao G.T st) with
 |true=>
  have hmore:=PsAt.more (G:=G) (st:=st) (λe=>by rw[e,hn] at hc;cases hc);have hlen:=h.len;have hw1:IntKind.i64.wrap ((st.next:Int)+1)=((st.next+1:Nat):Int):=by rw[IntWalk.i64_in _ (by omega)];omega
  rw[if_pos rfl];rw[hc] at HK;generalize zao G.T st=s at *
  clear h hc hs hn hq;go_enter Tryz.func108,Tryz.ntmps108;go_wp2_with fail;(with_reducible refine HW.out.mono ?_);rintro e w1 ⟨rfl,hb⟩;have HB:=zz hb;clear hb;go_wp2_with fail;(with_reducible refine(HK.out _).mono ?_);rintro e w2 ⟨rfl,hb⟩;have HB2:=zz (HB.out.trans (hb.mono HB.out.size));have HQ:=zz (HP.out.below HB2.out);have c1:=HQ.out.c1;have z1:=HQ.out.fz 1;clear hb;go_wp2_with fail;go_ret;exact⟨zdk HB2.out 1 _,HQ.out.set1 hmore,rfl⟩
 |false=>
  rw[if_neg (by simp)];unfold zfo;rw[hc] at HK;generalize zao G.T st=s at *
  clear h hc hs hn hq;go_enter Tryz.func108,Tryz.ntmps108;go_wp2_with fail;(with_reducible refine HW.out.mono ?_);rintro e w1 ⟨rfl,hb⟩;have HB:=zz hb;clear hb;go_wp2_with fail;(with_reducible refine(HK.out _).mono ?_);rintro e w2 ⟨rfl,hb⟩;have HB2:=zz (HB.out.trans (hb.mono HB.out.size));have HF:=zz (zhK G b st w2 (HP.out.below HB2.out));clear hb;go_wp2_with fail;(with_reducible refine HF.out.mono ?_);rintro e w3 ⟨he,hb⟩;have HB3:=zz (HB2.out.trans (hb.mono HB2.out.size));clear hb;unfold zcX at he;subst he;go_wp2_with fail;exact⟨rfl,zbd HB3.out,rfl⟩
theorem zlD (G:PG) (b:Nat) (st:Ps) (w:World) (h:PsAt G b w st):Calls Tryz.prog 110 #[.pointer (some ⟨b,0,none⟩)] w (zaS G b QInt (zce G.T G.en st) w):=by
 have HP:=zz h;have HK:=zz (zfJ G b st w h)
 by_cases hk:(zcB G st).kind=2
 ·have hlt:st.next+1≤G.T.length:=by
   rcases Nat.lt_or_ge st.next G.T.length with hl|hl
   ·exact hl
   ·unfold zcB at hk;rw[List.getElem?_eq_none hl] at hk;cases hk
  have hlen:=h.len
  have hI:Hid (zce G.T G.en st=.ok ((zcB G st).n,st.adv)):=zz (by
   unfold zce;unfold zcB at hk ⊢;cases hx:G.T[st.next]? with
   |none=>rw[hx] at hk;cases hk
   |some t=>rw[hx] at hk;simp only at hk ⊢;rw[if_pos hk])
  generalize zce G.T G.en st=r at *
  generalize zcB G st=t at *
  have k2:(t.kind != 2)=false:=by simp[hk]
  have hw1:IntKind.i64.wrap ((st.next:Int)+1)=((st.next+1:Nat):Int):=by rw[IntWalk.i64_in _ (by omega)];omega
  clear h hk;go_enter Tryz.func110,Tryz.ntmps110;go_wp2_with fail;(with_reducible refine HK.out.mono ?_);rintro e w1 ⟨rfl,hb⟩;have HB:=zz hb;have HQ:=zz (HP.out.below hb);have c1:=HQ.out.c1;have z1:=HQ.out.fz 1;have hlb:=HQ.out.lt;have hne:¬b=w1.heap.size:=by omega
  clear hb;go_wp2_with fail;go_ret;rw[hI.out];exact⟨Chg.alloc (zdk HB.out 1 _) _,(HQ.out.set1 hlt).below ((Below.refl _ _).alloc (Nat.le_refl _) _),rfl⟩
 ·have hI:Hid (zce G.T G.en st=.error (zaN G.T G.en st)):=zz (by
   unfold zce zaN;unfold zcB at hk;cases hx:G.T[st.next]? with
   |none=>rfl
   |some t=>rw[hx] at hk;simp only at hk ⊢;rw[if_neg hk])
  have k2:((zcB G st).kind != 2)=true:=by simpa using hk
  generalize zce G.T G.en st=r at *
  generalize zcB G st=t at *
  clear h hk;go_enter Tryz.func110,Tryz.ntmps110;go_wp2_with fail;(with_reducible refine HK.out.mono ?_);rintro e w1 ⟨rfl,hb⟩;have HB:=zz hb;have HF:=zz (λo=>zhK G b st _ (HP.out.below (hb.alloc hb.size o)));clear hb;go_wp2_with fail;(with_reducible refine(HF.out _).mono ?_);rintro e w3 ⟨he,hb⟩;have HB3:=zz ((HB.out.alloc HB.out.size _).trans (hb.mono (by have:=HB.out.size;simp;omega)));clear hb;unfold zcX at he;subst he;go_wp2_with fail;rw[hI.out];exact⟨rfl,zbd HB3.out,rfl⟩
end Go.Proofs.YtjdpocmlimkjjaaGreat
set_option maxHeartbeats 32000000
set_option maxRecDepth 100000
namespace Go.Proofs.YtjdpocmlimkjjaaGreat
def Adv {α:Type} (x:R α) (n:Nat):Prop:=∀a st',x=.ok (a,st')→n≤st'.next
section
variable {α β:Type}
theorem Adv.ok {a:α} {st:Ps} {n:Nat} (h:n≤st.next):Adv (.ok (a,st):R α) n:=λb st' e=>by
 injection e with e;injection e with e1 e2;subst e2;exact h
theorem Adv.err {c:Int} {n:Nat}:Adv (.error c:R α) n:=λb st' e=>by cases e
theorem Adv.next {x:R α} {f:α→Ps→R β} {n m:Nat} (h:Adv x m) (hf:∀a st,m≤st.next→Adv (f a st) n):Adv (R.next x f) n:=by
 intro a st' e;cases x with
 |error c=>cases e
 |ok p=>exact hf p.1 p.2 (h p.1 p.2 rfl) a st' e
theorem Adv.ite {c:Prop} [Decidable c] {x y:R α} {n:Nat} (h1:Adv x n) (h2:Adv y n):Adv (if c then x else y) n:=by split<;>assumption
theorem Adv.mono {x:R α} {n m:Nat} (h:Adv x m) (hn:n≤m):Adv x n:=λa st' e=>Nat.le_trans hn (h a st' e)
end
section
variable (T:List Tok) (en:Int)
theorem zaT (w:ByteArray) (st:Ps):Adv (zaC T en w st) (st.next+1):=by
 unfold zaC zfo
 split
 ·exact Adv.ok (Nat.le_refl _)
 ·exact Adv.err
theorem zbI (q:ByteArray→Bool) (st:Ps):Adv (zbG T en q st) (st.next+1):=by
 unfold zbG zfo
 split
 ·exact Adv.ok (Nat.le_refl _)
 ·exact Adv.err
theorem zbn (st:Ps):Adv (zce T en st) (st.next+1):=by
 unfold zce
 split
 ·split
  ·exact Adv.ok (Nat.le_refl _)
  ·exact Adv.err
 ·exact Adv.err
theorem zjb {item:Ps→R Nd} (h:∀st,Adv (item st) (st.next+1)) (stop:ByteArray) (hd:Bool):∀(k:Nat) (acc:List Nd) (st:Ps),Adv (zfV T en item stop hd k acc st) (st.next+1)
 |0,_,_=>Adv.err
 |k+1,acc,st=>by
  rw[zfV]
  split
  ·refine Adv.next (h _) (λn st' hs=>(zjb h stop hd k _ st').mono ?_);simp only[Ps.adv] at hs;omega
  ·exact Adv.next (zaT T en _ _) (λ_ st' hs=>Adv.ok hs)
theorem zcv {item:Ps→R Nd} (h:∀st,Adv (item st) (st.next+1)) (stop:ByteArray) (k:Nat) (st:Ps):Adv (zdA T en item stop k st) (st.next+1):=
 Adv.next (h _) (λn st' hs=>(zjb T en h stop _ k _ st').mono (by simp only at hs;omega))
theorem zdL {item:Ps→R Nd} (h:∀st,Adv (item st) (st.next+1)) (stop:ByteArray) (k:Nat) (st:Ps):Adv (zge T en item stop k st) (st.next+1):=by
 unfold zge
 split
 ·exact Adv.ok (Nat.le_refl _)
 ·exact zcv T en h stop k st
theorem zdU {item:Ps→R Nd} (h:∀st,Adv (item st) (st.next+1)) (stop:ByteArray):∀(k:Nat) (acc:List Nd) (st:Ps),Adv (zcO T item stop k acc st) (st.next+1)
 |0,_,_=>Adv.err
 |k+1,acc,st=>by
  rw[zcO]
  split
  ·exact Adv.ok (Nat.le_refl _)
  ·exact Adv.next (h _) (λn st' hs=>(zdU h stop k _ st').mono (by omega))
theorem zpr (st:Ps):Adv (ziW T en st) (st.next+1):=by
 unfold ziW;exact Adv.next (zbI T en _ _) (λ_ _ hs=>Adv.ok hs)
theorem zbU (st:Ps):Adv (zgl T en st) st.next:=by
 unfold zgl
 repeat' first
  |(refine Adv.ok ?_;first|omega|(simp only at *;omega)|(simp only[Ps.adv] at *;omega))
  |(refine Adv.next (zbn T en _) (λ_ _ _=>?_))
  |split
variable {rec:NT→Ps→R Nd} (h:∀nt st,Adv (rec nt st) (st.next+1)) (k:Nat)
include h
theorem zbY (st:Ps):Adv (zem T en rec k st) (st.next+1):=Adv.next (zaT T en _ _) (λ_ st' hs=>(zdL T en (h _) _ k st').mono (by omega))
theorem zbh (st:Ps):Adv (zbB T en rec k st) (st.next+1):=Adv.next (zaT T en _ _) (λ_ st' hs=>(zdL T en (h _) _ k st').mono (by omega))
theorem zbP (st:Ps):Adv (zcp T en rec k st) (st.next+1):=by
 unfold zcp
 repeat' first
  |exact Adv.err
  |(refine Adv.ok ?_;first|omega|(simp only at *;omega)|(simp only[Ps.adv] at *;omega))
  |(refine Adv.next (zaT T en _ _) (λ_ _ _=>?_))
  |(refine Adv.next (zbI T en _ _) (λ_ _ _=>?_))
  |(refine Adv.next (zbn T en _) (λ_ _ _=>?_))
  |(refine Adv.next (h _ _) (λ_ _ _=>?_))
  |(refine Adv.next (zdL T en (h _) _ _ _) (λ_ _ _=>?_))
  |(refine Adv.next (zcv T en (h _) _ _ _) (λ_ _ _=>?_))
  |(refine Adv.next (zdU T (h _) _ _ _ _) (λ_ _ _=>?_))
  |(refine Adv.next (zbY T en h _ _) (λ_ _ _=>?_))
  |(refine Adv.next (zbh T en h _ _) (λ_ _ _=>?_))
  |(refine(h _ _).mono ?_;first|omega|(simp only at *;omega)|(simp only[Ps.adv] at *;omega))
  |refine Adv.ite ?_ ?_
  |split
theorem zcH (st:Ps):Adv (zcU T en rec k st) (st.next+1):=by
 unfold zcU
 repeat' first
  |exact Adv.err
  |(refine Adv.ok ?_;first|omega|(simp only at *;omega)|(simp only[Ps.adv] at *;omega))
  |(refine Adv.next (zaT T en _ _) (λ_ _ _=>?_))
  |(refine Adv.next (zbI T en _ _) (λ_ _ _=>?_))
  |(refine Adv.next (zbn T en _) (λ_ _ _=>?_))
  |(refine Adv.next (h _ _) (λ_ _ _=>?_))
  |(refine Adv.next (zdL T en (h _) _ _ _) (λ_ _ _=>?_))
  |(refine Adv.next (zcv T en (h _) _ _ _) (λ_ _ _=>?_))
  |(refine Adv.next (zdU T (h _) _ _ _ _) (λ_ _ _=>?_))
  |(refine Adv.next (zbY T en h _ _) (λ_ _ _=>?_))
  |(refine Adv.next (zbh T en h _ _) (λ_ _ _=>?_))
  |(refine Adv.next (zbP T en h _ _) (λ_ _ _=>?_))
  |(refine(h _ _).mono ?_;first|omega|(simp only at *;omega)|(simp only[Ps.adv] at *;omega))
  |refine Adv.ite ?_ ?_
  |split
theorem zcI (at':Int) (b:Nd) (st:Ps):Adv (zfi T en rec k at' b st) (st.next+1):=by
 unfold zfi
 repeat' first
  |exact Adv.err
  |(refine Adv.ok ?_;first|omega|(simp only at *;omega)|(simp only[Ps.adv] at *;omega))
  |(refine Adv.next (zaT T en _ _) (λ_ _ _=>?_))
  |(refine Adv.next (zbI T en _ _) (λ_ _ _=>?_))
  |(refine Adv.next (zbn T en _) (λ_ _ _=>?_))
  |(refine Adv.next (h _ _) (λ_ _ _=>?_))
  |(refine Adv.next (zdL T en (h _) _ _ _) (λ_ _ _=>?_))
  |(refine Adv.next (zcv T en (h _) _ _ _) (λ_ _ _=>?_))
  |(refine Adv.next (zdU T (h _) _ _ _ _) (λ_ _ _=>?_))
  |(refine Adv.next (zbY T en h _ _) (λ_ _ _=>?_))
  |(refine Adv.next (zbh T en h _ _) (λ_ _ _=>?_))
  |(refine Adv.next (zbP T en h _ _) (λ_ _ _=>?_))
  |(refine Adv.next (zcH T en h _ _) (λ_ _ _=>?_))
  |(refine Adv.next (zbU T en _) (λ_ _ _=>?_))
  |(refine(h _ _).mono ?_;first|omega|(simp only at *;omega)|(simp only[Ps.adv] at *;omega))
  |refine Adv.ite ?_ ?_
  |split
theorem znK (at':Int) (st:Ps):Adv (zfY T en rec at' st) (st.next+1):=by
 unfold zfY
 repeat' first
  |exact Adv.err
  |(refine Adv.ok ?_;first|omega|(simp only at *;omega)|(simp only[Ps.adv] at *;omega))
  |(refine Adv.next (zaT T en _ _) (λ_ _ _=>?_))
  |(refine Adv.next (zbI T en _ _) (λ_ _ _=>?_))
  |(refine Adv.next (zbn T en _) (λ_ _ _=>?_))
  |(refine Adv.next (h _ _) (λ_ _ _=>?_))
  |(refine Adv.next (zdL T en (h _) _ _ _) (λ_ _ _=>?_))
  |(refine Adv.next (zcv T en (h _) _ _ _) (λ_ _ _=>?_))
  |(refine Adv.next (zdU T (h _) _ _ _ _) (λ_ _ _=>?_))
  |(refine Adv.next (zbY T en h _ _) (λ_ _ _=>?_))
  |(refine Adv.next (zbh T en h _ _) (λ_ _ _=>?_))
  |(refine Adv.next (zbP T en h _ _) (λ_ _ _=>?_))
  |(refine Adv.next (zcH T en h _ _) (λ_ _ _=>?_))
  |(refine Adv.next (zbU T en _) (λ_ _ _=>?_))
  |exact zcI T en h _ _ _ _
  |(refine(zcI T en h _ _ _ _).mono ?_;first|omega|(simp only at *;omega)|(simp only[Ps.adv] at *;omega))
  |(refine(h _ _).mono ?_;first|omega|(simp only at *;omega)|(simp only[Ps.adv] at *;omega))
  |refine Adv.ite ?_ ?_
  |split
theorem zcM (l:Nat) (at':Int):∀(k:Nat) (x:Nd) (st:Ps),Adv (zdj T rec l at' k x st) st.next
 |0,_,_=>Adv.err
 |k+1,x,st=>by
  rw[zdj]
  split
  ·refine Adv.next (h _ _) (λr st' hs=>?_);simp only[Ps.adv] at hs
   split
   ·exact Adv.ok (by omega)
   ·exact(zcM l at' k _ st').mono (by omega)
  ·exact Adv.ok (Nat.le_refl _)
theorem zlh (l:Nat) (st:Ps):Adv (zdm T en rec k l st) (st.next+1):=by
 unfold zdm
 split
 ·split
  ·exact Adv.next (h _ _) (λ_ _ hs=>Adv.ok (by simp only[Ps.adv] at hs;omega))
  ·exact h _ _
 ·split
  ·split
   ·exact Adv.next (h _ _) (λ_ _ hs=>Adv.ok (by simp only[Ps.adv] at hs;omega))
   ·exact h _ _
  ·exact Adv.next (h _ _) (λ_ st' hs=>(zcM T h l _ k _ st').mono (by omega))
theorem zcK (at':Int):∀(j:Nat) (x:Nd) (st:Ps),Adv (zcx T en rec k at' j x st) st.next
 |0,_,_=>Adv.err
 |j+1,x,st=>by
  rw[zcx]
  split
  ·exact Adv.next (zbh T en h k _) (λ_ st' hs=>(zcK at' j _ st').mono (by omega))
  ·split
   ·exact Adv.next (zbI T en _ _) (λ_ st' hs=>(zcK at' j _ st').mono (by simp only[Ps.adv] at hs;omega))
   ·split
    ·exact Adv.next (zaT T en _ _) (λ_ st1 hs=>Adv.next (zcv T en (h _) _ k _) (λ_ st' hs'=>(zcK at' j _ st').mono (by simp only[Ps.adv] at hs;omega)))
    ·exact Adv.ok (Nat.le_refl _)
theorem zkC (st:Ps):Adv (zdh T en rec k st) (st.next+1):=by
 unfold zdh
 repeat' first
  |exact Adv.err
  |(refine Adv.ok ?_;first|omega|(simp only at *;omega)|(simp only[Ps.adv] at *;omega))
  |(refine Adv.next (zaT T en _ _) (λ_ _ _=>?_))
  |(refine Adv.next (zbI T en _ _) (λ_ _ _=>?_))
  |(refine Adv.next (zbn T en _) (λ_ _ _=>?_))
  |(refine Adv.next (h _ _) (λ_ _ _=>?_))
  |(refine Adv.next (zdL T en (h _) _ _ _) (λ_ _ _=>?_))
  |(refine Adv.next (zcv T en (h _) _ _ _) (λ_ _ _=>?_))
  |(refine Adv.next (zdU T (h _) _ _ _ _) (λ_ _ _=>?_))
  |(refine Adv.next (zbY T en h _ _) (λ_ _ _=>?_))
  |(refine Adv.next (zbh T en h _ _) (λ_ _ _=>?_))
  |(refine Adv.next (zbP T en h _ _) (λ_ _ _=>?_))
  |(refine Adv.next (zcH T en h _ _) (λ_ _ _=>?_))
  |(refine Adv.next (zbU T en _) (λ_ _ _=>?_))
  |exact zcI T en h _ _ _ _
  |(refine(zcI T en h _ _ _ _).mono ?_;first|omega|(simp only at *;omega)|(simp only[Ps.adv] at *;omega))
  |(refine Adv.next (zcM T h _ _ _ _ _) (λ_ _ _=>?_))
  |(refine(zcM T h _ _ _ _ _).mono ?_;first|omega|(simp only at *;omega)|(simp only[Ps.adv] at *;omega))
  |(refine Adv.next (h _ _) (λ_ _ _=>(zcK T en h _ _ _ _ _).mono ?_);simp only[Ps.adv] at *;omega)
  |(refine(h _ _).mono ?_;first|omega|(simp only at *;omega)|(simp only[Ps.adv] at *;omega))
  |refine Adv.ite ?_ ?_
  |split
end
theorem zic (T:List Tok) (en:Int):∀(f:Nat) (nt:NT) (st:Ps),Adv (zdB T en f nt st) (st.next+1)
 |0,_,_=>Adv.err
 |f+1,nt,st=>by
  have h:=zic T en f
  show Adv (zlV T en (zdB T en f) f nt st) _
  cases nt
  case operand l=>exact zlh T en h f l st
  case group at'=>exact znK T en h at' st
  case bind=>exact zpr T en st
  all_goals
   dsimp only[zlV]
   first
    |unfold typF
    |unfold ziN
    |unfold zlR
    |unfold zeY
    |unfold zfd
    |unfold zch
    |unfold setF
    |unfold armF
    |unfold zid
    |unfold zlk
    |unfold letF
    |unfold zgi
    |unfold ziM
    |unfold zlO
    |unfold zlE
    |unfold doF
    |unfold zlA
    |unfold zgf
    |unfold zjS
   repeat' first
    |exact Adv.err
    |(refine Adv.ok ?_;first|omega|(simp only at *;omega)|(simp only[Ps.adv] at *;omega))
    |(refine Adv.next (zaT T en _ _) (λ_ _ _=>?_))
    |(refine Adv.next (zbI T en _ _) (λ_ _ _=>?_))
    |(refine Adv.next (zbn T en _) (λ_ _ _=>?_))
    |exact Adv.next (h _ _) (λ_ st' hs=>(zcK T en h f _ f _ st').mono (by omega))
    |(refine Adv.next (h _ _) (λ_ _ _=>?_))
    |(refine Adv.next (zdL T en (h _) _ _ _) (λ_ _ _=>?_))
    |(refine Adv.next (zcv T en (h _) _ _ _) (λ_ _ _=>?_))
    |(refine Adv.next (zdU T (h _) _ _ _ _) (λ_ _ _=>?_))
    |(refine Adv.next (zbY T en h _ _) (λ_ _ _=>?_))
    |(refine Adv.next (zbh T en h _ _) (λ_ _ _=>?_))
    |(refine Adv.next (zbP T en h _ _) (λ_ _ _=>?_))
    |(refine Adv.next (zcH T en h _ _) (λ_ _ _=>?_))
    |(refine Adv.next (zbU T en _) (λ_ _ _=>?_))
    |exact zcI T en h _ _ _ _
    |(refine(zcI T en h _ _ _ _).mono ?_;first|omega|(simp only at *;omega)|(simp only[Ps.adv] at *;omega))
    |(refine Adv.next (zcM T h _ _ _ _ _) (λ_ _ _=>?_))
    |(refine(zcM T h _ _ _ _ _).mono ?_;first|omega|(simp only at *;omega)|(simp only[Ps.adv] at *;omega))
    |(refine Adv.next (h _ _) (λ_ _ _=>(zcK T en h _ _ _ _ _).mono ?_);simp only[Ps.adv] at *;omega)
    |exact zkC T en h _ _
    |(refine(h _ _).mono ?_;first|omega|(simp only at *;omega)|(simp only[Ps.adv] at *;omega))
    |refine Adv.ite ?_ ?_
    |split
end Go.Proofs.YtjdpocmlimkjjaaGreat
