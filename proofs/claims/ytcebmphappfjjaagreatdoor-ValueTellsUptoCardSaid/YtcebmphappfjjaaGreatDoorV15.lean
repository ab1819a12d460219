/- Conditions: those in each statement. -/
import Derived.Test.YtcebmphappfjjaaGreatDoorV05
import Derived.Test.YtcebmphappfjjaaGreatDoorV10
import Derived.Test.YtcebmphappfjjaaGreatDoorV04
set_option maxHeartbeats 32000000
set_option maxRecDepth 100000
namespace Go.Proofs.YtcebmphappfjjaaGreatDoor
open Go.RowKit
theorem hpos {α:Type} {c:Prop} [Decidable c] {x y r:α} (h:Hid ((if c then x else y)=r)) (hc:c):Hid (x=r):=zz (by rw[<-h.out,if_pos hc])
theorem hneg {α:Type} {c:Prop} [Decidable c] {x y r:α} (h:Hid ((if c then x else y)=r)) (hc:¬c):Hid (y=r):=zz (by rw[<-h.out,if_neg hc])
theorem hok {α β:Type} {x:R α} {f:α->Ps->R β} {r:R β} (h:Hid (R.next x f=r)) {a:α} {st:Ps} (e:x=.ok (a,st)):Hid (f a st=r):=zz (by rw[<-h.out,e];rfl)
theorem her {α β:Type} {x:R α} {f:α->Ps->R β} {r:R β} (h:Hid (R.next x f=r)) {a:Int} (e:x=.error a):r=.error a:=by rw[<-h.out,e];rfl
theorem zgo {α:Type} {x r:R α} (h:Hid (x=r)):Hid (R.next x (λv s=>.ok (v,s))=r):=zz (by rw[<-h.out];cases x<;>rfl)
theorem hite {α β:Type} {c:Prop} [Decidable c] {x y:R α} {f:α->Ps->R β} {r:R β} (h:Hid (R.next (if c then x else y) f=r)):Hid ((if c then R.next x f else R.next y f)=r):=zz (by rw[<-h.out];split<;>rfl)
theorem zmS {α β γ:Type} {x:R α} {f:α->Ps->R β} {g:β->Ps->R γ} {r:R γ} (h:Hid (R.next (R.next x f) g=r)):Hid (R.next x (λa s=>R.next (f a s) g)=r):=zz (by rw[<-h.out];cases x<;>rfl)
def Rk (lo:Nat) (l:List Nd) (v:Value) (U:World):Prop:=Rd (Bt lo U.heap.size) U (ns l) v
theorem Rk.nl (lo:Nat) (k n a:Int) (s:ByteArray) (U:World):Rk lo (Nd.mk k s n a []).kids (.slice none (Nd.mk k s n a []).kids.length 0) U:=Rd.sl_nil
def Ow (lo hi:Nat) (l:List Nd) (v:Value) (U:World):Prop:=zaz lo 49 5 l.length (zan Nd.row l) U v/\∀g,v.ownBlock=some g->g<hi
theorem Ow.rk {lo hi:Nat} {l:List Nd} {v:Value} {U:World} (h:Ow lo hi l v U):Rk lo l v U:=zid h.1.rd
def Cn (g:Nat) (u0 u1 u2 u3 u4:Value) (U:World):Prop:=zab U g #[u0,u1,u2,u3,u4] 49
theorem Cn.c5 {g:Nat} {u0 u1 u2 u3 u4:Value} {w:World} (h:Cn g u0 u1 u2 u3 u4 w):w.cell? ⟨g,0,none⟩=some u0/\w.cell? ⟨g,1,none⟩=some u1/\w.cell? ⟨g,2,none⟩=some u2/\w.cell? ⟨g,3,none⟩=some u3/\w.cell? ⟨g,4,none⟩=some u4:=zab.c5 h
theorem Cn.fz {g:Nat} {u0 u1 u2 u3 u4:Value} {w:World} (h:Cn g u0 u1 u2 u3 u4 w) (j:Nat):w.frozen? ⟨g,j,none⟩=false:=zab.fz h j
structure St (G:PG) (b:Nat) (w:World) (t:Bool) (F:World->Prop) (st:Ps) (n:Nat) (W:World):Prop where
 ps:PsAt G b W st
 own:Own1 b w W
 hb:b<w.heap.size
 hl:G.lim<=w.heap.size
 nx:st.next=n
 bx:t=true->Cn w.heap.size (.int .i64 0) (.string ⟨#[]⟩) (.int .i64 0) (.int .i64 0) (.slice none 0 0) W
 fx:F W
 ls:∀U V,w.heap.size<=U.heap.size->Own1 b U V->F U->F V
section
variable {β:Type} {fn:FuncId} {args:Array Value} {G:PG} {b:Nat} {w:World} {t:Bool} {F:World->Prop} {st:Ps} {n:Nat} {W:World} {S:Ending->World->Prop} {r:R β}
theorem St.sz (Z:St G b w t F st n W):w.heap.size<=W.heap.size:=Chg.size Z.own
theorem St.le (Z:St G b w t F st n W):n<=G.T.length:=Z.nx▸Z.ps.le
theorem St.step (Z:St G b w t F st n W) {V:World} {st':Ps} {n':Nat} (hc:Own1 b W V) (hp:PsAt G b V st') (hn:st'.next=n'):St G b w t F st' n' V:=
 ⟨hp,Z.own.trans hc,Z.hb,Z.hl,hn,λe=>zab.keep (Z.bx e) hc (λh=>by have:=Z.hb;omega),Z.ls _ _ Z.sz hc Z.fx,Z.ls⟩
theorem St.below (Z:St G b w t F st n W) {V:World} (k:Below W.heap.size W V):St G b w t F st n V:=Z.step (zaO k) (Z.ps.below k) Z.nx
theorem St.drew (Z:St G b w t F st n W):St G b w t F st n W.drew:=Z.below (zae (Below.refl _ _) 1)
theorem St.add {F':World->Prop} (Z:St G b w t F st n W) (h:F' W) (hl:∀U V,w.heap.size<=U.heap.size->Own1 b U V->F' U->F' V):St G b w t (λU=>F' U/\F U) st n W:=
 ⟨Z.ps,Z.own,Z.hb,Z.hl,Z.nx,Z.bx,⟨h,Z.fx⟩,λU V hs k q=>⟨hl U V hs k q.1,Z.ls U V hs k q.2⟩⟩
theorem St.only {F':World->Prop} (Z:St G b w t F st n W) (h:F' W) (hl:∀U V,w.heap.size<=U.heap.size->Own1 b U V->F' U->F' V):St G b w t F' st n W:=⟨Z.ps,Z.own,Z.hb,Z.hl,Z.nx,Z.bx,h,hl⟩
theorem Rk.ls {lo:Nat} {l:List Nd} {v:Value} (hb:b<lo) {U V:World} (k:Own1 b U V) (h:Rk lo l v U):Rk lo l v V:=k.rd hb h
theorem Ow.ls {lo hi:Nat} {l:List Nd} {v:Value} (hb:b<lo) {U V:World} (k:Own1 b U V) (h:Ow lo hi l v U):Ow lo hi l v V:=⟨k.owned hb h.1,h.2⟩
theorem Cn.ls {g:Nat} {u0 u1 u2 u3 u4:Value} (hb:¬g=b) {U V:World} (k:Own1 b U V) (h:Cn g u0 u1 u2 u3 u4 U):Cn g u0 u1 u2 u3 u4 V:=zab.keep h k hb
theorem St.addRk (Z:St G b w t F st n W) {lo:Nat} {l:List Nd} {v:Value} (hw:w.heap.size<=lo) (h:Rk lo l v W):St G b w t (λU=>Rk lo l v U/\F U) st n W:=
 Z.add h (λ_ _ _ k=>Rk.ls (Nat.lt_of_lt_of_le Z.hb hw) k)
theorem St.addOw (Z:St G b w t F st n W) {lo hi:Nat} {l:List Nd} {v:Value} (hw:w.heap.size<=lo) (h:Ow lo hi l v W):St G b w t (λU=>Ow lo hi l v U/\F U) st n W:=
 Z.add h (λ_ _ _ k=>Ow.ls (Nat.lt_of_lt_of_le Z.hb hw) k)
theorem St.head {α:Type} (h:PsAt G b w st) (x:α):b<w.heap.size/\G.lim<=w.heap.size/\G.T.length<=32768/\st.next<=G.T.length/\∃RR,x=RR/\∃V,w.alloc (.cells #[↑(),↑zj.a,↑(),↑(),.slice none 0 0] 49)=V/\w.heap.size<V.heap.size/\St G b w true (λ_=>True) st st.next V:=by
 have hb:=(Below.refl w.heap.size w).alloc (Nat.le_refl _) (.cells #[↑(),↑zj.a,↑(),↑(),.slice none 0 0] 49);exact⟨h.lt,h.lim,h.len,h.le,_,rfl,_,rfl,by simp,⟨h.below hb,zaO hb,h.lt,h.lim,rfl,λ_=>zab.new _ _ _,trivial,λ_ _ _ _ q=>q⟩⟩
theorem St.head0 {α:Type} (h:PsAt G b w st) (x:α):b<w.heap.size/\G.lim<=w.heap.size/\G.T.length<=32768/\st.next<=G.T.length/\∃RR,x=RR/\St G b w false (λ_=>True) st st.next w:=
 ⟨h.lt,h.lim,h.len,h.le,_,rfl,⟨h,zaO (Below.refl _ _),h.lt,h.lim,rfl,λe=>(nomatch e),trivial,λ_ _ _ _ q=>q⟩⟩
theorem St.q (Z:St G b w t F st n W) {e0:Ending} (K:Calls Tryz.prog fn args W λe V=>e=e0/\Below W.heap.size W V) (hO:∀V,W.heap.size<=V.heap.size->St G b w t F st n V->S e0 V):Calls Tryz.prog fn args W S:=K.mono (λe V h=>by
 obtain⟨rfl,k⟩:=h;exact hO V k.size (Z.below k))
theorem St.off (Z:St G b w t F st n W) (hO:∀V,W.heap.size<=V.heap.size->St G b w t F st n V->S (.returned (.int .i64 (zaC G.T G.en st))) V):Calls Tryz.prog 210 #[.pointer (some ⟨b,0,none⟩)] W S:=Z.q (zju G b st W Z.ps) hO
theorem St.wd (Z:St G b w t F st n W) {s:ByteArray} (h:zao G.T st=s) (hO:∀V,W.heap.size<=V.heap.size->St G b w t F st n V->S (.returned ↑s) V):Calls Tryz.prog 209 #[.pointer (some ⟨b,0,none⟩)] W S:=Z.q (h▸zhm G b st W Z.ps) hO
theorem St.node (Z:St G b w t F st n W) {k n1 a:Int} {s:ByteArray} {A:Option Addr} {m c:Nat} (hO:∀V,W.heap.size<=V.heap.size->St G b w t F st n V->S (.returned (.agg #[↑k,↑s,↑n1,↑a,.slice A m c])) V):Calls Tryz.prog 169 #[↑k,↑s,↑n1,↑a,.slice A m c] W S:=Z.q (zrB _ _ _ _ _ _ _ _) hO
theorem St.yes (Z:St G b w t F st n W) {l:ByteArray} (hl:l≠⟨#[]⟩) (hc:zao G.T st=l) (hO:∀V,W.heap.size<=V.heap.size->n+1<=G.T.length->St G b w t F st.adv (n+1) V->S (.returned (.bool true)) V):Calls Tryz.prog 211 #[.pointer (some ⟨b,0,none⟩),↑l] W S:=
 (zfq G b st l W Z.ps hc hl).mono (λe V h=>by
  obtain⟨rfl,k,hp⟩:=h;exact hO V (Chg.size k) (Z.nx▸hp.le) (Z.step k hp (by rw[<-Z.nx];rfl)))
theorem St.acc (Z:St G b w t F st n W) {l:ByteArray} {c:Prop} [Decidable c] {x y:R β} (hl:l≠⟨#[]⟩) (HF:Hid ((if c then x else y)=r)) (hc:c=(zao G.T st=l)) (h1:∀V,Hid (x=r)->W.heap.size<=V.heap.size->n+1<=G.T.length->St G b w t F st.adv (n+1) V->S (.returned (.bool true)) V)
 (h2:∀V,Hid (y=r)->W.heap.size<=V.heap.size->St G b w t F st n V->S (.returned (.bool false)) V):Calls Tryz.prog 211 #[.pointer (some ⟨b,0,none⟩),↑l] W S:=by
 subst hc
 by_cases hc:zao G.T st=l
 ·exact Z.yes hl hc (λV=>h1 V (hpos HF hc))
 ·exact Z.q (zeQ G b st l W Z.ps hc) (λV=>h2 V (hneg HF hc))
theorem St.go {α:Type} {x:R α} {Q:α->World->Ending->World->Prop} {f:α->Ps->R β} (Z:St G b w t F st n W) (K:Calls Tryz.prog fn args W (zaG G b Q x W)) {m:Nat} (ha:Adv x m) (HF:Hid (R.next x f=r)) (hE:∀a V,r=.error a->Own1 b w V->S (zcJ a) V)
 (hO:∀v st' e V,Hid (f v st'=r)->W.heap.size<=V.heap.size->m<=st'.next->st'.next<=G.T.length->St G b w t F st' st'.next V->Q v W e V->S e V):Calls Tryz.prog fn args W S:=zaG.next HF (zz Z.own) K hE (λv st' e V hx hf hc hp hq=>hO v st' e V hf (Chg.size hc) (ha v st' hx) hp.le (Z.step hc hp rfl) hq)
theorem St.ex (Z:St G b w t F st n W) {l:ByteArray} {f:Unit->Ps->R β} (hl:l≠⟨#[]⟩) (HF:Hid (R.next (zax G.T G.en l st) f=r)) (hE:∀a V,r=.error a->Own1 b w V->S (zcJ a) V)
 (hO:∀V,Hid (f () st.adv=r)->W.heap.size<=V.heap.size->n+1<=G.T.length->St G b w t F st.adv (n+1) V->S (.returned (.tuple #[])) V):Calls Tryz.prog 213 #[.pointer (some ⟨b,0,none⟩),↑l] W S:=
 zaG.nextE HF (zz Z.own) (zgC G b st l W Z.ps hl) hE (λV hf hc hp=>hO V hf (Chg.size hc) (Z.nx▸hp.le) (Z.step hc hp (by rw[<-Z.nx];rfl)))
theorem St.nm (Z:St G b w t F st n W) {K:Nat} {q:ByteArray->Bool} {f:ByteArray->Ps->R β} (hcf:∀(x:ByteArray) (W:World),(callFunc K #[↑x]).run Tryz.prog W=.ok (.enter K #[↑x]) W) (hq:∀(s:ByteArray) (w:World),s.size<=32768->Calls Tryz.prog K #[↑s] w λe w'=>e=.returned (.bool (q s))/\Below w.heap.size w w') (hn:q ⟨#[]⟩=false)
 (HF:Hid (R.next (zbw G.T G.en q st) f=r)) (hE:∀a V,r=.error a->Own1 b w V->S (zcJ a) V)
 (hO:∀V,Hid (f (zao G.T st) st.adv=r)->W.heap.size<=V.heap.size->n+1<=G.T.length->St G b w t F st.adv (n+1) V->S (.returned (.string (zao G.T st))) V):Calls Tryz.prog 212 #[.pointer (some ⟨b,0,none⟩),.func (.func K) #[] #[]] W S:=
 zaG.nextN rfl HF (zz Z.own) (zjL G b st K q hcf hq hn W Z.ps) hE (λV hf hc hp=>hO V hf (Chg.size hc) (Z.nx▸hp.le) (Z.step hc hp (by rw[<-Z.nx];rfl)))
theorem St.lower (Z:St G b w t F st n W) {f:ByteArray->Ps->R β} (HF:Hid (R.next (zbw G.T G.en zaH st) f=r)) (hE:∀a V,r=.error a->Own1 b w V->S (zcJ a) V)
 (hO:∀V,Hid (f (zao G.T st) st.adv=r)->W.heap.size<=V.heap.size->n+1<=G.T.length->St G b w t F st.adv (n+1) V->S (.returned (.string (zao G.T st))) V):Calls Tryz.prog 212 #[.pointer (some ⟨b,0,none⟩),.func (.func 175) #[] #[]] W S:=Z.nm (λ_ _=>by kernel_rfl) zcN zk HF hE hO
theorem St.upper (Z:St G b w t F st n W) {f:ByteArray->Ps->R β} (HF:Hid (R.next (zbw G.T G.en zaw st) f=r)) (hE:∀a V,r=.error a->Own1 b w V->S (zcJ a) V)
 (hO:∀V,Hid (f (zao G.T st) st.adv=r)->W.heap.size<=V.heap.size->n+1<=G.T.length->St G b w t F st.adv (n+1) V->S (.returned (.string (zao G.T st))) V):Calls Tryz.prog 212 #[.pointer (some ⟨b,0,none⟩),.func (.func 171) #[] #[]] W S:=Z.nm (λ_ _=>by kernel_rfl) zek zk HF hE hO
theorem St.typename (Z:St G b w t F st n W) {f:ByteArray->Ps->R β} (HF:Hid (R.next (zbw G.T G.en zdr st) f=r)) (hE:∀a V,r=.error a->Own1 b w V->S (zcJ a) V)
 (hO:∀V,Hid (f (zao G.T st) st.adv=r)->W.heap.size<=V.heap.size->n+1<=G.T.length->St G b w t F st.adv (n+1) V->S (.returned (.string (zao G.T st))) V):Calls Tryz.prog 212 #[.pointer (some ⟨b,0,none⟩),.func (.func 231) #[] #[]] W S:=Z.nm (λ_ _=>by kernel_rfl) zfz zk HF hE hO
theorem St.int (Z:St G b w t F st n W) {f:Int->Ps->R β} (HF:Hid (R.next (zcb G.T G.en st) f=r)) (hE:∀a V,r=.error a->Own1 b w V->S (zcJ a) V)
 (hO:∀i V,Hid (f i st.adv=r)->-9007199254740993<=i->i<=9007199254740993->W.heap.size<=V.heap.size->n+1<=G.T.length->St G b w t F st.adv (n+1) V->S (.returned (.int .i64 i)) V):Calls Tryz.prog 214 #[.pointer (some ⟨b,0,none⟩)] W S:=
 zaG.next HF (zz Z.own) (zms G b st W Z.ps) hE (λv st' e V hx hf hc hp hq=>by
  obtain⟨h1,h2,rfl⟩:=ztI Z.ps hx;have hq:e=.returned ↑v:=hq;subst hq;exact hO v V hf h1 h2 (Chg.size hc) (Z.nx▸hp.le) (Z.step hc hp (by rw[<-Z.nx];rfl)))
theorem St.nd (Z:St G b w t F st n W) {m j:Nat} (h:16*(G.T.length-n)+m<j):16*(G.T.length-st.next)+m<j:=by rw[Z.nx];exact h
theorem St.nd0 (Z:St G b w t F st n W) {j:Nat} (h:16*(G.T.length-n)<j):16*(G.T.length-st.next)<j:=by rw[Z.nx];exact h
theorem St.more (Z:St G b w t F st n W) (h:zao G.T st≠⟨#[]⟩):n+1<=G.T.length:=Z.nx▸PsAt.more h
theorem zBC {T:List Tok} {nt:NT} {st:Ps} (h:okAt T nt st):okAt T nt ⟨st.next,false⟩:=by cases nt<;>exact h
theorem St.run {k:Nat} {rec:NT->Ps->R Nd} (Z:St G b w t F st n W) (H:Recs G b k rec) (nt:NT) (rk:Nat) (hk:16*(G.T.length-n)+rk<k) (ho:okAt G.T nt st) (hr:nt.rank=rk):Calls Tryz.prog (fnN nt) (argN b nt) W (zaG G b QNd (rec nt st) W):=H.run nt st ho (by subst hr;exact Z.nd hk) W Z.ps
theorem St.gn {x:R Nd} {f:Nd->Ps->R β} (Z:St G b w t F st n W) (K:Calls Tryz.prog fn args W (zaG G b QNd x W)) (ha:Adv x (st.next+1)) (HF:Hid (R.next x f=r)) (hE:∀a V,r=.error a->Own1 b w V->S (zcJ a) V)
 (hO:∀y st' A c V,Hid (f y st'=r)->W.heap.size<=V.heap.size->n+1<=st'.next->st'.next<=G.T.length->St G b w t (λU=>Rk W.heap.size y.kids (.slice A y.kids.length c) U/\F U) st' st'.next V->S (.returned (.agg #[.int .i64 y.kind,.string y.text,.int .i64 y.n,.int .i64 y.at',.slice A y.kids.length c])) V):Calls Tryz.prog fn args W S:=
 Z.go K ha HF hE (λx st' e V hf hs hm hle Z' hq=>by
  obtain⟨A,c,rfl,hR⟩:=hq;exact hO x st' A c V hf hs (Z.nx▸hm) hle (Z'.addRk Z.sz hR))
theorem St.nt {k:Nat} {rec:NT->Ps->R Nd} (Z:St G b w t F st n W) (H:Recs G b k rec) (nt:NT) (rk:Nat) {f:Nd->Ps->R β} (HF:Hid (R.next (rec nt st) f=r)) (hk:16*(G.T.length-n)+rk<k) (ho:okAt G.T nt st) (hr:nt.rank=rk) (hE:∀a V,r=.error a->Own1 b w V->S (zcJ a) V)
 (hO:∀x st' A c V,Hid (f x st'=r)->W.heap.size<=V.heap.size->n+1<=st'.next->st'.next<=G.T.length->St G b w t (λU=>Rk W.heap.size x.kids (.slice A x.kids.length c) U/\F U) st' st'.next V->S (.returned (.agg #[.int .i64 x.kind,.string x.text,.int .i64 x.n,.int .i64 x.at',.slice A x.kids.length c])) V):Calls Tryz.prog (fnN nt) (argN b nt) W S:=
 Z.gn (Z.run H nt rk hk ho hr) (H.adv nt st) HF hE hO
theorem St.okr {x:Nd} {st':Ps} (Z:St G b w t F st n W) (K:Calls Tryz.prog fn args W (zaG G b QNd (.ok (x,st')) W))
 (hO:∀A c V,W.heap.size<=V.heap.size->st'.next<=G.T.length->St G b w t (λU=>Rk W.heap.size x.kids (.slice A x.kids.length c) U/\F U) st' st'.next V->S (.returned (.agg #[↑x.kind,↑x.text,↑x.n,↑x.at',.slice A x.kids.length c])) V):Calls Tryz.prog fn args W S:=K.mono (λe V h=>by
 obtain⟨hc,hp,A,c,rfl,hR⟩:=h;exact hO A c V (Chg.size hc) hp.le ((Z.step hc hp rfl).addRk Z.sz hR))
theorem St.er {α:Type} {Q:α->World->Ending->World->Prop} {a:Int} (Z:St G b w t F st n W) (K:Calls Tryz.prog fn args W (zaG G b Q (.error a) W)) (hE:∀V,Own1 b w V->S (zcJ a) V):Calls Tryz.prog fn args W S:=K.mono (λe V h=>by
 obtain⟨hc,rfl⟩:=h;exact hE V (Z.own.trans hc))
theorem St.ns {m:Nat} {x:R (List Nd)} {f:List Nd->Ps->R β} (Z:St G b w t F st n W) (K:Calls Tryz.prog fn args W (zaG G b (QNs m) x W)) (ha:Adv x (st.next+1)) (HF:Hid (R.next x f=r)) (hE:∀a V,r=.error a->Own1 b w V->S (zcJ a) V)
 (hO:∀l st' A c V,Hid (f l st'=r)->l.length<=m->W.heap.size<=V.heap.size->n+1<=st'.next->st'.next<=G.T.length->St G b w t (λU=>Ow W.heap.size V.heap.size l (.slice A l.length c) U/\F U) st' st'.next V->S (.returned (.slice A l.length c)) V):Calls Tryz.prog fn args W S:=
 Z.go K ha HF hE (λl st' e V hf hs hm hle Z' hq=>by
  obtain⟨A,c,rfl,hl,hR⟩:=hq;exact hO l st' A c V hf hl hs (Z.nx▸hm) hle (Z'.addOw Z.sz ⟨hR,λg hg=>(hR.below_own g hg).2⟩))
theorem St.its {k:Nat} {rec:NT->Ps->R Nd} (Z:St G b w t F st n W) (H:Recs G b k rec) (nt:NT) (rk:Nat) {stop:ByteArray} {f:List Nd->Ps->R β} (HF:Hid (R.next (zdM G.T G.en (rec nt) stop k st) f=r)) (hk:16*(G.T.length-n)+rk<k) (hs:stop≠⟨#[]⟩) (ho:okAt G.T nt st) (hc:∀t,zao G.T t=(⟨#[44]⟩:ByteArray)->okAt G.T nt t.adv) (hr:nt.rank=rk) (hg:argN b nt=#[.pointer (some ⟨b,0,none⟩)]) (hcf:∀(x:Option Addr) (W:World),(callFunc (fnN nt) #[.pointer x]).run Tryz.prog W=.ok (.enter (fnN nt) #[.pointer x]) W)
 (hE:∀a V,r=.error a->Own1 b w V->S (zcJ a) V)
 (hO:∀l st' A c V,Hid (f l st'=r)->l.length<=32768->W.heap.size<=V.heap.size->n+1<=st'.next->st'.next<=G.T.length->St G b w t (λU=>Ow W.heap.size V.heap.size l (.slice A l.length c) U/\F U) st' st'.next V->S (.returned (.slice A l.length c)) V):Calls Tryz.prog 221 #[.pointer (some ⟨b,0,none⟩),↑stop,.func (.func (fnN nt)) #[.pointer (some ⟨b,0,none⟩)] #[]] W S:=
 Z.ns (zie G b k rk (rec nt) (fnN nt) hcf (okAt G.T nt) hc (λst w ho hn hp=>hg▸H.run nt st ho (by subst hr;exact hn) w hp) (H.adv nt) stop hs st (zBC ho) (Z.nd hk) W Z.ps) (zcg G.T G.en (H.adv nt) stop k st) HF hE hO
theorem St.lst {k:Nat} {rec:NT->Ps->R Nd} (Z:St G b w t F st n W) (H:Recs G b k rec) (nt:NT) (rk:Nat) {stop:ByteArray} {f:List Nd->Ps->R β} (HF:Hid (R.next (zia G.T G.en (rec nt) stop k st) f=r)) (hk:16*(G.T.length-n)+rk<k) (hs:stop≠⟨#[]⟩) (ho:okAt G.T nt st) (hc:∀t,zao G.T t=(⟨#[44]⟩:ByteArray)->okAt G.T nt t.adv) (hr:nt.rank=rk) (hg:argN b nt=#[.pointer (some ⟨b,0,none⟩)]) (hcf:∀(x:Option Addr) (W:World),(callFunc (fnN nt) #[.pointer x]).run Tryz.prog W=.ok (.enter (fnN nt) #[.pointer x]) W)
 (hE:∀a V,r=.error a->Own1 b w V->S (zcJ a) V)
 (hO:∀l st' A c V,Hid (f l st'=r)->l.length<=32768->W.heap.size<=V.heap.size->n+1<=st'.next->st'.next<=G.T.length->St G b w t (λU=>Ow W.heap.size V.heap.size l (.slice A l.length c) U/\F U) st' st'.next V->S (.returned (.slice A l.length c)) V):Calls Tryz.prog 217 #[.pointer (some ⟨b,0,none⟩),↑stop,.func (.func (fnN nt)) #[.pointer (some ⟨b,0,none⟩)] #[]] W S:=
 Z.ns (zrG G b k rk (rec nt) (fnN nt) hcf (okAt G.T nt) hc (λst w ho hn hp=>hg▸H.run nt st ho (by subst hr;exact hn) w hp) (H.adv nt) stop hs st (zBC ho) (Z.nd hk) W Z.ps) (zdm G.T G.en (H.adv nt) stop k st) HF hE hO
theorem St.accN (Z:St G b w t F st n W) {l:ByteArray} {c:Prop} [Decidable c] {x y:R β} (HF:Hid ((if c then x else y)=r)) (hc:c=(zao G.T st=l)) (hn:zao G.T st≠l)
 (h2:∀V,Hid (y=r)->W.heap.size<=V.heap.size->St G b w t F st n V->S (.returned (.bool false)) V):Calls Tryz.prog 211 #[.pointer (some ⟨b,0,none⟩),↑l] W S:=by
 subst hc;exact Z.q (zeQ G b st l W Z.ps hn) (λV=>h2 V (hneg HF hn))
theorem St.accY (Z:St G b w t F st n W) {l:ByteArray} {c:Prop} [Decidable c] {x y:R β} (hl:l≠⟨#[]⟩) (HF:Hid ((if c then x else y)=r)) (hc:c=(zao G.T st=l)) (hy:zao G.T st=l) (h1:∀V,Hid (x=r)->W.heap.size<=V.heap.size->n+1<=G.T.length->St G b w t F st.adv (n+1) V->S (.returned (.bool true)) V):Calls Tryz.prog 211 #[.pointer (some ⟨b,0,none⟩),↑l] W S:=by
 subst hc;exact Z.yes hl hy (λV=>h1 V (hpos HF hy))
theorem St.exw (Z:St G b w t F st n W) {l:ByteArray} {f:Unit->Ps->R β} (hl:l≠⟨#[]⟩) (HF:Hid (R.next (zax G.T G.en l st) f=r)) (hE:∀a V,r=.error a->Own1 b w V->S (zcJ a) V)
 (hO:∀V,zao G.T st=l->Hid (f () st.adv=r)->W.heap.size<=V.heap.size->n+1<=G.T.length->St G b w t F st.adv (n+1) V->S (.returned (.tuple #[])) V):Calls Tryz.prog 213 #[.pointer (some ⟨b,0,none⟩),↑l] W S:=by
 by_cases hc:zao G.T st=l
 ·exact Z.ex hl HF hE (λV=>hO V hc)
 ·have K:=zgC G b st l W Z.ps hl;rw[zjf hc] at K;exact Z.er K (λV k=>hE _ V (her HF (zjf hc)) k)
theorem St.nte {k:Nat} {rec:NT->Ps->R Nd} (Z:St G b w t F st n W) (H:Recs G b k rec) (nt:NT) (rk:Nat) {f:Nd->Ps->R β} (HF:Hid (R.next (rec nt st) f=r)) (hk:16*(G.T.length-n)+rk<k) (ho:okAt G.T nt st) (hr:nt.rank=rk) (hE:∀a V,r=.error a->Own1 b w V->S (zcJ a) V)
 (hO:∀x st' A c V,rec nt st=.ok (x,st')->Hid (f x st'=r)->W.heap.size<=V.heap.size->n+1<=st'.next->st'.next<=G.T.length->St G b w t (λU=>Rk W.heap.size x.kids (.slice A x.kids.length c) U/\F U) st' st'.next V->S (.returned (.agg #[.int .i64 x.kind,.string x.text,.int .i64 x.n,.int .i64 x.at',.slice A x.kids.length c])) V):Calls Tryz.prog (fnN nt) (argN b nt) W S:=by
 have K:=Z.run H nt rk hk ho hr;cases hx:rec nt st with
 |error a=>rw[hx] at K;exact Z.er K (λV k=>hE a V (her HF hx) k)
 |ok p=>
  obtain⟨x,st'⟩:=p;rw[hx] at K;exact Z.okr K (λA c V hs hle Z'=>hO x st' A c V hx (hok HF hx) hs (Z.nx▸H.next hx) hle Z')
def Ct (g:Nat) (u0 u1 u2 u3:Value) (U:World):Prop:=zab U g #[u0,u1,u2,u3] 198
theorem Ct.c4 {g:Nat} {u0 u1 u2 u3:Value} {w:World} (h:Ct g u0 u1 u2 u3 w):w.cell? ⟨g,0,none⟩=some u0/\w.cell? ⟨g,1,none⟩=some u1/\w.cell? ⟨g,2,none⟩=some u2/\w.cell? ⟨g,3,none⟩=some u3:=⟨zab.cell h 0,zab.cell h 1,zab.cell h 2,zab.cell h 3⟩
theorem St.tkb (Z:St G b w t F st n W) (u0 u1 u2 u3:Value):∃V,W.alloc (.cells #[u0,u1,u2,u3] 198)=V/\W.heap.size+1<=V.heap.size/\St G b w t (λU=>Ct W.heap.size u0 u1 u2 u3 U/\F U) st n V:=
 ⟨_,rfl,by simp,(Z.below ((Below.refl W.heap.size W).alloc (Nat.le_refl _) _)).add (zab.new _ _ _) (λ_ _ _ k q=>zab.keep q k (λe=>by have:=Z.hb;have:=Z.sz;omega))⟩
theorem St.lit (Z:St G b w t F st n W) {lo:Nat} (l:List NdV) (hw:w.heap.size<=lo) (hlo:lo<=W.heap.size) (h:∀y∈l,Rk lo y.x.kids (.slice y.A y.x.kids.length y.c) W) (hn:l.length<=32768) :
 W.heap.size+1<=(W.alloc (.cells (l.flatMap NdV.cells).toArray 49)).heap.size/\St G b w t (λU=>Rk lo (l.map NdV.x) (.slice (some ⟨W.heap.size,0,none⟩) (l.map NdV.x).length l.length) U/\F U) st n (W.alloc (.cells (l.flatMap NdV.cells).toArray 49)):=
 ⟨by simp,(Z.below ((Below.refl W.heap.size W).alloc (Nat.le_refl _) _)).addRk hw (zuk l hlo h hn)⟩
theorem Rk.up {lo lo':Nat} {l:List Nd} {v:Value} {U:World} (hl:lo<=lo') (h:Rk lo' l v U):Rk lo l v U:=Rd.weaken (λ_ hq=>⟨Nat.le_trans hl hq.1,hq.2⟩) h
theorem St.lit1 (Z:St G b w t F st n W) {lo:Nat} {x:Nd} {A:Option Addr} {c:Nat} (h:Rk lo x.kids (.slice A x.kids.length c) W) (hw:w.heap.size<=lo) (hlo:lo<=W.heap.size) :
 ∃V,W.alloc (.cells #[↑x.kind,↑x.text,↑x.n,↑x.at',.slice A x.kids.length c] 49)=V/\W.heap.size+1<=V.heap.size/\St G b w t (λU=>Rk lo [x] (.slice (some ⟨W.heap.size,0,none⟩) 1 1) U/\F U) st n V:=
 ⟨_,rfl,Z.lit [⟨x,A,c⟩] hw hlo (λy hy=>by simp only[List.mem_cons,List.not_mem_nil,or_false] at hy;subst hy;exact h) zs⟩
theorem St.hd3 (Z:St G b w t F st n W) (v:Bool):W.cell? ⟨b,3,none⟩=some (.bool st.head)/\W.frozen? ⟨b,3,none⟩=false/\∃V,W.setCell ⟨b,3,none⟩ ↑v=V/\W.heap.size<=V.heap.size/\St G b w t F ⟨n,v⟩ n V:=by
 have hp:=Z.ps.set3 v;rw[Z.nx] at hp;exact⟨Z.ps.c3,Z.ps.fz 3,_,rfl,Nat.le_of_eq (zbs _ _ _).symm,Z.step (zcT (Below.refl _ _) 3 _) hp rfl⟩
theorem St.c1 (Z:St G b w t F st n W):W.cell? ⟨b,1,none⟩=some (.int .i64 (n:Int)):=Z.nx▸Z.ps.c1
theorem St.fin {r:R Nd} (Z:St G b w true F st n W) {f:Func} {p:Tmp} {a:Act} {kd n1 at':Int} {s:ByteArray} {l:List Nd} {A:Option Addr} {m c lo:Nat} (HF:Hid (Except.ok (Nd.mk kd s n1 at' l,st)=r)) (hR:Rk lo l (.slice A l.length c) W) (hlo:w.heap.size<lo) (hm:m=l.length) (hf:f.results=#[.cell p 49]) (ha:a.tmps.getD p undef=.pointer (some ⟨w.heap.size,0,none⟩)) (hd:a.defers=[]) :
 bodyPost Tryz.prog f (zaG G b QNd r w) .ret a (((((W.setCell ⟨w.heap.size,0,none⟩ ↑kd).setCell ⟨w.heap.size,1,none⟩ ↑s).setCell ⟨w.heap.size,2,none⟩ ↑n1).setCell ⟨w.heap.size,3,none⟩ ↑at').setCell ⟨w.heap.size,4,none⟩ (.slice A m c)):=
 bodyPost_ret (results_cell_row hf _ _ w.heap.size _ _ (0,0) _ ha (zex _ _ _ _ _ (Z.bx rfl)) Tryz.underlying49 rfl zjT) hd (zux (x:=.mk kd s n1 at' l) (A:=A) (c:=c) (lo:=lo) HF.out.symm Z.own Z.hb Z.hl Z.ps hlo hR hm _ _ _ _ _)
theorem St.fin0 {r:R Nd} (Z:St G b w true F st n W) {f:Func} {p:Tmp} {a:Act} {kd n1 at':Int} {s:ByteArray} (HF:Hid (Except.ok (Nd.mk kd s n1 at' [],st)=r)) (hf:f.results=#[.cell p 49]) (ha:a.tmps.getD p undef=.pointer (some ⟨w.heap.size,0,none⟩)) (hd:a.defers=[]) :
 bodyPost Tryz.prog f (zaG G b QNd r w) .ret a (((((W.setCell ⟨w.heap.size,0,none⟩ ↑kd).setCell ⟨w.heap.size,1,none⟩ ↑s).setCell ⟨w.heap.size,2,none⟩ ↑n1).setCell ⟨w.heap.size,3,none⟩ ↑at').setCell ⟨w.heap.size,4,none⟩ (.slice none 0 0)):=
 Z.fin HF (Rd.sl_nil:Rk (w.heap.size+1) [] _ _) (Nat.lt_succ_self _) rfl hf ha hd
theorem St.finx {r:R Nd} (Z:St G b w true F st n W) {f:Func} {p:Tmp} {a:Act} {x:Nd} {A:Option Addr} {c lo:Nat} (HF:Hid (Except.ok (x,st)=r)) (hR:Rk lo x.kids (.slice A x.kids.length c) W) (hlo:w.heap.size<lo) (hf:f.results=#[.cell p 49]) (ha:a.tmps.getD p undef=.pointer (some ⟨w.heap.size,0,none⟩)) (hd:a.defers=[]) :
 bodyPost Tryz.prog f (zaG G b QNd r w) .ret a (((((W.setCell ⟨w.heap.size,0,none⟩ ↑x.kind).setCell ⟨w.heap.size,1,none⟩ ↑x.text).setCell ⟨w.heap.size,2,none⟩ ↑x.n).setCell ⟨w.heap.size,3,none⟩ ↑x.at').setCell ⟨w.heap.size,4,none⟩ (.slice A x.kids.length c)):=by
 obtain⟨kd,s,n1,at',l⟩:=x;exact Z.fin HF hR hlo rfl hf ha hd
theorem St.bx5 (Z:St G b w true F st n W):(W.cell? ⟨w.heap.size,0,none⟩=some ↑()/\W.cell? ⟨w.heap.size,1,none⟩=some ↑zj.a/\W.cell? ⟨w.heap.size,2,none⟩=some ↑()/\W.cell? ⟨w.heap.size,3,none⟩=some ↑()/\W.cell? ⟨w.heap.size,4,none⟩=some (.slice none 0 0))/\∀j,W.frozen? ⟨w.heap.size,j,none⟩=false:=⟨(Z.bx rfl).c5,(Z.bx rfl).fz⟩
theorem St.row (Z:St G b w t F st n W) {lo hi:Nat} {l:List Nd} {v:Value} (h:Ow lo hi l v W) (hw:w.heap.size<=lo):St G b w t (Ow lo W.heap.size l v) st n W:=Z.only ⟨h.1,λg hg=>(h.1.below_own g hg).2⟩ (λ_ _ _ k q=>Ow.ls (Nat.lt_of_lt_of_le Z.hb hw) k q)
theorem St.row0 (Z:St G b w t F st n W) {lo:Nat} (hw:w.heap.size<=lo):St G b w t (Ow lo W.heap.size [] (.slice none 0 0)) st n W:=Z.row (lo:=lo) (hi:=W.heap.size) ⟨zaz.nil _ _ _ _ _,λg hg=>by cases hg⟩ hw
theorem St.psn (Z:St G b w t F st n W):zeG W b=n:=by rw[zhs Z.ps,Z.nx]
theorem St.set (Z:St G b w t F st n W) {g j:Nat} {u:Value} {cs:Array Value} {F':World->Prop} (hg:w.heap.size<g) (h:zab W g cs 49) (hF:∀V,Chg (λk=>k=g) W V->zab V g (cs.setIfInBounds j u) 49->F' V) (hl:∀U V,w.heap.size<=U.heap.size->Own1 b U V->F' U->F' V) :
 (∀j,W.frozen? ⟨g,j,none⟩=false)/\∃V,W.setCell ⟨g,j,none⟩ u=V/\W.heap.size<=V.heap.size/\St G b w t F' st n V:=by
 have hb:=Z.hb;have hL:=Z.hl;have hc:Chg (λk=>k=g) W (W.setCell ⟨g,j,none⟩ u):=(Chg.refl (λk=>k=g) W).setCell (p:=⟨g,j,none⟩) (.inl rfl) _;exact⟨h.fz,_,rfl,hc.size,Z.ps.keep hc (λk hk=>⟨zo,zo⟩),Chg.trans Z.own hc (λk hk=>.inr zo),hb,hL,Z.nx,λe=>zab.keep (Z.bx e) hc zo,hF _ hc (h.set j u),hl⟩
theorem St.set1 {g:Nat} {u0 u1 u2 u3 u4:Value} (Z:St G b w t (λU=>Cn g u0 u1 u2 u3 u4 U/\True) st n W) (hg:w.heap.size<g) (u:Value) :
 (∀j,W.frozen? ⟨g,j,none⟩=false)/\∃V,W.setCell ⟨g,1,none⟩ u=V/\W.heap.size<=V.heap.size/\St G b w t (λU=>Cn g u0 u u2 u3 u4 U/\True) st n V:=
 Z.set hg Z.fx.1 (λV _ h=>⟨h,trivial⟩) (λ_ _ _ k q=>⟨Cn.ls (λe=>by have:=Z.hb;omega) k q.1,trivial⟩)
theorem St.grown (Z:St G b w t F st n W) {lo:Nat} (hw:w.heap.size<=lo) (ht:t=true->w.heap.size<lo) {l L:List Nd} {v v':Value} {V:World} (hO:zaz lo 49 5 l.length (zan Nd.row l) W v) (hg:W.grownBy V v.ownBlock) (hO':zaz lo 49 5 L.length (zan Nd.row L) V v'):St G b w t (Ow lo V.heap.size L v') st n V:=by
 have hb:=Z.hb;have hl:=Z.hl;have hch:Chg (λk=>lo<=k) W V:=Chg.of_grown hg (λk hk=>(hO.below_own k hk).1);exact⟨Z.ps.keep hch (λk hk=>⟨zo,zo⟩),Chg.trans Z.own hch (λj hj=>.inr zo),hb,hl,Z.nx,λe=>zab.keep (Z.bx e) hch (by have:=ht e;omega),⟨hO',λg hq=>(hO'.below_own g hq).2⟩,λ_ _ _ k q=>Ow.ls zo k q⟩
theorem St.wp_app (Z:St G b w t F st n W) {lo hi hi':Nat} {l:List Nd} {x:Nd} {v:Value} {A:Option Addr} {c:Nat} (hO:Ow lo hi l v W) (hR:Rk hi' x.kids (.slice A x.kids.length c) W) {ops:Array Oper} {rest:List Oper} {o:Oper} {a:Act} {Q:Exit->Act->World->Prop} {s y:Operand} (hgd:o.guard=none) (ho:o.op=.call {callee:=.builtin .append,args:=#[s,y],argTypes:=#[47,47] }) (hs:a.eval s=v) (hy:a.eval y=.slice (some ⟨W.heap.size,0,none⟩) 1 1)
 (hh:hi<=hi') (hw:w.heap.size<=lo) (ht:t=true->w.heap.size<lo) (hlo:lo<=hi') (hlw:lo<=W.heap.size) (hlen:l.length<=2097152) (h:∀L A' c' V,l++[x]=L->L.length<=l.length+1->W.heap.size<=V.heap.size->St G b w t (Ow lo V.heap.size L (.slice A' L.length c')) st n V->wpList Tryz.prog ops Q rest (a.put o.dst (.slice A' L.length c')) V) :
 wpList Tryz.prog ops Q (o::rest) a (W.alloc (.cells #[↑x.kind,↑x.text,↑x.n,↑x.at',.slice A x.kids.length c] 49)):=by
 have hb:=(Below.refl W.heap.size W).alloc (Nat.le_refl _) (.cells #[↑x.kind,↑x.text,↑x.n,↑x.at',.slice A x.kids.length c] 49);have hO1:=hO.1.below hb;refine zba Nd.row zef Tryz.underlying47 rfl zo zo hgd s y ho lo (by simp;omega) v l hs hO1 ⟨W.heap.size,0,none⟩ 1 x (zfK x A c) rfl hy (zfI _ _ _ _) (zsN (zaF hb hR) hlo (λg hg=>Nat.lt_of_lt_of_le (hO.2 g hg) hh)) hlen ?_;intro v' V hO' hg _;obtain⟨A',c',rfl,_⟩:=hO'.rd.sl_inv;have hz:W.heap.size<=V.heap.size:=Nat.le_trans hb.size hg.size;exact h _ A' c' V rfl (Nat.le_of_eq zs) hz ((Z.below hb).grown hw ht hO1 hg hO')
end
end Go.Proofs.YtcebmphappfjjaaGreatDoor
