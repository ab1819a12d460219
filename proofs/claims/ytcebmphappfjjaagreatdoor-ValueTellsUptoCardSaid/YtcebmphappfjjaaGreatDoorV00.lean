/- Conditions: those in each statement. -/
import Derived.WalkKit
import Derived.LoopTactic
import Derived.Outline
import Derived.Below
import Derived.Deep.QuietTactic
import Derived.BigQuiet
import Derived.Deep.Draws
import Derived.Lib.Hide
import Derived.RegionTactic
import Derived.WalkLawsBesides
import Derived.WalkSpells
import Derived.Laws.Rows
import Derived.Laws.IdiomCopy
import Derived.Test.YtcebmphappfjjaaGreatDoorProg
import Derived.Laws.IdiomStrings
set_option maxHeartbeats 32000000
set_option maxRecDepth 100000
namespace Go.Proofs.YtcebmphappfjjaaGreatDoor
open Go.RowKit
theorem zo {P:Prop} (h:P:=by omega):P:=h
theorem zr {P:Prop} (h:P:=by rfl):P:=h
theorem zs {P:Prop} (h:P:=by simp):P:=h
theorem zd {P:Prop} (h:P:=by decide):P:=h
theorem zk {P:Prop} (h:P:=by kernel_rfl):P:=h
theorem zn {α:Sort _} (a:α):∃k,a=k:=⟨a,rfl⟩
theorem zi {P:Program} {f:FuncId} {a:Array Value} {w:World} {Q S:Ending->World->Prop} (K:Go.RowKit.Hid (Calls P f a w Q)) (h:∀e w',Q e w'->S e w'):Calls P f a w S:=(Go.RowKit.Hid.out K).mono h
inductive zj|a
instance:Coe Int Value:=⟨λx=>.int .i64 x⟩
instance:Coe Nat Value:=⟨λx=>.int .i64 x⟩
instance:Coe ByteArray Value:=⟨.string⟩
instance:Coe Bool Value:=⟨.bool⟩
instance:Coe Unit Value:=⟨λ_=>.int .i64 0⟩
instance:Coe zj Value:=⟨λ_=>.string ⟨#[]⟩⟩
inductive D where
 |num (k:IntKind) (n:Int)
 |bool (b:Bool)
 |str (s:ByteArray)
 |sl (k n:Nat) (f:Nat->Nat->D)
def Rd (ok:Nat->Prop) (w:World):D->Value->Prop
 |.num k n,v=>v=.int k n
 |.bool b,v=>v=.bool b
 |.str s,v=>v=.string s
 |.sl k n f,v=>∃A c,v=.slice A n c/\n<=c/\c<=9223372036854775807/\
  (0<n->∃b off,A=some ⟨b,off,none⟩/\ok b/\∀i,i<n->∀j,j<k->∃u,w.cell? ⟨b,off+i*k+j,none⟩=some u/\Rd ok w (f i j) u)
def zcI (ok:Nat->Prop) (w:World) (b o k:Nat) (f:Nat->D):Prop:=∀j,j<k->∃u,w.cell? ⟨b,o+j,none⟩=some u/\Rd ok w (f j) u
section
variable {ok ok':Nat->Prop} {w w':World}
theorem Rd.weaken (h:∀b,ok b->ok' b):∀{d:D} {v:Value},Rd ok w d v->Rd ok' w d v
 |.num _ _,_,hr=>hr
 |.bool _,_,hr=>hr
 |.str _,_,hr=>hr
 |.sl _ _ _,_,hr=>by
  obtain⟨A,c,rfl,h1,h2,h3⟩:=hr;refine⟨A,c,rfl,h1,h2,λhn=>?_⟩;obtain⟨b,off,rfl,hb,hc⟩:=h3 hn;refine⟨b,off,rfl,h b hb,λi hi j hj=>?_⟩;obtain⟨u,hu,hr⟩:=hc i hi j hj;exact⟨u,hu,Rd.weaken h hr⟩
theorem Rd.keep (h:∀b o,ok b->w'.cell? ⟨b,o,none⟩=w.cell? ⟨b,o,none⟩):∀{d:D} {v:Value},Rd ok w d v->Rd ok w' d v
 |.num _ _,_,hr=>hr
 |.bool _,_,hr=>hr
 |.str _,_,hr=>hr
 |.sl _ _ _,_,hr=>by
  obtain⟨A,c,rfl,h1,h2,h3⟩:=hr;refine⟨A,c,rfl,h1,h2,λhn=>?_⟩;obtain⟨b,off,rfl,hb,hc⟩:=h3 hn;refine⟨b,off,rfl,hb,λi hi j hj=>?_⟩;obtain⟨u,hu,hr⟩:=hc i hi j hj;exact⟨u,(h b _ hb).trans hu,Rd.keep h hr⟩
theorem Rd.below {B:Nat} (hb:Below B w w') (hok:∀b,ok b->b<B) {d:D} {v:Value} (h:Rd ok w d v):Rd ok w' d v:=
 h.keep λb o hb'=>hb.cell (p:=⟨b,o,none⟩) (hok b hb')
theorem Rd.drewN (n:Nat) {d:D} {v:Value} (h:Rd ok w d v):Rd ok (w.drewN n) d v:=Rd.keep (w:=w) (w':=w.drewN n) (λ_ _ _=>rfl) h
theorem Rd.drew {d:D} {v:Value} (h:Rd ok w d v):Rd ok w.drew d v:=Rd.keep (w:=w) (w':=w.drew) (λ_ _ _=>rfl) h
theorem zcI.weaken (h:∀b,ok b->ok' b) {b o k:Nat} {f:Nat->D} (hr:zcI ok w b o k f):zcI ok' w b o k f:=λj hj=>by
 obtain⟨u,hu,hr⟩:=hr j hj;exact⟨u,hu,hr.weaken h⟩
theorem zcI.keep (h:∀b o,ok b->w'.cell? ⟨b,o,none⟩=w.cell? ⟨b,o,none⟩) {b o k:Nat} {f:Nat->D} (hs:∀j,j<k->w'.cell? ⟨b,o+j,none⟩=w.cell? ⟨b,o+j,none⟩) (hr:zcI ok w b o k f):zcI ok w' b o k f:=λj hj=>by
 obtain⟨u,hu,hr⟩:=hr j hj;exact⟨u,(hs j hj).trans hu,hr.keep h⟩
theorem Rd.sl_inv {k n:Nat} {f:Nat->Nat->D} {v:Value} (h:Rd ok w (.sl k n f) v):∃A c,v=.slice A n c/\n<=c/\c<=9223372036854775807/\
 (0<n->∃b off,A=some ⟨b,off,none⟩/\ok b/\∀i,i<n->zcI ok w b (off+i*k) k (f i)):=h
theorem Rd.sl_mk {k n c:Nat} {f:Nat->Nat->D} {A:Option Addr} (h1:n<=c) (h2:c<=9223372036854775807)
 (h:0<n->∃b off,A=some ⟨b,off,none⟩/\ok b/\∀i,i<n->zcI ok w b (off+i*k) k (f i)):Rd ok w (.sl k n f) (.slice A n c):=⟨A,c,rfl,h1,h2,h⟩
theorem Rd.sl_nil {k:Nat} {f:Nat->Nat->D}:Rd ok w (.sl k 0 f) (.slice none 0 0):=⟨none,0,rfl,Nat.le_refl _,zo,λh=>absurd h zo⟩
theorem Rd.sl_congr {k n:Nat} {f g:Nat->Nat->D} {v:Value} (hfg:∀i j,i<n->j<k->f i j=g i j) (h:Rd ok w (.sl k n f) v):Rd ok w (.sl k n g) v:=by
 obtain⟨A,c,rfl,h1,h2,h3⟩:=h;refine⟨A,c,rfl,h1,h2,λhn=>?_⟩;obtain⟨b,off,rfl,hb,hc⟩:=h3 hn;exact⟨b,off,rfl,hb,λi hi j hj=>by rw[<-hfg i j hi hj];exact hc i hi j hj⟩
end
def Any (_:Nat):Prop:=True
def Lt (B b:Nat):Prop:=b<B
def Bt (B C b:Nat):Prop:=B<=b/\b<C
def ztk:D->Prop
 |.sl k n f=>0<k/\∀i,i<n->∀j,j<k->ztk (f i j)
 |_=>True
theorem zae {B:Nat} {a w:World} (h:Below B a w) (n:Nat):Below B a (w.drewN n):=⟨h.os,h.tape,h.output,h.size,h.block⟩
theorem zac {B:Nat} {a b c:World} (h:Below B a b) (k:Below b.heap.size b c) (hB:B<=b.heap.size):Below B a c:=h.trans (k.mono hB)
theorem zbG (w:World) (arr:Array Value) (e:TypeId) (j:Nat):(w.alloc (.cells arr e)).cell? ⟨w.heap.size,j,none⟩=arr[j]?:=cell_of_row _ _ j arr e (0,0) (heap_alloc_new w _)
theorem Rd.setCell {ok:Nat->Prop} {w:World} {d:D} {v:Value} (h:Rd ok w d v) {p:Addr} (hp:∀b,ok b->b≠p.block) (u:Value):Rd ok (w.setCell p u) d v:=
 h.keep λb o hb=>World.cell?_setCell_other w p ⟨b,o,none⟩ u (λe=>hp b hb (by rw[e]))
theorem Rd.allocs {w:World} {d:D} {v:Value} (h:Rd (Lt w.heap.size) w d v) (o:Obj):Rd (Lt (w.alloc o).heap.size) (w.alloc o) d v:=
 (h.below ((Below.refl w.heap.size w).alloc (Nat.le_refl _) o) (λ_ h=>h)).weaken (λb hb=>by unfold Lt at *;simp;omega)
theorem Rd.belows {w w':World} {d:D} {v:Value} (h:Rd (Lt w.heap.size) w d v) (hb:Below w.heap.size w w'):Rd (Lt w'.heap.size) w' d v:=
 (h.below hb (λ_ h=>h)).weaken (λ_ hb'=>Nat.lt_of_lt_of_le hb' hb.size)
theorem zbs (w:World) (p:Addr) (u:Value):(w.setCell p u).heap.size=w.heap.size:=by simp[World.setCell]
theorem zfU (g:Nat):∀(us:List Value) (o:Nat) (w:World),(w.setCells g o us).heap.size=w.heap.size
 |[],_,_=>rfl
 |u::r,o,w=>by rw[World.setCells,zfU g r,zbs]
theorem zzt {B:Nat} {a:World} (b:Nat) (hb:B<=b):∀(vs:List Value) (o:Nat) {w:World},Below B a w->Below B a (w.setCells b o vs)
 |[],_,_,h=>h
 |v::r,o,_,h=>zzt b hb r (o+1) (h.setCell (p:=⟨b,o,none⟩) hb v)
theorem ztA {w:World} {b o:Nat} {vs:List Value} (h:∀j,j<vs.length->(w.cell? ⟨b,o+j,none⟩).isSome=true) (k:Nat) (h1:o<=k) (h2:k<o+vs.length) :
 (w.setCells b o vs).cell? ⟨b,k,none⟩=vs[k-o]?:=by
 have:=World.cell?_setCells_in b vs o w h (k-o) zo;rw[show o+(k-o)=k by omega] at this;rw[this,List.getElem?_eq_getElem zo]
theorem zrL {w:World} {b o:Nat} {vs:List Value} (k:Nat) (h:k<o\/o+vs.length<=k):(w.setCells b o vs).cell? ⟨b,k,none⟩=w.cell? ⟨b,k,none⟩:=
 World.cell?_setCells_out b vs o w ⟨b,k,none⟩ (λ_ _=>h)
theorem zsq {w:World} {b o:Nat} {vs:List Value} (b' k:Nat) (h:b'≠b):(w.setCells b o vs).cell? ⟨b',k,none⟩=w.cell? ⟨b',k,none⟩:=
 World.cell?_setCells_out b vs o w ⟨b',k,none⟩ (λe _=>absurd e h)
theorem Rd.setCells {ok:Nat->Prop} {w:World} {d:D} {v:Value} (h:Rd ok w d v) {g:Nat} (hp:∀b,ok b->b≠g) (o:Nat) (us:List Value):Rd ok (w.setCells g o us) d v:=
 h.keep λb k hb=>zsq b k (hp b hb)
theorem zfV (g:Nat):∀(us:List Value) (o:Nat) (w:World) (cur:Array Value) (e:TypeId) (m:Nat × Nat),w.heap[g]?=some (.cells cur e m)->∃cur',(w.setCells g o us).heap[g]?=some (.cells cur' e m)/\cur'.size=cur.size
 |[],_,_,cur,_,_,h=>⟨cur,h,rfl⟩
 |u::r,o,w,cur,e,m,h=>by
  have h1:(w.setCell ⟨g,o,none⟩ u).heap[g]?=some (.cells (cur.setIfInBounds o u) e m):=by simp[World.setCell,Array.getElem?_modify,h]
  obtain⟨cur',h2,h3⟩:=zfV g r (o+1) _ _ e m h1;exact⟨cur',h2,by rw[h3];simp⟩
def Blk (w:World) (g:Nat) (e:TypeId) (size:Nat):Prop:=∃cur,w.heap[g]?=some (.cells cur e (0,0))/\cur.size=size
section
variable {w w':World} {g size:Nat} {e:TypeId}
theorem Blk.lt (h:Blk w g e size):g<w.heap.size:=by
 obtain⟨cur,h,_⟩:=h;exact(Array.getElem?_eq_some_iff.1 h).1
theorem Blk.some (h:Blk w g e size) {j:Nat} (hj:j<size):(w.cell? ⟨g,j,none⟩).isSome=true:=by
 obtain⟨cur,h,hs⟩:=h;rw[cell_of_row w g j cur e (0,0) h];simp[hs,hj]
theorem Blk.frozen (h:Blk w g e size) (j:Nat):w.frozen? ⟨g,j,none⟩=false:=by
 obtain⟨cur,h,_⟩:=h;simp[World.frozen?,h]
theorem Blk.below {B:Nat} (h:Blk w g e size) (hb:Below B w w') (hg:g<B):Blk w' g e size:=by
 obtain⟨cur,h,hs⟩:=h;exact⟨cur,(hb.block g hg).trans h,hs⟩
theorem Blk.setCells (h:Blk w g e size) (g' o:Nat) (us:List Value):Blk (w.setCells g' o us) g e size:=by
 by_cases hg:g=g'
 ·subst hg;obtain⟨cur,h,hs⟩:=h;obtain⟨cur',h1,h2⟩:=zfV g us o w cur e (0,0) h;exact⟨cur',h1,zo⟩
 ·obtain⟨cur,h,hs⟩:=h;refine⟨cur,?_,hs⟩
  have:∀(us:List Value) (o:Nat) (w:World),(w.setCells g' o us).heap[g]?=w.heap[g]?:=by
   intro us
   induction us with
   |nil=>intro o w;rfl
   |cons u r ih=>intro o w;rw[World.setCells,ih];exact Below.heap_setCell w _ u g hg
  rw[this];exact h
theorem Blk.new (w:World) (e:TypeId) (cs:Array Value):Blk (w.alloc (.cells cs e)) w.heap.size e cs.size:=⟨cs,heap_alloc_new w _,rfl⟩
end
def zgQ (e:TypeId) (B g k n i:Nat) (f:Nat->Nat->D) (wr:World):Prop:=
 Blk wr g e (n*k)/\∀a,a<i->zcI (Bt B wr.heap.size) wr g (a*k) k (f a)
theorem zgQ.below {e:TypeId} {B g k n i:Nat} {f:Nat->Nat->D} {w w':World} (h:zgQ e B g k n i f w) (hb:Below w.heap.size w w'):zgQ e B g k n i f w':=by
 obtain⟨h1,h4⟩:=h;refine⟨h1.below hb h1.lt,λa ha=>?_⟩;refine zcI.weaken (ok:=Bt B w.heap.size) (λb hb'=>⟨hb'.1,Nat.lt_of_lt_of_le hb'.2 hb.size⟩) ?_;exact(h4 a ha).keep (λb o hb'=>hb.cell (p:=⟨b,o,none⟩) hb'.2) (λj _=>hb.cell (p:=⟨g,_,none⟩) h1.lt)
theorem zdO {i n k:Nat} (hi:i<n):i*k+k<=n*k:=by
 have:=Nat.mul_le_mul_right k (show i+1<=n from hi)
 rwa [Nat.add_mul,Nat.one_mul] at this
theorem zgQ.step {e:TypeId} {B g k n i:Nat} {f:Nat->Nat->D} {w:World} (h:zgQ e B g k n i f w) (hg:g<B) (hi:i<n) {us:List Value} (hu:us.length=k) (hr:∀j u,us[j]?=some u->Rd (Bt B w.heap.size) w (f i j) u) :
 zgQ e B g k n (i+1) f (w.setCells g (i*k) us):=by
 obtain⟨h1,h4⟩:=h;have hik:=zdO (k:=k) hi;have hne:∀b,Bt B w.heap.size b->b≠g:=λb hb=>by have:=hb.1;omega
 refine⟨h1.setCells _ _ _,λa ha=>?_⟩;rw[zfU];intro j hj;rcases Nat.lt_or_ge a i with hai|hai
 ·obtain⟨u,hc,hd⟩:=h4 a hai j hj;refine⟨u,?_,hd.setCells hne _ _⟩;rw[zrL _ (.inl ?_)]
  ·exact hc
  ·have:=zdO (k:=k) hai;omega
 ·obtain rfl:a=i:=zo
  refine⟨us[j]'(zo),?_,(hr j _ (List.getElem?_eq_getElem zo)).setCells hne _ _⟩;rw[ztA (λq hq=>h1.some zo) (a*k+j) zo zo,show a*k+j-a*k=j by omega,List.getElem?_eq_getElem zo]
def zaz (B:Nat) (e:TypeId) (k n:Nat) (f:Nat->Nat->D) (w:World) (v:Value):Prop:=
 (v=.slice none 0 0/\n=0)\/
 ∃g c,v=.slice (some ⟨g,0,none⟩) n c/\B<=g/\n<=c/\c<=9223372036854775807/\Blk w g e (c*k)/\∀a,a<n->zcI (λb=>Bt B w.heap.size b/\b≠g) w g (a*k) k (f a)
theorem zgQ.done {e:TypeId} {B g k n:Nat} {f:Nat->Nat->D} {w:World} (h:zgQ e B g k n n f w) (hg:g<B) (C:Nat) (hC:C<=g) (hn:n<=9223372036854775807):zaz C e k n f w (.slice (some ⟨g,0,none⟩) n n):=
 .inr ⟨g,n,rfl,hC,Nat.le_refl _,hn,h.1,λa ha=>(h.2 a ha).weaken (λb hb=>⟨⟨by have:=hb.1;omega,hb.2⟩,by have:=hb.1;omega⟩)⟩
theorem zaz.nil (B:Nat) (e:TypeId) (k:Nat) (f:Nat->Nat->D) (w:World):zaz B e k 0 f w (.slice none 0 0):=.inl ⟨rfl,rfl⟩
theorem zaz.rd {B:Nat} {e:TypeId} {k n:Nat} {f:Nat->Nat->D} {w:World} {v:Value} (h:zaz B e k n f w v):Rd (Bt B w.heap.size) w (.sl k n f) v:=by
 rcases h with ⟨rfl,rfl⟩|⟨g,c,rfl,hB,hnc,hc,hbk,hr⟩
 ·exact Rd.sl_nil
 ·refine Rd.sl_mk hnc hc λ_=>⟨g,0,rfl,⟨hB,hbk.lt⟩,λi hi=>?_⟩;rw[Nat.zero_add];exact(hr i hi).weaken (λb hb=>hb.1)
theorem zaz.below {B:Nat} {e:TypeId} {k n:Nat} {f:Nat->Nat->D} {w w':World} {v:Value} (h:zaz B e k n f w v) (hb:Below w.heap.size w w'):zaz B e k n f w' v:=by
 rcases h with h|⟨g,c,rfl,hB,hnc,hc,hbk,hr⟩
 ·exact .inl h
 ·refine .inr ⟨g,c,rfl,hB,hnc,hc,hbk.below hb hbk.lt,λa ha=>?_⟩;refine zcI.weaken (ok:=λb=>Bt B w.heap.size b/\b≠g) (λb hb'=>⟨⟨hb'.1.1,Nat.lt_of_lt_of_le hb'.1.2 hb.size⟩,hb'.2⟩) ?_;exact(hr a ha).keep (λb o hb'=>hb.cell (p:=⟨b,o,none⟩) hb'.1.2) (λj _=>hb.cell (p:=⟨g,_,none⟩) hbk.lt)
theorem zaz.lower {B B':Nat} {e:TypeId} {k n:Nat} {f:Nat->Nat->D} {w:World} {v:Value} (h:zaz B e k n f w v) (hB:B'<=B):zaz B' e k n f w v:=by
 rcases h with h|⟨g,c,rfl,hB1,hnc,hc,hbk,hr⟩
 ·exact .inl h
 ·exact .inr ⟨g,c,rfl,Nat.le_trans hB hB1,hnc,hc,hbk,λa ha=>(hr a ha).weaken (λb hb=>⟨⟨Nat.le_trans hB hb.1.1,hb.1.2⟩,hb.2⟩)⟩
theorem zaz.drewN {B:Nat} {e:TypeId} {k n:Nat} {f:Nat->Nat->D} {w:World} {v:Value} (h:zaz B e k n f w v) (q:Nat):zaz B e k n f (w.drewN q) v:=
 h.below (zae (Below.refl _ _) q)
theorem zaz.own {B:Nat} {e:TypeId} {k n:Nat} {f:Nat->Nat->D} {w:World} {v:Value} (h:zaz B e k n f w v):∃xs,w.ownsRow B e k v n xs:=by
 rcases h with ⟨rfl,rfl⟩|⟨g,c,rfl,hB,hnc,hc,⟨cur,hcur,hsz⟩,_⟩
 ·exact⟨[],World.ownsRow_nil _ _ _ _⟩
 ·refine⟨cur.toList.take (n*k),?_,.inr ⟨g,c,cur,rfl,hB,hcur,hnc,hc,hsz,rfl⟩⟩;have:=Nat.mul_le_mul_right k hnc;rw[List.length_take,Array.length_toList,hsz];omega
theorem zaz.append {B:Nat} {e:TypeId} {k n:Nat} {f f':Nat->Nat->D} {w w':World} {v:Value} {xs news:List Value} {g cap:Nat} (h:zaz B e k n f w v) (hown:w.ownsRow B e k v n xs)
 (hown':w'.ownsRow B e k (.slice (some ⟨g,0,none⟩) (n+1) cap) (n+1) (xs++news)) (hg:w.grownBy w' v.ownBlock) (hat:v.ownBlock=some g\/g=w.heap.size) (hk:news.length=k)
 (hf:∀a,a<n->f' a=f a) (hnew:∀j u,news[j]?=some u->Rd (λb=>Bt B w.heap.size b/\some b≠v.ownBlock) w (f' n j) u) :
 zaz B e k (n+1) f' w' (.slice (some ⟨g,0,none⟩) (n+1) cap):=by
 have hxl:xs.length=n*k:=hown.1;have hcells:=hown'.cells (g:=g) rfl;rcases hown'.2 with ⟨hv,_⟩|⟨g',cap',cur,hv,hBg,hcur,hnc,hc,hsz,_⟩
 ·injection hv with hv;cases hv
 injection hv with hv1 _ hv3;injection hv1 with hv1;injection hv1 with hv1;subst hv1 hv3
 have keep:∀{d:D} {u:Value},Rd (λb=>Bt B w.heap.size b/\some b≠v.ownBlock) w d u->Rd (λb=>Bt B w'.heap.size b/\b≠g) w' d u:=λhd=>
  (hd.keep (λb o hb=>World.cell?_of_block (hg.block b hb.1.2 hb.2))).weaken (λb hb=>⟨⟨hb.1.1,Nat.lt_of_lt_of_le hb.1.2 hg.size⟩,λhbg=>by
   subst hbg;rcases hat with h1|h1
   ·exact hb.2 h1.symm
   ·have:=hb.1.2;omega⟩)
 refine .inr ⟨g,cap,rfl,hBg,hnc,hc,⟨cur,hcur,hsz⟩,λa ha j hj=>?_⟩;rcases Nat.lt_or_ge a n with han|han
 ·have hak:=zdO (k:=k) han;have hu:xs[a*k+j]?=some (xs[a*k+j]'(zo)):=List.getElem?_eq_getElem zo;have hc1:=hcells (a*k+j) _ ((List.getElem?_append_left zo).trans hu);rw[Addr.add_lit,Nat.zero_add] at hc1;refine⟨_,hc1,?_⟩;rw[hf a han];rcases h with ⟨_,h0⟩|⟨g0,c0,rfl,_,_,_,_,hr⟩
  ·omega
  obtain⟨u,hcu,hd⟩:=hr a han j hj;have hc0:=hown.cells (g:=g0) rfl (a*k+j) _ hu;rw[Addr.add_lit,Nat.zero_add,hcu] at hc0;have he:=Option.some.inj hc0;rw[<-he]
  exact keep (hd.weaken (λb hb=>⟨hb.1,λh=>by
   have:some b=some g0:=h;injection this with this;exact hb.2 this⟩))
 ·obtain rfl:a=n:=zo
  have hu:news[j]?=some (news[j]'(zo)):=List.getElem?_eq_getElem zo;have hc1:=hcells (a*k+j) _ (by rw[List.getElem?_append_right zo,hxl,show a*k+j-a*k=j by omega];exact hu);rw[Addr.add_lit,Nat.zero_add] at hc1;exact⟨_,hc1,keep (hnew j _ hu)⟩
theorem Rd.oneCell {ok:Nat->Prop} {w:World}:∀{d:D} {v:Value},Rd ok w d v->v.oneCell'=true
 |.num _ _,_,h=>by cases h;rfl
 |.bool _,_,h=>by cases h;rfl
 |.str _,_,h=>by cases h;rfl
 |.sl _ _ _,_,h=>by obtain⟨A,c,rfl,_⟩:=h;rfl
theorem zz {P:Prop} (h:P):Hid P:=Lib.hid h
theorem zy {α:Type} {c:Prop} [Decidable c] {x y r:α} (h:Hid ((if c then x else y)=r)) (hc:c):Hid (x=r):=Lib.hid (by rw[<-h.out,if_pos hc])
theorem zw {α:Type} {c:Prop} [Decidable c] {x y r:α} (h:Hid ((if c then x else y)=r)) (hc:¬c):Hid (y=r):=Lib.hid (by rw[<-h.out,if_neg hc])
structure Chg (M:Nat->Prop) (w w':World):Prop where
 os:w'.os=w.os
 tape:w'.tape=w.tape
 output:w'.output=w.output
 size:w.heap.size<=w'.heap.size
 block:∀k,k<w.heap.size->¬M k->w'.heap[k]?=w.heap[k]?
section
variable {M M':Nat->Prop} {w w1 w2:World}
theorem Chg.refl (M:Nat->Prop) (w:World):Chg M w w:=⟨rfl,rfl,rfl,Nat.le_refl _,λ_ _ _=>rfl⟩
theorem Chg.trans (h:Chg M w w1) (k:Chg M' w1 w2) (hm:∀j,M' j->M j\/w.heap.size<=j):Chg M w w2:=
 ⟨k.os.trans h.os,k.tape.trans h.tape,k.output.trans h.output,Nat.le_trans h.size k.size,λj hj hn=>
  (k.block j (Nat.lt_of_lt_of_le hj h.size) (λhm'=>by
   rcases hm j hm' with h1|h1
   ·exact hn h1
   ·omega)).trans (h.block j hj hn)⟩
theorem Chg.next (h:Chg M w w1) (k:Chg M w1 w2):Chg M w w2:=h.trans k (λ_ hm=>.inl hm)
theorem Chg.mono (h:Chg M w w1) (hm:∀j,M j->M' j):Chg M' w w1:=⟨h.os,h.tape,h.output,h.size,λj hj hn=>h.block j hj (λh'=>hn (hm j h'))⟩
theorem Chg.of_below (h:Below w.heap.size w w1):Chg M w w1:=⟨h.os,h.tape,h.output,h.size,λk hk _=>h.block k hk⟩
theorem Chg.below (h:Chg M w w1) {B:Nat} (hB:B<=w.heap.size) (hm:∀j,M j->B<=j):Below B w w1:=⟨h.os,h.tape,h.output,h.size,λk hk=>h.block k zo (λh'=>by have:=hm k h';omega)⟩
theorem Chg.thenBelow (h:Chg M w w1) (k:Below w1.heap.size w1 w2):Chg M w w2:=h.next (Chg.of_below k)
theorem Chg.alloc (h:Chg M w w1) (o:Obj):Chg M w (w1.alloc o):=h.thenBelow ((Below.refl _ _).alloc (Nat.le_refl _) o)
theorem Chg.setCell (h:Chg M w w1) {p:Addr} (hp:M p.block\/w.heap.size<=p.block) (u:Value):Chg M w (w1.setCell p u):=
 ⟨h.os,h.tape,h.output,by rw[zbs];exact h.size,λk hk hn=>(Below.heap_setCell w1 p u k (λe=>by
  subst e;rcases hp with h1|h1
  ·exact hn h1
  ·omega)).trans (h.block k hk hn)⟩
theorem Chg.setCells {b:Nat} (hp:M b\/w.heap.size<=b):∀(us:List Value) (o:Nat) {w1:World},Chg M w w1->Chg M w (w1.setCells b o us)
 |[],_,_,h=>h
 |u::r,o,_,h=>Chg.setCells hp r (o+1) (h.setCell (p:=⟨b,o,none⟩) hp u)
theorem Chg.drewN (h:Chg M w w1) (n:Nat):Chg M w (w1.drewN n):=⟨h.os,h.tape,h.output,h.size,h.block⟩
theorem Chg.of_grown {row:Option Nat} (h:w.grownBy w1 row) (hm:∀k,row=some k->M k):Chg M w w1:=⟨h.os,h.tape,h.output,h.size,λk hk hn=>h.block k hk (λe=>hn (hm k e.symm))⟩
theorem Chg.cell (h:Chg M w w1) {p:Addr} (hp:p.block<w.heap.size) (hn:¬M p.block):w1.cell? p=w.cell? p:=World.cell?_of_block (h.block p.block hp hn)
theorem Chg.frozen (h:Chg M w w1) {p:Addr} (hp:p.block<w.heap.size) (hn:¬M p.block):w1.frozen? p=w.frozen? p:=World.frozen?_of_block (h.block p.block hp hn)
theorem Chg.rd (h:Chg M w w1) {ok:Nat->Prop} (hok:∀b,ok b->b<w.heap.size/\¬M b) {d:D} {v:Value} (hr:Rd ok w d v):Rd ok w1 d v:=
 hr.keep λb o hb=>h.cell (p:=⟨b,o,none⟩) (hok b hb).1 (hok b hb).2
end
end Go.Proofs.YtcebmphappfjjaaGreatDoor
set_option maxHeartbeats 32000000
set_option maxRecDepth 100000
namespace Go.Proofs.YtcebmphappfjjaaGreatDoor
theorem zai (s:ByteArray):s.data.toList.length=s.size:=by simp
theorem zbX {s t:ByteArray} (h:s.toList=t.toList):s=t:=by
 rw[ByteArray.toList_eq,ByteArray.toList_eq] at h;cases s;cases t;simp at h;rw[h]
end Go.Proofs.YtcebmphappfjjaaGreatDoor
set_option maxHeartbeats 32000000
set_option maxRecDepth 100000
namespace Go.Proofs.YtcebmphappfjjaaGreatDoor
open Go.RowKit
def zak (s:ByteArray) (i:Nat):Int:=((s.data.toList.getD i 0).toNat:Int)
theorem zbt (s:ByteArray) (i:Nat):0<=zak s i/\zak s i<=255:=by
 unfold zak;have:=(s.data.toList.getD i 0).toNat_lt;omega
theorem zaP (s:ByteArray) (i:Nat) (hi:i<s.size) (w:World):(Instr.index 9 ↑s (.int .i64 (i:Int))).run Tryz.prog w=.ok (.int .u8 (zak s i)) w:=by
 rw[run_index_string w _ s _ _ Tryz.underlying9];have h:(0:Int)<=(i:Int)/\(i:Int)<s.size:=zo
 rw[dif_pos h]
 have e:s.data.toList.getD i 0=s[i]'hi:=by
  rw[List.getD_eq_getElem?_getD,Array.getElem?_toList];have h2:i<s.data.size:=hi;rw[Array.getElem?_eq_getElem h2];rfl
 unfold zak;rw[e];rfl
end Go.Proofs.YtcebmphappfjjaaGreatDoor
