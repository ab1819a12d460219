/- Conditions: those in each statement. -/
import Derived.Test.YtjdpocmlimkjjaaGreatQ31
import Derived.Test.YtjdpocmlimkjjaaGreatQ33
import Derived.Test.YtjdpocmlimkjjaaGreatQ18
import Derived.Test.YtjdpocmlimkjjaaGreatQ38
set_option maxHeartbeats 32000000
set_option maxRecDepth 100000
namespace Go.Proofs.YtjdpocmlimkjjaaGreat
open Go.RowKit Go.MapKept
theorem zjk:∀(us:List Value) {w:World} {g i:Nat} {cs:Array Value} {e:TypeId},zac w g cs e→i+us.length≤cs.size→∃ds,zac (zfl us w g i) g ds e∧ds.size=cs.size∧(∀j,j<us.length→ds[i+j]?=us[j]?)∧(∀p,p<i∨i+us.length≤p→ds[p]?=cs[p]?)
 |[],_,_,i,cs,_,h,_=>⟨cs,h,rfl,λj hj=>by simp at hj,λ_ _=>rfl⟩
 |u::r,w,g,i,cs,e,h,hs=>by
  rw[List.length_cons] at hs;obtain⟨ds,h1,h2,h3,h4⟩:=zjk r (i:=i+1) (h.set i u) (by simp;omega);refine⟨ds,h1,by rw[h2];simp,λj hj=>?_,λp hp=>?_⟩
  ·cases j with
   |zero=>
    rw[Nat.add_zero,h4 i (.inl (by omega)),Array.getElem?_setIfInBounds_self_of_lt (by omega)]
    rfl
   |succ j=>
    have:=h3 j (by simpa using hj);rw[show i+(j+1)=i+1+j by omega,this]
    rfl
  ·rw[List.length_cons] at hp;rw[h4 p (by omega),Array.getElem?_setIfInBounds_ne (by omega)]
theorem OwnS.putRow {S:Nat→Prop} {e:TypeId} {k n:Nat} {f f':Nat→Nat→D} {w:World} {g c i:Nat} {us:List Value} (h:OwnS S e k n f w (.slice (some ⟨g,0,none⟩) n c)) (hi:i<n) (hk:us.length=k) (hf:∀a,a<n→a≠i→f' a=f a)
 (hu:∀j u,us[j]?=some u→Rd (λb=>(S b∧b<w.heap.size)∧b≠g) w (f' i j) u):OwnS S e k n f' (zfl us w g (i*k)) (.slice (some ⟨g,0,none⟩) n c):=by
 rcases h with ⟨h1,h2⟩|⟨g',c',h1,h2,h3,h4,h5,h6⟩
 ·cases h1
 injection h1 with e1 e2 e3;injection e1 with e1;injection e1 with e1;subst e1 e3;have hc:=zcE us w g (i*k);obtain⟨cs,h5a,h5b⟩:=h5;have h5c:zac w g cs e:=h5a;have hik:i*k+k≤n*k:=by have:=Nat.mul_le_mul_right k (show i+1≤n from hi);rw[Nat.succ_mul] at this;exact this
 have hnk:n*k≤c*k:=Nat.mul_le_mul_right k h3;obtain⟨ds,q1,q2,q3,q4⟩:=zjk us (i:=i*k) h5c (by omega);refine .inr ⟨g,c,rfl,h2,h3,h4,⟨_,q1,by omega⟩,λa ha b hb=>?_⟩
 have up:∀{d:D} {v:Value},Rd (λb=>(S b∧b<w.heap.size)∧b≠g) w d v→Rd (λb=>(S b∧b<(zfl us w g (i*k)).heap.size)∧b≠g) (zfl us w g (i*k)) d v:=λhd=>
  (hc.rd (λq hq=>⟨hq.1.2,hq.2⟩) hd).weaken (λq hq=>⟨⟨hq.1.1,Nat.lt_of_lt_of_le hq.1.2 hc.size⟩,hq.2⟩)
 by_cases hai:a=i
 ·subst hai;have hub:us[b]?=some (us[b]'(by omega)):=List.getElem?_eq_getElem (by omega);exact⟨us[b]'(by omega),by rw[q1.cell,q3 b (by omega)];exact hub,up (hu b _ hub)⟩
 ·obtain⟨x,hx,hd⟩:=h6 a ha b hb;refine⟨x,?_,by rw[hf a ha hai];exact up hd⟩;rw[q1.cell,q4 _ ?_,←h5c.cell]
  ·exact hx
  ·rcases Nat.lt_or_gt_of_ne hai with h7|h7
   ·have:=Nat.mul_le_mul_right k h7;rw[Nat.succ_mul] at this
    left;omega
   ·have:=Nat.mul_le_mul_right k h7;rw[Nat.succ_mul] at this
    right;omega
theorem OwnS.some {S:Nat→Prop} {e:TypeId} {k n:Nat} {f:Nat→Nat→D} {w:World} {v:Value} (h:OwnS S e k n f w v) (hn:0<n):∃g c,v=.slice (some ⟨g,0,none⟩) n c∧S g∧n≤c∧c≤9223372036854775807∧Blk w g e (c*k):=by
 rcases h with ⟨_,h2⟩|⟨g,c,h1,h2,h3,h4,h5,_⟩
 ·omega
 ·exact⟨g,c,h1,h2,h3,h4,h5⟩
theorem zep {S:Nat→Prop} {e:TypeId} {k n:Nat} {f:Nat→Nat→D} {w:World} {g c:Nat} (h:OwnS S e k (n+1) f w (.slice (Option.some ⟨g,0,none⟩) (n+1) c)) (j:Nat) (hj:j<k):∃u,w.cell? ⟨g,n*k+j,none⟩=Option.some u∧True:=by
 rcases h with ⟨h1,h2⟩|⟨g',c',h1,h2,h3,h4,h5,h6⟩
 ·omega
 ·injection h1 with e1 e2 e3;injection e1 with e1;injection e1 with e1;subst e1;obtain⟨u,hu,_⟩:=h6 n (Nat.lt_succ_self _) j hj;exact⟨u,hu,trivial⟩
structure DlSt (w W5 W:World) (db mt ma:Nat) (acc:List Nd) (A:Option Addr) (c:Nat):Prop where
 low:Below w.heap.size w W
 chg:Chg (λq=>q=db∨W5.heap.size≤q) W5 W
 box:DcAt W db A acc.length c mt ma
 own:OwnS (Sg (λb=>b<w.heap.size) W5.heap.size) 25 5 acc.length (zap Nd.row acc) W (.slice A acc.length c)
 bg:∀q,(Value.slice A acc.length c).ownBlock=some q→W5.heap.size≤q
section
variable {w W5 W W' W8 W9:World} {db mt ma:Nat} {acc:List Nd} {A:Option Addr} {c:Nat}
theorem DlSt.below (h:DlSt w W5 W db mt ma acc A c) (k:Below W.heap.size W W'):DlSt w W5 W' db mt ma acc A c:=⟨zab h.low k h.low.size,h.chg.thenBelow k,zaa k h.box,h.own.below k,h.bg⟩
def zNd:Nd:=.mk 0 ⟨#[]⟩ 0 0 []
theorem DlSt.push {g cp:Nat} {y:Nd} {A':Option Addr} {c':Nat} (h:DlSt w W5 W8 db mt ma acc A c) (hbig:∀q,(Value.slice A acc.length c).ownBlock=Option.some q→W5.heap.size≤q) (hdb:w.heap.size≤db) (hdb5:db<W5.heap.size) (h5:W5.heap.size≤W8.heap.size)
 (hO:OwnS (Sg (λb=>b<w.heap.size) W5.heap.size) 25 5 (acc.length+1) (zap Nd.row (acc++[zNd])) W9 (.slice (Option.some ⟨g,0,none⟩) (acc.length+1) cp)) (hg:W8.grownBy W9 (Value.slice A acc.length c).ownBlock)
 (hat:(Value.slice A acc.length c).ownBlock=Option.some g∨g=W8.heap.size) (hy:Rd (Lt w.heap.size) w (ns y.kids) (.slice A' y.kids.length c')) :
 DlSt w W5 ((zfl [.int .i64 y.kind,.string y.text,.int .i64 y.n,.int .i64 y.at',.slice A' y.kids.length c'] W9 g (acc.length*5)).setCell ⟨db,0,none⟩ (.slice (Option.some ⟨g,0,none⟩) (acc.length+1) cp)) db mt ma (acc++[y]) (Option.some ⟨g,0,none⟩) cp∧
 DlSt w W5 (zfl [.int .i64 y.kind,.string y.text,.int .i64 y.n,.int .i64 y.at',.slice A' y.kids.length c'] (W9.setCell ⟨db,0,none⟩ (.slice (Option.some ⟨g,0,none⟩) (acc.length+1) cp)) g (acc.length*5)) db mt ma (acc++[y]) (Option.some ⟨g,0,none⟩) cp:=by
 have hg5:W5.heap.size≤g:=by
  rcases hat with h1|h1
  ·exact hbig g h1
  ·omega
 have hch:Chg (λq=>q=db∨W5.heap.size≤q) W8 W9:=Chg.of_grown hg (λq hq=>.inr (hbig q hq));have hl9:Below w.heap.size w W9:=h.low.trans (hch.below h.low.size (λq hq=>by omega));have hb9:DcAt W9 db A acc.length c mt ma:=h.box.keep (Chg.of_grown (M:=λq=>W5.heap.size≤q) hg (λq hq=>hbig q hq)) (by omega);have hlen:(acc++[y]).length=acc.length+1:=by simp
 have hcell:∀X:World,DcAt X db A acc.length c mt ma→DcAt (X.setCell ⟨db,0,none⟩ (.slice (Option.some ⟨g,0,none⟩) (acc.length+1) cp)) db (Option.some ⟨g,0,none⟩) (acc++[y]).length cp mt ma:=λX hX=>by
  have:=zac.set hX 0 (.slice (Option.some ⟨g,0,none⟩) (acc.length+1) cp);rw[hlen];unfold DcAt
  simpa using this
 have hsd:∀X:World,Chg (λq=>q=db) X (X.setCell ⟨db,0,none⟩ (.slice (Option.some ⟨g,0,none⟩) (acc.length+1) cp)):=λX=>(Chg.refl (λq=>q=db) X).setCell (p:=⟨db,0,none⟩) (.inl rfl) _
 have hS:∀q,q=db→¬Sg (λb=>b<w.heap.size) W5.heap.size q:=λq hq hs=>by
  rcases hs with h1|h1
  ·have:q<w.heap.size:=h1;omega
  ·omega
 have put:∀X:World,Below w.heap.size w X→OwnS (Sg (λb=>b<w.heap.size) W5.heap.size) 25 5 (acc.length+1) (zap Nd.row (acc++[zNd])) X (.slice (Option.some ⟨g,0,none⟩) (acc.length+1) cp)→
  OwnS (Sg (λb=>b<w.heap.size) W5.heap.size) 25 5 (acc++[y]).length (zap Nd.row (acc++[y])) (zfl [.int .i64 y.kind,.string y.text,.int .i64 y.n,.int .i64 y.at',.slice A' y.kids.length c'] X g (acc.length*5)) (.slice (Option.some ⟨g,0,none⟩) (acc++[y]).length cp):=λX hX hOX=>by
  rw[hlen];refine hOX.putRow (i:=acc.length) (Nat.lt_succ_self _) rfl (λa ha hai=>?_) (λj u hj=>?_)
  ·have hx:acc[a]?=Option.some (acc[a]'(by omega)):=List.getElem?_eq_getElem (by omega);rw[zax (l:=acc++[y]) (i:=a) (by rw[List.getElem?_append_left (by omega)];exact hx),zax (l:=acc++[zNd]) (i:=a) (by rw[List.getElem?_append_left (by omega)];exact hx)]
  ·rw[zax (l:=acc++[y]) (i:=acc.length) (x:=y) (by simp)];refine zbM (Rd.weaken (λb hb=>?_) (Rd.below (ok:=Lt w.heap.size) hX (λ_ hb=>hb) hy)) j u hj;have hb:b<w.heap.size:=hb;have:=hX.size;exact⟨⟨.inl hb,by omega⟩,by omega⟩
 have hgb:∀q,(Value.slice (Option.some ⟨g,0,none⟩) (acc++[y]).length cp).ownBlock=Option.some q→W5.heap.size≤q:=λq hq=>by
  have:g=q:=Option.some.inj hq;omega
 have low2:∀{M:Nat→Prop} {X Y:World},Below w.heap.size w X→Chg M X Y→(∀q,M q→w.heap.size≤q)→Below w.heap.size w Y:=λhX hc hm=>hX.trans (hc.below hX.size hm);have c1:=zcE [.int .i64 y.kind,.string y.text,.int .i64 y.n,.int .i64 y.at',.slice A' y.kids.length c'] W9 g (acc.length*5);have c2:=zcE [.int .i64 y.kind,.string y.text,.int .i64 y.n,.int .i64 y.at',.slice A' y.kids.length c'] (W9.setCell ⟨db,0,none⟩ (.slice (Option.some ⟨g,0,none⟩) (acc.length+1) cp)) g (acc.length*5);have m1:∀q,q=g→(q=db∨W5.heap.size≤q):=λq hq=>.inr (by omega);have m2:∀q,q=db→(q=db∨W5.heap.size≤q):=λq hq=>.inl hq;have l1:=low2 hl9 c1 (λq hq=>by omega);have l2:=low2 hl9 (hsd W9) (λq hq=>by omega);refine⟨⟨low2 l1 (hsd _) (λq hq=>by omega),((h.chg.next hch).next (c1.mono m1)).next ((hsd _).mono m2),hcell _ (zac.keep hb9 c1 (by omega)),?_,hgb⟩,⟨low2 l2 c2 (λq hq=>by omega),((h.chg.next hch).next ((hsd W9).mono m2)).next (c2.mono m1),zac.keep (hcell _ hb9) c2 (by omega),?_,hgb⟩⟩
 ·have:=(put W9 hl9 hO).chg (hsd _) (λj hj _=>hS j hj);rw[hlen] at this ⊢;exact this
 ·have:=put _ l2 (hO.chg (hsd W9) (λj hj _=>hS j hj));rw[hlen] at this ⊢;exact this
end
def ckFs (db:Nat):Array Value:=#[.func (.func 33) #[.pointer (some ⟨db,0,none⟩)] #[],.func (.func 34) #[.pointer (some ⟨db,0,none⟩)] #[],.func (.func 35) #[.pointer (some ⟨db,0,none⟩)] #[],.func (.func 36) #[.pointer (some ⟨db,0,none⟩)] #[],.func (.func 37) #[.pointer (some ⟨db,0,none⟩)] #[],.func (.func 38) #[.pointer (some ⟨db,0,none⟩)] #[]]
structure CkSt (w W:World) (db mt ma fb:Nat) (ds:List Nd) (A:Option Addr) (c:Nat) (LT LA:List (ByteArray × Value)):Prop where
 low:Below w.heap.size w W
 res:zac W (w.heap.size+1) #[.slice none 0 0,.slice none 0 0,.slice none 0 0,.slice none 0 0] 34
 fbx:zac W fb (ckFs db) 80
 box:DcAt W db A ds.length c mt ma
 tm:MapS W mt LT
 am:MapS W ma LA
 nd:Rd (Lt W.heap.size) W (ns ds) (.slice A ds.length c)
section
variable {w W W':World} {db mt ma fb:Nat} {ds:List Nd} {A:Option Addr} {c:Nat} {LT LA:List (ByteArray × Value)}
theorem CkSt.below (h:CkSt w W db mt ma fb ds A c LT LA) (k:Below W.heap.size W W'):CkSt w W' db mt ma fb ds A c LT LA:=
 ⟨zab h.low k h.low.size,zaa k h.res,zaa k h.fbx,zaa k h.box,zaO h.tm (Chg.of_below (M:=λ_=>False) k) (λh=>h),zaO h.am (Chg.of_below (M:=λ_=>False) k) (λh=>h),h.nd.belows k⟩
theorem CkSt.dd (h:CkSt w W db mt ma fb ds A c LT LA):DdAt W db A ds.length c mt ma LT LA:=⟨h.box,h.tm.is,h.am.is⟩
theorem CkSt.filled {LT' LA':List (ByteArray × Value)} (h:CkSt w W db mt ma fb ds A c LT LA) (hmt:w.heap.size≤mt) (hma:w.heap.size≤ma) (k:∃X,Kept (λq=>q=mt∨q=ma) W X∧Chg (λq=>q=W.heap.size) X W'∧W.heap.size<X.heap.size) (h1:MapS W' mt LT') (h2:MapS W' ma LA'):CkSt w W' db mt ma fb ds A c LT' LA':=by
 obtain⟨X,k1,k2,k3⟩:=k;have hc:Chg (λq=>q=mt∨q=ma∨W.heap.size≤q) W W':=(k1.chg.mono (λq hq=>hq.elim .inl (λh=>.inr (.inl h)))).next (k2.mono (λq hq=>.inr (.inr (by omega))));have hw:=h.low.size
 have nm:∀{b:Nat} {cs:Array Value} {e:TypeId},zac W b cs e→zac W' b cs e:=λhb=>hb.keep hc (λhq=>by
  have n1:=zcJ hb h.tm.is;have n2:=zcJ hb h.am.is;have:=hb.lt;omega)
 refine⟨h.low.trans (hc.below hw (λq hq=>by omega)),nm h.res,nm h.fbx,nm h.box,h1,h2,?_⟩;have r1:Rd (Lt W.heap.size) X (ns ds) (.slice A ds.length c):=h.nd.keep (λb o hb=>k1.cell b o hb);exact(k2.rd (λb hb=>⟨Nat.lt_trans hb k3,λe=>by have:b<W.heap.size:=hb;omega⟩) r1).weaken (λb hb=>Nat.lt_of_lt_of_le hb hc.size)
end
def cksN (l:List Nd):List (Option (Int × Int)):=[(zcl l .start).map (λa=>(4,a)),(zgA l).map (λa=>(8,a)),(zeK l).map (λa=>(7,a)),(zeQ l).map (λa=>(6,a)),(zfX l).map (λa=>(11,a)),zgD l]
theorem zlq (tx:ByteArray) (nn at':Int) (l:List Nd) (h:zfs (.mk 1 tx nn at' l)=true):zbW (.mk 1 tx nn at' l)=match (cksN (l.filter zbl)).findSome? id with
 |some (e,a)=>(.zero,e,a)
 |none=>(zaR (l.filter zbl),0,0):=by
 unfold zbW;rw[if_neg (by rw[h];show ¬((1:Int)≠1∨true=false);simp)]
 show (match zcl (l.filter zbl) .start with
  |some a=>(Prg.zero,(4:Int),a)
  |none=>match zgA (l.filter zbl) with
   |some a=>(.zero,8,a)
   |none=>match zeK (l.filter zbl) with
    |some a=>(.zero,7,a)
    |none=>match zeQ (l.filter zbl) with
     |some a=>(.zero,6,a)
     |none=>match zfX (l.filter zbl) with
      |some a=>(.zero,11,a)
      |none=>match zgD (l.filter zbl) with
       |some (e,a)=>(.zero,e,a)
       |none=>(zaR (l.filter zbl),0,0))=_
 generalize l.filter zbl=ds;unfold cksN;cases h1:zcl ds .start with
 |some a=>rfl
 |none=>
  cases h2:zgA ds with
  |some a=>rfl
  |none=>
   cases h3:zeK ds with
   |some a=>rfl
   |none=>
    cases h4:zeQ ds with
    |some a=>rfl
    |none=>
     cases h5:zfX ds with
     |some a=>rfl
     |none=>
      cases h6:zgD ds with
      |some p=>obtain⟨e,a⟩:=p;rfl
      |none=>rfl
theorem zju (tx:ByteArray) (nn at':Int) (l:List Nd) (h:zfs (.mk 1 tx nn at' l)=false):zbW (.mk 1 tx nn at' l)=(.zero,1,0):=by
 unfold zbW;rw[if_pos (.inr h)]
theorem zjA:∀(l:List Nd) (i:Nat),(typM l i).map Prod.fst=zie l
 |[],_=>rfl
 |n::r,i=>by
  have ih:=zjA r (i+1);unfold zie at ih ⊢;rw[typM]
  by_cases h:n.kind=2∨n.kind=3
  ·rw[if_pos h,List.filter_cons_of_pos (by simpa using h),List.map_cons,List.map_cons,ih]
  ·rw[if_neg h,List.filter_cons_of_neg (by simpa using h),ih]
theorem zlj:∀(l:List Nd) (i:Nat),(acM l i).map Prod.fst=zgc l
 |[],_=>rfl
 |n::r,i=>by
  have ih:=zlj r (i+1);unfold zgc at ih ⊢;rw[acM]
  by_cases h:n.kind=6
  ·rw[if_pos h,List.filter_cons_of_pos (by simpa using h),List.map_cons,List.map_cons,ih]
  ·rw[if_neg h,List.filter_cons_of_neg (by simpa using h),ih]
theorem zmZ (l:List Nd):zkd ((typM l 0).map Prod.fst) ((acM l 0).map Prod.fst) l=zgA l:=by
 unfold zkd zgA;rw[zjA,zlj]
def zps (w:World) (r:Prg × Int × Int) (e:Ending) (w':World):Prop:=Below w.heap.size w w'∧∃At ct Ae ce Af cf Ak ck,e=.returned (.tuple #[.agg #[.slice At r.1.types.length ct,.slice Ae r.1.effects.length ce,.slice Af r.1.funs.length cf,.slice Ak r.1.actors.length ck],.int .i64 r.2.1,.int .i64 r.2.2])∧
 Rd (Bt w.heap.size w'.heap.size) w' (slG 3 zfq r.1.types) (.slice At r.1.types.length ct)∧Rd (Bt w.heap.size w'.heap.size) w' (slG 5 zkH r.1.effects) (.slice Ae r.1.effects.length ce)∧Rd (Bt w.heap.size w'.heap.size) w' (slG 11 ziR r.1.funs) (.slice Af r.1.funs.length cf)∧Rd (Bt w.heap.size w'.heap.size) w' (slG 7 zhp r.1.actors) (.slice Ak r.1.actors.length ck)
theorem zfb {P:Program} {fn:Func} {p q r:Tmp} {ty:TypeId} (h:fn.results=#[.cell p ty,.tmp q,.tmp r]) (tmps:Array Value) (w:World) (g:Nat) (t:TypeId) (cs:Array Value) (fr:Nat × Nat) (d:TypeDesc)
 (hp:tmps.getD p undef=.pointer (some ⟨g,0,none⟩)) (hg:w.heap[g]?=some (.cells cs t fr))
 (hu:P.underlying ty=some d) (hd:(match d with|.struct _|.array _ _=>true|_=>false)=true) (hi:(P.info? ty).map (·.size)=some cs.size) :
 (results fn tmps).run P w=.ok (.tuple #[.agg cs,tmps.getD q undef,tmps.getD r undef]) w:=by
 have hp':tmps[p]?.getD undef=.pointer (some ⟨g,0,none⟩):=by simpa using hp
 simp[results,h,hp',asAddr,run_loadVar_row w g t ty cs fr d hg hu hd hi]
theorem zrL {fn:Func} (hf:fn.results=#[.cell 2 34,.tmp 3,.tmp 4]) {w W:World} (e x:Int) {cs:Array Value} (hl:Below w.heap.size w W) (hc:zac W (w.heap.size+1) cs 34) (hs:cs.size=4) {r:Prg × Int × Int} (hr:(.zero,e,x)=r) {a:Act} (h2:a.tmps.getD 2 undef=.pointer (some ⟨w.heap.size+1,0,none⟩)) (h3:a.tmps.getD 3 undef=.int .i64 e) (h4:a.tmps.getD 4 undef=.int .i64 x) (hd:a.defers=[]) :
 bodyPost Tryz.prog fn (zps w r) Exit.ret a ((((W.setCell ⟨w.heap.size+1,0,none⟩ (.slice none 0 0)).setCell ⟨w.heap.size+1,1,none⟩ (.slice none 0 0)).setCell ⟨w.heap.size+1,2,none⟩ (.slice none 0 0)).setCell ⟨w.heap.size+1,3,none⟩ (.slice none 0 0)):=by
 have hfs:=zgF (.slice none 0 0) (.slice none 0 0) (.slice none 0 0) (.slice none 0 0) hc hs;have:=zfb (P:=Tryz.prog) hf a.tmps _ (w.heap.size+1) _ _ (0,0) _ h2 hfs Tryz.underlying34 rfl zjE;rw[h3,h4] at this;subst hr;have ch:=zhP (w:=W) (g:=w.heap.size+1) (.slice none 0 0) (.slice none 0 0) (.slice none 0 0) (.slice none 0 0);exact bodyPost_ret this hd ⟨hl.trans (ch.below hl.size (λq hq=>by omega)),none,0,none,0,none,0,none,0,rfl,Rd.sl_nil,Rd.sl_nil,Rd.sl_nil,Rd.sl_nil⟩
theorem zhk {fn:Func} (hf:fn.results=#[.cell 2 34,.tmp 3,.tmp 4]) {w W:World} (e x:Int) {cs:Array Value} (hl:Below w.heap.size w W) (hc:zac W (w.heap.size+1) cs 34) (hs:cs.size=4) {r:Prg × Int × Int} (hr:(.zero,e,x)=r) {a:Act} (h2:a.tmps.getD 2 undef=.pointer (some ⟨w.heap.size+1,0,none⟩)) (h3:a.tmps.getD 3 undef=.int .i64 e) (h4:a.tmps.getD 4 undef=.int .i64 x) (hd:a.defers=[]) :
 bodyPost Tryz.prog fn (zps w r) Exit.ret a (World.drew ((((W.setCell ⟨w.heap.size+1,0,none⟩ (.slice none 0 0)).setCell ⟨w.heap.size+1,1,none⟩ (.slice none 0 0)).setCell ⟨w.heap.size+1,2,none⟩ (.slice none 0 0)).setCell ⟨w.heap.size+1,3,none⟩ (.slice none 0 0))):=by
 have hfs:=zgF (.slice none 0 0) (.slice none 0 0) (.slice none 0 0) (.slice none 0 0) hc hs;have ch:=zhP (w:=W) (g:=w.heap.size+1) (.slice none 0 0) (.slice none 0 0) (.slice none 0 0) (.slice none 0 0);obtain⟨X,hX⟩:∃X,((((W.setCell ⟨w.heap.size+1,0,none⟩ (.slice none 0 0)).setCell ⟨w.heap.size+1,1,none⟩ (.slice none 0 0)).setCell ⟨w.heap.size+1,2,none⟩ (.slice none 0 0)).setCell ⟨w.heap.size+1,3,none⟩ (.slice none 0 0))=X:=⟨_,rfl⟩;rw[hX] at hfs ch ⊢;have hlx:=hl.trans (ch.below hl.size (λq hq=>by omega));have hfd:zac X.drew (w.heap.size+1) #[.slice none 0 0,.slice none 0 0,.slice none 0 0,.slice none 0 0] 34:=zaa (zae (Below.refl _ _) 1) hfs;have hbd:Below w.heap.size w X.drew:=zae hlx 1;clear hX ch hfs;have:=zfb (P:=Tryz.prog) hf a.tmps X.drew (w.heap.size+1) _ _ (0,0) _ h2 hfd Tryz.underlying34 rfl zjE;rw[h3,h4] at this;subst hr;exact bodyPost_ret this hd ⟨hbd,none,0,none,0,none,0,none,0,rfl,Rd.sl_nil,Rd.sl_nil,Rd.sl_nil,Rd.sl_nil⟩
end Go.Proofs.YtjdpocmlimkjjaaGreat
