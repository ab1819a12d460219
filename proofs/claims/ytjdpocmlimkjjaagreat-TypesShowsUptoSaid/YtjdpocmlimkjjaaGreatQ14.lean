/- Conditions: those in each statement. -/
import Derived.Test.YtjdpocmlimkjjaaGreatQ05
import Derived.Test.YtjdpocmlimkjjaaGreatQ11
set_option maxHeartbeats 32000000
set_option maxRecDepth 100000
namespace Go.Proofs.YtjdpocmlimkjjaaGreat
open Go.RowKit
def OwnS (S:Nat→Prop) (e:TypeId) (k n:Nat) (f:Nat→Nat→D) (w:World) (v:Value):Prop:=
 (v=.slice none 0 0∧n=0)∨
 ∃g c,v=.slice (some ⟨g,0,none⟩) n c∧S g∧n≤c∧c≤9223372036854775807∧Blk w g e (c*k)∧∀a,a<n→zde (λb=>(S b∧b<w.heap.size)∧b≠g) w g (a*k) k (f a)
section
variable {S S':Nat→Prop} {B:Nat} {e:TypeId} {k n:Nat} {f:Nat→Nat→D} {w w':World} {v:Value} {M:Nat→Prop}
theorem OwnS.nil (S:Nat→Prop) (e:TypeId) (k:Nat) (f:Nat→Nat→D) (w:World):OwnS S e k 0 f w (.slice none 0 0):=.inl ⟨rfl,rfl⟩
theorem OwnS.owned (h:OwnS S e k n f w v) (hS:∀b,S b→B≤b):zaK B e k n f w v:=by
 rcases h with h|⟨g,c,h1,h2,h3,h4,h5,h6⟩
 ·exact .inl h
 ·exact .inr ⟨g,c,h1,hS g h2,h3,h4,h5,λa ha=>(h6 a ha).weaken (λb hb=>⟨⟨hS b hb.1.1,hb.1.2⟩,hb.2⟩)⟩
theorem OwnS.owned0 (h:OwnS S e k n f w v):zaK 0 e k n f w v:=h.owned (λ_ _=>Nat.zero_le _)
theorem OwnS.rd (h:OwnS S e k n f w v):Rd (λb=>S b∧b<w.heap.size) w (.sl k n f) v:=by
 rcases h with ⟨rfl,rfl⟩|⟨g,c,rfl,hS,hnc,hc,hbk,hr⟩
 ·exact Rd.sl_nil
 ·refine Rd.sl_mk hnc hc λ_=>⟨g,0,rfl,⟨hS,hbk.lt⟩,λi hi=>?_⟩;rw[Nat.zero_add];exact(hr i hi).weaken (λb hb=>hb.1)
theorem OwnS.below_own (h:OwnS S e k n f w v) (q:Nat) (hq:v.ownBlock=some q):S q∧q<w.heap.size:=by
 rcases h with ⟨rfl,_⟩|⟨g,c,rfl,hS,_,_,hbk,_⟩
 ·cases hq
 ·have:g=q:=Option.some.inj hq;subst this;exact⟨hS,hbk.lt⟩
theorem OwnS.chg (h:OwnS S e k n f w v) (hc:Chg M w w') (hm:∀j,M j→j<w.heap.size→¬S j):OwnS S e k n f w' v:=by
 rcases h with h|⟨g,c,rfl,hB,hnc,hcm,⟨cur,hcur,hsz⟩,hr⟩
 ·exact .inl h
 ·have hg:g<w.heap.size:=(Array.getElem?_eq_some_iff.1 hcur).1;have keep:∀j,S j→j<w.heap.size→w'.heap[j]?=w.heap[j]?:=λj h1 h2=>hc.block j h2 (λhmj=>hm j hmj h2 h1);refine .inr ⟨g,c,rfl,hB,hnc,hcm,⟨cur,(keep g hB hg).trans hcur,hsz⟩,λa ha=>?_⟩;refine zde.weaken (ok:=λb=>(S b∧b<w.heap.size)∧b≠g) (λb hb'=>⟨⟨hb'.1.1,Nat.lt_of_lt_of_le hb'.1.2 hc.size⟩,hb'.2⟩) ?_;exact(hr a ha).keep (λb o hb'=>World.cell?_of_block (a:=⟨b,o,none⟩) (keep b hb'.1.1 hb'.1.2)) (λj _=>World.cell?_of_block (a:=⟨g,_,none⟩) (keep g hB hg))
theorem OwnS.below (h:OwnS S e k n f w v) (hb:Below w.heap.size w w'):OwnS S e k n f w' v:=h.chg (Chg.of_below (M:=λ_=>False) hb) (λ_ h=>h.elim)
theorem OwnS.drewN (h:OwnS S e k n f w v) (q:Nat):OwnS S e k n f (w.drewN q) v:=h.below (zae (Below.refl _ _) q)
theorem OwnS.sub (h:OwnS S e k n f w v) (hS:∀b,b<w.heap.size→S b→S' b):OwnS S' e k n f w v:=by
 rcases h with h|⟨g,c,h1,h2,h3,h4,h5,h6⟩
 ·exact .inl h
 ·exact .inr ⟨g,c,h1,hS g h5.lt h2,h3,h4,h5,λa ha=>(h6 a ha).weaken (λb hb=>⟨⟨hS b hb.1.2 hb.1.1,hb.1.2⟩,hb.2⟩)⟩
end
theorem OwnS.append {S:Nat→Prop} {e:TypeId} {k n:Nat} {f f':Nat→Nat→D} {w w':World} {v:Value} {xs news:List Value} {g cap:Nat} (h:OwnS S e k n f w v) (hSn:S w.heap.size) (hown:w.ownsRow 0 e k v n xs)
 (hown':w'.ownsRow 0 e k (.slice (some ⟨g,0,none⟩) (n+1) cap) (n+1) (xs++news)) (hg:w.grownBy w' v.ownBlock) (hat:v.ownBlock=some g∨g=w.heap.size) (hk:news.length=k)
 (hf:∀a,a<n→f' a=f a) (hnew:∀j u,news[j]?=some u→Rd (λb=>(S b∧b<w.heap.size)∧some b≠v.ownBlock) w (f' n j) u) :
 OwnS S e k (n+1) f' w' (.slice (some ⟨g,0,none⟩) (n+1) cap):=by
 have hxl:xs.length=n*k:=hown.1;have hcells:=hown'.cells (g:=g) rfl;rcases hown'.2 with ⟨hv,_⟩|⟨g',cap',cur,hv,hBg,hcur,hnc,hc,hsz,_⟩
 ·injection hv with hv;cases hv
 injection hv with hv1 _ hv3;injection hv1 with hv1;injection hv1 with hv1;subst hv1 hv3
 have keep:∀{d:D} {u:Value},Rd (λb=>(S b∧b<w.heap.size)∧some b≠v.ownBlock) w d u→Rd (λb=>(S b∧b<w'.heap.size)∧b≠g) w' d u:=λhd=>
  (hd.keep (λb o hb=>World.cell?_of_block (hg.block b hb.1.2 hb.2))).weaken (λb hb=>⟨⟨hb.1.1,Nat.lt_of_lt_of_le hb.1.2 hg.size⟩,λhbg=>by
   subst hbg;rcases hat with h1|h1
   ·exact hb.2 h1.symm
   ·have:=hb.1.2;omega⟩)
 have hgS:S g:=by
  rcases hat with h1|h1
  ·exact(h.below_own g h1).1
  ·rw[h1];exact hSn
 refine .inr ⟨g,cap,rfl,hgS,hnc,hc,⟨cur,hcur,hsz⟩,λa ha j hj=>?_⟩;rcases Nat.lt_or_ge a n with han|han
 ·have hak:=zej (k:=k) han;have hu:xs[a*k+j]?=some (xs[a*k+j]'(by omega)):=List.getElem?_eq_getElem (by omega);have hc1:=hcells (a*k+j) _ ((List.getElem?_append_left (by omega)).trans hu);rw[Addr.add_lit,Nat.zero_add] at hc1;refine⟨_,hc1,?_⟩;rw[hf a han];rcases h with ⟨_,h0⟩|⟨g0,c0,rfl,_,_,_,_,hr⟩
  ·omega
  obtain⟨u,hcu,hd⟩:=hr a han j hj;have hc0:=hown.cells (g:=g0) rfl (a*k+j) _ hu;rw[Addr.add_lit,Nat.zero_add,hcu] at hc0;have he:=Option.some.inj hc0;rw[←he]
  exact keep (hd.weaken (λb hb=>⟨hb.1,λh=>by
   have:some b=some g0:=h;injection this with this;exact hb.2 this⟩))
 ·obtain rfl:a=n:=by omega
  have hu:news[j]?=some (news[j]'(by omega)):=List.getElem?_eq_getElem (by omega);have hc1:=hcells (a*k+j) _ (by rw[List.getElem?_append_right (by omega),hxl,show a*k+j-a*k=j by omega];exact hu);rw[Addr.add_lit,Nat.zero_add] at hc1;exact⟨_,hc1,keep (hnew j _ hu)⟩
theorem zaV {α:Type} (row:α→Nat→D) {T E:TypeId} {size bytes:Nat} {z:Value} (hinfo:(Tryz.prog.info? E).map (λi=>(i.zero,i.size,i.bytes))=some (some z,size,bytes)) (hund:Tryz.prog.underlying T=some (.slice E)) (hzs:z.cells.size=size) (hsz:0<size) (hbb:bytes≤8192)
 {w:World} {ops:Array Oper} {rest:List Oper} {o:Oper} {a:Act} {Q:Exit→Act→World→Prop} (hgd:o.guard=none) (s x:Operand)
 (ho:o.op=.call {callee:=.builtin .append,args:=#[s,x],argTypes:=#[T,T] })
 (S:Nat→Prop) (hS:S w.heap.size) (v:Value) (acc:List α) (hs:a.eval s=v) (hO:OwnS S E size acc.length (zap row acc) w v)
 (ad:Addr) (c:Nat) (y:α) (cs:List Value) (hcl:cs.length=size) (hx:a.eval x=.slice (some ad) 1 c) (hcells:∀(j:Nat) (u:Value),cs[j]?=some u→w.cell? (ad.add j)=some u)
 (hrd:∀(j:Nat) (u:Value),cs[j]?=some u→Rd (λb=>(S b∧b<w.heap.size)∧some b≠v.ownBlock) w (row y j) u) (hlen:acc.length≤2097152)
 (h:∀v' w',OwnS S E size (acc++[y]).length (zap row (acc++[y])) w' v'→w.grownBy w' v.ownBlock→(∀q,v'.ownBlock=some q→v.ownBlock=some q∨q=w.heap.size)→wpList Tryz.prog ops Q rest (a.put o.dst v') w'):wpList Tryz.prog ops Q (o::rest) a w:=by
 obtain⟨i0,hi0,hz0,hz1,hz2⟩:=info_parts hinfo;obtain⟨xs,hown⟩:=hO.owned0.own;have hb:(acc.length+1)*bytes≤2097153*8192:=Nat.mul_le_mul (by omega) hbb;refine wpList_append_lies w hgd s x T ho 0 E i0 z size bytes hund hi0 hz0 hz1 hz2 hzs hsz v acc.length xs hs hown ad 1 c cs hx (by rw[hcl,Nat.one_mul]) hcells (λu hu=>?_) (by omega) (by unfold maxLen;omega) (by omega) (Nat.zero_le _) w.heap.size rfl ?_
 ·obtain⟨j,hj⟩:=List.getElem?_of_mem hu;exact(hrd j u hj).oneCell
 intro g cap w' h2 h3 h4 _
 refine h _ w' ?_ h3 (λq hq=>by
  obtain rfl:g=q:=Option.some.inj hq;exact h4)
 have hl:(acc++[y]).length=acc.length+1:=by simp
 rw[hl];refine hO.append hS hown h2 h3 h4 hcl (λk hk=>?_) (λj u hj=>?_)
 ·have hx:acc[k]?=some acc[k]:=List.getElem?_eq_getElem hk;rw[zax hx,zax (l:=acc++[y]) (i:=k) (by rw[List.getElem?_append_left hk];exact hx)]
 ·rw[zax (l:=acc++[y]) (i:=acc.length) (x:=y) (by rw[List.getElem?_append_right (Nat.le_refl _)];simp)];exact hrd j u hj
theorem zbC {α:Type} (row:α→Nat→D) {T E:TypeId} {size bytes:Nat} {z:Value} (hinfo:(Tryz.prog.info? E).map (λi=>(i.zero,i.size,i.bytes))=some (some z,size,bytes)) (hund:Tryz.prog.underlying T=some (.slice E)) (hzs:z.cells.size=size) (hsz:0<size) (hbb:bytes≤8192)
 {w:World} {ops:Array Oper} {o:Oper} {a:Act} {K:Act→World→Prop} {Q:Exit→Act→World→Prop} {Ee:Prop} (hgd:o.guard=none) (s x:Operand)
 (ho:o.op=.call {callee:=.builtin .append,args:=#[s,x],argTypes:=#[T,T] })
 (S:Nat→Prop) (hS:S w.heap.size) (v:Value) (acc:List α) (hs:a.eval s=v) (hO:OwnS S E size acc.length (zap row acc) w v)
 (ad:Addr) (c:Nat) (y:α) (cs:List Value) (hcl:cs.length=size) (hx:a.eval x=.slice (some ad) 1 c) (hcells:∀(j:Nat) (u:Value),cs[j]?=some u→w.cell? (ad.add j)=some u)
 (hrd:∀(j:Nat) (u:Value),cs[j]?=some u→Rd (λb=>(S b∧b<w.heap.size)∧some b≠v.ownBlock) w (row y j) u) (hlen:acc.length≤2097152)
 (h:∀v' w',OwnS S E size (acc++[y]).length (zap row (acc++[y])) w' v'→w.grownBy w' v.ownBlock→(∀q,v'.ownBlock=some q→v.ownBlock=some q∨q=w.heap.size)→K (a.put o.dst v') w'):if Region.wanted o (yielded ops a.tmps)=true then Oper.wp Tryz.prog o a w K Q else Ee:=by
 obtain⟨i0,hi0,hz0,hz1,hz2⟩:=info_parts hinfo;obtain⟨xs,hown⟩:=hO.owned0.own;have hb:(acc.length+1)*bytes≤2097153*8192:=Nat.mul_le_mul (by omega) hbb;refine step_append_lies w hgd s x T ho 0 E i0 z size bytes hund hi0 hz0 hz1 hz2 hzs hsz v acc.length xs hs hown ad 1 c cs hx (by rw[hcl,Nat.one_mul]) hcells (λu hu=>?_) (by omega) (by unfold maxLen;omega) (by omega) (Nat.zero_le _) w.heap.size rfl ?_
 ·obtain⟨j,hj⟩:=List.getElem?_of_mem hu;exact(hrd j u hj).oneCell
 intro g cap w' h2 h3 h4 _
 refine h _ w' ?_ h3 (λq hq=>by
  obtain rfl:g=q:=Option.some.inj hq;exact h4)
 have hl:(acc++[y]).length=acc.length+1:=by simp
 rw[hl];refine hO.append hS hown h2 h3 h4 hcl (λk hk=>?_) (λj u hj=>?_)
 ·have hx:acc[k]?=some acc[k]:=List.getElem?_eq_getElem hk;rw[zax hx,zax (l:=acc++[y]) (i:=k) (by rw[List.getElem?_append_left hk];exact hx)]
 ·rw[zax (l:=acc++[y]) (i:=acc.length) (x:=y) (by rw[List.getElem?_append_right (Nat.le_refl _)];simp)];exact hrd j u hj
theorem zbK {α:Type} (row:α→Nat→D) {T E:TypeId} {size bytes:Nat} {z:Value} (hinfo:(Tryz.prog.info? E).map (λi=>(i.zero,i.size,i.bytes))=some (some z,size,bytes)) (hund:Tryz.prog.underlying T=some (.slice E)) (hzs:z.cells.size=size) (hsz:0<size) (hbb:bytes≤8192)
 {w:World} {ops:Array Oper} {o:Oper} {a:Act} {K:Act→World→Prop} {Q:Exit→Act→World→Prop} {Ee:Prop} (hgd:o.guard=none) (s x:Operand)
 (ho:o.op=.call {callee:=.builtin .append,args:=#[s,x],argTypes:=#[T,T] })
 (S:Nat→Prop) (hS:S w.heap.size) (v:Value) (acc:List α) (hs:a.eval s=v) (hO:OwnS S E size acc.length (zap row acc) w v)
 (ad:Addr) (c:Nat) (y:α) (cs:List Value) (hcl:cs.length=size) (hx:a.eval x=.slice (some ad) 1 c) (hcells:∀(j:Nat) (u:Value),cs[j]?=some u→w.cell? (ad.add j)=some u)
 (hrd:∀(j:Nat) (u:Value),cs[j]?=some u→Rd (λb=>(S b∧b<w.heap.size)∧some b≠v.ownBlock) w (row y j) u) (hlen:acc.length≤2097152)
 (h:∀v' w',OwnS S E size (acc++[y]).length (zap row (acc++[y])) w' v'→w.grownBy w' v.ownBlock→(∀q,v'.ownBlock=some q→v.ownBlock=some q∨q=w.heap.size)→K (a.put o.dst v') w'):if Region.wanted o (yielded ops a.tmps)=true then Oper.wp Tryz.prog o a w.drew K Q else Ee:=by
 refine zbC row hinfo hund hzs hsz hbb hgd s x ho S hS v acc hs (hO.drewN 1) ad c y cs hcl hx (λj u hj=>hcells j u hj) (λj u hj=>(hrd j u hj).drewN 1) hlen ?_;intro v' w' h1 h2 h3;exact h v' w' h1 ⟨h2.os,h2.tape,h2.output,h2.size,h2.block⟩ h3
theorem OwnS.appendMany {S:Nat→Prop} {e:TypeId} {k n m:Nat} {f f':Nat→Nat→D} {w w':World} {v:Value} {xs news:List Value} {g cap:Nat} (h:OwnS S e k n f w v) (hSn:S w.heap.size) (hown:w.ownsRow 0 e k v n xs)
 (hown':w'.ownsRow 0 e k (.slice (some ⟨g,0,none⟩) (n+m) cap) (n+m) (xs++news)) (hg:w.grownBy w' v.ownBlock) (hat:v.ownBlock=some g∨g=w.heap.size) (hk:news.length=m*k)
 (hf:∀a,a<n→f' a=f a) (hnew:∀i j u,i<m→j<k→news[i*k+j]?=some u→Rd (λb=>(S b∧b<w.heap.size)∧some b≠v.ownBlock) w (f' (n+i) j) u) :
 OwnS S e k (n+m) f' w' (.slice (some ⟨g,0,none⟩) (n+m) cap):=by
 have hxl:xs.length=n*k:=hown.1;have hcells:=hown'.cells (g:=g) rfl;rcases hown'.2 with ⟨hv,_⟩|⟨g',cap',cur,hv,hBg,hcur,hnc,hc,hsz,_⟩
 ·injection hv with hv;cases hv
 injection hv with hv1 _ hv3;injection hv1 with hv1;injection hv1 with hv1;subst hv1 hv3
 have keep:∀{d:D} {u:Value},Rd (λb=>(S b∧b<w.heap.size)∧some b≠v.ownBlock) w d u→Rd (λb=>(S b∧b<w'.heap.size)∧b≠g) w' d u:=λhd=>
  (hd.keep (λb o hb=>World.cell?_of_block (hg.block b hb.1.2 hb.2))).weaken (λb hb=>⟨⟨hb.1.1,Nat.lt_of_lt_of_le hb.1.2 hg.size⟩,λhbg=>by
   subst hbg;rcases hat with h1|h1
   ·exact hb.2 h1.symm
   ·have:=hb.1.2;omega⟩)
 have hgS:S g:=by
  rcases hat with h1|h1
  ·exact(h.below_own g h1).1
  ·rw[h1];exact hSn
 refine .inr ⟨g,cap,rfl,hgS,hnc,hc,⟨cur,hcur,hsz⟩,λa ha j hj=>?_⟩;rcases Nat.lt_or_ge a n with han|han
 ·have hak:=zej (k:=k) han;have hu:xs[a*k+j]?=some (xs[a*k+j]'(by omega)):=List.getElem?_eq_getElem (by omega);have hc1:=hcells (a*k+j) _ ((List.getElem?_append_left (by omega)).trans hu);rw[Addr.add_lit,Nat.zero_add] at hc1;refine⟨_,hc1,?_⟩;rw[hf a han];rcases h with ⟨_,h0⟩|⟨g0,c0,rfl,_,_,_,_,hr⟩
  ·omega
  obtain⟨u,hcu,hd⟩:=hr a han j hj;have hc0:=hown.cells (g:=g0) rfl (a*k+j) _ hu;rw[Addr.add_lit,Nat.zero_add,hcu] at hc0;have he:=Option.some.inj hc0;rw[←he]
  exact keep (hd.weaken (λb hb=>⟨hb.1,λh=>by
   have:some b=some g0:=h;injection this with this;exact hb.2 this⟩))
 ·obtain⟨i,rfl⟩:∃i,a=n+i:=⟨a-n,by omega⟩;have him:i<m:=by omega
  have hik:=zej (k:=k) him;have hd:(n+i)*k+j-n*k=i*k+j:=by rw[Nat.add_mul];omega
  have hge:n*k≤(n+i)*k+j:=by rw[Nat.add_mul];omega
  have hu:news[i*k+j]?=some (news[i*k+j]'(by omega)):=List.getElem?_eq_getElem (by omega);have hc1:=hcells ((n+i)*k+j) _ (by rw[List.getElem?_append_right (by omega),hxl,hd];exact hu);rw[Addr.add_lit,Nat.zero_add] at hc1;exact⟨_,hc1,keep (hnew i j _ him hj hu)⟩
theorem zio {T E:TypeId} {size bytes:Nat} {z:Value} (hinfo:(Tryz.prog.info? E).map (λi=>(i.zero,i.size,i.bytes))=some (some z,size,bytes)) (hund:Tryz.prog.underlying T=some (.slice E)) (hzs:z.cells.size=size) (hsz:0<size) (hbb:bytes≤8192)
 {w:World} {ops:Array Oper} {rest:List Oper} {o:Oper} {a:Act} {Q:Exit→Act→World→Prop} (hgd:o.guard=none) (s x:Operand)
 (ho:o.op=.call {callee:=.builtin .append,args:=#[s,x],argTypes:=#[T,T] })
 (S:Nat→Prop) (hSn:S w.heap.size) (v:Value) (n:Nat) (f:Nat→Nat→D) (hs:a.eval s=v) (hO:OwnS S E size n f w v)
 (m c:Nat) (A:Option Addr) (fl f':Nat→Nat→D) (hx:a.eval x=.slice A m c)
 (hsrc:0<m→∃b off,A=some ⟨b,off,none⟩∧∀i,i<m→zde (λb=>(S b∧b<w.heap.size)∧some b≠v.ownBlock) w b (off+i*size) size (fl i))
 (hf:∀a,a<n→f' a=f a) (hf2:∀i j,i<m→j<size→f' (n+i) j=fl i j) (hlen:n+m≤4194304)
 (h:∀v' w',OwnS S E size (n+m) f' w' v'→w.grownBy w' v.ownBlock→(∀q,v'.ownBlock=some q→v.ownBlock=some q∨q=w.heap.size)→wpList Tryz.prog ops Q rest (a.put o.dst v') w'):wpList Tryz.prog ops Q (o::rest) a w:=by
 obtain⟨i0,hi0,hz0,hz1,hz2⟩:=info_parts hinfo
 by_cases hm0:m=0
 ·subst hm0
  have hsr:Src Tryz.prog i0.size T (.slice A 0 c) 0 [] w:=by
   cases A with
   |none=>exact Src.ofNil w hund c
   |some p=>exact Src.ofSlice w hund p 0 c [] (by simp) (λj u hu=>by simp at hu) (λu hu=>by simp at hu)
  obtain⟨A0,c0,e,hnc,_⟩:=hO.owned0.rd.sl_inv;have hrun:=run_append_nothing (P:=Tryz.prog) w T T o.type E i0 hund hi0 A0 n c0 hnc _ hsr;subst e;refine wpList_plain hgd λK hK=>?_;unfold Oper.wp;simp[execOp,ho,resolve,invoke,builtin,hs,hx,hrun,Result.andThen];refine hK _ _ (h _ w ?_ ⟨rfl,rfl,rfl,Nat.le_refl _,λ_ _ _=>rfl⟩ (λq hq=>.inl hq));rcases hO with ⟨h1,h2⟩|⟨g,c1,h1,h2,h3,h4,h5,h6⟩
  ·exact .inl ⟨h1,h2⟩
  ·exact .inr ⟨g,c1,h1,h2,h3,h4,h5,λk hk=>by rw[hf k hk];exact h6 k hk⟩
 ·obtain⟨b,off,rfl,hrow⟩:=hsrc (by omega);obtain⟨xs,hown⟩:=hO.owned0.own;obtain⟨news,hnws⟩:∃news:List Value,news=(List.range (m*size)).map (λq=>(w.cell? ⟨b,off+q,none⟩).getD undef):=⟨_,rfl⟩;have hnl:news.length=m*size:=by rw[hnws];simp
  have hget:∀q,q<m*size→∃u,news[q]?=some u∧w.cell? ⟨b,off+q,none⟩=some u∧Rd (λb=>(S b∧b<w.heap.size)∧some b≠v.ownBlock) w (fl (q / size) (q % size)) u:=λq hq=>by
   have h1:q / size<m:=Nat.div_lt_of_lt_mul (by rw[Nat.mul_comm];exact hq);have h2:q % size<size:=Nat.mod_lt _ hsz;have h3:q / size*size+q % size=q:=by rw[Nat.mul_comm];exact Nat.div_add_mod q size
   obtain⟨u,hu,hd⟩:=hrow _ h1 _ h2;rw[Nat.add_assoc,h3] at hu;refine⟨u,?_,hu,hd⟩;rw[hnws];simp[hq,hu]
  have hb:(n+m)*bytes≤4194304*8192:=Nat.mul_le_mul hlen hbb;refine wpList_append_lies w hgd s x T ho 0 E i0 z size bytes hund hi0 hz0 hz1 hz2 hzs hsz v n xs hs hown ⟨b,off,none⟩ m c news hx hnl (λj u hj=>?_) (λu hu=>?_) (by omega) (by unfold maxLen;omega) (by omega) (Nat.zero_le _) w.heap.size rfl ?_
  ·have hjl:=(List.getElem?_eq_some_iff.1 hj).1;obtain⟨u',h1,h2,_⟩:=hget j (by omega);rw[Addr.add_lit,h2,←h1,hj]
  ·obtain⟨j,hj⟩:=List.getElem?_of_mem hu;have hjl:=(List.getElem?_eq_some_iff.1 hj).1;obtain⟨u',h1,_,h3⟩:=hget j (by omega);rw[h1] at hj;obtain rfl:=Option.some.inj hj;exact h3.oneCell
  intro g cap w' h2 h3 h4 _
  refine h _ w' ?_ h3 (λq hq=>by
   obtain rfl:g=q:=Option.some.inj hq;exact h4)
  refine hO.appendMany hSn hown h2 h3 h4 hnl hf (λi j u hi hj hu=>?_);have hik:=zej (k:=size) hi;obtain⟨u',h5,_,h6⟩:=hget (i*size+j) (by omega);rw[h5] at hu;obtain rfl:=Option.some.inj hu;have e1:(i*size+j) / size=i:=by rw[Nat.add_comm,Nat.add_mul_div_right _ _ hsz,Nat.div_eq_of_lt hj];omega
  have e2:(i*size+j) % size=j:=by rw[Nat.add_comm,Nat.add_mul_mod_self_right,Nat.mod_eq_of_lt hj]
  rw[e1,e2] at h6;rw[hf2 i j hi hj];exact h6
def rowF (f:Fld):Nat→D
 |0=>.str f.name
 |1=>.num .i64 f.ty.kind
 |2=>.str f.ty.name
 |_=>ys f.ty.args
def fls (l:List Fld):D:=slG 4 rowF l
def zfx (c:Ctr):Nat→D
 |0=>.str c.name
 |_=>fls c.fields
def zfq (d:Dcl):Nat→D
 |0=>.str d.name
 |1=>.bool d.record
 |_=>slG 2 zfx d.ctors
def zkH (e:Eff):Nat→D
 |0=>.str e.name
 |1=>fls e.params
 |2=>.num .i64 e.answer.kind
 |3=>.str e.answer.name
 |_=>ys e.answer.args
def zqx (k:Nat):D:=.sl k 0 (λ_ _=>.bool false)
def ziR (f:Fun'):Nat→D
 |0=>.str f.name
 |1=>fls f.params
 |2=>.num .i64 f.result.kind
 |3=>.str f.result.name
 |4=>ys f.result.args
 |5=>.num .i64 0
 |6=>.num .i64 0
 |7=>.num .i64 0
 |8=>.num .i64 0
 |9=>.str ⟨#[]⟩
 |_=>zqx 5
def ziy (v:Var'):Nat→D
 |0=>.str v.name
 |1=>.num .i64 v.ty.kind
 |2=>.str v.ty.name
 |3=>ys v.ty.args
 |4=>.num .i64 0
 |5=>.num .i64 0
 |6=>.num .i64 0
 |7=>.str ⟨#[]⟩
 |_=>zqx 5
def zgs (h:Hnd):Nat→D
 |0=>.str h.msg
 |1=>fls h.params
 |2=>.num .i64 0
 |_=>zqx 9
def zhp (a:Actr):Nat→D
 |0=>.str a.name
 |1=>fls a.params
 |2=>.num .i64 0
 |3=>slG 9 ziy a.vars
 |4=>slG 4 zgs a.on
 |5=>.num .i64 a.policy
 |_=>.num .i64 a.most
section
variable {ok:Nat→Prop} {w:World}
theorem zlJ (k:Nat):Rd ok w (zqx k) (.slice none 0 0):=Rd.sl_nil
theorem zcA {α:Type} {k:Nat} {row:α→Nat→D} {l:List α} {v:Value} (h:Rd ok w (slG k row l) v):∃A c,v=.slice A l.length c∧l.length≤c∧c≤9223372036854775807:=by
 obtain⟨A,c,e,h1,h2,_⟩:=h.sl_inv;exact⟨A,c,e,h1,h2⟩
theorem zaK.slG {α:Type} {B:Nat} {e:TypeId} {k:Nat} {row:α→Nat→D} {l:List α} {v:Value} (h:zaK B e k l.length (zap row l) w v):Rd (Bt B w.heap.size) w (slG k row l) v:=h.rd
end
def zrj (w:World) (t:Ty) (e:Ending) (w':World):Prop:=Below w.heap.size w w'∧∃b A c,e=.returned (.tuple #[.agg #[.int .i64 t.kind,.string t.name,.slice A t.args.length c],.bool b])∧Rd (Bt w.heap.size w'.heap.size) w' (ys t.args) (.slice A t.args.length c)
theorem zgO (n:Nd) (A:Option Addr) (c:Nat) (w:World) (hf:n.fit=true) (hs:n.size≤2097152) (h:Rd (Lt w.heap.size) w (ns n.kids) (.slice A n.kids.length c)) :
 Calls Tryz.prog 25 #[.agg #[.int .i64 n.kind,.string n.text,.int .i64 n.n,.int .i64 n.at',.slice A n.kids.length c]] w (zrj w (zcs n)):=by
 refine(zpU n A c w hf hs h).mono ?_;rintro e w' ⟨hb,hp⟩;refine⟨hb,?_⟩;unfold zcs;cases hr:zfp n with
 |none=>
  rw[hr] at hp;exact⟨false,none,0,hp,Rd.sl_nil⟩
 |some t=>
  rw[hr] at hp;obtain⟨A2,c2,he,hd⟩:=hp;exact⟨true,A2,c2,he,hd⟩
def zpe (w:World) (d:D) (n:Nat) (e:Ending) (w':World):Prop:=Below w.heap.size w w'∧∃A c,e=.returned (.slice A n c)∧Rd (Bt w.heap.size w'.heap.size) w' d (.slice A n c)
def zhV (l:List Nd):Prop:=∀x∈l,0<x.kids.length
theorem zhT {n:Nd} {z:Nd} (h:n.kids[0]?=some z):kid0 n=z:=by
 unfold kid0;cases hk:n.kids with
 |nil=>rw[hk] at h;cases h
 |cons a r=>rw[hk] at h;simp at h;simpa using h
theorem zdJ {P:Program} {fn:Func} {p:Tmp} {ty:TypeId} (h:fn.results=#[.cell p ty]) (tmps:Array Value) (w:World) (g:Nat) (t:TypeId) (cs:Array Value) (fr:Nat × Nat) (d:TypeDesc)
 (hp:tmps.getD p undef=.pointer (some ⟨g,0,none⟩)) (hg:w.heap[g]?=some (.cells cs t fr))
 (hu:P.underlying ty=some d) (hd:(match d with|.struct _|.array _ _=>true|_=>false)=true) (hi:(P.info? ty).map (·.size)=some cs.size) :
 (results fn tmps).run P w=.ok (.agg cs) w:=by
 have hp':tmps[p]?.getD undef=.pointer (some ⟨g,0,none⟩):=by simpa using hp
 simp[results,h,hp',asAddr,run_loadVar_row w g t ty cs fr d hg hu hd hi]
end Go.Proofs.YtjdpocmlimkjjaaGreat
