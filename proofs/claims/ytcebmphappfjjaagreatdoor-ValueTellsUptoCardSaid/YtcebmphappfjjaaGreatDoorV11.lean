/- Conditions: those in each statement. -/
import Derived.Test.YtcebmphappfjjaaGreatDoorV10
import Derived.Test.YtcebmphappfjjaaGreatDoorV04
set_option maxHeartbeats 32000000
set_option maxRecDepth 100000
namespace Go.Proofs.YtcebmphappfjjaaGreatDoor
open Go.RowKit
theorem zik (x:Nd) (r:List Nd):zaL (x::r)=if x.kind=7 then x::zaL r else []:=by
 unfold zaL;rw[List.takeWhile_cons]
 by_cases h:x.kind=7<;>simp[h]
theorem zeS:∀l:List Nd,zaL l=l.take (zaL l).length
 |[]=>rfl
 |x::r=>by
  rw[zik]
  by_cases h:x.kind=7
  ·rw[if_pos h,List.length_cons,List.take_succ_cons,<-zeS r]
  ·rw[if_neg h];rfl
theorem zgw:∀l:List Nd,(zaL l).length<=l.length
 |[]=>Nat.le_refl _
 |x::r=>by
  have:=zgw r;rw[zik]
  by_cases h:x.kind=7
  ·rw[if_pos h,List.length_cons,List.length_cons];omega
  ·rw[if_neg h];simp
theorem zjp:∀(l:List Nd) (k:Nat),zaB (l.take k)<=zaB l
 |[],k=>by simp
 |x::r,0=>by rw[List.take_zero,zaB];omega
 |x::r,k+1=>by
  have:=zjp r k;rw[List.take_succ_cons,zcR,zcR];omega
theorem zpT (l:List Nd):zaB (zaL l)<=zaB l:=by rw[zeS];exact zjp _ _
theorem zsa {l:List Nd} (h:fitL l=true):fitL (zaL l)=true:=by rw[zeS];exact zgd h _
theorem zih {ok:Nat->Prop} {w:World} {l:List Nd} {A:Option Addr} {c:Nat} (h:Rd ok w (ns l) (.slice A l.length c)):Rd ok w (ns (zaL l)) (.slice A (zaL l).length c):=by
 have:=zhO h (zgw l)
 rwa [<-zeS l] at this
theorem zcj (l:List Nd) (A:Option Addr) (c:Nat) (w:World) (h:Rd (Lt w.heap.size) w (ns l) (.slice A l.length c)) :
 Calls Tryz.prog 136 #[.slice A l.length c,.int .i64 7] w λe w'=>e=.returned (.slice A (zaL l).length c)/\Below w.heap.size w w':=by
 have HR:=zz h;have hl:=zaS h;have hn:l.length<=9223372036854775807:=Nat.le_trans hl.2.1 hl.2.2;have hc1:=hl.2.1;have hc2:=hl.2.2;obtain⟨m,hm⟩:=zn ((zaL l).length);rw[hm];have HA0:Hid (0+(zaL (l.drop 0)).length=m):=zz (by rw[List.drop_zero,hm,Nat.zero_add]);have HB0:Hid (Below w.heap.size w w):=zz (Below.refl _ _);clear h hl hm;go_in;go_wp2
 go_loopw [9] (λs wr=>∃i:Nat,i<=l.length/\s=↑i/\Hid (i+(zaL (l.drop i)).length=m)/\Hid (Below w.heap.size w wr)) (λs _=>l.length-(intOf s).toNat)
 case atStart=>exact⟨0,zo,rfl,HA0,HB0⟩
 case round=>
  clear HA0 HB0;obtain⟨i,hi,rfl,HA,HB⟩:=hrel;have sB:=HB.out.size
  by_cases hlt:i<l.length
  ·obtain⟨b,off,y,e,hlb,hget,A',c',p0,p1,p2,p3,p4,r5⟩:=zbC (HR.out.belows HB.out) hlt;subst e;have hin:(i:Int)<l.length:=zo
   have q:=HA.out;rw[zal hget,zik] at q;obtain⟨w3,hw3,hb1,hx1⟩:=zaj wr #[↑y.kind,↑y.text,↑y.n,↑y.at',.slice A' y.kids.length c'] 49;have q0:=hx1.a 0 rfl;have HB3:=zz (zac HB.out hb1 HB.out.size);clear r5 hb1 hx1 HA hget hlb
   by_cases hk:y.kind=7
   ·rw[if_pos hk,List.length_cons] at q;have HQ:Hid (i+1+(zaL (l.drop (i+1))).length=m):=zz zo;have e7:(y.kind != 7)=false:=by simp[hk]
    clear q hk;go_wp2;exact⟨⟨i+1,zo,by go_num,HQ,HB3⟩,by simp[intOf];omega⟩
   ·rw[if_neg hk] at q;have HQ:Hid (i=m):=zz (by simpa using q);have e7:(y.kind != 7)=true:=by simp[hk]
    clear q hk;go_wp2;go_ret;exact⟨by rw[HQ.out];rfl,HB3.out⟩
  ·have HQ:Hid (l.length=m):=zz (by
    have q:=HA.out;rw[List.drop_eq_nil_of_le zo] at q;have:(zaL []).length=0:=rfl;omega)
   clear HA;go_wp2;go_ret;exact⟨by rw[HQ.out];rfl,HB.out⟩
def zaZ (n:Nd):Bool:=decide (n.kind=2\/n.kind=3\/n.kind=4\/n.kind=5\/n.kind=6)
theorem zou (n:Nd) (A:Option Addr) (c:Nat) (w:World) :
 Calls Tryz.prog 73 #[.agg #[↑n.kind,↑n.text,↑n.n,↑n.at',.slice A n.kids.length c]] w λe w'=>e=.returned (.bool (zaZ n))/\Below w.heap.size w w':=by
 obtain⟨w0,hw,hb,hx⟩:=zaj w #[↑n.kind,↑n.text,↑n.n,↑n.at',.slice A n.kids.length c] 49;have x0:=hx.a 0 rfl;have HB:=zz hb;have HE:Hid (zaZ n=decide (n.kind=2\/n.kind=3\/n.kind=4\/n.kind=5\/n.kind=6)):=zz rfl;clear hb hx;generalize zaZ n=R at *
 generalize n.kind=k at *
 rcases (show k=2\/k=3\/k=4\/k=5\/k=6\/¬(k=2\/k=3\/k=4\/k=5\/k=6) by omega) with rfl|rfl|rfl|rfl|rfl|h
 all_goals first
  |(go_in
    go_wp2;go_ret;exact⟨by rw[HE.out];rfl,HB.out⟩)
  |(have e2:(k == 2)=false:=by rw[beq_eq_false_iff_ne];omega
    have e3:(k == 3)=false:=by rw[beq_eq_false_iff_ne];omega
    have e4:(k == 4)=false:=by rw[beq_eq_false_iff_ne];omega
    have e5:(k == 5)=false:=by rw[beq_eq_false_iff_ne];omega
    have e6:(k == 6)=false:=by rw[beq_eq_false_iff_ne];omega
    rw[decide_eq_false h] at HE;clear h;go_in;go_wp2;go_ret;exact⟨by rw[HE.out];rfl,HB.out⟩)
def OwnS (S:Nat->Prop) (e:TypeId) (k n:Nat) (f:Nat->Nat->D) (w:World) (v:Value):Prop:=
 (v=.slice none 0 0/\n=0)\/
 ∃g c,v=.slice (some ⟨g,0,none⟩) n c/\S g/\n<=c/\c<=9223372036854775807/\Blk w g e (c*k)/\∀a,a<n->zcI (λb=>(S b/\b<w.heap.size)/\b≠g) w g (a*k) k (f a)
section
variable {S S':Nat->Prop} {B:Nat} {e:TypeId} {k n:Nat} {f:Nat->Nat->D} {w w':World} {v:Value} {M:Nat->Prop}
theorem OwnS.nil (S:Nat->Prop) (e:TypeId) (k:Nat) (f:Nat->Nat->D) (w:World):OwnS S e k 0 f w (.slice none 0 0):=.inl ⟨rfl,rfl⟩
theorem OwnS.owned (h:OwnS S e k n f w v) (hS:∀b,S b->B<=b):zaz B e k n f w v:=by
 rcases h with h|⟨g,c,h1,h2,h3,h4,h5,h6⟩
 ·exact .inl h
 ·exact .inr ⟨g,c,h1,hS g h2,h3,h4,h5,λa ha=>(h6 a ha).weaken (λb hb=>⟨⟨hS b hb.1.1,hb.1.2⟩,hb.2⟩)⟩
theorem OwnS.owned0 (h:OwnS S e k n f w v):zaz 0 e k n f w v:=h.owned (λ_ _=>Nat.zero_le _)
theorem OwnS.rd (h:OwnS S e k n f w v):Rd (λb=>S b/\b<w.heap.size) w (.sl k n f) v:=by
 rcases h with ⟨rfl,rfl⟩|⟨g,c,rfl,hS,hnc,hc,hbk,hr⟩
 ·exact Rd.sl_nil
 ·refine Rd.sl_mk hnc hc λ_=>⟨g,0,rfl,⟨hS,hbk.lt⟩,λi hi=>?_⟩;rw[Nat.zero_add];exact(hr i hi).weaken (λb hb=>hb.1)
theorem OwnS.below_own (h:OwnS S e k n f w v) (q:Nat) (hq:v.ownBlock=some q):S q/\q<w.heap.size:=by
 rcases h with ⟨rfl,_⟩|⟨g,c,rfl,hS,_,_,hbk,_⟩
 ·cases hq
 ·have:g=q:=Option.some.inj hq;subst this;exact⟨hS,hbk.lt⟩
theorem OwnS.chg (h:OwnS S e k n f w v) (hc:Chg M w w') (hm:∀j,M j->j<w.heap.size->¬S j):OwnS S e k n f w' v:=by
 rcases h with h|⟨g,c,rfl,hB,hnc,hcm,⟨cur,hcur,hsz⟩,hr⟩
 ·exact .inl h
 ·have hg:g<w.heap.size:=(Array.getElem?_eq_some_iff.1 hcur).1;have keep:∀j,S j->j<w.heap.size->w'.heap[j]?=w.heap[j]?:=λj h1 h2=>hc.block j h2 (λhmj=>hm j hmj h2 h1);refine .inr ⟨g,c,rfl,hB,hnc,hcm,⟨cur,(keep g hB hg).trans hcur,hsz⟩,λa ha=>?_⟩;refine zcI.weaken (ok:=λb=>(S b/\b<w.heap.size)/\b≠g) (λb hb'=>⟨⟨hb'.1.1,Nat.lt_of_lt_of_le hb'.1.2 hc.size⟩,hb'.2⟩) ?_;exact(hr a ha).keep (λb o hb'=>World.cell?_of_block (a:=⟨b,o,none⟩) (keep b hb'.1.1 hb'.1.2)) (λj _=>World.cell?_of_block (a:=⟨g,_,none⟩) (keep g hB hg))
theorem OwnS.below (h:OwnS S e k n f w v) (hb:Below w.heap.size w w'):OwnS S e k n f w' v:=h.chg (Chg.of_below (M:=λ_=>False) hb) (λ_ h=>h.elim)
theorem OwnS.drewN (h:OwnS S e k n f w v) (q:Nat):OwnS S e k n f (w.drewN q) v:=h.below (zae (Below.refl _ _) q)
theorem OwnS.sub (h:OwnS S e k n f w v) (hS:∀b,b<w.heap.size->S b->S' b):OwnS S' e k n f w v:=by
 rcases h with h|⟨g,c,h1,h2,h3,h4,h5,h6⟩
 ·exact .inl h
 ·exact .inr ⟨g,c,h1,hS g h5.lt h2,h3,h4,h5,λa ha=>(h6 a ha).weaken (λb hb=>⟨⟨hS b hb.1.2 hb.1.1,hb.1.2⟩,hb.2⟩)⟩
end
theorem OwnS.append {S:Nat->Prop} {e:TypeId} {k n:Nat} {f f':Nat->Nat->D} {w w':World} {v:Value} {xs news:List Value} {g cap:Nat} (h:OwnS S e k n f w v) (hSn:S w.heap.size) (hown:w.ownsRow 0 e k v n xs)
 (hown':w'.ownsRow 0 e k (.slice (some ⟨g,0,none⟩) (n+1) cap) (n+1) (xs++news)) (hg:w.grownBy w' v.ownBlock) (hat:v.ownBlock=some g\/g=w.heap.size) (hk:news.length=k)
 (hf:∀a,a<n->f' a=f a) (hnew:∀j u,news[j]?=some u->Rd (λb=>(S b/\b<w.heap.size)/\some b≠v.ownBlock) w (f' n j) u) :
 OwnS S e k (n+1) f' w' (.slice (some ⟨g,0,none⟩) (n+1) cap):=by
 have hxl:xs.length=n*k:=hown.1;have hcells:=hown'.cells (g:=g) rfl;rcases hown'.2 with ⟨hv,_⟩|⟨g',cap',cur,hv,hBg,hcur,hnc,hc,hsz,_⟩
 ·injection hv with hv;cases hv
 injection hv with hv1 _ hv3;injection hv1 with hv1;injection hv1 with hv1;subst hv1 hv3
 have keep:∀{d:D} {u:Value},Rd (λb=>(S b/\b<w.heap.size)/\some b≠v.ownBlock) w d u->Rd (λb=>(S b/\b<w'.heap.size)/\b≠g) w' d u:=λhd=>
  (hd.keep (λb o hb=>World.cell?_of_block (hg.block b hb.1.2 hb.2))).weaken (λb hb=>⟨⟨hb.1.1,Nat.lt_of_lt_of_le hb.1.2 hg.size⟩,λhbg=>by
   subst hbg;rcases hat with h1|h1
   ·exact hb.2 h1.symm
   ·have:=hb.1.2;omega⟩)
 have hgS:S g:=by
  rcases hat with h1|h1
  ·exact(h.below_own g h1).1
  ·rw[h1];exact hSn
 refine .inr ⟨g,cap,rfl,hgS,hnc,hc,⟨cur,hcur,hsz⟩,λa ha j hj=>?_⟩;rcases Nat.lt_or_ge a n with han|han
 ·have hak:=zdO (k:=k) han;have hu:xs[a*k+j]?=some (xs[a*k+j]'(zo)):=List.getElem?_eq_getElem zo;have hc1:=hcells (a*k+j) _ ((List.getElem?_append_left zo).trans hu);rw[Addr.add_lit,Nat.zero_add] at hc1;refine⟨_,hc1,?_⟩;rw[hf a han];rcases h with ⟨_,h0⟩|⟨g0,c0,rfl,_,_,_,_,hr⟩
  ·omega
  obtain⟨u,hcu,hd⟩:=hr a han j hj;have hc0:=hown.cells (g:=g0) rfl (a*k+j) _ hu;rw[Addr.add_lit,Nat.zero_add,hcu] at hc0;have he:=Option.some.inj hc0;rw[<-he]
  exact keep (hd.weaken (λb hb=>⟨hb.1,λh=>by
   have:some b=some g0:=h;injection this with this;exact hb.2 this⟩))
 ·obtain rfl:a=n:=zo
  have hu:news[j]?=some (news[j]'(zo)):=List.getElem?_eq_getElem zo;have hc1:=hcells (a*k+j) _ (by rw[List.getElem?_append_right zo,hxl,show a*k+j-a*k=j by omega];exact hu);rw[Addr.add_lit,Nat.zero_add] at hc1;exact⟨_,hc1,keep (hnew j _ hu)⟩
theorem zaJ {α:Type} (row:α->Nat->D) {T E:TypeId} {size bytes:Nat} {z:Value} (hinfo:(Tryz.prog.info? E).map (λi=>(i.zero,i.size,i.bytes))=some (some z,size,bytes)) (hund:Tryz.prog.underlying T=some (.slice E)) (hzs:z.cells.size=size) (hsz:0<size) (hbb:bytes<=8192)
 {w:World} {ops:Array Oper} {rest:List Oper} {o:Oper} {a:Act} {Q:Exit->Act->World->Prop} (hgd:o.guard=none) (s x:Operand)
 (ho:o.op=.call {callee:=.builtin .append,args:=#[s,x],argTypes:=#[T,T] })
 (S:Nat->Prop) (hS:S w.heap.size) (v:Value) (acc:List α) (hs:a.eval s=v) (hO:OwnS S E size acc.length (zan row acc) w v)
 (ad:Addr) (c:Nat) (y:α) (cs:List Value) (hcl:cs.length=size) (hx:a.eval x=.slice (some ad) 1 c) (hcells:∀(j:Nat) (u:Value),cs[j]?=some u->w.cell? (ad.add j)=some u)
 (hrd:∀(j:Nat) (u:Value),cs[j]?=some u->Rd (λb=>(S b/\b<w.heap.size)/\some b≠v.ownBlock) w (row y j) u) (hlen:acc.length<=2097152)
 (h:∀v' w',OwnS S E size (acc++[y]).length (zan row (acc++[y])) w' v'->w.grownBy w' v.ownBlock->(∀q,v'.ownBlock=some q->v.ownBlock=some q\/q=w.heap.size)->wpList Tryz.prog ops Q rest (a.put o.dst v') w'):wpList Tryz.prog ops Q (o::rest) a w:=by
 obtain⟨i0,hi0,hz0,hz1,hz2⟩:=info_parts hinfo;obtain⟨xs,hown⟩:=hO.owned0.own;have hb:(acc.length+1)*bytes<=2097153*8192:=Nat.mul_le_mul zo hbb;refine wpList_append_lies w hgd s x T ho 0 E i0 z size bytes hund hi0 hz0 hz1 hz2 hzs hsz v acc.length xs hs hown ad 1 c cs hx (by rw[hcl,Nat.one_mul]) hcells (λu hu=>?_) zo (by unfold maxLen;omega) zo (Nat.zero_le _) w.heap.size rfl ?_
 ·obtain⟨j,hj⟩:=List.getElem?_of_mem hu;exact(hrd j u hj).oneCell
 intro g cap w' h2 h3 h4 _
 refine h _ w' ?_ h3 (λq hq=>by
  obtain rfl:g=q:=Option.some.inj hq;exact h4)
 have hl:(acc++[y]).length=acc.length+1:=by simp
 rw[hl];refine hO.append hS hown h2 h3 h4 hcl (λk hk=>?_) (λj u hj=>?_)
 ·have hx:acc[k]?=some acc[k]:=List.getElem?_eq_getElem hk;rw[zas hx,zas (l:=acc++[y]) (i:=k) (by rw[List.getElem?_append_left hk];exact hx)]
 ·rw[zas (l:=acc++[y]) (i:=acc.length) (x:=y) (by rw[List.getElem?_append_right (Nat.le_refl _)];simp)];exact hrd j u hj
theorem zbo {α:Type} (row:α->Nat->D) {T E:TypeId} {size bytes:Nat} {z:Value} (hinfo:(Tryz.prog.info? E).map (λi=>(i.zero,i.size,i.bytes))=some (some z,size,bytes)) (hund:Tryz.prog.underlying T=some (.slice E)) (hzs:z.cells.size=size) (hsz:0<size) (hbb:bytes<=8192)
 {w:World} {ops:Array Oper} {o:Oper} {a:Act} {K:Act->World->Prop} {Q:Exit->Act->World->Prop} {Ee:Prop} (hgd:o.guard=none) (s x:Operand)
 (ho:o.op=.call {callee:=.builtin .append,args:=#[s,x],argTypes:=#[T,T] })
 (S:Nat->Prop) (hS:S w.heap.size) (v:Value) (acc:List α) (hs:a.eval s=v) (hO:OwnS S E size acc.length (zan row acc) w v)
 (ad:Addr) (c:Nat) (y:α) (cs:List Value) (hcl:cs.length=size) (hx:a.eval x=.slice (some ad) 1 c) (hcells:∀(j:Nat) (u:Value),cs[j]?=some u->w.cell? (ad.add j)=some u)
 (hrd:∀(j:Nat) (u:Value),cs[j]?=some u->Rd (λb=>(S b/\b<w.heap.size)/\some b≠v.ownBlock) w (row y j) u) (hlen:acc.length<=2097152)
 (h:∀v' w',OwnS S E size (acc++[y]).length (zan row (acc++[y])) w' v'->w.grownBy w' v.ownBlock->(∀q,v'.ownBlock=some q->v.ownBlock=some q\/q=w.heap.size)->K (a.put o.dst v') w'):if Region.wanted o (yielded ops a.tmps)=true then Oper.wp Tryz.prog o a w K Q else Ee:=by
 obtain⟨i0,hi0,hz0,hz1,hz2⟩:=info_parts hinfo;obtain⟨xs,hown⟩:=hO.owned0.own;have hb:(acc.length+1)*bytes<=2097153*8192:=Nat.mul_le_mul zo hbb;refine step_append_lies w hgd s x T ho 0 E i0 z size bytes hund hi0 hz0 hz1 hz2 hzs hsz v acc.length xs hs hown ad 1 c cs hx (by rw[hcl,Nat.one_mul]) hcells (λu hu=>?_) zo (by unfold maxLen;omega) zo (Nat.zero_le _) w.heap.size rfl ?_
 ·obtain⟨j,hj⟩:=List.getElem?_of_mem hu;exact(hrd j u hj).oneCell
 intro g cap w' h2 h3 h4 _
 refine h _ w' ?_ h3 (λq hq=>by
  obtain rfl:g=q:=Option.some.inj hq;exact h4)
 have hl:(acc++[y]).length=acc.length+1:=by simp
 rw[hl];refine hO.append hS hown h2 h3 h4 hcl (λk hk=>?_) (λj u hj=>?_)
 ·have hx:acc[k]?=some acc[k]:=List.getElem?_eq_getElem hk;rw[zas hx,zas (l:=acc++[y]) (i:=k) (by rw[List.getElem?_append_left hk];exact hx)]
 ·rw[zas (l:=acc++[y]) (i:=acc.length) (x:=y) (by rw[List.getElem?_append_right (Nat.le_refl _)];simp)];exact hrd j u hj
theorem zbx {α:Type} (row:α->Nat->D) {T E:TypeId} {size bytes:Nat} {z:Value} (hinfo:(Tryz.prog.info? E).map (λi=>(i.zero,i.size,i.bytes))=some (some z,size,bytes)) (hund:Tryz.prog.underlying T=some (.slice E)) (hzs:z.cells.size=size) (hsz:0<size) (hbb:bytes<=8192)
 {w:World} {ops:Array Oper} {o:Oper} {a:Act} {K:Act->World->Prop} {Q:Exit->Act->World->Prop} {Ee:Prop} (hgd:o.guard=none) (s x:Operand)
 (ho:o.op=.call {callee:=.builtin .append,args:=#[s,x],argTypes:=#[T,T] })
 (S:Nat->Prop) (hS:S w.heap.size) (v:Value) (acc:List α) (hs:a.eval s=v) (hO:OwnS S E size acc.length (zan row acc) w v)
 (ad:Addr) (c:Nat) (y:α) (cs:List Value) (hcl:cs.length=size) (hx:a.eval x=.slice (some ad) 1 c) (hcells:∀(j:Nat) (u:Value),cs[j]?=some u->w.cell? (ad.add j)=some u)
 (hrd:∀(j:Nat) (u:Value),cs[j]?=some u->Rd (λb=>(S b/\b<w.heap.size)/\some b≠v.ownBlock) w (row y j) u) (hlen:acc.length<=2097152)
 (h:∀v' w',OwnS S E size (acc++[y]).length (zan row (acc++[y])) w' v'->w.grownBy w' v.ownBlock->(∀q,v'.ownBlock=some q->v.ownBlock=some q\/q=w.heap.size)->K (a.put o.dst v') w'):if Region.wanted o (yielded ops a.tmps)=true then Oper.wp Tryz.prog o a w.drew K Q else Ee:=by
 refine zbo row hinfo hund hzs hsz hbb hgd s x ho S hS v acc hs (hO.drewN 1) ad c y cs hcl hx (λj u hj=>hcells j u hj) (λj u hj=>(hrd j u hj).drewN 1) hlen ?_;intro v' w' h1 h2 h3;exact h v' w' h1 ⟨h2.os,h2.tape,h2.output,h2.size,h2.block⟩ h3
def rowF (f:Fld):Nat->D
 |0=>.str f.name
 |1=>.num .i64 f.ty.kind
 |2=>.str f.ty.name
 |_=>ys f.ty.args
def fls (l:List Fld):D:=slG 4 rowF l
def zha (c:Ctr):Nat->D
 |0=>.str c.name
 |_=>fls c.fields
def zgj (d:Dcl):Nat->D
 |0=>.str d.name
 |1=>.bool d.record
 |_=>slG 2 zha d.ctors
def zlM (e:Eff):Nat->D
 |0=>.str e.name
 |1=>fls e.params
 |2=>.num .i64 e.answer.kind
 |3=>.str e.answer.name
 |_=>ys e.answer.args
def zrX (k:Nat):D:=.sl k 0 (λ_ _=>.bool false)
def zme (f:Fun'):Nat->D
 |0=>.str f.name
 |1=>fls f.params
 |2=>.num .i64 f.result.kind
 |3=>.str f.result.name
 |4=>ys f.result.args
 |5=>.num .i64 0
 |6=>.num .i64 0
 |7=>.num .i64 0
 |8=>.num .i64 0
 |9=>.str ⟨#[]⟩
 |_=>zrX 5
def ziD (v:Var'):Nat->D
 |0=>.str v.name
 |1=>.num .i64 v.ty.kind
 |2=>.str v.ty.name
 |3=>ys v.ty.args
 |4=>.num .i64 0
 |5=>.num .i64 0
 |6=>.num .i64 0
 |7=>.str ⟨#[]⟩
 |_=>zrX 5
def zix (h:Hnd):Nat->D
 |0=>.str h.msg
 |1=>fls h.params
 |2=>.num .i64 0
 |_=>zrX 9
def zjX (a:Actr):Nat->D
 |0=>.str a.name
 |1=>fls a.params
 |2=>.num .i64 0
 |3=>slG 9 ziD a.vars
 |4=>slG 4 zix a.on
 |5=>.num .i64 a.policy
 |_=>.num .i64 a.most
section
variable {ok:Nat->Prop} {w:World}
theorem zlF (k:Nat):Rd ok w (zrX k) (.slice none 0 0):=Rd.sl_nil
theorem zaz.slG {α:Type} {B:Nat} {e:TypeId} {k:Nat} {row:α->Nat->D} {l:List α} {v:Value} (h:zaz B e k l.length (zan row l) w v):Rd (Bt B w.heap.size) w (slG k row l) v:=h.rd
end
def ztv (w:World) (t:Ty) (e:Ending) (w':World):Prop:=Below w.heap.size w w'/\∃b A c,e=.returned (.tuple #[.agg #[.int .i64 t.kind,.string t.name,.slice A t.args.length c],.bool b])/\Rd (Bt w.heap.size w'.heap.size) w' (ys t.args) (.slice A t.args.length c)
theorem zfG (n:Nd) (hb:BasN n) (A:Option Addr) (c:Nat) (w:World) (hf:n.fit=true) (hs:n.size<=2097152) (h:Rd (Lt w.heap.size) w (ns n.kids) (.slice A n.kids.length c)) :
 Calls Tryz.prog 131 #[.agg #[↑n.kind,↑n.text,↑n.n,↑n.at',.slice A n.kids.length c]] w (ztv w (zfu n)):=by
 refine(zry n hb A c w hf hs h).mono ?_;rintro e w' ⟨hb,hp⟩;refine⟨hb,?_⟩;unfold zfu;cases hr:zjC n with
 |none=>
  rw[hr] at hp;exact⟨false,none,0,hp,Rd.sl_nil⟩
 |some t=>
  rw[hr] at hp;obtain⟨A2,c2,he,hd⟩:=hp;exact⟨true,A2,c2,he,hd⟩
def zqP (w:World) (d:D) (n:Nat) (e:Ending) (w':World):Prop:=Below w.heap.size w w'/\∃A c,e=.returned (.slice A n c)/\Rd (Bt w.heap.size w'.heap.size) w' d (.slice A n c)
def zhU (l:List Nd):Prop:=∀x∈l,0<x.kids.length
theorem zhd {n:Nd} {z:Nd} (h:n.kids[0]?=some z):kid0 n=z:=by
 unfold kid0;cases hk:n.kids with
 |nil=>rw[hk] at h;cases h
 |cons a r=>rw[hk] at h;simp at h;simpa using h
theorem zdh {P:Program} {fn:Func} {p:Tmp} {ty:TypeId} (h:fn.results=#[.cell p ty]) (tmps:Array Value) (w:World) (g:Nat) (t:TypeId) (cs:Array Value) (fr:Nat × Nat) (d:TypeDesc)
 (hp:tmps.getD p undef=.pointer (some ⟨g,0,none⟩)) (hg:w.heap[g]?=some (.cells cs t fr))
 (hu:P.underlying ty=some d) (hd:(match d with|.struct _|.array _ _=>true|_=>false)=true) (hi:(P.info? ty).map (·.size)=some cs.size) :
 (results fn tmps).run P w=.ok (.agg cs) w:=by
 have hp':tmps[p]?.getD undef=.pointer (some ⟨g,0,none⟩):=by simpa using hp
 simp[results,h,hp',asAddr,run_loadVar_row w g t ty cs fr d hg hu hd hi]
theorem zsD:(Tryz.prog.info? 74).map (λi=>(i.zero,i.size,i.bytes))=some (some (.agg #[↑zj.a,↑(),↑zj.a,.slice none 0 0]),4,64):=by kernel_rfl
abbrev zko (s:ByteArray) (x:Ty) (A:Option Addr) (c:Nat):List Value:=[.string s,.int .i64 x.kind,.string x.name,.slice A x.args.length c]
theorem zku {ok:Nat->Prop} {w:World} {s:ByteArray} {x:Ty} {A:Option Addr} {c:Nat} (h:Rd ok w (ys x.args) (.slice A x.args.length c)):∀j u,(zko s x A c)[j]?=some u->Rd ok w (rowF ⟨s,x⟩ j) u:=by
 intro j u hj
 match j with
 |0=>simp at hj;exact hj.symm
 |1=>simp at hj;exact hj.symm
 |2=>simp at hj;exact hj.symm
 |3=>simp at hj;rw[<-hj];exact h
 |j+4=>simp at hj
theorem ziP {x:Nat} (W:World) (hx:W.heap.size=x) (s:ByteArray) (y:Ty) (A:Option Addr) (c:Nat):∀(j:Nat) (u:Value),(zko s y A c)[j]?=some u->(W.alloc (.cells #[↑s,↑y.kind,↑y.name,.slice A y.args.length c] 74)).cell? ((⟨x,0,none⟩:Addr).add j)=some u:=λj u hj=>by
 subst hx;have:=zbG W (zko s y A c).toArray 74 j;rw[List.getElem?_toArray,hj] at this;rw[Addr.add_lit,Nat.zero_add];exact this
theorem zrh {W:World} {lo B N:Nat} {d:D} {u v:Value} (R:Rd (Bt lo N) W d u) (hN:N<=W.heap.size) (hB:B<=lo) (HOB:∀g,v.ownBlock=some g->g<lo):Rd (λb=>Bt B W.heap.size b/\some b≠v.ownBlock) W d u:=
 R.weaken (λq hq=>⟨⟨Nat.le_trans hB hq.1,Nat.lt_of_lt_of_le hq.2 hN⟩,λe=>by have:=HOB q e.symm;have:=hq.1;omega⟩)
structure PmSt (w W:World) (acc:List Fld) (A:Option Addr) (c:Nat):Prop where
 low:Below w.heap.size w W
 own:zaz w.heap.size 74 4 acc.length (zan rowF acc) W (.slice A acc.length c)
section
variable {w W W':World} {acc:List Fld} {A:Option Addr} {c:Nat}
theorem PmSt.below (h:PmSt w W acc A c) (k:Below W.heap.size W W'):PmSt w W' acc A c:=⟨zac h.low k h.low.size,h.own.below k⟩
end
theorem zdo (l:List Nd) (A:Option Addr) (c:Nat) (w:World) (hk:zhU (zaL l)) (hB:∀f∈zaL l,BasN (kid0 f)) (hf:fitL l=true) (hs:zaB l<=2097152) (h:Rd (Lt w.heap.size) w (ns l) (.slice A l.length c)) :
 Calls Tryz.prog 137 #[.slice A l.length c] w (zqP w (fls (zbz l)) (zbz l).length):=by
 have KL:=zz (zcj l A c w h);have hfl:fitL (zaL l)=true:=zsa hf;have hsl:zaB (zaL l)<=2097152:=Nat.le_trans (zpT l) hs;have HRl:=zz (zih h);have hl:=zaS h;have hc1:=hl.2.1;have hc2:=hl.2.2;have hle:=zgw l;obtain⟨m,hm⟩:=zn (zaL l);obtain⟨r,hr⟩:=zn (zbz l);rw[hr];unfold zbz at hr;rw[hm] at hfl hsl hk hr hle hB;simp only[hm] at KL HRl;have HF:=zz hfl;have HK:=zz hk;have HBF:=zz hB;have hn:m.length<=2097152:=Nat.le_trans (zat m) hsl;have HA0:Hid ([]++((m.drop 0).map (λf=>(⟨f.text,zfu (kid0 f)⟩:Fld)))=r):=zz hr;clear h hl hm hr hk hf hs hfl hB;go_in;go_wp2_with fail;refine zi KL ?_;rintro e w1 ⟨rfl,hb1⟩;have HB0:Hid (PmSt w w1 [] none 0):=zz ⟨hb1,zaz.nil _ _ _ _ _⟩;clear hb1;go_wp2
 go_loopw [11,3] (λs11 s3 wr=>∃(i:Nat) (acc:List Fld) (A':Option Addr) (c':Nat),i<=m.length/\acc.length<=i/\s11=↑i/\s3=.slice A' acc.length c'/\Hid (acc++((m.drop i).map (λf=>(⟨f.text,zfu (kid0 f)⟩:Fld)))=r)/\Hid (PmSt w wr acc A' c')) (λs11 _ _=>m.length-(intOf s11).toNat)
 case atStart=>exact⟨0,[],none,0,zo,by simp,rfl,rfl,HA0,HB0⟩
 case round=>
  clear HA0 HB0;obtain⟨i,acc,A1,c1,hi,hal,rfl,rfl,HA,HB⟩:=hrel
  by_cases hlt:i<m.length
  ·obtain⟨b,off,y,e,_,hget,A',c',p0,p1,p2,p3,p4,r5⟩:=zbC (HRl.out.belows HB.out.low) hlt;subst e;have hyk:=HK.out y (List.mem_of_getElem? hget);obtain⟨b2,off2,z,e2,_,hget2,A2,c2,z0,z1,z2,z3,z4,r6⟩:=zbC r5 hyk;have hyl:=zaS r5;have hy1:=hyl.2.1;have hy2:=hyl.2.2;subst e2;have q:=HA.out;rw[zal hget,List.map_cons,zhd hget2] at q;have hin:(i:Int)<m.length:=zo
   obtain⟨w3,hw3,hb3,hx3⟩:=zaj wr #[↑y.kind,↑y.text,↑y.n,↑y.at',.slice (some ⟨b2,off2,none⟩) y.kids.length c'] 49;have q1:=hx3.a 1 rfl;have q4:=hx3.a 4 rfl;have hzl:b2<wr.heap.size:=World.block_lt_of_cell? wr _ z0;have t0:w3.cell? ⟨b2,off2,none⟩=some ↑z.kind:=by rw[hb3.cell (p:=⟨b2,off2,none⟩) hzl];simpa using z0
   have t1:w3.cell? ⟨b2,off2+1,none⟩=some ↑z.text:=by rw[hb3.cell (p:=⟨b2,off2+1,none⟩) hzl];simpa using z1
   have t2:w3.cell? ⟨b2,off2+2,none⟩=some ↑z.n:=by rw[hb3.cell (p:=⟨b2,off2+2,none⟩) hzl];simpa using z2
   have t3:w3.cell? ⟨b2,off2+3,none⟩=some ↑z.at':=by rw[hb3.cell (p:=⟨b2,off2+3,none⟩) hzl];simpa using z3
   have t4:w3.cell? ⟨b2,off2+4,none⟩=some (.slice A2 z.kids.length c2):=by rw[hb3.cell (p:=⟨b2,off2+4,none⟩) hzl];simpa using z4
   have Z3:=zz (HB.out.below hb3);have hyf:=zaR HF.out (List.mem_of_getElem? hget);have hys:=zaK (List.mem_of_getElem? hget);have hzm:=List.mem_of_getElem? hget2;have hzs:=zaK hzm;have hys2:zaB y.kids<=y.size:=by cases y;rw[zbT];show zaB _<=_;exact Nat.le_add_left _ _
   have KY:=zz (zfG z (zhd hget2▸HBF.out y (List.mem_of_getElem? hget)) A2 c2 w3 (zaR (zav hyf) hzm) zo (r6.belows hb3));have HX3:=zz hx3;obtain⟨t,ht⟩:=zn (zfu z);rw[ht] at KY q;have HQ:Hid ((acc++[⟨y.text,t⟩])++((m.drop (i+1)).map (λf=>(⟨f.text,zfu (kid0 f)⟩:Fld)))=r):=zz (by rw[<-q];simp);clear q ht hyf hys hzm hzs hys2 r5 r6 z0 z1 z2 z3 z4 hb3 hx3 HA hget hget2 hyl hzl HB;go_wp2_with fail;refine zi KY ?_;rintro e w4 ⟨hb4,ok4,A4,c4,rfl,hr4⟩;have hs34:=hb4.size;have sl3:=Z3.out.low.size;have Z4:=zz (Z3.out.below hb4);have hob:Hid (∀g,(Value.slice A1 acc.length c1).ownBlock=some g->g<w3.heap.size):=zz (λg hg=>(Z3.out.own.below_own g hg).2);have X4:=zz (zaa hb4 HX3.out);have R4:=zz hr4;clear hb4 hr4 q1 q4 t0 t1 t2 t3 t4 hw3 Z3 HX3;have ba:=zag w4 (.cells #[↑t.kind,↑t.name,.slice A4 t.args.length c4] 70);have Z5:=zz (Z4.out.below ba);have q1:(w4.alloc (.cells #[↑t.kind,↑t.name,.slice A4 t.args.length c4] 70)).cell? ⟨wr.heap.size,1,none⟩=some ↑y.text:=(zaa ba X4.out).cell 1;have bb:=zag (w4.alloc (.cells #[↑t.kind,↑t.name,.slice A4 t.args.length c4] 70)) (.cells #[↑y.text,↑t.kind,↑t.name,.slice A4 t.args.length c4] 74);have Z6:=zz (Z5.out.below bb);have R6:=zz (zaF bb (zaF ba R4.out));have O6:=zz Z6.out.own;have sl6:=Z6.out.low.size;clear ba bb Z4 R4 X4;go_wp2_with (at_builtin;refine zba rowF zsD Tryz.underlying64 rfl zo zo rfl _ _ rfl w.heap.size sl6 (.slice A1 acc.length c1) acc rfl O6.out ⟨w4.heap.size+1,0,none⟩ 1 ⟨y.text,t⟩ (zko y.text t A4 c4) rfl rfl ?cx2 ?cx3 ?cx4 ?_)
   case cx2=>exact ziP _ zs _ _ _ _
   case cx3=>exact λj u hj=>zku (zrh R6.out zs sl3 (λg hg=>hob.out g hg)) j u hj
   case cx4=>omega
   intro v' w8 hO hg _;replace hO:zaz w.heap.size 74 4 (acc++[(⟨y.text,t⟩:Fld)]).length (zan rowF (acc++[(⟨y.text,t⟩:Fld)])) w8 v':=by rw[List.length_append];exact hO
   obtain⟨L,hL⟩:∃L,acc++[(⟨y.text,t⟩:Fld)]=L:=⟨_,rfl⟩;rw[hL] at hO;have q:=HQ.out;rw[hL] at q;have HQ2:=zz q;have hL2:L.length<=acc.length+1:=by rw[<-hL];simp
   obtain⟨A8,c8,rfl,_⟩:=hO.rd.sl_inv;have Z8:Hid (PmSt w w8 L A8 c8):=zz ⟨Z6.out.low.trans ((Chg.of_grown (M:=λk=>w.heap.size<=k) hg (λk hk=>(Z6.out.own.below_own k hk).1)).below sl6 (λq hq=>hq)),hO⟩;clear hO hg hL q HQ Z5 Z6 R6 O6 q1;go_wp2;exact⟨⟨i+1,L,A8,c8,zo,zo,by go_num,rfl,HQ2,Z8⟩,by simp[intOf];omega⟩
  ·have HQ:Hid (acc=r):=zz (by
    have q:=HA.out;rw[List.drop_eq_nil_of_le zo] at q
    simpa using q)
   clear HA;go_wp2;go_ret;rw[<-HQ.out];exact⟨HB.out.low,A1,c1,rfl,HB.out.own.slG⟩
def zsT (w:World) (t:Ty) (e:Ending) (w':World):Prop:=Below w.heap.size w w'/\∃A c,e=.returned (.agg #[.int .i64 t.kind,.string t.name,.slice A t.args.length c])/\Rd (Bt w.heap.size w'.heap.size) w' (ys t.args) (.slice A t.args.length c)
theorem zgm (l:List Nd) (A:Option Addr) (c:Nat) (w:World) (hk:(zaL l).length<l.length) (hB:∀z,l[(zaL l).length]?=some z->BasN z) (hf:fitL l=true) (hs:zaB l<=2097152) (h:Rd (Lt w.heap.size) w (ns l) (.slice A l.length c)) :
 Calls Tryz.prog 139 #[.slice A l.length c] w (zsT w (zcQ l)):=by
 have hl:=zaS h;have hc1:=hl.2.1;have hc2:=hl.2.2;obtain⟨b,off,z,e,_,hget,A2,c2,z0,z1,z2,z3,z4,r6⟩:=zbC h hk;subst e;have hx1:=zab.new w #[↑(),↑zj.a,.slice none 0 0] 70;have hb1:=zag w (.cells #[↑(),↑zj.a,.slice none 0 0] 70);obtain⟨w1,hw1⟩:∃W,w.alloc (.cells #[↑(),↑zj.a,.slice none 0 0] 70)=W:=⟨_,rfl⟩;have s1:w1.heap.size=w.heap.size+1:=by rw[<-hw1];simp
 rw[hw1] at hx1 hb1;have KL:=zz (zcj l (some ⟨b,off,none⟩) c w1 (h.belows hb1));obtain⟨m,hm⟩:=zn ((zaL l).length);have hBz:=hB z hget;clear hB;have hz:zfu z=zcQ l:=by unfold zcQ;rw[List.getD_eq_getElem?_getD,hget];rfl
 have hzm:=List.mem_of_getElem? hget;have hzs:=zaK hzm;have hzf:=zaR hf hzm;obtain⟨t,ht⟩:=zn (zcQ l);rw[ht] at hz ⊢;simp only[hm] at KL;rw[hm] at hk z0 z1 z2 z3 z4;have KY:=zz (λ(W:World) (hb:Below w1.heap.size w1 W)=>zfG z hBz A2 c2 W hzf zo ((r6.belows hb1).belows hb));rw[hz] at KY;have HX1:=zz hx1;have HB1:=zz hb1;have hzl:b<w.heap.size:=World.block_lt_of_cell? w _ z0
 have HT:Hid (∀W,Below w1.heap.size w1 W->W.cell? ⟨b,off+m*5,none⟩=some ↑z.kind/\W.cell? ⟨b,off+m*5+1,none⟩=some ↑z.text/\W.cell? ⟨b,off+m*5+2,none⟩=some ↑z.n/\W.cell? ⟨b,off+m*5+3,none⟩=some ↑z.at'/\W.cell? ⟨b,off+m*5+4,none⟩=some (.slice A2 z.kids.length c2)):=zz (λW hb=>by
  have k:∀o,W.cell? ⟨b,o,none⟩=w.cell? ⟨b,o,none⟩:=λo=>(hb.cell (p:=⟨b,o,none⟩) (Nat.lt_of_lt_of_le hzl hb1.size)).trans (hb1.cell (p:=⟨b,o,none⟩) hzl);exact⟨(k _).trans z0,(k _).trans z1,(k _).trans z2,(k _).trans z3,(k _).trans z4⟩)
 have HS1:=zz s1;clear h hl hf hs hget r6 hx1 hb1 hm hz hzm hzs hzf ht z0 z1 z2 z3 z4 s1;go_in;go_wp2_with fail;refine zi KL ?_;rintro e w2 ⟨rfl,hb2⟩;obtain⟨t0,t1,t2,t3,t4⟩:=HT.out w2 hb2;have HB2:=zz (zac HB1.out hb2 HB1.out.size);have X2:=zz (zaa hb2 HX1.out);have KY2:=zz (KY.out w2 hb2);have hs12:=hb2.size;have hs1:w.heap.size<w1.heap.size:=by have:=HS1.out;omega
 clear hb2 hw1 HB1 HX1 KL KY HT;go_wp2_with fail;refine zi KY2 ?_;rintro e w3 ⟨hb3,ok3,A3,c3,rfl,hr3⟩;have hs23:=hb3.size;have ba:=zag w3 (.cells #[↑t.kind,↑t.name,.slice A3 t.args.length c3] 70);have X4:=zaa ba (zaa hb3 X2.out);have R4:=zz (zaF ba hr3);have HB4:=zz (zac (zac HB2.out hb3 HB2.out.size) ba (Nat.le_trans HB2.out.size hb3.size));have y0:=X4.cell 0;have y1:=X4.cell 1;have y2:=X4.cell 2;have yz:=X4.fz;have HX4:=zz X4;clear hb3 hr3 ba X2 HB2 t0 t1 t2 t3 t4 X4 KY2;go_wp2;have hc:=zcE (w3.alloc (.cells #[↑t.kind,↑t.name,.slice A3 t.args.length c3] 70)) w.heap.size ↑t.kind ↑t.name (.slice A3 t.args.length c3);refine bodyPost_ret (zdh zr _ _ w.heap.size _ _ (0,0) _ rfl (zdD _ _ _ HX4.out) Tryz.underlying70 rfl zhK) rfl ⟨?_,A3,c3,rfl,?_⟩
 ·exact HB4.out.trans (hc.below HB4.out.size (λq hq=>by omega))
 ·exact(hc.rd (λb hb=>⟨hb.2,by have:=hb.1;omega⟩) R4.out).weaken (λq hq=>⟨by have:=hq.1;omega,Nat.lt_of_lt_of_le hq.2 hc.size⟩)
end Go.Proofs.YtcebmphappfjjaaGreatDoor
