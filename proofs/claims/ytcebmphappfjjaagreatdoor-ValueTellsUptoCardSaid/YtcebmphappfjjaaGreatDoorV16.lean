/- Conditions: those in each statement. -/
import Derived.Test.YtcebmphappfjjaaGreatDoorV11
import Derived.Test.YtcebmphappfjjaaGreatDoorV04
import Derived.Test.YtcebmphappfjjaaGreatDoorV12
import Derived.Test.YtcebmphappfjjaaGreatDoorV14
import Derived.Test.YtcebmphappfjjaaGreatDoorV15
set_option maxHeartbeats 32000000
set_option maxRecDepth 100000
namespace Go.Proofs.YtcebmphappfjjaaGreatDoor
open Go.RowKit
theorem OwnS.appendMany {S:Nat->Prop} {e:TypeId} {k n m:Nat} {f f':Nat->Nat->D} {w w':World} {v:Value} {xs news:List Value} {g cap:Nat} (h:OwnS S e k n f w v) (hSn:S w.heap.size) (hown:w.ownsRow 0 e k v n xs)
 (hown':w'.ownsRow 0 e k (.slice (some ⟨g,0,none⟩) (n+m) cap) (n+m) (xs++news)) (hg:w.grownBy w' v.ownBlock) (hat:v.ownBlock=some g\/g=w.heap.size) (hk:news.length=m*k)
 (hf:∀a,a<n->f' a=f a) (hnew:∀i j u,i<m->j<k->news[i*k+j]?=some u->Rd (λb=>(S b/\b<w.heap.size)/\some b≠v.ownBlock) w (f' (n+i) j) u) :
 OwnS S e k (n+m) f' w' (.slice (some ⟨g,0,none⟩) (n+m) cap):=by
 have hxl:xs.length=n*k:=hown.1;have hcells:=hown'.cells (g:=g) rfl;rcases hown'.2 with ⟨hv,_⟩|⟨g',cap',cur,hv,hBg,hcur,hnc,hc,hsz,_⟩
 ·injection hv with hv;cases hv
 injection hv with hv1 _ hv3;injection hv1 with hv1;injection hv1 with hv1;subst hv1 hv3
 have keep:∀{d:D} {u:Value},Rd (λb=>(S b/\b<w.heap.size)/\some b≠v.ownBlock) w d u->Rd (λb=>(S b/\b<w'.heap.size)/\b≠g) w' d u:=λhd=>
  (hd.keep (λb o hb=>World.cell?_of_block (hg.block b hb.1.2 hb.2))).weaken (λb hb=>⟨⟨hb.1.1,Nat.lt_of_lt_of_le hb.1.2 hg.size⟩,λhbg=>by
   subst hbg;rcases hat with h1|h1
   ·exact hb.2 h1.symm
   ·have:=hb.1.2;omega⟩)
 have hgS:S g:=by
  rcases hat with h1|h1
  ·exact(h.below_own g h1).1
  ·rw[h1];exact hSn
 refine .inr ⟨g,cap,rfl,hgS,hnc,hc,⟨cur,hcur,hsz⟩,λa ha j hj=>?_⟩;rcases Nat.lt_or_ge a n with han|han
 ·have hak:=zdO (k:=k) han;have hu:xs[a*k+j]?=some (xs[a*k+j]'(zo)):=List.getElem?_eq_getElem zo;have hc1:=hcells (a*k+j) _ ((List.getElem?_append_left zo).trans hu);rw[Addr.add_lit,Nat.zero_add] at hc1;refine⟨_,hc1,?_⟩;rw[hf a han];rcases h with ⟨_,h0⟩|⟨g0,c0,rfl,_,_,_,_,hr⟩
  ·omega
  obtain⟨u,hcu,hd⟩:=hr a han j hj;have hc0:=hown.cells (g:=g0) rfl (a*k+j) _ hu;rw[Addr.add_lit,Nat.zero_add,hcu] at hc0;have he:=Option.some.inj hc0;rw[<-he]
  exact keep (hd.weaken (λb hb=>⟨hb.1,λh=>by
   have:some b=some g0:=h;injection this with this;exact hb.2 this⟩))
 ·obtain⟨i,rfl⟩:∃i,a=n+i:=⟨a-n,zo⟩;have him:i<m:=zo
  have hik:=zdO (k:=k) him;have hd:(n+i)*k+j-n*k=i*k+j:=by rw[Nat.add_mul];omega
  have hge:n*k<=(n+i)*k+j:=by rw[Nat.add_mul];omega
  have hu:news[i*k+j]?=some (news[i*k+j]'(zo)):=List.getElem?_eq_getElem zo;have hc1:=hcells ((n+i)*k+j) _ (by rw[List.getElem?_append_right zo,hxl,hd];exact hu);rw[Addr.add_lit,Nat.zero_add] at hc1;exact⟨_,hc1,keep (hnew i j _ him hj hu)⟩
theorem ziq {T E:TypeId} {size bytes:Nat} {z:Value} (hinfo:(Tryz.prog.info? E).map (λi=>(i.zero,i.size,i.bytes))=some (some z,size,bytes)) (hund:Tryz.prog.underlying T=some (.slice E)) (hzs:z.cells.size=size) (hsz:0<size) (hbb:bytes<=8192)
 {w:World} {ops:Array Oper} {rest:List Oper} {o:Oper} {a:Act} {Q:Exit->Act->World->Prop} (hgd:o.guard=none) (s x:Operand)
 (ho:o.op=.call {callee:=.builtin .append,args:=#[s,x],argTypes:=#[T,T] })
 (S:Nat->Prop) (hSn:S w.heap.size) (v:Value) (n:Nat) (f:Nat->Nat->D) (hs:a.eval s=v) (hO:OwnS S E size n f w v)
 (m c:Nat) (A:Option Addr) (fl f':Nat->Nat->D) (hx:a.eval x=.slice A m c)
 (hsrc:0<m->∃b off,A=some ⟨b,off,none⟩/\∀i,i<m->zcI (λb=>(S b/\b<w.heap.size)/\some b≠v.ownBlock) w b (off+i*size) size (fl i))
 (hf:∀a,a<n->f' a=f a) (hf2:∀i j,i<m->j<size->f' (n+i) j=fl i j) (hlen:n+m<=4194304)
 (h:∀v' w',OwnS S E size (n+m) f' w' v'->w.grownBy w' v.ownBlock->(∀q,v'.ownBlock=some q->v.ownBlock=some q\/q=w.heap.size)->wpList Tryz.prog ops Q rest (a.put o.dst v') w'):wpList Tryz.prog ops Q (o::rest) a w:=by
 obtain⟨i0,hi0,hz0,hz1,hz2⟩:=info_parts hinfo
 by_cases hm0:m=0
 ·subst hm0
  have hsr:Src Tryz.prog i0.size T (.slice A 0 c) 0 [] w:=by
   cases A with
   |none=>exact Src.ofNil w hund c
   |some p=>exact Src.ofSlice w hund p 0 c [] zs (λj u hu=>by simp at hu) (λu hu=>by simp at hu)
  obtain⟨A0,c0,e,hnc,_⟩:=hO.owned0.rd.sl_inv;have hrun:=run_append_nothing (P:=Tryz.prog) w T T o.type E i0 hund hi0 A0 n c0 hnc _ hsr;subst e;refine wpList_plain hgd λK hK=>?_;unfold Oper.wp;simp[execOp,ho,resolve,invoke,builtin,hs,hx,hrun,Result.andThen];refine hK _ _ (h _ w ?_ ⟨rfl,rfl,rfl,Nat.le_refl _,λ_ _ _=>rfl⟩ (λq hq=>.inl hq));rcases hO with ⟨h1,h2⟩|⟨g,c1,h1,h2,h3,h4,h5,h6⟩
  ·exact .inl ⟨h1,h2⟩
  ·exact .inr ⟨g,c1,h1,h2,h3,h4,h5,λk hk=>by rw[hf k hk];exact h6 k hk⟩
 ·obtain⟨b,off,rfl,hrow⟩:=hsrc zo;obtain⟨xs,hown⟩:=hO.owned0.own;obtain⟨news,hnws⟩:∃news:List Value,news=(List.range (m*size)).map (λq=>(w.cell? ⟨b,off+q,none⟩).getD undef):=⟨_,rfl⟩;have hnl:news.length=m*size:=by rw[hnws];simp
  have hget:∀q,q<m*size->∃u,news[q]?=some u/\w.cell? ⟨b,off+q,none⟩=some u/\Rd (λb=>(S b/\b<w.heap.size)/\some b≠v.ownBlock) w (fl (q / size) (q % size)) u:=λq hq=>by
   have h1:q / size<m:=Nat.div_lt_of_lt_mul (by rw[Nat.mul_comm];exact hq);have h2:q % size<size:=Nat.mod_lt _ hsz;have h3:q / size*size+q % size=q:=by rw[Nat.mul_comm];exact Nat.div_add_mod q size
   obtain⟨u,hu,hd⟩:=hrow _ h1 _ h2;rw[Nat.add_assoc,h3] at hu;refine⟨u,?_,hu,hd⟩;rw[hnws];simp[hq,hu]
  have hb:(n+m)*bytes<=4194304*8192:=Nat.mul_le_mul hlen hbb;refine wpList_append_lies w hgd s x T ho 0 E i0 z size bytes hund hi0 hz0 hz1 hz2 hzs hsz v n xs hs hown ⟨b,off,none⟩ m c news hx hnl (λj u hj=>?_) (λu hu=>?_) zo (by unfold maxLen;omega) zo (Nat.zero_le _) w.heap.size rfl ?_
  ·have hjl:=(List.getElem?_eq_some_iff.1 hj).1;obtain⟨u',h1,h2,_⟩:=hget j zo;rw[Addr.add_lit,h2,<-h1,hj]
  ·obtain⟨j,hj⟩:=List.getElem?_of_mem hu;have hjl:=(List.getElem?_eq_some_iff.1 hj).1;obtain⟨u',h1,_,h3⟩:=hget j zo;rw[h1] at hj;obtain rfl:=Option.some.inj hj;exact h3.oneCell
  intro g cap w' h2 h3 h4 _
  refine h _ w' ?_ h3 (λq hq=>by
   obtain rfl:g=q:=Option.some.inj hq;exact h4)
  refine hO.appendMany hSn hown h2 h3 h4 hnl hf (λi j u hi hj hu=>?_);have hik:=zdO (k:=size) hi;obtain⟨u',h5,_,h6⟩:=hget (i*size+j) zo;rw[h5] at hu;obtain rfl:=Option.some.inj hu;have e1:(i*size+j) / size=i:=by rw[Nat.add_comm,Nat.add_mul_div_right _ _ hsz,Nat.div_eq_of_lt hj];omega
  have e2:(i*size+j) % size=j:=by rw[Nat.add_comm,Nat.add_mul_mod_self_right,Nat.mod_eq_of_lt hj]
  rw[e1,e2] at h6;rw[hf2 i j hi hj];exact h6
def sgOf (k:Nd):List Nd:=
 if k.kind=7 then [kid0 k]
 else if k.kind=8 then k.kids
 else if k.kind=9 then [kid0 k]
 else if k.kind=10 then (zaL k.kids).map kid0
 else if k.kind=12\/k.kind=13\/k.kind=14\/k.kind=15 then [k]
 else []
theorem znc (n:Nd):zca n=n.kids.flatMap sgOf:=rfl
structure zeE (l:List Nd):Prop where
 fld:∀k∈l,k.kind=7->0<k.kids.length
 no:∀k∈l,k.kind≠9/\k.kind≠10/\k.kind≠13/\k.kind≠14/\k.kind≠15
def Sg (P:Nat->Prop) (B:Nat) (b:Nat):Prop:=P b\/B<=b
def LtP (P:Nat->Prop) (n:Nat) (b:Nat):Prop:=P b/\b<n
structure SgSt (P:Nat->Prop) (w W:World) (acc:List Nd) (A:Option Addr) (c:Nat):Prop where
 low:Below w.heap.size w W
 own:OwnS (Sg P w.heap.size) 49 5 acc.length (zan Nd.row acc) W (.slice A acc.length c)
 big:∀q,(Value.slice A acc.length c).ownBlock=some q->w.heap.size<=q
section
variable {P:Nat->Prop} {w W W':World} {acc L:List Nd} {A A':Option Addr} {c c':Nat}
theorem SgSt.below (h:SgSt P w W acc A c) (k:Below W.heap.size W W'):SgSt P w W' acc A c:=⟨zac h.low k h.low.size,h.own.below k,h.big⟩
theorem SgSt.grown (h:SgSt P w W acc A c) (hO:OwnS (Sg P w.heap.size) 49 5 L.length (zan Nd.row L) W' (.slice A' L.length c')) (hg:W.grownBy W' (Value.slice A acc.length c).ownBlock)
 (hb:∀q,(Value.slice A' L.length c').ownBlock=some q->(Value.slice A acc.length c).ownBlock=some q\/q=W.heap.size):SgSt P w W' L A' c':=
 ⟨h.low.trans ((Chg.of_grown (M:=λk=>w.heap.size<=k) hg (λk hk=>h.big k hk)).below h.low.size (λ_ hq=>hq)),hO,λq hq=>by
  rcases hb q hq with h1|h1
  ·exact h.big q h1
  ·rw[h1];exact h.low.size⟩
theorem zkz {B:Nat} {d:D} {u v:Value} (R:Rd (LtP P B) W d u) (hB:B<=W.heap.size) (hv:∀q,v.ownBlock=some q->B<=q):Rd (λb=>(Sg P B b/\b<W.heap.size)/\some b≠v.ownBlock) W d u:=
 R.weaken (λb hb=>⟨⟨.inl hb.1,Nat.lt_of_lt_of_le hb.2 hB⟩,λe=>by have h1:=hv b e.symm;have h2:b<B:=hb.2;omega⟩)
end
theorem zgU (P:Nat->Prop) (n:Nd) (hk:zeE n.kids) (hs:zaB n.kids<=2097152) (A:Option Addr) (c:Nat) (w:World) (h:Rd (LtP P w.heap.size) w (ns n.kids) (.slice A n.kids.length c)) :
 Calls Tryz.prog 129 #[.agg #[↑n.kind,↑n.text,↑n.n,↑n.at',.slice A n.kids.length c]] w (λe w'=>Below w.heap.size w w'/\∃A' c',e=.returned (.slice A' (zca n).length c')/\Rd (LtP (Sg P w.heap.size) w'.heap.size) w' (ns (zca n)) (.slice A' (zca n).length c')):=by
 rw[znc];generalize n.kind=kd,n.text=tx,n.n=nn,n.at'=at' at *
 obtain⟨l,hl0⟩:=zn n.kids;rw[hl0] at h hk hs ⊢;clear hl0;have hl:=zaS h;have hc1:=hl.2.1;have hc2:=hl.2.2;have hn:l.length<=2097152:=Nat.le_trans (zat l) hs;obtain⟨w1,h1,b1,c1⟩:=zaj w #[↑kd,↑tx,↑nn,↑at',.slice A l.length c] 49;have x4:=c1.a 4 rfl;obtain⟨r,hr⟩:=zn (l.flatMap sgOf);rw[hr];have HA0:Hid ([]++(l.drop 0).flatMap sgOf=r):=zz hr;have Z0:Hid (SgSt P w w1 [] none 0):=zz ⟨b1,OwnS.nil _ _ _ _ _,λq hq=>by cases hq⟩;have HR:=zz h;have HK:=zz hk;have hs0:(0:Nat)+zaB (l.drop 0)<=2097152:=by rw[List.drop_zero];omega
 clear b1 c1 hr h hl hk hs;go_in;go_wp2;clear h1 x4
 go_loopw [11,3] (λs11 s3 wr=>∃(i:Nat) (acc:List Nd) (A':Option Addr) (c':Nat),i<=l.length/\acc.length+zaB (l.drop i)<=2097152/\s11=↑i/\s3=.slice A' acc.length c'/\Hid (acc++(l.drop i).flatMap sgOf=r)/\Hid (SgSt P w wr acc A' c')) (λs11 _ _=>l.length-(intOf s11).toNat)
 case atStart=>exact⟨0,[],none,0,zo,hs0,rfl,rfl,HA0,Z0⟩
 case round=>
  clear HA0 Z0 hs0;obtain⟨i,acc,A1,c1,hi,hal,rfl,rfl,HA,HB⟩:=hrel
  by_cases hlt:i<l.length
  ·have hsw:=HB.out.low.size;obtain⟨b,off,y,e,hlb,hget,A',c',g0,g1,g2,g3,g4,r5w⟩:=zbC HR.out hlt;subst e;have p0:=(HB.out.low.cell (p:=⟨b,_,none⟩) hlb.2).trans g0;have p1:=(HB.out.low.cell (p:=⟨b,_,none⟩) hlb.2).trans g1;have p2:=(HB.out.low.cell (p:=⟨b,_,none⟩) hlb.2).trans g2;have p3:=(HB.out.low.cell (p:=⟨b,_,none⟩) hlb.2).trans g3;have p4:=(HB.out.low.cell (p:=⟨b,_,none⟩) hlb.2).trans g4;have r5:=Rd.below (ok:=LtP P w.heap.size) HB.out.low (λ_ h=>h.2) r5w;clear g0 g1 g2 g3 g4 hlb;have q:=HA.out;rw[zal hget,List.flatMap_cons] at q;rw[zal hget,zcR] at hal;have hys:y.size=1+zaB y.kids:=by cases y;rw[zbT];rfl
   have hym:=List.mem_of_getElem? hget;have hin:(i:Int)<l.length:=zo
   have hyk1:=zat y.kids;obtain⟨w3,hw3,hb3,hx3⟩:=zaj wr #[↑y.kind,↑y.text,↑y.n,↑y.at',.slice A' y.kids.length c'] 49;have q0:=hx3.a 0 rfl;have q4:=hx3.a 4 rfl;have Z3:=zz (HB.out.below hb3);have hal1:acc.length+1+zaB (l.drop (i+1))<=2097152:=zo
   have hal2:acc.length+y.kids.length+zaB (l.drop (i+1))<=2097152:=zo
   clear hal hyk1
   by_cases hk:y.kind=7
   ·have hyk:=HK.out.fld y hym hk;obtain⟨b2,off2,z,e2,_,hget2,A2,c2,z0,z1,z2,z3,z4,r6⟩:=zbC r5 hyk;have hyl:=zaS r5;have hy1:=hyl.2.1;have hy2:=hyl.2.2;subst e2;have hzl:b2<wr.heap.size:=World.block_lt_of_cell? wr _ z0;have t0:w3.cell? ⟨b2,off2,none⟩=some ↑z.kind:=by rw[hb3.cell (p:=⟨b2,off2,none⟩) hzl];simpa using z0
    have t1:w3.cell? ⟨b2,off2+1,none⟩=some ↑z.text:=by rw[hb3.cell (p:=⟨b2,off2+1,none⟩) hzl];simpa using z1
    have t2:w3.cell? ⟨b2,off2+2,none⟩=some ↑z.n:=by rw[hb3.cell (p:=⟨b2,off2+2,none⟩) hzl];simpa using z2
    have t3:w3.cell? ⟨b2,off2+3,none⟩=some ↑z.at':=by rw[hb3.cell (p:=⟨b2,off2+3,none⟩) hzl];simpa using z3
    have t4:w3.cell? ⟨b2,off2+4,none⟩=some (.slice A2 z.kids.length c2):=by rw[hb3.cell (p:=⟨b2,off2+4,none⟩) hzl];simpa using z4
    have RE:=zz (Rd.below (ok:=LtP P w.heap.size) hb3 (λb hb=>Nat.lt_of_lt_of_le hb.2 hsw) r6);have hsg:sgOf y=[z]:=by unfold sgOf;rw[if_pos hk];rw[zhd hget2]
    rw[hsg] at q;have HQ:=zz q;have e7:(y.kind == 7)=true:=by rw[hk];rfl
    clear q hsg hyl hzl r5 r5w r6 z0 z1 z2 z3 z4 hb3 hx3 HA HB hget hget2 hym hk hys;have ba:=zag w3 (.cells #[↑z.kind,↑z.text,↑z.n,↑z.at',.slice A2 z.kids.length c2] 49);have Z5:=zz (Z3.out.below ba);have R5:=zz (Rd.below (ok:=LtP P w.heap.size) ba (λb hb=>Nat.lt_of_lt_of_le hb.2 Z3.out.low.size) RE.out);have sl5:=Z5.out.low.size;clear ba RE;go_wp2_with (at_builtin;refine zaJ Nd.row zef Tryz.underlying47 rfl zo zo rfl _ _ rfl (Sg P w.heap.size) (.inr Z5.out.low.size) (.slice A1 acc.length c1) acc rfl Z5.out.own ⟨w3.heap.size,0,none⟩ 1 z [↑z.kind,↑z.text,↑z.n,↑z.at',.slice A2 z.kids.length c2] rfl rfl ?k72 ?k73 ?k74 ?_)
    case k72=>exact zaI _ rfl _ _
    case k73=>exact λj u hj=>zby (zkz R5.out sl5 Z5.out.big) j u hj
    case k74=>omega
    intro v' w8 hO hg hv8;replace hO:OwnS (Sg P w.heap.size) 49 5 (acc++[z]).length (zan Nd.row (acc++[z])) w8 v':=by rw[List.length_append];exact hO
    have hLl:(acc++[z]).length=acc.length+1:=by simp
    obtain⟨L,hL⟩:=zn (acc++[z]);rw[hL] at hO hLl;obtain⟨A8,c8,rfl,_⟩:=hO.owned0.rd.sl_inv;have Z8:=zz (Z5.out.grown hO hg (λq hq=>by rcases hv8 q hq with h|h;exact .inl h;exact .inr (by rw[h];simp)));have HL:=zz hL;have hL1:L.length<=acc.length+1:=zo
    clear hO hg hv8 hL hLl Z5 R5;clear t0 t1 t2 t3 t4 q0 q4;have q:=HQ.out;rw[<-List.append_assoc,HL.out] at q;have HQ2:=zz q;clear q HL HQ;go_wp2;exact⟨⟨i+1,L,A8,c8,zo,zo,by go_num,rfl,HQ2,Z8⟩,by simp[intOf];omega⟩
   ·by_cases h8:y.kind=8
    ·have hk:=h8;have hsg:sgOf y=y.kids:=by unfold sgOf;rw[if_neg zo,if_pos h8]
     rw[hsg] at q;have HQ:=zz q;have e7:(y.kind == 7)=false:=by rw[hk];rfl
     have e8:(y.kind == 8)=true:=by rw[hk];rfl
     have hyl:=zaS r5;have RE:=Rd.below (ok:=LtP P w.heap.size) hb3 (λb hb=>Nat.lt_of_lt_of_le hb.2 hsw) r5
     have hsrc:0<y.kids.length->∃b off,A'=some ⟨b,off,none⟩/\∀i,i<y.kids.length->zcI (λb=>(Sg P w.heap.size b/\b<w3.heap.size)/\some b≠(Value.slice A1 acc.length c1).ownBlock) w3 b (off+i*5) 5 (zan Nd.row y.kids i):=λhp=>by
      obtain⟨A0,c0,e,_,_,h3⟩:=RE.sl_inv;injection e with e1 e2 e3;subst e1;obtain⟨b2,off2,e4,_,hr⟩:=h3 hp;refine⟨b2,off2,e4,λi hi=>?_⟩;rw[<-zgq hi];exact(hr i hi).weaken (λb hb=>⟨⟨.inl hb.1,Nat.lt_of_lt_of_le hb.2 Z3.out.low.size⟩,λe=>by have h1:=Z3.out.big b e.symm;have h2:b<w.heap.size:=hb.2;omega⟩)
     have HSRC:=zz hsrc;clear q hsg hyl r5 r5w hb3 hx3 HA HB hget hym hk h8 hys RE hsrc;go_wp2_with (at_builtin;refine ziq zef Tryz.underlying47 rfl zo zo rfl _ _ rfl (Sg P w.heap.size) (.inr Z3.out.low.size) (.slice A1 acc.length c1) acc.length (zan Nd.row acc) rfl Z3.out.own y.kids.length c' A' (zan Nd.row y.kids) (zan Nd.row (acc++y.kids)) rfl HSRC.out (zfp rfl) (zer rfl rfl) zo ?_);intro v' w8 hO hg hv8;replace hO:OwnS (Sg P w.heap.size) 49 5 (acc++y.kids).length (zan Nd.row (acc++y.kids)) w8 v':=by rw[List.length_append];exact hO
     have hLl:(acc++y.kids).length=acc.length+y.kids.length:=by simp
     obtain⟨L,hL⟩:=zn (acc++y.kids);rw[hL] at hO hLl;obtain⟨A8,c8,rfl,_⟩:=hO.owned0.rd.sl_inv;have Z8:=zz (Z3.out.grown hO hg hv8);have hL1:L.length<=acc.length+y.kids.length:=zo
     have q:=HQ.out;rw[<-List.append_assoc,hL] at q;have HQ2:=zz q;clear hO hg hv8 hL hLl Z3 q HQ q0 q4;go_wp2;exact⟨⟨i+1,L,A8,c8,zo,zo,by go_num,rfl,HQ2,Z8⟩,by simp[intOf];omega⟩
    ·by_cases h9:y.kind=9
     ·exact absurd h9 (HK.out.no y hym).1
     ·by_cases h10:y.kind=10
      ·exact absurd h10 (HK.out.no y hym).2.1
      ·by_cases h12:y.kind=12\/y.kind=13\/y.kind=14\/y.kind=15
       ·have hsg:sgOf y=[y]:=by unfold sgOf;rw[if_neg zo,if_neg zo,if_neg zo,if_neg zo,if_pos h12]
        rw[hsg] at q;have HQ:=zz q;have RE:=zz (Rd.below (ok:=LtP P w.heap.size) hb3 (λb hb=>Nat.lt_of_lt_of_le hb.2 hsw) r5);have q1:=hx3.a 1 rfl;have q2:=hx3.a 2 rfl;have q3:=hx3.a 3 rfl;have e7:(y.kind == 7)=false:=by rw[beq_eq_false_iff_ne];omega
        have e8:(y.kind == 8)=false:=by rw[beq_eq_false_iff_ne];omega
        have e9:(y.kind == 9)=false:=by rw[beq_eq_false_iff_ne];omega
        have e10:(y.kind == 10)=false:=by rw[beq_eq_false_iff_ne];omega
        have e12:(y.kind == 12)=true:=by have:=HK.out.no y hym;rw[show y.kind=12 by omega];rfl
        clear q hsg r5 r5w hb3 hx3 HA HB hget hym hys hk h8 h9 h10 h12
        all_goals
         have ba:=zag w3 (.cells #[↑y.kind,↑y.text,↑y.n,↑y.at',.slice A' y.kids.length c'] 49);have Z5:=zz (Z3.out.below ba);have R5:=zz (Rd.below (ok:=LtP P w.heap.size) ba (λb hb=>Nat.lt_of_lt_of_le hb.2 Z3.out.low.size) RE.out);have sl5:=Z5.out.low.size;clear ba RE;go_wp2_with (at_builtin;refine zaJ Nd.row zef Tryz.underlying47 rfl zo zo rfl _ _ rfl (Sg P w.heap.size) (.inr Z5.out.low.size) (.slice A1 acc.length c1) acc rfl Z5.out.own ⟨w3.heap.size,0,none⟩ 1 y [↑y.kind,↑y.text,↑y.n,↑y.at',.slice A' y.kids.length c'] rfl rfl ?kz2 ?kz3 ?kz4 ?_)
         case kz2=>exact zaI _ rfl _ _
         case kz3=>exact λj u hj=>zby (zkz R5.out sl5 Z5.out.big) j u hj
         case kz4=>omega
         intro v' w8 hO hg hv8;replace hO:OwnS (Sg P w.heap.size) 49 5 (acc++[y]).length (zan Nd.row (acc++[y])) w8 v':=by rw[List.length_append];exact hO
         have hLl:(acc++[y]).length=acc.length+1:=by simp
         obtain⟨L,hL⟩:=zn (acc++[y]);rw[hL] at hO hLl;obtain⟨A8,c8,rfl,_⟩:=hO.owned0.rd.sl_inv;have Z8:=zz (Z5.out.grown hO hg (λq hq=>by rcases hv8 q hq with h|h;exact .inl h;exact .inr (by rw[h];simp)));have HL:=zz hL;have hL1:L.length<=acc.length+1:=zo
         clear hO hg hv8 hL hLl Z5 R5;clear q0 q1 q2 q3 q4;have q:=HQ.out;rw[<-List.append_assoc,HL.out] at q;have HQ2:=zz q;clear q HL HQ;go_wp2;exact⟨⟨i+1,L,A8,c8,zo,zo,by go_num,rfl,HQ2,Z8⟩,by simp[intOf];omega⟩
       ·have hsg:sgOf y=[]:=by unfold sgOf;rw[if_neg zo,if_neg zo,if_neg zo,if_neg zo,if_neg h12]
        rw[hsg,List.nil_append] at q;have HQ:=zz q;have e7:(y.kind == 7)=false:=by rw[beq_eq_false_iff_ne];omega
        have e8:(y.kind == 8)=false:=by rw[beq_eq_false_iff_ne];omega
        have e9:(y.kind == 9)=false:=by rw[beq_eq_false_iff_ne];omega
        have e10:(y.kind == 10)=false:=by rw[beq_eq_false_iff_ne];omega
        have e12:(y.kind == 12)=false:=by rw[beq_eq_false_iff_ne];omega
        have e13:(y.kind == 13)=false:=by rw[beq_eq_false_iff_ne];omega
        have e14:(y.kind == 14)=false:=by rw[beq_eq_false_iff_ne];omega
        have e15:(y.kind == 15)=false:=by rw[beq_eq_false_iff_ne];omega
        clear q hsg r5 r5w hb3 hx3 HA HB hget hym hys hk h8 h9 h10 h12;go_wp2;exact⟨⟨i+1,acc,A1,c1,zo,zo,by go_num,rfl,HQ,Z3⟩,by simp[intOf];omega⟩
  ·have HQ:Hid (acc=r):=zz (by
    have q:=HA.out;rw[List.drop_eq_nil_of_le zo] at q
    simpa using q)
   clear HA;go_wp2;go_ret;rw[<-HQ.out];exact⟨HB.out.low,A1,c1,rfl,zid HB.out.own.rd⟩
theorem zgb (n:Nd) (hk:zeE n.kids) (hs:zaB n.kids<=2097152) (A:Option Addr) (c:Nat) (w:World) (h:Rd (Lt w.heap.size) w (ns n.kids) (.slice A n.kids.length c)) :
 Calls Tryz.prog 129 #[.agg #[↑n.kind,↑n.text,↑n.n,↑n.at',.slice A n.kids.length c]] w (λe w'=>Below w.heap.size w w'/\∃A' c',e=.returned (.slice A' (zca n).length c')/\Rd (Lt w'.heap.size) w' (ns (zca n)) (.slice A' (zca n).length c')):=by
 refine(zgU (λ_=>True) n hk hs A c w (h.weaken (λ_ hb=>⟨trivial,hb⟩))).mono ?_;rintro e w' ⟨hb,A',c',he,hr⟩;exact⟨hb,A',c',he,hr.weaken (λ_ hb=>hb.2)⟩
end Go.Proofs.YtcebmphappfjjaaGreatDoor
set_option maxHeartbeats 32000000
set_option maxRecDepth 100000
namespace Go.Proofs.YtcebmphappfjjaaGreatDoor
open Go.RowKit Go.MapKept
structure DdAt (w:World) (db:Nat) (A:Option Addr) (n c mt ma:Nat) (LT LA:List (ByteArray × Value)):Prop where
 box:DcAt w db A n c mt ma
 tm:zaN w mt LT
 am:zaN w ma LA
theorem DdAt.below {w w':World} {db:Nat} {A:Option Addr} {n c mt ma:Nat} {LT LA:List (ByteArray × Value)} (h:DdAt w db A n c mt ma LT LA) (k:Below w.heap.size w w'):DdAt w' db A n c mt ma LT LA:=
 ⟨zaa k h.box,zaq h.tm (Chg.of_below (M:=λ_=>False) k) (λh=>h),zaq h.am (Chg.of_below (M:=λ_=>False) k) (λh=>h)⟩
def zps (w:World) (o:Option Int) (e:Ending) (w':World):Prop:=Below w.heap.size w w'/\match o with
 |some a=>e=.returned (.tuple #[.int .i64 a,.bool true])
 |none=>e=.returned (.tuple #[.int .i64 0,.bool false])
section
variable (db:Nat) (Ad:Option Addr) (nd cd mt ma:Nat) (LT LA:List (ByteArray × Value))
def zqE (n:Nd):Prop:=∀(A:Option Addr) (c:Nat) (w:World),DdAt w db Ad nd cd mt ma LT LA->Rd (Lt w.heap.size) w (ns n.kids) (.slice A n.kids.length c)->
 Calls Tryz.prog 130 #[.pointer (some ⟨db,0,none⟩),.agg #[.int .i64 n.kind,.string n.text,.int .i64 n.n,.int .i64 n.at',.slice A n.kids.length c]] w (zps w (zbA (LT.map Prod.fst) (LA.map Prod.fst) n))
end
theorem zDW (db:Nat) (Ad:Option Addr) (nd cd mt ma:Nat) (LT LA:List (ByteArray × Value)) (tx:ByteArray) (nn at':Int) (hb:zbW tx≠0):zqE db Ad nd cd mt ma LT LA (.mk 12 tx nn at' []):=by
 intro A c w hd h;replace h:Rd (Lt w.heap.size) w (ns []) (.slice A 0 c):=h
 show Calls Tryz.prog 130 #[.pointer (some ⟨db,0,none⟩),.agg #[.int .i64 12,↑tx,↑nn,↑at',.slice A 0 c]] w (zps w (zbA (LT.map Prod.fst) (LA.map Prod.fst) (.mk 12 tx nn at' [])))
 rw[zbA];obtain⟨ts,hts⟩:=zn (LT.map Prod.fst);obtain⟨acs,hacs⟩:=zn (LA.map Prod.fst);obtain⟨w1,h1,b1,c1⟩:=zaj w #[.int .i64 12,↑tx,↑nn,↑at',.slice A 0 c] 49;have D1:=hd.below b1;have x0:=c1.a 0 rfl;have x1:=c1.a 1 rfl;have x3:=c1.a 3 rfl;have x4:=c1.a 4 rfl;have y1:=D1.box.a 1 rfl;have hlk1:∀q,_:=λq=>zff ((D1.below (zae (Below.refl _ _) q)).tm) tx;rw[hts] at hlk1;obtain⟨g1,hg1⟩:=zn (mget ↑() LT tx);obtain⟨bT,hbT⟩:=zn (memB tx ts);rw[hg1,hbT] at hlk1;rw[hts,hacs,hbT];have KB:=zz (zgh tx w1);have HB1:=zz b1;have HC1:=zz c1;have HD1:=zz D1;have HR:=zz h;have HD0:=zz hd;clear hts hacs hg1 hbT b1 c1 D1 h hd;rw[if_neg (by simp[hb])];have hbb:(zbW tx == 0)=false:=by rw[beq_eq_false_iff_ne];exact hb
 generalize zbW tx=B at *
 clear hb;go_in;go_wp2_with fail;refine zi KB ?_;rintro e w2 ⟨rfl,rfl⟩;go_wp2;clear h1 x0 x1 x3 x4 y1 hlk1
 go_loopw [48] (λs wr=>s=↑()/\Hid (Below w.heap.size w wr)) (λ_ _=>0)
 case atStart=>exact⟨rfl,HB1⟩
 case round=>
  obtain⟨rfl,HB⟩:=hrel;go_wp2
  go_ret2
  rw[zbg];exact⟨HB.out,rfl⟩
theorem ziE (db:Nat) (Ad:Option Addr) (nd cd mt ma:Nat) (LT LA:List (ByteArray × Value)) (n:Nd) (h:BasN n):zqE db Ad nd cd mt ma LT LA n:=by
 obtain⟨k,t,n,a,l⟩:=n;obtain⟨h1,h2,h3,h4⟩:=h;simp only[Nd.kind,Nd.n,Nd.kids,Nd.text] at h1 h2 h3 h4;subst h1 h2 h3;exact zDW db Ad nd cd mt ma LT LA t 0 a h4
end Go.Proofs.YtcebmphappfjjaaGreatDoor
set_option maxHeartbeats 32000000
set_option maxRecDepth 100000
namespace Go.Proofs.YtcebmphappfjjaaGreatDoor
open Go.RowKit
def Ox (X lo hi:Nat) (l:List Nd) (v:Value) (U:World):Prop:=zbc X lo 49 5 l.length (zan Nd.row l) U v/\∀g,v.ownBlock=some g->g<hi
def Bk (X lo:Nat) (l:List Nd) (v:Value) (U:World):Prop:=Rd (But lo X U) U (ns l) v
theorem Bk.rk {X lo:Nat} {l:List Nd} {v:Value} {U:World} (h:Bk X lo l v U):Rk lo l v U:=But.off h
theorem Bk.nl (X lo:Nat) (k n a:Int) (s:ByteArray) (U:World):Bk X lo (Nd.mk k s n a []).kids (.slice none (Nd.mk k s n a []).kids.length 0) U:=Rd.sl_nil
theorem Ox.rk {X lo hi:Nat} {l:List Nd} {v:Value} {U:World} (h:Ox X lo hi l v U):Rk lo l v U:=zid h.1.owned.rd
def Nx (X lo:Nat) (x:Nd) (A:Option Addr) (c:Nat) (U:World):Prop:=Bk X lo x.kids (.slice A x.kids.length c) U/\Cn X (.int .i64 x.kind) (.string x.text) (.int .i64 x.n) (.int .i64 x.at') (.slice A x.kids.length c) U
theorem Ox.ls {X lo hi b:Nat} {l:List Nd} {v:Value} (hb:b<lo) {U V:World} (k:Own1 b U V) (h:Ox X lo hi l v U):Ox X lo hi l v V:=⟨Own1.ownedX k hb h.1,h.2⟩
theorem Bk.ls {X lo b:Nat} {l:List Nd} {v:Value} (hb:b<lo) {U V:World} (k:Own1 b U V) (h:Bk X lo l v U):Bk X lo l v V:=Own1.but k hb h
section
variable {β:Type} {fn:FuncId} {args:Array Value} {G:PG} {b:Nat} {w:World} {t:Bool} {F:World->Prop} {st:Ps} {n:Nat} {W:World} {S:Ending->World->Prop} {r:R β}
theorem St.ndx (Z:St G b w t F st n W) {lo:Nat} (x:Nd) (A:Option Addr) (c:Nat) (h:Rk lo x.kids (.slice A x.kids.length c) W) (hw:w.heap.size<=lo):∃V,W.alloc (.cells #[↑x.kind,↑x.text,↑x.n,↑x.at',.slice A x.kids.length c] 49)=V/\W.heap.size+1<=V.heap.size/\St G b w t (Nx W.heap.size lo x A c) st n V:=by
 have hb:=(Below.refl W.heap.size W).alloc (Nat.le_refl _) (.cells #[↑x.kind,↑x.text,↑x.n,↑x.at',.slice A x.kids.length c] 49);have hB:Bk W.heap.size lo x.kids (.slice A x.kids.length c) W:=Rd.weaken (λq hq=>⟨hq,by have:=hq.2;omega⟩) h;have hz:=Z.hb;have hs:=Z.sz;exact⟨_,rfl,by simp,(Z.below hb).only ⟨But.below hb hB,zab.new _ _ _⟩ (λ_ _ _ k q=>⟨Bk.ls zo k q.1,Cn.ls zo k q.2⟩)⟩
end
end Go.Proofs.YtcebmphappfjjaaGreatDoor
