/- Conditions: those in each statement. -/
import Derived.Test.YtcebmphappfjjaaGreatDoorQ26
import Derived.Defers
import Derived.Recover
import Derived.Test.YtcebmphappfjjaaGreatDoorQ05
set_option maxHeartbeats 32000000
set_option maxRecDepth 100000
namespace Go.Proofs.YtcebmphappfjjaaGreatDoor
open Go.RowKit
theorem zsg (p0 p1 p2:Value) (w:World) :
 CallsD Tryz.prog 120 #[p0,p1,p2] .returning w λe u' w'=>e=.returned (.tuple #[])/\u'=.returning/\w'=w:=by
 refine callsD_of_wpS Tryz.func120 rfl λc₀ cs hu=>?_;apply wpS_seq;apply wpS_region;simp[wpOpsS,go_sem,recoverD,hu,Tryz.ntmps120,Exit.thenS];refine wpS_of_wp ?_;rw[show (#[p0,p1,p2]++((Array.replicate 14 undef).setIfInBounds 3 Value.nilIface).setIfInBounds 0 Value.nilIface:Array Value)=#[p0,p1,p2,.nilIface,undef,undef,.nilIface,undef,undef,undef,undef,undef,undef,undef,undef,undef,undef] from rfl];go_wp2_with fail;cases c₀
 simp_all [bodyPostS,results,Tryz.results120]
theorem zjW (b0 b1 b2:Nat) (h01:b0≠b1) (h02:b0≠b2) (h12:b1≠b2) (a:Int) (older:List PanicEntry) (w:World) (a0 a1 a2 a3 a4 v1 v2:Value)
 (H0:zab w b0 #[a0,a1,a2,a3,a4] 49) (H1:zab w b1 #[v1] 50) (H2:zab w b2 #[v2] 3) :
 CallsD Tryz.prog 120 #[.pointer (some ⟨b0,0,none⟩),.pointer (some ⟨b1,0,none⟩),.pointer (some ⟨b2,0,none⟩)] (.panicking ({v:=.iface 144 (.int .i64 a),recovered:=false}::older)) w λe u' w'=>
  e=.returned (.tuple #[])/\u'=.panicking ({v:=.iface 144 (.int .i64 a),recovered:=true}::older)/\
  w'=((((((((w.setCell ⟨b0,0,none⟩ (.int .i64 0)).setCell ⟨b0,1,none⟩ (.string ⟨#[]⟩)).setCell ⟨b0,2,none⟩ (.int .i64 0)).setCell ⟨b0,3,none⟩ (.int .i64 0)).setCell ⟨b0,4,none⟩ (.slice none 0 0)).setCell ⟨b1,0,none⟩ (.int .i64 2)).setCell ⟨b2,0,none⟩ (.int .i64 0)).setCell ⟨b2,0,none⟩ (.int .i64 a)):=by
 refine callsD_of_wpS Tryz.func120 rfl λc₀ cs hu=>?_;apply wpS_seq;apply wpS_region;simp[wpOpsS,go_sem,recoverD,hu,Tryz.ntmps120,Exit.thenS];refine wpS_of_wp ?_;rw[show (#[.pointer (some ⟨b0,0,none⟩),.pointer (some ⟨b1,0,none⟩),.pointer (some ⟨b2,0,none⟩)]++((Array.replicate 14 undef).setIfInBounds 3 (.iface 144 (.int .i64 a))).setIfInBounds 0 (.iface 144 (.int .i64 a)):Array Value)=#[.pointer (some ⟨b0,0,none⟩),.pointer (some ⟨b1,0,none⟩),.pointer (some ⟨b2,0,none⟩),.iface 144 (.int .i64 a),undef,undef,.iface 144 (.int .i64 a),undef,undef,undef,undef,undef,undef,undef,undef,undef,undef] from rfl];have hta:∀(W:World),(Instr.typeAssert (.iface 144 (.int .i64 a)) 20 144 true).run Tryz.prog W=.ok (.tuple #[.int .i64 a,.bool true]) W:=λW=>by rfl
 have x0:w.cell? ⟨b0,0,none⟩=some a0:=H0.cell 0;have x1:w.cell? ⟨b0,1,none⟩=some a1:=H0.cell 1;have x2:w.cell? ⟨b0,2,none⟩=some a2:=H0.cell 2;have x3:w.cell? ⟨b0,3,none⟩=some a3:=H0.cell 3;have x4:w.cell? ⟨b0,4,none⟩=some a4:=H0.cell 4;have z0:=H0.fz;have y1:w.cell? ⟨b1,0,none⟩=some v1:=H1.cell 0;have z1:=H1.fz;have y2:w.cell? ⟨b2,0,none⟩=some v2:=H2.cell 0;have z2:=H2.fz;go_wp2_with fail;simp[bodyPostS,results,Tryz.results120]
end Go.Proofs.YtcebmphappfjjaaGreatDoor
set_option maxHeartbeats 32000000
set_option maxRecDepth 100000
namespace Go.Proofs.YtcebmphappfjjaaGreatDoor
open Go.RowKit Go.MapKept
def zsi (z:Value) (L:List (ByteArray × Value)) (k:ByteArray):Value:=match fnd k L 0 with|some p=>.tuple #[p.2,.bool true]|none=>.tuple #[z,.bool false]
section
variable {P:Program} {T K E:TypeId} (hT:P.underlying T=some (.map K E)) (hK:P.underlying K=some .string)
include hT hK
theorem zdC {w:World} {m:Nat} {L:List (ByteArray × Value)} (h:zaN w m L) {z:Value} (hz:(zeroValue E).run P w=.ok z w) (k:ByteArray) :
 (Instr.lookup T (.map (some m)) (.string k) true).run P w=.ok (zsi z L k) w:=by
 obtain⟨es,clock,hb,he⟩:=h;have hf:=zcO k es.toList L 0 he;have hfk:=run_findKey (P:=P) (w:=w) hK hf;have hck:∀b,(Instr.checkKey b 10000 K (.string k)).run P w=.ok () w:=λb=>run_checkKey (P:=P) (w:=w) hK (k:=.string k) trivial b 9999;unfold zsi;cases hx:fnd k L 0 with
 |none=>
  rw[hx] at hfk;simp[Instr.lookup,run_underlying hT,MapKept.run_getObj_map hb,hck,hfk,hz]
 |some p=>
  rw[hx] at hfk;simp[Instr.lookup,run_underlying hT,MapKept.run_getObj_map hb,hck,hfk]
end
theorem znh {α:Type} (g:α->Value) (k:ByteArray):∀(L:List (ByteArray × α)) (i:Nat),(fnd k (L.map (λp=>(p.1,g p.2))) i).map Prod.snd=(L.find? (λp=>decide (p.1=k))).map (λp=>g p.2)
 |[],_=>rfl
 |p::r,i=>by
  rw[List.map_cons,fnd,List.find?_cons]
  by_cases h:k=p.1
  ·rw[if_pos h];simp[h]
  ·rw[if_neg h,znh g k r (i+1)];have:decide (p.1=k)=false:=decide_eq_false (λe=>h e.symm);rw[this]
theorem zgs (s:ByteArray):zsi (.int .i64 0) zgA s=match zeH s with|some l=>.tuple #[.int .i64 (l:Int),.bool true]|none=>.tuple #[.int .i64 0,.bool false]:=by
 have h:=znh (λl:Nat=>Value.int .i64 (l:Int)) s zgv 0;unfold zsi zeH zgA;cases hf:fnd s (zgv.map (λp=>(p.1,Value.int .i64 (p.2:Int)))) 0 with
 |none=>
  rw[hf] at h;cases hg:zgv.find? (λp=>decide (p.1=s)) with
  |none=>rfl
  |some q=>rw[hg] at h;cases h
 |some p=>
  rw[hf] at h;cases hg:zgv.find? (λp=>decide (p.1=s)) with
  |none=>rw[hg] at h;cases h
  |some q=>
   rw[hg] at h;simp only[Option.map_some,Option.some.injEq] at h;simp only[Option.map_some];rw[h]
theorem zlK (w:World):(zeroValue 3).run Tryz.prog w=.ok (.int .i64 0) w:=by kernel_rfl
theorem zlC {G:PG} {b:Nat} {w:World} {st:Ps} (h:PsAt G b w st) (s:ByteArray):(Instr.lookup 111 (.map (some G.m)) (.string s) true).run Tryz.prog w=.ok (match zeH s with|some l=>.tuple #[.int .i64 (l:Int),.bool true]|none=>.tuple #[.int .i64 0,.bool false]) w:=by
 rw[<-zgs];exact zdC Tryz.underlying111 Tryz.underlying9 h.mp (zlK w) s
def But (lo g:Nat) (w:World) (q:Nat):Prop:=Bt lo w.heap.size q/\q≠g
theorem zqL (l:List NdV) {w:World} {lo g:Nat} (hlo:lo<=w.heap.size) (hg:g<w.heap.size) (h:∀y∈l,Rd (But lo g w) w (ns y.x.kids) (.slice y.A y.x.kids.length y.c)) (hn:l.length<=32768) :
 Rd (But lo g (w.alloc (.cells (l.flatMap NdV.cells).toArray 49))) (w.alloc (.cells (l.flatMap NdV.cells).toArray 49)) (ns (l.map NdV.x)) (.slice (some ⟨w.heap.size,0,none⟩) (l.map NdV.x).length l.length):=by
 have hb:=(Below.refl w.heap.size w).alloc (Nat.le_refl _) (.cells (l.flatMap NdV.cells).toArray 49);refine Rd.sl_mk (by simp) (by omega) λ_=>⟨w.heap.size,0,rfl,⟨⟨hlo,by simp⟩,by omega⟩,λi hi j hj=>?_⟩;have hi':i<l.length:=by simpa using hi
 have hy:l[i]?=some l[i]:=List.getElem?_eq_getElem hi';have hr:=((h l[i] (List.getElem_mem hi')).below hb (λ_ hq=>hq.1.2)).weaken (ok':=But lo g (w.alloc (.cells (l.flatMap NdV.cells).toArray 49))) (λ_ hq=>⟨⟨hq.1.1,Nat.lt_of_lt_of_le hq.1.2 hb.size⟩,hq.2⟩);rw[zeW (l.map NdV.x) i l[i].x (by rw[List.getElem?_map,hy];rfl)];have hu:(l[i].cells)[j]?=some ((l[i].cells)[j]'(show j<5 from hj)):=List.getElem?_eq_getElem (show j<5 from hj);refine⟨_,?_,zby hr j _ hu⟩;rw[Nat.zero_add,zbG,List.getElem?_toArray,zfM l i j _ hy hj];exact hu
structure IX (G:PG) (b:Nat) (w:World) (lo g:Nat) (W:World) (st:Ps) (x:Nd) (A:Option Addr) (c:Nat):Prop where
 own1:Own1 b w W
 ps:PsAt G b W st
 cel:zab W g #[.int .i64 x.kind,.string x.text,.int .i64 x.n,.int .i64 x.at',.slice A x.kids.length c] 49
 rd:Rd (But lo g W) W (ns x.kids) (.slice A x.kids.length c)
 box:zab W w.heap.size #[.int .i64 0,.string ⟨#[]⟩,.int .i64 0,.int .i64 0,.slice none 0 0] 49
 size:lo<=W.heap.size
theorem But.below {lo g:Nat} {w1 w2:World} (k:Below w1.heap.size w1 w2) {d:D} {v:Value} (h:Rd (But lo g w1) w1 d v):Rd (But lo g w2) w2 d v:=
 (h.below k (λ_ hq=>hq.1.2)).weaken (λ_ hq=>⟨⟨hq.1.1,Nat.lt_of_lt_of_le hq.1.2 k.size⟩,hq.2⟩)
theorem Own1.but {b:Nat} {w1 w2:World} (k:Own1 b w1 w2) {lo g:Nat} (hlo:b<lo) {d:D} {v:Value} (h:Rd (But lo g w1) w1 d v):Rd (But lo g w2) w2 d v:=
 (Chg.rd k (ok:=But lo g w1) (λq hq=>⟨hq.1.2,λe=>by have:=hq.1.1;omega⟩) h).weaken (λ_ hq=>⟨⟨hq.1.1,Nat.lt_of_lt_of_le hq.1.2 k.size⟩,hq.2⟩)
theorem But.of {lo lo' g:Nat} {w:World} (hlo:lo<=lo') (hg:g<lo') {d:D} {v:Value} (h:Rd (Bt lo' w.heap.size) w d v):Rd (But lo g w) w d v:=h.weaken (λ_ hq=>⟨⟨Nat.le_trans hlo hq.1,hq.2⟩,by have:=hq.1;omega⟩)
theorem But.off {lo g:Nat} {w:World} {d:D} {v:Value} (h:Rd (But lo g w) w d v):Rd (Bt lo w.heap.size) w d v:=h.weaken (λ_ hq=>hq.1)
theorem zdg (W:World) (g:Nat) (u0 u1 u2 u3 u4:Value):Chg (λk=>k=g) W (((((W.setCell ⟨g,0,none⟩ u0).setCell ⟨g,1,none⟩ u1).setCell ⟨g,2,none⟩ u2).setCell ⟨g,3,none⟩ u3).setCell ⟨g,4,none⟩ u4):=
 ((((((Chg.refl (λk=>k=g) W).setCell (p:=⟨g,0,none⟩) (.inl rfl) u0).setCell (p:=⟨g,1,none⟩) (.inl rfl) u1).setCell (p:=⟨g,2,none⟩) (.inl rfl) u2).setCell (p:=⟨g,3,none⟩) (.inl rfl) u3).setCell (p:=⟨g,4,none⟩) (.inl rfl) u4)
theorem zaG.lift {G:PG} {b:Nat} {x:R Nd} {w w1:World} {e:Ending} {w':World} (h:zaG G b QNd x w1 e w') (hb:Below w.heap.size w w1):zaG G b QNd x w e w':=by
 cases x with
 |error a=>exact⟨(zaO hb).trans h.1,h.2⟩
 |ok p=>
  obtain⟨n,st'⟩:=p;obtain⟨h1,h2,A,c,rfl,hr⟩:=h;exact⟨(zaO hb).trans h1,h2,A,c,rfl,hr.weaken (λq hq=>⟨Nat.le_trans hb.size hq.1,hq.2⟩)⟩
end Go.Proofs.YtcebmphappfjjaaGreatDoor
set_option maxHeartbeats 32000000
set_option maxRecDepth 100000
namespace Go.Proofs.YtcebmphappfjjaaGreatDoor
open Go.RowKit
theorem zbc.appendMany {x B:Nat} {e:TypeId} {k n m:Nat} {f f':Nat->Nat->D} {w w':World} {v:Value} {xs news:List Value} {g cap:Nat} (h:zbc x B e k n f w v) (hxl0:x<w.heap.size) (hown:w.ownsRow B e k v n xs)
 (hown':w'.ownsRow B e k (.slice (some ⟨g,0,none⟩) (n+m) cap) (n+m) (xs++news)) (hg:w.grownBy w' v.ownBlock) (hat:v.ownBlock=some g\/g=w.heap.size) (hk:news.length=m*k)
 (hf:∀a,a<n->f' a=f a) (hnew:∀i j u,i<m->j<k->news[i*k+j]?=some u->Rd (λb=>(Bt B w.heap.size b/\some b≠v.ownBlock)/\b≠x) w (f' (n+i) j) u) :
 zbc x B e k (n+m) f' w' (.slice (some ⟨g,0,none⟩) (n+m) cap):=by
 have hxl:xs.length=n*k:=hown.1;have hcells:=hown'.cells (g:=g) rfl;rcases hown'.2 with ⟨hv,_⟩|⟨g',cap',cur,hv,hBg,hcur,hnc,hc,hsz,_⟩
 ·injection hv with hv;cases hv
 injection hv with hv1 _ hv3;injection hv1 with hv1;injection hv1 with hv1;subst hv1 hv3
 have keep:∀{d:D} {u:Value},Rd (λb=>(Bt B w.heap.size b/\some b≠v.ownBlock)/\b≠x) w d u->Rd (λb=>Bt B w'.heap.size b/\b≠g/\b≠x) w' d u:=λhd=>
  (hd.keep (λb o hb=>World.cell?_of_block (hg.block b hb.1.1.2 hb.1.2))).weaken (λb hb=>⟨⟨hb.1.1.1,Nat.lt_of_lt_of_le hb.1.1.2 hg.size⟩,λhbg=>by
   subst hbg;rcases hat with h1|h1
   ·exact hb.1.2 h1.symm
   ·have:=hb.1.1.2;omega,hb.2⟩)
 have hgx:g≠x:=by
  rcases hat with h1|h1
  ·rcases h with ⟨h2,_⟩|⟨g0,c0,h2,_,hx0,_⟩
   ·rw[h2] at h1;cases h1
   ·rw[h2] at h1;have:g0=g:=Option.some.inj h1;omega
  ·omega
 refine .inr ⟨g,cap,rfl,hBg,hgx,hnc,hc,⟨cur,hcur,hsz⟩,λa ha j hj=>?_⟩;rcases Nat.lt_or_ge a n with han|han
 ·have hak:=zdO (k:=k) han;have hu:xs[a*k+j]?=some (xs[a*k+j]'(by omega)):=List.getElem?_eq_getElem (by omega);have hc1:=hcells (a*k+j) _ ((List.getElem?_append_left (by omega)).trans hu);rw[Addr.add_lit,Nat.zero_add] at hc1;refine⟨_,hc1,?_⟩;rw[hf a han];rcases h with ⟨_,h0⟩|⟨g0,c0,rfl,_,_,_,_,_,hr⟩
  ·omega
  obtain⟨u,hcu,hd⟩:=hr a han j hj;have hc0:=hown.cells (g:=g0) rfl (a*k+j) _ hu;rw[Addr.add_lit,Nat.zero_add,hcu] at hc0;have he:=Option.some.inj hc0;rw[<-he]
  exact keep (hd.weaken (λb hb=>⟨⟨hb.1,λh=>by
   have:some b=some g0:=h;injection this with this;exact hb.2.1 this⟩,hb.2.2⟩))
 ·obtain⟨i,rfl⟩:∃i,a=n+i:=⟨a-n,by omega⟩;have him:i<m:=by omega
  have hik:=zdO (k:=k) him;have hd:(n+i)*k+j-n*k=i*k+j:=by rw[Nat.add_mul];omega
  have hge:n*k<=(n+i)*k+j:=by rw[Nat.add_mul];omega
  have hu:news[i*k+j]?=some (news[i*k+j]'(by omega)):=List.getElem?_eq_getElem (by omega);have hc1:=hcells ((n+i)*k+j) _ (by rw[List.getElem?_append_right (by omega),hxl,hd];exact hu);rw[Addr.add_lit,Nat.zero_add] at hc1;exact⟨_,hc1,keep (hnew i j _ him hj hu)⟩
theorem zea {T E:TypeId} {size bytes:Nat} {z:Value} (hinfo:(Tryz.prog.info? E).map (λi=>(i.zero,i.size,i.bytes))=some (some z,size,bytes)) (hund:Tryz.prog.underlying T=some (.slice E)) (hzs:z.cells.size=size) (hsz:0<size) (hbb:bytes<=8192)
 {w:World} {ops:Array Oper} {o:Oper} {a:Act} {K:Act->World->Prop} {Q:Exit->Act->World->Prop} {Ee:Prop} (hgd:o.guard=none) (s x:Operand)
 (ho:o.op=.call {callee:=.builtin .append,args:=#[s,x],argTypes:=#[T,T] })
 (X B:Nat) (hB:B<=w.heap.size) (hX:X<w.heap.size) (v:Value) (n:Nat) (f:Nat->Nat->D) (hs:a.eval s=v) (hO:zbc X B E size n f w v)
 (m c:Nat) (A:Option Addr) (fl f':Nat->Nat->D) (hx:a.eval x=.slice A m c)
 (hsrc:0<m->∃b off,A=some ⟨b,off,none⟩/\∀i,i<m->zcI (λb=>(Bt B w.heap.size b/\some b≠v.ownBlock)/\b≠X) w b (off+i*size) size (fl i))
 (hf:∀a,a<n->f' a=f a) (hf2:∀i j,i<m->j<size->f' (n+i) j=fl i j) (hlen:n+m<=4194304)
 (h:∀v' w',zbc X B E size (n+m) f' w' v'->w.grownBy w' v.ownBlock->(∀q,v'.ownBlock=some q->v.ownBlock=some q\/q=w.heap.size)->K (a.put o.dst v') w'):if Region.wanted o (yielded ops a.tmps)=true then Oper.wp Tryz.prog o a w K Q else Ee:=by
 obtain⟨i0,hi0,hz0,hz1,hz2⟩:=info_parts hinfo
 by_cases hm0:m=0
 ·subst hm0
  have hsr:Src Tryz.prog i0.size T (.slice A 0 c) 0 [] w:=by
   cases A with
   |none=>exact Src.ofNil w hund c
   |some p=>exact Src.ofSlice w hund p 0 c [] (by simp) (λj u hu=>by simp at hu) (λu hu=>by simp at hu)
  obtain⟨A0,c0,e,hnc,_⟩:=hO.owned.rd.sl_inv;have hrun:=run_append_nothing (P:=Tryz.prog) w T T o.type E i0 hund hi0 A0 n c0 hnc _ hsr;subst e;have hw:Region.wanted o (yielded ops a.tmps)=true:=by simp[Region.wanted,hgd]
  rw[if_pos hw];unfold Oper.wp;simp[execOp,ho,resolve,invoke,builtin,hs,hx,hrun,Result.andThen];refine(h _ w ?_ ⟨rfl,rfl,rfl,Nat.le_refl _,λ_ _ _=>rfl⟩ (λq hq=>.inl hq));rcases hO with ⟨h1,h2⟩|⟨g,c1,h1,h2,hgx,h3,h4,h5,h6⟩
  ·exact .inl ⟨h1,h2⟩
  ·exact .inr ⟨g,c1,h1,h2,hgx,h3,h4,h5,λk hk=>by rw[hf k hk];exact h6 k hk⟩
 ·obtain⟨b,off,rfl,hrow⟩:=hsrc (by omega);obtain⟨xs,hown⟩:=hO.owned.own;obtain⟨news,hnws⟩:∃news:List Value,news=(List.range (m*size)).map (λq=>(w.cell? ⟨b,off+q,none⟩).getD undef):=⟨_,rfl⟩;have hnl:news.length=m*size:=by rw[hnws];simp
  have hget:∀q,q<m*size->∃u,news[q]?=some u/\w.cell? ⟨b,off+q,none⟩=some u/\Rd (λb=>(Bt B w.heap.size b/\some b≠v.ownBlock)/\b≠X) w (fl (q / size) (q % size)) u:=λq hq=>by
   have h1:q / size<m:=Nat.div_lt_of_lt_mul (by rw[Nat.mul_comm];exact hq);have h2:q % size<size:=Nat.mod_lt _ hsz;have h3:q / size*size+q % size=q:=by rw[Nat.mul_comm];exact Nat.div_add_mod q size
   obtain⟨u,hu,hd⟩:=hrow _ h1 _ h2;rw[Nat.add_assoc,h3] at hu;refine⟨u,?_,hu,hd⟩;rw[hnws];simp[hq,hu]
  have hb:(n+m)*bytes<=4194304*8192:=Nat.mul_le_mul hlen hbb;refine step_append_lies w hgd s x T ho B E i0 z size bytes hund hi0 hz0 hz1 hz2 hzs hsz v n xs hs hown ⟨b,off,none⟩ m c news hx hnl (λj u hj=>?_) (λu hu=>?_) (by omega) (by unfold maxLen;omega) (by omega) hB w.heap.size rfl ?_
  ·have hjl:=(List.getElem?_eq_some_iff.1 hj).1;obtain⟨u',h1,h2,_⟩:=hget j (by omega);rw[Addr.add_lit,h2,<-h1,hj]
  ·obtain⟨j,hj⟩:=List.getElem?_of_mem hu;have hjl:=(List.getElem?_eq_some_iff.1 hj).1;obtain⟨u',h1,_,h3⟩:=hget j (by omega);rw[h1] at hj;obtain rfl:=Option.some.inj hj;exact h3.oneCell
  intro g cap w' h2 h3 h4 _
  refine h _ w' ?_ h3 (λq hq=>by
   obtain rfl:g=q:=Option.some.inj hq;exact h4)
  refine hO.appendMany hX hown h2 h3 h4 hnl hf (λi j u hi hj hu=>?_);have hik:=zdO (k:=size) hi;obtain⟨u',h5,_,h6⟩:=hget (i*size+j) (by omega);rw[h5] at hu;obtain rfl:=Option.some.inj hu;have e1:(i*size+j) / size=i:=by rw[Nat.add_comm,Nat.add_mul_div_right _ _ hsz,Nat.div_eq_of_lt hj];omega
  have e2:(i*size+j) % size=j:=by rw[Nat.add_comm,Nat.add_mul_mod_self_right,Nat.mod_eq_of_lt hj]
  rw[e1,e2] at h6;rw[hf2 i j hi hj];exact h6
theorem zfF {T E:TypeId} {size bytes:Nat} {z:Value} (hinfo:(Tryz.prog.info? E).map (λi=>(i.zero,i.size,i.bytes))=some (some z,size,bytes)) (hund:Tryz.prog.underlying T=some (.slice E)) (hzs:z.cells.size=size) (hsz:0<size) (hbb:bytes<=8192)
 {w:World} {ops:Array Oper} {o:Oper} {a:Act} {K:Act->World->Prop} {Q:Exit->Act->World->Prop} {Ee:Prop} (hgd:o.guard=none) (s x:Operand)
 (ho:o.op=.call {callee:=.builtin .append,args:=#[s,x],argTypes:=#[T,T] })
 (X B:Nat) (hB:B<=w.heap.size) (hX:X<w.heap.size) (v:Value) (n:Nat) (f:Nat->Nat->D) (hs:a.eval s=v) (hO:zbc X B E size n f w v)
 (m c:Nat) (A:Option Addr) (fl f':Nat->Nat->D) (hx:a.eval x=.slice A m c)
 (hsrc:0<m->∃b off,A=some ⟨b,off,none⟩/\∀i,i<m->zcI (λb=>(Bt B w.heap.size b/\some b≠v.ownBlock)/\b≠X) w b (off+i*size) size (fl i))
 (hf:∀a,a<n->f' a=f a) (hf2:∀i j,i<m->j<size->f' (n+i) j=fl i j) (hlen:n+m<=4194304)
 (h:∀v' w',zbc X B E size (n+m) f' w' v'->w.grownBy w' v.ownBlock->(∀q,v'.ownBlock=some q->v.ownBlock=some q\/q=w.heap.size)->K (a.put o.dst v') w'):if Region.wanted o (yielded ops a.tmps)=true then Oper.wp Tryz.prog o a w.drew K Q else Ee:=by
 refine zea hinfo hund hzs hsz hbb hgd s x ho X B hB hX v n f hs (hO.below (zae (Below.refl _ _) 1)) m c A fl f' hx (λhm=>?_) hf hf2 hlen ?_
 ·obtain⟨b,off,e,hr⟩:=hsrc hm
  exact⟨b,off,e,λi hi j hj=>by
   obtain⟨u,hu,hd⟩:=hr i hi j hj;exact⟨u,hu,hd.drewN 1⟩⟩
 intro v' w' h1 h2 h3;exact h v' w' h1 ⟨h2.os,h2.tape,h2.output,h2.size,h2.block⟩ h3
theorem zoX (l:List NdV) {w:World} {lo g:Nat} (hlo:lo<=w.heap.size) (hg:g<w.heap.size) (h:∀y∈l,Rd (But lo g w) w (ns y.x.kids) (.slice y.A y.x.kids.length y.c)) (hn:l.length<=32768) :
 zbc g lo 49 5 (l.map NdV.x).length (zan Nd.row (l.map NdV.x)) (w.alloc (.cells (l.flatMap NdV.cells).toArray 49)) (.slice (some ⟨w.heap.size,0,none⟩) (l.map NdV.x).length l.length):=by
 have hb:=(Below.refl w.heap.size w).alloc (Nat.le_refl _) (.cells (l.flatMap NdV.cells).toArray 49)
 have hsz:(l.flatMap NdV.cells).length=l.length*5:=by
  clear h hn hb
  induction l with
  |nil=>rfl
  |cons y r ih=>rw[List.flatMap_cons,List.length_append,ih,List.length_cons];show 5+_=_;omega
 refine .inr ⟨w.heap.size,l.length,rfl,hlo,by omega,by simp,by omega,⟨_,heap_alloc_new w _,by simpa using hsz⟩,λi hi j hj=>?_⟩;have hi':i<l.length:=by simpa using hi
 have hy:l[i]?=some l[i]:=List.getElem?_eq_getElem hi';have hr:=h l[i] (List.getElem_mem hi');rw[zas (l:=l.map NdV.x) (i:=i) (x:=l[i].x) (by rw[List.getElem?_map,hy];rfl)];have hu:(l[i].cells)[j]?=some ((l[i].cells)[j]'(show j<5 from hj)):=List.getElem?_eq_getElem (show j<5 from hj);refine⟨_,?_,zby ?_ j _ hu⟩
 ·rw[zbG,List.getElem?_toArray,zfM l i j _ hy hj];exact hu
 ·exact(hr.below hb (λ_ hq=>hq.1.2)).weaken (λq hq=>⟨⟨hq.1.1,Nat.lt_of_lt_of_le hq.1.2 hb.size⟩,by have:=hq.1.2;omega,hq.2⟩)
theorem zkl {W:World} {lo B X g:Nat} {m:List Nd} {A:Option Addr} {n c:Nat} {v:Value} (hn:n=m.length) (R:Rd (But lo g W) W (.sl 5 m.length (zan Nd.row m)) (.slice A m.length c)) (hB:B<=lo) (hX:X<lo) (hv:v.ownBlock=some g) :
 0<n->∃b off,A=some ⟨b,off,none⟩/\∀i,i<n->zcI (λb=>(Bt B W.heap.size b/\some b≠v.ownBlock)/\b≠X) W b (off+i*5) 5 (zan Nd.row m i):=by
 subst hn;intro hm;obtain⟨A0,c0,e,_,_,h3⟩:=R.sl_inv;injection e with e1 e2 e3;subst e1;obtain⟨b9,off9,rfl,hb9,hrow⟩:=h3 hm;exact⟨b9,off9,rfl,λi hi=>(hrow i hi).weaken (λq hq=>⟨⟨⟨Nat.le_trans hB hq.1.1,hq.1.2⟩,λe=>by rw[hv] at e;exact hq.2 (Option.some.inj e)⟩,by have:=hq.1.1;omega⟩)⟩
theorem zbc.own_ne {x B:Nat} {e:TypeId} {k n:Nat} {f:Nat->Nat->D} {w:World} {v:Value} (h:zbc x B e k n f w v) (g:Nat) (hg:v.ownBlock=some g):B<=g/\g≠x/\g<w.heap.size:=by
 rcases h with ⟨rfl,_⟩|⟨g0,c,rfl,h1,h2,_,_,h5,_⟩
 ·cases hg
 ·obtain rfl:g0=g:=Option.some.inj hg;exact⟨h1,h2,h5.lt⟩
structure IZ (G:PG) (b:Nat) (w:World) (X:Nat) (cx:Array Value) (W:World) (st:Ps):Prop where
 own1:Own1 b w W
 ps:PsAt G b W st
 cel:zab W X cx 49
 box:zab W w.heap.size #[.int .i64 0,.string ⟨#[]⟩,.int .i64 0,.int .i64 0,.slice none 0 0] 49
section
variable {G:PG} {b:Nat} {w:World} {X:Nat} {cx:Array Value} {W W':World} {st st':Ps}
theorem IZ.below (h:IZ G b w X cx W st) (k:Below W.heap.size W W'):IZ G b w X cx W' st:=⟨h.own1.of_below k,h.ps.below k,zaa k h.cel,zaa k h.box⟩
theorem IZ.call (h:IZ G b w X cx W st) (hX:¬X=b) (hb:b<w.heap.size) (k:Own1 b W W') (p:PsAt G b W' st'):IZ G b w X cx W' st':=⟨h.own1.trans k,p,h.cel.keep k hX,h.box.keep k (by omega)⟩
theorem IZ.grown (h:IZ G b w X cx W st) (hb:b<w.heap.size) (hlim:G.lim<=w.heap.size) {lo k n:Nat} {e:TypeId} {f:Nat->Nat->D} {v:Value} (hO:zbc X lo e k n f W v) (hlo:w.heap.size<lo) (hg:W.grownBy W' v.ownBlock):IZ G b w X cx W' st:=by
 have hch:Chg (λk=>lo<=k) W W':=Chg.of_grown hg (λk hk=>(hO.own_ne k hk).1);exact⟨Chg.trans h.own1 hch (λj hj=>.inr (by omega)),h.ps.keep hch (λk hk=>⟨by omega,by omega⟩),zji hg h.cel (λq hq=>(hO.own_ne q hq).2.1),h.box.keep hch (by omega)⟩
end
theorem zqV {W:World} {lo lo' g:Nat} {m:List Nd} {A:Option Addr} {c:Nat} (h:zaz lo 49 5 m.length (zan Nd.row m) W (.slice A m.length c)) (h1:lo'<=lo) (h2:g<lo):Rd (But lo' g W) W (.sl 5 m.length (zan Nd.row m)) (.slice A m.length c):=
 h.rd.weaken (λq hq=>⟨⟨Nat.le_trans h1 hq.1,hq.2⟩,by have:=hq.1;omega⟩)
theorem ztr {W W':World} {lo:Nat} {m:List Nd} {A:Option Addr} {c:Nat} (h:zaz lo 49 5 m.length (zan Nd.row m) W (.slice A m.length c)) (k:Below W.heap.size W W'):Rd (But lo W.heap.size W') W' (.sl 5 m.length (zan Nd.row m)) (.slice A m.length c):=
 (h.rd.below k (λ_ hq=>hq.2)).weaken (λq hq=>⟨⟨hq.1,Nat.lt_of_lt_of_le hq.2 k.size⟩,by have:=hq.2;omega⟩)
theorem zbc.rdX {x B:Nat} {e:TypeId} {k n:Nat} {f:Nat->Nat->D} {w:World} {v:Value} (h:zbc x B e k n f w v):Rd (But B x w) w (.sl k n f) v:=by
 rcases h with ⟨rfl,rfl⟩|⟨g,c,rfl,hB,hgx,hnc,hc,hbk,hr⟩
 ·exact Rd.sl_nil
 ·refine Rd.sl_mk hnc hc λ_=>⟨g,0,rfl,⟨⟨hB,hbk.lt⟩,hgx⟩,λi hi=>?_⟩;rw[Nat.zero_add];exact(hr i hi).weaken (λb hb=>⟨hb.1,hb.2.2⟩)
theorem IX.filled {G:PG} {b:Nat} {w W W':World} {lo X:Nat} {cx:Array Value} {st:Ps} {A:Option Addr} {n c:Nat} {kd nn at':Int} {s:ByteArray} {l:List Nd} (h:IZ G b w X cx W st) (hb:b<w.heap.size) (hlim:G.lim<=w.heap.size) (hlo:w.heap.size<lo) (hX:lo<=X) (hR:Rd (But lo X W) W (ns l) (.slice A n c)) (hn:n=l.length)
 (hW:W'=(((((W.setCell ⟨X,0,none⟩ (.int .i64 kd)).setCell ⟨X,1,none⟩ (.string s)).setCell ⟨X,2,none⟩ (.int .i64 nn)).setCell ⟨X,3,none⟩ (.int .i64 at')).setCell ⟨X,4,none⟩ (.slice A n c))) (hc:∃u0 u1 u2 u3 u4,cx=#[u0,u1,u2,u3,u4]) :
 IX G b w lo X W' st (.mk kd s nn at' l) A c:=by
 subst hn;obtain⟨u0,u1,u2,u3,u4,rfl⟩:=hc;have hcel:=zex (.int .i64 kd) (.string s) (.int .i64 nn) (.int .i64 at') (.slice A l.length c) h.cel;have hch:=zdg W X (.int .i64 kd) (.string s) (.int .i64 nn) (.int .i64 at') (.slice A l.length c);rw[<-hW] at hcel hch;have hlt:=h.cel.lt;exact⟨Chg.trans h.own1 hch (λj hj=>.inr (by omega)),h.ps.keep hch (λk hk=>⟨by omega,by omega⟩),hcel,(hch.rd (ok:=But lo X W) (λq hq=>⟨hq.1.2,hq.2⟩) hR).weaken (λq hq=>⟨⟨hq.1.1,Nat.lt_of_lt_of_le hq.1.2 hch.size⟩,hq.2⟩),h.box.keep hch (by omega),by have:=hch.size;omega⟩
end Go.Proofs.YtcebmphappfjjaaGreatDoor
