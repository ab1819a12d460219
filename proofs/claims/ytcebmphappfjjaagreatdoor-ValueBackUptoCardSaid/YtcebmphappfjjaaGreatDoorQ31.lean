/- Conditions: those in each statement. -/
import Derived.Test.YtcebmphappfjjaaGreatDoorQ28
import Derived.Test.YtcebmphappfjjaaGreatDoorQ29
import Derived.Deep.RegionHeld3
import Derived.RegionDies
import Derived.Deep.RegionLaw
set_option maxHeartbeats 32000000
set_option maxRecDepth 100000
namespace Go.Proofs.YtcebmphappfjjaaGreatDoor
open Go.RowKit
def Ox (X lo hi:Nat) (l:List Nd) (v:Value) (U:World):Prop:=zbc X lo 49 5 l.length (zan Nd.row l) U v/\∀g,v.ownBlock=some g->g<hi
def Bk (X lo:Nat) (l:List Nd) (v:Value) (U:World):Prop:=Rd (But lo X U) U (ns l) v
theorem Bk.rk {X lo:Nat} {l:List Nd} {v:Value} {U:World} (h:Bk X lo l v U):Rk lo l v U:=But.off h
theorem Bk.nl (X lo:Nat) (k n a:Int) (s:ByteArray) (U:World):Bk X lo (Nd.mk k s n a []).kids (.slice none (Nd.mk k s n a []).kids.length 0) U:=Rd.sl_nil
theorem Ox.rk {X lo hi:Nat} {l:List Nd} {v:Value} {U:World} (h:Ox X lo hi l v U):Rk lo l v U:=zid h.1.owned.rd
theorem Ox.bk {X lo hi:Nat} {l:List Nd} {v:Value} {U:World} (h:Ox X lo hi l v U):Bk X lo l v U:=zid h.1.rdX
def Nx (X lo:Nat) (x:Nd) (A:Option Addr) (c:Nat) (U:World):Prop:=Bk X lo x.kids (.slice A x.kids.length c) U/\Cn X (.int .i64 x.kind) (.string x.text) (.int .i64 x.n) (.int .i64 x.at') (.slice A x.kids.length c) U
theorem Ox.ls {X lo hi b:Nat} {l:List Nd} {v:Value} (hb:b<lo) {U V:World} (k:Own1 b U V) (h:Ox X lo hi l v U):Ox X lo hi l v V:=⟨Own1.ownedX k hb h.1,h.2⟩
theorem Bk.ls {X lo b:Nat} {l:List Nd} {v:Value} (hb:b<lo) {U V:World} (k:Own1 b U V) (h:Bk X lo l v U):Bk X lo l v V:=Own1.but k hb h
theorem Cn.al {g:Nat} {u0 u1 u2 u3 u4:Value} {W:World} (h:Cn g u0 u1 u2 u3 u4 W) (o:Obj):Cn g u0 u1 u2 u3 u4 (W.alloc o):=zaa ((Below.refl _ _).alloc (Nat.le_refl _) o) h
section
variable {β:Type} {fn:FuncId} {args:Array Value} {G:PG} {b:Nat} {w:World} {t:Bool} {F:World->Prop} {st:Ps} {n:Nat} {W:World} {S:Ending->World->Prop} {r:R β}
theorem St.pat {x:R (ByteArray × List Nd)} {kd a:Int} {f:ByteArray × List Nd->Ps->R β} (Z:St G b w t F st n W) (K:Calls Tryz.prog fn args W (zaG G b (QPat kd a) x W)) (ha:Adv x (st.next+1)) (HF:Hid (R.next x f=r)) (hE:∀a V,r=.error a->Own1 b w V->S (zcJ a) V)
 (hO:∀s l st' A c V,Hid (f (s,l) st'=r)->l.length<=32768->W.heap.size<=V.heap.size->n+1<=st'.next->st'.next<=G.T.length->St G b w t (λU=>Ox V.heap.size W.heap.size V.heap.size l (.slice A l.length c) U/\F U) st' st'.next V->S (.returned (.agg #[.int .i64 kd,.string s,.int .i64 0,.int .i64 a,.slice A l.length c])) V):Calls Tryz.prog fn args W S:=
 Z.go K ha HF hE (λp st' e V hf hs hm hle Z' hq=>by
  obtain⟨s,l⟩:=p;obtain⟨A,c,rfl,hl,hR⟩:=hq;exact hO s l st' A c V hf hl hs (Z.nx▸hm) hle (Z'.add ⟨zaz.ex hR (Nat.le_refl _),λg hg=>(hR.below_own g hg).2⟩ (λ_ _ _ k q=>Ox.ls (Nat.lt_of_lt_of_le Z.hb Z.sz) k q)))
theorem St.grownX (Z:St G b w t F st n W) {X lo:Nat} (hw:w.heap.size<lo) (hX:¬X=b) {l:Nat} {f:Nat->Nat->D} {L:List Nd} {v v' u0 u1 u2 u3 u4:Value} {V:World} (hO:zbc X lo 49 5 l f W v) (hC:Cn X u0 u1 u2 u3 u4 W) (hg:W.grownBy V v.ownBlock) (hO':zbc X lo 49 5 L.length (zan Nd.row L) V v'):St G b w t (λU=>Ox X lo V.heap.size L v' U/\Cn X u0 u1 u2 u3 u4 U) st n V:=by
 have hb:=Z.hb;have hl:=Z.hl;have hch:Chg (λk=>lo<=k) W V:=Chg.of_grown hg (λk hk=>(hO.own_ne k hk).1);exact⟨Z.ps.keep hch (λk hk=>⟨by omega,by omega⟩),Chg.trans Z.own hch (λj hj=>.inr (by omega)),hb,hl,Z.nx,λe=>zab.keep (Z.bx e) hch (by omega),⟨⟨hO',λg hq=>(hO'.own_ne g hq).2.2⟩,zji hg hC (λq hq=>(hO.own_ne q hq).2.1)⟩,λ_ _ _ k q=>⟨Ox.ls (by omega) k q.1,Cn.ls (by omega) k q.2⟩⟩
theorem St.stp_app (Z:St G b w t F st n W) {X lo hi hi':Nat} {l:List Nd} {x:Nd} {v u0 u1 u2 u3 u4:Value} {A:Option Addr} {c:Nat} {W':World} (hW:W'=W.alloc (.cells #[.int .i64 x.kind,.string x.text,.int .i64 x.n,.int .i64 x.at',.slice A x.kids.length c] 49)\/W'=(W.alloc (.cells #[.int .i64 x.kind,.string x.text,.int .i64 x.n,.int .i64 x.at',.slice A x.kids.length c] 49)).drew)
 (hO:Ox X lo hi l v W) (hC:Cn X u0 u1 u2 u3 u4 W) (hR:Rk hi' x.kids (.slice A x.kids.length c) W) {ops:Array Oper} {o:Oper} {a:Act} {K:Act->World->Prop} {Q:Exit->Act->World->Prop} {Ee:Prop} {s y:Operand} (hgd:o.guard=none) (ho:o.op=.call {callee:=.builtin .append,args:=#[s,y],argTypes:=#[47,47] }) (hs:a.eval s=v) (hy:a.eval y=.slice (some ⟨W.heap.size,0,none⟩) 1 1)
 (hh:hi<=hi') (hw:w.heap.size<lo) (hX:¬X=b) (hX':X<hi') (hlo:lo<=hi') (hlw:lo<=W.heap.size) (hlen:l.length<=2097152) (h:∀L A' c' V,l++[x]=L->L.length<=l.length+1->W.heap.size<=V.heap.size->St G b w t (λU=>Ox X lo V.heap.size L (.slice A' L.length c') U/\Cn X u0 u1 u2 u3 u4 U) st n V->K (a.put o.dst (.slice A' L.length c')) V) :
 if Region.wanted o (yielded ops a.tmps)=true then Oper.wp Tryz.prog o a W' K Q else Ee:=by
 have hb0:=(Below.refl W.heap.size W).alloc (Nat.le_refl _) (.cells #[.int .i64 x.kind,.string x.text,.int .i64 x.n,.int .i64 x.at',.slice A x.kids.length c] 49)
 have hb:Below W.heap.size W W':=by
  rcases hW with rfl|rfl
  ·exact hb0
  ·exact zae hb0 1
 have hO1:=hO.1.below hb;have hXl:X<W.heap.size:=zab.lt hC
 have hcs:∀(j:Nat) (u:Value),(zfK x A c)[j]?=some u->W'.cell? ((⟨W.heap.size,0,none⟩:Addr).add j)=some u:=by
  rcases hW with rfl|rfl
  ·exact zfI _ _ _ _
  ·exact λj u hj=>zfI W x A c j u hj
 refine zgY Nd.row zef Tryz.underlying47 rfl (by omega) (by omega) hgd s y ho X lo (Nat.le_trans hlw hb.size) (Nat.lt_of_lt_of_le hXl hb.size) v l hs hO1 ⟨W.heap.size,0,none⟩ 1 x (zfK x A c) rfl hy hcs (zsW (zaF hb hR) hlo hX' (λg hg=>Nat.lt_of_lt_of_le (hO.2 g hg) hh)) hlen ?_;intro v' V hO' hg _;obtain⟨A',c',rfl,_⟩:=hO'.owned.rd.sl_inv;exact h _ A' c' V rfl (Nat.le_of_eq (by simp)) (Nat.le_trans hb.size hg.size) ((Z.below hb).grownX hw hX hO1 (zaa hb hC) hg hO')
theorem St.set4x {X lo hi:Nat} {l:List Nd} {v u0 u1 u2 u3 u4:Value} (Z:St G b w t (λU=>Ox X lo hi l v U/\Cn X u0 u1 u2 u3 u4 U) st n W) (hX:w.heap.size<X) (hlo:w.heap.size<=lo) (u:Value) :
 (∀j,W.frozen? ⟨X,j,none⟩=false)/\∃V,W.setCell ⟨X,4,none⟩ u=V/\W.heap.size<=V.heap.size/\St G b w t (λU=>Ox X lo hi l v U/\Cn X u0 u1 u2 u3 u U) st n V:=
 Z.set hX Z.fx.2 (λV hc h=>⟨⟨Z.fx.1.1.chg hc (λj hj=>.inr hj),Z.fx.1.2⟩,h⟩) (λ_ _ _ k q=>⟨Ox.ls (by have:=Z.hb;omega) k q.1,Cn.ls (λe=>by have:=Z.hb;omega) k q.2⟩)
theorem St.okn {m:Nat} {l:List Nd} {st':Ps} (Z:St G b w t F st n W) (K:Calls Tryz.prog fn args W (zaG G b (QNs m) (.ok (l,st')) W))
 (hO:∀A c V,l.length<=m->W.heap.size<=V.heap.size->st'.next<=G.T.length->St G b w t (λU=>Ow W.heap.size V.heap.size l (.slice A l.length c) U/\F U) st' st'.next V->S (.returned (.slice A l.length c)) V):Calls Tryz.prog fn args W S:=K.mono (λe V h=>by
 obtain⟨hc,hp,A,c,rfl,hl,hR⟩:=h;exact hO A c V hl (Chg.size hc) hp.le ((Z.step hc hp rfl).addOw Z.sz ⟨hR,λg hg=>(hR.below_own g hg).2⟩))
theorem St.oks {s:ByteArray} {st':Ps} (Z:St G b w t F st n W) (K:Calls Tryz.prog fn args W (zaG G b QStr (.ok (s,st')) W)) (hO:∀V,W.heap.size<=V.heap.size->st'.next<=G.T.length->St G b w t F st' st'.next V->S (.returned (.string s)) V):Calls Tryz.prog fn args W S:=K.mono (λe V h=>by
 obtain⟨hc,hp,rfl⟩:=h;exact hO V (Chg.size hc) hp.le (Z.step hc hp rfl))
theorem St.litx (Z:St G b w t F st n W) {X lo:Nat} (x:Nd) (A:Option Addr) (c:Nat) (h:Bk X lo x.kids (.slice A x.kids.length c) W) (hw:w.heap.size<=lo) (hlo:lo<=W.heap.size) (hX:X<W.heap.size) :
 (W.alloc (.cells #[.int .i64 x.kind,.string x.text,.int .i64 x.n,.int .i64 x.at',.slice A x.kids.length c] 49)).heap.size=W.heap.size+1/\St G b w t (λU=>Ox X lo (W.heap.size+1) [x] (.slice (some ⟨W.heap.size,0,none⟩) 1 1) U/\F U) st n (W.alloc (.cells #[.int .i64 x.kind,.string x.text,.int .i64 x.n,.int .i64 x.at',.slice A x.kids.length c] 49)):=by
 have ho:=zoX [⟨x,A,c⟩] hlo hX (λy hy=>by simp only[List.mem_cons,List.not_mem_nil,or_false] at hy;subst hy;exact h) (by simp);exact⟨by simp,(Z.below ((Below.refl W.heap.size W).alloc (Nat.le_refl _) _)).add ⟨ho,λg hg=>by injection hg with hg;subst hg;exact Nat.lt_succ_self _⟩ (λ_ _ _ k q=>Ox.ls (Nat.lt_of_lt_of_le Z.hb hw) k q)⟩
theorem St.litd (Z:St G b w t F st n W) {X lo:Nat} (x:Nd) (A:Option Addr) (c:Nat) (h:Bk X lo x.kids (.slice A x.kids.length c) W) (hw:w.heap.size<=lo) (hlo:lo<=W.heap.size) (hX:X<W.heap.size) :
 (W.alloc (.cells #[.int .i64 x.kind,.string x.text,.int .i64 x.n,.int .i64 x.at',.slice A x.kids.length c] 49)).drew.heap.size=W.heap.size+1/\St G b w t (λU=>Ox X lo (W.heap.size+1) [x] (.slice (some ⟨W.heap.size,0,none⟩) 1 1) U/\F U) st n (W.alloc (.cells #[.int .i64 x.kind,.string x.text,.int .i64 x.n,.int .i64 x.at',.slice A x.kids.length c] 49)).drew:=
 ⟨(Z.litx x A c h hw hlo hX).1,(Z.litx x A c h hw hlo hX).2.drew⟩
theorem St.litm (Z:St G b w t F st n W) {X lo lo2 hi2:Nat} {m:List Nd} {A2:Option Addr} {c2:Nat} (x:Nd) (A:Option Addr) (c:Nat) (hm:Ow lo2 hi2 m (.slice A2 m.length c2) W) (h:Bk X lo x.kids (.slice A x.kids.length c) W) (hw:w.heap.size<=lo) (hlo:lo<=W.heap.size) (hX:X<W.heap.size) :
 (W.alloc (.cells #[.int .i64 x.kind,.string x.text,.int .i64 x.n,.int .i64 x.at',.slice A x.kids.length c] 49)).heap.size=W.heap.size+1/\Rd (But lo2 W.heap.size (W.alloc (.cells #[.int .i64 x.kind,.string x.text,.int .i64 x.n,.int .i64 x.at',.slice A x.kids.length c] 49))) (W.alloc (.cells #[.int .i64 x.kind,.string x.text,.int .i64 x.n,.int .i64 x.at',.slice A x.kids.length c] 49)) (.sl 5 m.length (zan Nd.row m)) (.slice A2 m.length c2)/\
  St G b w t (λU=>Ox X lo (W.heap.size+1) [x] (.slice (some ⟨W.heap.size,0,none⟩) 1 1) U/\F U) st n (W.alloc (.cells #[.int .i64 x.kind,.string x.text,.int .i64 x.n,.int .i64 x.at',.slice A x.kids.length c] 49)):=
 ⟨(Z.litx x A c h hw hlo hX).1,ztr hm.1 ((Below.refl _ _).alloc (Nat.le_refl _) _),(Z.litx x A c h hw hlo hX).2⟩
theorem St.stp_apps (Z:St G b w t F st n W) {X lo hi lo' g:Nat} {l m:List Nd} {v u0 u1 u2 u3 u4:Value} {A:Option Addr} {c:Nat} {W':World} (hW:W'=W\/W'=W.drew)
 (hO:Ox X lo hi l v W) (hC:Cn X u0 u1 u2 u3 u4 W) (hR:Rd (But lo' g W) W (.sl 5 m.length (zan Nd.row m)) (.slice A m.length c)) {ops:Array Oper} {o:Oper} {a:Act} {K:Act->World->Prop} {Q:Exit->Act->World->Prop} {Ee:Prop} {s y:Operand} (hgd:o.guard=none) (ho:o.op=.call {callee:=.builtin .append,args:=#[s,y],argTypes:=#[47,47] }) (hs:a.eval s=v) (hy:a.eval y=.slice A m.length c)
 (hv:v.ownBlock=some g) (hw:w.heap.size<lo) (hX:¬X=b) (hX':X<lo') (hlo:lo<=lo') (hlw:lo<=W.heap.size) (hlen:l.length+m.length<=4194304) (h:∀L A' c' V,l++m=L->L.length<=l.length+m.length->W.heap.size<=V.heap.size->St G b w t (λU=>Ox X lo V.heap.size L (.slice A' L.length c') U/\Cn X u0 u1 u2 u3 u4 U) st n V->K (a.put o.dst (.slice A' L.length c')) V) :
 if Region.wanted o (yielded ops a.tmps)=true then Oper.wp Tryz.prog o a W' K Q else Ee:=by
 have hXl:X<W.heap.size:=zab.lt hC
 have hF:∀v' V,zbc X lo 49 5 (l.length+m.length) (zan Nd.row (l++m)) V v'->W.grownBy V v.ownBlock->(∀q,v'.ownBlock=some q->v.ownBlock=some q\/q=W.heap.size)->K (a.put o.dst v') V:=by
  intro v' V hO' hg _;rw[<-List.length_append] at hO';obtain⟨A',c',rfl,_⟩:=hO'.owned.rd.sl_inv;exact h _ A' c' V rfl (Nat.le_of_eq (by simp)) hg.size (Z.grownX hw hX hO.1 hC hg hO')
 rcases hW with rfl|rfl
 ·exact zea zef Tryz.underlying47 rfl (by omega) (by omega) hgd s y ho X lo hlw hXl v l.length (zan Nd.row l) hs hO.1 m.length c A (zan Nd.row m) (zan Nd.row (l++m)) hy (zkl rfl hR hlo hX' hv) (zfp rfl) (zer rfl rfl) hlen hF
 ·exact zfF zef Tryz.underlying47 rfl (by omega) (by omega) hgd s y ho X lo hlw hXl v l.length (zan Nd.row l) hs hO.1 m.length c A (zan Nd.row m) (zan Nd.row (l++m)) hy (zkl rfl hR hlo hX' hv) (zfp rfl) (zer rfl rfl) hlen hF
theorem St.ndx (Z:St G b w t F st n W) {lo:Nat} (x:Nd) (A:Option Addr) (c:Nat) (h:Rk lo x.kids (.slice A x.kids.length c) W) (hw:w.heap.size<=lo):∃V,W.alloc (.cells #[.int .i64 x.kind,.string x.text,.int .i64 x.n,.int .i64 x.at',.slice A x.kids.length c] 49)=V/\W.heap.size+1<=V.heap.size/\St G b w t (Nx W.heap.size lo x A c) st n V:=by
 have hb:=(Below.refl W.heap.size W).alloc (Nat.le_refl _) (.cells #[.int .i64 x.kind,.string x.text,.int .i64 x.n,.int .i64 x.at',.slice A x.kids.length c] 49);have hB:Bk W.heap.size lo x.kids (.slice A x.kids.length c) W:=Rd.weaken (λq hq=>⟨hq,by have:=hq.2;omega⟩) h;have hz:=Z.hb;have hs:=Z.sz;exact⟨_,rfl,by simp,(Z.below hb).only ⟨But.below hb hB,zab.new _ _ _⟩ (λ_ _ _ k q=>⟨Bk.ls (by omega) k q.1,Cn.ls (by omega) k q.2⟩)⟩
theorem St.lit2x (Z:St G b w t F st n W) {X lo lo1:Nat} {x x1:Nd} {A A1:Option Addr} {c c1:Nat} (h:Bk X lo x.kids (.slice A x.kids.length c) W) (h1:Rk lo1 x1.kids (.slice A1 x1.kids.length c1) W) (hw:w.heap.size<=lo) (hl:lo<=lo1) (hX1:X<lo1) (hlo:lo<=W.heap.size) (hX:X<W.heap.size) :
 ∃V,W.alloc (.cells #[.int .i64 x.kind,.string x.text,.int .i64 x.n,.int .i64 x.at',.slice A x.kids.length c,.int .i64 x1.kind,.string x1.text,.int .i64 x1.n,.int .i64 x1.at',.slice A1 x1.kids.length c1] 49)=V/\W.heap.size+1<=V.heap.size/\St G b w t (λU=>Bk X lo [x,x1] (.slice (some ⟨W.heap.size,0,none⟩) 2 2) U/\F U) st n V:=
 ⟨_,rfl,by simp,(Z.below ((Below.refl W.heap.size W).alloc (Nat.le_refl _) _)).add (zqL [⟨x,A,c⟩,⟨x1,A1,c1⟩] hlo hX (λy hy=>by simp only[List.mem_cons,List.not_mem_nil,or_false] at hy;rcases hy with rfl|rfl<;>first|exact h|exact But.of hl hX1 h1) (by simp)) (λ_ _ _ k q=>Bk.ls (Nat.lt_of_lt_of_le Z.hb hw) k q)⟩
theorem St.lit1x (Z:St G b w t F st n W) {X lo:Nat} {x:Nd} {A:Option Addr} {c:Nat} (h:Bk X lo x.kids (.slice A x.kids.length c) W) (hw:w.heap.size<=lo) (hlo:lo<=W.heap.size) (hX:X<W.heap.size) :
 (W.alloc (.cells #[.int .i64 x.kind,.string x.text,.int .i64 x.n,.int .i64 x.at',.slice A x.kids.length c] 49)).heap.size=W.heap.size+1/\St G b w t (λU=>Bk X lo [x] (.slice (some ⟨W.heap.size,0,none⟩) 1 1) U/\F U) st n (W.alloc (.cells #[.int .i64 x.kind,.string x.text,.int .i64 x.n,.int .i64 x.at',.slice A x.kids.length c] 49)):=
 ⟨by simp,(Z.below ((Below.refl W.heap.size W).alloc (Nat.le_refl _) _)).add (zqL [⟨x,A,c⟩] hlo hX (λy hy=>by simp only[List.mem_cons,List.not_mem_nil,or_false] at hy;subst hy;exact h) (by simp)) (λ_ _ _ k q=>Bk.ls (Nat.lt_of_lt_of_le Z.hb hw) k q)⟩
theorem St.fill (Z:St G b w t F st n W) {X lo:Nat} {u0 u1 u2 u3 u4:Value} (hC:Cn X u0 u1 u2 u3 u4 W) {l:List Nd} {A:Option Addr} {m c:Nat} (hB:Bk X lo l (.slice A m c) W) (hm:m=l.length) (hX:w.heap.size<X) (hlo:w.heap.size<=lo) {kd nn at':Int} {s:ByteArray} {V:World} (hW:(((((W.setCell ⟨X,0,none⟩ (.int .i64 kd)).setCell ⟨X,1,none⟩ (.string s)).setCell ⟨X,2,none⟩ (.int .i64 nn)).setCell ⟨X,3,none⟩ (.int .i64 at')).setCell ⟨X,4,none⟩ (.slice A m c))=V) :
 W.heap.size<=V.heap.size/\St G b w t (Nx X lo (.mk kd s nn at' l) A c) st n V:=by
 subst hm;have hb:=Z.hb;have hL:=Z.hl;have hc:=zdg W X (.int .i64 kd) (.string s) (.int .i64 nn) (.int .i64 at') (.slice A l.length c);have hcel:=zex (.int .i64 kd) (.string s) (.int .i64 nn) (.int .i64 at') (.slice A l.length c) hC;rw[hW] at hc hcel;exact⟨hc.size,Z.ps.keep hc (λk hk=>⟨by omega,by omega⟩),Chg.trans Z.own hc (λj hj=>.inr (by omega)),hb,hL,Z.nx,λe=>zab.keep (Z.bx e) hc (by omega),⟨(hc.rd (ok:=But lo X W) (λq hq=>⟨hq.1.2,hq.2⟩) hB).weaken (λq hq=>⟨⟨hq.1.1,Nat.lt_of_lt_of_le hq.1.2 hc.size⟩,hq.2⟩),hcel⟩,λ_ _ _ k q=>⟨Bk.ls (by omega) k q.1,Cn.ls (by omega) k q.2⟩⟩
end
section
variable (G:PG) (b k:Nat) (rec:NT->Ps->R Nd) (H:Recs G b k rec)
include H
theorem zrx (st:Ps) (hneed:16*(G.T.length-st.next)+0<k+1) (w:World) (h:PsAt G b w st) :
 Calls Tryz.prog 256 #[.pointer (some ⟨b,0,none⟩)] w (zaG G b QNd (armF G.T G.en rec k st) w):=by
 obtain⟨hbw,hlim,hlen,lw0,RR,hR,w0,hw0,sw0,Z⟩:=St.head h (armF G.T G.en rec k st);rw[hR];unfold armF at hR;have HF:=zz hR;clear h hR;go_enter Tryz.func256,Tryz.ntmps256;go_wp2_with fail;clear hw0;refine Z.pat (zhW G b k rec H _ st (Z.nd (m:=0) (by omega)) _ Z.ps) (zcr G.T G.en H.adv k _) HF (λ_ _ h k=>⟨rfl,zaf h k⟩) ?_;intro s1 n1 t1 A1 c1 w1 HF _ _ _ _ Z;dsimp only at HF;go_wp2_with fail;obtain⟨w2,hw,_,Z⟩:=Z.cnb (.int .i64 39) (.string s1) (.int .i64 0) (.int .i64 (zaC G.T G.en st)) (.slice A1 n1.length c1);rw[hw];clear hw;refine Z.ex (by simp) HF (λ_ _ h k=>⟨rfl,zaf h k⟩) ?_;intro w3 HF _ _ Z;obtain⟨_,_,_,_,_⟩:=Cn.c5 Z.fx.1;go_wp2_with fail;obtain⟨_,Z⟩:=Z.drw;have K:=Z.run H .expr 11 (by omega) trivial rfl;cases hx:rec .expr t1.adv with
 |error a=>
  rw[hx] at K
  go_region_dies
  all_goals exact Z.er K (λ_ k=>⟨rfl,zaf (her HF hx) k⟩)
 |ok p=>
  obtain⟨n4,t4⟩:=p;rw[hx] at K;replace HF:=hok HF hx;have gt4:t1.next+1+1<=t4.next:=H.next hx;clear hx
  go_region_law (first
   |(go_simp;go_at_call 246;refine Z.okr K ?_;intro A4 c4 w4 _ _ Z;obtain⟨_,_,_,_,_⟩:=Cn.c5 Z.fx.2.1;obtain⟨_,_,_,_,_⟩:=Cn.c5 (Cn.al Z.fx.2.1 (.cells #[.int .i64 n4.kind,.string n4.text,.int .i64 n4.n,.int .i64 n4.at',.slice A4 n4.kids.length c4] 49)))
   |(refine Z.stp_app (.inr rfl) Z.fx.2.2.1 Z.fx.2.1 Z.fx.1 rfl rfl rfl rfl (by omega) (by omega) (by omega) (by omega) (by omega) (by omega) (by omega) ?_;intro L9 A9 c9 w9 hL _ _ Z;rw[hL] at HF;clear hL;obtain⟨_,_,_,_,_⟩:=Cn.c5 Z.fx.2;obtain⟨_,v9,hv,_,Z⟩:=Z.set4x (by omega) (by omega) (.slice A9 L9.length c9);obtain⟨_,_,_,_,_⟩:=Cn.c5 Z.fx.2)
   |(refine Z.stp_app (.inl rfl) Z.fx.2.2.1 Z.fx.2.1 Z.fx.1 rfl rfl rfl rfl (by omega) (by omega) (by omega) (by omega) (by omega) (by omega) (by omega) ?_;intro L9 A9 c9 w9 hL _ _ Z;rw[hL] at HF;clear hL;obtain⟨_,_,_,_,_⟩:=Cn.c5 Z.fx.2;obtain⟨_,v9,hv,_,Z⟩:=Z.set4x (by omega) (by omega) (.slice A9 L9.length c9);obtain⟨_,_,_,_,_⟩:=Cn.c5 Z.fx.2))
  all_goals
   obtain⟨⟨_,_,_,_,_⟩,_⟩:=Z.bx5;go_wp2;exact Z.fin HF (Ox.rk Z.fx.1) (by omega) rfl rfl rfl rfl
theorem zqf (st:Ps) (hneed:16*(G.T.length-st.next)+0<k+1) (w:World) (h:PsAt G b w st) :
 Calls Tryz.prog 280 #[.pointer (some ⟨b,0,none⟩)] w (zaG G b QNd (zpG G.T G.en rec k st) w):=by
 obtain⟨hbw,hlim,hlen,lw0,RR,hR,w0,hw0,sw0,Z⟩:=St.head h (zpG G.T G.en rec k st);rw[hR];unfold zpG at hR;have HF:=zz hR;clear h hR;go_enter Tryz.func280,Tryz.ntmps280;go_wp2_with fail;clear hw0;refine Z.pat (zhW G b k rec H _ st (Z.nd (m:=0) (by omega)) _ Z.ps) (zcr G.T G.en H.adv k _) HF (λ_ _ h k=>⟨rfl,zaf h k⟩) ?_;intro s1 n1 t1 A1 c1 w1 HF _ _ _ _ Z;dsimp only at HF;go_wp2_with fail;obtain⟨w2,hw,_,Z⟩:=Z.cnb (.int .i64 54) (.string s1) (.int .i64 0) (.int .i64 (zaC G.T G.en st)) (.slice A1 n1.length c1);rw[hw];clear hw;obtain⟨_,_,_,_,_⟩:=Cn.c5 Z.fx.1;obtain⟨_,Z⟩:=Z.drw;have K:=Z.run H .block 0 (by omega) trivial rfl;cases hx:rec .block t1 with
 |error a=>
  rw[hx] at K
  go_region_dies
  all_goals exact Z.er K (λ_ k=>⟨rfl,zaf (her HF hx) k⟩)
 |ok p=>
  obtain⟨n3,t3⟩:=p;rw[hx] at K;replace HF:=hok HF hx;have gt3:t1.next+1<=t3.next:=H.next hx;clear hx
  go_region_law (first
   |(go_simp;go_at_call 247;refine Z.okr K ?_;intro A3 c3 w3 _ _ Z;obtain⟨_,_,_,_,_⟩:=Cn.c5 Z.fx.2.1;obtain⟨_,_,_,_,_⟩:=Cn.c5 (Cn.al Z.fx.2.1 (.cells #[.int .i64 n3.kind,.string n3.text,.int .i64 n3.n,.int .i64 n3.at',.slice A3 n3.kids.length c3] 49)))
   |(refine Z.stp_app (.inr rfl) Z.fx.2.2.1 Z.fx.2.1 Z.fx.1 rfl rfl rfl rfl (by omega) (by omega) (by omega) (by omega) (by omega) (by omega) (by omega) ?_;intro L9 A9 c9 w9 hL _ _ Z;rw[hL] at HF;clear hL;obtain⟨_,_,_,_,_⟩:=Cn.c5 Z.fx.2;obtain⟨_,v9,hv,_,Z⟩:=Z.set4x (by omega) (by omega) (.slice A9 L9.length c9);obtain⟨_,_,_,_,_⟩:=Cn.c5 Z.fx.2)
   |(refine Z.stp_app (.inl rfl) Z.fx.2.2.1 Z.fx.2.1 Z.fx.1 rfl rfl rfl rfl (by omega) (by omega) (by omega) (by omega) (by omega) (by omega) (by omega) ?_;intro L9 A9 c9 w9 hL _ _ Z;rw[hL] at HF;clear hL;obtain⟨_,_,_,_,_⟩:=Cn.c5 Z.fx.2;obtain⟨_,v9,hv,_,Z⟩:=Z.set4x (by omega) (by omega) (.slice A9 L9.length c9);obtain⟨_,_,_,_,_⟩:=Cn.c5 Z.fx.2))
  all_goals
   obtain⟨⟨_,_,_,_,_⟩,_⟩:=Z.bx5;go_wp2;exact Z.fin HF (Ox.rk Z.fx.1) (by omega) rfl rfl rfl rfl
end
section
variable (G:PG) (b k:Nat) (rec:NT->Ps->R Nd) (H:Recs G b k rec)
include H
theorem zkq (at' a:Int) (sb:ByteArray) (st:Ps) (hneed:16*(G.T.length-st.next)<k+5) (wo:World) (h0:PsAt G b wo st) :
 Calls Tryz.prog 271 #[.pointer (some ⟨b,0,none⟩),.int .i64 at',.agg #[.int .i64 40,.string sb,.int .i64 0,.int .i64 a,.slice none 0 0]] wo (zaG G b QNd (zgG G.T G.en rec k at' (.mk 40 sb 0 a []) st) wo):=by
 have hb0:=(Below.refl wo.heap.size wo).alloc (Nat.le_refl _) (.cells #[.int .i64 40,.string sb,.int .i64 0,.int .i64 a,.slice none 0 0] 49);have hx0:Cn wo.heap.size (.int .i64 40) (.string sb) (.int .i64 0) (.int .i64 a) (.slice none 0 0) _:=zab.new wo #[.int .i64 40,.string sb,.int .i64 0,.int .i64 a,.slice none 0 0] 49;have sw:wo.heap.size+1<=(wo.alloc (.cells #[.int .i64 40,.string sb,.int .i64 0,.int .i64 a,.slice none 0 0] 49)).heap.size:=by simp
 have hbo0:=h0.lt;obtain⟨w,hwo⟩:∃W,wo.alloc (.cells #[.int .i64 40,.string sb,.int .i64 0,.int .i64 a,.slice none 0 0] 49)=W:=⟨_,rfl⟩;rw[hwo] at hb0 hx0 sw;have h:=h0.below hb0;refine Calls.mono (R:=zaG G b QNd (zgG G.T G.en rec k at' (.mk 40 sb 0 a []) st) w) ?_ (λe W hq=>hq.lift hb0);clear h0 hb0;obtain⟨hbw,hlim,hlen,lw0,RR,hR,w0,hw0,sw0,Z⟩:=St.head h (zgG G.T G.en rec k at' (.mk 40 sb 0 a []) st);rw[hR];unfold zgG at hR;have HF:=zz hR;replace Z:=Z.add (F':=Cn wo.heap.size (.int .i64 40) (.string sb) (.int .i64 0) (.int .i64 a) (.slice none 0 0)) (hw0▸Cn.al hx0 _) (λ_ _ _ k=>Cn.ls (by omega) k);clear h hR hx0;go_enter Tryz.func271,Tryz.ntmps271;go_wp2_with fail;clear hw0 hwo;refine Z.ex (by simp) HF (λ_ _ h k=>⟨rfl,zaf h k⟩) ?_;intro w1 HF _ _ Z;go_wp2_with fail;refine Z.upper HF (λ_ _ h k=>⟨rfl,zaf h k⟩) ?_;intro w2 HF _ _ Z;obtain⟨_,_,_,_,_⟩:=Cn.c5 Z.fx.1;go_wp2_with fail;obtain⟨sdA,ZA⟩:=Z.litd (Nd.mk 40 sb 0 a []) none 0 (Bk.nl wo.heap.size w2.heap.size 40 0 a sb w2) (by omega) (by omega) (by omega);obtain⟨sdB,ZB⟩:=Z.drw;obtain⟨_,_,_,_,_⟩:=Cn.c5 ZB.fx.1;have KC:=zz (λW h=>zdk G b k rec H st.adv.adv (show 16*(G.T.length-(st.next+1+1))<k+5 by omega) W h);cases hx:zbI G.T G.en rec k st.adv.adv with
 |error a=>
  simp only[hx] at KC
  go_region_dies
  all_goals first|exact ZA.er (KC.out _ ZA.ps) (λ_ k=>⟨rfl,zaf (her HF hx) k⟩)|exact ZB.er (KC.out _ ZB.ps) (λ_ k=>⟨rfl,zaf (her HF hx) k⟩)
 |ok p=>
  obtain⟨m,t3⟩:=p;simp only[hx] at KC;replace HF:=hok HF hx;have gt:st.next+1+1+1<=t3.next:=zaU G.T G.en H.adv k st.adv.adv _ _ hx;clear hx
  go_region_law (first
   |(go_simp;go_at_call 219;refine ZA.okn (KC.out _ ZA.ps) ?_;intro AA cA wA hlm _ _ ZA;have SA:=zqV (lo':=w2.heap.size) (g:=w2.heap.size) ZA.fx.1.1 (by omega) (by omega))
   |(go_simp;go_at_call 219;refine ZB.okn (KC.out _ ZB.ps) ?_;intro AB cB wB hlm _ _ ZB;obtain⟨_,_,_,_,_⟩:=Cn.c5 ZB.fx.2.1;obtain⟨slB,SB,ZC⟩:=ZB.litm (Nd.mk 40 sb 0 a []) none 0 ZB.fx.1 (Bk.nl wo.heap.size w2.heap.size 40 0 a sb wB) (by omega) (by omega) (by omega))
   |(refine ZA.stp_apps (.inl rfl) ZA.fx.2.1 ZA.fx.2.2.1 SA rfl rfl rfl rfl rfl (by omega) (by omega) (by omega) (by omega) (by omega) (Nat.le_trans (Nat.add_le_add_left hlm 1) (by decide)) ?_;intro LL A9 c9 w9 hL zL _ Z;replace zL:LL.length<=1+m.length:=zL;rw[hL] at HF;clear hL)
   |(refine ZC.stp_apps (.inr rfl) ZC.fx.1 ZC.fx.2.2.1 SB rfl rfl rfl rfl rfl (by omega) (by omega) (by omega) (by omega) (by omega) (Nat.le_trans (Nat.add_le_add_left hlm 1) (by decide)) ?_;intro LL A9 c9 w9 hL zL _ Z;replace zL:LL.length<=1+m.length:=zL;rw[hL] at HF;clear hL)
   |(refine ZC.stp_apps (.inl rfl) ZC.fx.1 ZC.fx.2.2.1 SB rfl rfl rfl rfl rfl (by omega) (by omega) (by omega) (by omega) (by omega) (Nat.le_trans (Nat.add_le_add_left hlm 1) (by decide)) ?_;intro LL A9 c9 w9 hL zL _ Z;replace zL:LL.length<=1+m.length:=zL;rw[hL] at HF;clear hL))
  all_goals (
   replace Z:=Z.row ⟨Z.fx.1.1.owned,Z.fx.1.2⟩ (by omega);go_wp2_with fail;refine Z.acc (by simp) HF rfl ?_ ?_
   ·intro w3 HF _ _ Z;go_wp2_with fail;refine Z.nt H .expr 11 HF (by omega) trivial rfl (λ_ _ h k=>⟨rfl,zaf h k⟩) ?_;intro n4 t4 A4 c4 w4 HF _ _ _ Z;go_wp2_with (at_builtin;refine Z.wp_app Z.fx.2 Z.fx.1 rfl rfl rfl rfl (by omega) (by omega) (λ_=>by omega) (by omega) (by omega) (by omega) ?_);intro L5 A5 c5 w5 hL _ _ Z;rw[hL] at HF;clear hL;go_wp2_with fail;refine Z.node ?_;intro w6 _ Z;obtain⟨⟨_,_,_,_,_⟩,_⟩:=Z.bx5;go_wp2;exact Z.fin HF (Ow.rk Z.fx) (by omega) rfl rfl rfl rfl
   ·intro w3 HF _ Z;go_wp2_with fail;refine Z.node ?_;intro w4 _ Z;obtain⟨⟨_,_,_,_,_⟩,_⟩:=Z.bx5;go_wp2;exact Z.fin HF (Ow.rk Z.fx) (by omega) rfl rfl rfl rfl)
theorem zsc (st:Ps) (hneed:16*(G.T.length-st.next)+0<k+1) (w:World) (h:PsAt G b w st) :
 Calls Tryz.prog 270 #[.pointer (some ⟨b,0,none⟩)] w (zaG G b QNd (letF G.T G.en rec k st) w):=by
 obtain⟨hbw,hlim,hlen,lw0,RR,hR,w0,hw0,sw0,Z⟩:=St.head h (letF G.T G.en rec k st);rw[hR];unfold letF at hR;have HF:=zz hR;clear h hR;go_enter Tryz.func270,Tryz.ntmps270;go_wp2_with fail;clear hw0;refine Z.off ?_;intro w1 _ Z;go_wp2_with fail;refine Z.ex (by simp) HF (λ_ _ h k=>⟨rfl,zaf h k⟩) ?_;intro w2 HF _ _ Z;go_wp2_with fail;refine Z.off ?_;intro w3 _ Z;go_wp2_with fail;refine Z.lower HF (λ_ _ h k=>⟨rfl,zaf h k⟩) ?_;intro w4 HF _ _ Z;go_wp2_with fail;refine Z.ex (by simp) HF (λ_ _ h k=>⟨rfl,zaf h k⟩) ?_;intro w5 HF _ _ Z;go_wp2_with fail
 by_cases hw1:zao G.T st.adv.adv.adv=(⟨#[115,112,97,119,110]⟩:ByteArray)
 ·replace HF:=zgo (hpos HF hw1);refine Z.wd hw1 ?_;intro w6 _ Z;clear hw1;go_wp2_with fail;refine Z.node ?_;intro w7 _ Z;go_wp2_with fail;refine Z.gn (zkq G b k rec H _ _ _ _ (Z.nd0 (by omega)) _ Z.ps) (zcs G.T G.en H.adv k _ _ _) HF (λ_ _ h k=>⟨rfl,zaf h k⟩) ?_;intro n8 t8 A8 c8 w8 HF _ _ _ Z;obtain⟨⟨_,_,_,_,_⟩,_⟩:=Z.bx5;go_wp2;exact Z.finx HF Z.fx.1 (by omega) rfl rfl rfl
 ·replace HF:=hneg HF hw1;have ew:=zam hw1;refine Z.wd rfl ?_;intro w6 _ Z;go_wp2_with fail;clear ew hw1;refine Z.nt H .expr 11 HF (by omega) trivial rfl (λ_ _ h k=>⟨rfl,zaf h k⟩) ?_;intro n7 t7 A7 c7 w7 HF _ _ _ Z;go_wp2_with fail;obtain⟨w8,hw,_,Z⟩:=Z.lit1 Z.fx.1 (by omega) (by omega);rw[hw];clear hw;refine Z.node ?_;intro w9 _ Z;obtain⟨⟨_,_,_,_,_⟩,_⟩:=Z.bx5;go_wp2;exact Z.fin HF Z.fx.1 (by omega) rfl rfl rfl rfl
theorem zoY (st:Ps) (hneed:16*(G.T.length-st.next)+1<k+1) (w:World) (h:PsAt G b w st) :
 Calls Tryz.prog 258 #[.pointer (some ⟨b,0,none⟩)] w (zaG G b QNd (zra G.T G.en rec k st) w):=by
 obtain⟨hbw,hlim,hlen,lw0,RR,hR,w0,hw0,sw0,Z⟩:=St.head h (zra G.T G.en rec k st);rw[hR];unfold zra at hR;have HF:=zz hR;clear h hR;go_enter Tryz.func258,Tryz.ntmps258;go_wp2_with fail;clear hw0;refine Z.off ?_;intro w1 _ Z;go_wp2_with fail
 by_cases hb1_0:zao G.T st=(⟨#[108,101,116]⟩:ByteArray)
 ·have hm:=Z.more (by rw[hb1_0];simp);replace HF:=hpos HF hb1_0;refine Z.wd hb1_0 ?_;intro w2 _ Z;clear hb1_0;go_wp2_with fail;replace HF:=zgo HF;refine Z.nt H .letS 0 HF (by omega) trivial rfl (λ_ _ h k=>⟨rfl,zaf h k⟩) ?_;intro n3 t3 A3 c3 w3 HF _ _ _ Z;obtain⟨⟨_,_,_,_,_⟩,_⟩:=Z.bx5;go_wp2;exact Z.finx HF Z.fx.1 (by omega) rfl rfl rfl
 ·replace HF:=hneg HF hb1_0
  by_cases hb1_1:zao G.T st=(⟨#[115,112,97,119,110]⟩:ByteArray)
  ·have hm:=Z.more (by rw[hb1_1];simp);replace HF:=hpos HF hb1_1;refine Z.wd hb1_1 ?_;intro w2 _ Z;clear hb1_1;replace HF:=zgo HF;go_wp2_with fail;refine Z.node ?_;intro w3 _ Z;go_wp2_with fail;refine Z.gn (zkq G b k rec H _ _ _ _ (Z.nd0 (by omega)) _ Z.ps) (zcs G.T G.en H.adv k _ _ _) HF (λ_ _ h k=>⟨rfl,zaf h k⟩) ?_;intro n4 t4 A4 c4 w4 HF _ _ _ Z;obtain⟨⟨_,_,_,_,_⟩,_⟩:=Z.bx5;go_wp2;exact Z.finx HF Z.fx.1 (by omega) rfl rfl rfl
  ·replace HF:=hneg HF hb1_1
   by_cases hb1_2:zao G.T st=(⟨#[105,102]⟩:ByteArray)
   ·have hm:=Z.more (by rw[hb1_2];simp);replace HF:=hpos HF hb1_2;refine Z.wd hb1_2 ?_;intro w2 _ Z;clear hb1_2;go_wp2_with fail;replace HF:=zgo HF;refine Z.nt H .branch 0 HF (by omega) trivial rfl (λ_ _ h k=>⟨rfl,zaf h k⟩) ?_;intro n3 t3 A3 c3 w3 HF _ _ _ Z;obtain⟨⟨_,_,_,_,_⟩,_⟩:=Z.bx5;go_wp2;exact Z.finx HF Z.fx.1 (by omega) rfl rfl rfl
   ·replace HF:=hneg HF hb1_2
    by_cases hb1_3:zao G.T st=(⟨#[109,97,116,99,104]⟩:ByteArray)
    ·have hm:=Z.more (by rw[hb1_3];simp);replace HF:=hpos HF hb1_3;refine Z.wd hb1_3 ?_;intro w2 _ Z;clear hb1_3;go_wp2_with fail;replace HF:=zgo HF;refine Z.nt H .cases 0 HF (by omega) trivial rfl (λ_ _ h k=>⟨rfl,zaf h k⟩) ?_;intro n3 t3 A3 c3 w3 HF _ _ _ Z;obtain⟨⟨_,_,_,_,_⟩,_⟩:=Z.bx5;go_wp2;exact Z.finx HF Z.fx.1 (by omega) rfl rfl rfl
    ·replace HF:=hneg HF hb1_3
     by_cases hb1_4:zao G.T st=(⟨#[102,111,114]⟩:ByteArray)
     ·have hm:=Z.more (by rw[hb1_4];simp);replace HF:=hpos HF hb1_4;refine Z.wd hb1_4 ?_;intro w2 _ Z;clear hb1_4;obtain⟨_,_,hwr,w3,hw3,_,Z⟩:=Z.adv1 (by omega);go_wp2_with fail;clear hw3 hwr;refine Z.lower HF (λ_ _ h k=>⟨rfl,zaf h k⟩) ?_;intro w4 HF _ _ Z;go_wp2_with fail;refine Z.ex (by simp) HF (λ_ _ h k=>⟨rfl,zaf h k⟩) ?_;intro w5 HF _ _ Z;go_wp2_with fail;refine Z.nt H .heading 12 HF (by omega) trivial rfl (λ_ _ h k=>⟨rfl,zaf h k⟩) ?_;intro n6 t6 A6 c6 w6 HF _ _ _ Z;obtain⟨w7,hw,_,Z⟩:=Z.ndb n6 A6 c6;go_wp2_with fail;clear hw;obtain⟨_,_,_,_,_⟩:=Cn.c5 Z.fx.1;obtain⟨_,Z⟩:=Z.drw;have K:=Z.run H .block 0 (by omega) trivial rfl;cases hx:rec .block t6 with
      |error a=>
       rw[hx] at K
       go_region_dies
       all_goals exact Z.er K (λ_ k=>⟨rfl,zaf (her HF hx) k⟩)
      |ok p=>
       obtain⟨n8,t8⟩:=p;rw[hx] at K;replace HF:=hok HF hx;have gt8:t6.next+1<=t8.next:=H.next hx;clear hx
       go_region_held3 (λw'=>w'.cell? ⟨w6.heap.size,0,none⟩=some (.int .i64 n6.kind)/\w'.cell? ⟨w6.heap.size,1,none⟩=some (.string n6.text)/\w'.cell? ⟨w6.heap.size,2,none⟩=some (.int .i64 n6.n)/\w'.cell? ⟨w6.heap.size,3,none⟩=some (.int .i64 n6.at')/\w'.cell? ⟨w6.heap.size,4,none⟩=some (.slice A6 n6.kids.length c6))
        (first|go_keep|(refine⟨?_,?_,?_,?_,?_⟩<;>(rw[zeb (by omega)];assumption)))
        (first
         |(go_at_call 247;go_loud (refine Z.okr K ?_;intro A8 c8 w8 _ _ Z;obtain⟨_,_,_,_,_⟩:=Cn.c5 Z.fx.2.1))
         |(go_at_call 169;go_loud (obtain⟨w9,hw,_,Z⟩:=Z.lit2 Z.fx.2.2.1 Z.fx.1 (by omega) (by omega) (by omega);rw[hw];clear hw;refine Z.node ?_;intro w10 _ Z;obtain⟨⟨_,_,_,_,_⟩,_⟩:=Z.bx5;obtain⟨_,_,_,_,_⟩:=Cn.c5 Z.fx.2.2.1)))
       go_wp2;exact Z.fin HF Z.fx.1 (by omega) rfl rfl rfl rfl
     ·replace HF:=hneg HF hb1_4
      by_cases hb1_5:zao G.T st=(⟨#[115,101,110,100]⟩:ByteArray)
      ·have hm:=Z.more (by rw[hb1_5];simp);replace HF:=hpos HF hb1_5;refine Z.wd hb1_5 ?_;intro w2 _ Z;clear hb1_5;go_wp2_with fail;replace HF:=zgo HF;refine Z.nt H .send 0 HF (by omega) trivial rfl (λ_ _ h k=>⟨rfl,zaf h k⟩) ?_;intro n3 t3 A3 c3 w3 HF _ _ _ Z;obtain⟨⟨_,_,_,_,_⟩,_⟩:=Z.bx5;go_wp2;exact Z.finx HF Z.fx.1 (by omega) rfl rfl rfl
      ·replace HF:=hneg HF hb1_5
       by_cases hb1_6:zao G.T st=(⟨#[97,102,116,101,114]⟩:ByteArray)
       ·have hm:=Z.more (by rw[hb1_6];simp);replace HF:=hpos HF hb1_6;refine Z.wd hb1_6 ?_;intro w2 _ Z;clear hb1_6;obtain⟨_,_,hwr,w3,hw3,_,Z⟩:=Z.adv1 (by omega);go_wp2_with fail;clear hw3 hwr;refine Z.nt H .expr 11 HF (by omega) trivial rfl (λ_ _ h k=>⟨rfl,zaf h k⟩) ?_;intro n4 t4 A4 c4 w4 HF _ _ _ Z;obtain⟨w5,hw,_,Z⟩:=Z.ndb n4 A4 c4;go_wp2_with fail;clear hw;obtain⟨_,_,_,_,_⟩:=Cn.c5 Z.fx.1;obtain⟨_,Z⟩:=Z.drw;have K:=Z.run H .send 0 (by omega) trivial rfl;cases hx:rec .send t4 with
        |error a=>
         rw[hx] at K
         go_region_dies
         all_goals exact Z.er K (λ_ k=>⟨rfl,zaf (her HF hx) k⟩)
        |ok p=>
         obtain⟨n6,t6⟩:=p;rw[hx] at K;replace HF:=hok HF hx;have gt6:t4.next+1<=t6.next:=H.next hx;clear hx
         go_region_held3 (λw'=>w'.cell? ⟨w4.heap.size,0,none⟩=some (.int .i64 n4.kind)/\w'.cell? ⟨w4.heap.size,1,none⟩=some (.string n4.text)/\w'.cell? ⟨w4.heap.size,2,none⟩=some (.int .i64 n4.n)/\w'.cell? ⟨w4.heap.size,3,none⟩=some (.int .i64 n4.at')/\w'.cell? ⟨w4.heap.size,4,none⟩=some (.slice A4 n4.kids.length c4))
          (first|go_keep|(refine⟨?_,?_,?_,?_,?_⟩<;>(rw[zeb (by omega)];assumption)))
          (first
           |(go_at_call 274;go_loud (refine Z.okr K ?_;intro A6 c6 w6 _ _ Z;obtain⟨_,_,_,_,_⟩:=Cn.c5 Z.fx.2.1))
           |(go_at_call 169;go_loud (obtain⟨w7,hw,_,Z⟩:=Z.lit2 Z.fx.2.2.1 Z.fx.1 (by omega) (by omega) (by omega);rw[hw];clear hw;refine Z.node ?_;intro w8 _ Z;obtain⟨⟨_,_,_,_,_⟩,_⟩:=Z.bx5;obtain⟨_,_,_,_,_⟩:=Cn.c5 Z.fx.2.2.1)))
         go_wp2;exact Z.fin HF Z.fx.1 (by omega) rfl rfl rfl rfl
       ·replace HF:=hneg HF hb1_6
        by_cases hb1_7:zao G.T st=(⟨#[100,111]⟩:ByteArray)
        ·have hm:=Z.more (by rw[hb1_7];simp);replace HF:=hpos HF hb1_7;refine Z.wd hb1_7 ?_;intro w2 _ Z;clear hb1_7;go_wp2_with fail;replace HF:=zgo HF;refine Z.nt H .doS 0 HF (by omega) trivial rfl (λ_ _ h k=>⟨rfl,zaf h k⟩) ?_;intro n3 t3 A3 c3 w3 HF _ _ _ Z;obtain⟨⟨_,_,_,_,_⟩,_⟩:=Z.bx5;go_wp2;exact Z.finx HF Z.fx.1 (by omega) rfl rfl rfl
        ·replace HF:=hneg HF hb1_7
         by_cases hb1_8:zao G.T st=(⟨#[115,116,111,112]⟩:ByteArray)
         ·have hm:=Z.more (by rw[hb1_8];simp);replace HF:=hpos HF hb1_8;refine Z.wd hb1_8 ?_;intro w2 _ Z;clear hb1_8;obtain⟨_,_,hwr,w3,hw3,_,Z⟩:=Z.adv1 (by omega);go_wp2_with fail;clear hw3 hwr;refine Z.node ?_;intro w4 _ Z;obtain⟨⟨_,_,_,_,_⟩,_⟩:=Z.bx5;go_wp2;exact Z.fin0 HF rfl rfl rfl
         ·replace HF:=hneg HF hb1_8
          by_cases hb1_9:zao G.T st=(⟨#[102,97,105,108]⟩:ByteArray)
          ·have hm:=Z.more (by rw[hb1_9];simp);replace HF:=hpos HF hb1_9;refine Z.wd hb1_9 ?_;intro w2 _ Z;clear hb1_9;obtain⟨_,_,hwr,w3,hw3,_,Z⟩:=Z.adv1 (by omega);go_wp2_with fail;clear hw3 hwr;refine Z.nt H .expr 11 HF (by omega) trivial rfl (λ_ _ h k=>⟨rfl,zaf h k⟩) ?_;intro n4 t4 A4 c4 w4 HF _ _ _ Z;go_wp2_with fail;obtain⟨w5,hw,_,Z⟩:=Z.lit1 Z.fx.1 (by omega) (by omega);rw[hw];clear hw;refine Z.node ?_;intro w6 _ Z;obtain⟨⟨_,_,_,_,_⟩,_⟩:=Z.bx5;go_wp2;exact Z.fin HF Z.fx.1 (by omega) rfl rfl rfl rfl
          ·replace HF:=hneg HF hb1_9;have ehb1_0:=zam hb1_0;have ehb1_1:=zam hb1_1;have ehb1_2:=zam hb1_2;have ehb1_3:=zam hb1_3;have ehb1_4:=zam hb1_4;have ehb1_5:=zam hb1_5;have ehb1_6:=zam hb1_6;have ehb1_7:=zam hb1_7;have ehb1_8:=zam hb1_8;have ehb1_9:=zam hb1_9;refine Z.wd rfl ?_;intro w2 _ Z;go_wp2_with fail;clear ehb1_0 ehb1_1 ehb1_2 ehb1_3 ehb1_4 ehb1_5 ehb1_6 ehb1_7 ehb1_8 ehb1_9 hb1_0 hb1_1 hb1_2 hb1_3 hb1_4 hb1_5 hb1_6 hb1_7 hb1_8 hb1_9;refine Z.lower HF (λ_ _ h k=>⟨rfl,zaf h k⟩) ?_;intro w3 HF _ _ Z;go_wp2_with fail;refine Z.ex (by simp) HF (λ_ _ h k=>⟨rfl,zaf h k⟩) ?_;intro w4 HF _ _ Z;go_wp2_with fail;refine Z.nt H .expr 11 HF (by omega) trivial rfl (λ_ _ h k=>⟨rfl,zaf h k⟩) ?_;intro n5 t5 A5 c5 w5 HF _ _ _ Z;go_wp2_with fail;obtain⟨w6,hw,_,Z⟩:=Z.lit1 Z.fx.1 (by omega) (by omega);rw[hw];clear hw;refine Z.node ?_;intro w7 _ Z;obtain⟨⟨_,_,_,_,_⟩,_⟩:=Z.bx5;go_wp2;exact Z.fin HF Z.fx.1 (by omega) rfl rfl rfl rfl
end
end Go.Proofs.YtcebmphappfjjaaGreatDoor
