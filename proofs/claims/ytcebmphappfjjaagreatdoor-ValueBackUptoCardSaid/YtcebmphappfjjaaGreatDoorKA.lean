/- Conditions: those in each statement. -/
import Derived.Test.YtcebmphappfjjaaGreatDoorRows
import Derived.Test.YtcebmphappfjjaaGreatDoorQ39
import Derived.Test.YtcebmphappfjjaaGreatDoorQ41
import Derived.ChangeArms
import Derived.Test.YtcebmphappfjjaaGreatDoorQ33
import Derived.Test.YtcebmphappfjjaaGreatDoorQ01
import Derived.Test.YtcebmphappfjjaaGreatDoorQ08
import Derived.Test.YtcebmphappfjjaaGreatDoorQ04
import Derived.Test.YtcebmphappfjjaaGreatDoorQ43
import Derived.Test.YtcebmphappfjjaaGreatDoorQ50
import Derived.Test.YtcebmphappfjjaaGreatDoorQ48
set_option maxHeartbeats 32000000
set_option maxRecDepth 100000
namespace Go.Proofs.YtcebmphappfjjaaGreatDoor
open Go.RowKit
theorem zyX {r:RS} {v:V} {r':RS} (hf:r.f=false) (hz:r.s.size<=4294967296) (h:zub r=some (v,r')):zwo r v r'/\zkS zbL v=true:=by
 unfold zub at h;cases h1:decS 16385 r 16384 with
 |none=>rw[h1] at h;cases h
 |some p=>
  obtain⟨x,r1,l1⟩:=p;rw[h1,Option.bind_some] at h;cases h2:zkS zbL x with
  |false=>rw[h2] at h;cases h
  |true=>
   rw[h2] at h;cases h;exact⟨zwd _ _ _ _ _ _ hf hz h1,h2⟩
theorem zzg {s:ByteArray} (h:(zeR s).2=true):zoQ (zeR s).1=s/\zfN (zeR s).1=true:=by
 unfold zeR at h ⊢
 split
 ·rename_i v q e;rw[e] at h;simp only at h
  split at h
  ·rename_i h1;rw[if_pos h1];simp only[Bool.and_eq_true,beq_iff_eq] at h1;exact⟨zbX h1.2,h1.1⟩
  ·cases h
 ·rename_i h1;cases h2:zmt (bl s) with
  |none=>rw[h2] at h;cases h
  |some p=>
   obtain⟨v,q,r⟩:=p;cases r with
   |nil=>exact absurd h2 (h1 v q)
   |cons c r=>rw[h2] at h;cases h
theorem zzl {s:ByteArray} (h:(zeR s).2=false):(zeR s).1=vZ:=by
 unfold zeR at h ⊢
 split
 ·rename_i v q e;rw[e] at h;simp only at h
  split at h
  ·cases h
  ·rename_i h1;rw[if_neg h1]
 ·rfl
end Go.Proofs.YtcebmphappfjjaaGreatDoor
set_option maxHeartbeats 32000000
set_option maxRecDepth 100000
namespace Go.Proofs.YtcebmphappfjjaaGreatDoor
open Go.RowKit
theorem zxr {α:Type} {p:Nat->α->Prop}:∀n:Nat,(∀i,i<n->∃a,p i a)->∃l:List α,l.length=n/\∀i a,l[i]?=some a->p i a
 |0,_=>⟨[],rfl,λi a h=>by simp at h⟩
 |n+1,h=>by
  obtain⟨l,h1,h2⟩:=zxr n (λi hi=>h i (by omega));obtain⟨a,ha⟩:=h n (by omega);refine⟨l++[a],by simp[h1],λi b hb=>?_⟩;rcases Nat.lt_or_ge i n with hi|hi
  ·rw[List.getElem?_append_left (by omega)] at hb;exact h2 i b hb
  ·rw[List.getElem?_append_right (by omega)] at hb;have hl:=(List.getElem?_eq_some_iff.1 hb).1;simp at hl;obtain rfl:i=n:=by omega
   rw[h1,Nat.sub_self] at hb;simp at hb;rw[<-hb];exact ha
theorem zxZ {α β:Type} (f:α->Nat) (g:β->Nat):∀(l:List α) (m:List β),l.length=m.length->(∀(i:Nat) (a:α) (b:β),l[i]?=some a->m[i]?=some b->f a<=g b)->(l.map f).sum<=(m.map g).sum
 |[],m,h,_=>by simp
 |a::l,[],h,_=>by simp at h
 |a::l,b::m,h,hf=>by
  have h1:=hf 0 a b rfl rfl;have h2:=zxZ f g l m (by simpa using h) (λi x y hx hy=>hf (i+1) x y (by simpa using hx) (by simpa using hy));simp only[List.map_cons,List.sum_cons];omega
theorem zvw {H:Type}:∀l:List (DataW H),Rows.uptoBulkAll l=(l.map Rows.uptoBulk).sum
 |[]=>by simp[Rows.uptoBulkAll]
 |d::r=>by simp[Rows.uptoBulkAll,zvw r]
section
variable {H:Type} {enc:TypeId × Value->H} {W:World}
theorem zxJ {a:Addr} {n:Nat} {cs:List Value} (h:W.cells? 0 a n=some cs):cs.length=n/\∀j u,cs[j]?=some u->W.cell? (a.add j)=some u:=by
 obtain⟨_,h1,h2⟩:=World.cells?_some h;refine⟨h1,λj u hj=>?_⟩;have hl:j<cs.length:=(List.getElem?_eq_some_iff.1 hj).1;rw[h2 j (by omega)];exact hj
theorem zxv {t e:TypeId} {k n:Nat} {cs:List Value} {x:DataW H × List MemPlace} (ht:Tryz.prog.underlying t=some (.slice e)) (hc:Tryz.prog.cellsOf e=k) (hk:0<k) {α:Type} (row:α->Nat->D) (rows:List α->Nat->Nat->D) (hrows:∀l i a,l[i]?=some a->rows l i=row a) (bulk:α->Nat) (Q:α->Prop)
 (helem:∀cs x,DataW.trod enc Tryz.prog W 0 (λ_=>true) true n e cs=some x->∃a:α,(∀j u,cs[j]?=some u->Rd (Lt W.heap.size) W (row a j) u)/\bulk a<=Rows.uptoBulk x.1/\Q a)
 (h:DataW.trod enc Tryz.prog W 0 (λ_=>true) true (n+1) t cs=some x) :
 ∃A c,∃l:List α,cs=[.slice A l.length c]/\Rd (Lt W.heap.size) W (.sl k l.length (rows l)) (.slice A l.length c)/\(l.map bulk).sum+1<=Rows.uptoBulk x.1/\∀a∈l,Q a:=by
 rcases DataW.trod_slice ht h with ⟨rfl,rfl⟩|⟨a,len,cap,elems,rest,m,hm,rfl,rfl,_,hl,hcm,hel,hat,_,_⟩
 ·exact⟨none,0,[],rfl,Rd.sl_nil,by simp[Rows.uptoBulk],λa ha=>absurd ha (by simp)⟩
 ·obtain rfl:n=m:=by omega
  rw[hc] at hat
  have each:∀i,i<len->∃b:α,(∀j,j<k->∃u,W.cell? ((a.add (i*k)).add j)=some u/\Rd (Lt W.heap.size) W (row b j) u)/\(∀y,elems[i]?=some y->bulk b<=Rows.uptoBulk y.1)/\Q b:=λi hi=>by
   have h1:=hat i hi;have hi2:elems[i]?=some elems[i]:=List.getElem?_eq_getElem (by omega);rw[hi2] at h1;obtain⟨cs',h2,h3⟩:=Option.bind_eq_some_iff.1 h1;obtain⟨hl2,hce⟩:=zxJ h2;obtain⟨b,hb1,hb2,hb3⟩:=helem cs' _ h3;refine⟨b,λj hj=>?_,λy hy=>?_,hb3⟩
   ·have hu:cs'[j]?=some (cs'[j]'(by omega)):=List.getElem?_eq_getElem (by omega);exact⟨_,hce j _ hu,hb1 j _ hu⟩
   ·rw[hi2] at hy;rw[<-Option.some.inj hy];exact hb2
  obtain⟨l,hll,hlp⟩:=zxr len each;subst hll;refine⟨some a,cap,l,rfl,?_,?_,λb hb=>?_⟩
  ·refine Rd.sl_mk hl (by unfold maxLen at hcm;exact hcm) λhpos=>?_;have h0:l[0]?=some l[0]:=List.getElem?_eq_getElem hpos;obtain⟨u,hu,_⟩:=(hlp 0 _ h0).1 0 hk;have ha0:(a.add (0*k)).add 0=a:=by simp[Addr.add]
   rw[ha0] at hu
   have hsp:a.spot=none:=by
    unfold World.cell? at hu
    split at hu
    ·split at hu
     ·cases hu
     ·rename_i h;simpa using h
    ·cases hu
   obtain⟨ab,ao,asp⟩:=a;have hsp:asp=none:=hsp;subst hsp;refine⟨ab,ao,rfl,World.block_lt_of_cell? W _ hu,λi hi j hj=>?_⟩;have hi2:l[i]?=some l[i]:=List.getElem?_eq_getElem hi;obtain⟨u,hu,hd⟩:=(hlp i _ hi2).1 j hj;rw[Addr.add_lit,Addr.add_lit] at hu;exact⟨u,hu,by rw[hrows l i _ hi2];exact hd⟩
  ·have:=zxZ bulk (λy:DataW H × List MemPlace=>Rows.uptoBulk y.1) l elems (by omega) (λi b y hb hy=>(hlp i b hb).2.1 y hy);simp only[Rows.uptoBulk,zvw,List.map_map];have h2:(elems.map (Rows.uptoBulk ∘ λy=>y.1)).sum=(elems.map λy:DataW H × List MemPlace=>Rows.uptoBulk y.1).sum:=rfl;rw[h2];omega
  ·obtain⟨i,hi⟩:=List.mem_iff_getElem?.1 hb;exact(hlp i b hi).2.2
theorem zuW {n:Int} (h:(Lit.int .i64 n).wf=true):-9223372036854775808<=n/\n<=9223372036854775807:=by
 simp[Lit.wf,IntKind.min,IntKind.max,IntKind.signed,IntKind.bits] at h;omega
theorem zwi:∀l:List V,zcl l=(l.map V.bulk).sum
 |[]=>rfl
 |v::r=>by rw[zbK,zwi r];rfl
theorem zya:∀l:List V,(∀v∈l,v.Wf)->WfV l
 |[],_=>by rw[WfV];trivial
 |v::r,h=>by rw[WfV];exact⟨h v List.mem_cons_self,zya r (λv hv=>h v (List.mem_cons_of_mem _ hv))⟩
theorem zvm {l:List Value} {k:Nat} {v:Value} (h:(l.drop k).take 1=[v]):l[k]?=some v:=by
 have:=congrArg (λm=>m[0]?) h
 simpa [List.getElem?_take,List.getElem?_drop] using this
theorem zwx:∀(N fuel:Nat),fuel<=N->∀(cs:List Value) (x:DataW H × List MemPlace),DataW.trod enc Tryz.prog W 0 (λ_=>true) true fuel 22 cs=some x->
 ∃A c,∃l:List V,cs=[.slice A l.length c]/\Rd (Lt W.heap.size) W (vs l) (.slice A l.length c)/\zcl l+1<=Rows.uptoBulk x.1/\WfV l:=by
 intro N
 induction N with
 |zero=>
  intro fuel hf cs x h;obtain rfl:fuel=0:=by omega
  simp[DataW.trod] at h
 |succ N ih=>
  intro fuel hf cs x h;cases fuel with
  |zero=>simp[DataW.trod] at h
  |succ n=>
   obtain⟨A,c,l,h1,h2,h3,h4⟩:=zxv (k:=6) Tryz.underlying22 (by kernel_rfl) (by omega) V.row zgZ zeU V.bulk V.Wf (λcs x hx=>by
    obtain⟨xs,m,hm,rfl,hlen,hxs,hfl⟩:=DataW.trod_struct Tryz.underlying24 hx;have g0:DataW.trod enc Tryz.prog W 0 (λ_=>true) true m 3 ((cs.drop 0).take (Tryz.prog.cellsOf 3))=xs[0]?:=hfl 0 _ rfl;have g1:DataW.trod enc Tryz.prog W 0 (λ_=>true) true m 9 ((cs.drop 1).take (Tryz.prog.cellsOf 9))=xs[1]?:=hfl 1 _ rfl;have g2:DataW.trod enc Tryz.prog W 0 (λ_=>true) true m 3 ((cs.drop 2).take (Tryz.prog.cellsOf 3))=xs[2]?:=hfl 2 _ rfl;have g3:DataW.trod enc Tryz.prog W 0 (λ_=>true) true m 3 ((cs.drop 3).take (Tryz.prog.cellsOf 3))=xs[3]?:=hfl 3 _ rfl;have g4:DataW.trod enc Tryz.prog W 0 (λ_=>true) true m 9 ((cs.drop 4).take (Tryz.prog.cellsOf 9))=xs[4]?:=hfl 4 _ rfl;have g5:DataW.trod enc Tryz.prog W 0 (λ_=>true) true m 22 ((cs.drop 5).take (Tryz.prog.cellsOf 22))=xs[5]?:=hfl 5 _ rfl;have hs:xs.length=6:=hxs
    obtain⟨x0,x1,x2,x3,x4,x5,rfl⟩:∃x0 x1 x2 x3 x4 x5,xs=[x0,x1,x2,x3,x4,x5]:=by
     match xs,hs with
     |[x0,x1,x2,x3,x4,x5],_=>exact⟨_,_,_,_,_,_,rfl⟩
    have cc3:Tryz.prog.cellsOf 3=1:=by kernel_rfl
    have cc9:Tryz.prog.cellsOf 9=1:=by kernel_rfl
    have cc30:Tryz.prog.cellsOf 22=1:=by kernel_rfl
    obtain⟨kd,e0,f0,w0⟩:=DataW.trod_int Tryz.underlying3 g0;obtain⟨t,e1,f1,_⟩:=DataW.trod_string Tryz.underlying9 g1;obtain⟨n',e2,f2,w2⟩:=DataW.trod_int Tryz.underlying3 g2;obtain⟨m',e3,f3,w3⟩:=DataW.trod_int Tryz.underlying3 g3;obtain⟨s,e4,f4,_⟩:=DataW.trod_string Tryz.underlying9 g4;obtain⟨A',c',l',e5,r5,b5,wf5⟩:=ih m (by omega) _ _ g5;rw[cc3] at e0 e2 e3;rw[cc9] at e1 e4;rw[cc30] at e5;have hlen:cs.length=6:=hlen.trans (by kernel_rfl);refine⟨.mk kd t n' m' s l',λj u hj=>?_,?_,?_⟩
    ·refine zpU r5 j u ?_;rw[<-hj]
     match j with
     |0=>exact(zvm e0).symm
     |1=>exact(zvm e1).symm
     |2=>exact(zvm e2).symm
     |3=>exact(zvm e3).symm
     |4=>exact(zvm e4).symm
     |5=>exact(zvm e5).symm
     |j+6=>rw[List.getElem?_eq_none (by simp),List.getElem?_eq_none (by omega)]
    ·rw[zbv];subst f0 f1 f2 f3 f4;simp only[List.map_cons,List.map_nil,Rows.uptoBulk,Rows.uptoBulkAll];simp only[zai];omega
    ·rw[V.Wf];exact⟨zuW w0,zuW w2,zuW w3,wf5⟩) h
   exact⟨A,c,l,h1,h2,by rw[zwi];exact h3,zya l h4⟩
theorem zvi (fuel:Nat) (cs:List Value) (x:DataW H × List MemPlace) (hx:DataW.trod enc Tryz.prog W 0 (λ_=>true) true fuel 24 cs=some x) :
 ∃v:V,∃A c,cs=[.int .i64 v.kind,.string v.t,.int .i64 v.n,.int .i64 v.m,.string v.s,.slice A v.l.length c]/\Rd (Lt W.heap.size) W (vs v.l) (.slice A v.l.length c)/\v.bulk<=Rows.uptoBulk x.1/\v.Wf:=by
 obtain⟨xs,m,hm,rfl,hlen,hxs,hfl⟩:=DataW.trod_struct Tryz.underlying24 hx;have g0:DataW.trod enc Tryz.prog W 0 (λ_=>true) true m 3 ((cs.drop 0).take (Tryz.prog.cellsOf 3))=xs[0]?:=hfl 0 _ rfl;have g1:DataW.trod enc Tryz.prog W 0 (λ_=>true) true m 9 ((cs.drop 1).take (Tryz.prog.cellsOf 9))=xs[1]?:=hfl 1 _ rfl;have g2:DataW.trod enc Tryz.prog W 0 (λ_=>true) true m 3 ((cs.drop 2).take (Tryz.prog.cellsOf 3))=xs[2]?:=hfl 2 _ rfl;have g3:DataW.trod enc Tryz.prog W 0 (λ_=>true) true m 3 ((cs.drop 3).take (Tryz.prog.cellsOf 3))=xs[3]?:=hfl 3 _ rfl;have g4:DataW.trod enc Tryz.prog W 0 (λ_=>true) true m 9 ((cs.drop 4).take (Tryz.prog.cellsOf 9))=xs[4]?:=hfl 4 _ rfl;have g5:DataW.trod enc Tryz.prog W 0 (λ_=>true) true m 22 ((cs.drop 5).take (Tryz.prog.cellsOf 22))=xs[5]?:=hfl 5 _ rfl;have hs:xs.length=6:=hxs
 obtain⟨x0,x1,x2,x3,x4,x5,rfl⟩:∃x0 x1 x2 x3 x4 x5,xs=[x0,x1,x2,x3,x4,x5]:=by
  match xs,hs with
  |[x0,x1,x2,x3,x4,x5],_=>exact⟨_,_,_,_,_,_,rfl⟩
 have cc3:Tryz.prog.cellsOf 3=1:=by kernel_rfl
 have cc9:Tryz.prog.cellsOf 9=1:=by kernel_rfl
 have cc30:Tryz.prog.cellsOf 22=1:=by kernel_rfl
 obtain⟨kd,e0,f0,w0⟩:=DataW.trod_int Tryz.underlying3 g0;obtain⟨t,e1,f1,_⟩:=DataW.trod_string Tryz.underlying9 g1;obtain⟨n',e2,f2,w2⟩:=DataW.trod_int Tryz.underlying3 g2;obtain⟨m',e3,f3,w3⟩:=DataW.trod_int Tryz.underlying3 g3;obtain⟨s,e4,f4,_⟩:=DataW.trod_string Tryz.underlying9 g4;obtain⟨A',c',l',e5,r5,b5,wf5⟩:=zwx m m (Nat.le_refl _) _ _ g5;rw[cc3] at e0 e2 e3;rw[cc9] at e1 e4;rw[cc30] at e5;have hlen:cs.length=6:=hlen.trans (by kernel_rfl);refine⟨.mk kd t n' m' s l',A',c',?_,r5,?_,?_⟩
 ·apply List.ext_getElem?;intro j
  match j with
  |0=>exact zvm e0
  |1=>exact zvm e1
  |2=>exact zvm e2
  |3=>exact zvm e3
  |4=>exact zvm e4
  |5=>exact zvm e5
  |j+6=>rw[List.getElem?_eq_none (by omega),List.getElem?_eq_none (by simp)]
 ·rw[zbv];subst f0 f1 f2 f3 f4;simp only[List.map_cons,List.map_nil,Rows.uptoBulk,Rows.uptoBulkAll];simp only[zai];omega
 ·rw[V.Wf];exact⟨zuW w0,zuW w2,zuW w3,wf5⟩
end
end Go.Proofs.YtcebmphappfjjaaGreatDoor
set_option maxHeartbeats 32000000
set_option maxRecDepth 100000
namespace Go.Proofs.YtcebmphappfjjaaGreatDoor
open Go.RowKit
theorem zzj {l:List V} {i:Nat} {v:V} (h:l[i]?=some v):zcl (l.take (i+1))=zcl (l.take i)+v.bulk:=by
 have e:∀a b:List V,zcl (a++b)=zcl a+zcl b:=λa b=>by
  induction a with
  |nil=>rw[List.nil_append,zcl];omega
  |cons x r ih=>rw[List.cons_append,zcl,zcl,ih];omega
 rw[List.take_add_one,h,e]
 show zcl (l.take i)+(v.bulk+0)=_
 omega
def WbAt (v:V):Prop:=∀(d:Int) (A:Option Addr) (c:Nat) (w:World),-1<=d->d<=100->v.bulk<=2097152->Rd (Lt w.heap.size) w (vs v.l) (.slice A v.l.length c)->
 Calls Tryz.prog 46 #[.agg #[.int .i64 v.kind,.string v.t,.int .i64 v.n,.int .i64 v.m,.string v.s,.slice A v.l.length c],.int .i64 d] w λe w'=>(∃x:Int,e=.returned (.int .i64 x)/\0<=x/\x<=v.bulk+1100*(d+2)+100000/\(x<=1100->(v.bulk:Int)<=x))/\Below w.heap.size w w'
theorem zzr (k:Int) (t:ByteArray) (n m:Int) (s:ByteArray) (l:List V) (IH:∀v∈l,WbAt v):WbAt (.mk k t n m s l):=by
 intro d A c w hd1 hd2 hb h;replace h:Rd (Lt w.heap.size) w (vs l) (.slice A l.length c):=h
 show Calls Tryz.prog 46 #[.agg #[.int .i64 k,.string t,.int .i64 n,.int .i64 m,.string s,.slice A l.length c],.int .i64 d] w λe w'=>(∃x:Int,e=.returned (.int .i64 x)/\0<=x/\x<=(V.mk k t n m s l).bulk+1100*(d+2)+100000/\(x<=1100->((V.mk k t n m s l).bulk:Int)<=x))/\Below w.heap.size w w'
 rw[zbv] at hb ⊢;have hbl:=zdB l;have hl:=zno h;have hn:l.length<=9223372036854775807:=Nat.le_trans hl.2.1 hl.2.2;obtain⟨w1,h1,b1,c1⟩:=zaj w #[.int .i64 k,.string t,.int .i64 n,.int .i64 m,.string s,.slice A l.length c] 24;have x1:w1.cell? ⟨w.heap.size,1,none⟩=some (.string t):=c1.cell 1;have x4:w1.cell? ⟨w.heap.size,4,none⟩=some (.string s):=c1.cell 4;have HC:=zz c1;have HB1:=zz b1;have HR:=zz h;have HI:=zz IH;have hw0:IntKind.i64.wrap (10+(t.size:Int))=10+(t.size:Int):=IntWalk.i64_in _ (by omega);have hw1:IntKind.i64.wrap (10+(t.size:Int)+(s.size:Int))=10+(t.size:Int)+(s.size:Int):=IntWalk.i64_in _ (by omega);have HD0:Hid (Below w1.heap.size w1 w1):=zz (Below.refl _ _);clear b1 c1 hl h IH
 by_cases hd:d<0
 ·go_enter Tryz.func46,Tryz.ntmps46;go_wp2;go_ret;exact⟨⟨100000,rfl,by omega,by omega,λh=>by omega⟩,HB1.out⟩
 ·have hwd:IntKind.i64.wrap (d-1)=d-1:=IntWalk.i64_in _ (by omega);go_enter Tryz.func46,Tryz.ntmps46;go_wp2_with fail;clear h1 x1 x4 hw0 hw1
  go_loopw [5,6] (λsv si wr=>∃(i:Nat) (x:Int),i<=l.length/\sv=.int .i64 x/\si=.int .i64 i/\0<=x/\x<=(7+t.size+s.size+zcl l:Nat)+1100*(d+2)+100000/\Hid (x<=1100->((7+t.size+s.size+zcl (l.take i):Nat):Int)<=x)/\Hid (Below w1.heap.size w1 wr)) (λ_ si _=>l.length-(intOf si).toNat)
  case atStart=>exact⟨0,_,by omega,rfl,rfl,by omega,by omega,zz (λ_=>by rw[List.take_zero,zcl];omega),HD0⟩
  case round=>
   clear HD0;obtain⟨i,x,hi,rfl,rfl,hx0,hx1,HX,HD⟩:=hrel;have HBW:=zz (zac HB1.out HD.out HB1.out.size);have z5:wr.cell? ⟨w.heap.size,5,none⟩=some (.slice A l.length c):=(zaa HD.out HC.out).cell 5
   by_cases hlt:i<l.length
   ·have hin:(i:Int)<l.length:=by omega
    by_cases h11:x<=1100
    ·obtain⟨b,off,k1,t1,n1,m1,s1,l1,A1,c1,e,hlb,hget,p0,p1,p2,p3,p4,p5,r5⟩:=zrO (HR.out.belows HBW.out) hlt;subst e;have hm:=List.mem_of_getElem? hget;have hy:=zeK _ _ _ hget;have KU:Hid (Calls _ _ #[.agg #[.int .i64 k1,.string t1,.int .i64 n1,.int .i64 m1,.string s1,.slice A1 l1.length c1],.int .i64 (d-1)] wr _):=zz (HI.out _ hm (d-1) A1 c1 wr (by omega) (by omega) (by omega) r5);have HTK:=zz (zzj hget);have hy2:((V.mk k1 t1 n1 m1 s1 l1).bulk:Int)<=zcl l:=by omega
     obtain⟨bq,hbq⟩:∃b,(V.mk k1 t1 n1 m1 s1 l1).bulk=b:=⟨_,rfl⟩;rw[hbq] at HTK hy2 hy;replace KU:=KU.out;simp only[hbq] at KU;have KU:=zz KU;clear hbq;clear r5 hget hlb hm hy;go_wp2_with fail;refine KU.out.mono ?_;rintro e w4 ⟨⟨x2,rfl,hz0,hz1,hz2⟩,hb4⟩;have HD2:=zz (zac HD.out hb4 HD.out.size);have hwx:IntKind.i64.wrap (x+x2)=x+x2:=IntWalk.i64_in _ (by omega);have q1:x+x2<=(7+t.size+s.size+zcl l:Nat)+1100*(d+2)+100000:=by omega
     have q0:0<=x+x2:=by omega
     have HX2:Hid (x+x2<=1100->((7+t.size+s.size+zcl (l.take (i+1)):Nat):Int)<=x+x2):=zz (λh=>by
      have:=HX.out (by omega);have:=hz2 (by omega);rw[HTK.out];omega)
     clear hb4 hz0 hz1 hz2 HX HTK;go_wp2_with fail;exact⟨⟨i+1,x+x2,by omega,rfl,by go_num,q0,q1,HX2,HD2⟩,by simp[intOf];omega⟩
    ·go_wp2;go_ret;exact⟨⟨x,rfl,hx0,hx1,λh=>absurd h (by omega)⟩,HBW.out⟩
   ·go_wp2;go_ret
    exact⟨⟨x,rfl,hx0,hx1,λh=>by
     have q:=HX.out h;rw[List.take_of_length_le (by omega)] at q;exact q⟩,HBW.out⟩
theorem zzf:∀v:V,WbAt v
 |.mk k t n m s l=>zzr k t n m s l (λx _=>zzf x)
theorem zzp (k:Int) (t:ByteArray) (n m:Int) (s:ByteArray) (l:List V) (A:Option Addr) (c:Nat) (w:World) (hb:(V.mk k t n m s l).bulk<=2097152) (h:Rd (Lt w.heap.size) w (vs l) (.slice A l.length c)) :
 Calls Tryz.prog 9 #[.agg #[.int .i64 k,.string t,.int .i64 n,.int .i64 m,.string s,.slice A l.length c]] w λe w'=>(∃b,e=.returned (.bool b)/\(b=true->(V.mk k t n m s l).bulk<=1100))/\Below w.heap.size w w':=by
 obtain⟨w1,h1,b1,c1⟩:=zaj w #[.int .i64 k,.string t,.int .i64 n,.int .i64 m,.string s,.slice A l.length c] 24;have x0:w1.cell? ⟨w.heap.size,0,none⟩=some (.int .i64 k):=c1.cell 0;have x1:w1.cell? ⟨w.heap.size,1,none⟩=some (.string t):=c1.cell 1;have x2:w1.cell? ⟨w.heap.size,2,none⟩=some (.int .i64 n):=c1.cell 2;have x3:w1.cell? ⟨w.heap.size,3,none⟩=some (.int .i64 m):=c1.cell 3;have x4:w1.cell? ⟨w.heap.size,4,none⟩=some (.string s):=c1.cell 4;have x5:w1.cell? ⟨w.heap.size,5,none⟩=some (.slice A l.length c):=c1.cell 5;have K:Hid (Calls _ _ #[.agg #[.int .i64 k,.string t,.int .i64 n,.int .i64 m,.string s,.slice A l.length c],.int .i64 20] w1 _):=zz (zzf (.mk k t n m s l) 20 A c w1 (by omega) (by omega) hb (h.belows b1));have HB1:=zz b1;clear b1 c1 h;go_enter Tryz.func9,Tryz.ntmps9;go_wp2_with fail;refine K.out.mono ?_;rintro e w2 ⟨⟨x,rfl,_,_,hx⟩,hb⟩;have HB2:=zz (zac HB1.out hb HB1.out.size);have HX:Hid (x<=1100->((V.mk k t n m s l).bulk:Int)<=x):=zz hx;clear hb hx;go_wp2;go_ret;exact⟨⟨decide (x<=1100),rfl,λh=>by have h1:=of_decide_eq_true h;have h2:=HX.out h1;omega⟩,HB2.out⟩
end Go.Proofs.YtcebmphappfjjaaGreatDoor
set_option maxHeartbeats 32000000
set_option maxRecDepth 100000
namespace Go.Proofs.YtcebmphappfjjaaGreatDoor
theorem zyV:∀(l:List UInt8) (f i acc v k:Nat),i+f=9->zlH i acc l=some (v,k)->∃m,v=acc+m*128 ^ i/\(0<i->0<m)/\l=(numI f m).map (λn=>UInt8.ofNat n.toNat)++l.drop (k-i)/\i<k
 |[],f,i,acc,v,k,_,h=>by simp[zlH] at h
 |c::t,f,i,acc,v,k,hf,h=>by
  rw[zlH] at h
  split at h
  ·cases h
  rename_i h9;obtain⟨g,rfl⟩:∃g,f=g+1:=⟨f-1,by omega⟩;have hc:c.toNat<256:=c.toNat_lt
  split at h
  ·rename_i h128;obtain⟨m,e1,e2,e3,e4⟩:=zyV t g (i+1) _ v k (by omega) h;have hm:=e2 (by omega);refine⟨c.toNat % 128+128*m,?_,λ_=>by omega,?_,by omega⟩
   ·have e5:m*(128 ^ i*128)=128*m*128 ^ i:=by rw[Nat.mul_comm (128 ^ i),<-Nat.mul_assoc,Nat.mul_comm m]
    rw[e1,Nat.pow_succ,e5,Nat.add_mul,Nat.add_assoc]
   ·have a1:(((c.toNat % 128+128*m:Nat):Int) % 128+128).toNat=c.toNat:=by omega
    have a2:(c.toNat % 128+128*m) / 128=m:=by omega
    rw[numI,if_neg (by omega),List.map_cons,a1,a2,UInt8.ofNat_toNat,List.cons_append,show k-i=(k-(i+1))+1 by omega,List.drop_succ_cons,<-e3]
  ·rename_i h128
   split at h
   ·cases h
   ·rename_i hz;cases h;refine⟨c.toNat,by rw[Nat.mod_eq_of_lt (by omega)],λhi=>by omega,?_,by omega⟩;rw[numI,if_pos (by omega),show i+1-i=1 by omega,List.map_cons,Int.toNat_natCast,UInt8.ofNat_toNat]
    rfl
def Cut (r r':RS) (p:List UInt8):Prop:=r'=RS.bad\/(r'.f=false/\r.s.data.toList=p++r'.s.data.toList)
theorem zyU {r:RS} (h:r.f=false):Cut r (numR r) (numB (numV r)).data.toList:=by
 unfold Cut numR numV;cases hn:numO r with
 |none=>exact .inl rfl
 |some p=>
  obtain⟨v,k⟩:=p;obtain⟨m,e1,_,e3,_⟩:=zyV _ 9 0 0 v k rfl hn;obtain rfl:v=m:=by simpa using e1
  refine .inr ⟨h,?_⟩
  show r.s.data.toList=(numB v).data.toList++(r.s.extract k r.s.size).data.toList
  rw[zcw];unfold numB;rw[strOfNums_data];exact e3
theorem zyZ {r:RS} (h:r.f=false):Cut r (zmM r) (zoI (zoJ r)).data.toList:=by
 unfold zmM zoJ;rcases zyU h with h1|⟨h1,h2⟩
 ·rw[h1];exact .inl rfl
 ·unfold Cut zuh ztZ
  by_cases hc:(numR r).f=true\/(numV r:Int)<0\/((numR r).s.size:Int)<(numV r:Int)
  ·rw[if_pos hc];exact .inl rfl
  ·rw[if_neg hc,if_neg hc];refine .inr ⟨rfl,?_⟩
   show _=(zoI ((numR r).s.extract 0 (numV r:Int).toNat)).data.toList++((numR r).s.extract (numV r:Int).toNat (numR r).s.size).data.toList
   have hs:((numR r).s.extract 0 (numV r:Int).toNat).size=numV r:=by rw[ByteArray.size_extract];omega
   unfold zoI;rw[hs,ByteArray.data_append,Array.toList_append,zcw,zgO,List.append_assoc,List.take_append_drop];exact h2
theorem zzn {z:Nat} (h:zmW z=false):intB (zig z)=numB z:=by
 unfold zmW at h;simp only[decide_eq_false_iff_not] at h;unfold intB;rw[if_neg h];unfold zig
 split
 ·rename_i h1;rw[if_pos (by omega)]
  congr 1
  omega
 ·rename_i h1;rw[if_neg (by omega)]
  congr 1
  omega
theorem zzc {r:RS} (h:r.f=false):Cut r (intR r) (intB (intV r)).data.toList:=by
 unfold intR intV;cases hb:zmW (numV r) with
 |true=>exact .inl rfl
 |false=>
  show Cut r (numR r) (intB (zig (numV r))).data.toList
  rw[zzn hb];exact zyU h
theorem zzo {r:RS} {left:Nat} (h:r.f=false) (hn:zqK r left=false):(hd6 r).f=false/\r.s.data.toList=(numB (numV r)).data.toList++(zoI (zoJ (hd1 r))).data.toList++(intB (intV (hd2 r))).data.toList++(intB (intV (hd3 r))).data.toList++(zoI (zoJ (hd4 r))).data.toList++(numB (numV (hd5 r))).data.toList++(hd6 r).s.data.toList:=by
 have no:hd6 r≠RS.bad:=λhb=>by
  unfold zqK at hn;rw[hb,zxA] at hn;have e:(RS.bad.s.size == 0&&!false)=true:=rfl;rw[e] at hn;simp at hn
 rcases zyU h with e1|⟨e1,s1⟩
 ·exact absurd (show hd6 r=RS.bad by unfold hd6 hd5 hd4 hd3 hd2 hd1;rw[e1,zuS,zvd,zvd,zuS,zvc]) no
 replace e1:(hd1 r).f=false:=e1;rcases zyZ e1 with e2|⟨e2,s2⟩
 ·exact absurd (show hd6 r=RS.bad by unfold hd6 hd5 hd4 hd3 hd2;rw[e2,zvd,zvd,zuS,zvc]) no
 replace e2:(hd2 r).f=false:=e2;rcases zzc e2 with e3|⟨e3,s3⟩
 ·exact absurd (show hd6 r=RS.bad by unfold hd6 hd5 hd4 hd3;rw[e3,zvd,zuS,zvc]) no
 replace e3:(hd3 r).f=false:=e3;rcases zzc e3 with e4|⟨e4,s4⟩
 ·exact absurd (show hd6 r=RS.bad by unfold hd6 hd5 hd4;rw[e4,zuS,zvc]) no
 replace e4:(hd4 r).f=false:=e4;rcases zyZ e4 with e5|⟨e5,s5⟩
 ·exact absurd (show hd6 r=RS.bad by unfold hd6 hd5;rw[e5,zvc]) no
 replace e5:(hd5 r).f=false:=e5;rcases zyU e5 with e6|⟨e6,s6⟩
 ·exact absurd (show hd6 r=RS.bad by unfold hd6;rw[e6]) no
 refine⟨e6,?_⟩;rw[s1,show (numR r).s.data.toList=_ from s2,show (zmM (hd1 r)).s.data.toList=_ from s3,show (intR (hd2 r)).s.data.toList=_ from s4,show (intR (hd3 r)).s.data.toList=_ from s5,show (zmM (hd4 r)).s.data.toList=_ from s6];simp only[List.append_assoc]
 rfl
theorem zyW {d:RS->Nat->Option (V × RS × Nat)} (hd:∀r left v r' l',r.f=false->d r left=some (v,r',l')->r'.f=false/\r.s.data.toList=zgJ v++r'.s.data.toList):∀(c:Nat) (r:RS) (left:Nat) (l:List V) (r':RS) (l':Nat),r.f=false->zcn d c r left=some (l,r',l')->r'.f=false/\l.length=c/\r.s.data.toList=zeP l++r'.s.data.toList
 |0,r,left,l,r',l',hf,h=>by
  rw[zcn] at h;cases h;exact⟨hf,rfl,by rw[zeP];rfl⟩
 |c+1,r,left,l,r',l',hf,h=>by
  rw[zcn] at h;cases h1:d r left with
  |none=>rw[h1] at h;cases h
  |some p=>
   obtain⟨v,r1,l1⟩:=p;rw[h1,Option.bind_some] at h;cases h2:zcn d c r1 l1 with
   |none=>rw[h2] at h;cases h
   |some q=>
    obtain⟨l2,r2,k2⟩:=q;rw[h2] at h;cases h;obtain⟨a1,a2⟩:=hd _ _ _ _ _ hf h1;obtain⟨b1,b2,b3⟩:=zyW hd c r1 l1 _ _ _ a1 h2;refine⟨b1,by show (v::l2).length=c+1;rw[List.length_cons,b2],?_⟩
    show r.s.data.toList=zeP (v::l2)++r2.s.data.toList
    rw[zeP,List.append_assoc,<-b3];exact a2
theorem zzd:∀(F:Nat) (r:RS) (left:Nat) (v:V) (r':RS) (l':Nat),r.f=false->decS F r left=some (v,r',l')->r'.f=false/\r.s.data.toList=zgJ v++r'.s.data.toList
 |0,_,_,_,_,_,_,h=>by rw[decS] at h;cases h
 |F+1,r,left,v,r',l',hf,h=>by
  rw[decS] at h
  split at h
  ·cases h
  ·cases hh:zqK r (left-1) with
   |true=>rw[hh] at h;cases h
   |false=>
    rw[hh] at h;simp only[Bool.false_eq_true,if_false] at h;obtain⟨e1,e2⟩:=zzo hf hh;cases h2:zcn (decS F) (numV (hd5 r)) (hd6 r) (left-1) with
    |none=>rw[h2] at h;cases h
    |some q=>
     obtain⟨l2,r2,k2⟩:=q;rw[h2] at h;cases h;obtain⟨b1,b2,b3⟩:=zyW (zzd F) _ _ _ _ _ _ e1 h2;refine⟨b1,?_⟩
     show r.s.data.toList=zgJ (.mk (numV r) (zoJ (hd1 r)) (intV (hd2 r)) (intV (hd3 r)) (zoJ (hd4 r)) l2)++r2.s.data.toList
     rw[zgJ,b2,List.append_assoc,<-b3,show numZ ((numV r:Nat):Int)=numB (numV r) by unfold numZ;rw[if_neg (by omega),Int.toNat_natCast]];exact e2
theorem zyY {s:ByteArray} {v:V} {r':RS} (h:zub ⟨s,false⟩=some (v,r')):r'.f=false/\zkS zbL v=true/\zjt zbL v++r'.s=s:=by
 unfold zub at h;cases hd:decS 16385 ⟨s,false⟩ 16384 with
 |none=>rw[hd] at h;cases h
 |some p=>
  obtain⟨v1,r1,l1⟩:=p;rw[hd,Option.bind_some] at h
  split at h
  ·rename_i hr;cases h;obtain⟨h1,h2⟩:=zzd _ _ _ _ _ _ rfl hd;refine⟨h1,hr,zrY ?_⟩;unfold zjt;rw[if_pos hr,ByteArray.data_append,Array.toList_append];exact h2.symm
  ·cases h
end Go.Proofs.YtcebmphappfjjaaGreatDoor
set_option maxHeartbeats 32000000
set_option maxRecDepth 100000
namespace Go.Proofs.YtcebmphappfjjaaGreatDoor
open Go.RowKit
theorem zzh {v:V} (h:v.bulk<=1100):(zoQ v).size<=1048576:=by
 unfold zoQ
 split
 ·rename_i hp;have h1:=zpC v (zrm hp).1;have h2:(lb (zfO Lib.itoa v)).size=(shv v).length:=by rw[<-zai]
  omega
 ·exact Nat.zero_le _
theorem zzb {v:V} (h:v.bulk<=1100):(zjt zbL v).size<=9900:=by
 unfold zjt
 split
 ·have h1:=znK v;have h2:(⟨(zgJ v).toArray⟩:ByteArray).size=(zgJ v).length:=by rw[<-zai]
  omega
 ·exact Nat.zero_le _
theorem zzi {s:ByteArray} {v:V} (h:zeR s=(v,true)):v.bulk<=114688+s.size:=by
 unfold zeR at h
 split at h
 ·rename_i v' q hv
  split at h
  ·cases h;have h1:=zqo hv;have h2:(bl s).length=s.size:=zai s;omega
  ·cases h
 ·cases h
theorem zza (r:RS) (hf:r.f=false):ztZ r (r.s.size:Int)=r.s:=by
 unfold ztZ;rw[hf,if_neg (by simp)];exact zrY (by rw[zgO,Int.toNat_natCast,List.take_of_length_le (by rw[zai];exact Nat.le_refl _)])
theorem zzk {ok ok':Nat->Prop} {W W':World} {A:Option Addr} {n c:Nat} (h:Rd ok W (vs []) (.slice A n c)):Rd ok' W' (vs []) (.slice A n c):=by
 obtain⟨A0,c0,e,h1,h2,h3⟩:=h.sl_inv;injection e with e1 e2 e3;subst e1 e3;subst e2;exact Rd.sl_mk h1 h2 (λh=>absurd h (by simp))
theorem zzm {b:Nat} {s:ByteArray} {W:World} (h:zdd W b ⟨s,false⟩) (hs:s.size<=1048576):Calls Tryz.prog 15 #[.pointer (some ⟨b,0,none⟩)] W λe w'=>Chg (λk=>k=b) W w'/\∃(k:Int) (t:ByteArray) (n m:Int) (s':ByteArray) (l:List V) (A:Option Addr) (c:Nat) (ok:Bool) (r':RS),e=.returned (.tuple #[.agg #[.int .i64 k,.string t,.int .i64 n,.int .i64 m,.string s',.slice A l.length c],.bool ok])/\Rd (Lt w'.heap.size) w' (vs l) (.slice A l.length c)/\zdd w' b r'/\(ok=true->zub ⟨s,false⟩=some (.mk k t n m s' l,r'))/\(ok=false->zub ⟨s,false⟩=none/\V.mk k t n m s' l=vZ):=by
 refine(zxh b _ W h (.inl rfl) hs).mono ?_;rintro e w' ⟨hc,hp⟩;cases hr:zub ⟨s,false⟩ with
 |none=>
  rw[hr] at hp;obtain⟨he,hx⟩:=hp;exact⟨hc,0,⟨#[]⟩,0,0,⟨#[]⟩,[],none,0,false,_,he,Rd.sl_nil,hx,λh=>(by cases h),λ_=>⟨rfl,rfl⟩⟩
 |some p=>
  obtain⟨⟨k,t,n,m,s',l⟩,r'⟩:=p;rw[hr] at hp;obtain⟨A,c,he,hd,hx⟩:=hp;exact⟨hc,k,t,n,m,s',l,A,c,true,r',he,hd.weaken (λ_ h=>h.2),hx,λ_=>rfl,λh=>(by cases h)⟩
theorem zze {s:ByteArray} {W:World} (hs:s.size<=1048576) (hT:Tab W.heap.size W):Calls Tryz.prog 11 #[.string s] W λe w'=>Below W.heap.size W w'/\∃(k:Int) (t:ByteArray) (n m:Int) (s':ByteArray) (l:List V) (A:Option Addr) (c:Nat) (ok:Bool),e=.returned (.tuple #[.agg #[.int .i64 k,.string t,.int .i64 n,.int .i64 m,.string s',.slice A l.length c],.bool ok])/\Rd (Lt w'.heap.size) w' (vs l) (.slice A l.length c)/\zeR s=(.mk k t n m s' l,ok):=by
 refine(ztT s W hs hT).mono ?_;rintro e w' ⟨hb,A,c,he,hr⟩;obtain⟨⟨⟨k,t,n,m,s',l⟩,ok⟩,hp⟩:∃o,zeR s=o:=⟨_,rfl⟩;rw[hp] at he hr;exact⟨hb,k,t,n,m,s',l,A,c,ok,he,hr.weaken (λ_ h=>h.2),hp⟩
theorem zzq (kv:Int) (tv:ByteArray) (nv mv:Int) (sv:ByteArray) (lv:List V) (af src:ByteArray) (Av:Option Addr) (cv:Nat) (w:World) (hb:(V.mk kv tv nv mv sv lv).bulk<=1048576) (hw:(V.mk kv tv nv mv sv lv).Wf) (hr:Rd (Lt w.heap.size) w (vs lv) (.slice Av lv.length cv)) (hT:Tab w.heap.size w) :
 Calls Tryz.prog 4 #[.agg #[.int .i64 kv,.string tv,.int .i64 nv,.int .i64 mv,.string sv,.slice Av lv.length cv],.string af,.string src] w λe w'=>e=.returned (.bool true)/\Below w.heap.size w w':=by
 have HBV:Hid ((V.mk kv tv nv mv sv lv).bulk<=2097152):=zz (by omega);have HLV:Hid (zcl lv<=2097152):=zz (by rw[zbv] at hb;omega);have HT:=zz hT;have HW:=zz hw
 have Z:Hid (Zs w w [] [(vs lv,.slice Av lv.length cv)]):=zz ⟨Below.refl _ _,λ_ h=>(by cases h),λq h=>by
  obtain rfl:=List.mem_singleton.1 h;exact hr⟩
 clear hb hw hr hT;obtain⟨w1,hw1,Z⟩:=Zs.box Z #[.int .i64 kv,.string tv,.int .i64 nv,.int .i64 mv,.string sv,.slice Av lv.length cv] 24;go_enter Tryz.func4,Tryz.ntmps4;go_wp2_with fail;have K:=zz (zyq w1 (Tab.up (HT.out.on Z.out.low) Z.out.low.size));refine Zs.call Z K.out ?_;clear hw1 K Z;intro w2 Z;have z0:=Zs.c Z 0 0 rfl rfl;have z1:=Zs.c Z 0 1 rfl rfl;have z2:=Zs.c Z 0 2 rfl rfl;have z3:=Zs.c Z 0 3 rfl rfl;have z4:=Zs.c Z 0 4 rfl rfl;have z5:=Zs.c Z 0 5 rfl rfl;have K:=zz (zzp kv tv nv mv sv lv _ _ w2 HBV.out (Zs.rd Z 0 rfl));go_wp2_with fail;refine K.out.mono ?_;rintro e w3 ⟨⟨q,rfl,hq⟩,hb⟩;replace Z:=zz (Z.out.below hb);clear z0 z1 z2 z3 z4 z5 K hb;cases q
 ·clear hq;go_wp2;go_ret;exact⟨rfl,Z.out.low⟩
 have HQ:=zz (hq rfl);clear hq
 by_cases ha:(200:Int)<af.size
 ·go_wp2;go_ret;exact⟨rfl,Z.out.low⟩
 by_cases hs:(1500:Int)<src.size
 ·go_wp2;go_ret;exact⟨rfl,Z.out.low⟩
 have z0:=Zs.c Z 0 0 rfl rfl;have z1:=Zs.c Z 0 1 rfl rfl;have z2:=Zs.c Z 0 2 rfl rfl;have z3:=Zs.c Z 0 3 rfl rfl;have z4:=Zs.c Z 0 4 rfl rfl;have z5:=Zs.c Z 0 5 rfl rfl;have K0:=zvT zbL kv tv nv mv sv lv _ _ w3 HBV.out HW.out (znD _ HBV.out) (Zs.rd Z 0 rfl);obtain⟨BB,hBB⟩:∃x,zjt zbL (.mk kv tv nv mv sv lv)=x:=⟨_,rfl⟩;have hBs:BB.size<=9900:=by rw[<-hBB];exact zzb HQ.out
 have HBB:=zz hBB;rw[hBB] at K0;clear hBB;have K:=zz K0;go_wp2_with fail;refine Zs.call Z K.out ?_;clear z0 z1 z2 z3 z4 z5 K0 K Z;intro w4 Z;have K:=zz (zxQ (BB++af) w4);go_wp2_with fail;refine K.out.mono ?_;rintro e w5 ⟨rfl,hb,hr⟩;clear K;have HB:=zz hb;have K:=zz (zzm hr (by rw[ByteArray.size_append];omega));clear hb hr;go_wp2_with fail;refine K.out.mono ?_;rintro e w6 ⟨hc,kr,tr,nr,mr,sr,lr,Ar,cr,okr,rr,rfl,hr,hx,hf1,hf2⟩;have hb2:Below w4.heap.size w4 w6:=HB.out.trans (hc.below HB.out.size (λq hq=>by omega));have HF1:=zz hf1;have HF2:=zz hf2;replace Z:=Zs.put (zz (Z.out.below hb2)) (show zab w6 w4.heap.size #[.string rr.s,.bool rr.f] 86 from hx);have Z:=Zs.more Z hr;clear K HB hc hr hx hb2 hf1 hf2 hBs;obtain⟨w7,hw7,Z⟩:=Zs.box Z #[.int .i64 kr,.string tr,.int .i64 nr,.int .i64 mr,.string sr,.slice Ar lr.length cr] 24
 go_upto_region 7 with (fail)
 clear hw7
 go_cut [73] (λs73 wx=>s73=.bool false/\Hid (Zs w wx [(w6.heap.size,#[.int .i64 kr,.string tr,.int .i64 nr,.int .i64 mr,.string sr,.slice Ar lr.length cr],24),(w4.heap.size,#[.string rr.s,.bool rr.f],86),(w.heap.size,#[.int .i64 kv,.string tv,.int .i64 nv,.int .i64 mv,.string sv,.slice Av lv.length cv],24)] [(vs lr,.slice Ar lr.length cr),(vs lv,.slice Av lv.length cv)]))
 case first=>
  cases he:zkS zbL (.mk kv tv nv mv sv lv) with
  |false=>
   have hB:BB=⟨#[]⟩:=by rw[<-HBB.out];unfold zjt;rw[he];rfl
   have HE:=zz he;clear he;subst hB;have z0:=Zs.c Z 2 0 rfl rfl;have z1:=Zs.c Z 2 1 rfl rfl;have z2:=Zs.c Z 2 2 rfl rfl;have z3:=Zs.c Z 2 3 rfl rfl;have z4:=Zs.c Z 2 4 rfl rfl;have z5:=Zs.c Z 2 5 rfl rfl;have K0:=zuQ zbL kv tv nv mv sv lv _ _ w7 HBV.out (znD _ HBV.out) (Zs.rd Z 1 rfl);rw[HE.out] at K0;have K:=zz K0;go_wp2_with fail;refine Zs.call Z K.out ?_;clear z0 z1 z2 z3 z4 z5 K0 K Z;intro w8 Z;have z0:=Zs.c Z 2 0 rfl rfl;have z1:=Zs.c Z 2 1 rfl rfl;have z2:=Zs.c Z 2 2 rfl rfl;have z3:=Zs.c Z 2 3 rfl rfl;have z4:=Zs.c Z 2 4 rfl rfl;have z5:=Zs.c Z 2 5 rfl rfl;have K0:=zuQ zbL kv tv nv mv sv lv _ _ w8 HBV.out (znD _ HBV.out) (Zs.rd Z 1 rfl);rw[HE.out] at K0;have K:=zz K0;go_wp2_with fail;refine Zs.call Z K.out ?_;clear z0 z1 z2 z3 z4 z5 K0 K Z;intro w9 Z;go_wp2
   go_meet
   exact⟨rfl,Z⟩
  |true=>
   have HE:=zz he;obtain⟨r',e1,e2⟩:=zir (v:=(.mk kv tv nv mv sv lv)) (r:=⟨BB++af,false⟩) (rest:=af.data.toList) he HBV.out (by rw[HBB.out];exact⟨rfl,by rw[ByteArray.data_append,Array.toList_append]⟩);clear he;cases okr with
   |false=>exact absurd (e1.symm.trans (HF2.out rfl).1) (by simp)
   |true=>
    have e3:=Option.some.inj (e1.symm.trans (HF1.out rfl));have hv:(.mk kv tv nv mv sv lv)=(V.mk kr tr nr mr sr lr):=congrArg Prod.fst e3;have hs2:(rr.s.size:Int)=af.size:=by rw[<-show r'=rr from congrArg Prod.snd e3,<-zai,e2.2,zai]
    have HV:=zz hv;have HS:=zz hs2;have HN:Hid (zcl lr<=2097152):=zz (by injection hv with _ _ _ _ _ e;rw[<-e];exact HLV.out);clear e1 e2 e3 hv hs2;have z0:=Zs.c Z 2 0 rfl rfl;have z1:=Zs.c Z 2 1 rfl rfl;have z2:=Zs.c Z 2 2 rfl rfl;have z3:=Zs.c Z 2 3 rfl rfl;have z4:=Zs.c Z 2 4 rfl rfl;have z5:=Zs.c Z 2 5 rfl rfl;have K0:=zuQ zbL kv tv nv mv sv lv _ _ w7 HBV.out (znD _ HBV.out) (Zs.rd Z 1 rfl);rw[HE.out] at K0;have K:=zz K0;go_wp2_with fail;refine Zs.call Z K.out ?_;clear z0 z1 z2 z3 z4 z5 K0 K Z;intro w10 Z;have z0:=Zs.c Z 2 0 rfl rfl;have z1:=Zs.c Z 2 1 rfl rfl;have z2:=Zs.c Z 2 2 rfl rfl;have z3:=Zs.c Z 2 3 rfl rfl;have z4:=Zs.c Z 2 4 rfl rfl;have z5:=Zs.c Z 2 5 rfl rfl;have q0:=Zs.c Z 0 0 rfl rfl;have q1:=Zs.c Z 0 1 rfl rfl;have q2:=Zs.c Z 0 2 rfl rfl;have q3:=Zs.c Z 0 3 rfl rfl;have q4:=Zs.c Z 0 4 rfl rfl;have q5:=Zs.c Z 0 5 rfl rfl;have K0:=zvo kv tv nv mv sv lv kr tr nr mr sr lr _ _ _ _ w10 (zxx HLV.out) HN.out (Zs.rd Z 1 rfl) (Zs.rd Z 0 rfl);rw[(zsV _ _).2 HV.out] at K0;have K:=zz K0;go_wp2_with fail;refine Zs.call Z K.out ?_;clear z0 z1 z2 z3 z4 z5 q0 q1 q2 q3 q4 q5 K0 K Z;intro w11 Z;have K0:=zva w4.heap.size rr w11 (Zs.g Z 1 rfl);rw[HS.out] at K0;have K:=zz K0;go_wp2_with fail;refine K.out.mono ?_;rintro e _ ⟨rfl,rfl⟩;clear K K0;have z0:=Zs.c Z 2 0 rfl rfl;have z1:=Zs.c Z 2 1 rfl rfl;have z2:=Zs.c Z 2 2 rfl rfl;have z3:=Zs.c Z 2 3 rfl rfl;have z4:=Zs.c Z 2 4 rfl rfl;have z5:=Zs.c Z 2 5 rfl rfl;have K0:=zuQ zbL kv tv nv mv sv lv _ _ w11 HBV.out (znD _ HBV.out) (Zs.rd Z 1 rfl);rw[HE.out] at K0;have K:=zz K0;go_wp2_with fail;refine Zs.call Z K.out ?_;clear z0 z1 z2 z3 z4 z5 K0 K Z;intro w12 Z;go_wp2
    go_meet
    exact⟨rfl,Z⟩
 case rest=>
  clear Z HF1 HF2 HBB;obtain⟨rfl,Z⟩:=hcut;rename World=>v1;have z0:=Zs.c Z 2 0 rfl rfl;have z1:=Zs.c Z 2 1 rfl rfl;have z2:=Zs.c Z 2 2 rfl rfl;have z3:=Zs.c Z 2 3 rfl rfl;have z4:=Zs.c Z 2 4 rfl rfl;have z5:=Zs.c Z 2 5 rfl rfl;have K0:=zqB kv tv nv mv sv lv _ _ v1 HBV.out (Tab.up (HT.out.on Z.out.low) Z.out.low.size) (Zs.rd Z 1 rfl);obtain⟨SS,hSS⟩:∃x,zoQ (.mk kv tv nv mv sv lv)=x:=⟨_,rfl⟩;have hSs:SS.size<=1048576:=by rw[<-hSS];exact zzh HQ.out
  have HSS:=zz hSS;rw[hSS] at K0;clear hSS;have K:=zz K0;go_wp2_with fail;refine Zs.call Z K.out ?_;clear z0 z1 z2 z3 z4 z5 K0 K Z;intro w13 Z;have K:=zz (zze (s:=SS) (W:=w13) hSs (Tab.up (HT.out.on Z.out.low) Z.out.low.size));go_wp2_with fail;refine K.out.mono ?_;rintro e w14 ⟨hb,kx,tx,nx,mx,sx,lx,Ax,cx,okx,rfl,hr,hp⟩;replace Z:=zz (Z.out.below hb);have HPx:=zz hp;have Z:=Zs.more Z hr;clear K hb hr hp;clear hSs;obtain⟨w15,hw15,Z⟩:=Zs.box Z #[.int .i64 kx,.string tx,.int .i64 nx,.int .i64 mx,.string sx,.slice Ax lx.length cx] 24
  go_upto_region 11 with (fail)
  clear hw15
  go_cut [92] (λs92 wx=>s92=.bool false/\Hid (Zs w wx [(w14.heap.size,#[.int .i64 kx,.string tx,.int .i64 nx,.int .i64 mx,.string sx,.slice Ax lx.length cx],24),(w6.heap.size,#[.int .i64 kr,.string tr,.int .i64 nr,.int .i64 mr,.string sr,.slice Ar lr.length cr],24),(w4.heap.size,#[.string rr.s,.bool rr.f],86),(w.heap.size,#[.int .i64 kv,.string tv,.int .i64 nv,.int .i64 mv,.string sv,.slice Av lv.length cv],24)] [(vs lx,.slice Ax lx.length cx),(vs lr,.slice Ar lr.length cr),(vs lv,.slice Av lv.length cv)]))
  case first=>
   by_cases hS:SS=⟨#[]⟩
   ·subst hS;go_wp2
    go_meet
    exact⟨rfl,Z⟩
   ·have hp:=HPx.out
    have hpl:zfN (.mk kv tv nv mv sv lv)=true:=by
     cases hc:zfN (.mk kv tv nv mv sv lv) with
     |true=>rfl
     |false=>exact absurd (by rw[<-HSS.out];unfold zoQ;rw[hc];rfl) hS
    rw[<-HSS.out,zwR hpl] at hp;injection hp with hp1 hp2;subst hp2;have HV:=zz hp1;have HN:Hid (zcl lx<=2097152):=zz (by injection hp1 with _ _ _ _ _ e;rw[<-e];exact HLV.out);have ne1:(SS.toList == [])=false:=zam (l:=[]) hS;have ne2:(SS.toList != [])=true:=by unfold bne;rw[ne1];rfl
    clear hp1 hpl hS;have z0:=Zs.c Z 0 0 rfl rfl;have z1:=Zs.c Z 0 1 rfl rfl;have z2:=Zs.c Z 0 2 rfl rfl;have z3:=Zs.c Z 0 3 rfl rfl;have z4:=Zs.c Z 0 4 rfl rfl;have z5:=Zs.c Z 0 5 rfl rfl;have q0:=Zs.c Z 3 0 rfl rfl;have q1:=Zs.c Z 3 1 rfl rfl;have q2:=Zs.c Z 3 2 rfl rfl;have q3:=Zs.c Z 3 3 rfl rfl;have q4:=Zs.c Z 3 4 rfl rfl;have q5:=Zs.c Z 3 5 rfl rfl;have K0:=zvo kx tx nx mx sx lx kv tv nv mv sv lv _ _ _ _ w15 (zxx HN.out) HLV.out (Zs.rd Z 0 rfl) (Zs.rd Z 2 rfl);rw[(zsV _ _).2 HV.out.symm] at K0;have K:=zz K0;go_wp2_with fail;refine Zs.call Z K.out ?_;clear z0 z1 z2 z3 z4 z5 q0 q1 q2 q3 q4 q5 K0 K Z;intro w16 Z;go_wp2
    go_meet
    exact⟨rfl,Z⟩
  case rest=>
   clear Z HPx HSS;obtain⟨rfl,Z⟩:=hcut;rename World=>v2;have K:=zz (zze (s:=src) (W:=v2) (by omega) (Tab.up (HT.out.on Z.out.low) Z.out.low.size));go_wp2_with fail;refine K.out.mono ?_;rintro e w17 ⟨hb,ky,ty,ny,my,sy,ly,Ay,cy,oky,rfl,hr,hp⟩;replace Z:=zz (Z.out.below hb);have HPy:=zz hp;have Z:=Zs.more Z hr;clear K hb hr hp;obtain⟨w18,hw18,Z⟩:=Zs.box Z #[.int .i64 ky,.string ty,.int .i64 ny,.int .i64 my,.string sy,.slice Ay ly.length cy] 24
   go_upto_region 14 with (fail)
   clear hw18;have HLT:=zz (Zs.g Z 0 rfl).lt;have HLO:=zz Z.out.low.size;have K:=zz (zxQ src w18);go_wp2_with fail;refine K.out.mono ?_;rintro e w19 ⟨rfl,hb,hr⟩;clear K;have HB:=zz hb;have K:=zz (zzm hr (by omega));clear hb hr;go_wp2_with fail;refine K.out.mono ?_;rintro e w20 ⟨hc,kz,tz,nz,mz,sz,lz,Az,cz,okz,rz,rfl,hr,hx,hf1,hf2⟩;have hb2:Below w18.heap.size w18 w20:=HB.out.trans (hc.below HB.out.size (λq hq=>by omega));have HF1:=zz hf1;have HF2:=zz hf2;have HRZ:=zz hx;replace Z:=zz (Z.out.below hb2);have Z:=Zs.more Z hr;clear K HB hc hr hx hb2 hf1 hf2;obtain⟨w21,hw21,Z⟩:=Zs.box Z #[.int .i64 kz,.string tz,.int .i64 nz,.int .i64 mz,.string sz,.slice Az lz.length cz] 24;have HRZ:=zz (show zdd w21 w18.heap.size rz from zaa (by rw[<-hw21];exact zag _ _) HRZ.out)
   go_upto_region 16 with (fail)
   clear hw21;cases oky with
   |true=>
    have HBY:Hid ((V.mk ky ty ny my sy ly).bulk<=2097152):=zz (by have:=zzi HPy.out;omega);have HSY:Hid (zoQ (.mk ky ty ny my sy ly)=src):=zz (by have h:=(zzg (s:=src) (by rw[HPy.out])).1;rw[HPy.out] at h;exact h);cases okz with
    |true=>
     have hq:=HF1.out rfl;obtain⟨hf,_,hbe⟩:=zyY hq;obtain⟨hfi,_⟩:=zyX rfl (by show src.size<=_;omega) hq;have HRF:=zz hf;have HBE:=zz hbe;have hfi2:_<=2*src.size:=hfi.2.1;have HSZ:Hid (rz.s.size<=3000):=zz (by omega);have HBZ:Hid ((V.mk kz tz nz mz sz lz).bulk<=2097152/\(V.mk kz tz nz mz sz lz).Wf):=zz ⟨by omega,hfi.2.2.1⟩;clear hq hf hbe hfi hfi2;have z0:=Zs.c Z 1 0 rfl rfl;have z1:=Zs.c Z 1 1 rfl rfl;have z2:=Zs.c Z 1 2 rfl rfl;have z3:=Zs.c Z 1 3 rfl rfl;have z4:=Zs.c Z 1 4 rfl rfl;have z5:=Zs.c Z 1 5 rfl rfl;have K0:=zqB ky ty ny my sy ly _ _ w21 HBY.out (Tab.up (HT.out.on Z.out.low) Z.out.low.size) (Zs.rd Z 1 rfl);rw[HSY.out] at K0;have K:=zz K0;go_wp2_with fail;refine K.out.mono ?_;rintro e w22 ⟨rfl,hb⟩;replace Z:=zz (Z.out.below hb);replace HRZ:=zz (show zdd w22 w18.heap.size rz from zaa hb HRZ.out);clear z0 z1 z2 z3 z4 z5 K0 K hb;have z0:=Zs.c Z 0 0 rfl rfl;have z1:=Zs.c Z 0 1 rfl rfl;have z2:=Zs.c Z 0 2 rfl rfl;have z3:=Zs.c Z 0 3 rfl rfl;have z4:=Zs.c Z 0 4 rfl rfl;have z5:=Zs.c Z 0 5 rfl rfl;have K0:=zvT zbL kz tz nz mz sz lz _ _ w22 HBZ.out.1 HBZ.out.2 (znD _ HBZ.out.1) (Zs.rd Z 0 rfl);have hBe:=HBE.out;generalize zjt zbL (.mk kz tz nz mz sz lz)=BZ at K0 hBe;have hsz:=congrArg ByteArray.size hBe;rw[ByteArray.size_append] at hsz;have hz1:BZ.size<=1500:=by omega
     have hz2:rz.s.size<=1500:=by omega
     clear hsz;have K:=zz K0;go_wp2_with fail;refine K.out.mono ?_;rintro e w23 ⟨rfl,hb⟩;replace Z:=zz (Z.out.below hb);replace HRZ:=zz (show zdd w23 w18.heap.size rz from zaa hb HRZ.out);clear z0 z1 z2 z3 z4 z5 K0 K hb;have K:=zz (zva w18.heap.size rz w23 HRZ.out);go_wp2_with fail;refine K.out.mono ?_;rintro e _ ⟨rfl,rfl⟩;clear K;have K0:=zvS w18.heap.size rz rz.s.size w23 HRZ.out (by have:=HSZ.out;omega);rw[zza rz HRF.out] at K0;have K:=zz K0;go_wp2_with fail;refine K.out.mono ?_;rintro e w24 ⟨rfl,hc,_⟩;clear K K0
     have Z:Hid (Zs w w24 [(w17.heap.size,#[.int .i64 ky,.string ty,.int .i64 ny,.int .i64 my,.string sy,.slice Ay ly.length cy],24)] []):=zz ⟨Z.out.low.trans (hc.below Z.out.low.size (λq hq=>by subst hq;exact HLO.out)),λq h=>by
      obtain rfl:=List.mem_singleton.1 h;exact(Zs.g Z 1 rfl).keep hc (λh=>by have:=HLT.out;omega),λ_ h=>(by cases h)⟩
     clear hc HRZ;go_wp2;go_ret;exact⟨rfl,Z.out.low⟩
    |false=>
     have hz:=(HF2.out rfl).2;replace hz:V.mk kz tz nz mz sz lz=.mk 0 ⟨#[]⟩ 0 0 ⟨#[]⟩ []:=hz;injection hz with f1 f2 f3 f4 f5 f6;subst f1 f2 f3 f4 f5 f6;have z0:=Zs.c Z 1 0 rfl rfl;have z1:=Zs.c Z 1 1 rfl rfl;have z2:=Zs.c Z 1 2 rfl rfl;have z3:=Zs.c Z 1 3 rfl rfl;have z4:=Zs.c Z 1 4 rfl rfl;have z5:=Zs.c Z 1 5 rfl rfl;have K0:=zqB ky ty ny my sy ly _ _ w21 HBY.out (Tab.up (HT.out.on Z.out.low) Z.out.low.size) (Zs.rd Z 1 rfl);rw[HSY.out] at K0;have K:=zz K0;go_wp2_with fail;refine K.out.mono ?_;rintro e w22 ⟨rfl,hb⟩;replace Z:=zz (Z.out.below hb);replace HRZ:=zz (show zdd w22 w18.heap.size rz from zaa hb HRZ.out);clear z0 z1 z2 z3 z4 z5 K0 K hb;have z0:=Zs.c Z 0 0 rfl rfl;have z1:=Zs.c Z 0 1 rfl rfl;have z2:=Zs.c Z 0 2 rfl rfl;have z3:=Zs.c Z 0 3 rfl rfl;have z4:=Zs.c Z 0 4 rfl rfl;have z5:=Zs.c Z 0 5 rfl rfl;have K0:=zvo 0 ⟨#[]⟩ 0 0 ⟨#[]⟩ [] 0 ⟨#[]⟩ 0 0 ⟨#[]⟩ [] Az none cz 0 w22 (zxx (by decide)) (by decide) (zzk (Zs.rd Z 0 rfl)) Rd.sl_nil;rw[show eqV (.mk 0 ⟨#[]⟩ 0 0 ⟨#[]⟩ []) (.mk 0 ⟨#[]⟩ 0 0 ⟨#[]⟩ [])=true from by kernel_rfl] at K0;replace K0:Calls Tryz.prog 32 #[.agg #[.int .i64 0,.string ⟨#[]⟩,.int .i64 0,.int .i64 0,.string ⟨#[]⟩,.slice Az 0 cz],.agg #[.int .i64 0,.string ⟨#[]⟩,.int .i64 0,.int .i64 0,.string ⟨#[]⟩,.slice none 0 0]] w22 _:=K0;have K:=zz K0;go_wp2_with fail;refine Zs.call Z K.out ?_;clear z0 z1 z2 z3 z4 z5 K0 K Z;intro w23 Z;go_wp2;go_ret;exact⟨rfl,Z.out.low⟩
   |false=>
    have hz:=zzl (s:=src) (by rw[HPy.out]);rw[HPy.out] at hz;replace hz:V.mk ky ty ny my sy ly=.mk 0 ⟨#[]⟩ 0 0 ⟨#[]⟩ []:=hz;injection hz with e1 e2 e3 e4 e5 e6;subst e1 e2 e3 e4 e5 e6;have HNY:Hid (∀W,Rd (Lt W.heap.size) W (vs []) (.slice Ay ([]:List V).length cy)):=zz (λW=>zzk (Zs.rd Z 1 rfl));cases okz with
    |true=>
     have hq:=HF1.out rfl;obtain⟨hf,_,hbe⟩:=zyY hq;obtain⟨hfi,_⟩:=zyX rfl (by show src.size<=_;omega) hq;have HRF:=zz hf;have HBE:=zz hbe;have hfi2:_<=2*src.size:=hfi.2.1;have HSZ:Hid (rz.s.size<=3000):=zz (by omega);have HBZ:Hid ((V.mk kz tz nz mz sz lz).bulk<=2097152/\(V.mk kz tz nz mz sz lz).Wf):=zz ⟨by omega,hfi.2.2.1⟩;clear hq hf hbe hfi hfi2;have z0:=Zs.c Z 0 0 rfl rfl;have z1:=Zs.c Z 0 1 rfl rfl;have z2:=Zs.c Z 0 2 rfl rfl;have z3:=Zs.c Z 0 3 rfl rfl;have z4:=Zs.c Z 0 4 rfl rfl;have z5:=Zs.c Z 0 5 rfl rfl;have K0:=zvT zbL kz tz nz mz sz lz _ _ w21 HBZ.out.1 HBZ.out.2 (znD _ HBZ.out.1) (Zs.rd Z 0 rfl);have hBe:=HBE.out;generalize zjt zbL (.mk kz tz nz mz sz lz)=BZ at K0 hBe;have hsz:=congrArg ByteArray.size hBe;rw[ByteArray.size_append] at hsz;have hz1:BZ.size<=1500:=by omega
     have hz2:rz.s.size<=1500:=by omega
     clear hsz;have K:=zz K0;go_wp2_with fail;refine K.out.mono ?_;rintro e w22 ⟨rfl,hb⟩;replace Z:=zz (Z.out.below hb);replace HRZ:=zz (show zdd w22 w18.heap.size rz from zaa hb HRZ.out);clear z0 z1 z2 z3 z4 z5 K0 K hb;have K:=zz (zva w18.heap.size rz w22 HRZ.out);go_wp2_with fail;refine K.out.mono ?_;rintro e _ ⟨rfl,rfl⟩;clear K;have K0:=zvS w18.heap.size rz rz.s.size w22 HRZ.out (by have:=HSZ.out;omega);rw[zza rz HRF.out] at K0;have K:=zz K0;go_wp2_with fail;refine K.out.mono ?_;rintro e w23 ⟨rfl,hc,_⟩;clear K K0
     have Z:Hid (Zs w w23 [(w17.heap.size,#[.int .i64 0,.string ⟨#[]⟩,.int .i64 0,.int .i64 0,.string ⟨#[]⟩,.slice Ay ([]:List V).length cy],24)] []):=zz ⟨Z.out.low.trans (hc.below Z.out.low.size (λq hq=>by subst hq;exact HLO.out)),λq h=>by
      obtain rfl:=List.mem_singleton.1 h;exact(Zs.g Z 1 rfl).keep hc (λh=>by have:=HLT.out;omega),λ_ h=>(by cases h)⟩
     clear hc HRZ;have z0:=Zs.c Z 0 0 rfl rfl;have z1:=Zs.c Z 0 1 rfl rfl;have z2:=Zs.c Z 0 2 rfl rfl;have z3:=Zs.c Z 0 3 rfl rfl;have z4:=Zs.c Z 0 4 rfl rfl;have z5:=Zs.c Z 0 5 rfl rfl;have K0:=zvo 0 ⟨#[]⟩ 0 0 ⟨#[]⟩ [] 0 ⟨#[]⟩ 0 0 ⟨#[]⟩ [] Ay none cy 0 w23 (zxx (by decide)) (by decide) (HNY.out _) Rd.sl_nil;rw[show eqV (.mk 0 ⟨#[]⟩ 0 0 ⟨#[]⟩ []) (.mk 0 ⟨#[]⟩ 0 0 ⟨#[]⟩ [])=true from by kernel_rfl] at K0;replace K0:Calls Tryz.prog 32 #[.agg #[.int .i64 0,.string ⟨#[]⟩,.int .i64 0,.int .i64 0,.string ⟨#[]⟩,.slice Ay 0 cy],.agg #[.int .i64 0,.string ⟨#[]⟩,.int .i64 0,.int .i64 0,.string ⟨#[]⟩,.slice none 0 0]] w23 _:=K0;have K:=zz K0;go_wp2_with fail;refine Zs.call Z K.out ?_;clear z0 z1 z2 z3 z4 z5 K0 K Z;intro w24 Z;go_wp2;go_ret;exact⟨rfl,Z.out.low⟩
    |false=>
     have hz:=(HF2.out rfl).2;replace hz:V.mk kz tz nz mz sz lz=.mk 0 ⟨#[]⟩ 0 0 ⟨#[]⟩ []:=hz;injection hz with f1 f2 f3 f4 f5 f6;subst f1 f2 f3 f4 f5 f6;have z0:=Zs.c Z 1 0 rfl rfl;have z1:=Zs.c Z 1 1 rfl rfl;have z2:=Zs.c Z 1 2 rfl rfl;have z3:=Zs.c Z 1 3 rfl rfl;have z4:=Zs.c Z 1 4 rfl rfl;have z5:=Zs.c Z 1 5 rfl rfl;have K0:=zvo 0 ⟨#[]⟩ 0 0 ⟨#[]⟩ [] 0 ⟨#[]⟩ 0 0 ⟨#[]⟩ [] Ay none cy 0 w21 (zxx (by decide)) (by decide) (HNY.out _) Rd.sl_nil;rw[show eqV (.mk 0 ⟨#[]⟩ 0 0 ⟨#[]⟩ []) (.mk 0 ⟨#[]⟩ 0 0 ⟨#[]⟩ [])=true from by kernel_rfl] at K0;replace K0:Calls Tryz.prog 32 #[.agg #[.int .i64 0,.string ⟨#[]⟩,.int .i64 0,.int .i64 0,.string ⟨#[]⟩,.slice Ay 0 cy],.agg #[.int .i64 0,.string ⟨#[]⟩,.int .i64 0,.int .i64 0,.string ⟨#[]⟩,.slice none 0 0]] w21 _:=K0;have K:=zz K0;go_wp2_with fail;refine Zs.call Z K.out ?_;clear z0 z1 z2 z3 z4 z5 K0 K Z;intro w22 Z;have z0:=Zs.c Z 0 0 rfl rfl;have z1:=Zs.c Z 0 1 rfl rfl;have z2:=Zs.c Z 0 2 rfl rfl;have z3:=Zs.c Z 0 3 rfl rfl;have z4:=Zs.c Z 0 4 rfl rfl;have z5:=Zs.c Z 0 5 rfl rfl;have K0:=zvo 0 ⟨#[]⟩ 0 0 ⟨#[]⟩ [] 0 ⟨#[]⟩ 0 0 ⟨#[]⟩ [] Az none cz 0 w22 (zxx (by decide)) (by decide) (zzk (Zs.rd Z 0 rfl)) Rd.sl_nil;rw[show eqV (.mk 0 ⟨#[]⟩ 0 0 ⟨#[]⟩ []) (.mk 0 ⟨#[]⟩ 0 0 ⟨#[]⟩ [])=true from by kernel_rfl] at K0;replace K0:Calls Tryz.prog 32 #[.agg #[.int .i64 0,.string ⟨#[]⟩,.int .i64 0,.int .i64 0,.string ⟨#[]⟩,.slice Az 0 cz],.agg #[.int .i64 0,.string ⟨#[]⟩,.int .i64 0,.int .i64 0,.string ⟨#[]⟩,.slice none 0 0]] w22 _:=K0;have K:=zz K0;go_wp2_with fail;refine Zs.call Z K.out ?_;clear z0 z1 z2 z3 z4 z5 K0 K Z;intro w23 Z;go_wp2;go_ret;exact⟨rfl,Z.out.low⟩
end Go.Proofs.YtcebmphappfjjaaGreatDoor
