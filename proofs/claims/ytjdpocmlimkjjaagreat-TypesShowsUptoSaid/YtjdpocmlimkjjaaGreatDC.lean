/- TypesShows, for every input whose bulk is at most 1048576: the call returns true, and each argument reads afterwards as it read before. Conditions: the bound on the bulk of the arguments. -/
import Derived.Test.YtjdpocmlimkjjaaGreatQ17
import Derived.Test.YtjdpocmlimkjjaaGreatDA
import Derived.Test.YtjdpocmlimkjjaaGreatQ14
import Derived.Test.YtjdpocmlimkjjaaGreatQ52
import Derived.Test.YtjdpocmlimkjjaaGreatQ29
import Derived.Test.YtjdpocmlimkjjaaGreatQ21
import Derived.Test.YtjdpocmlimkjjaaGreatQ30
import Derived.Test.YtjdpocmlimkjjaaGreatDB
import Derived.Lib.QuietBelow
import Derived.WalkKit
import Derived.ProofKit
import Derived.OpenShut
import Derived.Carry
import Derived.JoinedCond
import Derived.ChangeMaps5
set_option maxHeartbeats 32000000
set_option maxRecDepth 100000
namespace Go.Proofs.YtjdpocmlimkjjaaGreat
open Go.RowKit
mutual
def ydj:Nd→Int→Int
 |.mk _ t _ _ l,d=>if d<0 then 100000 else ydk l (1+((t.size / 50:Nat):Int)) (d-1)
def ydk:List Nd→Int→Int→Int
 |[],out,_=>out
 |x::r,out,d=>if out≤300 then ydk r (out+ydj x d) d else out
end
mutual
def Nd.nsz:Nd→Nat
 |.mk _ t _ _ l=>1+t.size+ydl l
def ydl:List Nd→Nat
 |[]=>0
 |x::r=>x.nsz+ydl r
end
theorem ydm (k:Int) (t:ByteArray) (n a:Int) (l:List Nd):(Nd.mk k t n a l).nsz=1+t.size+ydl l:=by rw[Nd.nsz]
theorem ydn (x:Nd) (r:List Nd):ydl (x::r)=x.nsz+ydl r:=by rw[ydl]
theorem ydo:ydl []=0:=by rw[ydl]
theorem ydp:∀{l:List Nd} {x:Nd},x∈l→x.nsz≤ydl l
 |y::r,x,h=>by
  rw[ydn];rcases List.mem_cons.1 h with rfl|h
  ·omega
  ·have:=ydp h;omega
theorem ydq (x:Nd):1≤x.nsz:=by obtain⟨k,t,n,a,l⟩:=x;rw[ydm];omega
theorem ydr:∀l:List Nd,l.length≤ydl l
 |[]=>by simp
 |x::r=>by rw[ydn,List.length_cons];have:=ydr r;have:=ydq x;omega
theorem yds:∀x:Nd,x.size≤x.nsz
 |.mk k t n a l=>by
  have h:∀q:List Nd,(∀y∈q,y.size≤y.nsz)→zaq q≤ydl q:=by
   intro q
   induction q with
   |nil=>intro _;rw[zaI,ydo];exact Nat.le_refl _
   |cons y r ih=>intro h;rw[zat,ydn];have:=h y (by simp);have:=ih (λz hz=>h z (by simp[hz]));omega
  rw[zaE,ydm];have:=h l (λy _hy=>yds y);omega
theorem ydt (x:Nd) (r:List Nd) (out d:Int):ydk (x::r) out d=if out≤300 then ydk r (out+ydj x d) d else out:=by rw[ydk]
theorem ydu (out d:Int):ydk [] out d=out:=by rw[ydk]
mutual
theorem ydv:∀(x:Nd) (d:Int),0≤ydj x d∧ydj x d≤100000*(x.nsz:Int)
 |.mk k t n a l,d=>by
  have:=ydw l (1+((t.size / 50:Nat):Int)) (d-1);rw[ydj,ydm]
  split
  ·omega
  ·omega
theorem ydw:∀(l:List Nd) (out d:Int),out≤ydk l out d∧ydk l out d≤out+100000*(ydl l:Int)
 |[],out,d=>by rw[ydk,ydl];simp
 |x::r,out,d=>by
  have h1:=ydv x d;have h2:=ydw r (out+ydj x d) d;rw[ydk,ydn]
  split
  ·omega
  ·omega
end
mutual
theorem ydx:∀(x:Nd) (d:Int),ydj x d≤300→x.fit=true
 |.mk k t n a l,d,h=>by
  rw[ydj] at h
  split at h
  ·omega
  ·have h1:=ydw l (1+((t.size / 50:Nat):Int)) (d-1);have h2:=ydy l _ _ (by omega) h;rw[Nd.fit,h2,decide_eq_true (by omega)]
   rfl
theorem ydy:∀(l:List Nd) (out d:Int),0≤out→ydk l out d≤300→fitL l=true
 |[],_,_,_,_=>by rw[fitL]
 |x::r,out,d,h0,h=>by
  have h3:=ydv x d;rw[ydk] at h
  split at h
  ·have h1:=ydw r (out+ydj x d) d;have h2:=ydy r _ _ (by omega) h;rw[fitL,ydx x d (by omega),h2];rfl
  ·omega
end
def ydz (x:Nd):Prop:=∀(d:Int) (A:Option Addr) (c:Nat) (w:World),-1≤d→d≤100→x.nsz≤4194304→Rd (Lt w.heap.size) w (ns x.kids) (.slice A x.kids.length c)→
 Calls Tryz.prog 42 #[.agg #[.int .i64 x.kind,.string x.text,.int .i64 x.n,.int .i64 x.at',.slice A x.kids.length c],.int .i64 d] w λe w'=>e=.returned (.int .i64 (ydj x d))∧Below w.heap.size w w'
theorem yea (k:Int) (t:ByteArray) (n a:Int) (l:List Nd) (IH:∀x∈l,ydz x):ydz (.mk k t n a l):=by
 intro d A c w hd1 hd2 hsz h;replace h:Rd (Lt w.heap.size) w (ns l) (.slice A l.length c):=h
 show Calls Tryz.prog 42 #[.agg #[.int .i64 k,.string t,.int .i64 n,.int .i64 a,.slice A l.length c],.int .i64 d] w λe w'=>e=.returned (.int .i64 (ydj (.mk k t n a l) d))∧Below w.heap.size w w'
 rw[ydm] at hsz;have hbl:=ydr l;have hl:=zaD h;have hn:l.length≤9223372036854775807:=Nat.le_trans hl.2.1 hl.2.2;obtain⟨V,hV⟩:∃V,ydj (.mk k t n a l) d=V:=⟨_,rfl⟩;rw[hV];rw[ydj] at hV;obtain⟨w1,h1,b1,c1⟩:=zai w #[.int .i64 k,.string t,.int .i64 n,.int .i64 a,.slice A l.length c] 25;have x1:w1.cell? ⟨w.heap.size,1,none⟩=some (.string t):=c1.cell 1;have HC:=zz c1;have HB1:=zz b1;have HR:=zz h;have HI:=zz IH;obtain⟨z,hz⟩:∃z:Nat,t.size / 50=z:=⟨_,rfl⟩;have hq0:((t.size:Int).tdiv 50)=(z:Int):=by rw[Int.tdiv_eq_ediv_of_nonneg (by omega)];omega
 have hz1:z≤4194304:=by omega
 have hq1:IntKind.i64.wrap ((t.size:Int).tdiv 50)=(z:Int):=by rw[hq0];exact IntWalk.i64_in _ (by omega)
 have hq2:IntKind.i64.wrap (1+(z:Int))=1+(z:Int):=IntWalk.i64_in _ (by omega);rw[hz] at hV;clear b1 c1 hl h IH hz
 by_cases hd:d<0
 ·rw[if_pos hd] at hV;have HE:=zz hV;clear hV;go_enter Tryz.func42,Tryz.ntmps42;go_wp2_with fail;go_ret;exact⟨by rw[←HE.out];rfl,HB1.out⟩
 ·rw[if_neg hd] at hV;have hwd:IntKind.i64.wrap (d-1)=d-1:=IntWalk.i64_in _ (by omega);have HA0:Hid (∃v:Int,1+(z:Int)=v∧0≤v∧v+100000*(ydl (l.drop 0):Int)≤1000000000000∧ydk (l.drop 0) v (d-1)=V):=zz ⟨_,rfl,by omega,by rw[List.drop_zero];omega,hV⟩;clear hV;have HD0:Hid (Below w1.heap.size w1 w1):=zz (Below.refl _ _);go_enter Tryz.func42,Tryz.ntmps42;go_wp2_with fail;clear h1 x1 hq0 hq1 hq2
  go_loopw [5,6] (λsv s wr=>∃(i:Nat) (v:Int),i≤l.length∧sv=.int .i64 v∧s=.int .i64 i∧0≤v∧v+100000*(ydl (l.drop i):Int)≤1000000000000∧Hid (ydk (l.drop i) v (d-1)=V)∧Hid (Below w1.heap.size w1 wr)) (λ_ s _=>l.length-(intOf s).toNat)
  case atStart=>
   obtain⟨v,rfl,hv,hb,hq⟩:=HA0.out;exact⟨0,_,by omega,rfl,rfl,hv,hb,zz hq,HD0⟩
  case round=>
   clear HA0 HD0;obtain⟨i,v,hi,rfl,rfl,hv,hvb,HA,HD⟩:=hrel;have sB:=HD.out.size;have HBW:=zz (zab HB1.out HD.out HB1.out.size);have z4:wr.cell? ⟨w.heap.size,4,none⟩=some (.slice A l.length c):=(zaa HD.out HC.out).cell 4
   by_cases hlt:i<l.length
   ·have hin:(i:Int)<l.length:=by omega
    obtain⟨b,off,y,e,hlb,hget,Ay,cy,p0,p1,p2,p3,p4,r5⟩:=zbN (HR.out.belows HBW.out) hlt;subst e;have q:=HA.out;rw[zak hget,ydt] at q;rw[zak hget,ydn] at hvb
    by_cases h300:v≤300
    ·rw[if_pos h300] at q;have hm:=List.mem_of_getElem? hget;have hy:=ydp hm;have hw1:=ydv y (d-1);have KU:=zz (HI.out y hm (d-1) Ay cy wr (by omega) (by omega) (by omega) (r5.belows (Below.refl _ _)));obtain⟨x,hx⟩:∃x,ydj y (d-1)=x:=⟨_,rfl⟩;rw[hx] at q KU hw1;have hwx:IntKind.i64.wrap (v+x)=v+x:=IntWalk.i64_in _ (by omega);have HQ:=zz q;have hvx:0≤v+x:=by omega
     have hvb2:v+x+100000*(ydl (l.drop (i+1)):Int)≤1000000000000:=by omega
     clear HA r5 hget hlb q hx hm hw1 hy hvb;go_wp2_with fail;(with_reducible refine KU.out.mono ?_);rintro e w4 ⟨rfl,hb4⟩;have HD2:=zz (zab HD.out hb4 HD.out.size);clear hb4;go_wp2_with fail;exact⟨⟨i+1,v+x,by omega,rfl,by go_num,hvx,hvb2,HQ,HD2⟩,by simp[intOf];omega⟩
    ·rw[if_neg h300] at q;have HQ:=zz q;clear HA r5 hget hlb q hvb;go_wp2_with fail;go_ret;exact⟨by rw[←HQ.out];rfl,HBW.out⟩
   ·have q:=HA.out;rw[List.drop_eq_nil_of_le (by omega),ydu] at q;have HQ:=zz q;clear HA q;go_wp2_with fail;go_ret;exact⟨by rw[←HQ.out];rfl,HBW.out⟩
theorem yeb:∀x:Nd,ydz x
 |.mk k t n a l=>yea k t n a l (λx _hx=>yeb x)
theorem yec (x:Nd) (A:Option Addr) (c:Nat) (w:World) (hsz:x.nsz≤4194304) (h:Rd (Lt w.heap.size) w (ns x.kids) (.slice A x.kids.length c)) :
 Calls Tryz.prog 14 #[.agg #[.int .i64 x.kind,.string x.text,.int .i64 x.n,.int .i64 x.at',.slice A x.kids.length c]] w λe w'=>e=.returned (.bool (decide (ydj x 45≤300)))∧Below w.heap.size w w':=by
 obtain⟨w1,h1,b1,c1⟩:=zai w #[.int .i64 x.kind,.string x.text,.int .i64 x.n,.int .i64 x.at',.slice A x.kids.length c] 25;obtain⟨x0,x1,x2,x3,x4⟩:=c1.c5;have K:=zz (yeb x 45 A c w1 (by omega) (by omega) hsz (h.belows b1));have HB1:=zz b1;clear b1 c1 h;go_enter Tryz.func14,Tryz.ntmps14;go_wp2_with fail;(with_reducible refine K.out.mono ?_);rintro e w2 ⟨rfl,hb⟩;have HB2:=zz (zab HB1.out hb HB1.out.size);clear hb;go_wp2_with fail;go_ret;exact⟨rfl,HB2.out⟩
end Go.Proofs.YtjdpocmlimkjjaaGreat
namespace Go.Proofs.YtjdpocmlimkjjaaGreat
open Go.RowKit
section
variable {H:Type} {enc:TypeId × Value→H} {W:World}
theorem yed {l:List Value} {k n:Nat} {xs:List Value} (h:(l.drop k).take n=xs) (j:Nat) (hj:j<xs.length):l[k+j]?=xs[j]?:=by
 have:=congrArg (λm=>m[j]?) h
 have hn:j<n:=by
  have h2:=congrArg List.length h;rw[List.length_take] at h2;omega
 simpa [List.getElem?_take,List.getElem?_drop,hn] using this
theorem yee:∀l:List Nd,ydl l=(l.map Nd.nsz).sum
 |[]=>by rw[ydo];rfl
 |v::r=>by rw[ydn,yee r];rfl
theorem yef (m:Nat) (ih:∀(cs:List Value) (x:DataW H × List MemPlace),DataW.trod enc Tryz.prog W 0 (λ_=>true) true m 23 cs=some x→∃A c,∃l:List Nd,cs=[.slice A l.length c]∧Rd (Lt W.heap.size) W (ns l) (.slice A l.length c)∧ydl l+1≤Rows.uptoBulk x.1)
 (cs:List Value) (x:DataW H × List MemPlace) (hx:DataW.trod enc Tryz.prog W 0 (λ_=>true) true (m+1) 25 cs=some x) :
 ∃(a:Nd) (A:Option Addr) (c:Nat),cs=[.int .i64 a.kind,.string a.text,.int .i64 a.n,.int .i64 a.at',.slice A a.kids.length c]∧Rd (Lt W.heap.size) W (ns a.kids) (.slice A a.kids.length c)∧a.nsz≤Rows.uptoBulk x.1:=by
 obtain⟨xs,m',hm,rfl,hlen,hxs,hfl⟩:=DataW.trod_struct Tryz.underlying25 hx;obtain rfl:m=m':=by omega
 have g0:DataW.trod enc Tryz.prog W 0 (λ_=>true) true m 3 ((cs.drop 0).take (Tryz.prog.cellsOf 3))=xs[0]?:=hfl 0 _ rfl;have g1:DataW.trod enc Tryz.prog W 0 (λ_=>true) true m 9 ((cs.drop 1).take (Tryz.prog.cellsOf 9))=xs[1]?:=hfl 1 _ rfl;have g2:DataW.trod enc Tryz.prog W 0 (λ_=>true) true m 3 ((cs.drop 2).take (Tryz.prog.cellsOf 3))=xs[2]?:=hfl 2 _ rfl;have g3:DataW.trod enc Tryz.prog W 0 (λ_=>true) true m 3 ((cs.drop 3).take (Tryz.prog.cellsOf 3))=xs[3]?:=hfl 3 _ rfl;have g4:DataW.trod enc Tryz.prog W 0 (λ_=>true) true m 23 ((cs.drop 4).take (Tryz.prog.cellsOf 23))=xs[4]?:=hfl 4 _ rfl;have hs:xs.length=5:=hxs
 obtain⟨x0,x1,x2,x3,x4,rfl⟩:∃x0 x1 x2 x3 x4,xs=[x0,x1,x2,x3,x4]:=by
  match xs,hs with
  |[x0,x1,x2,x3,x4],_=>exact⟨_,_,_,_,_,rfl⟩
 have cc3:Tryz.prog.cellsOf 3=1:=by kernel_rfl
 have cc9:Tryz.prog.cellsOf 9=1:=by kernel_rfl
 have cc30:Tryz.prog.cellsOf 23=1:=by kernel_rfl
 obtain⟨kd,e0,f0,_⟩:=DataW.trod_int Tryz.underlying3 g0;obtain⟨t,e1,f1,_⟩:=DataW.trod_string Tryz.underlying9 g1;obtain⟨n,e2,f2,_⟩:=DataW.trod_int Tryz.underlying3 g2;obtain⟨a,e3,f3,_⟩:=DataW.trod_int Tryz.underlying3 g3;obtain⟨A',c',l',e4,r4,b4⟩:=ih _ _ g4;rw[cc3] at e0 e2 e3;rw[cc9] at e1;rw[cc30] at e4;have hlen:cs.length=5:=hlen.trans (by kernel_rfl);refine⟨.mk kd t n a l',A',c',?_,r4,?_⟩
 ·apply List.ext_getElem?;intro j
  match j with
  |0=>exact ybi e0
  |1=>exact ybi e1
  |2=>exact ybi e2
  |3=>exact ybi e3
  |4=>exact ybi e4
  |j+5=>rw[List.getElem?_eq_none (by omega),List.getElem?_eq_none (by simp)]
 ·rw[ydm];subst f0 f1 f2 f3;simp only[List.map_cons,List.map_nil,Rows.uptoBulk,Rows.uptoBulkAll];have:t.data.toList.length=t.size:=rfl;omega
theorem yeg:∀(N fuel:Nat),fuel≤N→∀(cs:List Value) (x:DataW H × List MemPlace),DataW.trod enc Tryz.prog W 0 (λ_=>true) true fuel 23 cs=some x→
 ∃A c,∃l:List Nd,cs=[.slice A l.length c]∧Rd (Lt W.heap.size) W (ns l) (.slice A l.length c)∧ydl l+1≤Rows.uptoBulk x.1:=by
 intro N
 induction N with
 |zero=>
  intro fuel hf cs x h;obtain rfl:fuel=0:=by omega
  simp[DataW.trod] at h
 |succ N ih=>
  intro fuel hf cs x h;cases fuel with
  |zero=>simp[DataW.trod] at h
  |succ n=>
   obtain⟨A,c,l,h1,h2,h3,_⟩:=ybh (k:=5) Tryz.underlying23 (by kernel_rfl) (by omega) Nd.row znI zfB Nd.nsz (λ_=>True) (λcs x hx=>by
    cases n with
    |zero=>simp[DataW.trod] at hx
    |succ m=>
     obtain⟨a,A,c,rfl,hr,hb⟩:=yef m (λcs x=>ih m (by omega) cs x) cs x hx;exact⟨a,λj u hj=>zbM hr j u hj,hb,trivial⟩) h
   exact⟨A,c,l,h1,h2,by rw[yee];exact h3⟩
theorem yeh (fuel:Nat) (cs:List Value) (x:DataW H × List MemPlace) (hx:DataW.trod enc Tryz.prog W 0 (λ_=>true) true fuel 25 cs=some x) :
 ∃(a:Nd) (A:Option Addr) (c:Nat),cs=[.int .i64 a.kind,.string a.text,.int .i64 a.n,.int .i64 a.at',.slice A a.kids.length c]∧Rd (Lt W.heap.size) W (ns a.kids) (.slice A a.kids.length c)∧a.nsz≤Rows.uptoBulk x.1:=by
 cases fuel with
 |zero=>simp[DataW.trod] at hx
 |succ m=>exact yef m (λcs x=>yeg m m (Nat.le_refl _) cs x) cs x hx
theorem yei (fuel:Nat) (cs:List Value) (x:DataW H × List MemPlace) (hx:DataW.trod enc Tryz.prog W 0 (λ_=>true) true fuel 66 cs=some x):∃f:Fld,(∀j u,cs[j]?=some u→Rd (Lt W.heap.size) W (rowF f j) u)∧0≤Rows.uptoBulk x.1∧True:=by
 obtain⟨xs,m,hm,rfl,hlen,hxs,hfl⟩:=DataW.trod_struct Tryz.underlying66 hx;have g0:DataW.trod enc Tryz.prog W 0 (λ_=>true) true m 9 ((cs.drop 0).take (Tryz.prog.cellsOf 9))=xs[0]?:=hfl 0 _ rfl;have g1:DataW.trod enc Tryz.prog W 0 (λ_=>true) true m 55 ((cs.drop 1).take (Tryz.prog.cellsOf 55))=xs[1]?:=hfl 1 _ rfl;have hs:xs.length=2:=hxs
 obtain⟨x0,x1,rfl⟩:∃x0 x1,xs=[x0,x1]:=by
  match xs,hs with
  |[x0,x1],_=>exact⟨_,_,rfl⟩
 have cc9:Tryz.prog.cellsOf 9=1:=by kernel_rfl
 obtain⟨t,e0,_,_⟩:=DataW.trod_string Tryz.underlying9 g0;obtain⟨a,A,c,e1,r1,_⟩:=ybm _ _ _ g1;rw[cc9] at e0;have hlen:cs.length=4:=hlen.trans (by kernel_rfl);refine⟨⟨t,a⟩,λj u hu=>?_,Nat.zero_le _,trivial⟩
 match j,hu with
 |0,hu=>rw[show cs[0]?=some (.string t) from ybi e0] at hu;injection hu with hu;subst hu;exact rfl
 |1,hu=>rw[show cs[1]?=some (.int .i64 a.kind) from yed e1 0 (by simp)] at hu;injection hu with hu;subst hu;exact rfl
 |2,hu=>rw[show cs[2]?=some (.string a.name) from yed e1 1 (by simp)] at hu;injection hu with hu;subst hu;exact rfl
 |3,hu=>rw[show cs[3]?=some (.slice A a.args.length c) from yed e1 2 (by simp)] at hu;injection hu with hu;subst hu;exact r1
 |j+4,hu=>rw[List.getElem?_eq_none (by omega)] at hu;cases hu
theorem yej {t e:TypeId} {k n:Nat} {cs:List Value} {x:DataW H × List MemPlace} (ht:Tryz.prog.underlying t=some (.slice e)) (hc:Tryz.prog.cellsOf e=k) (hk:0<k) {α:Type} (row:α→Nat→D)
 (helem:∀(n:Nat) (cs:List Value) (x:DataW H × List MemPlace),DataW.trod enc Tryz.prog W 0 (λ_=>true) true n e cs=some x→∃a:α,(∀j u,cs[j]?=some u→Rd (Lt W.heap.size) W (row a j) u)∧0≤Rows.uptoBulk x.1∧True)
 (h:DataW.trod enc Tryz.prog W 0 (λ_=>true) true n t cs=some x):∃A c,∃l:List α,cs=[.slice A l.length c]∧Rd (Lt W.heap.size) W (slG k row l) (.slice A l.length c):=by
 cases n with
 |zero=>simp[DataW.trod] at h
 |succ n=>
  obtain⟨A,c,l,h1,h2,_,_⟩:=ybh (k:=k) ht hc hk row (zap row) (λl i a hi=>zax hi) (λ_=>0) (λ_=>True) (λcs x hx=>helem n cs x hx) h;exact⟨A,c,l,h1,h2⟩
theorem yek (fuel:Nat) (cs:List Value) (x:DataW H × List MemPlace) (hx:DataW.trod enc Tryz.prog W 0 (λ_=>true) true fuel 46 cs=some x):∃f:Ctr,(∀j u,cs[j]?=some u→Rd (Lt W.heap.size) W (zfx f j) u)∧0≤Rows.uptoBulk x.1∧True:=by
 obtain⟨xs,m,hm,rfl,hlen,hxs,hfl⟩:=DataW.trod_struct Tryz.underlying46 hx;have g0:DataW.trod enc Tryz.prog W 0 (λ_=>true) true m 9 ((cs.drop 0).take (Tryz.prog.cellsOf 9))=xs[0]?:=hfl 0 _ rfl;have g1:DataW.trod enc Tryz.prog W 0 (λ_=>true) true m 44 ((cs.drop 1).take (Tryz.prog.cellsOf 44))=xs[1]?:=hfl 1 _ rfl;have hs:xs.length=2:=hxs
 obtain⟨x0,x1,rfl⟩:∃x0 x1,xs=[x0,x1]:=by
  match xs,hs with
  |[x0,x1],_=>exact⟨_,_,rfl⟩
 have cc9:Tryz.prog.cellsOf 9=1:=by kernel_rfl
 have cc1:Tryz.prog.cellsOf 44=1:=by kernel_rfl
 obtain⟨t,e0,_,_⟩:=DataW.trod_string Tryz.underlying9 g0;obtain⟨A,c,l,e1,r1⟩:=yej (k:=4) Tryz.underlying44 (by kernel_rfl) (by omega) rowF (λn cs x h=>yei n cs x h) g1;rw[cc9] at e0;rw[cc1] at e1;have hlen:cs.length=2:=hlen.trans (by kernel_rfl);refine⟨⟨t,l⟩,λj u hu=>?_,Nat.zero_le _,trivial⟩
 match j,hu with
 |0,hu=>rw[show cs[0]?=some (.string t) from ybi e0] at hu;injection hu with hu;subst hu;exact rfl
 |1,hu=>rw[show cs[1]?=some (.slice A l.length c) from ybi e1] at hu;injection hu with hu;subst hu;exact r1
 |j+2,hu=>rw[List.getElem?_eq_none (by omega)] at hu;cases hu
theorem yel (fuel:Nat) (cs:List Value) (x:DataW H × List MemPlace) (hx:DataW.trod enc Tryz.prog W 0 (λ_=>true) true fuel 41 cs=some x):∃f:Dcl,(∀j u,cs[j]?=some u→Rd (Lt W.heap.size) W (zfq f j) u)∧0≤Rows.uptoBulk x.1∧True:=by
 obtain⟨xs,m,hm,rfl,hlen,hxs,hfl⟩:=DataW.trod_struct Tryz.underlying41 hx;have g0:DataW.trod enc Tryz.prog W 0 (λ_=>true) true m 9 ((cs.drop 0).take (Tryz.prog.cellsOf 9))=xs[0]?:=hfl 0 _ rfl;have g1:DataW.trod enc Tryz.prog W 0 (λ_=>true) true m 4 ((cs.drop 1).take (Tryz.prog.cellsOf 4))=xs[1]?:=hfl 1 _ rfl;have g2:DataW.trod enc Tryz.prog W 0 (λ_=>true) true m 39 ((cs.drop 2).take (Tryz.prog.cellsOf 39))=xs[2]?:=hfl 2 _ rfl;have hs:xs.length=3:=hxs
 obtain⟨x0,x1,x2,rfl⟩:∃x0 x1 x2,xs=[x0,x1,x2]:=by
  match xs,hs with
  |[x0,x1,x2],_=>exact⟨_,_,_,rfl⟩
 have cc9:Tryz.prog.cellsOf 9=1:=by kernel_rfl
 have cc4:Tryz.prog.cellsOf 4=1:=by kernel_rfl
 have cc1:Tryz.prog.cellsOf 39=1:=by kernel_rfl
 obtain⟨t,e0,_,_⟩:=DataW.trod_string Tryz.underlying9 g0;obtain⟨r,e1,_⟩:=DataW.trod_bool Tryz.underlying4 g1;obtain⟨A,c,l,e2,r2⟩:=yej (k:=2) Tryz.underlying39 (by kernel_rfl) (by omega) zfx (λn cs x h=>yek n cs x h) g2;rw[cc9] at e0;rw[cc4] at e1;rw[cc1] at e2;have hlen:cs.length=3:=hlen.trans (by kernel_rfl);refine⟨⟨t,r,l⟩,λj u hu=>?_,Nat.zero_le _,trivial⟩
 match j,hu with
 |0,hu=>rw[show cs[0]?=some (.string t) from ybi e0] at hu;injection hu with hu;subst hu;exact rfl
 |1,hu=>rw[show cs[1]?=some (.bool r) from ybi e1] at hu;injection hu with hu;subst hu;exact rfl
 |2,hu=>rw[show cs[2]?=some (.slice A l.length c) from ybi e2] at hu;injection hu with hu;subst hu;exact r2
 |j+3,hu=>rw[List.getElem?_eq_none (by omega)] at hu;cases hu
theorem yem (fuel:Nat) (cs:List Value) (x:DataW H × List MemPlace) (hx:DataW.trod enc Tryz.prog W 0 (λ_=>true) true fuel 29 cs=some x):∃A c,∃l:List Dcl,cs=[.slice A l.length c]∧Rd (Lt W.heap.size) W (slG 3 zfq l) (.slice A l.length c):=
 yej Tryz.underlying29 (by kernel_rfl) (by omega) zfq (λn cs x h=>yel n cs x h) hx
def yen (s:ByteArray) (_:Nat):D:=.str s
theorem yeo (fuel:Nat) (cs:List Value) (x:DataW H × List MemPlace) (hx:DataW.trod enc Tryz.prog W 0 (λ_=>true) true fuel 56 cs=some x):∃A c,∃l:List ByteArray,cs=[.slice A l.length c]∧Rd (Lt W.heap.size) W (slG 1 yen l) (.slice A l.length c):=
 yej Tryz.underlying56 (by kernel_rfl) (by omega) yen (λn cs x h=>by
  obtain⟨t,e,_,_⟩:=DataW.trod_string Tryz.underlying9 h;subst e
  exact⟨t,λj u hj=>by
   match j,hj with
   |0,hj=>injection hj with hj;subst hj;exact rfl
   |j+1,hj=>simp at hj,Nat.zero_le _,trivial⟩) hx
end
end Go.Proofs.YtjdpocmlimkjjaaGreat
namespace Go.Proofs.YtjdpocmlimkjjaaGreat
open Go.RowKit Go.Sort
theorem yep:∀t:Ty,t.bsz≤2097152→t.fit=true
 |.mk k n a=>λh=>by
  rw[yad] at h
  have hl:∀l:List Ty,yac l≤2097152→(∀x∈l,x.bsz≤2097152→x.fit=true)→zlZ l=true:=by
   intro l
   induction l with
   |nil=>intro _ _;rw[zlZ]
   |cons x r ih=>
    intro h1 h2;rw[yae] at h1;rw[zlZ,h2 x (by simp) (by omega),ih (by omega) (λy hy=>h2 y (by simp[hy]))]
    rfl
  rw[Ty.fit,decide_eq_true (by omega),hl a (by omega) (λx _hx=>yep x)]
  rfl
structure ShA (w W:World) (a:Ty) (Aa:Option Addr) (ca:Nat) (b:Ty) (Ab:Option Addr) (cb:Nat) (n:Nd) (An:Option Addr) (cn:Nat):Prop where
 low:Below w.heap.size w W
 ba:zac W w.heap.size #[.int .i64 a.kind,.string a.name,.slice Aa a.args.length ca] 55
 bb:zac W (w.heap.size+1) #[.int .i64 b.kind,.string b.name,.slice Ab b.args.length cb] 55
 bn:zac W (w.heap.size+2) #[.int .i64 n.kind,.string n.text,.int .i64 n.n,.int .i64 n.at',.slice An n.kids.length cn] 25
section
variable {w W W':World} {a:Ty} {Aa:Option Addr} {ca:Nat} {b:Ty} {Ab:Option Addr} {cb:Nat} {n:Nd} {An:Option Addr} {cn:Nat}
theorem ShA.below (h:ShA w W a Aa ca b Ab cb n An cn) (k:Below W.heap.size W W'):ShA w W' a Aa ca b Ab cb n An cn:=⟨zab h.low k h.low.size,zaa k h.ba,zaa k h.bb,zaa k h.bn⟩
theorem ShA.chg {M:Nat→Prop} (h:ShA w W a Aa ca b Ab cb n An cn) (k:Chg M W W') (hm:∀q,M q→w.heap.size+3≤q):ShA w W' a Aa ca b Ab cb n An cn:=
 ⟨h.low.trans (k.below h.low.size (λq hq=>by have:=hm q hq;omega)),h.ba.keep k (λhq=>by have:=hm _ hq;omega),h.bb.keep k (λhq=>by have:=hm _ hq;omega),h.bn.keep k (λhq=>by have:=hm _ hq;omega)⟩
theorem ShA.a0 (h:ShA w W a Aa ca b Ab cb n An cn):W.cell? ⟨w.heap.size,0,none⟩=some (.int .i64 a.kind):=h.ba.cell 0
theorem ShA.a1 (h:ShA w W a Aa ca b Ab cb n An cn):W.cell? ⟨w.heap.size,1,none⟩=some (.string a.name):=h.ba.cell 1
theorem ShA.a2 (h:ShA w W a Aa ca b Ab cb n An cn):W.cell? ⟨w.heap.size,2,none⟩=some (.slice Aa a.args.length ca):=h.ba.cell 2
theorem ShA.b0 (h:ShA w W a Aa ca b Ab cb n An cn):W.cell? ⟨w.heap.size+1,0,none⟩=some (.int .i64 b.kind):=h.bb.cell 0
theorem ShA.b1 (h:ShA w W a Aa ca b Ab cb n An cn):W.cell? ⟨w.heap.size+1,1,none⟩=some (.string b.name):=h.bb.cell 1
theorem ShA.b2 (h:ShA w W a Aa ca b Ab cb n An cn):W.cell? ⟨w.heap.size+1,2,none⟩=some (.slice Ab b.args.length cb):=h.bb.cell 2
theorem ShA.n0 (h:ShA w W a Aa ca b Ab cb n An cn):W.cell? ⟨w.heap.size+2,0,none⟩=some (.int .i64 n.kind):=h.bn.cell 0
theorem ShA.n1 (h:ShA w W a Aa ca b Ab cb n An cn):W.cell? ⟨w.heap.size+2,1,none⟩=some (.string n.text):=h.bn.cell 1
theorem ShA.n2 (h:ShA w W a Aa ca b Ab cb n An cn):W.cell? ⟨w.heap.size+2,2,none⟩=some (.int .i64 n.n):=h.bn.cell 2
theorem ShA.n3 (h:ShA w W a Aa ca b Ab cb n An cn):W.cell? ⟨w.heap.size+2,3,none⟩=some (.int .i64 n.at'):=h.bn.cell 3
theorem ShA.n4 (h:ShA w W a Aa ca b Ab cb n An cn):W.cell? ⟨w.heap.size+2,4,none⟩=some (.slice An n.kids.length cn):=h.bn.cell 4
end
structure ShP (w W:World) (pb:Nat) (T:List Dcl) (At:Option Addr) (ct:Nat) (K:List Actr) (Ap:Option Addr) (cp:Nat):Prop where
 pl:w.heap.size+3≤pb
 box:zac W pb #[.slice At T.length ct,.slice none 0 0,.slice none 0 0,.slice Ap K.length cp] 34
 own:OwnS (λq=>pb+1≤q) 50 7 K.length (zap zhp K) W (.slice Ap K.length cp)
section
variable {w W W':World} {a:Ty} {Aa:Option Addr} {ca:Nat} {b:Ty} {Ab:Option Addr} {cb:Nat} {n:Nd} {An:Option Addr} {cn:Nat} {pb:Nat} {T:List Dcl} {At:Option Addr} {ct:Nat} {K:List Actr} {Ap:Option Addr} {cp:Nat}
theorem ShP.below (h:ShP w W pb T At ct K Ap cp) (k:Below W.heap.size W W'):ShP w W' pb T At ct K Ap cp:=⟨h.pl,zaa k h.box,h.own.below k⟩
theorem yeq {L:List Actr} {A':Option Addr} {c':Nat} (hA:ShA w W a Aa ca b Ab cb n An cn) (hP:ShP w W pb T At ct K Ap cp) (hO:OwnS (λq=>pb+1≤q) 50 7 L.length (zap zhp L) W' (.slice A' L.length c')) (hg:W.grownBy W' (Value.slice Ap K.length cp).ownBlock) :
 ShA w (W'.setCell ⟨pb,3,none⟩ (.slice A' L.length c')) a Aa ca b Ab cb n An cn∧ShP w (W'.setCell ⟨pb,3,none⟩ (.slice A' L.length c')) pb T At ct L A' c':=by
 have hp:=hP.pl;have hch:Chg (λq=>pb+1≤q) W W':=Chg.of_grown hg (λq hq=>(hP.own.below_own q hq).1);have hc2:Chg (λq=>q=pb) W' (W'.setCell ⟨pb,3,none⟩ (.slice A' L.length c')):=(Chg.refl (λq=>q=pb) W').setCell (p:=⟨pb,3,none⟩) (.inl rfl) _;refine⟨(hA.chg hch (λq hq=>by omega)).chg hc2 (λq hq=>by omega),hp,?_,hO.chg hc2 (λj hj _ hs=>by have:j=pb:=hj;have:pb+1≤j:=hs;omega)⟩;have:=(hP.box.keep hch (λhq=>by omega)).set 3 (.slice A' L.length c')
 simpa using this
theorem yer {W6:World} (hA:ShA w W6 a Aa ca b Ab cb n An cn) (hP:ShP w W6 pb T At ct K Ap cp) (x:ByteArray) (g:Nat) (hc:∀(j:Nat) (u:Value),([.string x,.slice none 0 0,.int .i64 0,.slice none 0 0,.slice none 0 0,.int .i64 0,.int .i64 0]:List Value)[j]?=some u→W6.cell? ((⟨g,0,none⟩:Addr).add j)=some u)
 {ops:Array Oper} {o:Oper} {e:Act} {K':Act→World→Prop} {Q:Exit→Act→World→Prop} {Ee:Prop} (hgd:o.guard=none) (s y:Operand) (ho:o.op=.call {callee:=.builtin .append,args:=#[s,y],argTypes:=#[32,32] })
 (hs:e.eval s=.slice Ap K.length cp) (hx:e.eval y=.slice (some ⟨g,0,none⟩) 1 1) (hlen:K.length≤2097152)
 (h:∀(LL:List Actr) A9 c9 w9,LL.length≤K.length+1→w9.cell? ⟨pb,3,none⟩=some (.slice Ap K.length cp)→w9.frozen? ⟨pb,3,none⟩=false→Hid (ShA w (w9.setCell ⟨pb,3,none⟩ (.slice A9 LL.length c9)) a Aa ca b Ab cb n An cn∧ShP w (w9.setCell ⟨pb,3,none⟩ (.slice A9 LL.length c9)) pb T At ct LL A9 c9)→K' (e.put o.dst (.slice A9 LL.length c9)) w9) :
 if Region.wanted o (yielded ops e.tmps)=true then Oper.wp Tryz.prog o e W6 K' Q else Ee:=by
 have hlt:=hP.box.lt;refine zbC zhp zoZ Tryz.underlying32 rfl (by omega) (by omega) hgd s y ho (λq=>pb+1≤q) (show pb+1≤_ by omega) (.slice Ap K.length cp) K hs hP.own ⟨g,0,none⟩ 1 (⟨x,[],[],[],0,0⟩:Actr) [.string x,.slice none 0 0,.int .i64 0,.slice none 0 0,.slice none 0 0,.int .i64 0,.int .i64 0] rfl hx hc (λj u hj=>zjx (x:=⟨x,[],[],[],0,0⟩) Rd.sl_nil Rd.sl_nil Rd.sl_nil j u hj) hlen ?_;intro v' w9 hO hg _;obtain⟨LL,hL⟩:∃L,K++[(⟨x,[],[],[],0,0⟩:Actr)]=L:=⟨_,rfl⟩;rw[hL] at hO;have zL:LL.length≤K.length+1:=by rw[←hL];simp
 obtain⟨A9,c9,rfl,_⟩:=hO.rd.sl_inv;have hch:Chg (λq=>pb+1≤q) _ w9:=Chg.of_grown hg (λq hq=>(hP.own.below_own q hq).1);have hbq:=hP.box.keep hch (λhq=>by omega);exact h LL A9 c9 w9 zL (hbq.cell 3) (hbq.fz 3) (zz (yeq hA hP hO hg))
theorem yes {W6:World} (hA:ShA w W6 a Aa ca b Ab cb n An cn) (hP:ShP w W6 pb T At ct K Ap cp) (x:ByteArray) (g:Nat) (hc:∀(j:Nat) (u:Value),([.string x,.slice none 0 0,.int .i64 0,.slice none 0 0,.slice none 0 0,.int .i64 0,.int .i64 0]:List Value)[j]?=some u→W6.cell? ((⟨g,0,none⟩:Addr).add j)=some u)
 {ops:Array Oper} {o:Oper} {e:Act} {K':Act→World→Prop} {Q:Exit→Act→World→Prop} {Ee:Prop} (hgd:o.guard=none) (s y:Operand) (ho:o.op=.call {callee:=.builtin .append,args:=#[s,y],argTypes:=#[32,32] })
 (hs:e.eval s=.slice Ap K.length cp) (hx:e.eval y=.slice (some ⟨g,0,none⟩) 1 1) (hlen:K.length≤2097152)
 (h:∀(LL:List Actr) A9 c9 w9,LL.length≤K.length+1→w9.cell? ⟨pb,3,none⟩=some (.slice Ap K.length cp)→w9.frozen? ⟨pb,3,none⟩=false→Hid (ShA w (w9.setCell ⟨pb,3,none⟩ (.slice A9 LL.length c9)) a Aa ca b Ab cb n An cn∧ShP w (w9.setCell ⟨pb,3,none⟩ (.slice A9 LL.length c9)) pb T At ct LL A9 c9)→K' (e.put o.dst (.slice A9 LL.length c9)) w9) :
 if Region.wanted o (yielded ops e.tmps)=true then Oper.wp Tryz.prog o e W6.drew K' Q else Ee:=by
 have hlt:=hP.box.lt;refine zbK zhp zoZ Tryz.underlying32 rfl (by omega) (by omega) hgd s y ho (λq=>pb+1≤q) (show pb+1≤_ by omega) (.slice Ap K.length cp) K hs hP.own ⟨g,0,none⟩ 1 (⟨x,[],[],[],0,0⟩:Actr) [.string x,.slice none 0 0,.int .i64 0,.slice none 0 0,.slice none 0 0,.int .i64 0,.int .i64 0] rfl hx hc (λj u hj=>zjx (x:=⟨x,[],[],[],0,0⟩) Rd.sl_nil Rd.sl_nil Rd.sl_nil j u hj) hlen ?_;intro v' w9 hO hg _;obtain⟨LL,hL⟩:∃L,K++[(⟨x,[],[],[],0,0⟩:Actr)]=L:=⟨_,rfl⟩;rw[hL] at hO;have zL:LL.length≤K.length+1:=by rw[←hL];simp
 obtain⟨A9,c9,rfl,_⟩:=hO.rd.sl_inv;have hch:Chg (λq=>pb+1≤q) _ w9:=Chg.of_grown hg (λq hq=>(hP.own.below_own q hq).1);have hbq:=hP.box.keep hch (λhq=>by omega);exact h LL A9 c9 w9 zL (hbq.cell 3) (hbq.fz 3) (zz (yeq hA hP hO hg))
theorem ziu.one {o:Option Ty} {e:Ending} (h:ziu w o e W):Below w.heap.size w W∧∃A c,e=.returned (.tuple #[.agg #[.int .i64 (o.getD (.mk 0 ⟨#[]⟩ [])).kind,.string (o.getD (.mk 0 ⟨#[]⟩ [])).name,.slice A (o.getD (.mk 0 ⟨#[]⟩ [])).args.length c],.bool o.isSome])∧Rd (Lt W.heap.size) W (ys (o.getD (.mk 0 ⟨#[]⟩ [])).args) (.slice A (o.getD (.mk 0 ⟨#[]⟩ [])).args.length c):=by
 obtain⟨hb,h⟩:=h;refine⟨hb,?_⟩;cases o with
 |none=>exact⟨none,0,h,Rd.sl_nil⟩
 |some t=>
  obtain⟨A,c,e1,hr⟩:=h;exact⟨A,c,e1,hr.weaken (λq hq=>hq.2)⟩
theorem zqC.one {o:Option Nat} {e:Ending} (h:zqC w o e W):Below w.heap.size w W∧e=.returned (.tuple #[.int .i64 ((o.getD 0:Nat):Int),.bool o.isSome]):=by
 obtain⟨hb,h⟩:=h;cases o<;>exact⟨hb,h⟩
theorem zrZ.one {o:Option (ByteArray × Nat)} {e:Ending} (h:zrZ w o e W):Below w.heap.size w W∧e=.returned (.tuple #[.string (o.getD (⟨#[]⟩,0)).1,.int .i64 (((o.getD (⟨#[]⟩,0)).2:Nat):Int),.bool o.isSome]):=by
 obtain⟨hb,h⟩:=h;cases o<;>exact⟨hb,h⟩
structure ShT (W:World) (g:Nat) (t:Ty) (A:Option Addr) (c:Nat):Prop where
 box:zac W g #[.int .i64 t.kind,.string t.name,.slice A t.args.length c] 55
 rd:Rd (Lt W.heap.size) W (ys t.args) (.slice A t.args.length c)
theorem ShT.below {g:Nat} {t:Ty} {A:Option Addr} {c:Nat} (h:ShT W g t A c) (k:Below W.heap.size W W'):ShT W' g t A c:=⟨zaa k h.box,h.rd.belows k⟩
theorem yet:∀t:Ty,(zdq t).length+3≤12*t.bsz∧True
 |.mk k n a=>by
  have IH:∀x∈a,(zdq x).length+3≤12*x.bsz:=λx _hx=>(yet x).1
  have hF:∀(l:List Ty) (f:Bool),(∀x∈l,(zdq x).length+3≤12*x.bsz)→(funL l f).length≤12*yac l:=by
   intro l
   induction l with
   |nil=>intro f _;rw[funL];simp
   |cons x r ih=>
    intro f h;have h1:=h x (by simp);have h2:=ih false (λy hy=>h y (by simp[hy]));rw[zpd,yae]
    split
    ·rw[List.length_append];show 3+_≤_;omega
    ·rw[List.length_append,List.length_append];have:(if f=true then [] else (⟨#[44,32]⟩:ByteArray).data.toList).length≤2:=by cases f<;>simp
     omega
  have hA:=hF a true IH
  have hO:(oneL a).length≤12*yac a:=by
   cases a with
   |nil=>rw[oneL];simp
   |cons x r=>have:=IH x (by simp);rw[zoU,yae];omega
  have hn:n.data.toList.length=n.size:=rfl;rw[zdq,yad];refine⟨?_,trivial⟩
  split
  ·show 4+3≤_;omega
  ·split
   ·show 4+3≤_;omega
   ·split
    ·show 3+3≤_;omega
    ·split
     ·show 4+3≤_;omega
     ·split
      ·omega
      ·split
       ·rw[List.length_append];show 4+_+3≤_;omega
       ·split
        ·rw[List.length_append,List.length_append];simp only[List.length_cons,List.length_nil];omega
        ·split
         ·rw[List.length_append];show 4+_+3≤_;omega
         ·simp only[List.length_nil];omega
theorem yeu (t:Ty):(zdq t).length+3≤12*t.bsz:=(yet t).1
theorem yev:∀t:Ty,zsk t t=true
 |.mk k n a=>by
  have h:∀l:List Ty,(∀x∈l,zsk x x=true)→zqO l l=true:=by
   intro l
   induction l with
   |nil=>intro _;rw[zqO];intro a r b s h;cases h
   |cons x r ih=>intro h;rw[zqO,h x (by simp),ih (λy hy=>h y (by simp[hy]))];rfl
  rw[zsk,h a (λx _hx=>yev x)];simp
theorem ShP.q (h:ShP w W pb T At ct K Ap cp):W.cell? ⟨pb,0,none⟩=some (.slice At T.length ct)∧W.cell? ⟨pb,1,none⟩=some (.slice none 0 0)∧W.cell? ⟨pb,2,none⟩=some (.slice none 0 0)∧W.cell? ⟨pb,3,none⟩=some (.slice Ap K.length cp):=⟨h.box.cell 0,h.box.cell 1,h.box.cell 2,h.box.cell 3⟩
theorem ShP.names (h:ShP w W pb T At ct K Ap cp):zcb W 7 (K.map Actr.name) Ap K.length cp:=zcb.of (by omega) (λ_=>rfl) (h.own.rd.weaken (λq hq=>hq.2))
end
theorem yew (a b:Ty) (n:Nd) (T:List Dcl) (S:List ByteArray) (nm:ByteArray) (Aa Ab An At As:Option Addr) (ca cb cn ct cs:Nat) (w:World) (sa:a.bsz≤4194304) (sb:b.bsz≤4194304) (sn:n.nsz≤2097152)
 (ra:Rd (Lt w.heap.size) w (ys a.args) (.slice Aa a.args.length ca)) (rb:Rd (Lt w.heap.size) w (ys b.args) (.slice Ab b.args.length cb)) (rn:Rd (Lt w.heap.size) w (ns n.kids) (.slice An n.kids.length cn))
 (rT:Rd (Lt w.heap.size) w (slG 3 zfq T) (.slice At T.length ct)) (rS:Rd (Lt w.heap.size) w (slG 1 yen S) (.slice As S.length cs)) :
 Calls Tryz.prog 4 #[.agg #[.int .i64 a.kind,.string a.name,.slice Aa a.args.length ca],.agg #[.int .i64 b.kind,.string b.name,.slice Ab b.args.length cb],.agg #[.int .i64 n.kind,.string n.text,.int .i64 n.n,.int .i64 n.at',.slice An n.kids.length cn],.slice At T.length ct,.slice As S.length cs,.string nm] w λe w'=>e=.returned (.bool true)∧Below w.heap.size w w':=by
 obtain⟨w1,h1,b1,c1⟩:=zai w #[.int .i64 a.kind,.string a.name,.slice Aa a.args.length ca] 55;obtain⟨w2,h2,b2,c2⟩:=zai w1 #[.int .i64 b.kind,.string b.name,.slice Ab b.args.length cb] 55;obtain⟨w3,h3,b3,c3⟩:=zai w2 #[.int .i64 n.kind,.string n.text,.int .i64 n.n,.int .i64 n.at',.slice An n.kids.length cn] 25;have e1:w1.heap.size=w.heap.size+1:=by rw[←h1];exact World.size_alloc ..
 have e2:w2.heap.size=w.heap.size+2:=by rw[←h2,World.size_alloc,e1]
 have e3:w3.heap.size=w.heap.size+3:=by rw[←h3,World.size_alloc,e2]
 have HA:Hid (ShA w w3 a Aa ca b Ab cb n An cn):=zz ⟨zab (zab b1 b2 b1.size) b3 (Nat.le_trans b1.size b2.size),zaa b3 (zaa b2 c1),by have:=zaa b3 c2;rw[e1] at this;exact this,by have:=c3;rw[e2] at this;exact this⟩;have HE:=zz (And.intro e1 (And.intro e2 e3));have HRa:=zz ra;have HRb:=zz rb;have HRn:=zz rn;have HRT:=zz rT;have HRS:=zz rS;have KM:=zz (zoS w3);have lT:=(zci rT).2;have lS:=(zci rS).2;clear b1 b2 b3 c1 c2 c3 e1 e2 e3 ra rb rn rT rS;go_enter Tryz.func4,Tryz.ntmps4;go_wp2_with fail;clear h1 h2 h3;rw[HE.out.1,HE.out.2.1];(with_reducible refine KM.out.mono ?_);rintro e w4 ⟨rfl,hb⟩;replace HA:=zz (HA.out.below hb);have h43:w.heap.size+3≤w4.heap.size:=by have:=hb.size;have:=HE.out.2.2;omega
 clear hb KM HE;have b5:=zag w4 (.cells #[.slice At T.length ct,.slice none 0 0,.slice none 0 0,.slice none 0 0] 34);have c5:=zac.new w4 #[.slice At T.length ct,.slice none 0 0,.slice none 0 0,.slice none 0 0] 34;replace HA:=zz (HA.out.below b5);obtain⟨w5,h5⟩:∃W,Hid (w4.alloc (.cells #[.slice At T.length ct,.slice none 0 0,.slice none 0 0,.slice none 0 0] 34)=W):=⟨_,zz rfl⟩
 have HP:Hid (ShP w w5 w4.heap.size T At ct [] none 0):=zz (by
  rw[←h5.out];exact⟨h43,c5,.inl ⟨rfl,rfl⟩⟩)
 obtain⟨pb,hpb⟩:∃q,q=w4.heap.size:=⟨_,rfl⟩;have x0:=HA.out.a0;have x1:=HA.out.a1;have x2:=HA.out.a2;clear b5 c5;go_wp2_with fail;rw[h5.out] at HA x0 x1 x2 ⊢;rw[←hpb] at HP ⊢;have h5p:pb<w5.heap.size:=HP.out.box.lt;clear h5 hpb h43;(with_reducible refine(yax a Aa ca w5 sa (HRa.out.belows HA.out.low)).mono ?_);rintro e w6 ⟨rfl,hb⟩;replace HA:=zz (HA.out.below hb);replace HP:=zz (HP.out.below hb);clear hb x0 x1 x2 h5p
 by_cases fa:yaa a 12≤260
 rotate_left
 ·rw[decide_eq_false fa];go_wp2_with fail;go_ret;exact⟨rfl,HA.out.low⟩
 rw[decide_eq_true fa];obtain⟨za,_⟩:=yas a 12 (by omega) fa;replace za:a.bsz≤260:=by omega
 clear fa;have x0:=HA.out.b0;have x1:=HA.out.b1;have x2:=HA.out.b2;have KF:=zz (yax b Ab cb w6 sb (HRb.out.belows HA.out.low));go_wp2_with fail;(with_reducible refine KF.out.mono ?_);rintro e w7 ⟨rfl,hb⟩;replace HA:=zz (HA.out.below hb);replace HP:=zz (HP.out.below hb);clear hb x0 x1 x2 KF
 by_cases fa:yaa b 12≤260
 rotate_left
 ·rw[decide_eq_false fa];go_wp2_with fail;go_ret;exact⟨rfl,HA.out.low⟩
 rw[decide_eq_true fa];clear fa;have x0:=HA.out.n0;have x1:=HA.out.n1;have x2:=HA.out.n2;have x3:=HA.out.n3;have x4:=HA.out.n4;have KF:=zz (yec n An cn w7 (by omega) (HRn.out.belows HA.out.low));go_wp2_with fail;(with_reducible refine KF.out.mono ?_);rintro e w8 ⟨rfl,hb⟩;replace HA:=zz (HA.out.below hb);replace HP:=zz (HP.out.below hb);clear hb x0 x1 x2 x3 x4 KF
 by_cases fa:ydj n 45≤300
 rotate_left
 ·rw[decide_eq_false fa];go_wp2_with fail;go_ret;exact⟨rfl,HA.out.low⟩
 rw[decide_eq_true fa];have zn:n.fit=true:=ydx n 45 fa;have zs:n.size≤2097152:=Nat.le_trans (yds n) (by omega);clear fa
 by_cases fT:(T.length:Int)≤20
 rotate_left
 ·go_wp2_with fail;go_ret;exact⟨rfl,HA.out.low⟩
 by_cases fS:(S.length:Int)≤20
 rotate_left
 ·go_wp2_with fail;go_ret;exact⟨rfl,HA.out.low⟩
 by_cases fN:(nm.size:Int)≤100
 rotate_left
 ·go_wp2_with fail;go_ret;exact⟨rfl,HA.out.low⟩
 go_wp2_with fail
 go_loopw [15] (λs wr=>∃i:Nat,i≤T.length∧s=.int .i64 i∧wr=w8) (λs _=>T.length-(intOf s).toNat)
 case atStart=>exact⟨0,by omega,rfl,rfl⟩
 case round=>
  obtain⟨i,hi,rfl,rfl⟩:=hrel
  by_cases hlt:i<T.length
  ·obtain⟨g,off,d,e,hlb,hget,hrow⟩:=zcG (HRT.out.belows HA.out.low) hlt;subst e;obtain⟨u2,hu2,hd2⟩:=hrow 2 (by omega);have hd3:Rd (Lt wr.heap.size) wr (slG 2 zfx d.ctors) u2:=hd2;obtain⟨Ac,cc,rfl,hc1,hc2⟩:=zcA hd3;have hcm:d.ctors.length≤9223372036854775807:=Nat.le_trans hc1 hc2;have hin:(i:Int)<T.length:=by omega
   clear hd2 hd3 hrow hget hlb
   by_cases fc:(d.ctors.length:Int)≤20
   rotate_left
   ·go_wp2_with fail;go_ret;exact⟨rfl,HA.out.low⟩
   go_wp2_with fail;exact⟨⟨i+1,by omega,by go_num,trivial⟩,by simp[intOf];omega⟩
  ·go_wp2_with fail;clear hlt hi;rename World=>w8
   go_loopw [16] (λs wr=>∃i:Nat,∃(K:List Actr) (Ap:Option Addr) (cp:Nat),i≤S.length∧s=.int .i64 i∧K.length≤i∧Hid (ShA w wr a Aa ca b Ab cb n An cn∧ShP w wr pb T At ct K Ap cp)) (λs _=>S.length-(intOf s).toNat)
   case atStart=>exact⟨0,[],none,0,by omega,rfl,Nat.le_refl _,zz ⟨HA.out,HP.out⟩⟩
   case round=>
    clear HA HP;obtain⟨i,K,Ap,cp,hi,rfl,hK,HZ⟩:=hrel;have HA:=zz HZ.out.1;have HP:=zz HZ.out.2;clear HZ
    by_cases hlt:i<S.length
    ·obtain⟨g,off,x,e,hlb,hget,hrow⟩:=zcG (HRS.out.belows HA.out.low) hlt;subst e;obtain⟨u0,hu0,hd0⟩:=hrow 0 (by omega);obtain rfl:u0=.string x:=hd0;rw[Nat.mul_one,Nat.add_zero] at hu0;have hin:(i:Int)<S.length:=by omega
     have hb6:=zag wr (.cells #[.string x,.slice none 0 0,.int .i64 0,.slice none 0 0,.slice none 0 0,.int .i64 0,.int .i64 0] 50);have A6:=zz (HA.out.below hb6);have P6:=zz (HP.out.below hb6);have y3:wr.cell? ⟨pb,3,none⟩=some (.slice Ap K.length cp):=HP.out.box.cell 3;have y6:(wr.alloc (.cells #[.string x,.slice none 0 0,.int .i64 0,.slice none 0 0,.slice none 0 0,.int .i64 0,.int .i64 0] 50)).cell? ⟨pb,3,none⟩=some (.slice Ap K.length cp):=P6.out.box.cell 3;have sl6:=hb6.size;have hpw:=HP.out.box.lt;clear hb6 hrow hget hlb;go_wp2_with fail
     go_region_law (first
      |(refine yer A6.out P6.out x wr.heap.size (zaU _ rfl _ _) (by rfl) _ _ (by rfl) (by rfl) (by rfl) (by omega) ?_;intro LL A9 c9 w9 zL y9 z9 Z9;clear A6 P6)
      |(refine yes A6.out P6.out x wr.heap.size (zaU _ rfl _ _) (by rfl) _ _ (by rfl) (by rfl) (by rfl) (by omega) ?_;intro LL A9 c9 w9 zL y9 z9 Z9;clear A6 P6))
     all_goals (
      go_wp2_with fail;exact⟨⟨i+1,LL,A9,c9,by omega,by go_num,by omega,Z9⟩,by simp[intOf];omega⟩)
    ·go_wp2_with fail;clear hlt hi;have RA:=HRa.out.belows HA.out.low;have RB:=HRb.out.belows HA.out.low;have hTn:=zcb.of (nm:=Dcl.name) (by omega) (λ_=>rfl) (HRT.out.belows HA.out.low);have hKn:=HP.out.names;have fta:=yep a (by omega);have fsl:=yeu a;obtain⟨v1,hv1⟩:∃v,zbJ a=v:=⟨_,rfl⟩;obtain⟨v2,hv2⟩:∃v,zqA a=v:=⟨_,rfl⟩;obtain⟨v3,hv3⟩:∃v,zsk a b=v:=⟨_,rfl⟩;obtain⟨v4,hv4⟩:∃v,zaZ a=v:=⟨_,rfl⟩;obtain⟨v5,hv5⟩:∃v,zhz ⟨T,[],[],K⟩ a=v:=⟨_,rfl⟩;have K0:Hid (∀d os,Calls Tryz.prog 15 #[.agg #[.int .i64 a.kind,.string a.name,.slice Aa a.args.length ca]] (grow (redrawn wr d) os) λe w'=>e=.returned (.bool v1)∧∃p:Regrown,w'=grow (redrawn wr p.d) p.os):=zz (λd os=>Calls.regrown_of (by have t:=zhn a Aa ca (grow (redrawn wr d) os) fta (RA.belows (below_regrown wr d os));rw[hv1] at t;exact t));have K1:Hid (∀d os,Calls Tryz.prog 16 #[.agg #[.int .i64 a.kind,.string a.name,.slice Aa a.args.length ca]] (grow (redrawn wr d) os) λe w'=>e=.returned (.bool v1)∧∃p:Regrown,w'=grow (redrawn wr p.d) p.os):=zz (λd os=>Calls.regrown_of (by have t:=ybw a Aa ca (grow (redrawn wr d) os) fta (RA.belows (below_regrown wr d os));rw[hv1] at t;exact t));have K2:Hid (∀d os,Calls Tryz.prog 17 #[.agg #[.int .i64 a.kind,.string a.name,.slice Aa a.args.length ca]] (grow (redrawn wr d) os) λe w'=>e=.returned (.string v2)∧∃p:Regrown,w'=grow (redrawn wr p.d) p.os):=zz (λd os=>Calls.regrown_of (by have t:=zmm a Aa ca (grow (redrawn wr d) os) fta (by omega) (RA.belows (below_regrown wr d os));rw[hv2] at t;exact t));have K3:Hid (∀d os,Calls Tryz.prog 18 #[.agg #[.int .i64 a.kind,.string a.name,.slice Aa a.args.length ca]] (grow (redrawn wr d) os) λe w'=>e=.returned (.string v2)∧∃p:Regrown,w'=grow (redrawn wr p.d) p.os):=zz (λd os=>Calls.regrown_of (by have t:=ycn a Aa ca (grow (redrawn wr d) os) fta (by omega) (RA.belows (below_regrown wr d os));rw[hv2] at t;exact t));have K4:Hid (∀d os,Calls Tryz.prog 19 #[.agg #[.int .i64 a.kind,.string a.name,.slice Aa a.args.length ca],.agg #[.int .i64 b.kind,.string b.name,.slice Ab b.args.length cb]] (grow (redrawn wr d) os) λe w'=>e=.returned (.bool v3)∧∃p:Regrown,w'=grow (redrawn wr p.d) p.os):=zz (λd os=>Calls.regrown_of (by have t:=ybc a b Aa ca Ab cb (grow (redrawn wr d) os) (RA.belows (below_regrown wr d os)) (RB.belows (below_regrown wr d os));rw[hv3] at t;exact t));have K5:Hid (∀d os,Calls Tryz.prog 20 #[.agg #[.int .i64 a.kind,.string a.name,.slice Aa a.args.length ca],.agg #[.int .i64 b.kind,.string b.name,.slice Ab b.args.length cb]] (grow (redrawn wr d) os) λe w'=>e=.returned (.bool v3)∧∃p:Regrown,w'=grow (redrawn wr p.d) p.os):=zz (λd os=>Calls.regrown_of (by have t:=ybz a b Aa ca Ab cb (grow (redrawn wr d) os) (RA.belows (below_regrown wr d os)) (RB.belows (below_regrown wr d os));rw[hv3] at t;exact t))
     have K6:Hid (∀d os,Calls Tryz.prog 21 #[.agg #[.int .i64 a.kind,.string a.name,.slice Aa a.args.length ca]] (grow (redrawn wr d) os) λe w'=>e=.returned (.bool v4)∧∃p:Regrown,w'=grow (redrawn wr p.d) p.os):=zz (λd os=>Calls.regrown_of (by have t:=zeh a Aa ca (grow (redrawn wr d) os) (RA.belows (below_regrown wr d os));rw[hv4] at t;exact t));have K7:Hid (∀d os,Calls Tryz.prog 22 #[.agg #[.int .i64 a.kind,.string a.name,.slice Aa a.args.length ca]] (grow (redrawn wr d) os) λe w'=>e=.returned (.bool v4)∧∃p:Regrown,w'=grow (redrawn wr p.d) p.os):=zz (λd os=>Calls.regrown_of (by have t:=ybr a Aa ca (grow (redrawn wr d) os) (RA.belows (below_regrown wr d os));rw[hv4] at t;exact t));have K8:Hid (∀d os,Calls Tryz.prog 23 #[.agg #[.slice At T.length ct,.slice none 0 0,.slice none 0 0,.slice Ap K.length cp],.agg #[.int .i64 a.kind,.string a.name,.slice Aa a.args.length ca]] (grow (redrawn wr d) os) λe w'=>e=.returned (.bool v5)∧∃p:Regrown,w'=grow (redrawn wr p.d) p.os):=zz (λd os=>Calls.regrown_of (by have t:=zgQ ⟨At,T.length,ct,none,0,0,none,0,0,Ap,K.length,cp⟩ ⟨T,[],[],K⟩ a fta Aa ca (grow (redrawn wr d) os) (hTn.below (below_regrown wr d os)) (hKn.below (below_regrown wr d os)) (RA.belows (below_regrown wr d os));rw[hv5] at t;exact t));have K9:Hid (∀d os,Calls Tryz.prog 24 #[.agg #[.slice At T.length ct,.slice none 0 0,.slice none 0 0,.slice Ap K.length cp],.agg #[.int .i64 a.kind,.string a.name,.slice Aa a.args.length ca]] (grow (redrawn wr d) os) λe w'=>e=.returned (.bool v5)∧∃p:Regrown,w'=grow (redrawn wr p.d) p.os):=zz (λd os=>Calls.regrown_of (by have t:=ycg ⟨At,T.length,ct,none,0,0,none,0,0,Ap,K.length,cp⟩ ⟨T,[],[],K⟩ a fta Aa ca (grow (redrawn wr d) os) (hTn.below (below_regrown wr d os)) (hKn.below (below_regrown wr d os)) (RA.belows (below_regrown wr d os));rw[hv5] at t;exact t));have o0:=λd os=>cell_regrown HA.out.a0 d os;have o1:=λd os=>cell_regrown HA.out.a1 d os;have o2:=λd os=>cell_regrown HA.out.a2 d os;have o3:=λd os=>cell_regrown HA.out.b0 d os;have o4:=λd os=>cell_regrown HA.out.b1 d os;have o5:=λd os=>cell_regrown HA.out.b2 d os;obtain⟨q0,q1,q2,q3⟩:=HP.out.q;have o6:=λd os=>cell_regrown q0 d os;have o7:=λd os=>cell_regrown q1 d os;have o8:=λd os=>cell_regrown q2 d os;have o9:=λd os=>cell_regrown q3 d os;have n1:(v1 != v1)=false:=by simp
     have n2:(v2.toList != v2.toList)=false:=by simp
     have n2':(v2.toList == v2.toList)=true:=by simp
     have n3:(v3 != v3)=false:=by simp
     have n4:(v4 != v4)=false:=by simp
     have n5:(v5 != v5)=false:=by simp
     clear q0 q1 q2 q3 hv1 hv2 hv3 hv4 hv5 RA RB hTn hKn fta fsl;refine wp_region_quiet_below (by kernel_rfl) (by kernel_rfl) ?_
     repeat (go_big_quiet_step (first|with_reducible exact K0.out _ _|with_reducible exact K1.out _ _|with_reducible exact K2.out _ _|with_reducible exact K3.out _ _|with_reducible exact K4.out _ _|with_reducible exact K5.out _ _|with_reducible exact K6.out _ _|with_reducible exact K7.out _ _|with_reducible exact K8.out _ _|with_reducible exact K9.out _ _))
     refine wpQuiet_nil ?_;intro _ hw';obtain⟨⟨dq,osq⟩,hw''⟩:=hw';subst hw'';have hbq:=below_regrown wr dq osq;obtain⟨wa,hwa⟩:∃W,grow (redrawn wr dq) osq=W:=⟨_,rfl⟩;rw[hwa] at hbq ⊢;replace HA:=zz (HA.out.below hbq);replace HP:=zz (HP.out.below hbq);clear hbq hwa K0 K1 K2 K3 K4 K5 K6 K7 K8 K9 o0 o1 o2 o3 o4 o5 o6 o7 o8 o9 n1 n2 n2' n3 n4 n5;have x0:=HA.out.n0;have x1:=HA.out.n1;have x2:=HA.out.n2;have x3:=HA.out.n3;have x4:=HA.out.n4;have KR:=zz (zpU n An cn wa zn zs (HRn.out.belows HA.out.low));go_wp2_with fail;(with_reducible refine KR.out.mono ?_);rintro e wb hp;obtain⟨hb,Au,cu,rfl,hRu⟩:=hp.one;replace HA:=zz (HA.out.below hb);replace HP:=zz (HP.out.below hb);obtain⟨t,ht⟩:∃t,(zfp n).getD (.mk 0 ⟨#[]⟩ [])=t:=⟨_,rfl⟩;obtain⟨f0,hf0⟩:∃f,(zfp n).isSome=f:=⟨_,rfl⟩;rw[ht] at hRu ⊢;rw[hf0];obtain⟨wc,hwc,hbc,hct⟩:=zai wb #[.int .i64 t.kind,.string t.name,.slice Au t.args.length cu] 55;have HT:=zz (ShT.mk hct (hRu.belows hbc));replace HA:=zz (HA.out.below hbc);replace HP:=zz (HP.out.below hbc);obtain⟨g1,hg1⟩:∃q,q=wb.heap.size:=⟨_,rfl⟩;rw[←hg1] at HT;have HE:=zz (And.intro ht hf0);have HG:=zz hg1;clear hb hbc hct hRu KR x0 x1 x2 x3 x4 ht hf0 hg1;have x0:=HA.out.n0;have x1:=HA.out.n1;have x2:=HA.out.n2;have x3:=HA.out.n3;have x4:=HA.out.n4;have KR:=zz (ydi n An cn wc zn zs (HRn.out.belows HA.out.low));go_wp2_with fail;clear hwc;rw[←HG.out];(with_reducible refine KR.out.mono ?_);rintro e wd hp;obtain⟨hb,Av,cv,rfl,hRv⟩:=hp.one;replace HA:=zz (HA.out.below hb);replace HP:=zz (HP.out.below hb);replace HT:=zz (HT.out.below hb);rw[HE.out.1] at hRv ⊢;rw[HE.out.2];obtain⟨we,hwe,hbe,hcu⟩:=zai wd #[.int .i64 t.kind,.string t.name,.slice Av t.args.length cv] 55;have HU:=zz (ShT.mk hcu (hRv.belows hbe));replace HA:=zz (HA.out.below hbe);replace HP:=zz (HP.out.below hbe);replace HT:=zz (HT.out.below hbe);obtain⟨g2,hg2⟩:∃q,q=wd.heap.size:=⟨_,rfl⟩;rw[←hg2] at HU;replace HG:=zz hg2;clear hb hbe hcu hRv KR x0 x1 x2 x3 x4 HE hg2;obtain⟨q0,q1,q2,q3⟩:=HP.out.q;have KR:Hid (Calls Tryz.prog 9 #[.agg #[.slice At T.length ct,.slice none 0 0,.slice none 0 0,.slice Ap K.length cp],.string nm] we (zqC we (zcW (T.map Dcl.name) nm))):=zz (by have t:=zld ⟨At,T.length,ct,none,0,0,none,0,0,Ap,K.length,cp⟩ (T.map Dcl.name) nm we (zcb.of (nm:=Dcl.name) (by omega) (λ_=>rfl) (HRT.out.belows HA.out.low));exact t);go_wp2_with fail;clear hwe;rw[←HG.out];(with_reducible refine KR.out.mono ?_);rintro e wg0 hp;obtain⟨hb,rfl⟩:=hp.one;replace HA:=zz (HA.out.below hb);replace HP:=zz (HP.out.below hb);replace HT:=zz (HT.out.below hb);replace HU:=zz (HU.out.below hb);obtain⟨i0,hi0⟩:∃i:Int,(((zcW (T.map Dcl.name) nm).getD 0:Nat):Int)=i:=⟨_,rfl⟩;obtain⟨b0,hb0⟩:∃i,(zcW (T.map Dcl.name) nm).isSome=i:=⟨_,rfl⟩;have HE:=zz (And.intro hi0 hb0);clear hi0 hb0;rw[HE.out.1,HE.out.2];clear hb KR q0 q1 q2 q3;obtain⟨q0,q1,q2,q3⟩:=HP.out.q
     have KR:Hid (Calls Tryz.prog 27 #[.agg #[.slice At T.length ct,.slice none 0 0,.slice none 0 0,.slice Ap K.length cp],.string nm] wg0 (zqC wg0 (zcW (T.map Dcl.name) nm))):=zz (by have t:=yca ⟨At,T.length,ct,none,0,0,none,0,0,Ap,K.length,cp⟩ (T.map Dcl.name) nm wg0 (zcb.of (nm:=Dcl.name) (by omega) (λ_=>rfl) (HRT.out.belows HA.out.low));exact t);go_wp2_with fail;(with_reducible refine KR.out.mono ?_);rintro e wg1 hp;obtain⟨hb,rfl⟩:=hp.one;replace HA:=zz (HA.out.below hb);replace HP:=zz (HP.out.below hb);replace HT:=zz (HT.out.below hb);replace HU:=zz (HU.out.below hb);rw[HE.out.1,HE.out.2];clear hb KR q0 q1 q2 q3 HE;obtain⟨q0,q1,q2,q3⟩:=HP.out.q;have KR:Hid (Calls Tryz.prog 10 #[.agg #[.slice At T.length ct,.slice none 0 0,.slice none 0 0,.slice Ap K.length cp],.string nm] wg1 (zqC wg1 (zcW (K.map Actr.name) nm))):=zz (by have t:=zhf ⟨At,T.length,ct,none,0,0,none,0,0,Ap,K.length,cp⟩ (K.map Actr.name) nm wg1 HP.out.names;exact t);go_wp2_with fail;(with_reducible refine KR.out.mono ?_);rintro e wg2 hp;obtain⟨hb,rfl⟩:=hp.one;replace HA:=zz (HA.out.below hb);replace HP:=zz (HP.out.below hb);replace HT:=zz (HT.out.below hb);replace HU:=zz (HU.out.below hb);obtain⟨i1,hi1⟩:∃i:Int,(((zcW (K.map Actr.name) nm).getD 0:Nat):Int)=i:=⟨_,rfl⟩;obtain⟨b1,hb1⟩:∃i,(zcW (K.map Actr.name) nm).isSome=i:=⟨_,rfl⟩;have HE:=zz (And.intro hi1 hb1);clear hi1 hb1;rw[HE.out.1,HE.out.2];clear hb KR q0 q1 q2 q3;obtain⟨q0,q1,q2,q3⟩:=HP.out.q;have KR:Hid (Calls Tryz.prog 28 #[.agg #[.slice At T.length ct,.slice none 0 0,.slice none 0 0,.slice Ap K.length cp],.string nm] wg2 (zqC wg2 (zcW (K.map Actr.name) nm))):=zz (by have t:=ycb ⟨At,T.length,ct,none,0,0,none,0,0,Ap,K.length,cp⟩ (K.map Actr.name) nm wg2 HP.out.names;exact t);go_wp2_with fail;(with_reducible refine KR.out.mono ?_);rintro e wg3 hp;obtain⟨hb,rfl⟩:=hp.one;replace HA:=zz (HA.out.below hb);replace HP:=zz (HP.out.below hb);replace HT:=zz (HT.out.below hb);replace HU:=zz (HU.out.below hb);rw[HE.out.1,HE.out.2];clear hb KR q0 q1 q2 q3 HE;obtain⟨q0,q1,q2,q3⟩:=HP.out.q;have KR:Hid (Calls Tryz.prog 11 #[.agg #[.slice At T.length ct,.slice none 0 0,.slice none 0 0,.slice Ap K.length cp],.string nm] wg3 (zrZ wg3 (zhJ T nm))):=zz (by have t:=zkD ⟨At,T.length,ct,none,0,0,none,0,0,Ap,K.length,cp⟩ T nm wg3 rfl (HRT.out.belows HA.out.low);exact t);go_wp2_with fail;(with_reducible refine KR.out.mono ?_);rintro e wg4 hp;obtain⟨hb,rfl⟩:=hp.one;replace HA:=zz (HA.out.below hb);replace HP:=zz (HP.out.below hb);replace HT:=zz (HT.out.below hb);replace HU:=zz (HU.out.below hb);obtain⟨i2,hi2⟩:∃i:Int,(((zhJ T nm).getD (⟨#[]⟩,0)).2:Int)=i:=⟨_,rfl⟩;obtain⟨sc,hsc⟩:∃i,((zhJ T nm).getD (⟨#[]⟩,0)).1=i:=⟨_,rfl⟩;obtain⟨b2,hb2⟩:∃i,(zhJ T nm).isSome=i:=⟨_,rfl⟩;have HE:=zz (And.intro hi2 (And.intro hb2 hsc));clear hi2 hb2 hsc;rw[HE.out.1,HE.out.2.1,HE.out.2.2];clear hb KR q0 q1 q2 q3;obtain⟨q0,q1,q2,q3⟩:=HP.out.q
     have KR:Hid (Calls Tryz.prog 29 #[.agg #[.slice At T.length ct,.slice none 0 0,.slice none 0 0,.slice Ap K.length cp],.string nm] wg4 (zrZ wg4 (zhJ T nm))):=zz (by have t:=ycc ⟨At,T.length,ct,none,0,0,none,0,0,Ap,K.length,cp⟩ T nm wg4 rfl (HRT.out.belows HA.out.low);exact t);go_wp2_with fail;(with_reducible refine KR.out.mono ?_);rintro e wg5 hp;obtain⟨hb,rfl⟩:=hp.one;replace HA:=zz (HA.out.below hb);replace HP:=zz (HP.out.below hb);replace HT:=zz (HT.out.below hb);replace HU:=zz (HU.out.below hb);rw[HE.out.1,HE.out.2.1,HE.out.2.2];clear hb KR q0 q1 q2 q3 HE;have y0:=HT.out.box.cell 0;have y1:=HT.out.box.cell 1;have y2:=HT.out.box.cell 2;have z0:=HU.out.box.cell 0;have z1:=HU.out.box.cell 1;have z2:=HU.out.box.cell 2;have KR:=zz (ybz t t Au cu Av cv wg5 HT.out.rd HU.out.rd);rw[yev] at KR;have m1:(sc.toList == sc.toList)=true:=by simp
     go_wp2_with fail;(with_reducible refine KR.out.mono ?_);rintro e wz ⟨rfl,hb⟩;replace HA:=zz (HA.out.below hb);clear hb KR y0 y1 y2 z0 z1 z2;go_wp2_with fail;go_ret;exact⟨rfl,HA.out.low⟩
end Go.Proofs.YtjdpocmlimkjjaaGreat
namespace Go.Proofs.YtjdpocmlimkjjaaGreat.typesShows
open Go.ChangeShapes Go.WideShapes Go.ChangeAt Go.RowKit
theorem own:ownKnob Tryz.prog.godebug=none:=by kernel_rfl
theorem zsl:laidOutB Tryz.prog=true:=by kernel_rfl
theorem contract (H:Type) (enc:TypeId × Value→H) (W:World) (base:Nat) (args:Array Value) (ds gs:List (DataW H)) (before:List MemPlace)
 (hval:∀(j:Nat) t v,Tryz.f4.params[j]?=some t→args[j]?=some v→Value.okWide Tryz.prog W .any base t v)
 (hW:DataW.Whole enc Tryz.prog Tryz.f4.params.toList Rows.typesShowsSpec.vars false W args.toList ds gs before) (hk:Rows.uptoSmall H (ds++gs)=true) :
 Calls Tryz.prog 4 args W λe W'=>∃v,e=.returned v∧Rows.typesShowsSpec.post enc Tryz.prog Tryz.f4 false true false false W args v W':=by
 have hW':=hW;obtain⟨p,q,hA0,hV,rfl,hfz,hnd⟩:=hW;have hA:DataW.TrodAll enc Tryz.prog W 0 (λ_=>true) true Tryz.f4.params.toList args.toList ds p:=hA0;rw[Tryz.params4] at hA hval;obtain⟨v0,vs0,d0,ds0,p0,q0,hargs,rfl,rfl,h0,r0⟩:=trodAll_cons hA;obtain⟨v1,vs1,d1,ds1,p1,q1,rfl,rfl,rfl,h1,r1⟩:=trodAll_cons r0;obtain⟨v2,vs2,d2,ds2,p2,q2,rfl,rfl,rfl,h2,r2⟩:=trodAll_cons r1;obtain⟨v3,vs3,d3,ds3,p3,q3,rfl,rfl,rfl,h3,r3⟩:=trodAll_cons r2;obtain⟨v4,vs4,d4,ds4,p4,q4,rfl,rfl,rfl,h4,r4⟩:=trodAll_cons r3;obtain⟨v5,vs5,d5,ds5,p5,q5,rfl,rfl,rfl,h5,r5⟩:=trodAll_cons r4;obtain⟨rfl,rfl,rfl⟩:=trodAll_nil r5;obtain rfl:args=#[v0,v1,v2,v3,v4,v5]:=by cases args;simp_all
 obtain⟨rfl,rfl⟩:=trodVars_none hV;have hbk:=of_decide_eq_true hk;simp only[Rows.uptoBulkAll,List.append_nil] at hbk;have k0:=h0;have lt0:∀x∈p0,x.block<W.heap.size:=by obtain⟨m,hm⟩:=k0;exact DataW.trod_lt m _ _ _ hm
 have k1:=h1;have lt1:∀x∈p1,x.block<W.heap.size:=by obtain⟨m,hm⟩:=k1;exact DataW.trod_lt m _ _ _ hm
 have k2:=h2;have lt2:∀x∈p2,x.block<W.heap.size:=by obtain⟨m,hm⟩:=k2;exact DataW.trod_lt m _ _ _ hm
 have k3:=h3;have lt3:∀x∈p3,x.block<W.heap.size:=by obtain⟨m,hm⟩:=k3;exact DataW.trod_lt m _ _ _ hm
 have k4:=h4;have lt4:∀x∈p4,x.block<W.heap.size:=by obtain⟨m,hm⟩:=k4;exact DataW.trod_lt m _ _ _ hm
 have k5:=h5;have lt5:∀x∈p5,x.block<W.heap.size:=by obtain⟨m,hm⟩:=k5;exact DataW.trod_lt m _ _ _ hm
 obtain⟨a,Aa,ca,rfl,ra,ba⟩:∃(t:Ty) (A:Option Addr) (c:Nat),v0=.agg #[.int .i64 t.kind,.string t.name,.slice A t.args.length c]∧Rd (Lt W.heap.size) W (ys t.args) (.slice A t.args.length c)∧t.bsz≤Rows.uptoBulk d0:=by
  obtain⟨fuel,hf⟩:=h0;obtain⟨a,A,c,e,h1,h2⟩:=ybm fuel _ _ hf;obtain⟨xs,rfl,_⟩:=okWide_struct Tryz.underlying55 (hval 0 55 v0 rfl rfl);exact⟨a,A,c,congrArg Value.agg (by rw[←Array.toArray_toList (xs:=xs)];exact congrArg List.toArray e),h1,h2⟩
 obtain⟨b,Ab,cb,rfl,rb,bb⟩:∃(t:Ty) (A:Option Addr) (c:Nat),v1=.agg #[.int .i64 t.kind,.string t.name,.slice A t.args.length c]∧Rd (Lt W.heap.size) W (ys t.args) (.slice A t.args.length c)∧t.bsz≤Rows.uptoBulk d1:=by
  obtain⟨fuel,hf⟩:=h1;obtain⟨a,A,c,e,h1,h2⟩:=ybm fuel _ _ hf;obtain⟨xs,rfl,_⟩:=okWide_struct Tryz.underlying55 (hval 1 55 v1 rfl rfl);exact⟨a,A,c,congrArg Value.agg (by rw[←Array.toArray_toList (xs:=xs)];exact congrArg List.toArray e),h1,h2⟩
 obtain⟨n,An,cn,rfl,rn,bn⟩:∃(t:Nd) (A:Option Addr) (c:Nat),v2=.agg #[.int .i64 t.kind,.string t.text,.int .i64 t.n,.int .i64 t.at',.slice A t.kids.length c]∧Rd (Lt W.heap.size) W (ns t.kids) (.slice A t.kids.length c)∧t.nsz≤Rows.uptoBulk d2:=by
  obtain⟨fuel,hf⟩:=h2;obtain⟨a,A,c,e,h1,h2⟩:=yeh fuel _ _ hf;obtain⟨xs,rfl,_⟩:=okWide_struct Tryz.underlying25 (hval 2 25 v2 rfl rfl);exact⟨a,A,c,congrArg Value.agg (by rw[←Array.toArray_toList (xs:=xs)];exact congrArg List.toArray e),h1,h2⟩
 obtain⟨AT,nT,cT,rfl⟩:=okWide_slice Tryz.underlying29 (hval 3 29 v3 rfl rfl)
 obtain⟨T,rfl,rT⟩:∃l:List Dcl,nT=l.length∧Rd (Lt W.heap.size) W (slG 3 zfq l) (.slice AT l.length cT):=by
  obtain⟨fuel,hf⟩:=h3;obtain⟨A,c,l,e,h1⟩:=yem fuel _ _ hf;simp[Value.cells] at e;obtain⟨rfl,rfl,rfl⟩:=e;exact⟨l,rfl,h1⟩
 obtain⟨AS,nS,cS,rfl⟩:=okWide_slice Tryz.underlying56 (hval 4 56 v4 rfl rfl)
 obtain⟨S,rfl,rS⟩:∃l:List ByteArray,nS=l.length∧Rd (Lt W.heap.size) W (slG 1 yen l) (.slice AS l.length cS):=by
  obtain⟨fuel,hf⟩:=h4;obtain⟨A,c,l,e,h1⟩:=yeo fuel _ _ hf;simp[Value.cells] at e;obtain⟨rfl,rfl,rfl⟩:=e;exact⟨l,rfl,h1⟩
 obtain⟨s5,rfl,rfl,rfl,_⟩:=Go.ChangeMaps.open_string Tryz.underlying9 (hval 5 9 v5 rfl rfl) h5;clear hA0;simp only[List.append_nil] at hW';refine(yew a b n T S s5 Aa Ab An AT AS ca cb cn cT cS W (by omega) (by omega) (by omega) ra rb rn rT rS).mono λe W' ⟨he,bel⟩=>?_;subst he;exact⟨_,rfl,_,_,_,[],_,[],hW',trodAll_mk1 (shut_bool Tryz.underlying4 _),(trodAll_cons_mk (Below.trod zsl (by kernel_rfl) (of_decide_eq_true (by kernel_rfl)) k0 bel lt0) (trodAll_cons_mk (Below.trod zsl (by kernel_rfl) (of_decide_eq_true (by kernel_rfl)) k1 bel lt1) (trodAll_cons_mk (Below.trod zsl (by kernel_rfl) (of_decide_eq_true (by kernel_rfl)) k2 bel lt2) (trodAll_cons_mk (Below.trod zsl (by kernel_rfl) (of_decide_eq_true (by kernel_rfl)) k3 bel lt3) (trodAll_cons_mk (Below.trod zsl (by kernel_rfl) (of_decide_eq_true (by kernel_rfl)) k4 bel lt4) (trodAll_cons_mk (Below.trod zsl (by kernel_rfl) (of_decide_eq_true (by kernel_rfl)) k5 bel lt5) trodAll_mk0)))))),rfl,bel.frame _,λh=>by cases h⟩
theorem zsm (os:Os) (started:os.Started) (H:Type) (enc:TypeId × Value→H) (F:Stop.Interp) :
 ReturnsInHanded {} Tryz.checked os 4 .any ((Rows.OpenSpec.upto Rows.typesShowsSpec).pre6 enc Tryz.prog Tryz.f4 Rows.typesShowsUptoRow.domain false) (((Rows.OpenSpec.upto Rows.typesShowsSpec).at F).post enc Tryz.prog Tryz.f4 false true false false):=by
 refine returnsInHanded_of_cond (C:=Tryz.checked) (s:=Rows.OpenSpec.upto Rows.typesShowsSpec) (k:=Rows.uptoSmall) rfl own started (by kernel_rfl) Tryz.func4
  (OpenSpec.witness (enc:=enc) (C:=Tryz.checked) (s:=Rows.OpenSpec.upto Rows.typesShowsSpec) (k:=Rows.uptoSmall) rfl false ⟨#[],#[.agg #[.int .i64 0,.string ⟨#[]⟩,.slice none 0 0],.agg #[.int .i64 0,.string ⟨#[]⟩,.slice none 0 0],.agg #[.int .i64 0,.string ⟨#[]⟩,.int .i64 0,.int .i64 0,.slice none 0 0],.slice none 0 0,.slice none 0 0,.string ⟨#[]⟩],[]⟩ 8 (by kernel_rfl) (by kernel_rfl) (by kernel_rfl)
   (x:=([.agg [.lit (.int .i64 0),.lit (.string []),.nil],.agg [.lit (.int .i64 0),.lit (.string []),.nil],.agg [.lit (.int .i64 0),.lit (.string []),.lit (.int .i64 0),.lit (.int .i64 0),.nil],.nil,.nil,.lit (.string [])],[],[])) (by kernel_rfl) rfl (by kernel_rfl)) ?_
 intro W base args ds gs before hval hW _ hk _;exact contract H enc W base args ds gs before hval hW hk
theorem proved:Rows.TypesShowsUptoSaid:=
 OpenClaim.holds_of_cond 4 Tryz.f4 rfl rfl rfl rfl rfl rfl rfl ⟨rfl,rfl,rfl,rfl,rfl⟩ rfl rfl rfl rfl rfl (by kernel_rfl) Tryz.func4 (by kernel_rfl)
  (of_decide_eq_true (by kernel_rfl)) (by unfold Func.isWrapper;first|(rw[if_pos (by decide +kernel)];kernel_rfl)|(rw[if_neg (by decide +kernel)];exact⟨rfl,rfl⟩))
  (λos started H enc _ F=>zsm os started H enc F)
#print axioms proved
end Go.Proofs.YtjdpocmlimkjjaaGreat.typesShows
