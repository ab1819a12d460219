/- Conditions: those in each statement. -/
import Derived.Test.YtjdpocmlimkjjaaGreatQ03
import Derived.Test.YtjdpocmlimkjjaaGreatQ17
import Derived.Lib.QuietBelow
import Derived.BigQuiet
import Derived.Test.YtjdpocmlimkjjaaGreatRows
import Derived.Test.YtjdpocmlimkjjaaGreatQ06
import Derived.ChangeArms
import Derived.Test.YtjdpocmlimkjjaaGreatQ02
import Derived.Test.YtjdpocmlimkjjaaGreatQ01
import Derived.Test.YtjdpocmlimkjjaaGreatQ20
import Derived.Test.YtjdpocmlimkjjaaGreatQ21
import Derived.Test.YtjdpocmlimkjjaaGreatQ29
set_option maxHeartbeats 32000000
set_option maxRecDepth 100000
namespace Go.Proofs.YtjdpocmlimkjjaaGreat
open Go.RowKit
theorem yc3 {W:World} {g:Nat} {e:TypeId} {a b c:Value} (h:zac W g #[a,b,c] e):W.cell? ⟨g,0,none⟩=some a∧W.cell? ⟨g,1,none⟩=some b∧W.cell? ⟨g,2,none⟩=some c:=⟨h.cell 0,h.cell 1,h.cell 2⟩
mutual
def yaa:Ty→Int→Int
 |.mk _ n a,d=>if d<0 then 100000 else (1+n.size)+yab a 100 (d-1)+1000*max 0 ((a.length:Int)-100)
def yab:List Ty→Nat→Int→Int
 |[],_,_=>0
 |t::r,m,d=>if m=0 then 0 else yaa t d+yab r (m-1) d
end
mutual
def Ty.bsz:Ty→Nat
 |.mk _ n a=>1+n.size+yac a
def yac:List Ty→Nat
 |[]=>0
 |t::r=>t.bsz+yac r
end
theorem yad (k:Int) (n:ByteArray) (a:List Ty):(Ty.mk k n a).bsz=1+n.size+yac a:=by rw[Ty.bsz]
theorem yae (t:Ty) (r:List Ty):yac (t::r)=t.bsz+yac r:=by rw[yac]
theorem yaf:yac []=0:=by rw[yac]
theorem yag (t:Ty):1≤t.bsz:=by obtain⟨k,n,a⟩:=t;rw[yad];omega
theorem yah:∀{l:List Ty} {t:Ty},t∈l→t.bsz≤yac l
 |x::r,t,h=>by
  rw[yae];rcases List.mem_cons.1 h with rfl|h
  ·omega
  ·have:=yah h;omega
theorem yai:∀l:List Ty,l.length≤yac l
 |[]=>by simp
 |x::r=>by rw[yae,List.length_cons];have:=yai r;have:=yag x;omega
theorem yaj (t:Ty) (r:List Ty) (m:Nat) (d:Int):yab (t::r) (m+1) d=yaa t d+yab r m d:=by rw[yab,if_neg (by omega),Nat.add_sub_cancel]
theorem yak (l:List Ty) (d:Int):yab l 0 d=0:=by cases l with|nil=>rw[yab]|cons t r=>rw[yab,if_pos rfl]
theorem yal (m:Nat) (d:Int):yab [] m d=0:=by rw[yab]
mutual
theorem yam:∀(t:Ty) (d:Int),0≤yaa t d∧yaa t d+1000≤102000*(t.bsz:Int)
 |.mk k n a,d=>by
  have:=yan a 100 (d-1);have:=yai a;rw[yaa,yad]
  split
  ·omega
  ·omega
theorem yan:∀(l:List Ty) (m:Nat) (d:Int),0≤yab l m d∧yab l m d+1000*(l.length:Int)≤102000*(yac l:Int)
 |[],m,d=>by rw[yab,yac];simp
 |t::r,m,d=>by
  have h1:=yam t d;have h3:=yag t;rw[yab,yae,List.length_cons]
  split
  ·have h2:=yan r m d;omega
  ·have h2:=yan r (m-1) d;omega
end
mutual
def Ty.hgt:Ty→Nat
 |.mk _ _ a=>1+yao a
def yao:List Ty→Nat
 |[]=>0
 |t::r=>max t.hgt (yao r)
end
theorem yap (k:Int) (n:ByteArray) (a:List Ty):(Ty.mk k n a).hgt=1+yao a:=by rw[Ty.hgt]
theorem yaq (t:Ty) (r:List Ty):yao (t::r)=max t.hgt (yao r):=by rw[yao]
theorem yar:yao []=0:=by rw[yao]
mutual
theorem yas:∀(t:Ty) (d:Int),-1≤d→yaa t d≤260→(t.bsz:Int)≤yaa t d∧(t.hgt:Int)≤d+1
 |.mk k n a,d,hd,h=>by
  rw[yaa] at h ⊢;rw[yad,yap]
  split at h
  ·omega
  ·rename_i h0;rw[if_neg h0];have hw:=yan a 100 (d-1);have:=yat a 100 (d-1) (by omega) (by omega) (by omega);omega
theorem yat:∀(l:List Ty) (m:Nat) (d:Int),-1≤d→l.length≤m→yab l m d≤260→(yac l:Int)≤yab l m d∧(yao l:Int)≤d+1
 |[],m,d,hd,hm,h=>by rw[yab,yac,yao];exact⟨by simp,by simpa using (by omega:0≤d+1)⟩
 |t::r,m,d,hd,hm,h=>by
  obtain⟨m,rfl⟩:∃q,m=q+1:=⟨m-1,by simp at hm;omega⟩;rw[yaj] at h ⊢;rw[yae,yaq];have h1:=yam t d;have h2:=yan r m d;have k1:=yas t d hd (by omega);have k2:=yat r m d hd (by simp at hm;omega) (by omega);omega
end
def yau (t:Ty):Prop:=∀(d:Int) (A:Option Addr) (c:Nat) (w:World),-1≤d→d≤100→t.bsz≤4194304→Rd (Lt w.heap.size) w (ys t.args) (.slice A t.args.length c)→
 Calls Tryz.prog 41 #[.agg #[.int .i64 t.kind,.string t.name,.slice A t.args.length c],.int .i64 d] w λe w'=>e=.returned (.int .i64 (yaa t d))∧Below w.heap.size w w'
theorem yav (k:Int) (nm:ByteArray) (l:List Ty) (IH:∀t∈l,yau t):yau (.mk k nm l):=by
 intro d A c w hd1 hd2 hsz h;replace h:Rd (Lt w.heap.size) w (ys l) (.slice A l.length c):=h
 show Calls Tryz.prog 41 #[.agg #[.int .i64 k,.string nm,.slice A l.length c],.int .i64 d] w λe w'=>e=.returned (.int .i64 (yaa (.mk k nm l) d))∧Below w.heap.size w w'
 rw[yad] at hsz;have hbl:=yai l;have hwl:=yan l 100 (d-1);rw[yaa];have hl:=zmv h;have hn:l.length≤9223372036854775807:=Nat.le_trans hl.2.1 hl.2.2;obtain⟨w1,h1,b1,c1⟩:=zai w #[.int .i64 k,.string nm,.slice A l.length c] 55;have x1:w1.cell? ⟨w.heap.size,1,none⟩=some (.string nm):=c1.cell 1;have x2:w1.cell? ⟨w.heap.size,2,none⟩=some (.slice A l.length c):=c1.cell 2;have HC:=zz c1;have HB1:=zz b1;have HR:=zz h;have HI:=zz IH;have hw0:IntKind.i64.wrap (1+(nm.size:Int))=1+(nm.size:Int):=IntWalk.i64_in _ (by omega);clear b1 c1 hl h IH
 by_cases hd:d<0
 ·rw[if_pos hd];go_enter Tryz.func41,Tryz.ntmps41;go_wp2_with fail;go_ret;exact⟨rfl,HB1.out⟩
 ·rw[if_neg hd];have hwd:IntKind.i64.wrap (d-1)=d-1:=IntWalk.i64_in _ (by omega);obtain⟨T,hT⟩:∃T,(1+(nm.size:Int))+yab l 100 (d-1)=T:=⟨_,rfl⟩;have HA0:Hid (∃v:Int,1+(nm.size:Int)=v∧0≤v∧v+yab (l.drop 0) (100-0) (d-1)=T):=zz ⟨_,rfl,by omega,hT⟩;have hT1:T≤1099511627776:=by omega
  have hT0:0≤T:=by omega
  rw[hT];clear hT hwl;have HD0:Hid (Below w1.heap.size w1 w1):=zz (Below.refl _ _);go_enter Tryz.func41,Tryz.ntmps41;go_wp2_with fail;clear h1 x1 x2 hw0
  go_loopw [5,6] (λsv s wr=>∃(i:Nat) (v:Int),i≤l.length∧i≤100∧sv=.int .i64 v∧s=.int .i64 i∧0≤v∧Hid (v+yab (l.drop i) (100-i) (d-1)=T)∧Hid (Below w1.heap.size w1 wr)) (λ_ s _=>l.length-(intOf s).toNat)
  case atStart=>
   obtain⟨v,rfl,hv,hq⟩:=HA0.out;exact⟨0,_,by omega,by omega,rfl,rfl,hv,zz hq,HD0⟩
  case round=>
   clear HA0 HD0;obtain⟨i,v,hi,hi2,rfl,rfl,hv,HA,HD⟩:=hrel;have sB:=HD.out.size;have HBW:=zz (zab HB1.out HD.out HB1.out.size);have z2:wr.cell? ⟨w.heap.size,2,none⟩=some (.slice A l.length c):=(zaa HD.out HC.out).cell 2
   by_cases hlt:i<l.length
   ·have hin:(i:Int)<l.length:=by omega
    by_cases h100:i<100
    ·have hin2:(i:Int)<100:=by omega
     obtain⟨b,off,y,e,hlb,hget,Ay,cy,p0,p1,p2,r5⟩:=zjY (HR.out.belows HBW.out) hlt;subst e;have q:=HA.out;rw[zak hget,show 100-i=(100-(i+1))+1 by omega,yaj] at q;have hm:=List.mem_of_getElem? hget;have hy:=yah hm;have hw1:=yam y (d-1);have hw2:=yan (l.drop (i+1)) (100-(i+1)) (d-1);have KU:=zz (HI.out y hm (d-1) Ay cy wr (by omega) (by omega) (by omega) (r5.belows (Below.refl _ _)));obtain⟨x,hx⟩:∃x,yaa y (d-1)=x:=⟨_,rfl⟩;rw[hx] at q KU hw1;have hwx:IntKind.i64.wrap (v+x)=v+x:=IntWalk.i64_in _ (by omega);have HQ:=zz (show (v+x)+yab (l.drop (i+1)) (100-(i+1)) (d-1)=T by omega);have hvx:0≤v+x:=by omega
     clear HA r5 hget hlb q hx hm hw1 hw2 hy;go_wp2_with fail;(with_reducible refine KU.out.mono ?_);rintro e w4 ⟨rfl,hb4⟩;have HD2:=zz (zab HD.out hb4 HD.out.size);clear hb4;go_wp2_with fail;exact⟨⟨i+1,v+x,by omega,by omega,rfl,by go_num,hvx,HQ,HD2⟩,by simp[intOf];omega⟩
    ·have hq:v=T:=by
      have q:=HA.out;rw[show 100-i=0 by omega,yak] at q;omega
     have hin2:¬(i:Int)<100:=by omega
     have hmx:IntKind.i64.wrap ((l.length:Int)-100)=(l.length:Int)-100:=IntWalk.i64_in _ (by omega);have hmy:IntKind.i64.wrap (1000*max 0 ((l.length:Int)-100))=1000*max 0 ((l.length:Int)-100):=IntWalk.i64_in _ (by omega);have hmz:IntKind.i64.wrap (T+1000*max 0 ((l.length:Int)-100))=T+1000*max 0 ((l.length:Int)-100):=IntWalk.i64_in _ (by omega);clear HA;subst hq;go_wp2_with fail
     all_goals
      go_ret;refine⟨?_,HBW.out⟩
      show Ending.returned (Value.int .i64 _)=Ending.returned (Value.int .i64 _)
      congr 2<;>omega
   ·have hq:v=T:=by
     have q:=HA.out;rw[List.drop_eq_nil_of_le (by omega),yal] at q;omega
    have hmx:IntKind.i64.wrap ((l.length:Int)-100)=(l.length:Int)-100:=IntWalk.i64_in _ (by omega);have hmy:IntKind.i64.wrap (1000*max 0 ((l.length:Int)-100))=1000*max 0 ((l.length:Int)-100):=IntWalk.i64_in _ (by omega);have hmz:IntKind.i64.wrap (T+1000*max 0 ((l.length:Int)-100))=T+1000*max 0 ((l.length:Int)-100):=IntWalk.i64_in _ (by omega);clear HA;subst hq;go_wp2_with fail
    all_goals
     go_ret;refine⟨?_,HBW.out⟩
     show Ending.returned (Value.int .i64 _)=Ending.returned (Value.int .i64 _)
     congr 2<;>omega
theorem yaw:∀t:Ty,yau t
 |.mk k n a=>yav k n a (λx _hx=>yaw x)
theorem yax (t:Ty) (A:Option Addr) (c:Nat) (w:World) (hsz:t.bsz≤4194304) (h:Rd (Lt w.heap.size) w (ys t.args) (.slice A t.args.length c)) :
 Calls Tryz.prog 13 #[.agg #[.int .i64 t.kind,.string t.name,.slice A t.args.length c]] w λe w'=>e=.returned (.bool (decide (yaa t 12≤260)))∧Below w.heap.size w w':=by
 obtain⟨w1,h1,b1,c1⟩:=zai w #[.int .i64 t.kind,.string t.name,.slice A t.args.length c] 55;obtain⟨x0,x1,x2⟩:=yc3 c1;have K:=zz (yaw t 12 A c w1 (by omega) (by omega) hsz (h.belows b1));have HB1:=zz b1;clear b1 c1 h;go_enter Tryz.func13,Tryz.ntmps13;go_wp2_with fail;(with_reducible refine K.out.mono ?_);rintro e w2 ⟨rfl,hb⟩;have HB2:=zz (zab HB1.out hb HB1.out.size);clear hb;go_wp2_with fail;go_ret;exact⟨rfl,HB2.out⟩
open Go.RowKit Go.Sort
theorem yay (a b:Ty) (r s:List Ty):zqO (a::r) (b::s)=(zsk a b&&zqO r s):=by rw[zqO]
theorem yaz (s:List Ty):zqO [] s=true:=by
 rw[zqO];intro a r b s h;cases h
def yba (t:Ty):Prop:=∀(u:Ty) (A:Option Addr) (c:Nat) (A':Option Addr) (c':Nat) (w:World),Rd (Lt w.heap.size) w (ys t.args) (.slice A t.args.length c)→Rd (Lt w.heap.size) w (ys u.args) (.slice A' u.args.length c')→
 Calls Tryz.prog 19 #[.agg #[.int .i64 t.kind,.string t.name,.slice A t.args.length c],.agg #[.int .i64 u.kind,.string u.name,.slice A' u.args.length c']] w λe w'=>e=.returned (.bool (zsk t u))∧Below w.heap.size w w'
theorem ybb (k:Int) (nm:ByteArray) (l:List Ty) (IH:∀t∈l,yba t):yba (.mk k nm l):=by
 intro u A c A' c' w h h';obtain⟨k',nm',l'⟩:=u;replace h:Rd (Lt w.heap.size) w (ys l) (.slice A l.length c):=h;replace h':Rd (Lt w.heap.size) w (ys l') (.slice A' l'.length c'):=h'
 show Calls Tryz.prog 19 #[.agg #[.int .i64 k,.string nm,.slice A l.length c],.agg #[.int .i64 k',.string nm',.slice A' l'.length c']] w λe w'=>e=.returned (.bool (zsk (.mk k nm l) (.mk k' nm' l')))∧Below w.heap.size w w'
 rw[zsk];have hl:=zmv h;have hl':=zmv h';have hn:l.length≤9223372036854775807:=Nat.le_trans hl.2.1 hl.2.2;have hn':l'.length≤9223372036854775807:=Nat.le_trans hl'.2.1 hl'.2.2;have b1:=zag w (.cells #[.int .i64 k,.string nm,.slice A l.length c] 55);have c1:=zac.new w #[.int .i64 k,.string nm,.slice A l.length c] 55;obtain⟨w1,h1⟩:∃W,w.alloc (.cells #[.int .i64 k,.string nm,.slice A l.length c] 55)=W:=⟨_,rfl⟩;have s1:w.heap.size+1≤w1.heap.size:=by rw[←h1];simp
 rw[h1] at b1 c1;have b2:=zag w1 (.cells #[.int .i64 k',.string nm',.slice A' l'.length c'] 55);have c2:=zac.new w1 #[.int .i64 k',.string nm',.slice A' l'.length c'] 55;obtain⟨w2,h2⟩:∃W,w1.alloc (.cells #[.int .i64 k',.string nm',.slice A' l'.length c'] 55)=W:=⟨_,rfl⟩;have s2:w1.heap.size+1≤w2.heap.size:=by rw[←h2];simp
 rw[h2] at b2 c2;have c1':=zaa b2 c1;obtain⟨x0,x1,x2⟩:=yc3 c1';obtain⟨y0,y1,y2⟩:=yc3 c2;have HC1:=zz c1';have HC2:=zz c2;have HB:=zz (zab b1 b2 b1.size);have HR:=zz h;have HR':=zz h';have HI:=zz IH;clear b1 b2 c1 c1' c2 hl hl' h h' IH
 by_cases hk:k=k'
 ·have ek:(k != k')=false:=by simp[hk]
  rw[decide_eq_true hk,Bool.true_and]
  by_cases hm:nm=nm'
  ·have em:(nm.toList == nm'.toList)=true:=by simp[hm]
   rw[decide_eq_true hm,Bool.true_and]
   by_cases hll:l.length=l'.length
   ·have ell:((l.length:Int) != (l'.length:Int))=false:=by simp[hll]
    rw[decide_eq_true hll,Bool.true_and];obtain⟨r,hr⟩:∃r,zqO l l'=r:=⟨_,rfl⟩;have HA0:Hid (zqO (l.drop 0) (l'.drop 0)=r):=zz hr;rw[hr];have hll1:l.length≤l'.length:=Nat.le_of_eq hll;have hll2:l'.length≤l.length:=Nat.le_of_eq hll.symm;clear hr hk hm hll;have HD0:Hid (Below w2.heap.size w2 w2):=zz (Below.refl _ _);go_enter Tryz.func19,Tryz.ntmps19;go_wp2_with fail;clear h1 h2 x0 x1 x2 y0 y1 y2 ek em ell
    go_loopw [30] (λs wr=>∃i:Nat,i≤l.length∧s=.int .i64 i∧Hid (zqO (l.drop i) (l'.drop i)=r)∧Hid (Below w2.heap.size w2 wr)) (λs _=>l.length-(intOf s).toNat)
    case atStart=>exact⟨0,by omega,rfl,HA0,HD0⟩
    case round=>
     clear HA0 HD0;obtain⟨i,hi,rfl,HA,HD⟩:=hrel;have sB:=HD.out.size;have HBW:=zz (zab HB.out HD.out HB.out.size)
     by_cases hlt:i<l.length
     ·obtain⟨b,off,y,e,hlb,hget,Ay,cy,p0,p1,p2,r5⟩:=zjY (HR.out.belows HBW.out) hlt;subst e;obtain⟨b',off',y',e,hlb',hget',Ay',cy',p0',p1',p2',r5'⟩:=zjY (HR'.out.belows HBW.out) (show i<l'.length by omega);subst e;have hin:(i:Int)<l.length:=by omega
      have hin':(i:Int)<l'.length:=by omega
      have q:=HA.out;rw[zak hget,zak hget',yay] at q;have z2:wr.cell? ⟨w.heap.size,2,none⟩=_:=(zaa HD.out HC1.out).cell 2;have z2':wr.cell? ⟨w1.heap.size,2,none⟩=_:=(zaa HD.out HC2.out).cell 2;replace z2:wr.cell? ⟨w.heap.size,2,none⟩=some (.slice (some ⟨b,off,none⟩) l.length c):=z2;replace z2':wr.cell? ⟨w1.heap.size,2,none⟩=some (.slice (some ⟨b',off',none⟩) l'.length c'):=z2'
      have K0:Hid (∀d os,Calls Tryz.prog 19 #[.agg #[.int .i64 y.kind,.string y.name,.slice Ay y.args.length cy],.agg #[.int .i64 y'.kind,.string y'.name,.slice Ay' y'.args.length cy']] (grow (redrawn wr d) os) λe w'=>e=.returned (.bool (zsk y y'))∧∃p:Regrown,w'=grow (redrawn wr p.d) p.os):=
       zz (λd os=>Calls.regrown_of (by have t:=HI.out y (List.mem_of_getElem? hget) y' Ay cy Ay' cy' (grow (redrawn wr d) os) (r5.belows (below_regrown wr d os)) (r5'.belows (below_regrown wr d os));exact t))
      have o0:=λd os=>cell_regrown p0 d os;have o1:=λd os=>cell_regrown p1 d os;have o2:=λd os=>cell_regrown p2 d os;have o3:=λd os=>cell_regrown p0' d os;have o4:=λd os=>cell_regrown p1' d os;have o5:=λd os=>cell_regrown p2' d os;have o6:=λd os=>cell_regrown z2 d os;have o7:=λd os=>cell_regrown z2' d os;clear HA r5 r5' hget hget' hlb hlb';obtain⟨v,hv⟩:∃v,zsk y y'=v:=⟨_,rfl⟩;rw[hv] at q K0;have HQ:=zz q;clear q hv;go_wp2_with fail;refine wp_region_quiet_below (by kernel_rfl) (by kernel_rfl) ?_
      repeat (go_big_quiet_step (first|with_reducible exact K0.out _ _))
      refine wpQuiet_nil ?_;intro _ hw';obtain⟨⟨dq,osq⟩,hw''⟩:=hw';subst hw'';have HD2:=zz (zab HD.out (below_regrown wr dq osq) HD.out.size);have HBL:=zz (zab HBW.out (below_regrown wr dq osq) HBW.out.size);cases v with
      |false=>
       go_wp2_with fail;go_ret;exact⟨by rw[←HQ.out];rfl,HBL.out⟩
      |true=>
       go_wp2_with fail;exact⟨⟨i+1,by omega,by go_num,zz (by have q:=HQ.out;simpa using q),HD2⟩,by simp[intOf];omega⟩
     ·have HQ:Hid (true=r):=zz (by
       have q:=HA.out;rw[List.drop_eq_nil_of_le (by omega),yaz] at q;exact q)
      clear HA;go_wp2_with fail;go_ret;exact⟨by rw[←HQ.out];rfl,HBW.out⟩
   ·have ell:((l.length:Int) != (l'.length:Int))=true:=by simp;omega
    rw[decide_eq_false hll];clear hk hm hll;go_enter Tryz.func19,Tryz.ntmps19;go_wp2_with fail;go_ret;exact⟨rfl,HB.out⟩
  ·have em:=zez hm;rw[decide_eq_false hm];clear hk hm;go_enter Tryz.func19,Tryz.ntmps19;go_wp2_with fail;go_ret;exact⟨rfl,HB.out⟩
 ·have ek:(k != k')=true:=by rw[bne_iff_ne];exact hk
  rw[decide_eq_false hk];clear hk;go_enter Tryz.func19,Tryz.ntmps19;go_wp2_with fail;go_ret;exact⟨rfl,HB.out⟩
theorem ybc:∀t:Ty,yba t
 |.mk k n a=>ybb k n a (λx _hx=>ybc x)
theorem ybd {α:Type} {p:Nat→α→Prop}:∀n:Nat,(∀i,i<n→∃a,p i a)→∃l:List α,l.length=n∧∀i a,l[i]?=some a→p i a
 |0,_=>⟨[],rfl,λi a h=>by simp at h⟩
 |n+1,h=>by
  obtain⟨l,h1,h2⟩:=ybd n (λi hi=>h i (by omega));obtain⟨a,ha⟩:=h n (by omega);refine⟨l++[a],by simp[h1],λi b hb=>?_⟩;rcases Nat.lt_or_ge i n with hi|hi
  ·rw[List.getElem?_append_left (by omega)] at hb;exact h2 i b hb
  ·rw[List.getElem?_append_right (by omega)] at hb;have hl:=(List.getElem?_eq_some_iff.1 hb).1;simp at hl;obtain rfl:i=n:=by omega
   rw[h1,Nat.sub_self] at hb;simp at hb;rw[←hb];exact ha
theorem ybe {α β:Type} (f:α→Nat) (g:β→Nat):∀(l:List α) (m:List β),l.length=m.length→(∀(i:Nat) (a:α) (b:β),l[i]?=some a→m[i]?=some b→f a≤g b)→(l.map f).sum≤(m.map g).sum
 |[],m,h,_=>by simp
 |a::l,[],h,_=>by simp at h
 |a::l,b::m,h,hf=>by
  have h1:=hf 0 a b rfl rfl;have h2:=ybe f g l m (by simpa using h) (λi x y hx hy=>hf (i+1) x y (by simpa using hx) (by simpa using hy));simp only[List.map_cons,List.sum_cons];omega
theorem ybf {H:Type}:∀l:List (DataW H),Rows.uptoBulkAll l=(l.map Rows.uptoBulk).sum
 |[]=>by simp[Rows.uptoBulkAll]
 |d::r=>by simp[Rows.uptoBulkAll,ybf r]
section
variable {H:Type} {enc:TypeId × Value→H} {W:World}
theorem ybg {a:Addr} {n:Nat} {cs:List Value} (h:W.cells? 0 a n=some cs):cs.length=n∧∀j u,cs[j]?=some u→W.cell? (a.add j)=some u:=by
 obtain⟨_,h1,h2⟩:=World.cells?_some h;refine⟨h1,λj u hj=>?_⟩;have hl:j<cs.length:=(List.getElem?_eq_some_iff.1 hj).1;rw[h2 j (by omega)];exact hj
theorem ybh {t e:TypeId} {k n:Nat} {cs:List Value} {x:DataW H × List MemPlace} (ht:Tryz.prog.underlying t=some (.slice e)) (hc:Tryz.prog.cellsOf e=k) (hk:0<k) {α:Type} (row:α→Nat→D) (rows:List α→Nat→Nat→D) (hrows:∀l i a,l[i]?=some a→rows l i=row a) (bulk:α→Nat) (Q:α→Prop)
 (helem:∀cs x,DataW.trod enc Tryz.prog W 0 (λ_=>true) true n e cs=some x→∃a:α,(∀j u,cs[j]?=some u→Rd (Lt W.heap.size) W (row a j) u)∧bulk a≤Rows.uptoBulk x.1∧Q a)
 (h:DataW.trod enc Tryz.prog W 0 (λ_=>true) true (n+1) t cs=some x) :
 ∃A c,∃l:List α,cs=[.slice A l.length c]∧Rd (Lt W.heap.size) W (.sl k l.length (rows l)) (.slice A l.length c)∧(l.map bulk).sum+1≤Rows.uptoBulk x.1∧∀a∈l,Q a:=by
 rcases DataW.trod_slice ht h with ⟨rfl,rfl⟩|⟨a,len,cap,elems,rest,m,hm,rfl,rfl,_,hl,hcm,hel,hat,_,_⟩
 ·exact⟨none,0,[],rfl,Rd.sl_nil,by simp[Rows.uptoBulk],λa ha=>absurd ha (by simp)⟩
 ·obtain rfl:n=m:=by omega
  rw[hc] at hat
  have each:∀i,i<len→∃b:α,(∀j,j<k→∃u,W.cell? ((a.add (i*k)).add j)=some u∧Rd (Lt W.heap.size) W (row b j) u)∧(∀y,elems[i]?=some y→bulk b≤Rows.uptoBulk y.1)∧Q b:=λi hi=>by
   have h1:=hat i hi;have hi2:elems[i]?=some elems[i]:=List.getElem?_eq_getElem (by omega);rw[hi2] at h1;obtain⟨cs',h2,h3⟩:=Option.bind_eq_some_iff.1 h1;obtain⟨hl2,hce⟩:=ybg h2;obtain⟨b,hb1,hb2,hb3⟩:=helem cs' _ h3;refine⟨b,λj hj=>?_,λy hy=>?_,hb3⟩
   ·have hu:cs'[j]?=some (cs'[j]'(by omega)):=List.getElem?_eq_getElem (by omega);exact⟨_,hce j _ hu,hb1 j _ hu⟩
   ·rw[hi2] at hy;rw[←Option.some.inj hy];exact hb2
  obtain⟨l,hll,hlp⟩:=ybd len each;subst hll;refine⟨some a,cap,l,rfl,?_,?_,λb hb=>?_⟩
  ·refine Rd.sl_mk hl (by unfold maxLen at hcm;exact hcm) λhpos=>?_;have h0:l[0]?=some l[0]:=List.getElem?_eq_getElem hpos;obtain⟨u,hu,_⟩:=(hlp 0 _ h0).1 0 hk;have ha0:(a.add (0*k)).add 0=a:=by simp[Addr.add]
   rw[ha0] at hu
   have hsp:a.spot=none:=by
    unfold World.cell? at hu
    split at hu
    ·split at hu
     ·cases hu
     ·rename_i h;simpa using h
    ·cases hu
   obtain⟨ab,ao,asp⟩:=a;have hsp:asp=none:=hsp;subst hsp;refine⟨ab,ao,rfl,World.block_lt_of_cell? W _ hu,λi hi j hj=>?_⟩;have hi2:l[i]?=some l[i]:=List.getElem?_eq_getElem hi;obtain⟨u,hu,hd⟩:=(hlp i _ hi2).1 j hj;rw[Addr.add_lit,Addr.add_lit] at hu;exact⟨u,hu,by rw[hrows l i _ hi2];exact hd⟩
  ·have:=ybe bulk (λy:DataW H × List MemPlace=>Rows.uptoBulk y.1) l elems (by omega) (λi b y hb hy=>(hlp i b hb).2.1 y hy);simp only[Rows.uptoBulk,ybf,List.map_map];have h2:(elems.map (Rows.uptoBulk ∘ λy=>y.1)).sum=(elems.map λy:DataW H × List MemPlace=>Rows.uptoBulk y.1).sum:=rfl;rw[h2];omega
  ·obtain⟨i,hi⟩:=List.mem_iff_getElem?.1 hb;exact(hlp i b hi).2.2
theorem ybi {l:List Value} {k:Nat} {v:Value} (h:(l.drop k).take 1=[v]):l[k]?=some v:=by
 have:=congrArg (λm=>m[0]?) h
 simpa [List.getElem?_take,List.getElem?_drop] using this
theorem ybj:∀l:List Ty,yac l=(l.map Ty.bsz).sum
 |[]=>by rw[yaf];rfl
 |v::r=>by rw[yae,ybj r];rfl
theorem ybk (m:Nat) (ih:∀(cs:List Value) (x:DataW H × List MemPlace),DataW.trod enc Tryz.prog W 0 (λ_=>true) true m 53 cs=some x→∃A c,∃l:List Ty,cs=[.slice A l.length c]∧Rd (Lt W.heap.size) W (ys l) (.slice A l.length c)∧yac l+1≤Rows.uptoBulk x.1)
 (cs:List Value) (x:DataW H × List MemPlace) (hx:DataW.trod enc Tryz.prog W 0 (λ_=>true) true (m+1) 55 cs=some x) :
 ∃(a:Ty) (A:Option Addr) (c:Nat),cs=[.int .i64 a.kind,.string a.name,.slice A a.args.length c]∧Rd (Lt W.heap.size) W (ys a.args) (.slice A a.args.length c)∧a.bsz≤Rows.uptoBulk x.1:=by
 obtain⟨xs,m',hm,rfl,hlen,hxs,hfl⟩:=DataW.trod_struct Tryz.underlying55 hx;obtain rfl:m=m':=by omega
 have g0:DataW.trod enc Tryz.prog W 0 (λ_=>true) true m 3 ((cs.drop 0).take (Tryz.prog.cellsOf 3))=xs[0]?:=hfl 0 _ rfl;have g1:DataW.trod enc Tryz.prog W 0 (λ_=>true) true m 9 ((cs.drop 1).take (Tryz.prog.cellsOf 9))=xs[1]?:=hfl 1 _ rfl;have g2:DataW.trod enc Tryz.prog W 0 (λ_=>true) true m 53 ((cs.drop 2).take (Tryz.prog.cellsOf 53))=xs[2]?:=hfl 2 _ rfl;have hs:xs.length=3:=hxs
 obtain⟨x0,x1,x2,rfl⟩:∃x0 x1 x2,xs=[x0,x1,x2]:=by
  match xs,hs with
  |[x0,x1,x2],_=>exact⟨_,_,_,rfl⟩
 have cc3:Tryz.prog.cellsOf 3=1:=by kernel_rfl
 have cc9:Tryz.prog.cellsOf 9=1:=by kernel_rfl
 have cc30:Tryz.prog.cellsOf 53=1:=by kernel_rfl
 obtain⟨kd,e0,f0,w0⟩:=DataW.trod_int Tryz.underlying3 g0;obtain⟨t,e1,f1,_⟩:=DataW.trod_string Tryz.underlying9 g1;obtain⟨A',c',l',e2,r2,b2⟩:=ih _ _ g2;rw[cc3] at e0;rw[cc9] at e1;rw[cc30] at e2;have hlen:cs.length=3:=hlen.trans (by kernel_rfl);refine⟨.mk kd t l',A',c',?_,r2,?_⟩
 ·apply List.ext_getElem?;intro j
  match j with
  |0=>exact ybi e0
  |1=>exact ybi e1
  |2=>exact ybi e2
  |j+3=>rw[List.getElem?_eq_none (by omega),List.getElem?_eq_none (by simp)]
 ·rw[yad];subst f0 f1;simp only[List.map_cons,List.map_nil,Rows.uptoBulk,Rows.uptoBulkAll];have:t.data.toList.length=t.size:=rfl;omega
theorem ybl:∀(N fuel:Nat),fuel≤N→∀(cs:List Value) (x:DataW H × List MemPlace),DataW.trod enc Tryz.prog W 0 (λ_=>true) true fuel 53 cs=some x→
 ∃A c,∃l:List Ty,cs=[.slice A l.length c]∧Rd (Lt W.heap.size) W (ys l) (.slice A l.length c)∧yac l+1≤Rows.uptoBulk x.1:=by
 intro N
 induction N with
 |zero=>
  intro fuel hf cs x h;obtain rfl:fuel=0:=by omega
  simp[DataW.trod] at h
 |succ N ih=>
  intro fuel hf cs x h;cases fuel with
  |zero=>simp[DataW.trod] at h
  |succ n=>
   obtain⟨A,c,l,h1,h2,h3,_⟩:=ybh (k:=3) Tryz.underlying53 (by kernel_rfl) (by omega) Ty.row znu ziv Ty.bsz (λ_=>True) (λcs x hx=>by
    cases n with
    |zero=>simp[DataW.trod] at hx
    |succ m=>
     obtain⟨a,A,c,rfl,hr,hb⟩:=ybk m (λcs x=>ih m (by omega) cs x) cs x hx;exact⟨a,λj u hj=>zpy hr j u hj,hb,trivial⟩) h
   exact⟨A,c,l,h1,h2,by rw[ybj];exact h3⟩
theorem ybm (fuel:Nat) (cs:List Value) (x:DataW H × List MemPlace) (hx:DataW.trod enc Tryz.prog W 0 (λ_=>true) true fuel 55 cs=some x) :
 ∃(a:Ty) (A:Option Addr) (c:Nat),cs=[.int .i64 a.kind,.string a.name,.slice A a.args.length c]∧Rd (Lt W.heap.size) W (ys a.args) (.slice A a.args.length c)∧a.bsz≤Rows.uptoBulk x.1:=by
 cases fuel with
 |zero=>simp[DataW.trod] at hx
 |succ m=>exact ybk m (λcs x=>ybl m m (Nat.le_refl _) cs x) cs x hx
end
theorem ybn (s:ByteArray) (w:World) (hs:s.size≤2097152):Calls Tryz.prog 44 #[.string s] w λe w'=>e=.returned (.bool (zcT 65 90 s))∧w=w':=by
 rcases Nat.eq_zero_or_pos s.size with h0|h0
 ·have HE:Hid (zcT 65 90 s=false):=zz (by unfold zcT;simp;omega);have he:s.toList=[]:=by rw[ByteArray.toList_eq];exact List.eq_nil_of_length_eq_zero (by rw[zaz];exact h0)
  have hemp:s.toList.isEmpty=true:=by simpa using he
  go_enter Tryz.func44,Tryz.ntmps44;go_wp2_with fail
  go_loopw [3] (λs3 wr=>s3=.int .i64 0∧wr=w) (λ_ _=>0)
  case atStart=>exact⟨rfl,rfl⟩
  case round=>
   obtain⟨rfl,rfl⟩:=hrel;have hz:¬(0:Int)<s.size:=by omega
   go_wp2_with fail;go_ret;exact⟨by rw[HE.out];first|rfl|simp[he],rfl⟩
 ·have hne:¬s.toList=[]:=λh=>by
   rw[ByteArray.toList_eq] at h;have:=zaz s;rw[h] at this;simp at this;omega
  have hemp:s.toList.isEmpty=false:=by simpa using hne
  have hi0:(Instr.index 9 (.string s) (.int .i64 0)).run Tryz.prog w=.ok (.int .u8 (zan s 0)) w:=by simpa using zbL s 0 h0 w
  have hr0:=zck s 0;have HI:=zz (zbL s);have HT:Hid (zcT 65 90 s=decide (0<s.size∧65≤zan s 0∧zan s 0≤90∧∀i,i<s.size→zgd (zan s i)=true)):=zz rfl;generalize zcT 65 90 s=R at *
  go_enter Tryz.func44,Tryz.ntmps44;go_wp2_with fail
  go_loopw [3] (λs3 wr=>∃(i:Nat),i≤s.size∧s3=.int .i64 i∧Hid ((∀j,j<i→zgd (zan s j)=true)∧(0<i→65≤zan s 0∧zan s 0≤90∨97≤zan s 0∧zan s 0≤122))∧wr=w) (λs3 _=>s.size-(intOf s3).toNat)
  case atStart=>exact⟨0,by omega,rfl,zz ⟨λj hj=>absurd hj (by omega),λh=>absurd h (by omega)⟩,rfl⟩
  case round=>
   obtain⟨i,hi,rfl,HN,rfl⟩:=hrel
   by_cases hlt:i<s.size
   ·have hix:=HI.out i hlt wr;have hr:=zck s i
    have HS:Hid (zgd (zan s i)=true→(i=0→65≤zan s i∧zan s i≤90∨97≤zan s i∧zan s i≤122)→(∀j,j<i+1→zgd (zan s j)=true)∧(0<i+1→65≤zan s 0∧zan s 0≤90∨97≤zan s 0∧zan s 0≤122)):=zz (λh hl=>⟨λj hj=>by
     rcases Nat.lt_or_eq_of_le (Nat.lt_succ_iff.1 hj) with h2|h2
     ·exact HN.out.1 j h2
     ·subst h2;exact h,λ_=>by
     rcases Nat.eq_zero_or_pos i with h2|h2
     ·have:=hl h2;rwa [h2] at this
     ·exact HN.out.2 h2⟩)
    have HF:Hid ((zgd (zan s i)=false∨i=0∧¬(65≤zan s i∧zan s i≤90∨97≤zan s i∧zan s i≤122))→R=false):=zz (λh=>by
     rw[HT.out];rw[decide_eq_false];rintro⟨_,h3,h4,h2⟩;rcases h with h|⟨rfl,h⟩
     ·rw[h2 i hlt] at h;cases h
     ·exact h (.inl ⟨h3,h4⟩))
    obtain⟨X,hX⟩:∃X,zan s i=X:=⟨_,rfl⟩;rw[hX] at hix hr HS HF;have HC:Hid (zgd X=decide (97≤X∧X≤122∨65≤X∧X≤90∨48≤X∧X≤57∨X=95)):=zz rfl;have HF:Hid (¬(97≤X∧X≤122∨65≤X∧X≤90∨48≤X∧X≤57∨X=95)∨i=0∧¬(65≤X∧X≤90∨97≤X∧X≤122)→R=false):=zz (λh=>HF.out (h.elim (λh=>.inl (by rw[HC.out];exact decide_eq_false h)) .inr));clear hX HN hi0;rcases Nat.eq_zero_or_pos i with hz|hz
    ·subst hz;have hix:(Instr.index 9 (.string s) (.int .i64 0)).run Tryz.prog wr=.ok (.int .u8 X) wr:=by simpa using hix
     rcases (show X<48∨(48≤X∧X≤57)∨(58≤X∧X≤64)∨(65≤X∧X≤90)∨(91≤X∧X≤94)∨(95≤X∧X≤95)∨(96≤X∧X≤96)∨(97≤X∧X≤122)∨122<X by omega) with h|⟨h,h'⟩|⟨h,h'⟩|⟨h,h'⟩|⟨h,h'⟩|⟨h,h'⟩|⟨h,h'⟩|⟨h,h'⟩|h
     all_goals (
      first|have k97:¬97≤X:=by omega|have k97:97≤X:=by omega
      first|have k65:¬65≤X:=by omega|have k65:65≤X:=by omega
      first|have k48:¬48≤X:=by omega|have k48:48≤X:=by omega
      first|have k122:X≤122:=by omega|have k122:¬X≤122:=by omega
      first|have k90:X≤90:=by omega|have k90:¬X≤90:=by omega
      first|have k57:X≤57:=by omega|have k57:¬X≤57:=by omega
      first|have j48:X<48:=by omega|have j48:¬X<48:=by omega
      first|have j57:¬57<X:=by omega|have j57:57<X:=by omega
      first|have h95:(X == 95)=false:=by simp;omega|have h95:(X == 95)=true:=by simp;omega
      first|have n95:(X != 95)=true:=by simp;omega|have n95:(X != 95)=false:=by simp;omega
      first|have HY:=zz (HF.out (by omega))|have HY:=zz (HS.out (by rw[HC.out];exact decide_eq_true (by omega)) (λ_=>by omega))
      clear HS HF HC;go_wp2_with fail
      all_goals first
       |(exfalso;omega)
       |(go_ret;exact⟨by rw[HY.out];rfl,rfl⟩)
       |exact⟨⟨1,by omega,by first|rfl|go_num,HY,trivial⟩,by simp[intOf];omega⟩)
    ·have hzb:((i:Int) == 0)=false:=by simp;omega
     rcases (show X<48∨(48≤X∧X≤57)∨(58≤X∧X≤64)∨(65≤X∧X≤90)∨(91≤X∧X≤94)∨(95≤X∧X≤95)∨(96≤X∧X≤96)∨(97≤X∧X≤122)∨122<X by omega) with h|⟨h,h'⟩|⟨h,h'⟩|⟨h,h'⟩|⟨h,h'⟩|⟨h,h'⟩|⟨h,h'⟩|⟨h,h'⟩|h
     all_goals (
      first|have k97:¬97≤X:=by omega|have k97:97≤X:=by omega
      first|have k65:¬65≤X:=by omega|have k65:65≤X:=by omega
      first|have k48:¬48≤X:=by omega|have k48:48≤X:=by omega
      first|have k122:X≤122:=by omega|have k122:¬X≤122:=by omega
      first|have k90:X≤90:=by omega|have k90:¬X≤90:=by omega
      first|have k57:X≤57:=by omega|have k57:¬X≤57:=by omega
      first|have j48:X<48:=by omega|have j48:¬X<48:=by omega
      first|have j57:¬57<X:=by omega|have j57:57<X:=by omega
      first|have h95:(X == 95)=false:=by simp;omega|have h95:(X == 95)=true:=by simp;omega
      first|have n95:(X != 95)=true:=by simp;omega|have n95:(X != 95)=false:=by simp;omega
      first|have HY:=zz (HF.out (by omega))|have HY:=zz (HS.out (by rw[HC.out];exact decide_eq_true (by omega)) (λh=>absurd h (by omega)))
      clear HS HF HC;go_wp2_with fail
      all_goals first
       |(exfalso;omega)
       |(go_ret;exact⟨by rw[HY.out];rfl,rfl⟩)
       |exact⟨⟨i+1,by omega,by first|rfl|go_num,HY,trivial⟩,by simp[intOf];omega⟩)
   ·obtain rfl:i=s.size:=by omega
    obtain⟨X0,hX0⟩:∃X,zan s 0=X:=⟨_,rfl⟩;rw[hX0] at hi0 hr0
    have HY:Hid (R=decide (X0≤90)):=zz (by
     rw[HT.out,hX0,decide_eq_decide];have h2:=HN.out.2 h0;rw[hX0] at h2
     constructor
     ·rintro⟨_,_,h4,_⟩;exact h4
     ·intro h4;exact⟨h0,by omega,h4,HN.out.1⟩)
    clear hX0 HN;go_wp2_with fail;go_ret;exact⟨by rw[HY.out];first|rfl|simp[hne],rfl⟩
theorem ybo (s:ByteArray) (w:World) (hs:s.size≤2097152):Calls Tryz.prog 44 #[.string s] w λe w'=>e=.returned (.bool (zaw s))∧w=w':=by
 have h:=ybn s w hs
 rwa [show zcT 65 90 s=zaw s from zgU 65 90 s] at h
def ybp (t:Ty):Prop:=∀(A:Option Addr) (c:Nat) (w:World),Rd (Lt w.heap.size) w (ys t.args) (.slice A t.args.length c)→
 Calls Tryz.prog 22 #[.agg #[.int .i64 t.kind,.string t.name,.slice A t.args.length c]] w λe w'=>e=.returned (.bool (zaZ t))∧Below w.heap.size w w'
theorem ybq (k:Int) (nm:ByteArray) (l:List Ty) (IH:∀t∈l,ybp t):ybp (.mk k nm l):=by
 intro A c w h;replace h:Rd (Lt w.heap.size) w (ys l) (.slice A l.length c):=h
 show Calls Tryz.prog 22 #[.agg #[.int .i64 k,.string nm,.slice A l.length c]] w λe w'=>e=.returned (.bool (zaZ (.mk k nm l)))∧Below w.heap.size w w'
 rw[zaZ];have hl:=zmv h;have hn:l.length≤9223372036854775807:=Nat.le_trans hl.2.1 hl.2.2;obtain⟨w1,h1,b1,c1⟩:=zai w #[.int .i64 k,.string nm,.slice A l.length c] 55;have HC:=zz c1;have HB1:=zz b1;have HR:=zz h;have HI:=zz IH;clear b1 c1 hl h IH;obtain⟨r,hr⟩:∃r,zcm l=r:=⟨_,rfl⟩;rw[hr];obtain⟨V,hV⟩:∃V,(!decide (k=8)&&r)=V:=⟨_,rfl⟩;rw[hV];have HV:=zz hV;clear hV;have HA0:Hid (zcm (l.drop 0)=r):=zz hr;clear hr;have HD0:Hid (Below w1.heap.size w1 w1):=zz (Below.refl _ _);go_enter Tryz.func22,Tryz.ntmps22;go_wp2_with fail;clear h1
 go_loopw [3] (λs wr=>∃i:Nat,i≤l.length∧s=.int .i64 i∧Hid (zcm (l.drop i)=r)∧Hid (Below w1.heap.size w1 wr)) (λs _=>l.length-(intOf s).toNat)
 case atStart=>exact⟨0,by omega,rfl,HA0,HD0⟩
 case round=>
  clear HA0 HD0;obtain⟨i,hi,rfl,HA,HD⟩:=hrel;have sB:=HD.out.size;have HBW:=zz (zab HB1.out HD.out HB1.out.size);have hcw:=zaa HD.out HC.out;obtain⟨z0,z1,z2⟩:=yc3 hcw;clear hcw
  by_cases hlt:i<l.length
  ·obtain⟨b,off,y,e,hlb,hget,A',c',p0,p1,p2,r5⟩:=zjY (HR.out.belows HBW.out) hlt;subst e;have hin:(i:Int)<l.length:=by omega
   have q:=HA.out;rw[zak hget,ziS] at q;have KU:=zz (HI.out y (List.mem_of_getElem? hget) A' c' wr r5);clear r5 HA hget hlb;cases hu:zaZ y with
   |false=>
    rw[hu] at q KU;have HQ:Hid (false=r):=zz q;clear q hu;go_wp2_with fail;(with_reducible refine KU.out.mono ?_);rintro e w4 ⟨rfl,hb4⟩;have HB4:=zz (zab HBW.out hb4 HBW.out.size);clear hb4;go_wp2_with fail;go_ret;exact⟨by rw[←HV.out,←HQ.out];rw[Bool.and_false];rfl,HB4.out⟩
   |true=>
    rw[hu] at q KU;have HQ:Hid (zcm (l.drop (i+1))=r):=zz (by simpa using q);clear q hu;go_wp2_with fail;(with_reducible refine KU.out.mono ?_);rintro e w4 ⟨rfl,hb4⟩;have HD4:=zz (zab HD.out hb4 HD.out.size);clear hb4;go_wp2_with fail;exact⟨⟨i+1,by omega,by go_num,HQ,HD4⟩,by simp[intOf];omega⟩
  ·have HQ:Hid (true=r):=zz (by
    have q:=HA.out;rw[List.drop_eq_nil_of_le (by omega),zjW] at q;exact q)
   clear HA;have q:=HV.out;rw[←HQ.out] at q;clear HQ HV
   by_cases h8:k=8
   ·have e8:(k != 8)=false:=by simp[h8]
    rw[decide_eq_true h8] at q;clear h8;have HE:=zz q;clear q;go_wp2_with fail;go_ret;exact⟨by rw[←HE.out];rfl,HBW.out⟩
   ·have e8:(k != 8)=true:=by simp[h8]
    rw[decide_eq_false h8] at q;clear h8;have HE:=zz q;clear q;go_wp2_with fail;go_ret;exact⟨by rw[←HE.out];rfl,HBW.out⟩
theorem ybr:∀t:Ty,ybp t
 |.mk k n a=>ybq k n a (λx _hx=>ybr x)
def ybs (k:Int) (n:ByteArray) (a:List Ty):Bool:=
 if k=1∨k=2∨k=3∨k=4 then decide (n=⟨#[]⟩)&&a.isEmpty
 else if k=6∨k=7 then zaw n&&a.isEmpty
 else if k=5 then decide (n=⟨#[]⟩)&&decide (a.length=1)
 else if k=8 then decide (n=⟨#[]⟩)&&!a.isEmpty else false
theorem ybt (k:Int) (n:ByteArray) (a:List Ty):zbJ (.mk k n a)=(ybs k n a&&zbZ a):=by
 rw[zbJ];unfold ybs;have he:(a.isEmpty&&zbZ a)=a.isEmpty:=by cases a with|nil=>rw[zis];rfl|cons x r=>rfl
 split
 ·rw[Bool.and_assoc,he]
 ·split
  ·rw[Bool.and_assoc,he]
  ·split
   ·rfl
   ·split
    ·rfl
    ·rfl
def ybu (t:Ty):Prop:=∀(A:Option Addr) (c:Nat) (w:World),t.fit=true→Rd (Lt w.heap.size) w (ys t.args) (.slice A t.args.length c)→
 Calls Tryz.prog 16 #[.agg #[.int .i64 t.kind,.string t.name,.slice A t.args.length c]] w λe w'=>e=.returned (.bool (zbJ t))∧Below w.heap.size w w'
theorem ybv (k:Int) (nm:ByteArray) (l:List Ty) (IH:∀t∈l,ybu t):ybu (.mk k nm l):=by
 intro A c w hf h;replace h:Rd (Lt w.heap.size) w (ys l) (.slice A l.length c):=h
 show Calls Tryz.prog 16 #[.agg #[.int .i64 k,.string nm,.slice A l.length c]] w λe w'=>e=.returned (.bool (zbJ (.mk k nm l)))∧Below w.heap.size w w'
 rw[ybt];rw[Ty.fit,Bool.and_eq_true,decide_eq_true_eq] at hf;have hnm:=hf.1;have HFL:=zz hf.2;clear hf;have hl:=zmv h;have hn:l.length≤9223372036854775807:=Nat.le_trans hl.2.1 hl.2.2;obtain⟨w1,h1,b1,c1⟩:=zai w #[.int .i64 k,.string nm,.slice A l.length c] 55;have HC:=zz c1;have HB1:=zz b1;have HR:=zz h;have HI:=zz IH;clear b1 c1 hl h IH;obtain⟨r,hr⟩:∃r,zbZ l=r:=⟨_,rfl⟩;rw[hr];obtain⟨V,hV⟩:∃V,(ybs k nm l&&r)=V:=⟨_,rfl⟩;rw[hV];have HV:=zz hV;clear hV;have HA0:Hid (zbZ (l.drop 0)=r):=zz hr;clear hr;have HD0:Hid (Below w1.heap.size w1 w1):=zz (Below.refl _ _);go_enter Tryz.func16,Tryz.ntmps16;go_wp2_with fail;clear h1
 go_loopw [3] (λs wr=>∃i:Nat,i≤l.length∧s=.int .i64 i∧Hid (zbZ (l.drop i)=r)∧Hid (Below w1.heap.size w1 wr)) (λs _=>l.length-(intOf s).toNat)
 case atStart=>exact⟨0,by omega,rfl,HA0,HD0⟩
 case round=>
  clear HA0 HD0;obtain⟨i,hi,rfl,HA,HD⟩:=hrel;have sB:=HD.out.size;have HBW:=zz (zab HB1.out HD.out HB1.out.size);have hcw:=zaa HD.out HC.out;obtain⟨z0,z1,z2⟩:=yc3 hcw;clear hcw
  by_cases hlt:i<l.length
  ·obtain⟨b,off,y,e,hlb,hget,A',c',p0,p1,p2,r5⟩:=zjY (HR.out.belows HBW.out) hlt;subst e;have hin:(i:Int)<l.length:=by omega
   have q:=HA.out;rw[zak hget,zfv] at q;have KU:=zz (HI.out y (List.mem_of_getElem? hget) A' c' wr (ziG HFL.out (List.mem_of_getElem? hget)) r5);clear r5 HA hget hlb;cases hu:zbJ y with
   |false=>
    rw[hu] at q KU;have HQ:Hid (false=r):=zz q;clear q hu;go_wp2_with fail;(with_reducible refine KU.out.mono ?_);rintro e w4 ⟨rfl,hb4⟩;have HB4:=zz (zab HBW.out hb4 HBW.out.size);clear hb4;go_wp2_with fail;go_ret;exact⟨by rw[←HV.out,←HQ.out];rw[Bool.and_false];rfl,HB4.out⟩
   |true=>
    rw[hu] at q KU;have HQ:Hid (zbZ (l.drop (i+1))=r):=zz (by simpa using q);clear q hu;go_wp2_with fail;(with_reducible refine KU.out.mono ?_);rintro e w4 ⟨rfl,hb4⟩;have HD4:=zz (zab HD.out hb4 HD.out.size);clear hb4;go_wp2_with fail;exact⟨⟨i+1,by omega,by go_num,HQ,HD4⟩,by simp[intOf];omega⟩
  ·have HQ:Hid (true=r):=zz (by
    have q:=HA.out;rw[List.drop_eq_nil_of_le (by omega),zis] at q;exact q)
   clear HA;have q:=HV.out;rw[←HQ.out] at q;clear HQ HV;unfold ybs at q;rw[Bool.and_true] at q
   have hne:∀{Q:Prop},(nm=⟨#[]⟩→(nm.toList == [])=true→Q)→(¬nm=⟨#[]⟩→(nm.toList == [])=false→Q)→Q:=λh1 h2=>by
    by_cases hn0:nm=⟨#[]⟩
    ·exact h1 hn0 (by rw[hn0];kernel_rfl)
    ·exact h2 hn0 (by have:=zez (l:=⟨#[]⟩) hn0;rwa [show (⟨#[]⟩:ByteArray).toList=[] from by kernel_rfl] at this)
   by_cases h4:k=1∨k=2∨k=3∨k=4
   ·rw[if_pos h4] at q
    by_cases hl0:l=[]
    ·have e0:((l.length:Int) == 0)=true:=by simp[hl0]
     have e1:l.isEmpty=true:=by simp[hl0]
     rw[e1] at q;clear hl0 e1;refine hne (λhn0 en=>?_) (λhn0 en=>?_)
     ·rw[decide_eq_true hn0] at q;clear hn0 hne;rcases h4 with rfl|rfl|rfl|rfl<;>(have HE:=zz q;clear q;go_wp2_with fail;go_ret;exact⟨by rw[←HE.out];rfl,HBW.out⟩)
     ·rw[decide_eq_false hn0] at q;clear hn0 hne;rcases h4 with rfl|rfl|rfl|rfl<;>(have HE:=zz q;clear q;go_wp2_with fail;go_ret;exact⟨by rw[←HE.out];rfl,HBW.out⟩)
    ·have e0:((l.length:Int) == 0)=false:=by rw[beq_eq_false_iff_ne];intro e;exact hl0 (List.eq_nil_of_length_eq_zero (by omega))
     have e1:l.isEmpty=false:=by simpa using hl0
     rw[e1,Bool.and_false] at q;clear hl0 e1;refine hne (λhn0 en=>?_) (λhn0 en=>?_)
     ·clear hn0 hne;rcases h4 with rfl|rfl|rfl|rfl<;>(have HE:=zz q;clear q;go_wp2_with fail;go_ret;exact⟨by rw[←HE.out];rfl,HBW.out⟩)
     ·clear hn0 hne;rcases h4 with rfl|rfl|rfl|rfl<;>(have HE:=zz q;clear q;go_wp2_with fail;go_ret;exact⟨by rw[←HE.out];rfl,HBW.out⟩)
   ·rw[if_neg h4] at q;have m1:(k == 1)=false:=by rw[beq_eq_false_iff_ne];omega
    have m2:(k == 2)=false:=by rw[beq_eq_false_iff_ne];omega
    have m3:(k == 3)=false:=by rw[beq_eq_false_iff_ne];omega
    have m4:(k == 4)=false:=by rw[beq_eq_false_iff_ne];omega
    clear h4
    by_cases h67:k=6∨k=7
    ·rw[if_pos h67] at q;have KU:=zz (ybo nm wr hnm);cases hu:zaw nm with
     |true=>
      rw[hu] at KU q
      by_cases hl0:l=[]
      ·have e0:((l.length:Int) == 0)=true:=by simp[hl0]
       have e1:l.isEmpty=true:=by simp[hl0]
       rw[e1] at q;clear hl0 e1 hu hne;rcases h67 with rfl|rfl<;>(have HE:=zz q;clear q;go_wp2_with fail;(with_reducible refine KU.out.mono ?_);rintro e w4 ⟨rfl,rfl⟩;go_wp2_with fail;go_ret;exact⟨by rw[←HE.out];rfl,HBW.out⟩)
      ·have e0:((l.length:Int) == 0)=false:=by rw[beq_eq_false_iff_ne];intro e;exact hl0 (List.eq_nil_of_length_eq_zero (by omega))
       have e1:l.isEmpty=false:=by simpa using hl0
       rw[e1] at q;clear hl0 e1 hu hne;rcases h67 with rfl|rfl<;>(have HE:=zz q;clear q;go_wp2_with fail;(with_reducible refine KU.out.mono ?_);rintro e w4 ⟨rfl,rfl⟩;go_wp2_with fail;go_ret;exact⟨by rw[←HE.out];rfl,HBW.out⟩)
     |false=>
      rw[hu] at KU q;clear hu hne;rcases h67 with rfl|rfl<;>(have HE:=zz q;clear q;go_wp2_with fail;(with_reducible refine KU.out.mono ?_);rintro e w4 ⟨rfl,rfl⟩;go_wp2_with fail;go_ret;exact⟨by rw[←HE.out];rfl,HBW.out⟩)
    ·rw[if_neg h67] at q;have m6:(k == 6)=false:=by rw[beq_eq_false_iff_ne];omega
     have m7:(k == 7)=false:=by rw[beq_eq_false_iff_ne];omega
     clear h67
     by_cases h5:k=5
     ·subst h5;rw[if_pos rfl] at q
      by_cases hl1:l.length=1
      ·have e0:((l.length:Int) == 1)=true:=by simp[hl1]
       rw[decide_eq_true hl1] at q;clear hl1;refine hne (λhn0 en=>?_) (λhn0 en=>?_)
       ·rw[decide_eq_true hn0] at q;clear hn0 hne;have HE:=zz q;clear q;go_wp2_with fail;go_ret;exact⟨by rw[←HE.out];rfl,HBW.out⟩
       ·rw[decide_eq_false hn0] at q;clear hn0 hne;have HE:=zz q;clear q;go_wp2_with fail;go_ret;exact⟨by rw[←HE.out];rfl,HBW.out⟩
      ·have e0:((l.length:Int) == 1)=false:=by rw[beq_eq_false_iff_ne];omega
       rw[decide_eq_false hl1,Bool.and_false] at q;clear hl1;refine hne (λhn0 en=>?_) (λhn0 en=>?_)<;>(clear hn0 hne;have HE:=zz q;clear q;go_wp2_with fail;go_ret;exact⟨by rw[←HE.out];rfl,HBW.out⟩)
     ·rw[if_neg h5] at q;have m5:(k == 5)=false:=by rw[beq_eq_false_iff_ne];exact h5
      clear h5
      by_cases h8:k=8
      ·subst h8;rw[if_pos rfl] at q
       by_cases hl0:l=[]
       ·have e0:¬(1:Int)≤(l.length:Int):=by simp[hl0]
        have e1:l.isEmpty=true:=by simp[hl0]
        rw[e1,Bool.not_true,Bool.and_false] at q;clear hl0 e1;refine hne (λhn0 en=>?_) (λhn0 en=>?_)<;>(clear hn0 hne;have HE:=zz q;clear q;go_wp2_with fail;go_ret;exact⟨by rw[←HE.out];rfl,HBW.out⟩)
       ·have e0:(1:Int)≤(l.length:Int):=by have:=List.length_pos_iff.2 hl0;omega
        have e1:l.isEmpty=false:=by simpa using hl0
        rw[e1,Bool.not_false,Bool.and_true] at q;clear hl0 e1;refine hne (λhn0 en=>?_) (λhn0 en=>?_)
        ·rw[decide_eq_true hn0] at q;clear hn0 hne;have HE:=zz q;clear q;go_wp2_with fail;go_ret;exact⟨by rw[←HE.out];rfl,HBW.out⟩
        ·rw[decide_eq_false hn0] at q;clear hn0 hne;have HE:=zz q;clear q;go_wp2_with fail;go_ret;exact⟨by rw[←HE.out];rfl,HBW.out⟩
      ·rw[if_neg h8] at q;have m8:(k == 8)=false:=by rw[beq_eq_false_iff_ne];exact h8
       clear h8 hne;have HE:=zz q;clear q;go_wp2_with fail;go_ret;exact⟨by rw[←HE.out];rfl,HBW.out⟩
theorem ybw:∀t:Ty,ybu t
 |.mk k n a=>ybv k n a (λx _hx=>ybw x)
open Go.RowKit Go.Sort
def ybx (t:Ty):Prop:=∀(u:Ty) (A:Option Addr) (c:Nat) (A':Option Addr) (c':Nat) (w:World),Rd (Lt w.heap.size) w (ys t.args) (.slice A t.args.length c)→Rd (Lt w.heap.size) w (ys u.args) (.slice A' u.args.length c')→
 Calls Tryz.prog 20 #[.agg #[.int .i64 t.kind,.string t.name,.slice A t.args.length c],.agg #[.int .i64 u.kind,.string u.name,.slice A' u.args.length c']] w λe w'=>e=.returned (.bool (zsk t u))∧Below w.heap.size w w'
theorem yby (k:Int) (nm:ByteArray) (l:List Ty) (IH:∀t∈l,ybx t):ybx (.mk k nm l):=by
 intro u A c A' c' w h h';obtain⟨k',nm',l'⟩:=u;replace h:Rd (Lt w.heap.size) w (ys l) (.slice A l.length c):=h;replace h':Rd (Lt w.heap.size) w (ys l') (.slice A' l'.length c'):=h'
 show Calls Tryz.prog 20 #[.agg #[.int .i64 k,.string nm,.slice A l.length c],.agg #[.int .i64 k',.string nm',.slice A' l'.length c']] w λe w'=>e=.returned (.bool (zsk (.mk k nm l) (.mk k' nm' l')))∧Below w.heap.size w w'
 rw[zsk];have hl:=zmv h;have hl':=zmv h';have hn:l.length≤9223372036854775807:=Nat.le_trans hl.2.1 hl.2.2;have hn':l'.length≤9223372036854775807:=Nat.le_trans hl'.2.1 hl'.2.2;have b1:=zag w (.cells #[.int .i64 k,.string nm,.slice A l.length c] 55);have c1:=zac.new w #[.int .i64 k,.string nm,.slice A l.length c] 55;obtain⟨w1,h1⟩:∃W,w.alloc (.cells #[.int .i64 k,.string nm,.slice A l.length c] 55)=W:=⟨_,rfl⟩;have s1:w.heap.size+1≤w1.heap.size:=by rw[←h1];simp
 rw[h1] at b1 c1;have b2:=zag w1 (.cells #[.int .i64 k',.string nm',.slice A' l'.length c'] 55);have c2:=zac.new w1 #[.int .i64 k',.string nm',.slice A' l'.length c'] 55;obtain⟨w2,h2⟩:∃W,w1.alloc (.cells #[.int .i64 k',.string nm',.slice A' l'.length c'] 55)=W:=⟨_,rfl⟩;have s2:w1.heap.size+1≤w2.heap.size:=by rw[←h2];simp
 rw[h2] at b2 c2;have c1':=zaa b2 c1;obtain⟨x0,x1,x2⟩:=yc3 c1';obtain⟨y0,y1,y2⟩:=yc3 c2;have HC1:=zz c1';have HC2:=zz c2;have HB:=zz (zab b1 b2 b1.size);have HR:=zz h;have HR':=zz h';have HI:=zz IH;clear b1 b2 c1 c1' c2 hl hl' h h' IH
 by_cases hk:k=k'
 ·have ek:(k != k')=false:=by simp[hk]
  rw[decide_eq_true hk,Bool.true_and]
  by_cases hm:nm=nm'
  ·have em:(nm.toList == nm'.toList)=true:=by simp[hm]
   rw[decide_eq_true hm,Bool.true_and]
   by_cases hll:l.length=l'.length
   ·have ell:((l.length:Int) != (l'.length:Int))=false:=by simp[hll]
    rw[decide_eq_true hll,Bool.true_and];obtain⟨r,hr⟩:∃r,zqO l l'=r:=⟨_,rfl⟩;have HA0:Hid (zqO (l.drop 0) (l'.drop 0)=r):=zz hr;rw[hr];have hll1:l.length≤l'.length:=Nat.le_of_eq hll;have hll2:l'.length≤l.length:=Nat.le_of_eq hll.symm;clear hr hk hm hll;have HD0:Hid (Below w2.heap.size w2 w2):=zz (Below.refl _ _);go_enter Tryz.func20,Tryz.ntmps20;go_wp2_with fail;clear h1 h2 x0 x1 x2 y0 y1 y2 ek em ell
    go_loopw [5] (λs wr=>∃i:Nat,i≤l.length∧s=.int .i64 i∧Hid (zqO (l.drop i) (l'.drop i)=r)∧Hid (Below w2.heap.size w2 wr)) (λs _=>l.length-(intOf s).toNat)
    case atStart=>exact⟨0,by omega,rfl,HA0,HD0⟩
    case round=>
     clear HA0 HD0;obtain⟨i,hi,rfl,HA,HD⟩:=hrel;have sB:=HD.out.size;have HBW:=zz (zab HB.out HD.out HB.out.size);have z2:wr.cell? ⟨w.heap.size,2,none⟩=some (.slice A l.length c):=(zaa HD.out HC1.out).cell 2;have z2':wr.cell? ⟨w1.heap.size,2,none⟩=some (.slice A' l'.length c'):=(zaa HD.out HC2.out).cell 2
     by_cases hlt:i<l.length
     ·obtain⟨b,off,y,e,hlb,hget,Ay,cy,p0,p1,p2,r5⟩:=zjY (HR.out.belows HBW.out) hlt;subst e;obtain⟨b',off',y',e,hlb',hget',Ay',cy',p0',p1',p2',r5'⟩:=zjY (HR'.out.belows HBW.out) (show i<l'.length by omega);subst e;have hin:(i:Int)<l.length:=by omega
      have hin':(i:Int)<l'.length:=by omega
      have q:=HA.out;rw[zak hget,zak hget',yay] at q
      have K0:Hid (∀d os,Calls Tryz.prog 20 #[.agg #[.int .i64 y.kind,.string y.name,.slice Ay y.args.length cy],.agg #[.int .i64 y'.kind,.string y'.name,.slice Ay' y'.args.length cy']] (grow (redrawn wr d) os) λe w'=>e=.returned (.bool (zsk y y'))∧∃p:Regrown,w'=grow (redrawn wr p.d) p.os):=
       zz (λd os=>Calls.regrown_of (by have t:=HI.out y (List.mem_of_getElem? hget) y' Ay cy Ay' cy' (grow (redrawn wr d) os) (r5.belows (below_regrown wr d os)) (r5'.belows (below_regrown wr d os));exact t))
      have o0:=λd os=>cell_regrown p0 d os;have o1:=λd os=>cell_regrown p1 d os;have o2:=λd os=>cell_regrown p2 d os;have o3:=λd os=>cell_regrown p0' d os;have o4:=λd os=>cell_regrown p1' d os;have o5:=λd os=>cell_regrown p2' d os;have o6:=λd os=>cell_regrown z2 d os;have o7:=λd os=>cell_regrown z2' d os;clear HA r5 r5' hget hget' hlb hlb';obtain⟨v,hv⟩:∃v,zsk y y'=v:=⟨_,rfl⟩;rw[hv] at q K0;have HQ:=zz q;clear q hv;go_wp2_with fail;refine wp_region_quiet_below (by kernel_rfl) (by kernel_rfl) ?_
      repeat (go_big_quiet_step (first|with_reducible exact K0.out _ _))
      refine wpQuiet_nil ?_;intro _ hw';obtain⟨⟨dq,osq⟩,hw''⟩:=hw';subst hw'';have HD2:=zz (zab HD.out (below_regrown wr dq osq) HD.out.size);have HBL:=zz (zab HBW.out (below_regrown wr dq osq) HBW.out.size);cases v with
      |false=>
       go_wp2_with fail;go_ret;exact⟨by rw[←HQ.out];rfl,HBL.out⟩
      |true=>
       go_wp2_with fail;exact⟨⟨i+1,by omega,by go_num,zz (by have q:=HQ.out;simpa using q),HD2⟩,by simp[intOf];omega⟩
     ·have HQ:Hid (true=r):=zz (by
       have q:=HA.out;rw[List.drop_eq_nil_of_le (by omega),yaz] at q;exact q)
      clear HA;go_wp2_with fail;go_ret;exact⟨by rw[←HQ.out];rfl,HBW.out⟩
   ·have ell:((l.length:Int) != (l'.length:Int))=true:=by simp;omega
    rw[decide_eq_false hll];clear hk hm hll;go_enter Tryz.func20,Tryz.ntmps20;go_wp2_with fail;go_ret;exact⟨rfl,HB.out⟩
  ·have em:=zez hm;rw[decide_eq_false hm];clear hk hm;go_enter Tryz.func20,Tryz.ntmps20;go_wp2_with fail;go_ret;exact⟨rfl,HB.out⟩
 ·have ek:(k != k')=true:=by rw[bne_iff_ne];exact hk
  rw[decide_eq_false hk];clear hk;go_enter Tryz.func20,Tryz.ntmps20;go_wp2_with fail;go_ret;exact⟨rfl,HB.out⟩
theorem ybz:∀t:Ty,ybx t
 |.mk k n a=>yby k n a (λx _hx=>ybz x)
theorem yca (p:PgV) (L:List ByteArray) (s:ByteArray) (w:World) (h:zcb w 3 L p.At p.nT p.ct) :
 Calls Tryz.prog 27 #[pgA p,.string s] w (zqC w (zcW L s)):=by
 obtain⟨At,nT,ct,Ae,nE,ce,Af,nF,cf,Aa,nA,ca⟩:=p;simp only[pgA] at h ⊢;obtain⟨w1,h1,b1,c1⟩:=zai w #[.slice At nT ct,.slice Ae nE ce,.slice Af nF cf,.slice Aa nA ca] 34;have xc:w1.cell? ⟨w.heap.size,0,none⟩=some (.slice At nT ct):=c1.cell 0;have h2:=h.below b1;have HN:=zz h2;obtain⟨hn1,hn2,hn3,_⟩:=h2;have hnm:nT≤9223372036854775807:=Nat.le_trans hn2 hn3;have HL:=zz hn1;have HB:=zz b1;have HF0:Hid (∀j x,j<0→L[j]?=some x→x≠s):=zz (λj x hj _=>absurd hj (by omega));obtain⟨r,hr⟩:∃r,zcW L s=r:=⟨_,rfl⟩;rw[hr];have HR:=zz hr;clear b1 c1 h hn1 hr;go_enter Tryz.func27,Tryz.ntmps27;go_wp2_with fail;clear h1
 go_loopw [6] (λs10 wr=>∃i:Nat,i≤nT∧s10=.int .i64 i∧Hid (∀j x,j<i→L[j]?=some x→x≠s)∧wr=w1) (λs10 _=>nT-(intOf s10).toNat)
 case atStart=>exact⟨0,by omega,rfl,HF0,rfl⟩
 case round=>
  clear HF0;obtain⟨i,hi,rfl,HF,rfl⟩:=hrel
  by_cases hlt:i<nT
  ·obtain⟨b,off,e,hlb,hc⟩:=HN.out.2.2.2 (by omega);subst e;have hiL:i<L.length:=by have:=HL.out;omega
   have hx:L[i]?=some L[i]:=List.getElem?_eq_getElem hiL;obtain⟨x,hxx⟩:∃x,L[i]=x:=⟨_,rfl⟩;rw[hxx] at hx;have p0:=hc i x hx;have hin:(i:Int)<nT:=by omega
   by_cases hs:x=s
   ·have hb2:(x.toList == s.toList)=true:=by rw[hs];simp
    subst hs;have HQ:Hid (some i=r):=zz (by rw[←HR.out];exact(zgZ hx HF.out).symm);clear hc hx hxx HF;go_wp2_with fail
    go_ret2
    rw[←HQ.out];exact⟨HB.out,rfl⟩
   ·have hb2:(x.toList == s.toList)=false:=zez hs
    have HF2:Hid (∀j x,j<i+1→L[j]?=some x→x≠s):=zz (λj z hj hz=>by
     rcases Nat.lt_or_eq_of_le (Nat.lt_succ_iff.1 hj) with h2|h2
     ·exact HF.out j z h2 hz
     ·subst h2;rw[hx] at hz;cases hz;exact hs)
    clear hc hx hxx HF hs;go_wp2_with fail;exact⟨⟨i+1,by omega,by go_num,HF2,trivial⟩,by simp[intOf];omega⟩
  ·have HQ:Hid (none=r):=zz (by
    rw[←HR.out];exact(zkc (λj x hx=>HF.out j x (by have:=(List.getElem?_eq_some_iff.1 hx).1;have:=HL.out;omega) hx)).symm)
   clear HF;go_wp2_with fail
   go_ret2
   rw[←HQ.out];exact⟨HB.out,rfl⟩
theorem ycb (p:PgV) (L:List ByteArray) (s:ByteArray) (w:World) (h:zcb w 7 L p.Aa p.nA p.ca) :
 Calls Tryz.prog 28 #[pgA p,.string s] w (zqC w (zcW L s)):=by
 obtain⟨At,nT,ct,Ae,nE,ce,Af,nF,cf,Aa,nA,ca⟩:=p;simp only[pgA] at h ⊢;obtain⟨w1,h1,b1,c1⟩:=zai w #[.slice At nT ct,.slice Ae nE ce,.slice Af nF cf,.slice Aa nA ca] 34;have xc:w1.cell? ⟨w.heap.size,3,none⟩=some (.slice Aa nA ca):=c1.cell 3;have h2:=h.below b1;have HN:=zz h2;obtain⟨hn1,hn2,hn3,_⟩:=h2;have hnm:nA≤9223372036854775807:=Nat.le_trans hn2 hn3;have HL:=zz hn1;have HB:=zz b1;have HF0:Hid (∀j x,j<0→L[j]?=some x→x≠s):=zz (λj x hj _=>absurd hj (by omega));obtain⟨r,hr⟩:∃r,zcW L s=r:=⟨_,rfl⟩;rw[hr];have HR:=zz hr;clear b1 c1 h hn1 hr;go_enter Tryz.func28,Tryz.ntmps28;go_wp2_with fail;clear h1
 go_loopw [6] (λs10 wr=>∃i:Nat,i≤nA∧s10=.int .i64 i∧Hid (∀j x,j<i→L[j]?=some x→x≠s)∧wr=w1) (λs10 _=>nA-(intOf s10).toNat)
 case atStart=>exact⟨0,by omega,rfl,HF0,rfl⟩
 case round=>
  clear HF0;obtain⟨i,hi,rfl,HF,rfl⟩:=hrel
  by_cases hlt:i<nA
  ·obtain⟨b,off,e,hlb,hc⟩:=HN.out.2.2.2 (by omega);subst e;have hiL:i<L.length:=by have:=HL.out;omega
   have hx:L[i]?=some L[i]:=List.getElem?_eq_getElem hiL;obtain⟨x,hxx⟩:∃x,L[i]=x:=⟨_,rfl⟩;rw[hxx] at hx;have p0:=hc i x hx;have hin:(i:Int)<nA:=by omega
   by_cases hs:x=s
   ·have hb2:(x.toList == s.toList)=true:=by rw[hs];simp
    subst hs;have HQ:Hid (some i=r):=zz (by rw[←HR.out];exact(zgZ hx HF.out).symm);clear hc hx hxx HF;go_wp2_with fail
    go_ret2
    rw[←HQ.out];exact⟨HB.out,rfl⟩
   ·have hb2:(x.toList == s.toList)=false:=zez hs
    have HF2:Hid (∀j x,j<i+1→L[j]?=some x→x≠s):=zz (λj z hj hz=>by
     rcases Nat.lt_or_eq_of_le (Nat.lt_succ_iff.1 hj) with h2|h2
     ·exact HF.out j z h2 hz
     ·subst h2;rw[hx] at hz;cases hz;exact hs)
    clear hc hx hxx HF hs;go_wp2_with fail;exact⟨⟨i+1,by omega,by go_num,HF2,trivial⟩,by simp[intOf];omega⟩
  ·have HQ:Hid (none=r):=zz (by
    rw[←HR.out];exact(zkc (λj x hx=>HF.out j x (by have:=(List.getElem?_eq_some_iff.1 hx).1;have:=HL.out;omega) hx)).symm)
   clear HF;go_wp2_with fail
   go_ret2
   rw[←HQ.out];exact⟨HB.out,rfl⟩
theorem ycc (p:PgV) (T:List Dcl) (s:ByteArray) (w:World) (hT:p.nT=T.length) (h:Rd (Lt w.heap.size) w (slG 3 zfq T) (.slice p.At p.nT p.ct)) :
 Calls Tryz.prog 29 #[pgA p,.string s] w (zrZ w (zhJ T s)):=by
 obtain⟨At,nT,ct,Ae,nE,ce,Af,nF,cf,Aa,nA,ca⟩:=p;simp only[pgA] at h hT ⊢;obtain⟨w1,h1,b1,c1⟩:=zai w #[.slice At nT ct,.slice Ae nE ce,.slice Af nF cf,.slice Aa nA ca] 34;have xc:w1.cell? ⟨w.heap.size,0,none⟩=some (.slice At nT ct):=c1.cell 0;have hr1:=h.belows b1;have hl:=zci hr1;have hnm:nT≤9223372036854775807:=Nat.le_trans hl.2.1 hl.2.2;have HR1:=zz hr1;have HL:=zz hT;have HB:=zz b1;obtain⟨r,hr⟩:∃r,zhJ T s=r:=⟨_,rfl⟩;rw[hr];have HA0:Hid (zhJ (T.drop 0) s=r):=zz hr;clear b1 c1 h hT hr hl hr1;go_enter Tryz.func29,Tryz.ntmps29;go_wp2_with fail;clear h1
 go_loopw [7] (λs12 wr=>∃i:Nat,i≤nT∧s12=.int .i64 i∧Hid (zhJ (T.drop i) s=r)∧wr=w1) (λs12 _=>nT-(intOf s12).toNat)
 case atStart=>exact⟨0,by omega,rfl,HA0,rfl⟩
 case round=>
  clear HA0;obtain⟨i,hi,rfl,HA,rfl⟩:=hrel
  by_cases hlt:i<nT
  ·obtain⟨b,off,d,e,hlb,hget,hrow⟩:=zcG HR1.out hlt;subst e;obtain⟨u0,hu0,hd0⟩:=hrow 0 (by omega);obtain⟨u2,hu2,hd2⟩:=hrow 2 (by omega);have e0:u0=.string d.name:=hd0;subst e0;have hd3:Rd (Lt wr.heap.size) wr (slG 2 zfx d.ctors) u2:=hd2;obtain⟨Ac,cc,rfl,hc1,hc2⟩:=zcA hd3;rw[Nat.add_zero] at hu0;have hNC:=zcb.of (nm:=Ctr.name) (by omega) (λ_=>rfl) hd3;have HNC:=zz hNC;have hcm:d.ctors.length≤9223372036854775807:=Nat.le_trans hc1 hc2;have hin:(i:Int)<nT:=by omega
   have q:=HA.out;rw[zak hget,zjg] at q;have HQ:=zz q;have HF0:Hid (∀j x,j<0→(d.ctors.map Ctr.name)[j]?=some x→x≠s):=zz (λj x hj _=>absurd hj (by omega));clear hd0 hd2 hd3 hNC hrow hget HA q hlb;go_wp2_with fail;rename World=>wo
   go_loopw [8] (λs22 wr=>∃j:Nat,j≤d.ctors.length∧s22=.int .i64 j∧Hid (∀k x,k<j→(d.ctors.map Ctr.name)[k]?=some x→x≠s)∧wr=wo) (λs22 _=>d.ctors.length-(intOf s22).toNat)
   case atStart=>exact⟨0,by omega,rfl,HF0,rfl⟩
   case round=>
    clear HF0;obtain⟨j,hj,rfl,HF,rfl⟩:=hrel
    by_cases hlj:j<d.ctors.length
    ·obtain⟨b2,off2,e2,hlb2,hc⟩:=HNC.out.2.2.2 (by omega);subst e2;have hx:(d.ctors.map Ctr.name)[j]?=some d.ctors[j].name:=by rw[List.getElem?_map,List.getElem?_eq_getElem hlj];rfl
     obtain⟨x,hxx⟩:∃x,d.ctors[j].name=x:=⟨_,rfl⟩;rw[hxx] at hx;have p0:=hc j x hx;have hjn:(j:Int)<d.ctors.length:=by omega
     by_cases hs:x=s
     ·have hb2:(x.toList == s.toList)=true:=by rw[hs];simp
      subst hs;have HQ2:Hid (some (d.name,j)=r):=zz (by rw[←HQ.out,zgZ hx HF.out]);clear hc hx hxx HF;go_wp2_with fail;refine bodyPost_ret (v:=.tuple #[.string d.name,.int .i64 (j:Int),.bool true]) (by simp[results,Tryz.results29,go_sem]) rfl ?_;rw[←HQ2.out];exact⟨HB.out,rfl⟩
     ·have hb2:(x.toList == s.toList)=false:=zez hs
      have HF2:Hid (∀k z,k<j+1→(d.ctors.map Ctr.name)[k]?=some z→z≠s):=zz (λk z hk hz=>by
       rcases Nat.lt_or_eq_of_le (Nat.lt_succ_iff.1 hk) with h2|h2
       ·exact HF.out k z h2 hz
       ·subst h2;rw[hx] at hz;cases hz;exact hs)
      clear hc hx hxx HF hs;go_wp2_with fail;exact⟨⟨j+1,by omega,by go_num,HF2,trivial⟩,by simp[intOf];omega⟩
    ·have HQ2:Hid (zhJ (T.drop (i+1)) s=r):=zz (by
      rw[←HQ.out,zkc (λk x hx=>HF.out k x (by have:=(List.getElem?_eq_some_iff.1 hx).1;simp at this;omega) hx)])
     clear HF;go_wp2_with fail;exact⟨⟨i+1,by omega,by go_num,HQ2,trivial⟩,by simp[intOf];omega⟩
  ·have HQ:Hid (none=r):=zz (by
    have q:=HA.out;rw[List.drop_eq_nil_of_le (by have:=HL.out;omega)] at q;exact q)
   clear HA;go_wp2_with fail;refine bodyPost_ret (v:=.tuple #[.string ⟨#[]⟩,.int .i64 0,.bool false]) (by simp[results,Tryz.results29,go_sem]) rfl ?_;rw[←HQ.out];exact⟨HB.out,rfl⟩
open Go.RowKit Go.Sort
def ycd (p:PgV) (pp:Prg) (t:Ty):Prop:=∀(A:Option Addr) (c:Nat) (w:World),zcb w 3 (pp.types.map Dcl.name) p.At p.nT p.ct→zcb w 7 (pp.actors.map Actr.name) p.Aa p.nA p.ca→Rd (Lt w.heap.size) w (ys t.args) (.slice A t.args.length c)→
 Calls Tryz.prog 48 #[pgA p,.agg #[.int .i64 t.kind,.string t.name,.slice A t.args.length c]] w λe w'=>e=.returned (.bool (zbz pp t))∧Below w.heap.size w w'
theorem yce (p:PgV) (pp:Prg) (k:Int) (nm:ByteArray) (l:List Ty) (IH:∀t∈l,ycd p pp t):ycd p pp (.mk k nm l):=by
 intro A c w hT hA h;replace h:Rd (Lt w.heap.size) w (ys l) (.slice A l.length c):=h
 show Calls Tryz.prog 48 #[pgA p,.agg #[.int .i64 k,.string nm,.slice A l.length c]] w λe w'=>e=.returned (.bool (zbz pp (.mk k nm l)))∧Below w.heap.size w w'
 rw[zbz];unfold zmd zhZ;have KF:=λ(W:World) (hb:Below w.heap.size w W)=>yca p (pp.types.map Dcl.name) nm W (hT.below hb);have KA:=λ(W:World) (hb:Below w.heap.size w W)=>ycb p (pp.actors.map Actr.name) nm W (hA.below hb);have KI:=λ(t:Ty) (ht:t∈l) (A:Option Addr) (c:Nat) (W:World) (hb:Below w.heap.size w W) (hr:Rd (Lt W.heap.size) W (ys t.args) (.slice A t.args.length c))=>IH t ht A c W (hT.below hb) (hA.below hb) hr;obtain⟨At,nT,ct,Ae,nE,ce,Af,nF,cf,Aa,nA,ca⟩:=p;simp only[pgA] at KF KA KI ⊢;obtain⟨r,hr⟩:∃r,zaP pp l=r:=⟨_,rfl⟩;rw[hr];obtain⟨V,hV⟩:∃V,((if k=6 then (zcW (pp.types.map Dcl.name) nm).isSome else if k=7 then (zcW (pp.actors.map Actr.name) nm).isSome else true)&&r)=V:=⟨_,rfl⟩;rw[hV];have HV:=zz hV;have HA0:Hid (zaP pp (l.drop 0)=r):=zz hr;have hl:=zmv h;have hc1:=hl.2.1;have hc2:=hl.2.2;have hn:l.length≤9223372036854775807:=Nat.le_trans hl.2.1 hl.2.2;obtain⟨w1,h1,b1,c1⟩:=zai w #[.slice At nT ct,.slice Ae nE ce,.slice Af nF cf,.slice Aa nA ca] 34;obtain⟨w2,h2,b2,c2⟩:=zai w1 #[.int .i64 k,.string nm,.slice A l.length c] 55;have HB:=zz (zab b1 b2 b1.size);have HC1:=zz (zaa b2 c1);have HC2:=zz c2;have HR:=zz h;have HKF:=zz KF;have HKA:=zz KA;have HI:=zz KI;have HD0:Hid (Below w2.heap.size w2 w2):=zz (Below.refl _ _);clear b1 b2 c1 c2 hl h IH KF KA KI hT hA hr hV;go_enter Tryz.func48,Tryz.ntmps48;go_wp2_with fail;clear h1 h2
 go_loopw [5] (λs wr=>∃i:Nat,i≤l.length∧s=.int .i64 i∧Hid (zaP pp (l.drop i)=r)∧Hid (Below w2.heap.size w2 wr)) (λs _=>l.length-(intOf s).toNat)
 case atStart=>exact⟨0,by omega,rfl,HA0,HD0⟩
 case round=>
  clear HA0 HD0;obtain⟨i,hi,rfl,HA,HD⟩:=hrel;have sB:=HD.out.size;have HBW:=zz (zab HB.out HD.out HB.out.size);have d1:=zaa HD.out HC1.out;have d2:=zaa HD.out HC2.out;have x0:wr.cell? ⟨w.heap.size,0,none⟩=some (.slice At nT ct):=d1.cell 0;have x1:wr.cell? ⟨w.heap.size,1,none⟩=some (.slice Ae nE ce):=d1.cell 1;have x2:wr.cell? ⟨w.heap.size,2,none⟩=some (.slice Af nF cf):=d1.cell 2;have x3:wr.cell? ⟨w.heap.size,3,none⟩=some (.slice Aa nA ca):=d1.cell 3;obtain⟨y0,y1,y2⟩:=yc3 d2;clear d1 d2
  by_cases hlt:i<l.length
  ·obtain⟨b,off,y,e,hlb,hget,Ay,cy,p0,p1,p2,r5⟩:=zjY (HR.out.belows HBW.out) hlt;subst e;have hin:(i:Int)<l.length:=by omega
   have q:=HA.out;rw[zak hget,zeo] at q
   have K0:Hid (∀d os,Calls Tryz.prog 48 #[.agg #[.slice At nT ct,.slice Ae nE ce,.slice Af nF cf,.slice Aa nA ca],.agg #[.int .i64 y.kind,.string y.name,.slice Ay y.args.length cy]] (grow (redrawn wr d) os) λe w'=>e=.returned (.bool (zbz pp y))∧∃p:Regrown,w'=grow (redrawn wr p.d) p.os):=
    zz (λd os=>Calls.regrown_of (by have t:=HI.out y (List.mem_of_getElem? hget) Ay cy (grow (redrawn wr d) os) (zab HBW.out (below_regrown wr d os) HBW.out.size) (r5.belows (below_regrown wr d os));exact t))
   have o0:=λd os=>cell_regrown p0 d os;have o1:=λd os=>cell_regrown p1 d os;have o2:=λd os=>cell_regrown p2 d os;have o3:=λd os=>cell_regrown x0 d os;have o4:=λd os=>cell_regrown x1 d os;have o5:=λd os=>cell_regrown x2 d os;have o6:=λd os=>cell_regrown x3 d os;have o7:=λd os=>cell_regrown y2 d os;clear HA r5 hget hlb;obtain⟨v,hv⟩:∃v,zbz pp y=v:=⟨_,rfl⟩;rw[hv] at q K0;have HQ:=zz q;clear q hv;go_wp2_with fail;refine wp_region_quiet_below (by kernel_rfl) (by kernel_rfl) ?_
   repeat (go_big_quiet_step (first|with_reducible exact K0.out _ _))
   refine wpQuiet_nil ?_;intro _ hw';obtain⟨⟨dq,osq⟩,hw''⟩:=hw';subst hw'';have HD2:=zz (zab HD.out (below_regrown wr dq osq) HD.out.size);have HBL:=zz (zab HBW.out (below_regrown wr dq osq) HBW.out.size);cases v with
   |false=>
    go_wp2_with fail;go_ret;exact⟨by rw[←HV.out,←HQ.out];rw[Bool.false_and,Bool.and_false];rfl,HBL.out⟩
   |true=>
    go_wp2_with fail;exact⟨⟨i+1,by omega,by go_num,zz (by have q:=HQ.out;simpa using q),HD2⟩,by simp[intOf];omega⟩
  ·have HQ:Hid (true=r):=zz (by
    have q:=HA.out;rw[List.drop_eq_nil_of_le (by omega),zeS] at q;exact q)
   have q:=HV.out;rw[←HQ.out,Bool.and_true] at q;clear HA HQ HV
   by_cases h6:k=6
   ·subst h6;rw[if_pos rfl] at q;have K:=HKF.out wr HBW.out;obtain⟨o,ho⟩:∃o,zcW (pp.types.map Dcl.name) nm=o:=⟨_,rfl⟩;rw[ho] at K q;clear ho;have HK:=zz K;have HE:=zz q;clear K q;go_wp2_with fail
    (refine HK.out.mono ?_)
    rintro e w3 ⟨hb3,he⟩;have HB3:=zz (zab HBW.out hb3 HBW.out.size);clear hb3 HK;cases o with
    |none=>
     obtain rfl:e=.returned (.tuple #[.int .i64 0,.bool false]):=he;go_wp2_with fail;go_ret;exact⟨by rw[←HE.out];rfl,HB3.out⟩
    |some j=>
     obtain rfl:e=.returned (.tuple #[.int .i64 (j:Int),.bool true]):=he;go_wp2_with fail;go_ret;exact⟨by rw[←HE.out];rfl,HB3.out⟩
   ·rw[if_neg h6] at q;have e6:(k == 6)=false:=by rw[beq_eq_false_iff_ne];exact h6
    clear h6
    by_cases h7:k=7
    ·subst h7;rw[if_pos rfl] at q;have K:=HKA.out wr HBW.out;obtain⟨o,ho⟩:∃o,zcW (pp.actors.map Actr.name) nm=o:=⟨_,rfl⟩;rw[ho] at K q;clear ho;have HK:=zz K;have HE:=zz q;clear K q;go_wp2_with fail
     (refine HK.out.mono ?_)
     rintro e w3 ⟨hb3,he⟩;have HB3:=zz (zab HBW.out hb3 HBW.out.size);clear hb3 HK;cases o with
     |none=>
      obtain rfl:e=.returned (.tuple #[.int .i64 0,.bool false]):=he;go_wp2_with fail;go_ret;exact⟨by rw[←HE.out];rfl,HB3.out⟩
     |some j=>
      obtain rfl:e=.returned (.tuple #[.int .i64 (j:Int),.bool true]):=he;go_wp2_with fail;go_ret;exact⟨by rw[←HE.out];rfl,HB3.out⟩
    ·rw[if_neg h7] at q;have e7:(k == 7)=false:=by rw[beq_eq_false_iff_ne];exact h7
     have HE:=zz q;clear h7 q;go_wp2_with fail;go_ret;exact⟨by rw[←HE.out];rfl,HBW.out⟩
theorem ycf (p:PgV) (pp:Prg):∀t:Ty,ycd p pp t
 |.mk k n a=>yce p pp k n a (λx _hx=>ycf p pp x)
theorem ycg (p:PgV) (pp:Prg) (t:Ty) (hf:t.fit=true) (A:Option Addr) (c:Nat) (w:World) (hT:zcb w 3 (pp.types.map Dcl.name) p.At p.nT p.ct) (hA:zcb w 7 (pp.actors.map Actr.name) p.Aa p.nA p.ca) (h:Rd (Lt w.heap.size) w (ys t.args) (.slice A t.args.length c)) :
 Calls Tryz.prog 24 #[pgA p,.agg #[.int .i64 t.kind,.string t.name,.slice A t.args.length c]] w λe w'=>e=.returned (.bool (zhz pp t))∧Below w.heap.size w w':=by
 unfold zhz;have KD:=λ(W:World) (hb:Below w.heap.size w W)=>ycf p pp t A c W (hT.below hb) (hA.below hb) (h.belows hb);have KF:=λ(W:World) (hb:Below w.heap.size w W)=>ybw t A c W hf (h.belows hb);obtain⟨At,nT,ct,Ae,nE,ce,Af,nF,cf,Aa,nA,ca⟩:=p;simp only[pgA] at KD ⊢;obtain⟨w1,h1,b1,c1⟩:=zai w #[.slice At nT ct,.slice Ae nE ce,.slice Af nF cf,.slice Aa nA ca] 34;obtain⟨w2,h2,b2,c2⟩:=zai w1 #[.int .i64 t.kind,.string t.name,.slice A t.args.length c] 55;have y0:=c2.cell 0;have y1:=c2.cell 1;have y2:=c2.cell 2;have HB12:=zz (zab b1 b2 b1.size);have HC1:=zz (zaa b2 c1);have HC2:=zz c2;have HKF:=zz (KF w2 HB12.out);have HKD:=zz KD;clear b1 b2 c1 c2 KD KF hT hA h hf;go_enter Tryz.func24,Tryz.ntmps24;go_wp2_with fail;(with_reducible refine HKF.out.mono ?_);obtain⟨bf,hbf⟩:∃bf,zbJ t=bf:=⟨_,rfl⟩;have HFB:=zz hbf;rw[hbf];clear hbf;cases bf with
 |false=>
  rintro e w3 ⟨rfl,hb3⟩;have HB3:=zz (zab HB12.out hb3 HB12.out.size);clear hb3 h1 h2 y0 y1 y2;go_wp2_with fail;go_ret;exact⟨by rw[HFB.out];rfl,HB3.out⟩
 |true=>
  rintro e w3 ⟨rfl,hb3⟩;have HB3:=zz (zab HB12.out hb3 HB12.out.size);have d1:=zaa hb3 HC1.out;have d2:=zaa hb3 HC2.out;have x0:=d1.cell 0;have x1:=d1.cell 1;have x2:=d1.cell 2;have x3:=d1.cell 3;have z0:=d2.cell 0;have z1:=d2.cell 1;have z2:=d2.cell 2;have K:=zz (HKD.out w3 HB3.out);clear hb3 h1 h2 y0 y1 y2 d1 d2;go_wp2_with fail;(with_reducible refine K.out.mono ?_);rintro e w4 ⟨rfl,hb4⟩;have HB4:=zz (zab HB3.out hb4 HB3.out.size);clear hb4 x0 x1 x2 x3 z0 z1 z2;go_wp2_with fail;go_ret;exact⟨by rw[HFB.out];rfl,HB4.out⟩
theorem ych:∀{l:List Ty} {t:Ty},zbZ l=true→t∈l→zbJ t=true
 |[],t,_,h=>by simp at h
 |x::r,t,h,ht=>by
  rw[zfv,Bool.and_eq_true] at h;rcases List.mem_cons.1 ht with rfl|h2
  ·exact h.1
  ·exact ych h.2 h2
theorem yci {t:Ty} (h:zbJ t=true):(zqA t).data.toList=zdq t:=by unfold zqA;rw[if_pos h]
theorem ycj {t:Ty} {s:ByteArray} (h:zbJ t=true) (e:s.data.toList=zdq t):s=zqA t:=by
 unfold zqA;rw[if_pos h,←e]
theorem yck {l:List Ty} {y:Ty} (h:y∈l) (f:Bool):(zdq y).length≤(funL l f).length:=by
 induction l generalizing f with
 |nil=>simp at h
 |cons x r ih=>
  rw[zpd];rcases List.mem_cons.1 h with rfl|h
  ·split<;>simp<;>omega
  ·have:=ih h false;rw[if_neg (by cases r<;>simp at h ⊢)];simp only[List.length_append];omega
def ycl (t:Ty):Prop:=∀(A:Option Addr) (c:Nat) (w:World),t.fit=true→(zdq t).length≤70368744177664→Rd (Lt w.heap.size) w (ys t.args) (.slice A t.args.length c)→
 Calls Tryz.prog 18 #[.agg #[.int .i64 t.kind,.string t.name,.slice A t.args.length c]] w λe w'=>e=.returned (.string (zqA t))∧Below w.heap.size w w'
theorem ycm (k:Int) (nm:ByteArray) (l:List Ty) (IH:∀t∈l,ycl t):ycl (.mk k nm l):=by
 intro A c w hf hlen h;replace h:Rd (Lt w.heap.size) w (ys l) (.slice A l.length c):=h
 show Calls Tryz.prog 18 #[.agg #[.int .i64 k,.string nm,.slice A l.length c]] w λe w'=>e=.returned (.string (zqA (.mk k nm l)))∧Below w.heap.size w w'
 obtain⟨V,hV⟩:∃V,zqA (.mk k nm l)=V:=⟨_,rfl⟩;rw[hV];have HV:=zz hV;clear hV;have hl:=zmv h;have hn:l.length≤9223372036854775807:=Nat.le_trans hl.2.1 hl.2.2;obtain⟨w1,h1,b1,c1⟩:=zai w #[.int .i64 k,.string nm,.slice A l.length c] 55;obtain⟨x0,x1,x2⟩:=yc3 c1;have KF:Hid (Calls Tryz.prog 16 #[.agg #[.int .i64 k,.string nm,.slice A l.length c]] w1 λe w'=>e=.returned (.bool (zbJ (.mk k nm l)))∧Below w1.heap.size w1 w'):=zz (ybw (.mk k nm l) A c w1 hf (h.belows b1));have HC1:=zz c1;have HB1:=zz b1;have HR:=zz h;have HI:=zz IH;have hfL:zlZ l=true:=by rw[Ty.fit,Bool.and_eq_true] at hf;exact hf.2
 have HFL:=zz hfL;have hnz:nm.size≤2097152:=by rw[Ty.fit,Bool.and_eq_true,decide_eq_true_eq] at hf;exact hf.1
 clear b1 c1 hl h IH hfL hf;go_enter Tryz.func18,Tryz.ntmps18;go_wp2_with fail;clear h1;(with_reducible refine KF.out.mono ?_);rintro e w2 ⟨rfl,hb⟩;have HC2:=zz (zaa hb HC1.out);have HB2:=zz (zab HB1.out hb HB1.out.size);clear hb HC1 HB1 KF x0 x1 x2;obtain⟨x0,x1,x2⟩:=yc3 HC2.out;cases hfm:zbJ (.mk k nm l) with
 |false=>
  have hs0:Hid (zqA (.mk k nm l)=⟨#[]⟩):=zz (by unfold zqA;rw[hfm,if_neg (by simp)]);clear hfm;go_wp2_with fail;go_ret;exact⟨by rw[←HV.out,hs0.out];rfl,HB2.out⟩
 |true=>
  have HS:Hid (∀s:ByteArray,s.data.toList=zdq (.mk k nm l)→s=zqA (.mk k nm l)):=zz (λs e=>ycj hfm e);have HFM:=zz (show zbZ l=true by have q:=hfm;rw[ybt,Bool.and_eq_true] at q;exact q.2);have HSh:=zz (show ybs k nm l=true by have q:=hfm;rw[ybt,Bool.and_eq_true] at q;exact q.1);rw[HV.out] at HS;clear hfm HV;rw[zdq] at hlen HS
  by_cases k1:k=1
  ·subst k1;have HE:=HS.out (⟨#[117,110,105,116]⟩:ByteArray) rfl;go_wp2_with fail;go_ret;exact⟨by rw[←HE];rfl,HB2.out⟩
  ·have e1:(k == 1)=false:=by rw[beq_eq_false_iff_ne];exact k1
   rw[if_neg k1] at hlen HS
   by_cases k2:k=2
   ·subst k2;have HE:=HS.out (⟨#[98,111,111,108]⟩:ByteArray) rfl;go_wp2_with fail;go_ret;exact⟨by rw[←HE];rfl,HB2.out⟩
   ·have e2:(k == 2)=false:=by rw[beq_eq_false_iff_ne];exact k2
    rw[if_neg k2] at hlen HS
    by_cases k3:k=3
    ·subst k3;have HE:=HS.out (⟨#[105,110,116]⟩:ByteArray) rfl;go_wp2_with fail;go_ret;exact⟨by rw[←HE];rfl,HB2.out⟩
    ·have e3:(k == 3)=false:=by rw[beq_eq_false_iff_ne];exact k3
     rw[if_neg k3] at hlen HS
     by_cases k4:k=4
     ·subst k4;have HE:=HS.out (⟨#[116,101,120,116]⟩:ByteArray) rfl;go_wp2_with fail;go_ret;exact⟨by rw[←HE];rfl,HB2.out⟩
     ·have e4:(k == 4)=false:=by rw[beq_eq_false_iff_ne];exact k4
      rw[if_neg k4] at hlen HS;have n4:¬(k=1∨k=2∨k=3∨k=4):=by omega
      by_cases k6:k=6
      ·subst k6;have HE:=HS.out nm (by rw[if_pos rfl]);clear n4;go_wp2_with fail;go_ret;exact⟨by rw[←HE];rfl,HB2.out⟩
      ·have e6:(k == 6)=false:=by rw[beq_eq_false_iff_ne];exact k6
       rw[if_neg k6] at hlen HS
       by_cases k7:k=7
       ·subst k7;obtain⟨s,hs⟩:∃s:ByteArray,(⟨#[114,101,102,32]⟩:ByteArray)++nm=s:=⟨_,rfl⟩;have HE:=zz (HS.out s (by rw[if_pos rfl,←hs];simp[ByteArray.data_append]));clear n4;go_wp2_with fail;go_ret;exact⟨by rw[←HE.out];rfl,HB2.out⟩
       ·have e7:(k == 7)=false:=by rw[beq_eq_false_iff_ne];exact k7
        rw[if_neg k7] at hlen HS
        by_cases k5:k=5
        ·subst k5;rw[if_pos rfl] at hlen HS
         have hl1:l.length=1:=by
          have q:=HSh.out;unfold ybs at q;rw[if_neg (by decide),if_neg (by decide),if_pos rfl,Bool.and_eq_true,decide_eq_true_eq,decide_eq_true_eq] at q;exact q.2
         obtain⟨b,off,y,e,hlb,hget,Ay,cy,p0,p1,p2,r5⟩:=zjY (HR.out.belows HB2.out) (i:=0) (by omega);rw[Nat.zero_mul,Nat.add_zero] at p0 p1 p2
         have hl9:l=[y]:=by
          obtain⟨z,rfl⟩:=List.length_eq_one_iff.1 hl1;simp at hget;rw[hget]
         have hyf:zbJ y=true:=ych HFM.out (List.mem_of_getElem? hget);rw[hl9,zoU] at hlen HS;have hyl:(zdq y).length≤70368744177664:=by simp only[List.length_append,List.length_cons,List.length_nil] at hlen;omega
         have KU:=HI.out y (List.mem_of_getElem? hget) Ay cy w2 (ziG HFL.out (List.mem_of_getElem? hget)) hyl r5;obtain⟨q,hq⟩:∃q,zqA y=q:=⟨_,rfl⟩;rw[hq] at KU;have hqd:q.data.toList=zdq y:=by rw[←hq];exact yci hyf
         have hqs:q.size≤70368744177664:=by show q.data.toList.length≤_;rw[hqd];exact hyl
         have hqs2:((⟨#[91]⟩:ByteArray)++q).size≤70368744177665:=by rw[ByteArray.size_append];show 1+q.size≤_;omega
         obtain⟨s,hs⟩:∃s:ByteArray,(⟨#[91]⟩:ByteArray)++q++(⟨#[93]⟩:ByteArray)=s:=⟨_,rfl⟩;have HE:=zz (HS.out s (by rw[←hs,←hqd];simp[ByteArray.data_append]));have hl8:l.length=1∧True:=⟨hl1,trivial⟩;have hin:(0:Int)<l.length:=by omega
         have HKU:=zz KU;clear n4 KU hq hqd hget hlb r5 hl9 hyf hyl HS hlen hl1 hl8;subst e;go_wp2_with fail;(with_reducible refine HKU.out.mono ?_);rintro e w3 ⟨rfl,hb3⟩;have HB3:=zz (zab HB2.out hb3 HB2.out.size);clear hb3;go_wp2_with fail;go_ret;exact⟨by rw[←HE.out];rfl,HB3.out⟩
        ·have e5:(k == 5)=false:=by rw[beq_eq_false_iff_ne];exact k5
         rw[if_neg k5] at hlen HS
         have k8:k=8:=by
          have q:=HSh.out;unfold ybs at q;rw[if_neg n4,if_neg (by omega),if_neg k5] at q
          split at q
          ·assumption
          ·cases q
         have hpos:1≤l.length:=by
          have q:=HSh.out;unfold ybs at q;rw[if_neg n4,if_neg (by omega),if_neg k5,if_pos k8,Bool.and_eq_true] at q;have:=q.2;cases l with
          |nil=>cases this
          |cons x r=>simp
         rw[if_pos k8] at hlen HS;obtain⟨R,hR⟩:∃R:List UInt8,(⟨#[102,117,110,40]⟩:ByteArray).data.toList++funL l true=R:=⟨_,rfl⟩;rw[hR] at hlen HS;have HA0:Hid ((⟨#[102,117,110,40]⟩:ByteArray).data.toList++funL (l.drop 0) (decide (0=0))=R):=zz hR;have hwl:IntKind.i64.wrap ((l.length:Int)-1)=(l.length:Int)-1:=IntWalk.i64_in _ (by omega);have HD0:Hid (Below w2.heap.size w2 w2):=zz (Below.refl _ _);clear n4 hR HSh k1 k2 k3 k4 k5 k6 k7 k8;go_wp2_with fail;clear hwl x0 x1 x2 e1 e2 e3 e4 e5 e6 e7
         go_loopw [3,5] (λs3 s5 wr=>∃(i:Nat) (p:ByteArray),i+1≤l.length∧s3=.string p∧s5=.int .i64 i∧Hid (p.data.toList++funL (l.drop i) (decide (i=0))=R)∧Hid (Below w2.heap.size w2 wr)) (λ_ s5 _=>l.length-(intOf s5).toNat)
         case atStart=>exact⟨0,_,hpos,rfl,rfl,HA0,HD0⟩
         case round=>
          clear HA0 HD0;obtain⟨i,p,hi,rfl,rfl,HA,HD⟩:=hrel;have sB:=HD.out.size;have HBW:=zz (zab HB2.out HD.out HB2.out.size);have z2:wr.cell? ⟨w.heap.size,2,none⟩=some (.slice A l.length c):=(zaa HD.out HC2.out).cell 2;obtain⟨b,off,y,e,hlb,hget,Ay,cy,p0,p1,p2,r5⟩:=zjY (HR.out.belows HBW.out) (i:=i) (by omega);have hyf:zbJ y=true:=ych HFM.out (List.mem_of_getElem? hget);have hRl:=congrArg List.length HA.out;rw[List.length_append,zak hget] at hRl;have hyl:=yck (l:=y::l.drop (i+1)) (List.mem_cons_self ..) (decide (i=0));have hps:p.data.toList.length=p.size:=rfl;have KU:=HI.out y (List.mem_of_getElem? hget) Ay cy wr (ziG HFL.out (List.mem_of_getElem? hget)) (by omega) r5;obtain⟨q,hq⟩:∃q,zqA y=q:=⟨_,rfl⟩;rw[hq] at KU;have hqd:q.data.toList=zdq y:=by rw[←hq];exact yci hyf
          have hqz:q.size=(zdq y).length:=by show q.data.toList.length=_;rw[hqd]
          have hqs:q.size≤70368744177664:=by omega
          have hpz:p.size≤70368744177664:=by omega
          have HKU:=zz KU;have qA:=HA.out;rw[zak hget,zpd] at qA;clear KU hq hget hlb r5 hyf hRl hyl hps hqz HA;subst e;have hin:(i:Int)<l.length:=by omega
          by_cases hlast:i+1<l.length
          ·have hlt:(i:Int)<(l.length:Int)-1:=by omega
           have hne:¬((l.drop (i+1)).isEmpty=true):=by
            intro e;have:=congrArg List.length (List.isEmpty_iff.1 e);simp at this;omega
           rw[if_neg hne] at qA
           by_cases hi0:i=0
           ·subst hi0;have hpq:(p++q).size≤140737488355328:=by rw[ByteArray.size_append];omega
            obtain⟨p',hp'⟩:∃p',p++q=p':=⟨_,rfl⟩;have HQ:Hid (p'.data.toList++funL (l.drop (0+1)) (decide (0+1=0))=R):=zz (by rw[←qA,←hp',←hqd];simp[ByteArray.data_append]);clear qA hqd hne;have hn0:¬(0:Int)<((0:Nat):Int):=by omega
            rw[Nat.zero_mul,Nat.add_zero] at p0 p1 p2;go_wp2_with fail;(with_reducible refine HKU.out.mono ?_);rintro e w3 ⟨rfl,hb3⟩;have HD3:=zz (zab HD.out hb3 HD.out.size);clear hb3;go_wp2_with fail;exact⟨⟨0+1,p',by omega,rfl,by go_num,HQ,HD3⟩,by simp[intOf];omega⟩
           ·have hpc:(p++(⟨#[44,32]⟩:ByteArray)).size≤70368744177666:=by rw[ByteArray.size_append];show p.size+2≤_;omega
            obtain⟨p',hp'⟩:∃p',p++(⟨#[44,32]⟩:ByteArray)++q=p':=⟨_,rfl⟩;rw[decide_eq_false hi0,if_neg (by simp)] at qA;have HQ:Hid (p'.data.toList++funL (l.drop (i+1)) (decide (i+1=0))=R):=zz (by rw[←qA,←hp',←hqd];simp[ByteArray.data_append]);clear qA hqd hne;have hn0:(0:Int)<(i:Int):=by omega
            go_wp2_with fail;(with_reducible refine HKU.out.mono ?_);rintro e w3 ⟨rfl,hb3⟩;have HD3:=zz (zab HD.out hb3 HD.out.size);clear hb3;go_wp2_with fail;exact⟨⟨i+1,p',by omega,rfl,by go_num,HQ,HD3⟩,by simp[intOf];omega⟩
          ·obtain rfl:i=l.length-1:=by omega
           have hlt:¬((l.length-1:Nat):Int)<(l.length:Int)-1:=by omega
           have hci:((l.length-1:Nat):Int)=(l.length:Int)-1:=by omega
           rw[if_pos (List.isEmpty_iff.2 (List.drop_eq_nil_of_le (by omega)))] at qA;have hpc:(p++(⟨#[41,58,32]⟩:ByteArray)).size≤70368744177667:=by rw[ByteArray.size_append];show p.size+3≤_;omega
           obtain⟨s,hs⟩:∃s:ByteArray,p++(⟨#[41,58,32]⟩:ByteArray)++q=s:=⟨_,rfl⟩;have HE:=zz (HS.out s (by rw[←qA,←hs,←hqd];simp[ByteArray.data_append]));clear qA hqd;go_wp2_with fail;(with_reducible refine HKU.out.mono ?_);rintro e w3 ⟨rfl,hb3⟩;have HB3:=zz (zab HBW.out hb3 HBW.out.size);clear hb3;go_wp2_with fail;go_ret;exact⟨by rw[←HE.out];rfl,HB3.out⟩
theorem ycn:∀t:Ty,ycl t
 |.mk k n a=>ycm k n a (λx _hx=>ycn x)
end Go.Proofs.YtjdpocmlimkjjaaGreat
