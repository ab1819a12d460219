/- Conditions: those in each statement. -/
import Derived.Test.YtcebmphappfjjaaGreatDoorQ33
import Derived.Test.YtcebmphappfjjaaGreatDoorQ01
import Derived.Test.YtcebmphappfjjaaGreatDoorQ08
import Derived.Test.YtcebmphappfjjaaGreatDoorQ04
import Derived.Test.YtcebmphappfjjaaGreatDoorQ50
import Derived.Test.YtcebmphappfjjaaGreatDoorQ43
import Derived.Test.YtcebmphappfjjaaGreatDoorQ48
import Derived.Lib.QuietBelow
import Derived.BigQuiet
import Derived.Test.YtcebmphappfjjaaGreatDoorRows
import Derived.Test.YtcebmphappfjjaaGreatDoorQ39
import Derived.Test.YtcebmphappfjjaaGreatDoorQ41
import Derived.ChangeArms
set_option maxHeartbeats 32000000
set_option maxRecDepth 100000
namespace Go.Proofs.YtcebmphappfjjaaGreatDoor
open Go.RowKit
def WvAt (v:V):Prop:=∀(d:Int) (A:Option Addr) (c:Nat) (w:World),-1<=d->d<=100->v.bulk<=2097152->Rd (Lt w.heap.size) w (vs v.l) (.slice A v.l.length c)->
 Calls Tryz.prog 46 #[.agg #[.int .i64 v.kind,.string v.t,.int .i64 v.n,.int .i64 v.m,.string v.s,.slice A v.l.length c],.int .i64 d] w λe w'=>(∃x:Int,e=.returned (.int .i64 x)/\0<=x/\x<=v.bulk+1100*(d+2)+100000)/\Below w.heap.size w w'
theorem zye (k:Int) (t:ByteArray) (n m:Int) (s:ByteArray) (l:List V) (IH:∀v∈l,WvAt v):WvAt (.mk k t n m s l):=by
 intro d A c w hd1 hd2 hb h;replace h:Rd (Lt w.heap.size) w (vs l) (.slice A l.length c):=h
 show Calls Tryz.prog 46 #[.agg #[.int .i64 k,.string t,.int .i64 n,.int .i64 m,.string s,.slice A l.length c],.int .i64 d] w λe w'=>(∃x:Int,e=.returned (.int .i64 x)/\0<=x/\x<=(V.mk k t n m s l).bulk+1100*(d+2)+100000)/\Below w.heap.size w w'
 rw[zbv] at hb ⊢;have hbl:=zdB l;have hl:=zno h;have hn:l.length<=9223372036854775807:=Nat.le_trans hl.2.1 hl.2.2;obtain⟨w1,h1,b1,c1⟩:=zaj w #[.int .i64 k,.string t,.int .i64 n,.int .i64 m,.string s,.slice A l.length c] 24;have x1:w1.cell? ⟨w.heap.size,1,none⟩=some (.string t):=c1.cell 1;have x4:w1.cell? ⟨w.heap.size,4,none⟩=some (.string s):=c1.cell 4;have HC:=zz c1;have HB1:=zz b1;have HR:=zz h;have HI:=zz IH;have hw0:IntKind.i64.wrap (10+(t.size:Int))=10+(t.size:Int):=IntWalk.i64_in _ (by omega);have hw1:IntKind.i64.wrap (10+(t.size:Int)+(s.size:Int))=10+(t.size:Int)+(s.size:Int):=IntWalk.i64_in _ (by omega);have HD0:Hid (Below w1.heap.size w1 w1):=zz (Below.refl _ _);clear b1 c1 hl h IH
 by_cases hd:d<0
 ·go_enter Tryz.func46,Tryz.ntmps46;go_wp2;go_ret;exact⟨⟨100000,rfl,by omega,by omega⟩,HB1.out⟩
 ·have hwd:IntKind.i64.wrap (d-1)=d-1:=IntWalk.i64_in _ (by omega);go_enter Tryz.func46,Tryz.ntmps46;go_wp2_with fail;clear h1 x1 x4 hw0 hw1
  go_loopw [5,6] (λsv si wr=>∃(i:Nat) (x:Int),i<=l.length/\sv=.int .i64 x/\si=.int .i64 i/\0<=x/\x<=(7+t.size+s.size+zcl l:Nat)+1100*(d+2)+100000/\Hid (Below w1.heap.size w1 wr)) (λ_ si _=>l.length-(intOf si).toNat)
  case atStart=>exact⟨0,_,by omega,rfl,rfl,by omega,by omega,HD0⟩
  case round=>
   clear HD0;obtain⟨i,x,hi,rfl,rfl,hx0,hx1,HD⟩:=hrel;have HBW:=zz (zac HB1.out HD.out HB1.out.size);have z5:wr.cell? ⟨w.heap.size,5,none⟩=some (.slice A l.length c):=(zaa HD.out HC.out).cell 5
   by_cases hlt:i<l.length
   ·have hin:(i:Int)<l.length:=by omega
    by_cases h11:x<=1100
    ·obtain⟨b,off,k1,t1,n1,m1,s1,l1,A1,c1,e,hlb,hget,p0,p1,p2,p3,p4,p5,r5⟩:=zrO (HR.out.belows HBW.out) hlt;subst e;have hm:=List.mem_of_getElem? hget;have hy:=zeK _ _ _ hget;have KU:Hid (Calls _ _ #[.agg #[.int .i64 k1,.string t1,.int .i64 n1,.int .i64 m1,.string s1,.slice A1 l1.length c1],.int .i64 (d-1)] wr _):=zz (HI.out _ hm (d-1) A1 c1 wr (by omega) (by omega) (by omega) r5);have hy2:((V.mk k1 t1 n1 m1 s1 l1).bulk:Int)<=zcl l:=by omega
     generalize (V.mk k1 t1 n1 m1 s1 l1).bulk=bq at *
     clear r5 hget hlb hm hy;go_wp2_with fail;refine KU.out.mono ?_;rintro e w4 ⟨⟨x2,rfl,hz0,hz1⟩,hb4⟩;have HD2:=zz (zac HD.out hb4 HD.out.size);have hwx:IntKind.i64.wrap (x+x2)=x+x2:=IntWalk.i64_in _ (by omega);have q1:x+x2<=(7+t.size+s.size+zcl l:Nat)+1100*(d+2)+100000:=by omega
     have q0:0<=x+x2:=by omega
     clear hb4 hz0 hz1;go_wp2_with fail;exact⟨⟨i+1,x+x2,by omega,rfl,by go_num,q0,q1,HD2⟩,by simp[intOf];omega⟩
    ·go_wp2;go_ret;exact⟨⟨x,rfl,hx0,hx1⟩,HBW.out⟩
   ·go_wp2;go_ret;exact⟨⟨x,rfl,hx0,hx1⟩,HBW.out⟩
theorem zwC:∀v:V,WvAt v
 |.mk k t n m s l=>zye k t n m s l (λx _=>zwC x)
theorem zwa (k:Int) (t:ByteArray) (n m:Int) (s:ByteArray) (l:List V) (A:Option Addr) (c:Nat) (w:World) (hb:(V.mk k t n m s l).bulk<=2097152) (h:Rd (Lt w.heap.size) w (vs l) (.slice A l.length c)) :
 Calls Tryz.prog 9 #[.agg #[.int .i64 k,.string t,.int .i64 n,.int .i64 m,.string s,.slice A l.length c]] w λe w'=>(∃b,e=.returned (.bool b))/\Below w.heap.size w w':=by
 obtain⟨w1,h1,b1,c1⟩:=zaj w #[.int .i64 k,.string t,.int .i64 n,.int .i64 m,.string s,.slice A l.length c] 24;have x0:w1.cell? ⟨w.heap.size,0,none⟩=some (.int .i64 k):=c1.cell 0;have x1:w1.cell? ⟨w.heap.size,1,none⟩=some (.string t):=c1.cell 1;have x2:w1.cell? ⟨w.heap.size,2,none⟩=some (.int .i64 n):=c1.cell 2;have x3:w1.cell? ⟨w.heap.size,3,none⟩=some (.int .i64 m):=c1.cell 3;have x4:w1.cell? ⟨w.heap.size,4,none⟩=some (.string s):=c1.cell 4;have x5:w1.cell? ⟨w.heap.size,5,none⟩=some (.slice A l.length c):=c1.cell 5;have K:Hid (Calls _ _ #[.agg #[.int .i64 k,.string t,.int .i64 n,.int .i64 m,.string s,.slice A l.length c],.int .i64 20] w1 _):=zz (zwC (.mk k t n m s l) 20 A c w1 (by omega) (by omega) hb (h.belows b1));have HB1:=zz b1;clear b1 c1 h;go_enter Tryz.func9,Tryz.ntmps9;go_wp2_with fail;refine K.out.mono ?_;rintro e w2 ⟨⟨x,rfl,_,_⟩,hb⟩;have HB2:=zz (zac HB1.out hb HB1.out.size);clear hb;go_wp2;go_ret;exact⟨⟨_,rfl⟩,HB2.out⟩
end Go.Proofs.YtcebmphappfjjaaGreatDoor
set_option maxHeartbeats 32000000
set_option maxRecDepth 100000
namespace Go.Proofs.YtcebmphappfjjaaGreatDoor
open Go.RowKit Go.Sort
theorem zvg {x y:Int} (h1:-1<=x/\x<=1) (h2:-1<=y/\y<=1):-1<=thn x y/\thn x y<=1:=by unfold thn;split<;>assumption
theorem zvV (x y:Int):-1<=cmpI x y/\cmpI x y<=1:=by unfold cmpI;split<;>(try split)<;>omega
theorem zwK (x y:ByteArray):-1<=cmpB x y/\cmpB x y<=1:=by unfold cmpB;split<;>(try split)<;>omega
mutual
theorem zwM:∀a b:V,-1<=cmpV a b/\cmpV a b<=1
 |.mk k t n m s l,.mk k' t' n' m' s' l'=>by
  unfold cmpV;exact zvg (zvV _ _) (zvg (zwK _ _) (zvg (zvV _ _) (zvg (zvV _ _) (zvg (zwK _ _) (zwk l l')))))
theorem zwk:∀a b:List V,-1<=zbh a b/\zbh a b<=1
 |[],[]=>by unfold zbh;omega
 |[],_::_=>by unfold zbh;omega
 |_::_,[]=>by unfold zbh;omega
 |a::r,b::s=>by
  unfold zbh;exact zvg (zwM a b) (zwk r s)
end
structure OrdF (a b c:V) (x y z:Int):Prop where
 xy:cmpV a b=x
 yz:cmpV b c=y
 xz:cmpV a c=z
 r:-1<=x/\x<=1
 neg:cmpV b a=-x
 eq:eqV a b=(x == 0)
 t1:x<=0->y<=0->z<=0
 t2:x<0->y<=0->z<0
theorem ordF (a b c:V):∃x y z,OrdF a b c x y z:=by
 have h:=zsv a b c;refine⟨_,_,_,rfl,rfl,rfl,zwM a b,zrI a b,?_,h.1,h.2.1⟩;rw[Bool.eq_iff_iff,beq_iff_eq,zsV,zpA]
theorem zxn {s t:ByteArray} {x:Int} (h:s=t↔x=0):(s.toList == t.toList)=(x == 0):=by
 rw[Bool.eq_iff_iff,beq_iff_eq,beq_iff_eq,<-h];exact⟨zbX,λh=>by rw[h]⟩
theorem Zs.callB {w W:World} {L:List (Nat × Array Value × TypeId)} {R:List (D × Value)} (Z:Hid (Zs w W L R)) {fn:FuncId} {vs:Array Value} {S:Ending->World->Prop} (K:Calls Tryz.prog fn vs W λe w'=>(∃b,e=.returned (.bool b))/\Below W.heap.size W w') (h:∀b W',Hid (Zs w W' L R)->S (.returned (.bool b)) W'):Calls Tryz.prog fn vs W S:=K.mono λe w' ⟨⟨b,he⟩,hb⟩=>by
 subst he;exact h b w' (zz (Z.out.below hb))
theorem Zs.grow {w W:World} {L:List (Nat × Array Value × TypeId)} {R:List (D × Value)} (Z:Hid (Zs w W L R)) (d:Nat) (os:Array Obj):Hid (Zs w (grow (redrawn W d) os) L R):=zz (Z.out.below (below_regrown W d os))
theorem zxs (ka:Int) (ta:ByteArray) (na ma:Int) (sa:ByteArray) (la:List V) (kb:Int) (tb:ByteArray) (nb mb:Int) (sb:ByteArray) (lb:List V) (kc:Int) (tc:ByteArray) (nc mc:Int) (sc:ByteArray) (lc:List V) (Aa Ab Ac:Option Addr) (ca cb cc:Nat) (w:World) (ha:(V.mk ka ta na ma sa la).bulk<=1048576) (hb:(V.mk kb tb nb mb sb lb).bulk<=1048576) (hc:(V.mk kc tc nc mc sc lc).bulk<=1048576) (fa:(V.mk ka ta na ma sa la).Wf) (fb:(V.mk kb tb nb mb sb lb).Wf) (ra:Rd (Lt w.heap.size) w (vs la) (.slice Aa la.length ca)) (rb:Rd (Lt w.heap.size) w (vs lb) (.slice Ab lb.length cb)) (rc:Rd (Lt w.heap.size) w (vs lc) (.slice Ac lc.length cc)) (hT:Tab w.heap.size w) :
 Calls Tryz.prog 5 #[.agg #[.int .i64 ka,.string ta,.int .i64 na,.int .i64 ma,.string sa,.slice Aa la.length ca],.agg #[.int .i64 kb,.string tb,.int .i64 nb,.int .i64 mb,.string sb,.slice Ab lb.length cb],.agg #[.int .i64 kc,.string tc,.int .i64 nc,.int .i64 mc,.string sc,.slice Ac lc.length cc]] w λe w'=>e=.returned (.bool true)/\Below w.heap.size w w':=by
 obtain⟨x,y,z,hO⟩:=ordF (.mk ka ta na ma sa la) (.mk kb tb nb mb sb lb) (.mk kc tc nc mc sc lc);have hla:zcl la<=2097152:=by rw[zbv] at ha;omega
 have hba:(V.mk ka ta na ma sa la).bulk<=2097152:=by omega
 have hlb:zcl lb<=2097152:=by rw[zbv] at hb;omega
 have hbb:(V.mk kb tb nb mb sb lb).bulk<=2097152:=by omega
 have hlc:zcl lc<=2097152:=by rw[zbv] at hc;omega
 have hbc:(V.mk kc tc nc mc sc lc).bulk<=2097152:=by omega
 have HO:=zz hO;have HT:=zz hT;have HB:=zz (And.intro hba (And.intro hbb hbc));have HL:=zz (And.intro hla (And.intro hlb hlc));have HW:=zz (And.intro fa fb)
 have Z:Hid (Zs w w [] [(vs la,.slice Aa la.length ca),(vs lb,.slice Ab lb.length cb),(vs lc,.slice Ac lc.length cc)]):=zz ⟨Below.refl _ _,λ_ h=>(by cases h),λq h=>by
  rcases (show q=_\/q=_\/q=_ by simpa using h) with rfl|rfl|rfl
  ·exact ra
  ·exact rb
  ·exact rc⟩
 clear hO hT ha hb hc fa fb ra rb rc hla hba hlb hbb hlc hbc;obtain⟨w1,hw1,Z⟩:=Zs.box Z #[.int .i64 ka,.string ta,.int .i64 na,.int .i64 ma,.string sa,.slice Aa la.length ca] 24;obtain⟨w2,hw2,Z⟩:=Zs.box Z #[.int .i64 kb,.string tb,.int .i64 nb,.int .i64 mb,.string sb,.slice Ab lb.length cb] 24;obtain⟨w3,hw3,Z⟩:=Zs.box Z #[.int .i64 kc,.string tc,.int .i64 nc,.int .i64 mc,.string sc,.slice Ac lc.length cc] 24;go_enter Tryz.func5,Tryz.ntmps5;go_wp2_with fail;have K:=zz (zyq w3 (Tab.up (HT.out.on Z.out.low) Z.out.low.size));refine Zs.call Z K.out ?_;clear hw1 hw2 hw3 K Z;intro w4 Z;have z0:=Zs.c Z 2 0 rfl rfl;have z1:=Zs.c Z 2 1 rfl rfl;have z2:=Zs.c Z 2 2 rfl rfl;have z3:=Zs.c Z 2 3 rfl rfl;have z4:=Zs.c Z 2 4 rfl rfl;have z5:=Zs.c Z 2 5 rfl rfl;have K:=zz (zwa ka ta na ma sa la _ _ w4 HB.out.1 (Zs.rd Z 0 rfl));go_wp2_with fail;refine Zs.callB Z K.out ?_;clear z0 z1 z2 z3 z4 z5 K Z;intro q w5 Z;cases q
 ·go_wp2;go_ret;exact⟨rfl,Z.out.low⟩
 have z0:=Zs.c Z 1 0 rfl rfl;have z1:=Zs.c Z 1 1 rfl rfl;have z2:=Zs.c Z 1 2 rfl rfl;have z3:=Zs.c Z 1 3 rfl rfl;have z4:=Zs.c Z 1 4 rfl rfl;have z5:=Zs.c Z 1 5 rfl rfl;have K:=zz (zwa kb tb nb mb sb lb _ _ w5 HB.out.2.1 (Zs.rd Z 1 rfl));go_wp2_with fail;refine Zs.callB Z K.out ?_;clear z0 z1 z2 z3 z4 z5 K Z;intro q w6 Z;cases q
 ·go_wp2;go_ret;exact⟨rfl,Z.out.low⟩
 have z0:=Zs.c Z 0 0 rfl rfl;have z1:=Zs.c Z 0 1 rfl rfl;have z2:=Zs.c Z 0 2 rfl rfl;have z3:=Zs.c Z 0 3 rfl rfl;have z4:=Zs.c Z 0 4 rfl rfl;have z5:=Zs.c Z 0 5 rfl rfl;have K:=zz (zwa kc tc nc mc sc lc _ _ w6 HB.out.2.2 (Zs.rd Z 2 rfl));go_wp2_with fail;refine Zs.callB Z K.out ?_;clear z0 z1 z2 z3 z4 z5 K Z;intro q w7 Z;cases q
 ·go_wp2;go_ret;exact⟨rfl,Z.out.low⟩
 have z0:=Zs.c Z 2 0 rfl rfl;have z1:=Zs.c Z 2 1 rfl rfl;have z2:=Zs.c Z 2 2 rfl rfl;have z3:=Zs.c Z 2 3 rfl rfl;have z4:=Zs.c Z 2 4 rfl rfl;have z5:=Zs.c Z 2 5 rfl rfl;have q0:=Zs.c Z 1 0 rfl rfl;have q1:=Zs.c Z 1 1 rfl rfl;have q2:=Zs.c Z 1 2 rfl rfl;have q3:=Zs.c Z 1 3 rfl rfl;have q4:=Zs.c Z 1 4 rfl rfl;have q5:=Zs.c Z 1 5 rfl rfl;have K0:=znS ka ta na ma sa la kb tb nb mb sb lb _ _ _ _ w7 (zuM HL.out.1) HL.out.2.1 (Zs.rd Z 0 rfl) (Zs.rd Z 1 rfl);rw[HO.out.xy] at K0;have K:=zz K0;go_wp2_with fail;refine Zs.call Z K.out ?_;clear z0 z1 z2 z3 z4 z5 q0 q1 q2 q3 q4 q5 K0 K Z;intro w8 Z;have z0:=Zs.c Z 1 0 rfl rfl;have z1:=Zs.c Z 1 1 rfl rfl;have z2:=Zs.c Z 1 2 rfl rfl;have z3:=Zs.c Z 1 3 rfl rfl;have z4:=Zs.c Z 1 4 rfl rfl;have z5:=Zs.c Z 1 5 rfl rfl;have q0:=Zs.c Z 0 0 rfl rfl;have q1:=Zs.c Z 0 1 rfl rfl;have q2:=Zs.c Z 0 2 rfl rfl;have q3:=Zs.c Z 0 3 rfl rfl;have q4:=Zs.c Z 0 4 rfl rfl;have q5:=Zs.c Z 0 5 rfl rfl;have K0:=znS kb tb nb mb sb lb kc tc nc mc sc lc _ _ _ _ w8 (zuM HL.out.2.1) HL.out.2.2 (Zs.rd Z 1 rfl) (Zs.rd Z 2 rfl);rw[HO.out.yz] at K0;have K:=zz K0;go_wp2_with fail;refine Zs.call Z K.out ?_;clear z0 z1 z2 z3 z4 z5 q0 q1 q2 q3 q4 q5 K0 K Z;intro w9 Z;have z0:=Zs.c Z 2 0 rfl rfl;have z1:=Zs.c Z 2 1 rfl rfl;have z2:=Zs.c Z 2 2 rfl rfl;have z3:=Zs.c Z 2 3 rfl rfl;have z4:=Zs.c Z 2 4 rfl rfl;have z5:=Zs.c Z 2 5 rfl rfl;have q0:=Zs.c Z 0 0 rfl rfl;have q1:=Zs.c Z 0 1 rfl rfl;have q2:=Zs.c Z 0 2 rfl rfl;have q3:=Zs.c Z 0 3 rfl rfl;have q4:=Zs.c Z 0 4 rfl rfl;have q5:=Zs.c Z 0 5 rfl rfl;have K0:=znS ka ta na ma sa la kc tc nc mc sc lc _ _ _ _ w9 (zuM HL.out.1) HL.out.2.2 (Zs.rd Z 0 rfl) (Zs.rd Z 2 rfl);rw[HO.out.xz] at K0;have K:=zz K0;go_wp2_with fail;refine Zs.call Z K.out ?_;clear z0 z1 z2 z3 z4 z5 q0 q1 q2 q3 q4 q5 K0 K Z;intro w10 Z
 go_upto_region 7 with (fail)
 go_cut [72] (λs72 wx=>s72=.bool false/\Hid (Zs w wx [(w2.heap.size,#[.int .i64 kc,.string tc,.int .i64 nc,.int .i64 mc,.string sc,.slice Ac lc.length cc],24),(w1.heap.size,#[.int .i64 kb,.string tb,.int .i64 nb,.int .i64 mb,.string sb,.slice Ab lb.length cb],24),(w.heap.size,#[.int .i64 ka,.string ta,.int .i64 na,.int .i64 ma,.string sa,.slice Aa la.length ca],24)] [(vs la,.slice Aa la.length ca),(vs lb,.slice Ab lb.length cb),(vs lc,.slice Ac lc.length cc)]))
 case first=>
  have z0:=Zs.c Z 1 0 rfl rfl;have z1:=Zs.c Z 1 1 rfl rfl;have z2:=Zs.c Z 1 2 rfl rfl;have z3:=Zs.c Z 1 3 rfl rfl;have z4:=Zs.c Z 1 4 rfl rfl;have z5:=Zs.c Z 1 5 rfl rfl;have q0:=Zs.c Z 2 0 rfl rfl;have q1:=Zs.c Z 2 1 rfl rfl;have q2:=Zs.c Z 2 2 rfl rfl;have q3:=Zs.c Z 2 3 rfl rfl;have q4:=Zs.c Z 2 4 rfl rfl;have q5:=Zs.c Z 2 5 rfl rfl;have K0:=znS kb tb nb mb sb lb ka ta na ma sa la _ _ _ _ w10 (zuM HL.out.2.1) HL.out.1 (Zs.rd Z 1 rfl) (Zs.rd Z 0 rfl);rw[HO.out.neg] at K0;have K:=zz K0;go_wp2_with fail;refine Zs.call Z K.out ?_;clear z0 z1 z2 z3 z4 z5 q0 q1 q2 q3 q4 q5 K0 K Z;intro w11 Z;have z0:=Zs.c Z 2 0 rfl rfl;have z1:=Zs.c Z 2 1 rfl rfl;have z2:=Zs.c Z 2 2 rfl rfl;have z3:=Zs.c Z 2 3 rfl rfl;have z4:=Zs.c Z 2 4 rfl rfl;have z5:=Zs.c Z 2 5 rfl rfl;have q0:=Zs.c Z 1 0 rfl rfl;have q1:=Zs.c Z 1 1 rfl rfl;have q2:=Zs.c Z 1 2 rfl rfl;have q3:=Zs.c Z 1 3 rfl rfl;have q4:=Zs.c Z 1 4 rfl rfl;have q5:=Zs.c Z 1 5 rfl rfl;have K0:=zvo ka ta na ma sa la kb tb nb mb sb lb _ _ _ _ w11 (zxx HL.out.1) HL.out.2.1 (Zs.rd Z 0 rfl) (Zs.rd Z 1 rfl);rw[HO.out.eq] at K0;have hx1:IntKind.i64.wrap (- -x)=x:=by have:=HO.out.r;rw[Int.neg_neg,IntWalk.i64_in _ (by omega)]
  have hx2:IntKind.i64.wrap x=x:=by have:=HO.out.r;exact IntWalk.i64_in _ (by omega)
  have K:=zz K0;go_wp2_with fail;refine Zs.call Z K.out ?_;clear z0 z1 z2 z3 z4 z5 q0 q1 q2 q3 q4 q5 K0 K Z;intro w12 Z;have g1:=HO.out.t1;have g2:=HO.out.t2;clear hx1 hx2;rcases (show (0<x)\/(x=0/\0<y)\/(x<0/\0<y)\/(x=0/\y<=0/\z<=0)\/(x<0/\y<=0/\z<0) by omega) with h|⟨h,h'⟩|⟨h,h'⟩|⟨h,h',h''⟩|⟨h,h',h''⟩
  ·have q1:¬x<=0:=by omega
   have q2:¬x<0:=by omega
   clear g1 g2 h;go_wp2
   go_meet
   exact⟨rfl,Z⟩
  ·have q1:x<=0:=by omega
   have q2:¬x<0:=by omega
   have q3:¬y<=0:=by omega
   clear g1 g2 h;go_wp2
   go_meet
   exact⟨rfl,Z⟩
  ·have q1:x<=0:=by omega
   have q2:x<0:=by omega
   have q3:¬y<=0:=by omega
   clear g1 g2;go_wp2
   go_meet
   exact⟨rfl,Z⟩
  ·have q1:x<=0:=by omega
   have q2:¬x<0:=by omega
   have q3:¬0<z:=by omega
   clear g1 g2 h;go_wp2
   go_meet
   exact⟨by rw[decide_eq_false (show ¬0<z by omega)],Z⟩
  ·have q1:x<=0:=by omega
   have q2:¬0<z:=by omega
   have q3:¬0<=z:=by omega
   clear g1 g2;go_wp2
   go_meet
   exact⟨by rw[decide_eq_false (show ¬0<z by omega),decide_eq_false (show ¬0<=z by omega)];rfl,Z⟩
 case rest=>
  clear Z;obtain⟨rfl,Z⟩:=hcut;rename World=>v1
  go_upto_region 9 with (fail)
  go_cut [88] (λs88 wx=>s88=.bool false/\Hid (Zs w wx [(w2.heap.size,#[.int .i64 kc,.string tc,.int .i64 nc,.int .i64 mc,.string sc,.slice Ac lc.length cc],24),(w1.heap.size,#[.int .i64 kb,.string tb,.int .i64 nb,.int .i64 mb,.string sb,.slice Ab lb.length cb],24),(w.heap.size,#[.int .i64 ka,.string ta,.int .i64 na,.int .i64 ma,.string sa,.slice Aa la.length ca],24)] [(vs la,.slice Aa la.length ca),(vs lb,.slice Ab lb.length cb),(vs lc,.slice Ac lc.length cc)]))
  case first=>
   have z0:=λd os=>cell_regrown (Zs.c Z 2 0 rfl rfl) d os;have z1:=λd os=>cell_regrown (Zs.c Z 2 1 rfl rfl) d os;have z2:=λd os=>cell_regrown (Zs.c Z 2 2 rfl rfl) d os;have z3:=λd os=>cell_regrown (Zs.c Z 2 3 rfl rfl) d os;have z4:=λd os=>cell_regrown (Zs.c Z 2 4 rfl rfl) d os;have z5:=λd os=>cell_regrown (Zs.c Z 2 5 rfl rfl) d os;have q0:=λd os=>cell_regrown (Zs.c Z 1 0 rfl rfl) d os;have q1:=λd os=>cell_regrown (Zs.c Z 1 1 rfl rfl) d os;have q2:=λd os=>cell_regrown (Zs.c Z 1 2 rfl rfl) d os;have q3:=λd os=>cell_regrown (Zs.c Z 1 3 rfl rfl) d os;have q4:=λd os=>cell_regrown (Zs.c Z 1 4 rfl rfl) d os;have q5:=λd os=>cell_regrown (Zs.c Z 1 5 rfl rfl) d os;obtain⟨ea,hea⟩:∃e,zkS zbL (.mk ka ta na ma sa la)=e:=⟨_,rfl⟩;have K1:=zz (λd os=>Calls.regrown_of (by have t:=zuQ zbL ka ta na ma sa la Aa ca (grow (redrawn v1 d) os) HB.out.1 (znD _ HB.out.1) (Zs.rd (Zs.grow Z d os) 0 rfl);exact t));rw[hea] at K1;obtain⟨eb,heb⟩:∃e,zkS zbL (.mk kb tb nb mb sb lb)=e:=⟨_,rfl⟩;have K2:=zz (λd os=>Calls.regrown_of (by have t:=zuQ zbL kb tb nb mb sb lb Ab cb (grow (redrawn v1 d) os) HB.out.2.1 (znD _ HB.out.2.1) (Zs.rd (Zs.grow Z d os) 1 rfl);exact t));rw[heb] at K2;have K3:=zz (λd os=>Calls.regrown_of (by have t:=zvT zbL ka ta na ma sa la Aa ca (grow (redrawn v1 d) os) HB.out.1 HW.out.1 (znD _ HB.out.1) (Zs.rd (Zs.grow Z d os) 0 rfl);exact t));have K4:=zz (λd os=>Calls.regrown_of (by have t:=zvT zbL kb tb nb mb sb lb Ab cb (grow (redrawn v1 d) os) HB.out.2.1 HW.out.2 (znD _ HB.out.2.1) (Zs.rd (Zs.grow Z d os) 1 rfl);exact t))
   have hq:ea=true->eb=true->((zjt zbL (.mk ka ta na ma sa la)).toList == (zjt zbL (.mk kb tb nb mb sb lb)).toList)=(x == 0):=λh1 h2=>zxn (by
    rw[<-HO.out.xy,zpA];exact⟨zua (hea.trans h1) (heb.trans h2) HB.out.1 HB.out.2.1,λh=>by rw[h]⟩)
   generalize zjt zbL (.mk ka ta na ma sa la)=BA at *
   generalize zjt zbL (.mk kb tb nb mb sb lb)=BB at *
   clear hea heb;cases ea with
   |false=>
    clear K2 K3 K4 hq;go_wp2_with fail;refine wp_region_quiet_below (by kernel_rfl) (by kernel_rfl) ?_
    repeat (go_big_quiet_step (first|with_reducible exact K1.out _ _))
    refine wpQuiet_nil ?_;intro _ hw';obtain⟨⟨dq,oq⟩,hw''⟩:=hw';subst hw'';have Z:=Zs.grow Z dq oq;go_wp2
    go_meet
    exact⟨rfl,Z⟩
   |true=>
    cases eb with
    |false=>
     clear K3 K4 hq;go_wp2_with fail;refine wp_region_quiet_below (by kernel_rfl) (by kernel_rfl) ?_
     repeat (go_big_quiet_step (first|with_reducible exact K1.out _ _|with_reducible exact K2.out _ _))
     refine wpQuiet_nil ?_;intro _ hw';obtain⟨⟨dq,oq⟩,hw''⟩:=hw';subst hw'';have Z:=Zs.grow Z dq oq;go_wp2
     go_meet
     exact⟨rfl,Z⟩
    |true=>
     have hq:=hq rfl rfl;go_wp2_with fail;refine wp_region_quiet_below (by kernel_rfl) (by kernel_rfl) ?_
     repeat (go_big_quiet_step (first|with_reducible exact K1.out _ _|with_reducible exact K2.out _ _|with_reducible exact K3.out _ _|with_reducible exact K4.out _ _))
     refine wpQuiet_nil ?_;intro _ hw';obtain⟨⟨dq,oq⟩,hw''⟩:=hw';subst hw'';have Z:=Zs.grow Z dq oq;go_wp2
     go_meet
     exact⟨rfl,Z⟩
  case rest=>
   clear Z;obtain⟨rfl,Z⟩:=hcut;rename World=>v2;have z0:=λd os=>cell_regrown (Zs.c Z 2 0 rfl rfl) d os;have z1:=λd os=>cell_regrown (Zs.c Z 2 1 rfl rfl) d os;have z2:=λd os=>cell_regrown (Zs.c Z 2 2 rfl rfl) d os;have z3:=λd os=>cell_regrown (Zs.c Z 2 3 rfl rfl) d os;have z4:=λd os=>cell_regrown (Zs.c Z 2 4 rfl rfl) d os;have z5:=λd os=>cell_regrown (Zs.c Z 2 5 rfl rfl) d os;have q0:=λd os=>cell_regrown (Zs.c Z 1 0 rfl rfl) d os;have q1:=λd os=>cell_regrown (Zs.c Z 1 1 rfl rfl) d os;have q2:=λd os=>cell_regrown (Zs.c Z 1 2 rfl rfl) d os;have q3:=λd os=>cell_regrown (Zs.c Z 1 3 rfl rfl) d os;have q4:=λd os=>cell_regrown (Zs.c Z 1 4 rfl rfl) d os;have q5:=λd os=>cell_regrown (Zs.c Z 1 5 rfl rfl) d os;have K1:=zz (λd os=>Calls.regrown_of (by have t:=zqB ka ta na ma sa la Aa ca (grow (redrawn v2 d) os) HB.out.1 (Tab.up (HT.out.on (Zs.grow Z d os).out.low) (Zs.grow Z d os).out.low.size) (Zs.rd (Zs.grow Z d os) 0 rfl);exact t));have K2:=zz (λd os=>Calls.regrown_of (by have t:=zqB kb tb nb mb sb lb Ab cb (grow (redrawn v2 d) os) HB.out.2.1 (Tab.up (HT.out.on (Zs.grow Z d os).out.low) (Zs.grow Z d os).out.low.size) (Zs.rd (Zs.grow Z d os) 1 rfl);exact t))
   have hq:zoQ (.mk ka ta na ma sa la)≠⟨#[]⟩->zoQ (.mk kb tb nb mb sb lb)≠⟨#[]⟩->((zoQ (.mk ka ta na ma sa la)).toList == (zoQ (.mk kb tb nb mb sb lb)).toList)=(x == 0):=λh1 h2=>zxn (by
    rw[<-HO.out.xy,zpA];exact zxN h1 h2)
   generalize zoQ (.mk ka ta na ma sa la)=BA at *
   generalize zoQ (.mk kb tb nb mb sb lb)=BB at *
   by_cases ha:BA=⟨#[]⟩
   ·subst ha;clear K2 hq;go_wp2_with fail;refine wp_region_quiet_below (by kernel_rfl) (by kernel_rfl) ?_
    repeat (go_big_quiet_step (first|with_reducible exact K1.out _ _))
    refine wpQuiet_nil ?_;intro _ hw';obtain⟨⟨dq,oq⟩,hw''⟩:=hw';subst hw'';have Z:=Zs.grow Z dq oq;go_wp2;go_ret;exact⟨rfl,Z.out.low⟩
   ·have na:(BA.toList == [])=false:=zam (l:=[]) ha
    by_cases hb:BB=⟨#[]⟩
    ·subst hb;clear hq ha;go_wp2_with fail;refine wp_region_quiet_below (by kernel_rfl) (by kernel_rfl) ?_
     repeat (go_big_quiet_step (first|with_reducible exact K1.out _ _|with_reducible exact K2.out _ _))
     refine wpQuiet_nil ?_;intro _ hw';obtain⟨⟨dq,oq⟩,hw''⟩:=hw';subst hw'';have Z:=Zs.grow Z dq oq;go_wp2;go_ret;exact⟨rfl,Z.out.low⟩
    ·have nb:(BB.toList == [])=false:=zam (l:=[]) hb;have hq:=hq ha hb;clear ha hb;go_wp2_with fail;refine wp_region_quiet_below (by kernel_rfl) (by kernel_rfl) ?_
     repeat (go_big_quiet_step (first|with_reducible exact K1.out _ _|with_reducible exact K2.out _ _))
     refine wpQuiet_nil ?_;intro _ hw';obtain⟨⟨dq,oq⟩,hw''⟩:=hw';subst hw'';have Z:=Zs.grow Z dq oq;go_wp2;go_ret;exact⟨rfl,Z.out.low⟩
end Go.Proofs.YtcebmphappfjjaaGreatDoor
set_option maxHeartbeats 32000000
set_option maxRecDepth 100000
namespace Go.Proofs.YtcebmphappfjjaaGreatDoor
open Go.RowKit
theorem zxr {α:Type} {p:Nat->α->Prop}:∀n:Nat,(∀i,i<n->∃a,p i a)->∃l:List α,l.length=n/\∀i a,l[i]?=some a->p i a
 |0,_=>⟨[],rfl,λi a h=>by simp at h⟩
 |n+1,h=>by
  obtain⟨l,h1,h2⟩:=zxr n (λi hi=>h i (by omega));obtain⟨a,ha⟩:=h n (by omega);refine⟨l++[a],by simp[h1],λi b hb=>?_⟩;rcases Nat.lt_or_ge i n with hi|hi
  ·rw[List.getElem?_append_left (by omega)] at hb;exact h2 i b hb
  ·rw[List.getElem?_append_right (by omega)] at hb;have hl:=(List.getElem?_eq_some_iff.1 hb).1;simp at hl;obtain rfl:i=n:=by omega
   rw[h1,Nat.sub_self] at hb;simp at hb;rw[<-hb];exact ha
theorem zxZ {α β:Type} (f:α->Nat) (g:β->Nat):∀(l:List α) (m:List β),l.length=m.length->(∀(i:Nat) (a:α) (b:β),l[i]?=some a->m[i]?=some b->f a<=g b)->(l.map f).sum<=(m.map g).sum
 |[],m,h,_=>by simp
 |a::l,[],h,_=>by simp at h
 |a::l,b::m,h,hf=>by
  have h1:=hf 0 a b rfl rfl;have h2:=zxZ f g l m (by simpa using h) (λi x y hx hy=>hf (i+1) x y (by simpa using hx) (by simpa using hy));simp only[List.map_cons,List.sum_cons];omega
theorem zvw {H:Type}:∀l:List (DataW H),Rows.uptoBulkAll l=(l.map Rows.uptoBulk).sum
 |[]=>by simp[Rows.uptoBulkAll]
 |d::r=>by simp[Rows.uptoBulkAll,zvw r]
section
variable {H:Type} {enc:TypeId × Value->H} {W:World}
theorem zxJ {a:Addr} {n:Nat} {cs:List Value} (h:W.cells? 0 a n=some cs):cs.length=n/\∀j u,cs[j]?=some u->W.cell? (a.add j)=some u:=by
 obtain⟨_,h1,h2⟩:=World.cells?_some h;refine⟨h1,λj u hj=>?_⟩;have hl:j<cs.length:=(List.getElem?_eq_some_iff.1 hj).1;rw[h2 j (by omega)];exact hj
theorem zxv {t e:TypeId} {k n:Nat} {cs:List Value} {x:DataW H × List MemPlace} (ht:Tryz.prog.underlying t=some (.slice e)) (hc:Tryz.prog.cellsOf e=k) (hk:0<k) {α:Type} (row:α->Nat->D) (rows:List α->Nat->Nat->D) (hrows:∀l i a,l[i]?=some a->rows l i=row a) (bulk:α->Nat) (Q:α->Prop)
 (helem:∀cs x,DataW.trod enc Tryz.prog W 0 (λ_=>true) true n e cs=some x->∃a:α,(∀j u,cs[j]?=some u->Rd (Lt W.heap.size) W (row a j) u)/\bulk a<=Rows.uptoBulk x.1/\Q a)
 (h:DataW.trod enc Tryz.prog W 0 (λ_=>true) true (n+1) t cs=some x) :
 ∃A c,∃l:List α,cs=[.slice A l.length c]/\Rd (Lt W.heap.size) W (.sl k l.length (rows l)) (.slice A l.length c)/\(l.map bulk).sum+1<=Rows.uptoBulk x.1/\∀a∈l,Q a:=by
 rcases DataW.trod_slice ht h with ⟨rfl,rfl⟩|⟨a,len,cap,elems,rest,m,hm,rfl,rfl,_,hl,hcm,hel,hat,_,_⟩
 ·exact⟨none,0,[],rfl,Rd.sl_nil,by simp[Rows.uptoBulk],λa ha=>absurd ha (by simp)⟩
 ·obtain rfl:n=m:=by omega
  rw[hc] at hat
  have each:∀i,i<len->∃b:α,(∀j,j<k->∃u,W.cell? ((a.add (i*k)).add j)=some u/\Rd (Lt W.heap.size) W (row b j) u)/\(∀y,elems[i]?=some y->bulk b<=Rows.uptoBulk y.1)/\Q b:=λi hi=>by
   have h1:=hat i hi;have hi2:elems[i]?=some elems[i]:=List.getElem?_eq_getElem (by omega);rw[hi2] at h1;obtain⟨cs',h2,h3⟩:=Option.bind_eq_some_iff.1 h1;obtain⟨hl2,hce⟩:=zxJ h2;obtain⟨b,hb1,hb2,hb3⟩:=helem cs' _ h3;refine⟨b,λj hj=>?_,λy hy=>?_,hb3⟩
   ·have hu:cs'[j]?=some (cs'[j]'(by omega)):=List.getElem?_eq_getElem (by omega);exact⟨_,hce j _ hu,hb1 j _ hu⟩
   ·rw[hi2] at hy;rw[<-Option.some.inj hy];exact hb2
  obtain⟨l,hll,hlp⟩:=zxr len each;subst hll;refine⟨some a,cap,l,rfl,?_,?_,λb hb=>?_⟩
  ·refine Rd.sl_mk hl (by unfold maxLen at hcm;exact hcm) λhpos=>?_;have h0:l[0]?=some l[0]:=List.getElem?_eq_getElem hpos;obtain⟨u,hu,_⟩:=(hlp 0 _ h0).1 0 hk;have ha0:(a.add (0*k)).add 0=a:=by simp[Addr.add]
   rw[ha0] at hu
   have hsp:a.spot=none:=by
    unfold World.cell? at hu
    split at hu
    ·split at hu
     ·cases hu
     ·rename_i h;simpa using h
    ·cases hu
   obtain⟨ab,ao,asp⟩:=a;have hsp:asp=none:=hsp;subst hsp;refine⟨ab,ao,rfl,World.block_lt_of_cell? W _ hu,λi hi j hj=>?_⟩;have hi2:l[i]?=some l[i]:=List.getElem?_eq_getElem hi;obtain⟨u,hu,hd⟩:=(hlp i _ hi2).1 j hj;rw[Addr.add_lit,Addr.add_lit] at hu;exact⟨u,hu,by rw[hrows l i _ hi2];exact hd⟩
  ·have:=zxZ bulk (λy:DataW H × List MemPlace=>Rows.uptoBulk y.1) l elems (by omega) (λi b y hb hy=>(hlp i b hb).2.1 y hy);simp only[Rows.uptoBulk,zvw,List.map_map];have h2:(elems.map (Rows.uptoBulk ∘ λy=>y.1)).sum=(elems.map λy:DataW H × List MemPlace=>Rows.uptoBulk y.1).sum:=rfl;rw[h2];omega
  ·obtain⟨i,hi⟩:=List.mem_iff_getElem?.1 hb;exact(hlp i b hi).2.2
theorem zuW {n:Int} (h:(Lit.int .i64 n).wf=true):-9223372036854775808<=n/\n<=9223372036854775807:=by
 simp[Lit.wf,IntKind.min,IntKind.max,IntKind.signed,IntKind.bits] at h;omega
theorem zwi:∀l:List V,zcl l=(l.map V.bulk).sum
 |[]=>rfl
 |v::r=>by rw[zbK,zwi r];rfl
theorem zya:∀l:List V,(∀v∈l,v.Wf)->WfV l
 |[],_=>by rw[WfV];trivial
 |v::r,h=>by rw[WfV];exact⟨h v List.mem_cons_self,zya r (λv hv=>h v (List.mem_cons_of_mem _ hv))⟩
theorem zvm {l:List Value} {k:Nat} {v:Value} (h:(l.drop k).take 1=[v]):l[k]?=some v:=by
 have:=congrArg (λm=>m[0]?) h
 simpa [List.getElem?_take,List.getElem?_drop] using this
theorem zwx:∀(N fuel:Nat),fuel<=N->∀(cs:List Value) (x:DataW H × List MemPlace),DataW.trod enc Tryz.prog W 0 (λ_=>true) true fuel 22 cs=some x->
 ∃A c,∃l:List V,cs=[.slice A l.length c]/\Rd (Lt W.heap.size) W (vs l) (.slice A l.length c)/\zcl l+1<=Rows.uptoBulk x.1/\WfV l:=by
 intro N
 induction N with
 |zero=>
  intro fuel hf cs x h;obtain rfl:fuel=0:=by omega
  simp[DataW.trod] at h
 |succ N ih=>
  intro fuel hf cs x h;cases fuel with
  |zero=>simp[DataW.trod] at h
  |succ n=>
   obtain⟨A,c,l,h1,h2,h3,h4⟩:=zxv (k:=6) Tryz.underlying22 (by kernel_rfl) (by omega) V.row zgZ zeU V.bulk V.Wf (λcs x hx=>by
    obtain⟨xs,m,hm,rfl,hlen,hxs,hfl⟩:=DataW.trod_struct Tryz.underlying24 hx;have g0:DataW.trod enc Tryz.prog W 0 (λ_=>true) true m 3 ((cs.drop 0).take (Tryz.prog.cellsOf 3))=xs[0]?:=hfl 0 _ rfl;have g1:DataW.trod enc Tryz.prog W 0 (λ_=>true) true m 9 ((cs.drop 1).take (Tryz.prog.cellsOf 9))=xs[1]?:=hfl 1 _ rfl;have g2:DataW.trod enc Tryz.prog W 0 (λ_=>true) true m 3 ((cs.drop 2).take (Tryz.prog.cellsOf 3))=xs[2]?:=hfl 2 _ rfl;have g3:DataW.trod enc Tryz.prog W 0 (λ_=>true) true m 3 ((cs.drop 3).take (Tryz.prog.cellsOf 3))=xs[3]?:=hfl 3 _ rfl;have g4:DataW.trod enc Tryz.prog W 0 (λ_=>true) true m 9 ((cs.drop 4).take (Tryz.prog.cellsOf 9))=xs[4]?:=hfl 4 _ rfl;have g5:DataW.trod enc Tryz.prog W 0 (λ_=>true) true m 22 ((cs.drop 5).take (Tryz.prog.cellsOf 22))=xs[5]?:=hfl 5 _ rfl;have hs:xs.length=6:=hxs
    obtain⟨x0,x1,x2,x3,x4,x5,rfl⟩:∃x0 x1 x2 x3 x4 x5,xs=[x0,x1,x2,x3,x4,x5]:=by
     match xs,hs with
     |[x0,x1,x2,x3,x4,x5],_=>exact⟨_,_,_,_,_,_,rfl⟩
    have cc3:Tryz.prog.cellsOf 3=1:=by kernel_rfl
    have cc9:Tryz.prog.cellsOf 9=1:=by kernel_rfl
    have cc30:Tryz.prog.cellsOf 22=1:=by kernel_rfl
    obtain⟨kd,e0,f0,w0⟩:=DataW.trod_int Tryz.underlying3 g0;obtain⟨t,e1,f1,_⟩:=DataW.trod_string Tryz.underlying9 g1;obtain⟨n',e2,f2,w2⟩:=DataW.trod_int Tryz.underlying3 g2;obtain⟨m',e3,f3,w3⟩:=DataW.trod_int Tryz.underlying3 g3;obtain⟨s,e4,f4,_⟩:=DataW.trod_string Tryz.underlying9 g4;obtain⟨A',c',l',e5,r5,b5,wf5⟩:=ih m (by omega) _ _ g5;rw[cc3] at e0 e2 e3;rw[cc9] at e1 e4;rw[cc30] at e5;have hlen:cs.length=6:=hlen.trans (by kernel_rfl);refine⟨.mk kd t n' m' s l',λj u hj=>?_,?_,?_⟩
    ·refine zpU r5 j u ?_;rw[<-hj]
     match j with
     |0=>exact(zvm e0).symm
     |1=>exact(zvm e1).symm
     |2=>exact(zvm e2).symm
     |3=>exact(zvm e3).symm
     |4=>exact(zvm e4).symm
     |5=>exact(zvm e5).symm
     |j+6=>rw[List.getElem?_eq_none (by simp),List.getElem?_eq_none (by omega)]
    ·rw[zbv];subst f0 f1 f2 f3 f4;simp only[List.map_cons,List.map_nil,Rows.uptoBulk,Rows.uptoBulkAll];simp only[zai];omega
    ·rw[V.Wf];exact⟨zuW w0,zuW w2,zuW w3,wf5⟩) h
   exact⟨A,c,l,h1,h2,by rw[zwi];exact h3,zya l h4⟩
theorem zvi (fuel:Nat) (cs:List Value) (x:DataW H × List MemPlace) (hx:DataW.trod enc Tryz.prog W 0 (λ_=>true) true fuel 24 cs=some x) :
 ∃v:V,∃A c,cs=[.int .i64 v.kind,.string v.t,.int .i64 v.n,.int .i64 v.m,.string v.s,.slice A v.l.length c]/\Rd (Lt W.heap.size) W (vs v.l) (.slice A v.l.length c)/\v.bulk<=Rows.uptoBulk x.1/\v.Wf:=by
 obtain⟨xs,m,hm,rfl,hlen,hxs,hfl⟩:=DataW.trod_struct Tryz.underlying24 hx;have g0:DataW.trod enc Tryz.prog W 0 (λ_=>true) true m 3 ((cs.drop 0).take (Tryz.prog.cellsOf 3))=xs[0]?:=hfl 0 _ rfl;have g1:DataW.trod enc Tryz.prog W 0 (λ_=>true) true m 9 ((cs.drop 1).take (Tryz.prog.cellsOf 9))=xs[1]?:=hfl 1 _ rfl;have g2:DataW.trod enc Tryz.prog W 0 (λ_=>true) true m 3 ((cs.drop 2).take (Tryz.prog.cellsOf 3))=xs[2]?:=hfl 2 _ rfl;have g3:DataW.trod enc Tryz.prog W 0 (λ_=>true) true m 3 ((cs.drop 3).take (Tryz.prog.cellsOf 3))=xs[3]?:=hfl 3 _ rfl;have g4:DataW.trod enc Tryz.prog W 0 (λ_=>true) true m 9 ((cs.drop 4).take (Tryz.prog.cellsOf 9))=xs[4]?:=hfl 4 _ rfl;have g5:DataW.trod enc Tryz.prog W 0 (λ_=>true) true m 22 ((cs.drop 5).take (Tryz.prog.cellsOf 22))=xs[5]?:=hfl 5 _ rfl;have hs:xs.length=6:=hxs
 obtain⟨x0,x1,x2,x3,x4,x5,rfl⟩:∃x0 x1 x2 x3 x4 x5,xs=[x0,x1,x2,x3,x4,x5]:=by
  match xs,hs with
  |[x0,x1,x2,x3,x4,x5],_=>exact⟨_,_,_,_,_,_,rfl⟩
 have cc3:Tryz.prog.cellsOf 3=1:=by kernel_rfl
 have cc9:Tryz.prog.cellsOf 9=1:=by kernel_rfl
 have cc30:Tryz.prog.cellsOf 22=1:=by kernel_rfl
 obtain⟨kd,e0,f0,w0⟩:=DataW.trod_int Tryz.underlying3 g0;obtain⟨t,e1,f1,_⟩:=DataW.trod_string Tryz.underlying9 g1;obtain⟨n',e2,f2,w2⟩:=DataW.trod_int Tryz.underlying3 g2;obtain⟨m',e3,f3,w3⟩:=DataW.trod_int Tryz.underlying3 g3;obtain⟨s,e4,f4,_⟩:=DataW.trod_string Tryz.underlying9 g4;obtain⟨A',c',l',e5,r5,b5,wf5⟩:=zwx m m (Nat.le_refl _) _ _ g5;rw[cc3] at e0 e2 e3;rw[cc9] at e1 e4;rw[cc30] at e5;have hlen:cs.length=6:=hlen.trans (by kernel_rfl);refine⟨.mk kd t n' m' s l',A',c',?_,r5,?_,?_⟩
 ·apply List.ext_getElem?;intro j
  match j with
  |0=>exact zvm e0
  |1=>exact zvm e1
  |2=>exact zvm e2
  |3=>exact zvm e3
  |4=>exact zvm e4
  |5=>exact zvm e5
  |j+6=>rw[List.getElem?_eq_none (by omega),List.getElem?_eq_none (by simp)]
 ·rw[zbv];subst f0 f1 f2 f3 f4;simp only[List.map_cons,List.map_nil,Rows.uptoBulk,Rows.uptoBulkAll];simp only[zai];omega
 ·rw[V.Wf];exact⟨zuW w0,zuW w2,zuW w3,wf5⟩
end
end Go.Proofs.YtcebmphappfjjaaGreatDoor
