/- Conditions: those in each statement. -/
import Derived.Test.YtcebmphappfjjaaGreatDoorQ28
import Derived.Deep.RegionHeld3
import Derived.RegionDies
import Derived.Deep.RegionLaw
set_option maxHeartbeats 32000000
set_option maxRecDepth 100000
namespace Go.Proofs.YtcebmphappfjjaaGreatDoor
open Go.RowKit
section
variable (G:PG) (b k:Nat) (rec:NT->Ps->R Nd) (H:Recs G b k rec)
theorem zpS (st:Ps) (_hneed:16*(G.T.length-st.next)+0<k+1) (w:World) (h:PsAt G b w st) :
 Calls Tryz.prog 278 #[.pointer (some ⟨b,0,none⟩)] w (zaG G b QNd (zoc G.T G.en st) w):=by
 obtain⟨hbw,hlim,hlen,lw0,RR,hR,w0,hw0,sw0,Z⟩:=St.head h (zoc G.T G.en st);rw[hR];unfold zoc at hR;have HF:=zz hR;clear h hR;go_enter Tryz.func278,Tryz.ntmps278;go_wp2_with fail;clear hw0;refine Z.off ?_;intro w1 _ Z;go_wp2_with fail;refine Z.binding HF (λ_ _ h k=>⟨rfl,zaf h k⟩) ?_;intro w2 HF _ _ Z;go_wp2_with fail;refine Z.node ?_;intro w3 _ Z;obtain⟨⟨_,_,_,_,_⟩,_⟩:=Z.bx5;go_wp2;exact Z.fin0 HF rfl rfl rfl
theorem zop (st:Ps) (_hneed:16*(G.T.length-st.next)<k+5) (w:World) (h:PsAt G b w st) :
 Calls Tryz.prog 225 #[.pointer (some ⟨b,0,none⟩)] w (zaG G b QInt (zgt G.T G.en st) w):=by
 obtain⟨hbw,hlim,hlen,lw0,RR,hR,Z⟩:=St.head0 h (zgt G.T G.en st);rw[hR];unfold zgt at hR;have HF:=zz hR;clear h hR;go_enter Tryz.func225,Tryz.ntmps225;go_wp2_with fail;refine Z.acc (by simp) HF rfl ?_ ?_
 ·intro w1 HF _ _ Z;go_wp2;go_ret;exact zlZ HF.out.symm Z.own Z.ps
 ·intro w1 HF _ Z;go_wp2_with fail;refine Z.acc (by simp) HF rfl ?_ ?_
  ·intro w2 HF _ _ Z;go_wp2_with fail;refine Z.int HF (λ_ _ h k=>⟨rfl,zaf h k⟩) ?_;intro i3 w3 HF _ _ _ _ Z;have hwi:IntKind.i64.wrap (i3+1)=i3+1:=IntWalk.i64_in _ (by omega);go_wp2;go_ret;exact zlZ HF.out.symm Z.own Z.ps
  ·intro w2 HF _ Z;go_wp2;go_ret;exact zlZ HF.out.symm Z.own Z.ps
include H
theorem zfi (st:Ps) (hneed:16*(G.T.length-st.next)<k+5) (w:World) (h:PsAt G b w st) :
 Calls Tryz.prog 216 #[.pointer (some ⟨b,0,none⟩)] w (zaG G b (QNs 32768) (zfa G.T G.en rec k st) w):=by
 obtain⟨hbw,hlim,hlen,lw0,RR,hR,Z⟩:=St.head0 h (zfa G.T G.en rec k st);rw[hR];unfold zfa at hR;have HF:=zz hR;clear h hR;go_enter Tryz.func216,Tryz.ntmps216;go_wp2_with fail;refine Z.ex (by simp) HF (λ_ _ h k=>⟨rfl,zaf h k⟩) ?_;intro w1 HF _ _ Z;go_wp2_with fail;replace HF:=zgo HF;refine Z.lst H .field 0 HF (by omega) (by simp) trivial rfl rfl (λ_ _=>by kernel_rfl) (λ_ _ h k=>⟨rfl,zaf h k⟩) ?_;intro n2 t2 A2 c2 w2 HF _ _ _ _ Z;go_wp2;go_ret;exact zqm (lo:=w1.heap.size) HF.out.symm Z.own Z.ps (by omega) (by omega) Z.fx.1.1 rfl
theorem zdk (st:Ps) (hneed:16*(G.T.length-st.next)<k+5) (w:World) (h:PsAt G b w st) :
 Calls Tryz.prog 219 #[.pointer (some ⟨b,0,none⟩)] w (zaG G b (QNs 32768) (zbI G.T G.en rec k st) w):=by
 obtain⟨hbw,hlim,hlen,lw0,RR,hR,Z⟩:=St.head0 h (zbI G.T G.en rec k st);rw[hR];unfold zbI at hR;have HF:=zz hR;clear h hR;go_enter Tryz.func219,Tryz.ntmps219;go_wp2_with fail;refine Z.ex (by simp) HF (λ_ _ h k=>⟨rfl,zaf h k⟩) ?_;intro w1 HF _ _ Z;go_wp2_with fail;replace HF:=zgo HF;refine Z.lst H .expr 11 HF (by omega) (by simp) trivial rfl rfl (λ_ _=>by kernel_rfl) (λ_ _ h k=>⟨rfl,zaf h k⟩) ?_;intro n2 t2 A2 c2 w2 HF _ _ _ _ Z;go_wp2;go_ret;exact zqm (lo:=w1.heap.size) HF.out.symm Z.own Z.ps (by omega) (by omega) Z.fx.1.1 rfl
theorem zgP (st:Ps) (hneed:16*(G.T.length-st.next)<k+5) (w:World) (h:PsAt G b w st) :
 Calls Tryz.prog 224 #[.pointer (some ⟨b,0,none⟩)] w (zaG G b (QNs 32770) (zdv G.T G.en rec k st) w):=by
 obtain⟨hbw,hlim,hlen,lw0,RR,hR,Z⟩:=St.head0 h (zdv G.T G.en rec k st);rw[hR];unfold zdv at hR;have HF:=zz hR;clear h hR;go_enter Tryz.func224,Tryz.ntmps224;go_wp2_with fail;refine Z.ns (zfi G b k rec H _ (Z.nd0 (by omega)) _ Z.ps) (zbJ G.T G.en H.adv k _) HF (λ_ _ h k=>⟨rfl,zaf h k⟩) ?_;intro n1 t1 A1 c1 w1 HF _ _ _ _ Z;go_wp2_with fail;refine Z.ex (by simp) HF (λ_ _ h k=>⟨rfl,zaf h k⟩) ?_;intro w2 HF _ _ Z;go_wp2_with fail;refine Z.nt H .typ 0 HF (by omega) trivial rfl (λ_ _ h k=>⟨rfl,zaf h k⟩) ?_;intro n3 t3 A3 c3 w3 HF _ _ _ Z;go_wp2_with (at_builtin;refine Z.wp_app Z.fx.2.1 Z.fx.1 rfl rfl rfl rfl (by omega) (by omega) (by simp) (by omega) (by omega) (by omega) ?_);intro L4 A4 c4 w4 hL _ _ Z;rw[hL] at HF;clear hL;go_wp2_with fail;refine Z.ex (by simp) HF (λ_ _ h k=>⟨rfl,zaf h k⟩) ?_;intro w5 HF _ _ Z;go_wp2_with fail;refine Z.nt H .expr 11 HF (by omega) trivial rfl (λ_ _ h k=>⟨rfl,zaf h k⟩) ?_;intro n6 t6 A6 c6 w6 HF _ _ _ Z;go_wp2_with (at_builtin;refine Z.wp_app Z.fx.2 Z.fx.1 rfl rfl rfl rfl (by omega) (by omega) (by simp) (by omega) (by omega) (by omega) ?_);intro L7 A7 c7 w7 hL _ _ Z;rw[hL] at HF;clear hL;go_wp2;go_ret;exact zqm (lo:=w.heap.size) HF.out.symm Z.own Z.ps (by omega) (by omega) Z.fx.1 rfl
theorem zso (st:Ps) (hneed:16*(G.T.length-st.next)+0<k+1) (w:World) (h:PsAt G b w st) :
 Calls Tryz.prog 223 #[.pointer (some ⟨b,0,none⟩)] w (zaG G b QNd (typF G.T G.en rec k st) w):=by
 obtain⟨hbw,hlim,hlen,lw0,RR,hR,w0,hw0,sw0,Z⟩:=St.head h (typF G.T G.en rec k st);rw[hR];unfold typF at hR;have HF:=zz hR;clear h hR;go_enter Tryz.func223,Tryz.ntmps223;go_wp2_with fail;clear hw0;refine Z.off ?_;intro w1 _ Z;go_wp2_with fail;refine Z.acc (by simp) HF rfl ?_ ?_
 ·intro w2 HF _ _ Z;go_wp2_with fail;refine Z.nt H .typ 0 HF (by omega) trivial rfl (λ_ _ h k=>⟨rfl,zaf h k⟩) ?_;intro n3 t3 A3 c3 w3 HF _ _ _ Z;obtain⟨w4,hw,_,Z⟩:=Z.ndb n3 A3 c3;go_wp2_with fail;clear hw;refine Z.ex (by simp) HF (λ_ _ h k=>⟨rfl,zaf h k⟩) ?_;intro w5 HF _ _ Z;obtain⟨_,_,_,_,_⟩:=Cn.c5 Z.fx.1;go_wp2_with fail;obtain⟨w6,hw,_,Z⟩:=Z.lit1 Z.fx.2.1 (by omega) (by omega);rw[hw];clear hw;refine Z.node ?_;intro w7 _ Z;obtain⟨⟨_,_,_,_,_⟩,_⟩:=Z.bx5;go_wp2;exact Z.fin HF Z.fx.1 (by omega) rfl rfl rfl rfl
 ·intro w2 HF _ Z;go_wp2_with fail;refine Z.acc (by simp) HF rfl ?_ ?_
  ·intro w3 HF _ _ Z;go_wp2_with fail;refine Z.upper HF (λ_ _ h k=>⟨rfl,zaf h k⟩) ?_;intro w4 HF _ _ Z;go_wp2_with fail;refine Z.node ?_;intro w5 _ Z;obtain⟨⟨_,_,_,_,_⟩,_⟩:=Z.bx5;go_wp2;exact Z.fin0 HF rfl rfl rfl
  ·intro w3 HF _ Z;go_wp2_with fail;refine Z.acc (by simp) HF rfl ?_ ?_
   ·intro w4 HF _ _ Z;go_wp2_with fail;refine Z.ex (by simp) HF (λ_ _ h k=>⟨rfl,zaf h k⟩) ?_;intro w5 HF _ _ Z;go_wp2_with fail;refine Z.lst H .typ 0 HF (by omega) (by simp) trivial rfl rfl (λ_ _=>by kernel_rfl) (λ_ _ h k=>⟨rfl,zaf h k⟩) ?_;intro n6 t6 A6 c6 w6 HF _ _ _ _ Z;go_wp2_with fail;refine Z.ex (by simp) HF (λ_ _ h k=>⟨rfl,zaf h k⟩) ?_;intro w7 HF _ _ Z;go_wp2_with fail;refine Z.nt H .typ 0 HF (by omega) trivial rfl (λ_ _ h k=>⟨rfl,zaf h k⟩) ?_;intro n8 t8 A8 c8 w8 HF _ _ _ Z;go_wp2_with (at_builtin;refine Z.wp_app Z.fx.2.1 Z.fx.1 rfl rfl rfl rfl (by omega) (by omega) (λ_=>by omega) (by omega) (by omega) (by omega) ?_);intro L9 A9 c9 w9 hL _ _ Z;rw[hL] at HF;clear hL;go_wp2_with fail;refine Z.node ?_;intro w10 _ Z;obtain⟨⟨_,_,_,_,_⟩,_⟩:=Z.bx5;go_wp2;exact Z.fin HF (Ow.rk Z.fx) (by omega) rfl rfl rfl rfl
   ·intro w4 HF _ Z;go_wp2_with fail;refine Z.typename HF (λ_ _ h k=>⟨rfl,zaf h k⟩) ?_;intro w5 HF _ _ Z;go_wp2_with fail;refine Z.node ?_;intro w6 _ Z;obtain⟨⟨_,_,_,_,_⟩,_⟩:=Z.bx5;go_wp2;exact Z.fin0 HF rfl rfl rfl
theorem znH (st:Ps) (hneed:16*(G.T.length-st.next)+0<k+1) (w:World) (h:PsAt G b w st) :
 Calls Tryz.prog 220 #[.pointer (some ⟨b,0,none⟩)] w (zaG G b QNd (zlr G.T G.en rec st) w):=by
 obtain⟨hbw,hlim,hlen,lw0,RR,hR,w0,hw0,sw0,Z⟩:=St.head h (zlr G.T G.en rec st);rw[hR];unfold zlr at hR;have HF:=zz hR;clear h hR;go_enter Tryz.func220,Tryz.ntmps220;go_wp2_with fail;clear hw0;refine Z.off ?_;intro w1 _ Z;go_wp2_with fail;refine Z.lower HF (λ_ _ h k=>⟨rfl,zaf h k⟩) ?_;intro w2 HF _ _ Z;go_wp2_with fail;refine Z.ex (by simp) HF (λ_ _ h k=>⟨rfl,zaf h k⟩) ?_;intro w3 HF _ _ Z;go_wp2_with fail;refine Z.nt H .typ 0 HF (by omega) trivial rfl (λ_ _ h k=>⟨rfl,zaf h k⟩) ?_;intro n4 t4 A4 c4 w4 HF _ _ _ Z;go_wp2_with fail;obtain⟨w5,hw,_,Z⟩:=Z.lit1 Z.fx.1 (by omega) (by omega);rw[hw];clear hw;refine Z.node ?_;intro w6 _ Z;obtain⟨⟨_,_,_,_,_⟩,_⟩:=Z.bx5;go_wp2;exact Z.fin HF Z.fx.1 (by omega) rfl rfl rfl rfl
theorem zrP (st:Ps) (hneed:16*(G.T.length-st.next)+0<k+1) (w:World) (h:PsAt G b w st) :
 Calls Tryz.prog 218 #[.pointer (some ⟨b,0,none⟩)] w (zaG G b QNd (setF G.T G.en rec st) w):=by
 obtain⟨hbw,hlim,hlen,lw0,RR,hR,w0,hw0,sw0,Z⟩:=St.head h (setF G.T G.en rec st);rw[hR];unfold setF at hR;have HF:=zz hR;clear h hR;go_enter Tryz.func218,Tryz.ntmps218;go_wp2_with fail;clear hw0;refine Z.off ?_;intro w1 _ Z;go_wp2_with fail;refine Z.lower HF (λ_ _ h k=>⟨rfl,zaf h k⟩) ?_;intro w2 HF _ _ Z;go_wp2_with fail;refine Z.ex (by simp) HF (λ_ _ h k=>⟨rfl,zaf h k⟩) ?_;intro w3 HF _ _ Z;go_wp2_with fail;refine Z.nt H .expr 11 HF (by omega) trivial rfl (λ_ _ h k=>⟨rfl,zaf h k⟩) ?_;intro n4 t4 A4 c4 w4 HF _ _ _ Z;go_wp2_with fail;obtain⟨w5,hw,_,Z⟩:=Z.lit1 Z.fx.1 (by omega) (by omega);rw[hw];clear hw;refine Z.node ?_;intro w6 _ Z;obtain⟨⟨_,_,_,_,_⟩,_⟩:=Z.bx5;go_wp2;exact Z.fin HF Z.fx.1 (by omega) rfl rfl rfl rfl
theorem zqS (st:Ps) (hneed:16*(G.T.length-st.next)+0<k+1) (w:World) (h:PsAt G b w st) :
 Calls Tryz.prog 222 #[.pointer (some ⟨b,0,none⟩)] w (zaG G b QNd (zrj G.T G.en rec k st) w):=by
 obtain⟨hbw,hlim,hlen,lw0,RR,hR,w0,hw0,sw0,Z⟩:=St.head h (zrj G.T G.en rec k st);rw[hR];unfold zrj at hR;have HF:=zz hR;clear h hR;go_enter Tryz.func222,Tryz.ntmps222;go_wp2_with fail;clear hw0;refine Z.off ?_;intro w1 _ Z;go_wp2_with fail;refine Z.upper HF (λ_ _ h k=>⟨rfl,zaf h k⟩) ?_;intro w2 HF _ _ Z;go_wp2_with fail;refine Z.acc (by simp) HF rfl ?_ ?_
 ·intro w3 HF _ _ Z;go_wp2_with fail;refine Z.its H .typ 0 HF (by omega) (by simp) trivial rfl rfl (λ_ _=>by kernel_rfl) (λ_ _ h k=>⟨rfl,zaf h k⟩) ?_;intro n4 t4 A4 c4 w4 HF _ _ _ _ Z;go_wp2_with fail;refine Z.node ?_;intro w5 _ Z;obtain⟨⟨_,_,_,_,_⟩,_⟩:=Z.bx5;go_wp2;exact Z.fin HF (Ow.rk Z.fx.1) (by omega) rfl rfl rfl rfl
 ·intro w3 HF _ Z;go_wp2_with fail;refine Z.node ?_;intro w4 _ Z;obtain⟨⟨_,_,_,_,_⟩,_⟩:=Z.bx5;go_wp2;exact Z.fin0 HF rfl rfl rfl
theorem zhW (kd:Int) (st:Ps) (hneed:16*(G.T.length-st.next)+0<k+5) (w:World) (h:PsAt G b w st) :
 Calls Tryz.prog 268 #[.pointer (some ⟨b,0,none⟩),.int .i64 kd] w (zaG G b (QPat kd (zaC G.T G.en st)) (zel G.T G.en rec k st) w):=by
 obtain⟨hbw,hlim,hlen,lw0,RR,hR,w0,hw0,sw0,Z⟩:=St.head h (zel G.T G.en rec k st);rw[hR];unfold zel at hR;have HF:=zz hR;clear h hR;go_enter Tryz.func268,Tryz.ntmps268;go_wp2_with fail;clear hw0;refine Z.off ?_;intro w1 _ Z;go_wp2_with fail;refine Z.node ?_;intro w2 _ Z;go_wp2_with fail;obtain⟨w3,hw,_,Z⟩:=Z.cnb (.int .i64 kd) (.string ⟨#[]⟩) (.int .i64 0) (.int .i64 (zaC G.T G.en st)) (.slice none 0 0);rw[hw];clear hw;refine Z.pattern HF (λ_ _ h k=>⟨rfl,zaf h k⟩) ?_;intro w4 HF _ _ Z;obtain⟨_,_,_,_,_⟩:=Cn.c5 Z.fx.1;obtain⟨_,w5,hw5,_,Z⟩:=Z.set1 (by omega) (.string (zao G.T st))
 by_cases hu:zao G.T st=(⟨#[95]⟩:ByteArray)
 ·have eu:=zdY hu;replace HF:=hneg HF (λh=>h.1 hu);clear hu;obtain⟨_,_,_,_,_⟩:=Cn.c5 Z.fx.1;obtain⟨⟨_,_,_,_,_⟩,_⟩:=Z.bx5;go_wp2;exact Z.finp HF sw0 (by simp) (zaz.nil _ _ _ _ _) rfl rfl rfl rfl
 ·have eu:=zam hu;obtain⟨_,_,_,_,_⟩:=Cn.c5 Z.fx.1;go_wp2_with fail;clear hw5
  by_cases hp:zao G.T st.adv=(⟨#[40]⟩:ByteArray)
  ·replace HF:=hpos HF ⟨hu,hp⟩;refine Z.yes (by simp) hp ?_;intro w6 _ _ Z;clear hp;go_wp2_with fail;refine Z.its H .bind 0 HF (by omega) (by simp) trivial rfl rfl (λ_ _=>by kernel_rfl) (λ_ _ h k=>⟨rfl,zaf h k⟩) ?_;intro n7 t7 A7 c7 w7 HF _ _ _ _ Z;obtain⟨_,_,_,_,_⟩:=Cn.c5 Z.fx.2.1;obtain⟨_,w8,hw8,_,Z⟩:=Z.set4 (by omega) (by omega) (.slice A7 n7.length c7);obtain⟨_,_,_,_,_⟩:=Cn.c5 Z.fx.2.1;obtain⟨⟨_,_,_,_,_⟩,_⟩:=Z.bx5;go_wp2;exact Z.finp HF (by omega) (by omega) Z.fx.1.1 rfl rfl rfl rfl
  ·replace HF:=hneg HF (λh=>hp h.2);refine Z.q (zeQ G b _ _ _ Z.ps hp) ?_;intro w6 _ Z;clear hp;obtain⟨_,_,_,_,_⟩:=Cn.c5 Z.fx.1;obtain⟨⟨_,_,_,_,_⟩,_⟩:=Z.bx5;go_wp2;exact Z.finp HF sw0 (by simp) (zaz.nil _ _ _ _ _) rfl rfl rfl rfl
theorem zkK (st:Ps) (hneed:16*(G.T.length-st.next)+12<k+1) (w:World) (h:PsAt G b w st) :
 Calls Tryz.prog 255 #[.pointer (some ⟨b,0,none⟩)] w (zaG G b QNd (zgf rec st) w):=by
 obtain⟨hbw,hlim,hlen,lw0,RR,hR,w0,hw0,sw0,Z⟩:=St.head h (zgf rec st);rw[hR];unfold zgf at hR;have HF:=zz hR;clear h hR;obtain⟨_,_,w1,hw1,_,Z⟩:=Z.hd3 true;go_enter Tryz.func255,Tryz.ntmps255;go_wp2_with fail;clear hw0 hw1;refine Z.nt H .expr 11 HF (by omega) trivial rfl (λ_ _ h k=>⟨rfl,zaf h k⟩) ?_;intro n2 t2 A2 c2 w2 HF _ _ _ Z;obtain⟨w3,hw,_,Z⟩:=Z.ndb n2 A2 c2;obtain⟨_,_,w4,hw4,_,Z⟩:=Z.hd3 st.head;obtain⟨_,_,_,_,_⟩:=Cn.c5 Z.fx.1;obtain⟨⟨_,_,_,_,_⟩,_⟩:=Z.bx5;go_wp2;exact Z.finx HF Z.fx.2.1 (by omega) rfl rfl rfl
theorem zoE (at':Int) (st:Ps) (hneed:16*(G.T.length-st.next)+12<k+1) (w:World) (h:PsAt G b w st) :
 Calls Tryz.prog 281 #[.pointer (some ⟨b,0,none⟩),.int .i64 at'] w (zaG G b QNd (ziS G.T G.en rec at' st) w):=by
 obtain⟨hbw,hlim,hlen,lw0,RR,hR,w0,hw0,sw0,Z⟩:=St.head h (ziS G.T G.en rec at' st);rw[hR];unfold ziS at hR;have HF:=zz hR;clear h hR;go_enter Tryz.func281,Tryz.ntmps281;go_wp2_with fail;clear hw0;refine Z.acc (by simp) HF rfl ?_ ?_
 ·intro w1 HF _ _ Z;go_wp2_with fail;refine Z.node ?_;intro w2 _ Z;obtain⟨⟨_,_,_,_,_⟩,_⟩:=Z.bx5;go_wp2;exact Z.fin0 HF rfl rfl rfl
 ·intro w1 HF _ Z;obtain⟨_,_,w2,hw2,_,Z⟩:=Z.hd3 false;go_wp2_with fail;clear hw2;refine Z.nt H .expr 11 HF (by omega) trivial rfl (λ_ _ h k=>⟨rfl,zaf h k⟩) ?_;intro n3 t3 A3 c3 w3 HF _ _ _ Z;obtain⟨w4,hw,_,Z⟩:=Z.ndb n3 A3 c3;go_wp2_with fail;clear hw;refine Z.ex (by simp) HF (λ_ _ h k=>⟨rfl,zaf h k⟩) ?_;intro w5 HF _ _ Z;obtain⟨_,_,w6,hw6,_,Z⟩:=Z.hd3 st.head;obtain⟨_,_,_,_,_⟩:=Cn.c5 Z.fx.1;obtain⟨⟨_,_,_,_,_⟩,_⟩:=Z.bx5;go_wp2;exact Z.finx HF Z.fx.2.1 (by omega) rfl rfl rfl
end
end Go.Proofs.YtcebmphappfjjaaGreatDoor
