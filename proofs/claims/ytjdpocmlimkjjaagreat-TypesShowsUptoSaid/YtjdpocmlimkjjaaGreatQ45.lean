/- Conditions: those in each statement. -/
import Derived.Test.YtjdpocmlimkjjaaGreatQ44
import Derived.Deep.RegionHeld3
import Derived.RegionDies
import Derived.Deep.RegionLaw
set_option maxHeartbeats 32000000
set_option maxRecDepth 100000
namespace Go.Proofs.YtjdpocmlimkjjaaGreat
open Go.RowKit
section
variable (G:PG) (b k:Nat) (rec:NT→Ps→R Nd) (H:Recs G b k rec)
theorem znZ (st:Ps) (_hneed:16*(G.T.length-st.next)+0<k+1) (w:World) (h:PsAt G b w st) :
 Calls Tryz.prog 158 #[.pointer (some ⟨b,0,none⟩)] w (zaS G b QNd (ziW G.T G.en st) w):=by
 obtain⟨hbw,hlim,hlen,lw0,RR,hR,w0,hw0,sw0,Z⟩:=St.head h (ziW G.T G.en st);rw[hR];unfold ziW at hR;have HF:=zz hR;clear h hR;go_enter Tryz.func158,Tryz.ntmps158;go_wp2_with fail;clear hw0;refine Z.off ?_;intro w1 _ Z;go_wp2_with fail;refine Z.binding HF (λ_ _ h k=>⟨rfl,zaf h k⟩) ?_;intro w2 HF _ _ Z;go_wp2_with fail;refine Z.node ?_;intro w3 _ Z;obtain⟨⟨_,_,_,_,_⟩,_⟩:=Z.bx5;go_wp2_with fail;exact Z.fin0 HF rfl rfl rfl
theorem znT (st:Ps) (_hneed:16*(G.T.length-st.next)<k+5) (w:World) (h:PsAt G b w st) :
 Calls Tryz.prog 121 #[.pointer (some ⟨b,0,none⟩)] w (zaS G b QInt (zgl G.T G.en st) w):=by
 obtain⟨hbw,hlim,hlen,lw0,RR,hR,Z⟩:=St.head0 h (zgl G.T G.en st);rw[hR];unfold zgl at hR;have HF:=zz hR;clear h hR;go_enter Tryz.func121,Tryz.ntmps121;go_wp2_with fail;refine Z.acc (by simp) HF rfl ?_ ?_
 ·intro w1 HF _ _ Z;go_wp2_with fail;go_ret;exact zmc HF.out.symm Z.own Z.ps
 ·intro w1 HF _ Z;go_wp2_with fail;refine Z.acc (by simp) HF rfl ?_ ?_
  ·intro w2 HF _ _ Z;go_wp2_with fail;refine Z.int HF (λ_ _ h k=>⟨rfl,zaf h k⟩) ?_;intro i3 w3 HF _ _ _ _ Z;have hwi:IntKind.i64.wrap (i3+1)=i3+1:=IntWalk.i64_in _ (by omega);go_wp2_with fail;go_ret;exact zmc HF.out.symm Z.own Z.ps
  ·intro w2 HF _ Z;go_wp2_with fail;go_ret;exact zmc HF.out.symm Z.own Z.ps
include H
theorem zfO (st:Ps) (hneed:16*(G.T.length-st.next)<k+5) (w:World) (h:PsAt G b w st) :
 Calls Tryz.prog 112 #[.pointer (some ⟨b,0,none⟩)] w (zaS G b (QNs 32768) (zem G.T G.en rec k st) w):=by
 obtain⟨hbw,hlim,hlen,lw0,RR,hR,Z⟩:=St.head0 h (zem G.T G.en rec k st);rw[hR];unfold zem at hR;have HF:=zz hR;clear h hR;go_enter Tryz.func112,Tryz.ntmps112;go_wp2_with fail;refine Z.ex (by simp) HF (λ_ _ h k=>⟨rfl,zaf h k⟩) ?_;intro w1 HF _ _ Z;go_wp2_with fail;replace HF:=zgT HF;refine Z.lst H .field 0 HF (by omega) (by simp) trivial rfl rfl (λ_ _=>by kernel_rfl) (λ_ _ h k=>⟨rfl,zaf h k⟩) ?_;intro n2 t2 A2 c2 w2 HF _ _ _ _ Z;go_wp2_with fail;go_ret;exact zpF (lo:=w1.heap.size) HF.out.symm Z.own Z.ps (by omega) (by omega) Z.fx.1.1 rfl
theorem zdN (st:Ps) (hneed:16*(G.T.length-st.next)<k+5) (w:World) (h:PsAt G b w st) :
 Calls Tryz.prog 115 #[.pointer (some ⟨b,0,none⟩)] w (zaS G b (QNs 32768) (zbB G.T G.en rec k st) w):=by
 obtain⟨hbw,hlim,hlen,lw0,RR,hR,Z⟩:=St.head0 h (zbB G.T G.en rec k st);rw[hR];unfold zbB at hR;have HF:=zz hR;clear h hR;go_enter Tryz.func115,Tryz.ntmps115;go_wp2_with fail;refine Z.ex (by simp) HF (λ_ _ h k=>⟨rfl,zaf h k⟩) ?_;intro w1 HF _ _ Z;go_wp2_with fail;replace HF:=zgT HF;refine Z.lst H .expr 11 HF (by omega) (by simp) trivial rfl rfl (λ_ _=>by kernel_rfl) (λ_ _ h k=>⟨rfl,zaf h k⟩) ?_;intro n2 t2 A2 c2 w2 HF _ _ _ _ Z;go_wp2_with fail;go_ret;exact zpF (lo:=w1.heap.size) HF.out.symm Z.own Z.ps (by omega) (by omega) Z.fx.1.1 rfl
theorem zhu (st:Ps) (hneed:16*(G.T.length-st.next)<k+5) (w:World) (h:PsAt G b w st) :
 Calls Tryz.prog 120 #[.pointer (some ⟨b,0,none⟩)] w (zaS G b (QNs 32770) (zcp G.T G.en rec k st) w):=by
 obtain⟨hbw,hlim,hlen,lw0,RR,hR,Z⟩:=St.head0 h (zcp G.T G.en rec k st);rw[hR];unfold zcp at hR;have HF:=zz hR;clear h hR;go_enter Tryz.func120,Tryz.ntmps120;go_wp2_with fail;refine Z.ns (zfO G b k rec H _ (Z.nd0 (by omega)) _ Z.ps) (zbY G.T G.en H.adv k _) HF (λ_ _ h k=>⟨rfl,zaf h k⟩) ?_;intro n1 t1 A1 c1 w1 HF _ _ _ _ Z;go_wp2_with fail;refine Z.ex (by simp) HF (λ_ _ h k=>⟨rfl,zaf h k⟩) ?_;intro w2 HF _ _ Z;go_wp2_with fail;refine Z.nt H .typ 0 HF (by omega) trivial rfl (λ_ _ h k=>⟨rfl,zaf h k⟩) ?_;intro n3 t3 A3 c3 w3 HF _ _ _ Z;go_wp2_with (at_builtin;refine Z.wp_app Z.fx.2.1 Z.fx.1 rfl rfl rfl rfl (by omega) (by omega) (by simp) (by omega) (by omega) (by omega) ?_);intro L4 A4 c4 w4 hL _ _ Z;rw[hL] at HF;clear hL;go_wp2_with fail;refine Z.ex (by simp) HF (λ_ _ h k=>⟨rfl,zaf h k⟩) ?_;intro w5 HF _ _ Z;go_wp2_with fail;refine Z.nt H .expr 11 HF (by omega) trivial rfl (λ_ _ h k=>⟨rfl,zaf h k⟩) ?_;intro n6 t6 A6 c6 w6 HF _ _ _ Z;go_wp2_with (at_builtin;refine Z.wp_app Z.fx.2 Z.fx.1 rfl rfl rfl rfl (by omega) (by omega) (by simp) (by omega) (by omega) (by omega) ?_);intro L7 A7 c7 w7 hL _ _ Z;rw[hL] at HF;clear hL;go_wp2_with fail;go_ret;exact zpF (lo:=w.heap.size) HF.out.symm Z.own Z.ps (by omega) (by omega) Z.fx.1 rfl
theorem zqt (st:Ps) (hneed:16*(G.T.length-st.next)+0<k+1) (w:World) (h:PsAt G b w st) :
 Calls Tryz.prog 119 #[.pointer (some ⟨b,0,none⟩)] w (zaS G b QNd (typF G.T G.en rec k st) w):=by
 obtain⟨hbw,hlim,hlen,lw0,RR,hR,w0,hw0,sw0,Z⟩:=St.head h (typF G.T G.en rec k st);rw[hR];unfold typF at hR;have HF:=zz hR;clear h hR;go_enter Tryz.func119,Tryz.ntmps119;go_wp2_with fail;clear hw0;refine Z.off ?_;intro w1 _ Z;go_wp2_with fail;refine Z.acc (by simp) HF rfl ?_ ?_
 ·intro w2 HF _ _ Z;go_wp2_with fail;refine Z.nt H .typ 0 HF (by omega) trivial rfl (λ_ _ h k=>⟨rfl,zaf h k⟩) ?_;intro n3 t3 A3 c3 w3 HF _ _ _ Z;obtain⟨w4,hw,_,Z⟩:=Z.ndb n3 A3 c3;go_wp2_with fail;clear hw;refine Z.ex (by simp) HF (λ_ _ h k=>⟨rfl,zaf h k⟩) ?_;intro w5 HF _ _ Z;obtain⟨_,_,_,_,_⟩:=Cn.c5 Z.fx.1;go_wp2_with fail;obtain⟨w6,hw,_,Z⟩:=Z.lit1 Z.fx.2.1 (by omega) (by omega);rw[hw];clear hw;refine Z.node ?_;intro w7 _ Z;obtain⟨⟨_,_,_,_,_⟩,_⟩:=Z.bx5;go_wp2_with fail;exact Z.fin HF Z.fx.1 (by omega) rfl rfl rfl rfl
 ·intro w2 HF _ Z;go_wp2_with fail;refine Z.acc (by simp) HF rfl ?_ ?_
  ·intro w3 HF _ _ Z;go_wp2_with fail;refine Z.upper HF (λ_ _ h k=>⟨rfl,zaf h k⟩) ?_;intro w4 HF _ _ Z;go_wp2_with fail;refine Z.node ?_;intro w5 _ Z;obtain⟨⟨_,_,_,_,_⟩,_⟩:=Z.bx5;go_wp2_with fail;exact Z.fin0 HF rfl rfl rfl
  ·intro w3 HF _ Z;go_wp2_with fail;refine Z.acc (by simp) HF rfl ?_ ?_
   ·intro w4 HF _ _ Z;go_wp2_with fail;refine Z.ex (by simp) HF (λ_ _ h k=>⟨rfl,zaf h k⟩) ?_;intro w5 HF _ _ Z;go_wp2_with fail;refine Z.lst H .typ 0 HF (by omega) (by simp) trivial rfl rfl (λ_ _=>by kernel_rfl) (λ_ _ h k=>⟨rfl,zaf h k⟩) ?_;intro n6 t6 A6 c6 w6 HF _ _ _ _ Z;go_wp2_with fail;refine Z.ex (by simp) HF (λ_ _ h k=>⟨rfl,zaf h k⟩) ?_;intro w7 HF _ _ Z;go_wp2_with fail;refine Z.nt H .typ 0 HF (by omega) trivial rfl (λ_ _ h k=>⟨rfl,zaf h k⟩) ?_;intro n8 t8 A8 c8 w8 HF _ _ _ Z;go_wp2_with (at_builtin;refine Z.wp_app Z.fx.2.1 Z.fx.1 rfl rfl rfl rfl (by omega) (by omega) (λ_=>by omega) (by omega) (by omega) (by omega) ?_);intro L9 A9 c9 w9 hL _ _ Z;rw[hL] at HF;clear hL;go_wp2_with fail;refine Z.node ?_;intro w10 _ Z;obtain⟨⟨_,_,_,_,_⟩,_⟩:=Z.bx5;go_wp2_with fail;exact Z.fin HF (Ow.rk Z.fx) (by omega) rfl rfl rfl rfl
   ·intro w4 HF _ Z;go_wp2_with fail;refine Z.typename HF (λ_ _ h k=>⟨rfl,zaf h k⟩) ?_;intro w5 HF _ _ Z;go_wp2_with fail;refine Z.node ?_;intro w6 _ Z;obtain⟨⟨_,_,_,_,_⟩,_⟩:=Z.bx5;go_wp2_with fail;exact Z.fin0 HF rfl rfl rfl
theorem znj (st:Ps) (hneed:16*(G.T.length-st.next)+0<k+1) (w:World) (h:PsAt G b w st) :
 Calls Tryz.prog 116 #[.pointer (some ⟨b,0,none⟩)] w (zaS G b QNd (ziN G.T G.en rec st) w):=by
 obtain⟨hbw,hlim,hlen,lw0,RR,hR,w0,hw0,sw0,Z⟩:=St.head h (ziN G.T G.en rec st);rw[hR];unfold ziN at hR;have HF:=zz hR;clear h hR;go_enter Tryz.func116,Tryz.ntmps116;go_wp2_with fail;clear hw0;refine Z.off ?_;intro w1 _ Z;go_wp2_with fail;refine Z.lower HF (λ_ _ h k=>⟨rfl,zaf h k⟩) ?_;intro w2 HF _ _ Z;go_wp2_with fail;refine Z.ex (by simp) HF (λ_ _ h k=>⟨rfl,zaf h k⟩) ?_;intro w3 HF _ _ Z;go_wp2_with fail;refine Z.nt H .typ 0 HF (by omega) trivial rfl (λ_ _ h k=>⟨rfl,zaf h k⟩) ?_;intro n4 t4 A4 c4 w4 HF _ _ _ Z;go_wp2_with fail;obtain⟨w5,hw,_,Z⟩:=Z.lit1 Z.fx.1 (by omega) (by omega);rw[hw];clear hw;refine Z.node ?_;intro w6 _ Z;obtain⟨⟨_,_,_,_,_⟩,_⟩:=Z.bx5;go_wp2_with fail;exact Z.fin HF Z.fx.1 (by omega) rfl rfl rfl rfl
theorem zqb (st:Ps) (hneed:16*(G.T.length-st.next)+0<k+1) (w:World) (h:PsAt G b w st) :
 Calls Tryz.prog 114 #[.pointer (some ⟨b,0,none⟩)] w (zaS G b QNd (setF G.T G.en rec st) w):=by
 obtain⟨hbw,hlim,hlen,lw0,RR,hR,w0,hw0,sw0,Z⟩:=St.head h (setF G.T G.en rec st);rw[hR];unfold setF at hR;have HF:=zz hR;clear h hR;go_enter Tryz.func114,Tryz.ntmps114;go_wp2_with fail;clear hw0;refine Z.off ?_;intro w1 _ Z;go_wp2_with fail;refine Z.lower HF (λ_ _ h k=>⟨rfl,zaf h k⟩) ?_;intro w2 HF _ _ Z;go_wp2_with fail;refine Z.ex (by simp) HF (λ_ _ h k=>⟨rfl,zaf h k⟩) ?_;intro w3 HF _ _ Z;go_wp2_with fail;refine Z.nt H .expr 11 HF (by omega) trivial rfl (λ_ _ h k=>⟨rfl,zaf h k⟩) ?_;intro n4 t4 A4 c4 w4 HF _ _ _ Z;go_wp2_with fail;obtain⟨w5,hw,_,Z⟩:=Z.lit1 Z.fx.1 (by omega) (by omega);rw[hw];clear hw;refine Z.node ?_;intro w6 _ Z;obtain⟨⟨_,_,_,_,_⟩,_⟩:=Z.bx5;go_wp2_with fail;exact Z.fin HF Z.fx.1 (by omega) rfl rfl rfl rfl
theorem zox (st:Ps) (hneed:16*(G.T.length-st.next)+0<k+1) (w:World) (h:PsAt G b w st) :
 Calls Tryz.prog 118 #[.pointer (some ⟨b,0,none⟩)] w (zaS G b QNd (zlA G.T G.en rec k st) w):=by
 obtain⟨hbw,hlim,hlen,lw0,RR,hR,w0,hw0,sw0,Z⟩:=St.head h (zlA G.T G.en rec k st);rw[hR];unfold zlA at hR;have HF:=zz hR;clear h hR;go_enter Tryz.func118,Tryz.ntmps118;go_wp2_with fail;clear hw0;refine Z.off ?_;intro w1 _ Z;go_wp2_with fail;refine Z.upper HF (λ_ _ h k=>⟨rfl,zaf h k⟩) ?_;intro w2 HF _ _ Z;go_wp2_with fail;refine Z.acc (by simp) HF rfl ?_ ?_
 ·intro w3 HF _ _ Z;go_wp2_with fail;refine Z.its H .typ 0 HF (by omega) (by simp) trivial rfl rfl (λ_ _=>by kernel_rfl) (λ_ _ h k=>⟨rfl,zaf h k⟩) ?_;intro n4 t4 A4 c4 w4 HF _ _ _ _ Z;go_wp2_with fail;refine Z.node ?_;intro w5 _ Z;obtain⟨⟨_,_,_,_,_⟩,_⟩:=Z.bx5;go_wp2_with fail;exact Z.fin HF (Ow.rk Z.fx.1) (by omega) rfl rfl rfl rfl
 ·intro w3 HF _ Z;go_wp2_with fail;refine Z.node ?_;intro w4 _ Z;obtain⟨⟨_,_,_,_,_⟩,_⟩:=Z.bx5;go_wp2_with fail;exact Z.fin0 HF rfl rfl rfl
theorem zhY (kd:Int) (st:Ps) (hneed:16*(G.T.length-st.next)+0<k+5) (w:World) (h:PsAt G b w st) :
 Calls Tryz.prog 150 #[.pointer (some ⟨b,0,none⟩),.int .i64 kd] w (zaS G b (QPat kd (zaN G.T G.en st)) (zcU G.T G.en rec k st) w):=by
 obtain⟨hbw,hlim,hlen,lw0,RR,hR,w0,hw0,sw0,Z⟩:=St.head h (zcU G.T G.en rec k st);rw[hR];unfold zcU at hR;have HF:=zz hR;clear h hR;go_enter Tryz.func150,Tryz.ntmps150;go_wp2_with fail;clear hw0;refine Z.off ?_;intro w1 _ Z;go_wp2_with fail;refine Z.node ?_;intro w2 _ Z;go_wp2_with fail;obtain⟨w3,hw,_,Z⟩:=Z.cnb (.int .i64 kd) (.string ⟨#[]⟩) (.int .i64 0) (.int .i64 (zaN G.T G.en st)) (.slice none 0 0);rw[hw];clear hw;refine Z.pattern HF (λ_ _ h k=>⟨rfl,zaf h k⟩) ?_;intro w4 HF _ _ Z;obtain⟨_,_,_,_,_⟩:=Cn.c5 Z.fx.1;obtain⟨_,w5,hw5,_,Z⟩:=Z.set1 (by omega) (.string (zao G.T st))
 by_cases hu:zao G.T st=(⟨#[95]⟩:ByteArray)
 ·have eu:=zex hu;replace HF:=hneg HF (λh=>h.1 hu);clear hu;obtain⟨_,_,_,_,_⟩:=Cn.c5 Z.fx.1;obtain⟨⟨_,_,_,_,_⟩,_⟩:=Z.bx5;go_wp2_with fail;exact Z.finp HF sw0 (by simp) (zaK.nil _ _ _ _ _) rfl rfl rfl rfl
 ·have eu:=zam hu;obtain⟨_,_,_,_,_⟩:=Cn.c5 Z.fx.1;go_wp2_with fail;clear hw5
  by_cases hp:zao G.T st.adv=(⟨#[40]⟩:ByteArray)
  ·replace HF:=hpos HF ⟨hu,hp⟩;refine Z.yes (by simp) hp ?_;intro w6 _ _ Z;clear hp;go_wp2_with fail;refine Z.its H .bind 0 HF (by omega) (by simp) trivial rfl rfl (λ_ _=>by kernel_rfl) (λ_ _ h k=>⟨rfl,zaf h k⟩) ?_;intro n7 t7 A7 c7 w7 HF _ _ _ _ Z;obtain⟨_,_,_,_,_⟩:=Cn.c5 Z.fx.2.1;obtain⟨_,w8,hw8,_,Z⟩:=Z.set4 (by omega) (by omega) (.slice A7 n7.length c7);obtain⟨_,_,_,_,_⟩:=Cn.c5 Z.fx.2.1;obtain⟨⟨_,_,_,_,_⟩,_⟩:=Z.bx5;go_wp2_with fail;exact Z.finp HF (by omega) (by omega) Z.fx.1.1 rfl rfl rfl rfl
  ·replace HF:=hneg HF (λh=>hp h.2);refine Z.q (zfA G b _ _ _ Z.ps hp) ?_;intro w6 _ Z;clear hp;obtain⟨_,_,_,_,_⟩:=Cn.c5 Z.fx.1;obtain⟨⟨_,_,_,_,_⟩,_⟩:=Z.bx5;go_wp2_with fail;exact Z.finp HF sw0 (by simp) (zaK.nil _ _ _ _ _) rfl rfl rfl rfl
theorem zkj (st:Ps) (hneed:16*(G.T.length-st.next)+12<k+1) (w:World) (h:PsAt G b w st) :
 Calls Tryz.prog 142 #[.pointer (some ⟨b,0,none⟩)] w (zaS G b QNd (zeY rec st) w):=by
 obtain⟨hbw,hlim,hlen,lw0,RR,hR,w0,hw0,sw0,Z⟩:=St.head h (zeY rec st);rw[hR];unfold zeY at hR;have HF:=zz hR;clear h hR;obtain⟨_,_,w1,hw1,_,Z⟩:=Z.hd3 true;go_enter Tryz.func142,Tryz.ntmps142;go_wp2_with fail;clear hw0 hw1;refine Z.nt H .expr 11 HF (by omega) trivial rfl (λ_ _ h k=>⟨rfl,zaf h k⟩) ?_;intro n2 t2 A2 c2 w2 HF _ _ _ Z;obtain⟨w3,hw,_,Z⟩:=Z.ndb n2 A2 c2;obtain⟨_,_,w4,hw4,_,Z⟩:=Z.hd3 st.head;obtain⟨_,_,_,_,_⟩:=Cn.c5 Z.fx.1;obtain⟨⟨_,_,_,_,_⟩,_⟩:=Z.bx5;go_wp2_with fail;exact Z.finx HF Z.fx.2.1 (by omega) rfl rfl rfl
theorem znM (at':Int) (st:Ps) (hneed:16*(G.T.length-st.next)+12<k+1) (w:World) (h:PsAt G b w st) :
 Calls Tryz.prog 161 #[.pointer (some ⟨b,0,none⟩),.int .i64 at'] w (zaS G b QNd (zfY G.T G.en rec at' st) w):=by
 obtain⟨hbw,hlim,hlen,lw0,RR,hR,w0,hw0,sw0,Z⟩:=St.head h (zfY G.T G.en rec at' st);rw[hR];unfold zfY at hR;have HF:=zz hR;clear h hR;go_enter Tryz.func161,Tryz.ntmps161;go_wp2_with fail;clear hw0;refine Z.acc (by simp) HF rfl ?_ ?_
 ·intro w1 HF _ _ Z;go_wp2_with fail;refine Z.node ?_;intro w2 _ Z;obtain⟨⟨_,_,_,_,_⟩,_⟩:=Z.bx5;go_wp2_with fail;exact Z.fin0 HF rfl rfl rfl
 ·intro w1 HF _ Z;obtain⟨_,_,w2,hw2,_,Z⟩:=Z.hd3 false;go_wp2_with fail;clear hw2;refine Z.nt H .expr 11 HF (by omega) trivial rfl (λ_ _ h k=>⟨rfl,zaf h k⟩) ?_;intro n3 t3 A3 c3 w3 HF _ _ _ Z;obtain⟨w4,hw,_,Z⟩:=Z.ndb n3 A3 c3;go_wp2_with fail;clear hw;refine Z.ex (by simp) HF (λ_ _ h k=>⟨rfl,zaf h k⟩) ?_;intro w5 HF _ _ Z;obtain⟨_,_,w6,hw6,_,Z⟩:=Z.hd3 st.head;obtain⟨_,_,_,_,_⟩:=Cn.c5 Z.fx.1;obtain⟨⟨_,_,_,_,_⟩,_⟩:=Z.bx5;go_wp2_with fail;exact Z.finx HF Z.fx.2.1 (by omega) rfl rfl rfl
end
end Go.Proofs.YtjdpocmlimkjjaaGreat
