/- Conditions: those in each statement. -/
import Derived.Test.YtcebmphappfjjaaGreatDoorQ29
import Derived.Deep.RegionHeld3
import Derived.RegionDies
import Derived.Deep.RegionLaw
set_option maxHeartbeats 32000000
set_option maxRecDepth 100000
namespace Go.Proofs.YtcebmphappfjjaaGreatDoor
open Go.RowKit
section
variable (G:PG) (b k:Nat) (rec:NT->Ps->R Nd) (H:Recs G b k rec)
include H
theorem zpn (st:Ps) (hneed:16*(G.T.length-st.next)+11<k+1) (w:World) (h:PsAt G b w st) :
 Calls Tryz.prog 246 #[.pointer (some ⟨b,0,none⟩)] w (zaG G b QNd (zrt G.T G.en rec k st) w):=by
 obtain⟨hbw,hlim,hlen,lw0,RR,hR,w0,hw0,sw0,Z⟩:=St.head h (zrt G.T G.en rec k st);rw[hR];unfold zrt at hR;have HF:=zz hR;clear h hR;go_enter Tryz.func246,Tryz.ntmps246;go_wp2_with fail;clear hw0;refine Z.off ?_;intro w1 _ Z;go_wp2_with fail;refine Z.acc (by simp) HF rfl ?_ ?_
 ·intro w2 HF _ _ Z;go_wp2_with fail;refine Z.lower HF (λ_ _ h k=>⟨rfl,zaf h k⟩) ?_;intro w3 HF _ _ Z;go_wp2_with fail;refine Z.ex (by simp) HF (λ_ _ h k=>⟨rfl,zaf h k⟩) ?_;intro w4 HF _ _ Z;go_wp2_with fail;refine Z.nt H .expr 11 HF (by omega) trivial rfl (λ_ _ h k=>⟨rfl,zaf h k⟩) ?_;intro n5 t5 A5 c5 w5 HF _ _ _ Z;obtain⟨w6,hw,_,Z⟩:=Z.ndb n5 A5 c5;go_wp2_with fail;clear hw;refine Z.ex (by simp) HF (λ_ _ h k=>⟨rfl,zaf h k⟩) ?_;intro w7 HF _ _ Z;obtain⟨_,_,_,_,_⟩:=Cn.c5 Z.fx.1;go_wp2_with fail;obtain⟨_,Z⟩:=Z.drw;have K:=Z.run H .expr 11 (by omega) trivial rfl;cases hx:rec .expr t5.adv with
  |error a=>
   rw[hx] at K
   go_region_dies
   all_goals exact Z.er K (λ_ k=>⟨rfl,zaf (her HF hx) k⟩)
  |ok p=>
   obtain⟨n8,t8⟩:=p;rw[hx] at K;replace HF:=hok HF hx;have gt8:t5.next+1+1<=t8.next:=H.next hx;clear hx
   go_region_held3 (λw'=>w'.cell? ⟨w5.heap.size,0,none⟩=some (.int .i64 n5.kind)/\w'.cell? ⟨w5.heap.size,1,none⟩=some (.string n5.text)/\w'.cell? ⟨w5.heap.size,2,none⟩=some (.int .i64 n5.n)/\w'.cell? ⟨w5.heap.size,3,none⟩=some (.int .i64 n5.at')/\w'.cell? ⟨w5.heap.size,4,none⟩=some (.slice A5 n5.kids.length c5))
    (first|go_keep|(refine⟨?_,?_,?_,?_,?_⟩<;>(rw[zeb (by omega)];assumption)))
    (first
     |(go_at_call 246;go_loud (refine Z.okr K ?_;intro A8 c8 w8 _ _ Z;obtain⟨_,_,_,_,_⟩:=Cn.c5 Z.fx.2.1))
     |(go_at_call 169;go_loud (obtain⟨w9,hw,_,Z⟩:=Z.lit2 Z.fx.2.2.1 Z.fx.1 (by omega) (by omega) (by omega);rw[hw];clear hw;refine Z.node ?_;intro w10 _ Z;obtain⟨⟨_,_,_,_,_⟩,_⟩:=Z.bx5;obtain⟨_,_,_,_,_⟩:=Cn.c5 Z.fx.2.2.1)))
   go_wp2;exact Z.fin HF Z.fx.1 (by omega) rfl rfl rfl rfl
 ·intro w2 HF _ Z;go_wp2_with fail;refine Z.acc (by simp) HF rfl ?_ ?_
  ·intro w3 HF _ _ Z;go_wp2_with fail;refine Z.nt H .expr 11 HF (by omega) trivial rfl (λ_ _ h k=>⟨rfl,zaf h k⟩) ?_;intro n4 t4 A4 c4 w4 HF _ _ _ Z;obtain⟨w5,hw,_,Z⟩:=Z.ndb n4 A4 c4;go_wp2_with fail;clear hw;refine Z.ex (by simp) HF (λ_ _ h k=>⟨rfl,zaf h k⟩) ?_;intro w6 HF _ _ Z;go_wp2_with fail;refine Z.nt H .expr 11 HF (by omega) trivial rfl (λ_ _ h k=>⟨rfl,zaf h k⟩) ?_;intro n7 t7 A7 c7 w7 HF _ _ _ Z;obtain⟨w8,hw,_,Z⟩:=Z.ndb n7 A7 c7;go_wp2_with fail;clear hw;refine Z.ex (by simp) HF (λ_ _ h k=>⟨rfl,zaf h k⟩) ?_;intro w9 HF _ _ Z;obtain⟨_,_,_,_,_⟩:=Cn.c5 Z.fx.2.2.1;obtain⟨_,_,_,_,_⟩:=Cn.c5 Z.fx.1;go_wp2_with fail;obtain⟨_,Z⟩:=Z.drw;have K:=Z.run H .expr 11 (by omega) trivial rfl;cases hx:rec .expr t7.adv with
   |error a=>
    rw[hx] at K
    go_region_dies
    all_goals exact Z.er K (λ_ k=>⟨rfl,zaf (her HF hx) k⟩)
   |ok p=>
    obtain⟨n10,t10⟩:=p;rw[hx] at K;replace HF:=hok HF hx;have gt10:t7.next+1+1<=t10.next:=H.next hx;clear hx
    go_region_held3 (λw'=>w'.cell? ⟨w4.heap.size,0,none⟩=some (.int .i64 n4.kind)/\w'.cell? ⟨w4.heap.size,1,none⟩=some (.string n4.text)/\w'.cell? ⟨w4.heap.size,2,none⟩=some (.int .i64 n4.n)/\w'.cell? ⟨w4.heap.size,3,none⟩=some (.int .i64 n4.at')/\w'.cell? ⟨w4.heap.size,4,none⟩=some (.slice A4 n4.kids.length c4)/\w'.cell? ⟨w7.heap.size,0,none⟩=some (.int .i64 n7.kind)/\w'.cell? ⟨w7.heap.size,1,none⟩=some (.string n7.text)/\w'.cell? ⟨w7.heap.size,2,none⟩=some (.int .i64 n7.n)/\w'.cell? ⟨w7.heap.size,3,none⟩=some (.int .i64 n7.at')/\w'.cell? ⟨w7.heap.size,4,none⟩=some (.slice A7 n7.kids.length c7))
     (first|go_keep|(refine⟨?_,?_,?_,?_,?_,?_,?_,?_,?_,?_⟩<;>(rw[zeb (by omega)];assumption)))
     (first
      |(go_at_call 246;go_loud (refine Z.okr K ?_;intro A10 c10 w10 _ _ Z;obtain⟨_,_,_,_,_⟩:=Cn.c5 Z.fx.2.2.2.1;obtain⟨_,_,_,_,_⟩:=Cn.c5 Z.fx.2.1))
      |(go_at_call 169;go_loud (obtain⟨w11,hw,_,Z⟩:=Z.lit3 Z.fx.2.2.2.2.1 Z.fx.2.2.1 Z.fx.1 (by omega) (by omega) (by omega) (by omega);rw[hw];clear hw;refine Z.node ?_;intro w12 _ Z;obtain⟨⟨_,_,_,_,_⟩,_⟩:=Z.bx5;obtain⟨_,_,_,_,_⟩:=Cn.c5 Z.fx.2.2.2.2.1;obtain⟨_,_,_,_,_⟩:=Cn.c5 Z.fx.2.2.1)))
    go_wp2;exact Z.fin HF Z.fx.1 (by omega) rfl rfl rfl rfl
  ·intro w3 HF _ Z;go_wp2_with fail;refine Z.acc (by simp) HF rfl ?_ ?_
   ·intro w4 HF _ _ Z;go_wp2_with fail;refine Z.nt H .heading 12 HF (by omega) trivial rfl (λ_ _ h k=>⟨rfl,zaf h k⟩) ?_;intro n5 t5 A5 c5 w5 HF _ _ _ Z;obtain⟨w6,Lw6,hw,hL,_,_,_,Z⟩:=Z.litn Z.fx.1 (by omega) (by omega);rw[hL] at HF;clear hL;go_wp2_with fail;clear hw;refine Z.ex (by simp) HF (λ_ _ h k=>⟨rfl,zaf h k⟩) ?_;intro w7 HF _ _ Z;go_wp2_with fail;refine Z.its H .arm 0 HF (by omega) (by simp) trivial rfl rfl (λ_ _=>by kernel_rfl) (λ_ _ h k=>⟨rfl,zaf h k⟩) ?_;intro n8 t8 A8 c8 w8 HF _ _ _ _ Z;go_wp2_with (at_builtin;refine Z.wp_apps Z.fx.2.1 Z.fx.1 rfl rfl rfl rfl (by omega) (by omega) (λ_=>by omega) (by omega) (by omega) (by omega) ?_);intro L9 A9 c9 w9 hL _ _ Z;rw[hL] at HF;clear hL;go_wp2_with fail;refine Z.node ?_;intro w10 _ Z;obtain⟨⟨_,_,_,_,_⟩,_⟩:=Z.bx5;go_wp2;exact Z.fin HF (Ow.rk Z.fx) (by omega) rfl rfl rfl rfl
   ·intro w4 HF _ Z;go_wp2_with fail;refine Z.acc (by simp) HF rfl ?_ ?_
    ·intro w5 HF _ _ Z;go_wp2_with fail;refine Z.ns (zgP G b k rec H _ (Z.nd0 (by omega)) _ Z.ps) (zbF G.T G.en H.adv k _) HF (λ_ _ h k=>⟨rfl,zaf h k⟩) ?_;intro n6 t6 A6 c6 w6 HF _ _ _ _ Z;go_wp2_with fail;refine Z.node ?_;intro w7 _ Z;obtain⟨⟨_,_,_,_,_⟩,_⟩:=Z.bx5;go_wp2;exact Z.fin HF (Ow.rk Z.fx.1) (by omega) rfl rfl rfl rfl
    ·intro w5 HF _ Z;go_wp2_with fail;replace HF:=zgo HF;refine Z.nt H (.operand 1) 10 HF (by omega) ⟨by omega,by omega⟩ rfl (λ_ _ h k=>⟨rfl,zaf h k⟩) ?_;intro n6 t6 A6 c6 w6 HF _ _ _ Z;obtain⟨⟨_,_,_,_,_⟩,_⟩:=Z.bx5;go_wp2;exact Z.finx HF Z.fx.1 (by omega) rfl rfl rfl
end
section
variable (G:PG) (b k:Nat) (rec:NT->Ps->R Nd) (H:Recs G b k rec)
include H
theorem zlU (st:Ps) (hneed:16*(G.T.length-st.next)+0<k+1) (w:World) (h:PsAt G b w st) :
 Calls Tryz.prog 272 #[.pointer (some ⟨b,0,none⟩)] w (zaG G b QNd (zil G.T G.en rec st) w):=by
 obtain⟨hbw,hlim,hlen,lw0,RR,hR,w0,hw0,sw0,Z⟩:=St.head h (zil G.T G.en rec st);rw[hR];unfold zil at hR;have HF:=zz hR;clear h hR;go_enter Tryz.func272,Tryz.ntmps272;go_wp2_with fail;clear hw0;refine Z.off ?_;intro w1 _ Z;go_wp2_with fail;refine Z.ex (by simp) HF (λ_ _ h k=>⟨rfl,zaf h k⟩) ?_;intro w2 HF _ _ Z;go_wp2_with fail;refine Z.nt H .heading 12 HF (by omega) trivial rfl (λ_ _ h k=>⟨rfl,zaf h k⟩) ?_;intro n3 t3 A3 c3 w3 HF _ _ _ Z;obtain⟨w4,Lw4,hw,hL,_,_,_,Z⟩:=Z.litn Z.fx.1 (by omega) (by omega);rw[hL] at HF;clear hL;go_wp2_with fail;clear hw;refine Z.nt H .block 0 HF (by omega) trivial rfl (λ_ _ h k=>⟨rfl,zaf h k⟩) ?_;intro n5 t5 A5 c5 w5 HF _ _ _ Z;go_wp2_with (at_builtin;refine Z.wp_app Z.fx.2.1 Z.fx.1 rfl rfl rfl rfl (by omega) (by omega) (λ_=>by omega) (by omega) (by omega) (by omega) ?_);intro L6 A6 c6 w6 hL _ _ Z;rw[hL] at HF;clear hL;go_wp2_with fail;refine Z.acc (by simp) HF rfl ?_ ?_
 ·intro w7 HF _ _ Z;go_wp2_with fail;refine Z.nt H .block 0 HF (by omega) trivial rfl (λ_ _ h k=>⟨rfl,zaf h k⟩) ?_;intro n8 t8 A8 c8 w8 HF _ _ _ Z;go_wp2_with (at_builtin;refine Z.wp_app Z.fx.2 Z.fx.1 rfl rfl rfl rfl (by omega) (by omega) (λ_=>by omega) (by omega) (by omega) (by omega) ?_);intro L9 A9 c9 w9 hL _ _ Z;rw[hL] at HF;clear hL;go_wp2_with fail;refine Z.node ?_;intro w10 _ Z;obtain⟨⟨_,_,_,_,_⟩,_⟩:=Z.bx5;go_wp2;exact Z.fin HF (Ow.rk Z.fx) (by omega) rfl rfl rfl rfl
 ·intro w7 HF _ Z;go_wp2_with fail;refine Z.node ?_;intro w8 _ Z;obtain⟨⟨_,_,_,_,_⟩,_⟩:=Z.bx5;go_wp2;exact Z.fin HF (Ow.rk Z.fx) (by omega) rfl rfl rfl rfl
theorem zmk (st:Ps) (hneed:16*(G.T.length-st.next)+0<k+1) (w:World) (h:PsAt G b w st) :
 Calls Tryz.prog 226 #[.pointer (some ⟨b,0,none⟩)] w (zaG G b QNd (zhT G.T G.en rec k st) w):=by
 obtain⟨hbw,hlim,hlen,lw0,RR,hR,w0,hw0,sw0,Z⟩:=St.head h (zhT G.T G.en rec k st);rw[hR];unfold zhT at hR;have HF:=zz hR;clear h hR;go_enter Tryz.func226,Tryz.ntmps226;go_wp2_with fail;clear hw0;refine Z.off ?_;intro w1 _ Z;go_wp2_with fail;refine Z.acc (by simp) HF rfl ?_ ?_
 ·intro w2 HF _ _ Z;go_wp2_with fail;refine Z.lower HF (λ_ _ h k=>⟨rfl,zaf h k⟩) ?_;intro w3 HF _ _ Z;go_wp2_with fail;refine Z.ex (by simp) HF (λ_ _ h k=>⟨rfl,zaf h k⟩) ?_;intro w4 HF _ _ Z;go_wp2_with fail;refine Z.nt H .typ 0 HF (by omega) trivial rfl (λ_ _ h k=>⟨rfl,zaf h k⟩) ?_;intro n5 t5 A5 c5 w5 HF _ _ _ Z;obtain⟨w6,hw,_,Z⟩:=Z.ndb n5 A5 c5;go_wp2_with fail;clear hw;refine Z.ex (by simp) HF (λ_ _ h k=>⟨rfl,zaf h k⟩) ?_;intro w7 HF _ _ Z;obtain⟨_,_,_,_,_⟩:=Cn.c5 Z.fx.1;go_wp2_with fail;obtain⟨_,Z⟩:=Z.drw;have K:=Z.run H .expr 11 (by omega) trivial rfl;cases hx:rec .expr t5.adv with
  |error a=>
   rw[hx] at K
   go_region_dies
   all_goals exact Z.er K (λ_ k=>⟨rfl,zaf (her HF hx) k⟩)
  |ok p=>
   obtain⟨n8,t8⟩:=p;rw[hx] at K;replace HF:=hok HF hx;have gt8:t5.next+1+1<=t8.next:=H.next hx;clear hx
   go_region_held3 (λw'=>w'.cell? ⟨w5.heap.size,0,none⟩=some (.int .i64 n5.kind)/\w'.cell? ⟨w5.heap.size,1,none⟩=some (.string n5.text)/\w'.cell? ⟨w5.heap.size,2,none⟩=some (.int .i64 n5.n)/\w'.cell? ⟨w5.heap.size,3,none⟩=some (.int .i64 n5.at')/\w'.cell? ⟨w5.heap.size,4,none⟩=some (.slice A5 n5.kids.length c5))
    (first|go_keep|(refine⟨?_,?_,?_,?_,?_⟩<;>(rw[zeb (by omega)];assumption)))
    (first
     |(go_at_call 246;go_loud (refine Z.okr K ?_;intro A8 c8 w8 _ _ Z;obtain⟨_,_,_,_,_⟩:=Cn.c5 Z.fx.2.1))
     |(go_at_call 169;go_loud (obtain⟨w9,hw,_,Z⟩:=Z.lit2 Z.fx.2.2.1 Z.fx.1 (by omega) (by omega) (by omega);rw[hw];clear hw;refine Z.node ?_;intro w10 _ Z;obtain⟨⟨_,_,_,_,_⟩,_⟩:=Z.bx5;obtain⟨_,_,_,_,_⟩:=Cn.c5 Z.fx.2.2.1)))
   go_wp2;exact Z.fin HF Z.fx.1 (by omega) rfl rfl rfl rfl
 ·intro w2 HF _ Z;go_wp2_with fail;refine Z.ex (by simp) HF (λ_ _ h k=>⟨rfl,zaf h k⟩) ?_;intro w3 HF _ _ Z;go_wp2_with fail;refine Z.upper HF (λ_ _ h k=>⟨rfl,zaf h k⟩) ?_;intro w4 HF _ _ Z;go_wp2_with fail;refine Z.ns (zfi G b k rec H _ (Z.nd0 (by omega)) _ Z.ps) (zbJ G.T G.en H.adv k _) HF (λ_ _ h k=>⟨rfl,zaf h k⟩) ?_;intro n5 t5 A5 c5 w5 HF _ _ _ _ Z;go_wp2_with fail;refine Z.nt H .block 0 HF (by omega) trivial rfl (λ_ _ h k=>⟨rfl,zaf h k⟩) ?_;intro n6 t6 A6 c6 w6 HF _ _ _ Z;go_wp2_with (at_builtin;refine Z.wp_app Z.fx.2.1 Z.fx.1 rfl rfl rfl rfl (by omega) (by omega) (λ_=>by omega) (by omega) (by omega) (by omega) ?_);intro L7 A7 c7 w7 hL _ _ Z;rw[hL] at HF;clear hL;go_wp2_with fail;refine Z.node ?_;intro w8 _ Z;obtain⟨⟨_,_,_,_,_⟩,_⟩:=Z.bx5;go_wp2;exact Z.fin HF (Ow.rk Z.fx) (by omega) rfl rfl rfl rfl
theorem zsS (st:Ps) (hneed:16*(G.T.length-st.next)+0<k+1) (w:World) (h:PsAt G b w st) :
 Calls Tryz.prog 275 #[.pointer (some ⟨b,0,none⟩)] w (zaG G b QNd (doF G.T G.en rec k st) w):=by
 obtain⟨hbw,hlim,hlen,lw0,RR,hR,w0,hw0,sw0,Z⟩:=St.head h (doF G.T G.en rec k st);rw[hR];unfold doF at hR;have HF:=zz hR;clear h hR;go_enter Tryz.func275,Tryz.ntmps275;go_wp2_with fail;clear hw0;refine Z.off ?_;intro w1 _ Z;go_wp2_with fail;refine Z.ex (by simp) HF (λ_ _ h k=>⟨rfl,zaf h k⟩) ?_;intro w2 HF _ _ Z;go_wp2_with fail;refine Z.lower HF (λ_ _ h k=>⟨rfl,zaf h k⟩) ?_;intro w3 HF _ _ Z;go_wp2_with fail;refine Z.ns (zdk G b k rec H _ (Z.nd0 (by omega)) _ Z.ps) (zaU G.T G.en H.adv k _) HF (λ_ _ h k=>⟨rfl,zaf h k⟩) ?_;intro n4 t4 A4 c4 w4 HF _ _ _ _ Z;go_wp2_with fail;refine Z.ex (by simp) HF (λ_ _ h k=>⟨rfl,zaf h k⟩) ?_;intro w5 HF _ _ Z;go_wp2_with fail;refine Z.off ?_;intro w6 _ Z;go_wp2_with fail;refine Z.upper HF (λ_ _ h k=>⟨rfl,zaf h k⟩) ?_;intro w7 HF _ _ Z;go_wp2_with fail;refine Z.node ?_;intro w8 _ Z;go_wp2_with (at_builtin;refine Z.wp_app Z.fx.1 (Rk.nl w8.heap.size 75 0 (zaC G.T G.en t4.adv) (zao G.T t4.adv) w8) rfl rfl rfl rfl (by omega) (by omega) (λ_=>by omega) (by omega) (by omega) (by omega) ?_);intro L9 A9 c9 w9 hL _ _ Z;rw[hL] at HF;clear hL;go_wp2_with fail;refine Z.node ?_;intro w10 _ Z;obtain⟨⟨_,_,_,_,_⟩,_⟩:=Z.bx5;go_wp2;exact Z.fin HF (Ow.rk Z.fx) (by omega) rfl rfl rfl rfl
theorem zqY (st:Ps) (hneed:16*(G.T.length-st.next)+0<k+1) (w:World) (h:PsAt G b w st) :
 Calls Tryz.prog 274 #[.pointer (some ⟨b,0,none⟩)] w (zaG G b QNd (zqu G.T G.en rec k st) w):=by
 obtain⟨hbw,hlim,hlen,lw0,RR,hR,w0,hw0,sw0,Z⟩:=St.head h (zqu G.T G.en rec k st);rw[hR];unfold zqu at hR;have HF:=zz hR;clear h hR;go_enter Tryz.func274,Tryz.ntmps274;go_wp2_with fail;clear hw0;refine Z.off ?_;intro w1 _ Z;go_wp2_with fail;refine Z.ex (by simp) HF (λ_ _ h k=>⟨rfl,zaf h k⟩) ?_;intro w2 HF _ _ Z;go_wp2_with fail;refine Z.nt H .expr 11 HF (by omega) trivial rfl (λ_ _ h k=>⟨rfl,zaf h k⟩) ?_;intro n3 t3 A3 c3 w3 HF _ _ _ Z;obtain⟨w4,Lw4,hw,hL,_,_,_,Z⟩:=Z.litn Z.fx.1 (by omega) (by omega);rw[hL] at HF;clear hL;go_wp2_with fail;clear hw;refine Z.upper HF (λ_ _ h k=>⟨rfl,zaf h k⟩) ?_;intro w5 HF _ _ Z;go_wp2_with fail;refine Z.ns (zdk G b k rec H _ (Z.nd0 (by omega)) _ Z.ps) (zaU G.T G.en H.adv k _) HF (λ_ _ h k=>⟨rfl,zaf h k⟩) ?_;intro n6 t6 A6 c6 w6 HF _ _ _ _ Z;go_wp2_with (at_builtin;refine Z.wp_apps Z.fx.2.1 Z.fx.1 rfl rfl rfl rfl (by omega) (by omega) (λ_=>by omega) (by omega) (by omega) (by omega) ?_);intro L7 A7 c7 w7 hL _ _ Z;rw[hL] at HF;clear hL;go_wp2_with fail;refine Z.node ?_;intro w8 _ Z;obtain⟨⟨_,_,_,_,_⟩,_⟩:=Z.bx5;go_wp2;exact Z.fin HF (Ow.rk Z.fx) (by omega) rfl rfl rfl rfl
theorem znT (st:Ps) (hneed:16*(G.T.length-st.next)+0<k+1) (w:World) (h:PsAt G b w st) :
 Calls Tryz.prog 247 #[.pointer (some ⟨b,0,none⟩)] w (zaG G b QNd (zkY G.T G.en rec k st) w):=by
 obtain⟨hbw,hlim,hlen,lw0,RR,hR,w0,hw0,sw0,Z⟩:=St.head h (zkY G.T G.en rec k st);rw[hR];unfold zkY at hR;have HF:=zz hR;clear h hR;go_enter Tryz.func247,Tryz.ntmps247;go_wp2_with fail;clear hw0;refine Z.off ?_;intro w1 _ Z;go_wp2_with fail;refine Z.ex (by simp) HF (λ_ _ h k=>⟨rfl,zaf h k⟩) ?_;intro w2 HF _ _ Z;go_wp2_with fail;replace Z:=Z.row0 (lo:=w2.heap.size) (by omega);obtain⟨F,HQ,HK⟩:∃F:List Nd->Ps->R Nd,Hid (R.next (zdG G.T (rec .stmt) (⟨#[125]⟩:ByteArray) k [] st.adv) F=RR)/\Hid (∀l s,F l s=.ok (.mk 11 ⟨#[]⟩ 0 (zaC G.T G.en st) l,s)):=⟨_,HF,λ_ _=>rfl⟩;clear HF
 go_loopw [4] (λsv wr=>∃(j:Nat) (acc:List Nd) (t:Ps) (A:Option Addr) (c:Nat),sv=.slice A acc.length c/\acc.length<=65536+t.next/\G.T.length-t.next+1<=j/\Hid (R.next (zdG G.T (rec .stmt) (⟨#[125]⟩:ByteArray) j acc t) F=RR)/\st.next+1<=t.next/\t.next<=G.T.length/\w2.heap.size<=wr.heap.size/\St G b w true (Ow w2.heap.size wr.heap.size acc (.slice A acc.length c)) t t.next wr) (λ_ wr=>G.T.length-zeG wr b)
 case atStart=>exact⟨k,[],st.adv,none,0,rfl,by simp,by show G.T.length-(st.next+1)+1<=k;omega,HQ,Nat.le_refl _,Z.ps.le,by omega,Z⟩
 case round=>
  clear HQ Z;obtain⟨j,acc,t,A,c,rfl,hacc,hj,HF,ht1,ht2,swr,Z⟩:=hrel;obtain⟨j',rfl⟩:∃j',j=j'+1:=⟨j-1,by omega⟩;rw[zdG] at HF;replace HF:=hite HF;have hmr:=Z.psn;go_wp2_with fail;refine Z.acc (by simp) HF rfl ?_ ?_
  ·intro w3 HF _ _ Z;replace HF:=(HK.out _ _).symm.trans HF;clear hmr HK;go_wp2_with fail;refine Z.node ?_;intro w4 _ Z;obtain⟨⟨_,_,_,_,_⟩,_⟩:=Z.bx5;go_wp2;exact Z.fin HF (Ow.rk Z.fx) (by omega) rfl rfl rfl rfl
  ·intro w3 HF _ Z;replace HF:=zmS HF;go_wp2_with fail;refine Z.nt H .stmt 1 HF (by omega) trivial rfl (λ_ _ h k=>⟨rfl,zaf h k⟩) ?_;intro n4 t4 A4 c4 w4 HF _ _ _ Z;go_wp2_with (at_builtin;refine Z.wp_app Z.fx.2 Z.fx.1 rfl rfl rfl rfl (by omega) (by omega) (λ_=>by omega) (by omega) (by omega) (by omega) ?_);intro L5 A5 c5 w5 hL _ _ Z;rw[hL] at HF;clear hL;have hm9:=Z.psn;go_wp2_with fail;exact⟨⟨j',L5,t4,A5,c5,rfl,by omega,by omega,HF,by omega,by omega,by omega,Z⟩,by omega⟩
theorem zol (st:Ps) (hneed:16*(G.T.length-st.next)+0<k+1) (w:World) (h:PsAt G b w st) :
 Calls Tryz.prog 273 #[.pointer (some ⟨b,0,none⟩)] w (zaG G b QNd (zle G.T G.en rec k st) w):=by
 obtain⟨hbw,hlim,hlen,lw0,RR,hR,w0,hw0,sw0,Z⟩:=St.head h (zle G.T G.en rec k st);rw[hR];unfold zle at hR;have HF:=zz hR;clear h hR;go_enter Tryz.func273,Tryz.ntmps273;go_wp2_with fail;clear hw0;refine Z.off ?_;intro w1 _ Z;go_wp2_with fail;refine Z.ex (by simp) HF (λ_ _ h k=>⟨rfl,zaf h k⟩) ?_;intro w2 HF _ _ Z;go_wp2_with fail;refine Z.nt H .heading 12 HF (by omega) trivial rfl (λ_ _ h k=>⟨rfl,zaf h k⟩) ?_;intro n3 t3 A3 c3 w3 HF _ _ _ Z;obtain⟨w4,Lw4,hw,hL,_,_,_,Z⟩:=Z.litn Z.fx.1 (by omega) (by omega);rw[hL] at HF;clear hL;go_wp2_with fail;clear hw;refine Z.ex (by simp) HF (λ_ _ h k=>⟨rfl,zaf h k⟩) ?_;intro w5 HF _ _ Z;go_wp2_with fail;refine Z.nt H .sarm 0 HF (by omega) trivial rfl (λ_ _ h k=>⟨rfl,zaf h k⟩) ?_;intro n6 t6 A6 c6 w6 HF _ _ _ Z;go_wp2_with (at_builtin;refine Z.wp_app Z.fx.2.1 Z.fx.1 rfl rfl rfl rfl (by omega) (by omega) (λ_=>by omega) (by omega) (by omega) (by omega) ?_);intro L7 A7 c7 w7 hL _ _ Z;rw[hL] at HF;clear hL;go_wp2_with fail;replace Z:=Z.row Z.fx (by omega);obtain⟨F,HQ,HK⟩:∃F:List Nd->Ps->R Nd,Hid (R.next (zdG G.T (rec .sarm) (⟨#[125]⟩:ByteArray) k L7 t6) F=RR)/\Hid (∀l s,F l s=.ok (.mk 53 ⟨#[]⟩ 0 (zaC G.T G.en st) l,s)):=⟨_,HF,λ_ _=>rfl⟩;clear HF
 go_loopw [4] (λsv wr=>∃(j:Nat) (acc:List Nd) (t:Ps) (A:Option Addr) (c:Nat),sv=.slice A acc.length c/\acc.length<=65536+t.next/\G.T.length-t.next+1<=j/\Hid (R.next (zdG G.T (rec .sarm) (⟨#[125]⟩:ByteArray) j acc t) F=RR)/\t6.next<=t.next/\t.next<=G.T.length/\w2.heap.size<=wr.heap.size/\St G b w true (Ow w2.heap.size wr.heap.size acc (.slice A acc.length c)) t t.next wr) (λ_ wr=>G.T.length-zeG wr b)
 case atStart=>exact⟨k,L7,t6,A7,c7,rfl,by omega,by show G.T.length-(t6.next)+1<=k;omega,HQ,Nat.le_refl _,Z.ps.le,by omega,Z⟩
 case round=>
  clear HQ Z;obtain⟨j,acc,t,A,c,rfl,hacc,hj,HF,ht1,ht2,swr,Z⟩:=hrel;obtain⟨j',rfl⟩:∃j',j=j'+1:=⟨j-1,by omega⟩;rw[zdG] at HF;replace HF:=hite HF;have hmr:=Z.psn;go_wp2_with fail;refine Z.acc (by simp) HF rfl ?_ ?_
  ·intro w8 HF _ _ Z;replace HF:=(HK.out _ _).symm.trans HF;clear hmr HK;go_wp2_with fail;refine Z.node ?_;intro w9 _ Z;obtain⟨⟨_,_,_,_,_⟩,_⟩:=Z.bx5;go_wp2;exact Z.fin HF (Ow.rk Z.fx) (by omega) rfl rfl rfl rfl
  ·intro w8 HF _ Z;replace HF:=zmS HF;go_wp2_with fail;refine Z.nt H .sarm 0 HF (by omega) trivial rfl (λ_ _ h k=>⟨rfl,zaf h k⟩) ?_;intro n9 t9 A9 c9 w9 HF _ _ _ Z;go_wp2_with (at_builtin;refine Z.wp_app Z.fx.2 Z.fx.1 rfl rfl rfl rfl (by omega) (by omega) (λ_=>by omega) (by omega) (by omega) (by omega) ?_);intro L10 A10 c10 w10 hL _ _ Z;rw[hL] at HF;clear hL;have hm9:=Z.psn;go_wp2_with fail;exact⟨⟨j',L10,t9,A10,c10,rfl,by omega,by omega,HF,by omega,by omega,by omega,Z⟩,by omega⟩
end
section
variable (G:PG) (b k:Nat) (rec:NT->Ps->R Nd) (H:Recs G b k rec)
include H
theorem zlg (st:Ps) (hneed:16*(G.T.length-st.next)+1<k+1) (w:World) (h:PsAt G b w st) :
 Calls Tryz.prog 279 #[.pointer (some ⟨b,0,none⟩)] w (zaG G b QNd (zcA G.T G.en rec k st) w):=by
 obtain⟨hbw,hlim,hlen,lw0,RR,hR,w0,hw0,sw0,Z⟩:=St.head h (zcA G.T G.en rec k st);rw[hR];unfold zcA at hR;have HF:=zz hR;clear h hR;go_enter Tryz.func279,Tryz.ntmps279;go_wp2_with fail;clear hw0;obtain⟨tk,htk⟩:∃t,zcq G st=t:=⟨_,rfl⟩
 by_cases h2:tk.kind=2
 ·have hp2:=zmc (rec:=rec) (k:=k) htk h2;have hm:=hp2.2;replace HF:=zz (hp2.1.symm.trans HF.out);clear hp2;have K:=zfl G b st _ Z.ps;rw[htk,h2] at K;refine Z.q K ?_;intro w1 _ Z;clear K;obtain⟨w2,hw,_,Z⟩:=Z.tkb (.int .i64 2) (.string tk.text) (.int .i64 tk.n) (.int .i64 tk.at');clear h2 htk;obtain⟨_,_,_,_⟩:=Ct.c4 Z.fx.1;obtain⟨_,_,hwr,w3,hw3,_,Z⟩:=Z.adv1 (by omega);obtain⟨_,_,_,_⟩:=Ct.c4 Z.fx.1;go_wp2_with fail;clear hw3 hwr hw;refine Z.node ?_;intro w4 _ Z;obtain⟨⟨_,_,_,_,_⟩,_⟩:=Z.bx5;go_wp2;exact Z.fin0 HF rfl rfl rfl
 ·by_cases h3:tk.kind=3
  ·have hp2:=zkM (rec:=rec) (k:=k) htk h3;have hm:=hp2.2;replace HF:=zz (hp2.1.symm.trans HF.out);clear hp2;have K:=zfl G b st _ Z.ps;rw[htk,h3] at K;refine Z.q K ?_;intro w1 _ Z;clear K;obtain⟨w2,hw,_,Z⟩:=Z.tkb (.int .i64 3) (.string tk.text) (.int .i64 tk.n) (.int .i64 tk.at');clear h2 htk h3;obtain⟨_,_,_,_⟩:=Ct.c4 Z.fx.1;obtain⟨_,_,hwr,w3,hw3,_,Z⟩:=Z.adv1 (by omega);obtain⟨_,_,_,_⟩:=Ct.c4 Z.fx.1;go_wp2_with fail;clear hw3 hwr hw;refine Z.node ?_;intro w4 _ Z;obtain⟨⟨_,_,_,_,_⟩,_⟩:=Z.bx5;go_wp2;exact Z.fin0 HF rfl rfl rfl
  ·have q:=(zjJ (rec:=rec) (k:=k) htk h2 h3).symm.trans HF.out;clear HF;have e2:(tk.kind == 2)=false:=by simpa using h2
   have e3:(tk.kind == 3)=false:=by simpa using h3
   unfold zfn at q;rw[show zaC G.T G.en st=tk.at' by rw[zpd,htk]] at q;have HF:=zz q;clear q;have K:=zfl G b st _ Z.ps;rw[htk] at K;refine Z.q K ?_;intro w1 _ Z;clear K;obtain⟨w2,hw,_,Z⟩:=Z.tkb (.int .i64 tk.kind) (.string tk.text) (.int .i64 tk.n) (.int .i64 tk.at');clear htk;obtain⟨_,_,_,_⟩:=Ct.c4 Z.fx.1;go_wp2_with fail;clear hw e2 e3 h2 h3;refine Z.acc (by simp) HF rfl ?_ ?_
   ·intro w3 HF _ _ Z;go_wp2_with fail;refine Z.node ?_;intro w4 _ Z;obtain⟨⟨_,_,_,_,_⟩,_⟩:=Z.bx5;go_wp2;exact Z.fin0 HF rfl rfl rfl
   ·intro w3 HF _ Z;go_wp2_with fail;refine Z.acc (by simp) HF rfl ?_ ?_
    ·intro w4 HF _ _ Z;go_wp2_with fail;refine Z.node ?_;intro w5 _ Z;obtain⟨⟨_,_,_,_,_⟩,_⟩:=Z.bx5;go_wp2;exact Z.fin0 HF rfl rfl rfl
    ·intro w4 HF _ Z;go_wp2_with fail;refine Z.acc (by simp) HF rfl ?_ ?_
     ·intro w5 HF _ _ Z;go_wp2_with fail;refine Z.node ?_;intro w6 _ Z;obtain⟨⟨_,_,_,_,_⟩,_⟩:=Z.bx5;go_wp2;exact Z.fin0 HF rfl rfl rfl
     ·intro w5 HF _ Z;go_wp2_with fail;refine Z.acc (by simp) HF rfl ?_ ?_
      ·intro w6 HF _ _ Z;go_wp2_with fail;refine Z.lst H .expr 11 HF (by omega) (by simp) trivial rfl rfl (λ_ _=>by kernel_rfl) (λ_ _ h k=>⟨rfl,zaf h k⟩) ?_;intro n7 t7 A7 c7 w7 HF _ _ _ _ Z;go_wp2_with fail;refine Z.node ?_;intro w8 _ Z;obtain⟨⟨_,_,_,_,_⟩,_⟩:=Z.bx5;go_wp2;exact Z.fin HF (Ow.rk Z.fx.1) (by omega) rfl rfl rfl rfl
      ·intro w6 HF _ Z;go_wp2_with fail;refine Z.acc (by simp) HF rfl ?_ ?_
       ·intro w7 HF _ _ Z;go_wp2_with fail;replace HF:=zgo HF;refine Z.nt H (.group tk.at') 12 HF (by omega) trivial rfl (λ_ _ h k=>⟨rfl,zaf h k⟩) ?_;intro n8 t8 A8 c8 w8 HF _ _ _ Z;obtain⟨⟨_,_,_,_,_⟩,_⟩:=Z.bx5;go_wp2;exact Z.finx HF Z.fx.1 (by omega) rfl rfl rfl
       ·intro w7 HF _ Z;go_wp2_with fail;refine Z.wd rfl ?_;intro w8 _ Z;go_wp2_with fail;have K:=zcN (zao G.T st) w8 Z.ps.word;cases hl:zaH (zao G.T st) with
        |true=>
         rw[hl] at K;replace HF:=hpos HF hl;refine Z.q K ?_;intro w9 _ Z;clear K;go_wp2_with fail;refine Z.lowok hl ?_;intro w10 _ _ Z;clear hl;go_wp2_with fail;refine Z.node ?_;intro w11 _ Z;obtain⟨⟨_,_,_,_,_⟩,_⟩:=Z.bx5;go_wp2;exact Z.fin0 HF rfl rfl rfl
        |false=>
         rw[hl] at K;replace HF:=hneg HF (by rw[hl];simp);clear hl;refine Z.q K ?_;intro w9 _ Z;clear K;go_wp2_with fail;refine Z.upper HF (λ_ _ h k=>⟨rfl,zaf h k⟩) ?_;intro w10 HF _ _ Z;go_wp2_with fail
         by_cases hw1:zao G.T st.adv=(⟨#[123]⟩:ByteArray)
         ·have ew:=zdY hw1;have hm:=Z.more (by rw[hw1];simp);refine Z.wd rfl ?_;intro w11 _ Z;have hh3:=Z.ps.c3;cases hd:st.adv.head with
          |false=>
           have hd':(st.adv).head=false:=hd;rw[hd'] at hh3;replace HF:=hpos HF ⟨hw1,hd'⟩;clear hw1 hd hd';obtain⟨t11_,hT,_,_,Z⟩:=Z.nmd;rw[hT] at HF;clear hT;obtain⟨_,_,hwr,w12,hw12,_,Z⟩:=Z.adv1 (by omega);go_wp2_with fail;clear hw12 hwr;refine Z.lst H .set 0 HF (by omega) (by simp) trivial rfl rfl (λ_ _=>by kernel_rfl) (λ_ _ h k=>⟨rfl,zaf h k⟩) ?_;intro n13 t13 A13 c13 w13 HF _ _ _ _ Z;go_wp2_with fail;refine Z.node ?_;intro w14 _ Z;obtain⟨⟨_,_,_,_,_⟩,_⟩:=Z.bx5;go_wp2;exact Z.fin HF (Ow.rk Z.fx.1) (by omega) rfl rfl rfl rfl
          |true=>
           have hd':(st.adv).head=true:=hd;rw[hd'] at hh3;replace HF:=hneg HF (λh=>by rw[hd'] at h;cases h.2);clear hw1 hd hd';go_wp2_with fail;clear hh3 ew;refine Z.acc (by simp) HF rfl ?_ ?_
           ·intro w12 HF _ _ Z;go_wp2_with fail;refine Z.its H .expr 11 HF (by omega) (by simp) trivial rfl rfl (λ_ _=>by kernel_rfl) (λ_ _ h k=>⟨rfl,zaf h k⟩) ?_;intro n13 t13 A13 c13 w13 HF _ _ _ _ Z;go_wp2_with fail;refine Z.node ?_;intro w14 _ Z;obtain⟨⟨_,_,_,_,_⟩,_⟩:=Z.bx5;go_wp2;exact Z.fin HF (Ow.rk Z.fx.1) (by omega) rfl rfl rfl rfl
           ·intro w12 HF _ Z;go_wp2_with fail;refine Z.node ?_;intro w13 _ Z;obtain⟨⟨_,_,_,_,_⟩,_⟩:=Z.bx5;go_wp2;exact Z.fin0 HF rfl rfl rfl
         ·have ew:=zam hw1;replace HF:=hneg HF (λh=>hw1 h.1);clear hw1;refine Z.wd rfl ?_;intro w11 _ Z;go_wp2_with fail;clear ew;refine Z.acc (by simp) HF rfl ?_ ?_
          ·intro w12 HF _ _ Z;go_wp2_with fail;refine Z.its H .expr 11 HF (by omega) (by simp) trivial rfl rfl (λ_ _=>by kernel_rfl) (λ_ _ h k=>⟨rfl,zaf h k⟩) ?_;intro n13 t13 A13 c13 w13 HF _ _ _ _ Z;go_wp2_with fail;refine Z.node ?_;intro w14 _ Z;obtain⟨⟨_,_,_,_,_⟩,_⟩:=Z.bx5;go_wp2;exact Z.fin HF (Ow.rk Z.fx.1) (by omega) rfl rfl rfl rfl
          ·intro w12 HF _ Z;go_wp2_with fail;refine Z.node ?_;intro w13 _ Z;obtain⟨⟨_,_,_,_,_⟩,_⟩:=Z.bx5;go_wp2;exact Z.fin0 HF rfl rfl rfl
theorem zpu (st:Ps) (hneed:16*(G.T.length-st.next)+0<k+1) (w:World) (h:PsAt G b w st) :
 Calls Tryz.prog 168 #[.pointer (some ⟨b,0,none⟩)] w (zaG G b QNd (zqC G.T G.en rec k st) w):=by
 obtain⟨hbw,hlim,hlen,lw0,RR,hR,w0,hw0,sw0,Z⟩:=St.head h (zqC G.T G.en rec k st);rw[hR];unfold zqC at hR;have HF:=zz hR;clear h hR;go_enter Tryz.func168,Tryz.ntmps168;go_wp2_with fail;clear hw0;refine Z.off ?_;intro w1 _ Z;go_wp2_with fail;refine Z.acc (by simp) HF rfl ?_ ?_
 ·intro w2 HF _ _ Z;go_wp2_with fail;refine Z.upper HF (λ_ _ h k=>⟨rfl,zaf h k⟩) ?_;intro w3 HF _ _ Z;go_wp2_with fail;refine Z.ex (by simp) HF (λ_ _ h k=>⟨rfl,zaf h k⟩) ?_;intro w4 HF _ _ Z;go_wp2_with fail;refine Z.lst H .field 0 HF (by omega) (by simp) trivial rfl rfl (λ_ _=>by kernel_rfl) (λ_ _ h k=>⟨rfl,zaf h k⟩) ?_;intro n5 t5 A5 c5 w5 HF _ _ _ _ Z;go_wp2_with fail;refine Z.node ?_;intro w6 _ Z;obtain⟨⟨_,_,_,_,_⟩,_⟩:=Z.bx5;go_wp2;exact Z.fin HF (Ow.rk Z.fx.1) (by omega) rfl rfl rfl rfl
 ·intro w2 HF _ Z;go_wp2_with fail;refine Z.acc (by simp) HF rfl ?_ ?_
  ·intro w3 HF _ _ Z;go_wp2_with fail;refine Z.upper HF (λ_ _ h k=>⟨rfl,zaf h k⟩) ?_;intro w4 HF _ _ Z;go_wp2_with fail;refine Z.ex (by simp) HF (λ_ _ h k=>⟨rfl,zaf h k⟩) ?_;intro w5 HF _ _ Z;go_wp2_with fail;refine Z.its H .ctor 0 HF (by omega) (by simp) trivial rfl rfl (λ_ _=>by kernel_rfl) (λ_ _ h k=>⟨rfl,zaf h k⟩) ?_;intro n6 t6 A6 c6 w6 HF _ _ _ _ Z;go_wp2_with fail;refine Z.node ?_;intro w7 _ Z;obtain⟨⟨_,_,_,_,_⟩,_⟩:=Z.bx5;go_wp2;exact Z.fin HF (Ow.rk Z.fx.1) (by omega) rfl rfl rfl rfl
  ·intro w3 HF _ Z;go_wp2_with fail;refine Z.acc (by simp) HF rfl ?_ ?_
   ·intro w4 HF _ _ Z;go_wp2_with fail;refine Z.lower HF (λ_ _ h k=>⟨rfl,zaf h k⟩) ?_;intro w5 HF _ _ Z;go_wp2_with fail;refine Z.ns (zfi G b k rec H _ (Z.nd0 (by omega)) _ Z.ps) (zbJ G.T G.en H.adv k _) HF (λ_ _ h k=>⟨rfl,zaf h k⟩) ?_;intro n6 t6 A6 c6 w6 HF _ _ _ _ Z;go_wp2_with fail;refine Z.ex (by simp) HF (λ_ _ h k=>⟨rfl,zaf h k⟩) ?_;intro w7 HF _ _ Z;go_wp2_with fail;refine Z.nt H .typ 0 HF (by omega) trivial rfl (λ_ _ h k=>⟨rfl,zaf h k⟩) ?_;intro n8 t8 A8 c8 w8 HF _ _ _ Z;go_wp2_with (at_builtin;refine Z.wp_app Z.fx.2.1 Z.fx.1 rfl rfl rfl rfl (by omega) (by omega) (λ_=>by omega) (by omega) (by omega) (by omega) ?_);intro L9 A9 c9 w9 hL _ _ Z;rw[hL] at HF;clear hL;go_wp2_with fail;refine Z.node ?_;intro w10 _ Z;obtain⟨⟨_,_,_,_,_⟩,_⟩:=Z.bx5;go_wp2;exact Z.fin HF (Ow.rk Z.fx) (by omega) rfl rfl rfl rfl
   ·intro w4 HF _ Z;go_wp2_with fail;refine Z.acc (by simp) HF rfl ?_ ?_
    ·intro w5 HF _ _ Z;go_wp2_with fail;refine Z.lower HF (λ_ _ h k=>⟨rfl,zaf h k⟩) ?_;intro w6 HF _ _ Z;go_wp2_with fail;refine Z.ns (zgP G b k rec H _ (Z.nd0 (by omega)) _ Z.ps) (zbF G.T G.en H.adv k _) HF (λ_ _ h k=>⟨rfl,zaf h k⟩) ?_;intro n7 t7 A7 c7 w7 HF _ _ _ _ Z;go_wp2_with fail;refine Z.node ?_;intro w8 _ Z;obtain⟨⟨_,_,_,_,_⟩,_⟩:=Z.bx5;go_wp2;exact Z.fin HF (Ow.rk Z.fx.1) (by omega) rfl rfl rfl rfl
    ·intro w5 HF _ Z;go_wp2_with fail;refine Z.acc (by simp) HF rfl ?_ ?_
     ·intro w6 HF _ _ Z;go_wp2_with fail;refine Z.upper HF (λ_ _ h k=>⟨rfl,zaf h k⟩) ?_;intro w7 HF _ _ Z;go_wp2_with fail;refine Z.ns (zfi G b k rec H _ (Z.nd0 (by omega)) _ Z.ps) (zbJ G.T G.en H.adv k _) HF (λ_ _ h k=>⟨rfl,zaf h k⟩) ?_;intro n8 t8 A8 c8 w8 HF _ _ _ _ Z;go_wp2_with fail;refine Z.go (zop G b k _ (Z.nd0 (by omega)) _ Z.ps) (zdz G.T G.en _) HF (λ_ _ h k=>⟨rfl,zaf h k⟩) ?_;intro i9 t9 e w9 HF _ _ _ Z hq;obtain rfl:e=.returned (.int .i64 i9):=hq;rename_i gq _;have gq':t8.next<=t9.next:=gq;go_wp2_with fail;refine Z.ex (by simp) HF (λ_ _ h k=>⟨rfl,zaf h k⟩) ?_;intro w10 HF _ _ Z;go_wp2_with fail;replace Z:=Z.row Z.fx.1 (by omega);obtain⟨F,HQ,HK⟩:∃F:List Nd->Ps->R Nd,Hid (R.next (zdG G.T (rec .member) (⟨#[125]⟩:ByteArray) k n8 t9.adv) F=RR)/\Hid (∀l s,F l s=.ok (.mk 6 (zao G.T st.adv) i9 (zaC G.T G.en st) l,s)):=⟨_,HF,λ_ _=>rfl⟩;clear HF
      go_loopw [10] (λsv wr=>∃(j:Nat) (acc:List Nd) (t:Ps) (A:Option Addr) (c:Nat),sv=.slice A acc.length c/\acc.length<=65536+t.next/\G.T.length-t.next+1<=j/\Hid (R.next (zdG G.T (rec .member) (⟨#[125]⟩:ByteArray) j acc t) F=RR)/\t9.next+1<=t.next/\t.next<=G.T.length/\w7.heap.size<=wr.heap.size/\St G b w true (Ow w7.heap.size wr.heap.size acc (.slice A acc.length c)) t t.next wr) (λ_ wr=>G.T.length-zeG wr b)
      case atStart=>exact⟨k,n8,t9.adv,A8,c8,rfl,by omega,by show G.T.length-(t9.next+1)+1<=k;omega,HQ,Nat.le_refl _,Z.ps.le,by omega,Z⟩
      case round=>
       clear HQ Z;obtain⟨j,acc,t,A,c,rfl,hacc,hj,HF,ht1,ht2,swr,Z⟩:=hrel;obtain⟨j',rfl⟩:∃j',j=j'+1:=⟨j-1,by omega⟩;rw[zdG] at HF;replace HF:=hite HF;have hmr:=Z.psn;go_wp2_with fail;refine Z.acc (by simp) HF rfl ?_ ?_
       ·intro w11 HF _ _ Z;replace HF:=(HK.out _ _).symm.trans HF;clear hmr HK;go_wp2_with fail;refine Z.node ?_;intro w12 _ Z;obtain⟨⟨_,_,_,_,_⟩,_⟩:=Z.bx5;go_wp2;exact Z.fin HF (Ow.rk Z.fx) (by omega) rfl rfl rfl rfl
       ·intro w11 HF _ Z;replace HF:=zmS HF;go_wp2_with fail;refine Z.nt H .member 0 HF (by omega) trivial rfl (λ_ _ h k=>⟨rfl,zaf h k⟩) ?_;intro n12 t12 A12 c12 w12 HF _ _ _ Z;go_wp2_with (at_builtin;refine Z.wp_app Z.fx.2 Z.fx.1 rfl rfl rfl rfl (by omega) (by omega) (λ_=>by omega) (by omega) (by omega) (by omega) ?_);intro L13 A13 c13 w13 hL _ _ Z;rw[hL] at HF;clear hL;have hm9:=Z.psn;go_wp2_with fail;exact⟨⟨j',L13,t12,A13,c13,rfl,by omega,by omega,HF,by omega,by omega,by omega,Z⟩,by omega⟩
     ·intro w6 HF _ Z;go_wp2_with fail;have K:=zhc G b st _ Z.ps;refine K.mono ?_;rintro e we ⟨rfl,hb⟩;exact⟨rfl,zaf (by rw[<-HF.out];rfl) (Z.own.of_below hb)⟩
end
end Go.Proofs.YtcebmphappfjjaaGreatDoor
