/- Conditions: those in each statement. -/
import Derived.Test.YtjdpocmlimkjjaaGreatQ45
import Derived.Deep.RegionHeld3
import Derived.RegionDies
import Derived.Deep.RegionLaw
set_option maxHeartbeats 32000000
set_option maxRecDepth 100000
namespace Go.Proofs.YtjdpocmlimkjjaaGreat
open Go.RowKit
section
variable (G:PG) (b k:Nat) (rec:NT→Ps→R Nd) (H:Recs G b k rec)
include H
theorem zom (st:Ps) (hneed:16*(G.T.length-st.next)+11<k+1) (w:World) (h:PsAt G b w st) :
 Calls Tryz.prog 137 #[.pointer (some ⟨b,0,none⟩)] w (zaS G b QNd (zlR G.T G.en rec k st) w):=by
 obtain⟨hbw,hlim,hlen,lw0,RR,hR,w0,hw0,sw0,Z⟩:=St.head h (zlR G.T G.en rec k st);rw[hR];unfold zlR at hR;have HF:=zz hR;clear h hR;go_enter Tryz.func137,Tryz.ntmps137;go_wp2_with fail;clear hw0;refine Z.off ?_;intro w1 _ Z;go_wp2_with fail;refine Z.acc (by simp) HF rfl ?_ ?_
 ·intro w2 HF _ _ Z;go_wp2_with fail;refine Z.lower HF (λ_ _ h k=>⟨rfl,zaf h k⟩) ?_;intro w3 HF _ _ Z;go_wp2_with fail;refine Z.ex (by simp) HF (λ_ _ h k=>⟨rfl,zaf h k⟩) ?_;intro w4 HF _ _ Z;go_wp2_with fail;refine Z.nt H .expr 11 HF (by omega) trivial rfl (λ_ _ h k=>⟨rfl,zaf h k⟩) ?_;intro n5 t5 A5 c5 w5 HF _ _ _ Z;obtain⟨w6,hw,_,Z⟩:=Z.ndb n5 A5 c5;go_wp2_with fail;clear hw;refine Z.ex (by simp) HF (λ_ _ h k=>⟨rfl,zaf h k⟩) ?_;intro w7 HF _ _ Z;obtain⟨_,_,_,_,_⟩:=Cn.c5 Z.fx.1;go_wp2_with fail;obtain⟨_,Z⟩:=Z.drw;have K:=Z.run H .expr 11 (by omega) trivial rfl;cases hx:rec .expr t5.adv with
  |error a=>
   rw[hx] at K
   go_region_dies
   all_goals exact Z.er K (λ_ k=>⟨rfl,zaf (her HF hx) k⟩)
  |ok p=>
   obtain⟨n8,t8⟩:=p;rw[hx] at K;replace HF:=hok HF hx;have gt8:t5.next+1+1≤t8.next:=H.next hx;clear hx
   go_region_held3 (λw'=>w'.cell? ⟨w5.heap.size,0,none⟩=some (.int .i64 n5.kind)∧w'.cell? ⟨w5.heap.size,1,none⟩=some (.string n5.text)∧w'.cell? ⟨w5.heap.size,2,none⟩=some (.int .i64 n5.n)∧w'.cell? ⟨w5.heap.size,3,none⟩=some (.int .i64 n5.at')∧w'.cell? ⟨w5.heap.size,4,none⟩=some (.slice A5 n5.kids.length c5))
    (first|go_keep|(refine⟨?_,?_,?_,?_,?_⟩<;>(rw[zeA (by omega)];assumption)))
    (first
     |(go_at_call 137;go_loud (refine Z.okr K ?_;intro A8 c8 w8 _ _ Z;obtain⟨_,_,_,_,_⟩:=Cn.c5 Z.fx.2.1))
     |(go_at_call 82;go_loud (obtain⟨w9,hw,_,Z⟩:=Z.lit2 Z.fx.2.2.1 Z.fx.1 (by omega) (by omega) (by omega);rw[hw];clear hw;refine Z.node ?_;intro w10 _ Z;obtain⟨⟨_,_,_,_,_⟩,_⟩:=Z.bx5;obtain⟨_,_,_,_,_⟩:=Cn.c5 Z.fx.2.2.1)))
   go_wp2_with fail;exact Z.fin HF Z.fx.1 (by omega) rfl rfl rfl rfl
 ·intro w2 HF _ Z;go_wp2_with fail;refine Z.acc (by simp) HF rfl ?_ ?_
  ·intro w3 HF _ _ Z;go_wp2_with fail;refine Z.nt H .expr 11 HF (by omega) trivial rfl (λ_ _ h k=>⟨rfl,zaf h k⟩) ?_;intro n4 t4 A4 c4 w4 HF _ _ _ Z;obtain⟨w5,hw,_,Z⟩:=Z.ndb n4 A4 c4;go_wp2_with fail;clear hw;refine Z.ex (by simp) HF (λ_ _ h k=>⟨rfl,zaf h k⟩) ?_;intro w6 HF _ _ Z;go_wp2_with fail;refine Z.nt H .expr 11 HF (by omega) trivial rfl (λ_ _ h k=>⟨rfl,zaf h k⟩) ?_;intro n7 t7 A7 c7 w7 HF _ _ _ Z;obtain⟨w8,hw,_,Z⟩:=Z.ndb n7 A7 c7;go_wp2_with fail;clear hw;refine Z.ex (by simp) HF (λ_ _ h k=>⟨rfl,zaf h k⟩) ?_;intro w9 HF _ _ Z;obtain⟨_,_,_,_,_⟩:=Cn.c5 Z.fx.2.2.1;obtain⟨_,_,_,_,_⟩:=Cn.c5 Z.fx.1;go_wp2_with fail;obtain⟨_,Z⟩:=Z.drw;have K:=Z.run H .expr 11 (by omega) trivial rfl;cases hx:rec .expr t7.adv with
   |error a=>
    rw[hx] at K
    go_region_dies
    all_goals exact Z.er K (λ_ k=>⟨rfl,zaf (her HF hx) k⟩)
   |ok p=>
    obtain⟨n10,t10⟩:=p;rw[hx] at K;replace HF:=hok HF hx;have gt10:t7.next+1+1≤t10.next:=H.next hx;clear hx
    go_region_held3 (λw'=>w'.cell? ⟨w4.heap.size,0,none⟩=some (.int .i64 n4.kind)∧w'.cell? ⟨w4.heap.size,1,none⟩=some (.string n4.text)∧w'.cell? ⟨w4.heap.size,2,none⟩=some (.int .i64 n4.n)∧w'.cell? ⟨w4.heap.size,3,none⟩=some (.int .i64 n4.at')∧w'.cell? ⟨w4.heap.size,4,none⟩=some (.slice A4 n4.kids.length c4)∧w'.cell? ⟨w7.heap.size,0,none⟩=some (.int .i64 n7.kind)∧w'.cell? ⟨w7.heap.size,1,none⟩=some (.string n7.text)∧w'.cell? ⟨w7.heap.size,2,none⟩=some (.int .i64 n7.n)∧w'.cell? ⟨w7.heap.size,3,none⟩=some (.int .i64 n7.at')∧w'.cell? ⟨w7.heap.size,4,none⟩=some (.slice A7 n7.kids.length c7))
     (first|go_keep|(refine⟨?_,?_,?_,?_,?_,?_,?_,?_,?_,?_⟩<;>(rw[zeA (by omega)];assumption)))
     (first
      |(go_at_call 137;go_loud (refine Z.okr K ?_;intro A10 c10 w10 _ _ Z;obtain⟨_,_,_,_,_⟩:=Cn.c5 Z.fx.2.2.2.1;obtain⟨_,_,_,_,_⟩:=Cn.c5 Z.fx.2.1))
      |(go_at_call 82;go_loud (obtain⟨w11,hw,_,Z⟩:=Z.lit3 Z.fx.2.2.2.2.1 Z.fx.2.2.1 Z.fx.1 (by omega) (by omega) (by omega) (by omega);rw[hw];clear hw;refine Z.node ?_;intro w12 _ Z;obtain⟨⟨_,_,_,_,_⟩,_⟩:=Z.bx5;obtain⟨_,_,_,_,_⟩:=Cn.c5 Z.fx.2.2.2.2.1;obtain⟨_,_,_,_,_⟩:=Cn.c5 Z.fx.2.2.1)))
    go_wp2_with fail;exact Z.fin HF Z.fx.1 (by omega) rfl rfl rfl rfl
  ·intro w3 HF _ Z;go_wp2_with fail;refine Z.acc (by simp) HF rfl ?_ ?_
   ·intro w4 HF _ _ Z;go_wp2_with fail;refine Z.nt H .heading 12 HF (by omega) trivial rfl (λ_ _ h k=>⟨rfl,zaf h k⟩) ?_;intro n5 t5 A5 c5 w5 HF _ _ _ Z;obtain⟨w6,Lw6,hw,hL,_,_,_,Z⟩:=Z.litn Z.fx.1 (by omega) (by omega);rw[hL] at HF;clear hL;go_wp2_with fail;clear hw;refine Z.ex (by simp) HF (λ_ _ h k=>⟨rfl,zaf h k⟩) ?_;intro w7 HF _ _ Z;go_wp2_with fail;refine Z.its H .arm 0 HF (by omega) (by simp) trivial rfl rfl (λ_ _=>by kernel_rfl) (λ_ _ h k=>⟨rfl,zaf h k⟩) ?_;intro n8 t8 A8 c8 w8 HF _ _ _ _ Z;go_wp2_with (at_builtin;refine Z.wp_apps Z.fx.2.1 Z.fx.1 rfl rfl rfl rfl (by omega) (by omega) (λ_=>by omega) (by omega) (by omega) (by omega) ?_);intro L9 A9 c9 w9 hL _ _ Z;rw[hL] at HF;clear hL;go_wp2_with fail;refine Z.node ?_;intro w10 _ Z;obtain⟨⟨_,_,_,_,_⟩,_⟩:=Z.bx5;go_wp2_with fail;exact Z.fin HF (Ow.rk Z.fx) (by omega) rfl rfl rfl rfl
   ·intro w4 HF _ Z;go_wp2_with fail;refine Z.acc (by simp) HF rfl ?_ ?_
    ·intro w5 HF _ _ Z;go_wp2_with fail;refine Z.ns (zhu G b k rec H _ (Z.nd0 (by omega)) _ Z.ps) (zbP G.T G.en H.adv k _) HF (λ_ _ h k=>⟨rfl,zaf h k⟩) ?_;intro n6 t6 A6 c6 w6 HF _ _ _ _ Z;go_wp2_with fail;refine Z.node ?_;intro w7 _ Z;obtain⟨⟨_,_,_,_,_⟩,_⟩:=Z.bx5;go_wp2_with fail;exact Z.fin HF (Ow.rk Z.fx.1) (by omega) rfl rfl rfl rfl
    ·intro w5 HF _ Z;go_wp2_with fail;replace HF:=zgT HF;refine Z.nt H (.operand 1) 10 HF (by omega) ⟨by omega,by omega⟩ rfl (λ_ _ h k=>⟨rfl,zaf h k⟩) ?_;intro n6 t6 A6 c6 w6 HF _ _ _ Z;obtain⟨⟨_,_,_,_,_⟩,_⟩:=Z.bx5;go_wp2_with fail;exact Z.finx HF Z.fx.1 (by omega) rfl rfl rfl
end
section
variable (G:PG) (b k:Nat) (rec:NT→Ps→R Nd) (H:Recs G b k rec)
include H
theorem zmf (st:Ps) (hneed:16*(G.T.length-st.next)+0<k+1) (w:World) (h:PsAt G b w st) :
 Calls Tryz.prog 154 #[.pointer (some ⟨b,0,none⟩)] w (zaS G b QNd (zgi G.T G.en rec st) w):=by
 obtain⟨hbw,hlim,hlen,lw0,RR,hR,w0,hw0,sw0,Z⟩:=St.head h (zgi G.T G.en rec st);rw[hR];unfold zgi at hR;have HF:=zz hR;clear h hR;go_enter Tryz.func154,Tryz.ntmps154;go_wp2_with fail;clear hw0;refine Z.off ?_;intro w1 _ Z;go_wp2_with fail;refine Z.ex (by simp) HF (λ_ _ h k=>⟨rfl,zaf h k⟩) ?_;intro w2 HF _ _ Z;go_wp2_with fail;refine Z.nt H .heading 12 HF (by omega) trivial rfl (λ_ _ h k=>⟨rfl,zaf h k⟩) ?_;intro n3 t3 A3 c3 w3 HF _ _ _ Z;obtain⟨w4,Lw4,hw,hL,_,_,_,Z⟩:=Z.litn Z.fx.1 (by omega) (by omega);rw[hL] at HF;clear hL;go_wp2_with fail;clear hw;refine Z.nt H .block 0 HF (by omega) trivial rfl (λ_ _ h k=>⟨rfl,zaf h k⟩) ?_;intro n5 t5 A5 c5 w5 HF _ _ _ Z;go_wp2_with (at_builtin;refine Z.wp_app Z.fx.2.1 Z.fx.1 rfl rfl rfl rfl (by omega) (by omega) (λ_=>by omega) (by omega) (by omega) (by omega) ?_);intro L6 A6 c6 w6 hL _ _ Z;rw[hL] at HF;clear hL;go_wp2_with fail;refine Z.acc (by simp) HF rfl ?_ ?_
 ·intro w7 HF _ _ Z;go_wp2_with fail;refine Z.nt H .block 0 HF (by omega) trivial rfl (λ_ _ h k=>⟨rfl,zaf h k⟩) ?_;intro n8 t8 A8 c8 w8 HF _ _ _ Z;go_wp2_with (at_builtin;refine Z.wp_app Z.fx.2 Z.fx.1 rfl rfl rfl rfl (by omega) (by omega) (λ_=>by omega) (by omega) (by omega) (by omega) ?_);intro L9 A9 c9 w9 hL _ _ Z;rw[hL] at HF;clear hL;go_wp2_with fail;refine Z.node ?_;intro w10 _ Z;obtain⟨⟨_,_,_,_,_⟩,_⟩:=Z.bx5;go_wp2_with fail;exact Z.fin HF (Ow.rk Z.fx) (by omega) rfl rfl rfl rfl
 ·intro w7 HF _ Z;go_wp2_with fail;refine Z.node ?_;intro w8 _ Z;obtain⟨⟨_,_,_,_,_⟩,_⟩:=Z.bx5;go_wp2_with fail;exact Z.fin HF (Ow.rk Z.fx) (by omega) rfl rfl rfl rfl
theorem zlN (st:Ps) (hneed:16*(G.T.length-st.next)+0<k+1) (w:World) (h:PsAt G b w st) :
 Calls Tryz.prog 122 #[.pointer (some ⟨b,0,none⟩)] w (zaS G b QNd (zgf G.T G.en rec k st) w):=by
 obtain⟨hbw,hlim,hlen,lw0,RR,hR,w0,hw0,sw0,Z⟩:=St.head h (zgf G.T G.en rec k st);rw[hR];unfold zgf at hR;have HF:=zz hR;clear h hR;go_enter Tryz.func122,Tryz.ntmps122;go_wp2_with fail;clear hw0;refine Z.off ?_;intro w1 _ Z;go_wp2_with fail;refine Z.acc (by simp) HF rfl ?_ ?_
 ·intro w2 HF _ _ Z;go_wp2_with fail;refine Z.lower HF (λ_ _ h k=>⟨rfl,zaf h k⟩) ?_;intro w3 HF _ _ Z;go_wp2_with fail;refine Z.ex (by simp) HF (λ_ _ h k=>⟨rfl,zaf h k⟩) ?_;intro w4 HF _ _ Z;go_wp2_with fail;refine Z.nt H .typ 0 HF (by omega) trivial rfl (λ_ _ h k=>⟨rfl,zaf h k⟩) ?_;intro n5 t5 A5 c5 w5 HF _ _ _ Z;obtain⟨w6,hw,_,Z⟩:=Z.ndb n5 A5 c5;go_wp2_with fail;clear hw;refine Z.ex (by simp) HF (λ_ _ h k=>⟨rfl,zaf h k⟩) ?_;intro w7 HF _ _ Z;obtain⟨_,_,_,_,_⟩:=Cn.c5 Z.fx.1;go_wp2_with fail;obtain⟨_,Z⟩:=Z.drw;have K:=Z.run H .expr 11 (by omega) trivial rfl;cases hx:rec .expr t5.adv with
  |error a=>
   rw[hx] at K
   go_region_dies
   all_goals exact Z.er K (λ_ k=>⟨rfl,zaf (her HF hx) k⟩)
  |ok p=>
   obtain⟨n8,t8⟩:=p;rw[hx] at K;replace HF:=hok HF hx;have gt8:t5.next+1+1≤t8.next:=H.next hx;clear hx
   go_region_held3 (λw'=>w'.cell? ⟨w5.heap.size,0,none⟩=some (.int .i64 n5.kind)∧w'.cell? ⟨w5.heap.size,1,none⟩=some (.string n5.text)∧w'.cell? ⟨w5.heap.size,2,none⟩=some (.int .i64 n5.n)∧w'.cell? ⟨w5.heap.size,3,none⟩=some (.int .i64 n5.at')∧w'.cell? ⟨w5.heap.size,4,none⟩=some (.slice A5 n5.kids.length c5))
    (first|go_keep|(refine⟨?_,?_,?_,?_,?_⟩<;>(rw[zeA (by omega)];assumption)))
    (first
     |(go_at_call 137;go_loud (refine Z.okr K ?_;intro A8 c8 w8 _ _ Z;obtain⟨_,_,_,_,_⟩:=Cn.c5 Z.fx.2.1))
     |(go_at_call 82;go_loud (obtain⟨w9,hw,_,Z⟩:=Z.lit2 Z.fx.2.2.1 Z.fx.1 (by omega) (by omega) (by omega);rw[hw];clear hw;refine Z.node ?_;intro w10 _ Z;obtain⟨⟨_,_,_,_,_⟩,_⟩:=Z.bx5;obtain⟨_,_,_,_,_⟩:=Cn.c5 Z.fx.2.2.1)))
   go_wp2_with fail;exact Z.fin HF Z.fx.1 (by omega) rfl rfl rfl rfl
 ·intro w2 HF _ Z;go_wp2_with fail;refine Z.ex (by simp) HF (λ_ _ h k=>⟨rfl,zaf h k⟩) ?_;intro w3 HF _ _ Z;go_wp2_with fail;refine Z.upper HF (λ_ _ h k=>⟨rfl,zaf h k⟩) ?_;intro w4 HF _ _ Z;go_wp2_with fail;refine Z.ns (zfO G b k rec H _ (Z.nd0 (by omega)) _ Z.ps) (zbY G.T G.en H.adv k _) HF (λ_ _ h k=>⟨rfl,zaf h k⟩) ?_;intro n5 t5 A5 c5 w5 HF _ _ _ _ Z;go_wp2_with fail;refine Z.nt H .block 0 HF (by omega) trivial rfl (λ_ _ h k=>⟨rfl,zaf h k⟩) ?_;intro n6 t6 A6 c6 w6 HF _ _ _ Z;go_wp2_with (at_builtin;refine Z.wp_app Z.fx.2.1 Z.fx.1 rfl rfl rfl rfl (by omega) (by omega) (λ_=>by omega) (by omega) (by omega) (by omega) ?_);intro L7 A7 c7 w7 hL _ _ Z;rw[hL] at HF;clear hL;go_wp2_with fail;refine Z.node ?_;intro w8 _ Z;obtain⟨⟨_,_,_,_,_⟩,_⟩:=Z.bx5;go_wp2_with fail;exact Z.fin HF (Ow.rk Z.fx) (by omega) rfl rfl rfl rfl
theorem zrx (st:Ps) (hneed:16*(G.T.length-st.next)+0<k+1) (w:World) (h:PsAt G b w st) :
 Calls Tryz.prog 157 #[.pointer (some ⟨b,0,none⟩)] w (zaS G b QNd (doF G.T G.en rec k st) w):=by
 obtain⟨hbw,hlim,hlen,lw0,RR,hR,w0,hw0,sw0,Z⟩:=St.head h (doF G.T G.en rec k st);rw[hR];unfold doF at hR;have HF:=zz hR;clear h hR;go_enter Tryz.func157,Tryz.ntmps157;go_wp2_with fail;clear hw0;refine Z.off ?_;intro w1 _ Z;go_wp2_with fail;refine Z.ex (by simp) HF (λ_ _ h k=>⟨rfl,zaf h k⟩) ?_;intro w2 HF _ _ Z;go_wp2_with fail;refine Z.lower HF (λ_ _ h k=>⟨rfl,zaf h k⟩) ?_;intro w3 HF _ _ Z;go_wp2_with fail;refine Z.ns (zdN G b k rec H _ (Z.nd0 (by omega)) _ Z.ps) (zbh G.T G.en H.adv k _) HF (λ_ _ h k=>⟨rfl,zaf h k⟩) ?_;intro n4 t4 A4 c4 w4 HF _ _ _ _ Z;go_wp2_with fail;refine Z.ex (by simp) HF (λ_ _ h k=>⟨rfl,zaf h k⟩) ?_;intro w5 HF _ _ Z;go_wp2_with fail;refine Z.off ?_;intro w6 _ Z;go_wp2_with fail;refine Z.upper HF (λ_ _ h k=>⟨rfl,zaf h k⟩) ?_;intro w7 HF _ _ Z;go_wp2_with fail;refine Z.node ?_;intro w8 _ Z;go_wp2_with (at_builtin;refine Z.wp_app Z.fx.1 (Rk.nl w8.heap.size 75 0 (zaN G.T G.en t4.adv) (zao G.T t4.adv) w8) rfl rfl rfl rfl (by omega) (by omega) (λ_=>by omega) (by omega) (by omega) (by omega) ?_);intro L9 A9 c9 w9 hL _ _ Z;rw[hL] at HF;clear hL;go_wp2_with fail;refine Z.node ?_;intro w10 _ Z;obtain⟨⟨_,_,_,_,_⟩,_⟩:=Z.bx5;go_wp2_with fail;exact Z.fin HF (Ow.rk Z.fx) (by omega) rfl rfl rfl rfl
theorem zoh (st:Ps) (hneed:16*(G.T.length-st.next)+0<k+1) (w:World) (h:PsAt G b w st) :
 Calls Tryz.prog 156 #[.pointer (some ⟨b,0,none⟩)] w (zaS G b QNd (zlE G.T G.en rec k st) w):=by
 obtain⟨hbw,hlim,hlen,lw0,RR,hR,w0,hw0,sw0,Z⟩:=St.head h (zlE G.T G.en rec k st);rw[hR];unfold zlE at hR;have HF:=zz hR;clear h hR;go_enter Tryz.func156,Tryz.ntmps156;go_wp2_with fail;clear hw0;refine Z.off ?_;intro w1 _ Z;go_wp2_with fail;refine Z.ex (by simp) HF (λ_ _ h k=>⟨rfl,zaf h k⟩) ?_;intro w2 HF _ _ Z;go_wp2_with fail;refine Z.nt H .expr 11 HF (by omega) trivial rfl (λ_ _ h k=>⟨rfl,zaf h k⟩) ?_;intro n3 t3 A3 c3 w3 HF _ _ _ Z;obtain⟨w4,Lw4,hw,hL,_,_,_,Z⟩:=Z.litn Z.fx.1 (by omega) (by omega);rw[hL] at HF;clear hL;go_wp2_with fail;clear hw;refine Z.upper HF (λ_ _ h k=>⟨rfl,zaf h k⟩) ?_;intro w5 HF _ _ Z;go_wp2_with fail;refine Z.ns (zdN G b k rec H _ (Z.nd0 (by omega)) _ Z.ps) (zbh G.T G.en H.adv k _) HF (λ_ _ h k=>⟨rfl,zaf h k⟩) ?_;intro n6 t6 A6 c6 w6 HF _ _ _ _ Z;go_wp2_with (at_builtin;refine Z.wp_apps Z.fx.2.1 Z.fx.1 rfl rfl rfl rfl (by omega) (by omega) (λ_=>by omega) (by omega) (by omega) (by omega) ?_);intro L7 A7 c7 w7 hL _ _ Z;rw[hL] at HF;clear hL;go_wp2_with fail;refine Z.node ?_;intro w8 _ Z;obtain⟨⟨_,_,_,_,_⟩,_⟩:=Z.bx5;go_wp2_with fail;exact Z.fin HF (Ow.rk Z.fx) (by omega) rfl rfl rfl rfl
theorem znl (st:Ps) (hneed:16*(G.T.length-st.next)+0<k+1) (w:World) (h:PsAt G b w st) :
 Calls Tryz.prog 138 #[.pointer (some ⟨b,0,none⟩)] w (zaS G b QNd (zid G.T G.en rec k st) w):=by
 obtain⟨hbw,hlim,hlen,lw0,RR,hR,w0,hw0,sw0,Z⟩:=St.head h (zid G.T G.en rec k st);rw[hR];unfold zid at hR;have HF:=zz hR;clear h hR;go_enter Tryz.func138,Tryz.ntmps138;go_wp2_with fail;clear hw0;refine Z.off ?_;intro w1 _ Z;go_wp2_with fail;refine Z.ex (by simp) HF (λ_ _ h k=>⟨rfl,zaf h k⟩) ?_;intro w2 HF _ _ Z;go_wp2_with fail;replace Z:=Z.row0 (lo:=w2.heap.size) (by omega);obtain⟨F,HQ,HK⟩:∃F:List Nd→Ps→R Nd,Hid (R.next (zcO G.T (rec .stmt) (⟨#[125]⟩:ByteArray) k [] st.adv) F=RR)∧Hid (∀l s,F l s=.ok (.mk 11 ⟨#[]⟩ 0 (zaN G.T G.en st) l,s)):=⟨_,HF,λ_ _=>rfl⟩;clear HF
 go_loopw [4] (λsv wr=>∃(j:Nat) (acc:List Nd) (t:Ps) (A:Option Addr) (c:Nat),sv=.slice A acc.length c∧acc.length≤65536+t.next∧G.T.length-t.next+1≤j∧Hid (R.next (zcO G.T (rec .stmt) (⟨#[125]⟩:ByteArray) j acc t) F=RR)∧st.next+1≤t.next∧t.next≤G.T.length∧w2.heap.size≤wr.heap.size∧St G b w true (Ow w2.heap.size wr.heap.size acc (.slice A acc.length c)) t t.next wr) (λ_ wr=>G.T.length-zfh wr b)
 case atStart=>exact⟨k,[],st.adv,none,0,rfl,by simp,by show G.T.length-(st.next+1)+1≤k;omega,HQ,Nat.le_refl _,Z.ps.le,by omega,Z⟩
 case round=>
  clear HQ Z;obtain⟨j,acc,t,A,c,rfl,hacc,hj,HF,ht1,ht2,swr,Z⟩:=hrel;obtain⟨j',rfl⟩:∃j',j=j'+1:=⟨j-1,by omega⟩;rw[zcO] at HF;replace HF:=hite HF;have hmr:=Z.psn;go_wp2_with fail;refine Z.acc (by simp) HF rfl ?_ ?_
  ·intro w3 HF _ _ Z;replace HF:=(HK.out _ _).symm.trans HF;clear hmr HK;go_wp2_with fail;refine Z.node ?_;intro w4 _ Z;obtain⟨⟨_,_,_,_,_⟩,_⟩:=Z.bx5;go_wp2_with fail;exact Z.fin HF (Ow.rk Z.fx) (by omega) rfl rfl rfl rfl
  ·intro w3 HF _ Z;replace HF:=zmJ HF;go_wp2_with fail;refine Z.nt H .stmt 1 HF (by omega) trivial rfl (λ_ _ h k=>⟨rfl,zaf h k⟩) ?_;intro n4 t4 A4 c4 w4 HF _ _ _ Z;go_wp2_with (at_builtin;refine Z.wp_app Z.fx.2 Z.fx.1 rfl rfl rfl rfl (by omega) (by omega) (λ_=>by omega) (by omega) (by omega) (by omega) ?_);intro L5 A5 c5 w5 hL _ _ Z;rw[hL] at HF;clear hL;have hm9:=Z.psn;go_wp2_with fail;exact⟨⟨j',L5,t4,A5,c5,rfl,by omega,by omega,HF,by omega,by omega,by omega,Z⟩,by omega⟩
theorem znP (st:Ps) (hneed:16*(G.T.length-st.next)+0<k+1) (w:World) (h:PsAt G b w st) :
 Calls Tryz.prog 155 #[.pointer (some ⟨b,0,none⟩)] w (zaS G b QNd (ziM G.T G.en rec k st) w):=by
 obtain⟨hbw,hlim,hlen,lw0,RR,hR,w0,hw0,sw0,Z⟩:=St.head h (ziM G.T G.en rec k st);rw[hR];unfold ziM at hR;have HF:=zz hR;clear h hR;go_enter Tryz.func155,Tryz.ntmps155;go_wp2_with fail;clear hw0;refine Z.off ?_;intro w1 _ Z;go_wp2_with fail;refine Z.ex (by simp) HF (λ_ _ h k=>⟨rfl,zaf h k⟩) ?_;intro w2 HF _ _ Z;go_wp2_with fail;refine Z.nt H .heading 12 HF (by omega) trivial rfl (λ_ _ h k=>⟨rfl,zaf h k⟩) ?_;intro n3 t3 A3 c3 w3 HF _ _ _ Z;obtain⟨w4,Lw4,hw,hL,_,_,_,Z⟩:=Z.litn Z.fx.1 (by omega) (by omega);rw[hL] at HF;clear hL;go_wp2_with fail;clear hw;refine Z.ex (by simp) HF (λ_ _ h k=>⟨rfl,zaf h k⟩) ?_;intro w5 HF _ _ Z;go_wp2_with fail;refine Z.nt H .sarm 0 HF (by omega) trivial rfl (λ_ _ h k=>⟨rfl,zaf h k⟩) ?_;intro n6 t6 A6 c6 w6 HF _ _ _ Z;go_wp2_with (at_builtin;refine Z.wp_app Z.fx.2.1 Z.fx.1 rfl rfl rfl rfl (by omega) (by omega) (λ_=>by omega) (by omega) (by omega) (by omega) ?_);intro L7 A7 c7 w7 hL _ _ Z;rw[hL] at HF;clear hL;go_wp2_with fail;replace Z:=Z.row Z.fx (by omega);obtain⟨F,HQ,HK⟩:∃F:List Nd→Ps→R Nd,Hid (R.next (zcO G.T (rec .sarm) (⟨#[125]⟩:ByteArray) k L7 t6) F=RR)∧Hid (∀l s,F l s=.ok (.mk 53 ⟨#[]⟩ 0 (zaN G.T G.en st) l,s)):=⟨_,HF,λ_ _=>rfl⟩;clear HF
 go_loopw [4] (λsv wr=>∃(j:Nat) (acc:List Nd) (t:Ps) (A:Option Addr) (c:Nat),sv=.slice A acc.length c∧acc.length≤65536+t.next∧G.T.length-t.next+1≤j∧Hid (R.next (zcO G.T (rec .sarm) (⟨#[125]⟩:ByteArray) j acc t) F=RR)∧t6.next≤t.next∧t.next≤G.T.length∧w2.heap.size≤wr.heap.size∧St G b w true (Ow w2.heap.size wr.heap.size acc (.slice A acc.length c)) t t.next wr) (λ_ wr=>G.T.length-zfh wr b)
 case atStart=>exact⟨k,L7,t6,A7,c7,rfl,by omega,by show G.T.length-(t6.next)+1≤k;omega,HQ,Nat.le_refl _,Z.ps.le,by omega,Z⟩
 case round=>
  clear HQ Z;obtain⟨j,acc,t,A,c,rfl,hacc,hj,HF,ht1,ht2,swr,Z⟩:=hrel;obtain⟨j',rfl⟩:∃j',j=j'+1:=⟨j-1,by omega⟩;rw[zcO] at HF;replace HF:=hite HF;have hmr:=Z.psn;go_wp2_with fail;refine Z.acc (by simp) HF rfl ?_ ?_
  ·intro w8 HF _ _ Z;replace HF:=(HK.out _ _).symm.trans HF;clear hmr HK;go_wp2_with fail;refine Z.node ?_;intro w9 _ Z;obtain⟨⟨_,_,_,_,_⟩,_⟩:=Z.bx5;go_wp2_with fail;exact Z.fin HF (Ow.rk Z.fx) (by omega) rfl rfl rfl rfl
  ·intro w8 HF _ Z;replace HF:=zmJ HF;go_wp2_with fail;refine Z.nt H .sarm 0 HF (by omega) trivial rfl (λ_ _ h k=>⟨rfl,zaf h k⟩) ?_;intro n9 t9 A9 c9 w9 HF _ _ _ Z;go_wp2_with (at_builtin;refine Z.wp_app Z.fx.2 Z.fx.1 rfl rfl rfl rfl (by omega) (by omega) (λ_=>by omega) (by omega) (by omega) (by omega) ?_);intro L10 A10 c10 w10 hL _ _ Z;rw[hL] at HF;clear hL;have hm9:=Z.psn;go_wp2_with fail;exact⟨⟨j',L10,t9,A10,c10,rfl,by omega,by omega,HF,by omega,by omega,by omega,Z⟩,by omega⟩
end
end Go.Proofs.YtjdpocmlimkjjaaGreat
