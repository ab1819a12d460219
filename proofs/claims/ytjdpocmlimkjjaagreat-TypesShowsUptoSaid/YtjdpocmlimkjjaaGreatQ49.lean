/- Conditions: those in each statement. -/
import Derived.Test.YtjdpocmlimkjjaaGreatQ45
import Derived.Test.YtjdpocmlimkjjaaGreatQ48
import Derived.Deep.RegionHeld3
import Derived.RegionDies
import Derived.Deep.RegionLaw
set_option maxHeartbeats 32000000
set_option maxRecDepth 100000
namespace Go.Proofs.YtjdpocmlimkjjaaGreat
open Go.RowKit
section
variable (G:PG) (b k:Nat) (rec:NT→Ps→R Nd) (H:Recs G b k rec)
include H
theorem zkR (at' a:Int) (sb:ByteArray) (st:Ps) (hneed:16*(G.T.length-st.next)<k+5) (wo:World) (h0:PsAt G b wo st) :
 Calls Tryz.prog 153 #[.pointer (some ⟨b,0,none⟩),.int .i64 at',.agg #[.int .i64 40,.string sb,.int .i64 0,.int .i64 a,.slice none 0 0]] wo (zaS G b QNd (zfi G.T G.en rec k at' (.mk 40 sb 0 a []) st) wo):=by
 have hb0:=(Below.refl wo.heap.size wo).alloc (Nat.le_refl _) (.cells #[.int .i64 40,.string sb,.int .i64 0,.int .i64 a,.slice none 0 0] 25);have hx0:Cn wo.heap.size (.int .i64 40) (.string sb) (.int .i64 0) (.int .i64 a) (.slice none 0 0) _:=zac.new wo #[.int .i64 40,.string sb,.int .i64 0,.int .i64 a,.slice none 0 0] 25;have sw:wo.heap.size+1≤(wo.alloc (.cells #[.int .i64 40,.string sb,.int .i64 0,.int .i64 a,.slice none 0 0] 25)).heap.size:=by simp
 have hbo0:=h0.lt;obtain⟨w,hwo⟩:∃W,wo.alloc (.cells #[.int .i64 40,.string sb,.int .i64 0,.int .i64 a,.slice none 0 0] 25)=W:=⟨_,rfl⟩;rw[hwo] at hb0 hx0 sw;have h:=h0.below hb0;refine Calls.mono (R:=zaS G b QNd (zfi G.T G.en rec k at' (.mk 40 sb 0 a []) st) w) ?_ (λe W hq=>hq.lift hb0);clear h0 hb0;obtain⟨hbw,hlim,hlen,lw0,RR,hR,w0,hw0,sw0,Z⟩:=St.head h (zfi G.T G.en rec k at' (.mk 40 sb 0 a []) st);rw[hR];unfold zfi at hR;have HF:=zz hR;replace Z:=Z.add (F':=Cn wo.heap.size (.int .i64 40) (.string sb) (.int .i64 0) (.int .i64 a) (.slice none 0 0)) (hw0▸Cn.al hx0 _) (λ_ _ _ k=>Cn.ls (by omega) k);clear h hR hx0;go_enter Tryz.func153,Tryz.ntmps153;go_wp2_with fail;clear hw0 hwo;refine Z.ex (by simp) HF (λ_ _ h k=>⟨rfl,zaf h k⟩) ?_;intro w1 HF _ _ Z;go_wp2_with fail;refine Z.upper HF (λ_ _ h k=>⟨rfl,zaf h k⟩) ?_;intro w2 HF _ _ Z;obtain⟨_,_,_,_,_⟩:=Cn.c5 Z.fx.1;go_wp2_with fail;obtain⟨sdA,ZA⟩:=Z.litd (Nd.mk 40 sb 0 a []) none 0 (Bk.nl wo.heap.size w2.heap.size 40 0 a sb w2) (by omega) (by omega) (by omega);obtain⟨sdB,ZB⟩:=Z.drw;obtain⟨_,_,_,_,_⟩:=Cn.c5 ZB.fx.1;have KC:=zz (λW h=>zdN G b k rec H st.adv.adv (show 16*(G.T.length-(st.next+1+1))<k+5 by omega) W h);cases hx:zbB G.T G.en rec k st.adv.adv with
 |error a=>
  simp only[hx] at KC
  go_region_dies
  all_goals first|exact ZA.er (KC.out _ ZA.ps) (λ_ k=>⟨rfl,zaf (her HF hx) k⟩)|exact ZB.er (KC.out _ ZB.ps) (λ_ k=>⟨rfl,zaf (her HF hx) k⟩)
 |ok p=>
  obtain⟨m,t3⟩:=p;simp only[hx] at KC;replace HF:=hok HF hx;have gt:st.next+1+1+1≤t3.next:=zbh G.T G.en H.adv k st.adv.adv _ _ hx;clear hx
  go_region_law (first
   |(go_simp;go_at_call 115;refine ZA.okn (KC.out _ ZA.ps) ?_;intro AA cA wA hlm _ _ ZA;have SA:=zpn (lo':=w2.heap.size) (g:=w2.heap.size) ZA.fx.1.1 (by omega) (by omega))
   |(go_simp;go_at_call 115;refine ZB.okn (KC.out _ ZB.ps) ?_;intro AB cB wB hlm _ _ ZB;obtain⟨_,_,_,_,_⟩:=Cn.c5 ZB.fx.2.1;obtain⟨slB,SB,ZC⟩:=ZB.litm (Nd.mk 40 sb 0 a []) none 0 ZB.fx.1 (Bk.nl wo.heap.size w2.heap.size 40 0 a sb wB) (by omega) (by omega) (by omega))
   |(refine ZA.stp_apps (.inl rfl) ZA.fx.2.1 ZA.fx.2.2.1 SA rfl rfl rfl rfl rfl (by omega) (by omega) (by omega) (by omega) (by omega) (Nat.le_trans (Nat.add_le_add_left hlm 1) (by decide)) ?_;intro LL A9 c9 w9 hL zL _ Z;replace zL:LL.length≤1+m.length:=zL;rw[hL] at HF;clear hL)
   |(refine ZC.stp_apps (.inr rfl) ZC.fx.1 ZC.fx.2.2.1 SB rfl rfl rfl rfl rfl (by omega) (by omega) (by omega) (by omega) (by omega) (Nat.le_trans (Nat.add_le_add_left hlm 1) (by decide)) ?_;intro LL A9 c9 w9 hL zL _ Z;replace zL:LL.length≤1+m.length:=zL;rw[hL] at HF;clear hL)
   |(refine ZC.stp_apps (.inl rfl) ZC.fx.1 ZC.fx.2.2.1 SB rfl rfl rfl rfl rfl (by omega) (by omega) (by omega) (by omega) (by omega) (Nat.le_trans (Nat.add_le_add_left hlm 1) (by decide)) ?_;intro LL A9 c9 w9 hL zL _ Z;replace zL:LL.length≤1+m.length:=zL;rw[hL] at HF;clear hL))
  all_goals (
   replace Z:=Z.row ⟨Z.fx.1.1.owned,Z.fx.1.2⟩ (by omega);go_wp2_with fail;refine Z.acc (by simp) HF rfl ?_ ?_
   ·intro w3 HF _ _ Z;go_wp2_with fail;refine Z.nt H .expr 11 HF (by omega) trivial rfl (λ_ _ h k=>⟨rfl,zaf h k⟩) ?_;intro n4 t4 A4 c4 w4 HF _ _ _ Z;go_wp2_with (at_builtin;refine Z.wp_app Z.fx.2 Z.fx.1 rfl rfl rfl rfl (by omega) (by omega) (λ_=>by omega) (by omega) (by omega) (by omega) ?_);intro L5 A5 c5 w5 hL _ _ Z;rw[hL] at HF;clear hL;go_wp2_with fail;refine Z.node ?_;intro w6 _ Z;obtain⟨⟨_,_,_,_,_⟩,_⟩:=Z.bx5;go_wp2_with fail;exact Z.fin HF (Ow.rk Z.fx) (by omega) rfl rfl rfl rfl
   ·intro w3 HF _ Z;go_wp2_with fail;refine Z.node ?_;intro w4 _ Z;obtain⟨⟨_,_,_,_,_⟩,_⟩:=Z.bx5;go_wp2_with fail;exact Z.fin HF (Ow.rk Z.fx) (by omega) rfl rfl rfl rfl)
theorem zqy (st:Ps) (hneed:16*(G.T.length-st.next)+0<k+1) (w:World) (h:PsAt G b w st) :
 Calls Tryz.prog 152 #[.pointer (some ⟨b,0,none⟩)] w (zaS G b QNd (letF G.T G.en rec k st) w):=by
 obtain⟨hbw,hlim,hlen,lw0,RR,hR,w0,hw0,sw0,Z⟩:=St.head h (letF G.T G.en rec k st);rw[hR];unfold letF at hR;have HF:=zz hR;clear h hR;go_enter Tryz.func152,Tryz.ntmps152;go_wp2_with fail;clear hw0;refine Z.off ?_;intro w1 _ Z;go_wp2_with fail;refine Z.ex (by simp) HF (λ_ _ h k=>⟨rfl,zaf h k⟩) ?_;intro w2 HF _ _ Z;go_wp2_with fail;refine Z.off ?_;intro w3 _ Z;go_wp2_with fail;refine Z.lower HF (λ_ _ h k=>⟨rfl,zaf h k⟩) ?_;intro w4 HF _ _ Z;go_wp2_with fail;refine Z.ex (by simp) HF (λ_ _ h k=>⟨rfl,zaf h k⟩) ?_;intro w5 HF _ _ Z;go_wp2_with fail
 by_cases hw1:zao G.T st.adv.adv.adv=(⟨#[115,112,97,119,110]⟩:ByteArray)
 ·replace HF:=zgT (hpos HF hw1);refine Z.wd hw1 ?_;intro w6 _ Z;clear hw1;go_wp2_with fail;refine Z.node ?_;intro w7 _ Z;go_wp2_with fail;refine Z.gn (zkR G b k rec H _ _ _ _ (Z.nd0 (by omega)) _ Z.ps) (zcI G.T G.en H.adv k _ _ _) HF (λ_ _ h k=>⟨rfl,zaf h k⟩) ?_;intro n8 t8 A8 c8 w8 HF _ _ _ Z;obtain⟨⟨_,_,_,_,_⟩,_⟩:=Z.bx5;go_wp2_with fail;exact Z.finx HF Z.fx.1 (by omega) rfl rfl rfl
 ·replace HF:=hneg HF hw1;have ew:=zam hw1;refine Z.wd rfl ?_;intro w6 _ Z;go_wp2_with fail;clear ew hw1;refine Z.nt H .expr 11 HF (by omega) trivial rfl (λ_ _ h k=>⟨rfl,zaf h k⟩) ?_;intro n7 t7 A7 c7 w7 HF _ _ _ Z;go_wp2_with fail;obtain⟨w8,hw,_,Z⟩:=Z.lit1 Z.fx.1 (by omega) (by omega);rw[hw];clear hw;refine Z.node ?_;intro w9 _ Z;obtain⟨⟨_,_,_,_,_⟩,_⟩:=Z.bx5;go_wp2_with fail;exact Z.fin HF Z.fx.1 (by omega) rfl rfl rfl rfl
theorem znY (st:Ps) (hneed:16*(G.T.length-st.next)+1<k+1) (w:World) (h:PsAt G b w st) :
 Calls Tryz.prog 145 #[.pointer (some ⟨b,0,none⟩)] w (zaS G b QNd (zlk G.T G.en rec k st) w):=by
 obtain⟨hbw,hlim,hlen,lw0,RR,hR,w0,hw0,sw0,Z⟩:=St.head h (zlk G.T G.en rec k st);rw[hR];unfold zlk at hR;have HF:=zz hR;clear h hR;go_enter Tryz.func145,Tryz.ntmps145;go_wp2_with fail;clear hw0;refine Z.off ?_;intro w1 _ Z;go_wp2_with fail
 by_cases hb1_0:zao G.T st=(⟨#[108,101,116]⟩:ByteArray)
 ·have hm:=Z.more (by rw[hb1_0];simp);replace HF:=hpos HF hb1_0;refine Z.wd hb1_0 ?_;intro w2 _ Z;clear hb1_0;go_wp2_with fail;replace HF:=zgT HF;refine Z.nt H .letS 0 HF (by omega) trivial rfl (λ_ _ h k=>⟨rfl,zaf h k⟩) ?_;intro n3 t3 A3 c3 w3 HF _ _ _ Z;obtain⟨⟨_,_,_,_,_⟩,_⟩:=Z.bx5;go_wp2_with fail;exact Z.finx HF Z.fx.1 (by omega) rfl rfl rfl
 ·replace HF:=hneg HF hb1_0
  by_cases hb1_1:zao G.T st=(⟨#[115,112,97,119,110]⟩:ByteArray)
  ·have hm:=Z.more (by rw[hb1_1];simp);replace HF:=hpos HF hb1_1;refine Z.wd hb1_1 ?_;intro w2 _ Z;clear hb1_1;replace HF:=zgT HF;go_wp2_with fail;refine Z.node ?_;intro w3 _ Z;go_wp2_with fail;refine Z.gn (zkR G b k rec H _ _ _ _ (Z.nd0 (by omega)) _ Z.ps) (zcI G.T G.en H.adv k _ _ _) HF (λ_ _ h k=>⟨rfl,zaf h k⟩) ?_;intro n4 t4 A4 c4 w4 HF _ _ _ Z;obtain⟨⟨_,_,_,_,_⟩,_⟩:=Z.bx5;go_wp2_with fail;exact Z.finx HF Z.fx.1 (by omega) rfl rfl rfl
  ·replace HF:=hneg HF hb1_1
   by_cases hb1_2:zao G.T st=(⟨#[105,102]⟩:ByteArray)
   ·have hm:=Z.more (by rw[hb1_2];simp);replace HF:=hpos HF hb1_2;refine Z.wd hb1_2 ?_;intro w2 _ Z;clear hb1_2;go_wp2_with fail;replace HF:=zgT HF;refine Z.nt H .branch 0 HF (by omega) trivial rfl (λ_ _ h k=>⟨rfl,zaf h k⟩) ?_;intro n3 t3 A3 c3 w3 HF _ _ _ Z;obtain⟨⟨_,_,_,_,_⟩,_⟩:=Z.bx5;go_wp2_with fail;exact Z.finx HF Z.fx.1 (by omega) rfl rfl rfl
   ·replace HF:=hneg HF hb1_2
    by_cases hb1_3:zao G.T st=(⟨#[109,97,116,99,104]⟩:ByteArray)
    ·have hm:=Z.more (by rw[hb1_3];simp);replace HF:=hpos HF hb1_3;refine Z.wd hb1_3 ?_;intro w2 _ Z;clear hb1_3;go_wp2_with fail;replace HF:=zgT HF;refine Z.nt H .cases 0 HF (by omega) trivial rfl (λ_ _ h k=>⟨rfl,zaf h k⟩) ?_;intro n3 t3 A3 c3 w3 HF _ _ _ Z;obtain⟨⟨_,_,_,_,_⟩,_⟩:=Z.bx5;go_wp2_with fail;exact Z.finx HF Z.fx.1 (by omega) rfl rfl rfl
    ·replace HF:=hneg HF hb1_3
     by_cases hb1_4:zao G.T st=(⟨#[102,111,114]⟩:ByteArray)
     ·have hm:=Z.more (by rw[hb1_4];simp);replace HF:=hpos HF hb1_4;refine Z.wd hb1_4 ?_;intro w2 _ Z;clear hb1_4;obtain⟨_,_,hwr,w3,hw3,_,Z⟩:=Z.adv1 (by omega);go_wp2_with fail;clear hw3 hwr;refine Z.lower HF (λ_ _ h k=>⟨rfl,zaf h k⟩) ?_;intro w4 HF _ _ Z;go_wp2_with fail;refine Z.ex (by simp) HF (λ_ _ h k=>⟨rfl,zaf h k⟩) ?_;intro w5 HF _ _ Z;go_wp2_with fail;refine Z.nt H .heading 12 HF (by omega) trivial rfl (λ_ _ h k=>⟨rfl,zaf h k⟩) ?_;intro n6 t6 A6 c6 w6 HF _ _ _ Z;obtain⟨w7,hw,_,Z⟩:=Z.ndb n6 A6 c6;go_wp2_with fail;clear hw;obtain⟨_,_,_,_,_⟩:=Cn.c5 Z.fx.1;obtain⟨_,Z⟩:=Z.drw;have K:=Z.run H .block 0 (by omega) trivial rfl;cases hx:rec .block t6 with
      |error a=>
       rw[hx] at K
       go_region_dies
       all_goals exact Z.er K (λ_ k=>⟨rfl,zaf (her HF hx) k⟩)
      |ok p=>
       obtain⟨n8,t8⟩:=p;rw[hx] at K;replace HF:=hok HF hx;have gt8:t6.next+1≤t8.next:=H.next hx;clear hx
       go_region_held3 (λw'=>w'.cell? ⟨w6.heap.size,0,none⟩=some (.int .i64 n6.kind)∧w'.cell? ⟨w6.heap.size,1,none⟩=some (.string n6.text)∧w'.cell? ⟨w6.heap.size,2,none⟩=some (.int .i64 n6.n)∧w'.cell? ⟨w6.heap.size,3,none⟩=some (.int .i64 n6.at')∧w'.cell? ⟨w6.heap.size,4,none⟩=some (.slice A6 n6.kids.length c6))
        (first|go_keep|(refine⟨?_,?_,?_,?_,?_⟩<;>(rw[zeA (by omega)];assumption)))
        (first
         |(go_at_call 138;go_loud (refine Z.okr K ?_;intro A8 c8 w8 _ _ Z;obtain⟨_,_,_,_,_⟩:=Cn.c5 Z.fx.2.1))
         |(go_at_call 82;go_loud (obtain⟨w9,hw,_,Z⟩:=Z.lit2 Z.fx.2.2.1 Z.fx.1 (by omega) (by omega) (by omega);rw[hw];clear hw;refine Z.node ?_;intro w10 _ Z;obtain⟨⟨_,_,_,_,_⟩,_⟩:=Z.bx5;obtain⟨_,_,_,_,_⟩:=Cn.c5 Z.fx.2.2.1)))
       go_wp2_with fail;exact Z.fin HF Z.fx.1 (by omega) rfl rfl rfl rfl
     ·replace HF:=hneg HF hb1_4
      by_cases hb1_5:zao G.T st=(⟨#[115,101,110,100]⟩:ByteArray)
      ·have hm:=Z.more (by rw[hb1_5];simp);replace HF:=hpos HF hb1_5;refine Z.wd hb1_5 ?_;intro w2 _ Z;clear hb1_5;go_wp2_with fail;replace HF:=zgT HF;refine Z.nt H .send 0 HF (by omega) trivial rfl (λ_ _ h k=>⟨rfl,zaf h k⟩) ?_;intro n3 t3 A3 c3 w3 HF _ _ _ Z;obtain⟨⟨_,_,_,_,_⟩,_⟩:=Z.bx5;go_wp2_with fail;exact Z.finx HF Z.fx.1 (by omega) rfl rfl rfl
      ·replace HF:=hneg HF hb1_5
       by_cases hb1_6:zao G.T st=(⟨#[97,102,116,101,114]⟩:ByteArray)
       ·have hm:=Z.more (by rw[hb1_6];simp);replace HF:=hpos HF hb1_6;refine Z.wd hb1_6 ?_;intro w2 _ Z;clear hb1_6;obtain⟨_,_,hwr,w3,hw3,_,Z⟩:=Z.adv1 (by omega);go_wp2_with fail;clear hw3 hwr;refine Z.nt H .expr 11 HF (by omega) trivial rfl (λ_ _ h k=>⟨rfl,zaf h k⟩) ?_;intro n4 t4 A4 c4 w4 HF _ _ _ Z;obtain⟨w5,hw,_,Z⟩:=Z.ndb n4 A4 c4;go_wp2_with fail;clear hw;obtain⟨_,_,_,_,_⟩:=Cn.c5 Z.fx.1;obtain⟨_,Z⟩:=Z.drw;have K:=Z.run H .send 0 (by omega) trivial rfl;cases hx:rec .send t4 with
        |error a=>
         rw[hx] at K
         go_region_dies
         all_goals exact Z.er K (λ_ k=>⟨rfl,zaf (her HF hx) k⟩)
        |ok p=>
         obtain⟨n6,t6⟩:=p;rw[hx] at K;replace HF:=hok HF hx;have gt6:t4.next+1≤t6.next:=H.next hx;clear hx
         go_region_held3 (λw'=>w'.cell? ⟨w4.heap.size,0,none⟩=some (.int .i64 n4.kind)∧w'.cell? ⟨w4.heap.size,1,none⟩=some (.string n4.text)∧w'.cell? ⟨w4.heap.size,2,none⟩=some (.int .i64 n4.n)∧w'.cell? ⟨w4.heap.size,3,none⟩=some (.int .i64 n4.at')∧w'.cell? ⟨w4.heap.size,4,none⟩=some (.slice A4 n4.kids.length c4))
          (first|go_keep|(refine⟨?_,?_,?_,?_,?_⟩<;>(rw[zeA (by omega)];assumption)))
          (first
           |(go_at_call 156;go_loud (refine Z.okr K ?_;intro A6 c6 w6 _ _ Z;obtain⟨_,_,_,_,_⟩:=Cn.c5 Z.fx.2.1))
           |(go_at_call 82;go_loud (obtain⟨w7,hw,_,Z⟩:=Z.lit2 Z.fx.2.2.1 Z.fx.1 (by omega) (by omega) (by omega);rw[hw];clear hw;refine Z.node ?_;intro w8 _ Z;obtain⟨⟨_,_,_,_,_⟩,_⟩:=Z.bx5;obtain⟨_,_,_,_,_⟩:=Cn.c5 Z.fx.2.2.1)))
         go_wp2_with fail;exact Z.fin HF Z.fx.1 (by omega) rfl rfl rfl rfl
       ·replace HF:=hneg HF hb1_6
        by_cases hb1_7:zao G.T st=(⟨#[100,111]⟩:ByteArray)
        ·have hm:=Z.more (by rw[hb1_7];simp);replace HF:=hpos HF hb1_7;refine Z.wd hb1_7 ?_;intro w2 _ Z;clear hb1_7;go_wp2_with fail;replace HF:=zgT HF;refine Z.nt H .doS 0 HF (by omega) trivial rfl (λ_ _ h k=>⟨rfl,zaf h k⟩) ?_;intro n3 t3 A3 c3 w3 HF _ _ _ Z;obtain⟨⟨_,_,_,_,_⟩,_⟩:=Z.bx5;go_wp2_with fail;exact Z.finx HF Z.fx.1 (by omega) rfl rfl rfl
        ·replace HF:=hneg HF hb1_7
         by_cases hb1_8:zao G.T st=(⟨#[115,116,111,112]⟩:ByteArray)
         ·have hm:=Z.more (by rw[hb1_8];simp);replace HF:=hpos HF hb1_8;refine Z.wd hb1_8 ?_;intro w2 _ Z;clear hb1_8;obtain⟨_,_,hwr,w3,hw3,_,Z⟩:=Z.adv1 (by omega);go_wp2_with fail;clear hw3 hwr;refine Z.node ?_;intro w4 _ Z;obtain⟨⟨_,_,_,_,_⟩,_⟩:=Z.bx5;go_wp2_with fail;exact Z.fin0 HF rfl rfl rfl
         ·replace HF:=hneg HF hb1_8
          by_cases hb1_9:zao G.T st=(⟨#[102,97,105,108]⟩:ByteArray)
          ·have hm:=Z.more (by rw[hb1_9];simp);replace HF:=hpos HF hb1_9;refine Z.wd hb1_9 ?_;intro w2 _ Z;clear hb1_9;obtain⟨_,_,hwr,w3,hw3,_,Z⟩:=Z.adv1 (by omega);go_wp2_with fail;clear hw3 hwr;refine Z.nt H .expr 11 HF (by omega) trivial rfl (λ_ _ h k=>⟨rfl,zaf h k⟩) ?_;intro n4 t4 A4 c4 w4 HF _ _ _ Z;go_wp2_with fail;obtain⟨w5,hw,_,Z⟩:=Z.lit1 Z.fx.1 (by omega) (by omega);rw[hw];clear hw;refine Z.node ?_;intro w6 _ Z;obtain⟨⟨_,_,_,_,_⟩,_⟩:=Z.bx5;go_wp2_with fail;exact Z.fin HF Z.fx.1 (by omega) rfl rfl rfl rfl
          ·replace HF:=hneg HF hb1_9;have ehb1_0:=zam hb1_0;have ehb1_1:=zam hb1_1;have ehb1_2:=zam hb1_2;have ehb1_3:=zam hb1_3;have ehb1_4:=zam hb1_4;have ehb1_5:=zam hb1_5;have ehb1_6:=zam hb1_6;have ehb1_7:=zam hb1_7;have ehb1_8:=zam hb1_8;have ehb1_9:=zam hb1_9;refine Z.wd rfl ?_;intro w2 _ Z;go_wp2_with fail;clear ehb1_0 ehb1_1 ehb1_2 ehb1_3 ehb1_4 ehb1_5 ehb1_6 ehb1_7 ehb1_8 ehb1_9 hb1_0 hb1_1 hb1_2 hb1_3 hb1_4 hb1_5 hb1_6 hb1_7 hb1_8 hb1_9;refine Z.lower HF (λ_ _ h k=>⟨rfl,zaf h k⟩) ?_;intro w3 HF _ _ Z;go_wp2_with fail;refine Z.ex (by simp) HF (λ_ _ h k=>⟨rfl,zaf h k⟩) ?_;intro w4 HF _ _ Z;go_wp2_with fail;refine Z.nt H .expr 11 HF (by omega) trivial rfl (λ_ _ h k=>⟨rfl,zaf h k⟩) ?_;intro n5 t5 A5 c5 w5 HF _ _ _ Z;go_wp2_with fail;obtain⟨w6,hw,_,Z⟩:=Z.lit1 Z.fx.1 (by omega) (by omega);rw[hw];clear hw;refine Z.node ?_;intro w7 _ Z;obtain⟨⟨_,_,_,_,_⟩,_⟩:=Z.bx5;go_wp2_with fail;exact Z.fin HF Z.fx.1 (by omega) rfl rfl rfl rfl
end
end Go.Proofs.YtjdpocmlimkjjaaGreat
