/- Conditions: those in each statement. -/
import Derived.Test.YtcebmphappfjjaaGreatDoorQ31
import Derived.Deep.RegionHeld3
import Derived.RegionDies
import Derived.Deep.RegionLaw
import Derived.Test.YtcebmphappfjjaaGreatDoorQ29
import Derived.Test.YtcebmphappfjjaaGreatDoorQ30
import Derived.Test.YtcebmphappfjjaaGreatDoorProg
import Derived.Test.YtcebmphappfjjaaGreatDoorQ02
set_option maxHeartbeats 32000000
set_option maxRecDepth 100000
namespace Go.Proofs.YtcebmphappfjjaaGreatDoor
open Go.RowKit
section
variable (G:PG) (b k:Nat) (rec:NT->Ps->R Nd) (H:Recs G b k rec)
include H
theorem zlk (l:Nat) (hl:1<=l/\l<=8) (st:Ps) (hneed:16*(G.T.length-st.next)+(11-l)<k+1) (w:World) (h:PsAt G b w st) :
 Calls Tryz.prog 257 #[.pointer (some ⟨b,0,none⟩),.int .i64 (l:Int)] w (zaG G b QNd (zfj G.T G.en rec k l st) w):=by
 obtain⟨hbw,hlim,hlen,lw0,RR,hR,w0,hw0,sw0,Z⟩:=St.head h (zfj G.T G.en rec k l st);rw[hR];unfold zfj at hR;have HF:=zz hR;clear h hR;go_enter Tryz.func257,Tryz.ntmps257;go_wp2_with fail;clear hw0;refine Z.off ?_;intro w1 _ Z;have hl8:=hl.2;have hl1:=hl.1
 by_cases h3:l=3
 ·subst h3;replace HF:=hpos HF rfl;go_wp2_with fail;refine Z.acc (by simp) HF rfl ?_ ?_
  ·intro w2 HF _ _ Z;go_wp2_with fail;refine Z.nt H (.operand 3) 8 HF (by omega) ⟨by omega,by omega⟩ rfl (λ_ _ h k=>⟨rfl,zaf h k⟩) ?_;intro n3 t3 A3 c3 w3 HF _ _ _ Z;go_wp2_with fail;obtain⟨w4,hw,_,Z⟩:=Z.lit1 Z.fx.1 (by omega) (by omega);rw[hw];clear hw;refine Z.node ?_;intro w5 _ Z;obtain⟨⟨_,_,_,_,_⟩,_⟩:=Z.bx5;go_wp2;exact Z.fin HF Z.fx.1 (by omega) rfl rfl rfl rfl
  ·intro w2 HF _ Z;go_wp2_with fail;replace HF:=zgo HF;refine Z.nt H (.operand 4) 7 HF (by omega) ⟨by omega,by omega⟩ rfl (λ_ _ h k=>⟨rfl,zaf h k⟩) ?_;intro n3 t3 A3 c3 w3 HF _ _ _ Z;obtain⟨⟨_,_,_,_,_⟩,_⟩:=Z.bx5;go_wp2;exact Z.finx HF Z.fx.1 (by omega) rfl rfl rfl
 ·by_cases h8:l=8
  ·subst h8;replace HF:=hpos (hneg HF h3) rfl;clear h3;go_wp2_with fail;refine Z.acc (by simp) HF rfl ?_ ?_
   ·intro w2 HF _ _ Z;go_wp2_with fail;refine Z.nt H (.operand 8) 3 HF (by omega) ⟨by omega,by omega⟩ rfl (λ_ _ h k=>⟨rfl,zaf h k⟩) ?_;intro n3 t3 A3 c3 w3 HF _ _ _ Z;go_wp2_with fail;obtain⟨w4,hw,_,Z⟩:=Z.lit1 Z.fx.1 (by omega) (by omega);rw[hw];clear hw;refine Z.node ?_;intro w5 _ Z;obtain⟨⟨_,_,_,_,_⟩,_⟩:=Z.bx5;go_wp2;exact Z.fin HF Z.fx.1 (by omega) rfl rfl rfl rfl
   ·intro w2 HF _ Z;go_wp2_with fail;replace HF:=zgo HF;refine Z.nt H .postf 2 HF (by omega) trivial rfl (λ_ _ h k=>⟨rfl,zaf h k⟩) ?_;intro n3 t3 A3 c3 w3 HF _ _ _ Z;obtain⟨⟨_,_,_,_,_⟩,_⟩:=Z.bx5;go_wp2;exact Z.finx HF Z.fx.1 (by omega) rfl rfl rfl
  ·have e3:((l:Int) == 3)=false:=by rw[beq_eq_false_iff_ne];omega
   have e8:((l:Int) == 8)=false:=by rw[beq_eq_false_iff_ne];omega
   have hwl:IntKind.i64.wrap ((l:Int)+1)=(l:Int)+1:=IntWalk.i64_in _ (by omega);replace HF:=hneg (hneg HF h3) h8;go_wp2_with fail;refine Z.nt H (.operand (l+1)) (11-(l+1)) HF (by omega) ⟨by omega,by omega⟩ rfl (λ_ _ h k=>⟨rfl,zaf h k⟩) ?_;intro n2 t2 A2 c2 w2 HF _ _ _ Z;obtain⟨w3,hw,_,Z⟩:=Z.ndx n2 A2 c2 Z.fx.1 (by omega);go_wp2_with fail;clear hw
   go_loopw [] (λwr=>∃(j:Nat) (x:Nd) (t:Ps) (A:Option Addr) (c:Nat),G.T.length-t.next+1<=j/\Hid (zfe G.T rec l (zaC G.T G.en st) j x t=RR)/\t2.next<=t.next/\t.next<=G.T.length/\w1.heap.size<=wr.heap.size/\w2.heap.size<wr.heap.size/\St G b w true (Nx w2.heap.size w1.heap.size x A c) t t.next wr) (λwr=>G.T.length-zeG wr b)
   case atStart=>exact⟨k,n2,t2,A2,c2,by omega,HF,Nat.le_refl _,by omega,by omega,by omega,Z⟩
   case round=>
    clear HF Z;obtain⟨j,x,t,A,c,hj,HF,ht1,ht2,swr,sg,Z⟩:=hrel;obtain⟨j',rfl⟩:∃j',j=j'+1:=⟨j-1,by omega⟩;rw[zfe] at HF;have hmr:=Z.psn
    by_cases hv:zeH (zao G.T t)=some l
    ·replace HF:=hpos HF hv;have hm:=Z.more (λe=>by rw[e,show zeH ⟨#[]⟩=none by kernel_rfl] at hv;cases hv);go_wp2_with fail;refine Z.wd rfl ?_;intro w4 _ Z;have c4:=Z.ps.c4;have hlk:=zlC Z.ps (zao G.T t);rw[hv] at hlk;obtain⟨_,_,hwr,w5,hw5,_,Z⟩:=Z.adv1 (by omega);obtain⟨_,_,_,_,_⟩:=Cn.c5 Z.fx.2;go_wp2_with fail;clear hw5 hwr c4 hlk hv;obtain⟨_,Z⟩:=Z.drw;have K:=Z.run H (.operand (l+1)) (11-(l+1)) (by omega) ⟨by omega,by omega⟩ rfl;cases hx:rec (.operand (l+1)) t.adv with
     |error a=>
      rw[hx] at K
      go_region_dies
      all_goals exact Z.er K (λ_ k=>⟨rfl,zaf (her HF hx) k⟩)
     |ok p=>
      obtain⟨n6,t6⟩:=p;rw[hx] at K;replace HF:=hok HF hx;have gt6:t.next+1+1<=t6.next:=H.next hx;clear hx
      go_region_law (first
       |(go_simp;go_at_call 257;refine Z.okr K ?_;intro A6 c6 w6 _ _ Z;obtain⟨_,_,_,_,_⟩:=Cn.c5 Z.fx.2.2)
       |(go_simp;go_at_call 169;obtain⟨wl,hw,_,Z⟩:=Z.lit2x Z.fx.2.1 Z.fx.1 (by omega) (by omega) (by omega) (by omega) (by omega);rw[hw];clear hw;refine Z.node ?_;intro w7 _ Z;obtain⟨_,_,_,_,_⟩:=Cn.c5 Z.fx.2.2.2;have uz:=Cn.fz Z.fx.2.2.2))
      all_goals (
       generalize hW:World.setCell _ _ _=w8;obtain⟨_,Z⟩:=Z.fill Z.fx.2.2.2 Z.fx.1 rfl (by omega) (by omega) hW;clear hW
       by_cases h4:l=4
       ·have e4:((l:Int) == 4)=true:=by rw[h4];rfl
        replace HF:=hpos HF h4;clear h4;obtain⟨_,_,_,_,_⟩:=Cn.c5 Z.fx.2;obtain⟨⟨_,_,_,_,_⟩,_⟩:=Z.bx5;go_wp2;exact Z.fin HF (Bk.rk Z.fx.1) (by omega) rfl rfl rfl rfl
       ·have e4:((l:Int) == 4)=false:=by rw[beq_eq_false_iff_ne];omega
        replace HF:=hneg HF h4;clear h4;have hm9:=Z.psn;have l9:=Z.le;go_wp2_with fail;exact⟨⟨j',.mk 35 (zao G.T t) 0 (zaC G.T G.en st) [x,n6],t6,_,_,by omega,HF,by omega,by omega,by omega,by omega,Z⟩,by omega⟩)
    ·replace HF:=hneg HF hv;go_wp2_with fail;refine Z.wd rfl ?_;intro w4 _ Z;have c4:=Z.ps.c4;have hlk:=zlC Z.ps (zao G.T t);obtain⟨_,_,_,_,_⟩:=Cn.c5 Z.fx.2;cases hlv:zeH (zao G.T t) with
     |none=>
      rw[hlv] at hlk hv;clear hlv hv;obtain⟨⟨_,_,_,_,_⟩,_⟩:=Z.bx5;go_wp2;exact Z.finx HF (Bk.rk Z.fx.1) (by omega) rfl rfl rfl
     |some l'=>
      rw[hlv] at hlk hv;have e7:((l':Int) == (l:Int))=false:=by rw[beq_eq_false_iff_ne];intro e;exact hv (congrArg some (by omega))
      have e9:((l':Int) != (l:Int))=true:=by rw[bne,e7];rfl
      clear hlv hv;obtain⟨⟨_,_,_,_,_⟩,_⟩:=Z.bx5;go_wp2;exact Z.finx HF (Bk.rk Z.fx.1) (by omega) rfl rfl rfl
end
section
variable (G:PG) (b k:Nat) (rec:NT->Ps->R Nd) (H:Recs G b k rec)
include H
theorem zkD (st:Ps) (hneed:16*(G.T.length-st.next)+2<k+1) (w:World) (h:PsAt G b w st) :
 Calls Tryz.prog 269 #[.pointer (some ⟨b,0,none⟩)] w (zaG G b QNd (zfR G.T G.en rec k st) w):=by
 obtain⟨hbw,hlim,hlen,lw0,RR,hR,w0,hw0,sw0,Z⟩:=St.head h (zfR G.T G.en rec k st);rw[hR];unfold zfR at hR;have HF:=zz hR;clear h hR;go_enter Tryz.func269,Tryz.ntmps269;go_wp2_with fail;clear hw0;refine Z.off ?_;intro w1 _ Z;go_wp2_with fail;refine Z.nt H .primary 1 HF (by omega) trivial rfl (λ_ _ h k=>⟨rfl,zaf h k⟩) ?_;intro n2 t2 A2 c2 w2 HF _ _ _ Z;obtain⟨w3,hw,_,Z⟩:=Z.ndx n2 A2 c2 Z.fx.1 (by omega);have hlx:w1.heap.size<=w2.heap.size:=by omega
 go_wp2_with fail;clear hw;have hgw:w2.heap.size<w3.heap.size:=by omega
 generalize w2.heap.size=gx at *
 go_loopw [] (λwr=>∃(j:Nat) (x:Nd) (t:Ps) (A:Option Addr) (c:Nat),G.T.length-t.next+1<=j/\Hid (zdL G.T G.en rec k (zaC G.T G.en st) j x t=RR)/\t2.next<=t.next/\t.next<=G.T.length/\w1.heap.size<=wr.heap.size/\gx<wr.heap.size/\St G b w true (Nx gx w1.heap.size x A c) t t.next wr) (λwr=>G.T.length-zeG wr b)
 case atStart=>exact⟨k,n2,t2,A2,c2,by omega,HF,Nat.le_refl _,by omega,by omega,by omega,Z⟩
 case round=>
  clear HF Z;obtain⟨j,x,t,A,c,hj,HF,ht1,ht2,swr,sg,Z⟩:=hrel;obtain⟨j',rfl⟩:∃j',j=j'+1:=⟨j-1,by omega⟩;rw[zdL] at HF;have hmr:=Z.psn
  by_cases h1:zao G.T t=(⟨#[40]⟩:ByteArray)
  ·have hm:=Z.more (by rw[h1];simp);replace HF:=hpos HF h1;go_wp2_with fail;refine Z.wd h1 ?_;intro w4 _ Z;clear h1;obtain⟨_,_,_,_,_⟩:=Cn.c5 Z.fx.2;go_wp2_with fail;obtain⟨sdA,ZA⟩:=Z.litd x A c Z.fx.1 (by omega) (by omega) (by omega);obtain⟨sdB,ZB⟩:=Z.drw;obtain⟨_,_,_,_,_⟩:=Cn.c5 ZB.fx.2;have KC:=zz (λW h=>zdk G b k rec H t (show 16*(G.T.length-(t.next))<k+5 by omega) W h);cases hx:zbI G.T G.en rec k t with
   |error a=>
    simp only[hx] at KC
    go_region_dies
    all_goals first|exact ZA.er (KC.out _ ZA.ps) (λ_ k=>⟨rfl,zaf (her HF hx) k⟩)|exact ZB.er (KC.out _ ZB.ps) (λ_ k=>⟨rfl,zaf (her HF hx) k⟩)
   |ok p=>
    obtain⟨m,t5⟩:=p;simp only[hx] at KC;replace HF:=hok HF hx;have gt:t.next+1<=t5.next:=zaU G.T G.en H.adv k t _ _ hx;clear hx
    go_region_law (first
     |(go_simp;go_at_call 219;refine ZA.okn (KC.out _ ZA.ps) ?_;intro AA cA wA hlm _ _ ZA;have SA:=zqV (lo':=w4.heap.size) (g:=w4.heap.size) ZA.fx.1.1 (by omega) (by omega))
     |(go_simp;go_at_call 219;refine ZB.okn (KC.out _ ZB.ps) ?_;intro AB cB wB hlm _ _ ZB;obtain⟨_,_,_,_,_⟩:=Cn.c5 ZB.fx.2.2;obtain⟨slB,SB,ZC⟩:=ZB.litm x A c ZB.fx.1 ZB.fx.2.1 (by omega) (by omega) (by omega))
     |(go_simp;go_at_call 169;refine Z.node ?_;intro wN _ Z;obtain⟨_,_,_,_,_⟩:=Cn.c5 Z.fx.2;have uz:=Cn.fz Z.fx.2)
     |(refine ZA.stp_apps (.inl rfl) ZA.fx.2.1 ZA.fx.2.2.2 SA rfl rfl rfl rfl rfl (by omega) (by omega) (by omega) (by omega) (by omega) (Nat.le_trans (Nat.add_le_add_left hlm 1) (by decide)) ?_;intro LL A9 c9 w9 hL zL _ Z;replace zL:LL.length<=1+m.length:=zL;rw[hL] at HF;clear hL)
     |(refine ZC.stp_apps (.inr rfl) ZC.fx.1 ZC.fx.2.2.2 SB rfl rfl rfl rfl rfl (by omega) (by omega) (by omega) (by omega) (by omega) (Nat.le_trans (Nat.add_le_add_left hlm 1) (by decide)) ?_;intro LL A9 c9 w9 hL zL _ Z;replace zL:LL.length<=1+m.length:=zL;rw[hL] at HF;clear hL)
     |(refine ZC.stp_apps (.inl rfl) ZC.fx.1 ZC.fx.2.2.2 SB rfl rfl rfl rfl rfl (by omega) (by omega) (by omega) (by omega) (by omega) (Nat.le_trans (Nat.add_le_add_left hlm 1) (by decide)) ?_;intro LL A9 c9 w9 hL zL _ Z;replace zL:LL.length<=1+m.length:=zL;rw[hL] at HF;clear hL))
    all_goals (
     generalize hW:World.setCell _ _ _=w8;obtain⟨_,Z⟩:=Z.fill Z.fx.2 (Ox.bk Z.fx.1) rfl (by omega) (by omega) hW;clear hW;have hm9:=Z.psn;have l9:=Z.le;go_wp2_with fail;exact⟨⟨j',.mk 32 ⟨#[]⟩ 0 (zaC G.T G.en st) LL,t5,_,_,by omega,HF,by omega,by omega,by omega,by omega,Z⟩,by omega⟩)
  ·have e1:=zam h1;replace HF:=hneg HF h1;clear h1;go_wp2_with fail;refine Z.wd rfl ?_;intro w4 _ Z;go_wp2_with fail;clear e1;refine Z.acc (by simp) HF rfl ?_ ?_
   ·intro w5 HF _ _ Z;obtain⟨_,_,_,_,_⟩:=Cn.c5 Z.fx.2;go_wp2_with fail;obtain⟨sdA,ZA⟩:=Z.lit1x Z.fx.1 (by omega) (by omega) (by omega);obtain⟨sdC,ZA⟩:=ZA.drw;obtain⟨sdB,ZB⟩:=Z.drw;obtain⟨_,_,_,_,_⟩:=Cn.c5 ZB.fx.2;have KC:=zz (λW h=>zjL G b t.adv 175 zaH (λ_ _=>by kernel_rfl) zcN (by kernel_rfl) W h);cases hx:zaH (zao G.T t.adv) with
    |false=>
     simp only[zjR hx] at KC
     go_region_dies
     all_goals first|exact ZA.er (KC.out _ ZA.ps) (λ_ k=>⟨rfl,zaf (her HF (zjR hx)) k⟩)|exact ZB.er (KC.out _ ZB.ps) (λ_ k=>⟨rfl,zaf (her HF (zjR hx)) k⟩)
    |true=>
     simp only[zlX hx] at KC;replace HF:=hok HF (zlX hx);clear hx;obtain⟨nm,hnm⟩:∃s,zao G.T t.adv=s:=⟨_,rfl⟩;rw[hnm] at HF;simp only[hnm] at KC;clear hnm
     go_region_law (first
      |(go_simp;go_at_call 212;refine ZA.oks (KC.out _ ZA.ps) ?_;intro wA _ _ ZA)
      |(go_simp;go_at_call 212;refine ZB.oks (KC.out _ ZB.ps) ?_;intro wB _ _ ZB;obtain⟨_,_,_,_,_⟩:=Cn.c5 ZB.fx.2;obtain⟨slB,ZC⟩:=ZB.lit1x ZB.fx.1 (by omega) (by omega) (by omega))
      |(go_simp;go_at_call 169;refine ZA.node ?_;intro wN _ Z;obtain⟨_,_,_,_,_⟩:=Cn.c5 Z.fx.2.2;have uz:=Cn.fz Z.fx.2.2)
      |(go_simp;go_at_call 169;refine ZC.node ?_;intro wN _ Z;obtain⟨_,_,_,_,_⟩:=Cn.c5 Z.fx.2.2;have uz:=Cn.fz Z.fx.2.2))
     all_goals (
      generalize hW:World.setCell _ _ _=w8;obtain⟨_,Z⟩:=Z.fill Z.fx.2.2 Z.fx.1 rfl (by omega) (by omega) hW;clear hW;have hm9:=Z.psn;have l9:=Z.le;have ea:t.adv.adv.next=t.next+1+1:=rfl;go_wp2_with fail;exact⟨⟨j',.mk 30 nm 0 (zaC G.T G.en st) [x],t.adv.adv,_,_,by omega,HF,by omega,by omega,by omega,by omega,Z⟩,by omega⟩)
   ·intro w5 HF _ Z;go_wp2_with fail;refine Z.acc (by simp) HF rfl ?_ ?_
    ·intro w6 HF _ _ Z;go_wp2_with fail;refine Z.ex (by simp) HF (λ_ _ h k=>⟨rfl,zaf h k⟩) ?_;intro w7 HF _ _ Z;obtain⟨_,_,_,_,_⟩:=Cn.c5 Z.fx.2;go_wp2_with fail;obtain⟨sdA,ZA⟩:=Z.litd x A c Z.fx.1 (by omega) (by omega) (by omega);obtain⟨sdB,ZB⟩:=Z.drw;obtain⟨_,_,_,_,_⟩:=Cn.c5 ZB.fx.2;have KC:=zz (λW h=>zie G b k 0 (rec .set) 218 (λ_ _=>by kernel_rfl) (λst w hn hp=>H.run .set st trivial hn w hp) (H.adv .set) (⟨#[125]⟩:ByteArray) (by simp) t.adv.adv (show 16*(G.T.length-(t.next+1+1))+0<k by omega) W h);cases hx:zdM G.T G.en (rec .set) (⟨#[125]⟩:ByteArray) k t.adv.adv with
     |error a=>
      simp only[hx] at KC
      go_region_dies
      all_goals first|exact ZA.er (KC.out _ ZA.ps) (λ_ k=>⟨rfl,zaf (her HF hx) k⟩)|exact ZB.er (KC.out _ ZB.ps) (λ_ k=>⟨rfl,zaf (her HF hx) k⟩)
     |ok p=>
      obtain⟨m,t8⟩:=p;simp only[hx] at KC;replace HF:=hok HF hx;have gt:t.next+1+1+1<=t8.next:=zcg G.T G.en (H.adv .set) (⟨#[125]⟩:ByteArray) k t.adv.adv _ _ hx;clear hx
      go_region_law (first
       |(go_simp;go_at_call 221;refine ZA.okn (KC.out _ ZA.ps) ?_;intro AA cA wA hlm _ _ ZA;have SA:=zqV (lo':=w7.heap.size) (g:=w7.heap.size) ZA.fx.1.1 (by omega) (by omega))
       |(go_simp;go_at_call 221;refine ZB.okn (KC.out _ ZB.ps) ?_;intro AB cB wB hlm _ _ ZB;obtain⟨_,_,_,_,_⟩:=Cn.c5 ZB.fx.2.2;obtain⟨slB,SB,ZC⟩:=ZB.litm x A c ZB.fx.1 ZB.fx.2.1 (by omega) (by omega) (by omega))
       |(go_simp;go_at_call 169;refine Z.node ?_;intro wN _ Z;obtain⟨_,_,_,_,_⟩:=Cn.c5 Z.fx.2;have uz:=Cn.fz Z.fx.2)
       |(refine ZA.stp_apps (.inl rfl) ZA.fx.2.1 ZA.fx.2.2.2 SA rfl rfl rfl rfl rfl (by omega) (by omega) (by omega) (by omega) (by omega) (Nat.le_trans (Nat.add_le_add_left hlm 1) (by decide)) ?_;intro LL A9 c9 w9 hL zL _ Z;replace zL:LL.length<=1+m.length:=zL;rw[hL] at HF;clear hL)
       |(refine ZC.stp_apps (.inr rfl) ZC.fx.1 ZC.fx.2.2.2 SB rfl rfl rfl rfl rfl (by omega) (by omega) (by omega) (by omega) (by omega) (Nat.le_trans (Nat.add_le_add_left hlm 1) (by decide)) ?_;intro LL A9 c9 w9 hL zL _ Z;replace zL:LL.length<=1+m.length:=zL;rw[hL] at HF;clear hL)
       |(refine ZC.stp_apps (.inl rfl) ZC.fx.1 ZC.fx.2.2.2 SB rfl rfl rfl rfl rfl (by omega) (by omega) (by omega) (by omega) (by omega) (Nat.le_trans (Nat.add_le_add_left hlm 1) (by decide)) ?_;intro LL A9 c9 w9 hL zL _ Z;replace zL:LL.length<=1+m.length:=zL;rw[hL] at HF;clear hL))
      all_goals (
       generalize hW:World.setCell _ _ _=w8;obtain⟨_,Z⟩:=Z.fill Z.fx.2 (Ox.bk Z.fx.1) rfl (by omega) (by omega) hW;clear hW;have hm9:=Z.psn;have l9:=Z.le;go_wp2_with fail;exact⟨⟨j',.mk 31 ⟨#[]⟩ 0 (zaC G.T G.en st) LL,t8,_,_,by omega,HF,by omega,by omega,by omega,by omega,Z⟩,by omega⟩)
    ·intro w6 HF _ Z;obtain⟨_,_,_,_,_⟩:=Cn.c5 Z.fx.2;obtain⟨⟨_,_,_,_,_⟩,_⟩:=Z.bx5;go_wp2;exact Z.finx HF (Bk.rk Z.fx.1) (by omega) rfl rfl rfl
end
def zhk (T:List Tok) (rec:NT->Ps->R Nd) (k:Nat) (st:Ps):R Nd:=(zdJ T rec k [] st).next λl st'=>.ok (.mk 1 ⟨#[]⟩ 0 0 l,st')
theorem zmT (G:PG) (b:Nat):∀f,Recs G b f (zgM G.T G.en f)
 |0=>⟨λnt st=>zhX G.T G.en 0 nt st,λnt st _ h=>absurd h (Nat.not_lt_zero _)⟩
 |f+1=>⟨λnt st=>zhX G.T G.en (f+1) nt st,λnt st ho hn w h=>by
  have H:=zmT G b f;cases nt with
  |typ=>exact zso G b f _ H st hn w h
  |field=>exact znH G b f _ H st hn w h
  |expr=>exact zpn G b f _ H st hn w h
  |heading=>exact zkK G b f _ H st hn w h
  |operand l=>exact zlk G b f _ H l ho st hn w h
  |postf=>exact zkD G b f _ H st hn w h
  |primary=>exact zlg G b f _ H st hn w h
  |set=>exact zrP G b f _ H st hn w h
  |arm=>exact zrx G b f _ H st hn w h
  |bind=>exact zpS G b f st hn w h
  |block=>exact znT G b f _ H st hn w h
  |stmt=>exact zoY G b f _ H st hn w h
  |letS=>exact zsc G b f _ H st hn w h
  |branch=>exact zlU G b f _ H st hn w h
  |cases=>exact zol G b f _ H st hn w h
  |sarm=>exact zqf G b f _ H st hn w h
  |send=>exact zqY G b f _ H st hn w h
  |doS=>exact zsS G b f _ H st hn w h
  |ctor=>exact zqS G b f _ H st hn w h
  |member=>exact zmk G b f _ H st hn w h
  |decl=>exact zpu G b f _ H st hn w h
  |group a=>exact zoE G b f _ H a st hn w h⟩
section
variable (G:PG) (b k:Nat) (rec:NT->Ps->R Nd) (H:Recs G b k rec)
include H
theorem zmB (st:Ps) (hneed:16*(G.T.length-st.next)+1<k+1) (w:World) (h:PsAt G b w st) :
 Calls Tryz.prog 123 #[.pointer (some ⟨b,0,none⟩),.bool false] w (zaG G b QNd (zhk G.T rec k st) w):=by
 obtain⟨hbw,hlim,hlen,lw0,RR,hR,w0,hw0,sw0,Z⟩:=St.head h (zhk G.T rec k st);rw[hR];unfold zhk at hR;have HF:=zz hR;clear h hR;go_enter Tryz.func123,Tryz.ntmps123;go_wp2_with fail;clear hw0;replace Z:=Z.row0 (lo:=w0.heap.size) (by omega);obtain⟨F,HQ,HK⟩:∃F:List Nd->Ps->R Nd,Hid (R.next (zdJ G.T rec k [] st) F=RR)/\Hid (∀l s,F l s=.ok (.mk 1 ⟨#[]⟩ 0 0 l,s)):=⟨_,HF,λ_ _=>rfl⟩;clear HF
 go_loopw [5] (λsv wr=>∃(j:Nat) (acc:List Nd) (t:Ps) (A:Option Addr) (c:Nat),sv=.slice A acc.length c/\acc.length<=65536+t.next/\G.T.length-t.next+1<=j/\Hid (R.next (zdJ G.T rec j acc t) F=RR)/\st.next<=t.next/\t.next<=G.T.length/\w0.heap.size<=wr.heap.size/\St G b w true (Ow w0.heap.size wr.heap.size acc (.slice A acc.length c)) t t.next wr) (λ_ wr=>G.T.length-zeG wr b)
 case atStart=>exact⟨k,[],st,none,0,rfl,by simp,by show G.T.length-(st.next)+1<=k;omega,HQ,Nat.le_refl _,Z.ps.le,by omega,Z⟩
 case round=>
  clear HQ Z;obtain⟨j,acc,t,A,c,rfl,hacc,hj,HF,ht1,ht2,swr,Z⟩:=hrel;obtain⟨j',rfl⟩:∃j',j=j'+1:=⟨j-1,by omega⟩;rw[zdJ] at HF;replace HF:=hite HF;have hmr:=Z.psn;go_wp2_with fail;have K:=zjE G b t _ Z.ps
  by_cases hw:t.next=G.T.length
  ·have e0:((t.next:Int) == (G.T.length:Int))=true:=by rw[beq_iff_eq];omega
   rw[e0] at K;replace HF:=hpos HF hw;refine Z.q K ?_;intro w1 _ Z;clear K e0;replace HF:=(HK.out _ _).symm.trans HF;clear hmr HK;go_wp2_with fail;refine Z.node ?_;intro w2 _ Z;obtain⟨⟨_,_,_,_,_⟩,_⟩:=Z.bx5;go_wp2;exact Z.fin HF (Ow.rk Z.fx) (by omega) rfl rfl rfl rfl
  ·have e0:((t.next:Int) == (G.T.length:Int))=false:=by rw[beq_eq_false_iff_ne];omega
   rw[e0] at K;replace HF:=hneg HF hw;refine Z.q K ?_;intro w1 _ Z;clear K e0;replace HF:=zmS HF;go_wp2_with fail;refine Z.nt H .decl 0 HF (by omega) trivial rfl (λ_ _ h k=>⟨rfl,zaf h k⟩) ?_;intro n2 t2 A2 c2 w2 HF _ _ _ Z;go_wp2_with (at_builtin;refine Z.wp_app Z.fx.2 Z.fx.1 rfl rfl rfl rfl (by omega) (by omega) (λ_=>by omega) (by omega) (by omega) (by omega) ?_);intro L3 A3 c3 w3 hL _ _ Z;rw[hL] at HF;clear hL;have hm9:=Z.psn;go_wp2_with fail;exact⟨⟨j',L3,t2,A3,c3,rfl,by omega,by omega,HF,by omega,by omega,by omega,Z⟩,by omega⟩
end
end Go.Proofs.YtcebmphappfjjaaGreatDoor
set_option maxHeartbeats 32000000
set_option maxRecDepth 100000
namespace Go.Proofs.YtcebmphappfjjaaGreatDoor
open Go.RowKit Go.MapKept
theorem zbr {w w1 w2:World} {g:Nat} (hg:w1.grownBy w2 (some g)) (hb:Below w.heap.size w w1) (h:w.heap.size<=g):Below w.heap.size w w2:=by
 have:=hb.size;exact⟨hg.os.trans hb.os,hg.tape.trans hb.tape,hg.output.trans hb.output,Nat.le_trans hb.size hg.size,λk hk=>(hg.block k (by omega) (λe=>by have:=Option.some.inj e;omega)).trans (hb.block k hk)⟩
theorem zep (w:World):Calls Tryz.prog 122 #[] w λe w'=>e=.returned (.map (some w.heap.size))/\zaN w' w.heap.size zgA/\Below w.heap.size w w':=by
 have hmm:=@run_makeMap Tryz.prog;have hm0:=zaN.new w;have hb0:=(Below.refl w.heap.size w).alloc (Nat.le_refl _) (.map #[] 0);obtain⟨w0,hw0⟩:∃W,w.alloc (.map #[] 0)=W:=⟨_,rfl⟩;rw[hw0] at hm0 hb0;have H0:=zz (And.intro hm0 hb0);clear hm0 hb0;obtain⟨w1,hup1,hq1,hg1,_⟩:=zap (P:=Tryz.prog) (T:=111) Tryz.underlying111 Tryz.underlying9 H0.out.1 (⟨#[111,114]⟩:ByteArray) (.int .i64 1);have H1:=zz (And.intro hq1 (zbr hg1 H0.out.2 (Nat.le_refl _)));clear hq1 hg1 H0;obtain⟨w2,hup2,hq2,hg2,_⟩:=zap (P:=Tryz.prog) (T:=111) Tryz.underlying111 Tryz.underlying9 H1.out.1 (⟨#[97,110,100]⟩:ByteArray) (.int .i64 2);have H2:=zz (And.intro hq2 (zbr hg2 H1.out.2 (Nat.le_refl _)));clear hq2 hg2 H1;obtain⟨w3,hup3,hq3,hg3,_⟩:=zap (P:=Tryz.prog) (T:=111) Tryz.underlying111 Tryz.underlying9 H2.out.1 (⟨#[61,61]⟩:ByteArray) (.int .i64 4);have H3:=zz (And.intro hq3 (zbr hg3 H2.out.2 (Nat.le_refl _)));clear hq3 hg3 H2;obtain⟨w4,hup4,hq4,hg4,_⟩:=zap (P:=Tryz.prog) (T:=111) Tryz.underlying111 Tryz.underlying9 H3.out.1 (⟨#[33,61]⟩:ByteArray) (.int .i64 4);have H4:=zz (And.intro hq4 (zbr hg4 H3.out.2 (Nat.le_refl _)));clear hq4 hg4 H3;obtain⟨w5,hup5,hq5,hg5,_⟩:=zap (P:=Tryz.prog) (T:=111) Tryz.underlying111 Tryz.underlying9 H4.out.1 (⟨#[60]⟩:ByteArray) (.int .i64 4);have H5:=zz (And.intro hq5 (zbr hg5 H4.out.2 (Nat.le_refl _)));clear hq5 hg5 H4;obtain⟨w6,hup6,hq6,hg6,_⟩:=zap (P:=Tryz.prog) (T:=111) Tryz.underlying111 Tryz.underlying9 H5.out.1 (⟨#[60,61]⟩:ByteArray) (.int .i64 4);have H6:=zz (And.intro hq6 (zbr hg6 H5.out.2 (Nat.le_refl _)));clear hq6 hg6 H5;obtain⟨w7,hup7,hq7,hg7,_⟩:=zap (P:=Tryz.prog) (T:=111) Tryz.underlying111 Tryz.underlying9 H6.out.1 (⟨#[62]⟩:ByteArray) (.int .i64 4);have H7:=zz (And.intro hq7 (zbr hg7 H6.out.2 (Nat.le_refl _)));clear hq7 hg7 H6;obtain⟨w8,hup8,hq8,hg8,_⟩:=zap (P:=Tryz.prog) (T:=111) Tryz.underlying111 Tryz.underlying9 H7.out.1 (⟨#[62,61]⟩:ByteArray) (.int .i64 4);have H8:=zz (And.intro hq8 (zbr hg8 H7.out.2 (Nat.le_refl _)));clear hq8 hg8 H7;obtain⟨w9,hup9,hq9,hg9,_⟩:=zap (P:=Tryz.prog) (T:=111) Tryz.underlying111 Tryz.underlying9 H8.out.1 (⟨#[43,43]⟩:ByteArray) (.int .i64 5);have H9:=zz (And.intro hq9 (zbr hg9 H8.out.2 (Nat.le_refl _)));clear hq9 hg9 H8;obtain⟨w10,hup10,hq10,hg10,_⟩:=zap (P:=Tryz.prog) (T:=111) Tryz.underlying111 Tryz.underlying9 H9.out.1 (⟨#[43]⟩:ByteArray) (.int .i64 6);have H10:=zz (And.intro hq10 (zbr hg10 H9.out.2 (Nat.le_refl _)));clear hq10 hg10 H9;obtain⟨w11,hup11,hq11,hg11,_⟩:=zap (P:=Tryz.prog) (T:=111) Tryz.underlying111 Tryz.underlying9 H10.out.1 (⟨#[45]⟩:ByteArray) (.int .i64 6);have H11:=zz (And.intro hq11 (zbr hg11 H10.out.2 (Nat.le_refl _)));clear hq11 hg11 H10;obtain⟨w12,hup12,hq12,hg12,_⟩:=zap (P:=Tryz.prog) (T:=111) Tryz.underlying111 Tryz.underlying9 H11.out.1 (⟨#[42]⟩:ByteArray) (.int .i64 7);have H12:=zz (And.intro hq12 (zbr hg12 H11.out.2 (Nat.le_refl _)));clear hq12 hg12 H11
 obtain⟨w13,hup13,hq13,hg13,_⟩:=zap (P:=Tryz.prog) (T:=111) Tryz.underlying111 Tryz.underlying9 H12.out.1 (⟨#[47]⟩:ByteArray) (.int .i64 7);have H13:=zz (And.intro hq13 (zbr hg13 H12.out.2 (Nat.le_refl _)));clear hq13 hg13 H12;obtain⟨w14,hup14,hq14,hg14,_⟩:=zap (P:=Tryz.prog) (T:=111) Tryz.underlying111 Tryz.underlying9 H13.out.1 (⟨#[37]⟩:ByteArray) (.int .i64 7);have H14:=zz (And.intro hq14 (zbr hg14 H13.out.2 (Nat.le_refl _)));clear hq14 hg14 H13;go_enter Tryz.func122,Tryz.ntmps122;go_wp2;go_ret;exact⟨rfl,by have q:=H14.out.1;simp[mput,fnd] at q;exact q,H14.out.2⟩
end Go.Proofs.YtcebmphappfjjaaGreatDoor
