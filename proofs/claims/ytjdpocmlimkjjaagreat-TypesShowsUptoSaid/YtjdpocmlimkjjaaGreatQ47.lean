/- Conditions: those in each statement. -/
import Derived.Test.YtjdpocmlimkjjaaGreatQ45
import Derived.Deep.RegionHeld3
import Derived.RegionDies
import Derived.Deep.RegionLaw
set_option maxHeartbeats 32000000
set_option maxRecDepth 100000
namespace Go.Proofs.YtjdpocmlimkjjaaGreat
open Go.RowKit
section
variable (G:PG) (b k:Nat) (rec:NT→Ps→R Nd) (H:Recs G b k rec)
include H
theorem zky (st:Ps) (hneed:16*(G.T.length-st.next)+1<k+1) (w:World) (h:PsAt G b w st) :
 Calls Tryz.prog 159 #[.pointer (some ⟨b,0,none⟩)] w (zaS G b QNd (zch G.T G.en rec k st) w):=by
 obtain⟨hbw,hlim,hlen,lw0,RR,hR,w0,hw0,sw0,Z⟩:=St.head h (zch G.T G.en rec k st);rw[hR];unfold zch at hR;have HF:=zz hR;clear h hR;go_enter Tryz.func159,Tryz.ntmps159;go_wp2_with fail;clear hw0;obtain⟨tk,htk⟩:∃t,zcB G st=t:=⟨_,rfl⟩
 by_cases h2:tk.kind=2
 ·have hp2:=zlW (rec:=rec) (k:=k) htk h2;have hm:=hp2.2;replace HF:=zz (hp2.1.symm.trans HF.out);clear hp2;have K:=zfJ G b st _ Z.ps;rw[htk,h2] at K;refine Z.q K ?_;intro w1 _ Z;clear K;obtain⟨w2,hw,_,Z⟩:=Z.tkb (.int .i64 2) (.string tk.text) (.int .i64 tk.n) (.int .i64 tk.at');clear h2 htk;obtain⟨_,_,_,_⟩:=Ct.c4 Z.fx.1;obtain⟨_,_,hwr,w3,hw3,_,Z⟩:=Z.adv1 (by omega);obtain⟨_,_,_,_⟩:=Ct.c4 Z.fx.1;go_wp2_with fail;clear hw3 hwr hw;refine Z.node ?_;intro w4 _ Z;obtain⟨⟨_,_,_,_,_⟩,_⟩:=Z.bx5;go_wp2_with fail;exact Z.fin0 HF rfl rfl rfl
 ·by_cases h3:tk.kind=3
  ·have hp2:=zll (rec:=rec) (k:=k) htk h3;have hm:=hp2.2;replace HF:=zz (hp2.1.symm.trans HF.out);clear hp2;have K:=zfJ G b st _ Z.ps;rw[htk,h3] at K;refine Z.q K ?_;intro w1 _ Z;clear K;obtain⟨w2,hw,_,Z⟩:=Z.tkb (.int .i64 3) (.string tk.text) (.int .i64 tk.n) (.int .i64 tk.at');clear h2 htk h3;obtain⟨_,_,_,_⟩:=Ct.c4 Z.fx.1;obtain⟨_,_,hwr,w3,hw3,_,Z⟩:=Z.adv1 (by omega);obtain⟨_,_,_,_⟩:=Ct.c4 Z.fx.1;go_wp2_with fail;clear hw3 hwr hw;refine Z.node ?_;intro w4 _ Z;obtain⟨⟨_,_,_,_,_⟩,_⟩:=Z.bx5;go_wp2_with fail;exact Z.fin0 HF rfl rfl rfl
  ·have q:=(zjN (rec:=rec) (k:=k) htk h2 h3).symm.trans HF.out;clear HF;have e2:(tk.kind == 2)=false:=by simpa using h2
   have e3:(tk.kind == 3)=false:=by simpa using h3
   unfold zdh at q;rw[show zaN G.T G.en st=tk.at' by rw[zpb,htk]] at q;have HF:=zz q;clear q;have K:=zfJ G b st _ Z.ps;rw[htk] at K;refine Z.q K ?_;intro w1 _ Z;clear K;obtain⟨w2,hw,_,Z⟩:=Z.tkb (.int .i64 tk.kind) (.string tk.text) (.int .i64 tk.n) (.int .i64 tk.at');clear htk;obtain⟨_,_,_,_⟩:=Ct.c4 Z.fx.1;go_wp2_with fail;clear hw e2 e3 h2 h3;refine Z.acc (by simp) HF rfl ?_ ?_
   ·intro w3 HF _ _ Z;go_wp2_with fail;refine Z.node ?_;intro w4 _ Z;obtain⟨⟨_,_,_,_,_⟩,_⟩:=Z.bx5;go_wp2_with fail;exact Z.fin0 HF rfl rfl rfl
   ·intro w3 HF _ Z;go_wp2_with fail;refine Z.acc (by simp) HF rfl ?_ ?_
    ·intro w4 HF _ _ Z;go_wp2_with fail;refine Z.node ?_;intro w5 _ Z;obtain⟨⟨_,_,_,_,_⟩,_⟩:=Z.bx5;go_wp2_with fail;exact Z.fin0 HF rfl rfl rfl
    ·intro w4 HF _ Z;go_wp2_with fail;refine Z.acc (by simp) HF rfl ?_ ?_
     ·intro w5 HF _ _ Z;go_wp2_with fail;refine Z.node ?_;intro w6 _ Z;obtain⟨⟨_,_,_,_,_⟩,_⟩:=Z.bx5;go_wp2_with fail;exact Z.fin0 HF rfl rfl rfl
     ·intro w5 HF _ Z;go_wp2_with fail;refine Z.acc (by simp) HF rfl ?_ ?_
      ·intro w6 HF _ _ Z;go_wp2_with fail;refine Z.lst H .expr 11 HF (by omega) (by simp) trivial rfl rfl (λ_ _=>by kernel_rfl) (λ_ _ h k=>⟨rfl,zaf h k⟩) ?_;intro n7 t7 A7 c7 w7 HF _ _ _ _ Z;go_wp2_with fail;refine Z.node ?_;intro w8 _ Z;obtain⟨⟨_,_,_,_,_⟩,_⟩:=Z.bx5;go_wp2_with fail;exact Z.fin HF (Ow.rk Z.fx.1) (by omega) rfl rfl rfl rfl
      ·intro w6 HF _ Z;go_wp2_with fail;refine Z.acc (by simp) HF rfl ?_ ?_
       ·intro w7 HF _ _ Z;go_wp2_with fail;replace HF:=zgT HF;refine Z.nt H (.group tk.at') 12 HF (by omega) trivial rfl (λ_ _ h k=>⟨rfl,zaf h k⟩) ?_;intro n8 t8 A8 c8 w8 HF _ _ _ Z;obtain⟨⟨_,_,_,_,_⟩,_⟩:=Z.bx5;go_wp2_with fail;exact Z.finx HF Z.fx.1 (by omega) rfl rfl rfl
       ·intro w7 HF _ Z;go_wp2_with fail;refine Z.wd rfl ?_;intro w8 _ Z;go_wp2_with fail;have K:=zda (zao G.T st) w8 Z.ps.word;cases hl:zaH (zao G.T st) with
        |true=>
         rw[hl] at K;replace HF:=hpos HF hl;refine Z.q K ?_;intro w9 _ Z;clear K;go_wp2_with fail;refine Z.lowok hl ?_;intro w10 _ _ Z;clear hl;go_wp2_with fail;refine Z.node ?_;intro w11 _ Z;obtain⟨⟨_,_,_,_,_⟩,_⟩:=Z.bx5;go_wp2_with fail;exact Z.fin0 HF rfl rfl rfl
        |false=>
         rw[hl] at K;replace HF:=hneg HF (by rw[hl];simp);clear hl;refine Z.q K ?_;intro w9 _ Z;clear K;go_wp2_with fail;refine Z.upper HF (λ_ _ h k=>⟨rfl,zaf h k⟩) ?_;intro w10 HF _ _ Z;go_wp2_with fail
         by_cases hw1:zao G.T st.adv=(⟨#[123]⟩:ByteArray)
         ·have ew:=zex hw1;have hm:=Z.more (by rw[hw1];simp);refine Z.wd rfl ?_;intro w11 _ Z;have hh3:=Z.ps.c3;cases hd:st.adv.head with
          |false=>
           have hd':(st.adv).head=false:=hd;rw[hd'] at hh3;replace HF:=hpos HF ⟨hw1,hd'⟩;clear hw1 hd hd';obtain⟨t11_,hT,_,_,Z⟩:=Z.nmd;rw[hT] at HF;clear hT;obtain⟨_,_,hwr,w12,hw12,_,Z⟩:=Z.adv1 (by omega);go_wp2_with fail;clear hw12 hwr;refine Z.lst H .set 0 HF (by omega) (by simp) trivial rfl rfl (λ_ _=>by kernel_rfl) (λ_ _ h k=>⟨rfl,zaf h k⟩) ?_;intro n13 t13 A13 c13 w13 HF _ _ _ _ Z;go_wp2_with fail;refine Z.node ?_;intro w14 _ Z;obtain⟨⟨_,_,_,_,_⟩,_⟩:=Z.bx5;go_wp2_with fail;exact Z.fin HF (Ow.rk Z.fx.1) (by omega) rfl rfl rfl rfl
          |true=>
           have hd':(st.adv).head=true:=hd;rw[hd'] at hh3;replace HF:=hneg HF (λh=>by rw[hd'] at h;cases h.2);clear hw1 hd hd';go_wp2_with fail;clear hh3 ew;refine Z.acc (by simp) HF rfl ?_ ?_
           ·intro w12 HF _ _ Z;go_wp2_with fail;refine Z.its H .expr 11 HF (by omega) (by simp) trivial rfl rfl (λ_ _=>by kernel_rfl) (λ_ _ h k=>⟨rfl,zaf h k⟩) ?_;intro n13 t13 A13 c13 w13 HF _ _ _ _ Z;go_wp2_with fail;refine Z.node ?_;intro w14 _ Z;obtain⟨⟨_,_,_,_,_⟩,_⟩:=Z.bx5;go_wp2_with fail;exact Z.fin HF (Ow.rk Z.fx.1) (by omega) rfl rfl rfl rfl
           ·intro w12 HF _ Z;go_wp2_with fail;refine Z.node ?_;intro w13 _ Z;obtain⟨⟨_,_,_,_,_⟩,_⟩:=Z.bx5;go_wp2_with fail;exact Z.fin0 HF rfl rfl rfl
         ·have ew:=zam hw1;replace HF:=hneg HF (λh=>hw1 h.1);clear hw1;refine Z.wd rfl ?_;intro w11 _ Z;go_wp2_with fail;clear ew;refine Z.acc (by simp) HF rfl ?_ ?_
          ·intro w12 HF _ _ Z;go_wp2_with fail;refine Z.its H .expr 11 HF (by omega) (by simp) trivial rfl rfl (λ_ _=>by kernel_rfl) (λ_ _ h k=>⟨rfl,zaf h k⟩) ?_;intro n13 t13 A13 c13 w13 HF _ _ _ _ Z;go_wp2_with fail;refine Z.node ?_;intro w14 _ Z;obtain⟨⟨_,_,_,_,_⟩,_⟩:=Z.bx5;go_wp2_with fail;exact Z.fin HF (Ow.rk Z.fx.1) (by omega) rfl rfl rfl rfl
          ·intro w12 HF _ Z;go_wp2_with fail;refine Z.node ?_;intro w13 _ Z;obtain⟨⟨_,_,_,_,_⟩,_⟩:=Z.bx5;go_wp2_with fail;exact Z.fin0 HF rfl rfl rfl
theorem zpw (st:Ps) (hneed:16*(G.T.length-st.next)+0<k+1) (w:World) (h:PsAt G b w st) :
 Calls Tryz.prog 81 #[.pointer (some ⟨b,0,none⟩)] w (zaS G b QNd (zjS G.T G.en rec k st) w):=by
 obtain⟨hbw,hlim,hlen,lw0,RR,hR,w0,hw0,sw0,Z⟩:=St.head h (zjS G.T G.en rec k st);rw[hR];unfold zjS at hR;have HF:=zz hR;clear h hR;go_enter Tryz.func81,Tryz.ntmps81;go_wp2_with fail;clear hw0;refine Z.off ?_;intro w1 _ Z;go_wp2_with fail;refine Z.acc (by simp) HF rfl ?_ ?_
 ·intro w2 HF _ _ Z;go_wp2_with fail;refine Z.upper HF (λ_ _ h k=>⟨rfl,zaf h k⟩) ?_;intro w3 HF _ _ Z;go_wp2_with fail;refine Z.ex (by simp) HF (λ_ _ h k=>⟨rfl,zaf h k⟩) ?_;intro w4 HF _ _ Z;go_wp2_with fail;refine Z.lst H .field 0 HF (by omega) (by simp) trivial rfl rfl (λ_ _=>by kernel_rfl) (λ_ _ h k=>⟨rfl,zaf h k⟩) ?_;intro n5 t5 A5 c5 w5 HF _ _ _ _ Z;go_wp2_with fail;refine Z.node ?_;intro w6 _ Z;obtain⟨⟨_,_,_,_,_⟩,_⟩:=Z.bx5;go_wp2_with fail;exact Z.fin HF (Ow.rk Z.fx.1) (by omega) rfl rfl rfl rfl
 ·intro w2 HF _ Z;go_wp2_with fail;refine Z.acc (by simp) HF rfl ?_ ?_
  ·intro w3 HF _ _ Z;go_wp2_with fail;refine Z.upper HF (λ_ _ h k=>⟨rfl,zaf h k⟩) ?_;intro w4 HF _ _ Z;go_wp2_with fail;refine Z.ex (by simp) HF (λ_ _ h k=>⟨rfl,zaf h k⟩) ?_;intro w5 HF _ _ Z;go_wp2_with fail;refine Z.its H .ctor 0 HF (by omega) (by simp) trivial rfl rfl (λ_ _=>by kernel_rfl) (λ_ _ h k=>⟨rfl,zaf h k⟩) ?_;intro n6 t6 A6 c6 w6 HF _ _ _ _ Z;go_wp2_with fail;refine Z.node ?_;intro w7 _ Z;obtain⟨⟨_,_,_,_,_⟩,_⟩:=Z.bx5;go_wp2_with fail;exact Z.fin HF (Ow.rk Z.fx.1) (by omega) rfl rfl rfl rfl
  ·intro w3 HF _ Z;go_wp2_with fail;refine Z.acc (by simp) HF rfl ?_ ?_
   ·intro w4 HF _ _ Z;go_wp2_with fail;refine Z.lower HF (λ_ _ h k=>⟨rfl,zaf h k⟩) ?_;intro w5 HF _ _ Z;go_wp2_with fail;refine Z.ns (zfO G b k rec H _ (Z.nd0 (by omega)) _ Z.ps) (zbY G.T G.en H.adv k _) HF (λ_ _ h k=>⟨rfl,zaf h k⟩) ?_;intro n6 t6 A6 c6 w6 HF _ _ _ _ Z;go_wp2_with fail;refine Z.ex (by simp) HF (λ_ _ h k=>⟨rfl,zaf h k⟩) ?_;intro w7 HF _ _ Z;go_wp2_with fail;refine Z.nt H .typ 0 HF (by omega) trivial rfl (λ_ _ h k=>⟨rfl,zaf h k⟩) ?_;intro n8 t8 A8 c8 w8 HF _ _ _ Z;go_wp2_with (at_builtin;refine Z.wp_app Z.fx.2.1 Z.fx.1 rfl rfl rfl rfl (by omega) (by omega) (λ_=>by omega) (by omega) (by omega) (by omega) ?_);intro L9 A9 c9 w9 hL _ _ Z;rw[hL] at HF;clear hL;go_wp2_with fail;refine Z.node ?_;intro w10 _ Z;obtain⟨⟨_,_,_,_,_⟩,_⟩:=Z.bx5;go_wp2_with fail;exact Z.fin HF (Ow.rk Z.fx) (by omega) rfl rfl rfl rfl
   ·intro w4 HF _ Z;go_wp2_with fail;refine Z.acc (by simp) HF rfl ?_ ?_
    ·intro w5 HF _ _ Z;go_wp2_with fail;refine Z.lower HF (λ_ _ h k=>⟨rfl,zaf h k⟩) ?_;intro w6 HF _ _ Z;go_wp2_with fail;refine Z.ns (zhu G b k rec H _ (Z.nd0 (by omega)) _ Z.ps) (zbP G.T G.en H.adv k _) HF (λ_ _ h k=>⟨rfl,zaf h k⟩) ?_;intro n7 t7 A7 c7 w7 HF _ _ _ _ Z;go_wp2_with fail;refine Z.node ?_;intro w8 _ Z;obtain⟨⟨_,_,_,_,_⟩,_⟩:=Z.bx5;go_wp2_with fail;exact Z.fin HF (Ow.rk Z.fx.1) (by omega) rfl rfl rfl rfl
    ·intro w5 HF _ Z;go_wp2_with fail;refine Z.acc (by simp) HF rfl ?_ ?_
     ·intro w6 HF _ _ Z;go_wp2_with fail;refine Z.upper HF (λ_ _ h k=>⟨rfl,zaf h k⟩) ?_;intro w7 HF _ _ Z;go_wp2_with fail;refine Z.ns (zfO G b k rec H _ (Z.nd0 (by omega)) _ Z.ps) (zbY G.T G.en H.adv k _) HF (λ_ _ h k=>⟨rfl,zaf h k⟩) ?_;intro n8 t8 A8 c8 w8 HF _ _ _ _ Z;go_wp2_with fail;refine Z.go (znT G b k _ (Z.nd0 (by omega)) _ Z.ps) (zbU G.T G.en _) HF (λ_ _ h k=>⟨rfl,zaf h k⟩) ?_;intro i9 t9 e w9 HF _ _ _ Z hq;obtain rfl:e=.returned (.int .i64 i9):=hq;rename_i gq _;have gq':t8.next≤t9.next:=gq;go_wp2_with fail;refine Z.ex (by simp) HF (λ_ _ h k=>⟨rfl,zaf h k⟩) ?_;intro w10 HF _ _ Z;go_wp2_with fail;replace Z:=Z.row Z.fx.1 (by omega);obtain⟨F,HQ,HK⟩:∃F:List Nd→Ps→R Nd,Hid (R.next (zcO G.T (rec .member) (⟨#[125]⟩:ByteArray) k n8 t9.adv) F=RR)∧Hid (∀l s,F l s=.ok (.mk 6 (zao G.T st.adv) i9 (zaN G.T G.en st) l,s)):=⟨_,HF,λ_ _=>rfl⟩;clear HF
      go_loopw [10] (λsv wr=>∃(j:Nat) (acc:List Nd) (t:Ps) (A:Option Addr) (c:Nat),sv=.slice A acc.length c∧acc.length≤65536+t.next∧G.T.length-t.next+1≤j∧Hid (R.next (zcO G.T (rec .member) (⟨#[125]⟩:ByteArray) j acc t) F=RR)∧t9.next+1≤t.next∧t.next≤G.T.length∧w7.heap.size≤wr.heap.size∧St G b w true (Ow w7.heap.size wr.heap.size acc (.slice A acc.length c)) t t.next wr) (λ_ wr=>G.T.length-zfh wr b)
      case atStart=>exact⟨k,n8,t9.adv,A8,c8,rfl,by omega,by show G.T.length-(t9.next+1)+1≤k;omega,HQ,Nat.le_refl _,Z.ps.le,by omega,Z⟩
      case round=>
       clear HQ Z;obtain⟨j,acc,t,A,c,rfl,hacc,hj,HF,ht1,ht2,swr,Z⟩:=hrel;obtain⟨j',rfl⟩:∃j',j=j'+1:=⟨j-1,by omega⟩;rw[zcO] at HF;replace HF:=hite HF;have hmr:=Z.psn;go_wp2_with fail;refine Z.acc (by simp) HF rfl ?_ ?_
       ·intro w11 HF _ _ Z;replace HF:=(HK.out _ _).symm.trans HF;clear hmr HK;go_wp2_with fail;refine Z.node ?_;intro w12 _ Z;obtain⟨⟨_,_,_,_,_⟩,_⟩:=Z.bx5;go_wp2_with fail;exact Z.fin HF (Ow.rk Z.fx) (by omega) rfl rfl rfl rfl
       ·intro w11 HF _ Z;replace HF:=zmJ HF;go_wp2_with fail;refine Z.nt H .member 0 HF (by omega) trivial rfl (λ_ _ h k=>⟨rfl,zaf h k⟩) ?_;intro n12 t12 A12 c12 w12 HF _ _ _ Z;go_wp2_with (at_builtin;refine Z.wp_app Z.fx.2 Z.fx.1 rfl rfl rfl rfl (by omega) (by omega) (λ_=>by omega) (by omega) (by omega) (by omega) ?_);intro L13 A13 c13 w13 hL _ _ Z;rw[hL] at HF;clear hL;have hm9:=Z.psn;go_wp2_with fail;exact⟨⟨j',L13,t12,A13,c13,rfl,by omega,by omega,HF,by omega,by omega,by omega,Z⟩,by omega⟩
     ·intro w6 HF _ Z;go_wp2_with fail;have K:=zhK G b st _ Z.ps;refine K.mono ?_;rintro e we ⟨rfl,hb⟩;exact⟨rfl,zaf (by rw[←HF.out];rfl) (Z.own.of_below hb)⟩
end
end Go.Proofs.YtjdpocmlimkjjaaGreat
