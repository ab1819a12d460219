/- Conditions: those in each statement. -/
import Derived.Test.YtcebmphappfjjaaGreatDoorV15
import Derived.Test.YtcebmphappfjjaaGreatDoorV16
import Derived.Deep.RegionHeld3
import Derived.RegionDies
import Derived.Deep.RegionLaw
set_option maxHeartbeats 32000000
set_option maxRecDepth 100000
namespace Go.Proofs.YtcebmphappfjjaaGreatDoor
open Go.RowKit
set_option linter.unusedSectionVars false
set_option linter.unusedVariables false
theorem zzT {G:PG} {st:Ps} {l:ByteArray} (h:zao G.T st=l) (hl:l≠⟨#[]⟩:=by decide):(zcq G st).kind≠2/\(zcq G st).kind≠3:=by
 unfold zao at h;unfold zcq;cases hx:G.T[st.next]? with
 |none=>rw[hx] at h;exact absurd h.symm hl
 |some t=>
  rw[hx] at h;simp only at h ⊢
  split at h
  ·omega
  ·exact absurd h.symm hl
section
variable (G:PG) (b k:Nat) (rec:NT->Ps->R Nd) (H:Recs G b k rec)
theorem zop (st:Ps) (_hneed:16*(G.T.length-st.next)<k+5) (w:World) (h:PsAt G b w st) :
 Calls Tryz.prog 225 #[.pointer (some ⟨b,0,none⟩)] w (zaG G b QInt (zgt G.T G.en st) w):=by
 obtain⟨hbw,hlim,hlen,lw0,RR,hR,Z⟩:=St.head0 h (zgt G.T G.en st);rw[hR];unfold zgt at hR;have HF:=zz hR;clear h hR;go_in;go_wp2_with fail;refine Z.accN HF rfl (G.nesc _) ?_;intro w1 HF _ Z;go_wp2_with fail;refine Z.accN HF rfl (G.nres _) ?_;intro w2 HF _ Z;go_wp2;go_ret;exact zlZ HF.out.symm Z.own Z.ps
include H
theorem zfi (st:Ps) (hneed:16*(G.T.length-st.next)<k+5) (w:World) (h:PsAt G b w st) :
 Calls Tryz.prog 216 #[.pointer (some ⟨b,0,none⟩)] w (zaG G b (QNs 32768) (zfa G.T G.en rec k st) w):=by
 obtain⟨hbw,hlim,hlen,lw0,RR,hR,Z⟩:=St.head0 h (zfa G.T G.en rec k st);rw[hR];unfold zfa at hR;have HF:=zz hR;clear h hR;go_in;go_wp2_with fail;refine Z.ex zs HF (λ_ _ h k=>⟨rfl,zaf h k⟩) ?_;intro w1 HF _ _ Z;go_wp2_with fail;replace HF:=zgo HF;refine Z.lst H .field 0 HF zo zs trivial (λ_ _=>trivial) rfl rfl (λ_ _=>by kernel_rfl) (λ_ _ h k=>⟨rfl,zaf h k⟩) ?_;intro n2 t2 A2 c2 w2 HF _ _ _ _ Z;go_wp2;go_ret;exact zqm (lo:=w1.heap.size) HF.out.symm Z.own Z.ps zo zo Z.fx.1.1 rfl
theorem zgP (st:Ps) (hneed:16*(G.T.length-st.next)<k+5) (w:World) (h:PsAt G b w st) :
 Calls Tryz.prog 224 #[.pointer (some ⟨b,0,none⟩)] w (zaG G b (QNs 32770) (zdv G.T G.en rec k st) w):=by
 obtain⟨hbw,hlim,hlen,lw0,RR,hR,Z⟩:=St.head0 h (zdv G.T G.en rec k st);rw[hR];unfold zdv at hR;have HF:=zz hR;clear h hR;go_in;go_wp2_with fail;refine Z.ns (zfi G b k rec H _ (Z.nd0 zo) _ Z.ps) (zbJ G.T G.en H.adv k _) HF (λ_ _ h k=>⟨rfl,zaf h k⟩) ?_;intro n1 t1 A1 c1 w1 HF _ _ _ _ Z;go_wp2_with fail;refine Z.exw zs HF (λ_ _ h k=>⟨rfl,zaf h k⟩) ?_;intro w2 hq HF _ _ Z;go_wp2_with fail;refine Z.nt H .typ 0 HF zo (G.hfn _ (.inl hq)) rfl (λ_ _ h k=>⟨rfl,zaf h k⟩) ?_;intro n3 t3 A3 c3 w3 HF _ _ _ Z;go_wp2_with (at_builtin;refine Z.wp_app Z.fx.2.1 Z.fx.1 rfl rfl rfl rfl zo zo zs zo zo zo ?_);intro L4 A4 c4 w4 hL _ _ Z;rw[hL] at HF;clear hL;go_wp2_with fail;clear hq;refine Z.exw zs HF (λ_ _ h k=>⟨rfl,zaf h k⟩) ?_;intro w5 hq HF _ _ Z;go_wp2_with fail;refine Z.nt H .expr 11 HF zo (G.heq _ hq) rfl (λ_ _ h k=>⟨rfl,zaf h k⟩) ?_;intro n6 t6 A6 c6 w6 HF _ _ _ Z;go_wp2_with (at_builtin;refine Z.wp_app Z.fx.2 Z.fx.1 rfl rfl rfl rfl zo zo zs zo zo zo ?_);intro L7 A7 c7 w7 hL _ _ Z;rw[hL] at HF;clear hL;go_wp2;go_ret;exact zqm (lo:=w.heap.size) HF.out.symm Z.own Z.ps zo zo Z.fx.1 rfl
theorem zso (st:Ps) (ho:zao G.T st≠(⟨#[102,117,110]⟩:ByteArray)) (hneed:16*(G.T.length-st.next)+0<k+1) (w:World) (h:PsAt G b w st) :
 Calls Tryz.prog 223 #[.pointer (some ⟨b,0,none⟩)] w (zaG G b QNd (typF G.T G.en rec k st) w):=by
 obtain⟨hbw,hlim,hlen,lw0,RR,hR,w0,hw0,sw0,Z⟩:=St.head h (typF G.T G.en rec k st);rw[hR];unfold typF at hR;have HF:=zz hR;have HO:=zz ho;clear h hR ho;go_in;go_wp2_with fail;clear hw0;refine Z.off ?_;intro w1 _ Z;go_wp2_with fail;refine Z.accN HF rfl (G.nbr _) ?_;intro w2 HF _ Z;go_wp2_with fail;refine Z.accN HF rfl (G.nref _) ?_;intro w3 HF _ Z;go_wp2_with fail;refine Z.accN HF rfl HO.out ?_;intro w4 HF _ Z;go_wp2_with fail;refine Z.typename HF (λ_ _ h k=>⟨rfl,zaf h k⟩) ?_;intro w5 HF _ _ Z;go_wp2_with fail;refine Z.node ?_;intro w6 _ Z;obtain⟨⟨_,_,_,_,_⟩,_⟩:=Z.bx5;go_wp2;exact Z.fin0 HF rfl rfl rfl
theorem znH (st:Ps) (hneed:16*(G.T.length-st.next)+0<k+1) (w:World) (h:PsAt G b w st) :
 Calls Tryz.prog 220 #[.pointer (some ⟨b,0,none⟩)] w (zaG G b QNd (zlr G.T G.en rec st) w):=by
 obtain⟨hbw,hlim,hlen,lw0,RR,hR,w0,hw0,sw0,Z⟩:=St.head h (zlr G.T G.en rec st);rw[hR];unfold zlr at hR;have HF:=zz hR;clear h hR;go_in;go_wp2_with fail;clear hw0;refine Z.off ?_;intro w1 _ Z;go_wp2_with fail;refine Z.lower HF (λ_ _ h k=>⟨rfl,zaf h k⟩) ?_;intro w2 HF _ _ Z;go_wp2_with fail;refine Z.exw zs HF (λ_ _ h k=>⟨rfl,zaf h k⟩) ?_;intro w3 hq HF _ _ Z;go_wp2_with fail;refine Z.nt H .typ 0 HF zo (G.hfn _ (.inl hq)) rfl (λ_ _ h k=>⟨rfl,zaf h k⟩) ?_;intro n4 t4 A4 c4 w4 HF _ _ _ Z;go_wp2_with fail;obtain⟨w5,hw,_,Z⟩:=Z.lit1 Z.fx.1 zo zo;rw[hw];clear hw;refine Z.node ?_;intro w6 _ Z;obtain⟨⟨_,_,_,_,_⟩,_⟩:=Z.bx5;go_wp2;exact Z.fin HF Z.fx.1 zo rfl rfl rfl rfl
theorem zqS (st:Ps) (hneed:16*(G.T.length-st.next)+0<k+1) (w:World) (h:PsAt G b w st) :
 Calls Tryz.prog 222 #[.pointer (some ⟨b,0,none⟩)] w (zaG G b QNd (zrj G.T G.en rec k st) w):=by
 obtain⟨hbw,hlim,hlen,lw0,RR,hR,w0,hw0,sw0,Z⟩:=St.head h (zrj G.T G.en rec k st);rw[hR];unfold zrj at hR;have HF:=zz hR;clear h hR;go_in;go_wp2_with fail;clear hw0;refine Z.off ?_;intro w1 _ Z;go_wp2_with fail;refine Z.upper HF (λ_ _ h k=>⟨rfl,zaf h k⟩) ?_;intro w2 HF _ _ Z;go_wp2_with fail
 by_cases hq:zao G.T st.adv=(⟨#[40]⟩:ByteArray)
 ·refine Z.accY zs HF rfl hq ?_;intro w3 HF _ _ Z;go_wp2_with fail;refine Z.its H .typ 0 HF zo zs (G.hfn _ (.inr (.inl hq))) (λt h=>G.hfn t (.inr (.inr h))) rfl rfl (λ_ _=>by kernel_rfl) (λ_ _ h k=>⟨rfl,zaf h k⟩) ?_;intro n4 t4 A4 c4 w4 HF _ _ _ _ Z;go_wp2_with fail;refine Z.node ?_;intro w5 _ Z;obtain⟨⟨_,_,_,_,_⟩,_⟩:=Z.bx5;go_wp2;exact Z.fin HF (Ow.rk Z.fx.1) zo rfl rfl rfl rfl
 ·refine Z.accN HF rfl hq ?_;intro w3 HF _ Z;go_wp2_with fail;refine Z.node ?_;intro w4 _ Z;obtain⟨⟨_,_,_,_,_⟩,_⟩:=Z.bx5;go_wp2;exact Z.fin0 HF rfl rfl rfl
theorem zpn (st:Ps) (ho:zao G.T st=(⟨#[116,114,117,101]⟩:ByteArray)) (hneed:16*(G.T.length-st.next)+11<k+1) (w:World) (h:PsAt G b w st) :
 Calls Tryz.prog 246 #[.pointer (some ⟨b,0,none⟩)] w (zaG G b QNd (zrt G.T G.en rec k st) w):=by
 obtain⟨hbw,hlim,hlen,lw0,RR,hR,w0,hw0,sw0,Z⟩:=St.head h (zrt G.T G.en rec k st);rw[hR];unfold zrt at hR;have HF:=zz hR;have HO:=zz ho;clear h hR ho;go_in;go_wp2_with fail;clear hw0;refine Z.off ?_;intro w1 _ Z;go_wp2_with fail;refine Z.accN HF rfl (by rw[HO.out];decide) ?_;intro w2 HF _ Z;go_wp2_with fail;refine Z.accN HF rfl (by rw[HO.out];decide) ?_;intro w3 HF _ Z;go_wp2_with fail;refine Z.accN HF rfl (by rw[HO.out];decide) ?_;intro w4 HF _ Z;go_wp2_with fail;refine Z.accN HF rfl (by rw[HO.out];decide) ?_;intro w5 HF _ Z;go_wp2_with fail;replace HF:=zgo HF;refine Z.nt H (.operand 1) 10 HF zo ⟨⟨zo,zo⟩,HO.out⟩ rfl (λ_ _ h k=>⟨rfl,zaf h k⟩) ?_;intro n6 t6 A6 c6 w6 HF _ _ _ Z;obtain⟨⟨_,_,_,_,_⟩,_⟩:=Z.bx5;go_wp2;exact Z.finx HF Z.fx.1 zo rfl rfl rfl
theorem zlk (l:Nat) (hl:1<=l/\l<=8) (st:Ps) (ho:zao G.T st=(⟨#[116,114,117,101]⟩:ByteArray)) (hneed:16*(G.T.length-st.next)+(11-l)<k+1) (w:World) (h:PsAt G b w st) :
 Calls Tryz.prog 257 #[.pointer (some ⟨b,0,none⟩),.int .i64 (l:Int)] w (zaG G b QNd (zfj G.T G.en rec k l st) w):=by
 obtain⟨hbw,hlim,hlen,lw0,RR,hR,w0,hw0,sw0,Z⟩:=St.head h (zfj G.T G.en rec k l st);rw[hR];unfold zfj at hR;have HF:=zz hR;have HO:=zz ho;clear h hR ho;go_in;go_wp2_with fail;clear hw0;refine Z.off ?_;intro w1 _ Z;have hl8:=hl.2;have hl1:=hl.1
 by_cases h3:l=3
 ·subst h3;replace HF:=hpos HF rfl;go_wp2_with fail;refine Z.accN HF rfl (by rw[HO.out];decide) ?_;intro w2 HF _ Z;go_wp2_with fail;replace HF:=zgo HF;refine Z.nt H (.operand 4) 7 HF zo ⟨⟨zo,zo⟩,HO.out⟩ rfl (λ_ _ h k=>⟨rfl,zaf h k⟩) ?_;intro n3 t3 A3 c3 w3 HF _ _ _ Z;obtain⟨⟨_,_,_,_,_⟩,_⟩:=Z.bx5;go_wp2;exact Z.finx HF Z.fx.1 zo rfl rfl rfl
 ·by_cases h8:l=8
  ·subst h8;replace HF:=hpos (hneg HF h3) rfl;clear h3;go_wp2_with fail;refine Z.accN HF rfl (by rw[HO.out];decide) ?_;intro w2 HF _ Z;go_wp2_with fail;replace HF:=zgo HF;refine Z.nt H .postf 2 HF zo HO.out rfl (λ_ _ h k=>⟨rfl,zaf h k⟩) ?_;intro n3 t3 A3 c3 w3 HF _ _ _ Z;obtain⟨⟨_,_,_,_,_⟩,_⟩:=Z.bx5;go_wp2;exact Z.finx HF Z.fx.1 zo rfl rfl rfl
  ·have e3:((l:Int) == 3)=false:=by rw[beq_eq_false_iff_ne];omega
   have e8:((l:Int) == 8)=false:=by rw[beq_eq_false_iff_ne];omega
   have hwl:IntKind.i64.wrap ((l:Int)+1)=(l:Int)+1:=IntWalk.i64_in _ zo;replace HF:=hneg (hneg HF h3) h8;go_wp2_with fail;refine Z.nte H (.operand (l+1)) (11-(l+1)) HF zo ⟨⟨zo,zo⟩,HO.out⟩ rfl (λ_ _ h k=>⟨rfl,zaf h k⟩) ?_;intro n2 t2 A2 c2 w2 hx HF _ _ _ Z;have HA:Hid (zao G.T t2=(⟨#[97,99,116,111,114]⟩:ByteArray)):=zz (by rw[H.tru (.operand (l+1)) st trivial HO.out _ _ hx];exact G.htr st HO.out);clear hx;obtain⟨w3,hw,_,Z⟩:=Z.ndx n2 A2 c2 Z.fx.1 zo;go_wp2_with fail;clear hw
   go_loopw [] (λwr=>∃(j:Nat) (x:Nd) (t:Ps) (A:Option Addr) (c:Nat),G.T.length-t.next+1<=j/\Hid (zfe G.T rec l (zaC G.T G.en st) j x t=RR)/\Hid (zao G.T t=(⟨#[97,99,116,111,114]⟩:ByteArray))/\t2.next<=t.next/\t.next<=G.T.length/\w1.heap.size<=wr.heap.size/\w2.heap.size<wr.heap.size/\St G b w true (Nx w2.heap.size w1.heap.size x A c) t t.next wr) (λwr=>G.T.length-zeG wr b)
   case atStart=>exact⟨k,n2,t2,A2,c2,zo,HF,HA,Nat.le_refl _,zo,zo,zo,Z⟩
   case round=>
    clear HF Z HA;obtain⟨j,x,t,A,c,hj,HF,HA,ht1,ht2,swr,sg,Z⟩:=hrel;obtain⟨j',rfl⟩:∃j',j=j'+1:=⟨j-1,zo⟩;rw[zfe] at HF;have hmr:=Z.psn
    by_cases hv:zeH (zao G.T t)=some l
    ·rw[HA.out,show zeH (⟨#[97,99,116,111,114]⟩:ByteArray)=none by kernel_rfl] at hv;cases hv
    ·replace HF:=hneg HF hv;go_wp2_with fail;refine Z.wd rfl ?_;intro w4 _ Z;have c4:=Z.ps.c4;have hlk:=zlC Z.ps (zao G.T t);obtain⟨_,_,_,_,_⟩:=Cn.c5 Z.fx.2;cases hlv:zeH (zao G.T t) with
     |none=>
      rw[hlv] at hlk hv;clear hlv hv;obtain⟨⟨_,_,_,_,_⟩,_⟩:=Z.bx5;go_wp2;exact Z.finx HF (Bk.rk Z.fx.1) zo rfl rfl rfl
     |some l'=>
      rw[hlv] at hlk hv;have e7:((l':Int) == (l:Int))=false:=by rw[beq_eq_false_iff_ne];intro e;exact hv (congrArg some zo)
      have e9:((l':Int) != (l:Int))=true:=by rw[bne,e7];rfl
      clear hlv hv;obtain⟨⟨_,_,_,_,_⟩,_⟩:=Z.bx5;go_wp2;exact Z.finx HF (Bk.rk Z.fx.1) zo rfl rfl rfl
theorem zkD (st:Ps) (ho:zao G.T st=(⟨#[116,114,117,101]⟩:ByteArray)) (hneed:16*(G.T.length-st.next)+2<k+1) (w:World) (h:PsAt G b w st) :
 Calls Tryz.prog 269 #[.pointer (some ⟨b,0,none⟩)] w (zaG G b QNd (zfR G.T G.en rec k st) w):=by
 obtain⟨hbw,hlim,hlen,lw0,RR,hR,w0,hw0,sw0,Z⟩:=St.head h (zfR G.T G.en rec k st);rw[hR];unfold zfR at hR;have HF:=zz hR;have HO:=zz ho;clear h hR ho;go_in;go_wp2_with fail;clear hw0;refine Z.off ?_;intro w1 _ Z;go_wp2_with fail;refine Z.nte H .primary 1 HF zo HO.out rfl (λ_ _ h k=>⟨rfl,zaf h k⟩) ?_;intro n2 t2 A2 c2 w2 hx HF _ _ _ Z;have HA:Hid (zao G.T t2=(⟨#[97,99,116,111,114]⟩:ByteArray)):=zz (by rw[H.tru .primary st trivial HO.out _ _ hx];exact G.htr st HO.out);clear hx;obtain⟨w3,hw,_,Z⟩:=Z.ndx n2 A2 c2 Z.fx.1 zo;have hlx:w1.heap.size<=w2.heap.size:=zo
 go_wp2_with fail;clear hw;have hgw:w2.heap.size<w3.heap.size:=zo
 generalize w2.heap.size=gx at *
 go_loopw [] (λwr=>∃(j:Nat) (x:Nd) (t:Ps) (A:Option Addr) (c:Nat),G.T.length-t.next+1<=j/\Hid (zdL G.T G.en rec k (zaC G.T G.en st) j x t=RR)/\Hid (zao G.T t=(⟨#[97,99,116,111,114]⟩:ByteArray))/\t2.next<=t.next/\t.next<=G.T.length/\w1.heap.size<=wr.heap.size/\gx<wr.heap.size/\St G b w true (Nx gx w1.heap.size x A c) t t.next wr) (λwr=>G.T.length-zeG wr b)
 case atStart=>exact⟨k,n2,t2,A2,c2,zo,HF,HA,Nat.le_refl _,zo,zo,zo,Z⟩
 case round=>
  clear HF Z HA;obtain⟨j,x,t,A,c,hj,HF,HA,ht1,ht2,swr,sg,Z⟩:=hrel;obtain⟨j',rfl⟩:∃j',j=j'+1:=⟨j-1,zo⟩;rw[zdL] at HF;have hmr:=Z.psn
  by_cases h1:zao G.T t=(⟨#[40]⟩:ByteArray)
  ·rw[HA.out] at h1;exact absurd h1 zd
  ·have e1:=zam h1;replace HF:=hneg HF h1;clear h1;go_wp2_with fail;refine Z.wd rfl ?_;intro w4 _ Z;go_wp2_with fail;clear e1;refine Z.accN HF rfl (by rw[HA.out];decide) ?_;intro w5 HF _ Z;go_wp2_with fail;refine Z.accN HF rfl (by rw[HA.out];decide) ?_;intro w6 HF _ Z;obtain⟨_,_,_,_,_⟩:=Cn.c5 Z.fx.2;obtain⟨⟨_,_,_,_,_⟩,_⟩:=Z.bx5;go_wp2;exact Z.finx HF (Bk.rk Z.fx.1) zo rfl rfl rfl
theorem zlg (st:Ps) (ho:zao G.T st=(⟨#[116,114,117,101]⟩:ByteArray)) (hneed:16*(G.T.length-st.next)+1<k+1) (w:World) (h:PsAt G b w st) :
 Calls Tryz.prog 279 #[.pointer (some ⟨b,0,none⟩)] w (zaG G b QNd (zcA G.T G.en rec k st) w):=by
 obtain⟨hbw,hlim,hlen,lw0,RR,hR,w0,hw0,sw0,Z⟩:=St.head h (zcA G.T G.en rec k st);rw[hR];unfold zcA at hR;have HF:=zz hR;have HO:=zz ho;clear h hR ho;go_in;go_wp2_with fail;clear hw0;obtain⟨tk,htk⟩:=zn (zcq G st)
 by_cases h2:tk.kind=2
 ·exact absurd h2 (λh=>by have:=zzT HO.out;rw[htk] at this;omega)
 ·by_cases h3:tk.kind=3
  ·exact absurd h3 (λh=>by have:=zzT HO.out;rw[htk] at this;omega)
  ·have q:=(zjJ (rec:=rec) (k:=k) htk h2 h3).symm.trans HF.out;clear HF;have e2:(tk.kind == 2)=false:=by simpa using h2
   have e3:(tk.kind == 3)=false:=by simpa using h3
   unfold zfn at q;rw[show zaC G.T G.en st=tk.at' by rw[zpd,htk]] at q;have HF:=zz q;clear q;have K:=zfl G b st _ Z.ps;rw[htk] at K;refine Z.q K ?_;intro w1 _ Z;clear K;obtain⟨w2,hw,_,Z⟩:=Z.tkb ↑tk.kind ↑tk.text ↑tk.n ↑tk.at';clear htk;obtain⟨_,_,_,_⟩:=Ct.c4 Z.fx.1;go_wp2_with fail;clear hw e2 e3 h2 h3;refine Z.accY zs HF rfl HO.out ?_;intro w3 HF _ _ Z;go_wp2_with fail;refine Z.node ?_;intro w4 _ Z;obtain⟨⟨_,_,_,_,_⟩,_⟩:=Z.bx5;go_wp2;exact Z.fin0 HF rfl rfl rfl
theorem zmk (st:Ps) (hneed:16*(G.T.length-st.next)+0<k+1) (w:World) (h:PsAt G b w st) :
 Calls Tryz.prog 226 #[.pointer (some ⟨b,0,none⟩)] w (zaG G b QNd (zhT G.T G.en rec k st) w):=by
 obtain⟨hbw,hlim,hlen,lw0,RR,hR,w0,hw0,sw0,Z⟩:=St.head h (zhT G.T G.en rec k st);rw[hR];unfold zhT at hR;have HF:=zz hR;clear h hR;go_in;go_wp2_with fail;clear hw0;refine Z.off ?_;intro w1 _ Z;go_wp2_with fail;refine Z.accN HF rfl (G.nsta _) ?_;intro w2 HF _ Z;go_wp2_with fail;have K:=zgC G b st (⟨#[111,110]⟩:ByteArray) _ Z.ps zs;rw[zjf (G.non st)] at K;exact Z.er K (λV k=>⟨rfl,zaf (her HF (zjf (G.non st))) k⟩)
theorem zpu (st:Ps) (hneed:16*(G.T.length-st.next)+0<k+1) (w:World) (h:PsAt G b w st) :
 Calls Tryz.prog 168 #[.pointer (some ⟨b,0,none⟩)] w (zaG G b QNd (zqC G.T G.en rec k st) w):=by
 obtain⟨hbw,hlim,hlen,lw0,RR,hR,w0,hw0,sw0,Z⟩:=St.head h (zqC G.T G.en rec k st);rw[hR];unfold zqC at hR;have HF:=zz hR;clear h hR;go_in;go_wp2_with fail;clear hw0;refine Z.off ?_;intro w1 _ Z;go_wp2_with fail;refine Z.accN HF rfl (G.nrec _) ?_;intro w2 HF _ Z;go_wp2_with fail;refine Z.acc zs HF rfl ?_ ?_
 ·intro w3 HF _ _ Z;go_wp2_with fail;refine Z.upper HF (λ_ _ h k=>⟨rfl,zaf h k⟩) ?_;intro w4 HF _ _ Z;go_wp2_with fail;refine Z.ex zs HF (λ_ _ h k=>⟨rfl,zaf h k⟩) ?_;intro w5 HF _ _ Z;go_wp2_with fail;refine Z.its H .ctor 0 HF zo zs trivial (λ_ _=>trivial) rfl rfl (λ_ _=>by kernel_rfl) (λ_ _ h k=>⟨rfl,zaf h k⟩) ?_;intro n6 t6 A6 c6 w6 HF _ _ _ _ Z;go_wp2_with fail;refine Z.node ?_;intro w7 _ Z;obtain⟨⟨_,_,_,_,_⟩,_⟩:=Z.bx5;go_wp2;exact Z.fin HF (Ow.rk Z.fx.1) zo rfl rfl rfl rfl
 ·intro w3 HF _ Z;go_wp2_with fail;refine Z.accN HF rfl (G.neff _) ?_;intro w4 HF _ Z;go_wp2_with fail;refine Z.acc zs HF rfl ?_ ?_
  ·intro w5 HF _ _ Z;go_wp2_with fail;refine Z.lower HF (λ_ _ h k=>⟨rfl,zaf h k⟩) ?_;intro w6 HF _ _ Z;go_wp2_with fail;refine Z.ns (zgP G b k rec H _ (Z.nd0 zo) _ Z.ps) (zbF G.T G.en H.adv k _) HF (λ_ _ h k=>⟨rfl,zaf h k⟩) ?_;intro n7 t7 A7 c7 w7 HF _ _ _ _ Z;go_wp2_with fail;refine Z.node ?_;intro w8 _ Z;obtain⟨⟨_,_,_,_,_⟩,_⟩:=Z.bx5;go_wp2;exact Z.fin HF (Ow.rk Z.fx.1) zo rfl rfl rfl rfl
  ·intro w5 HF _ Z;go_wp2_with fail;refine Z.acc zs HF rfl ?_ ?_
   ·intro w6 HF _ _ Z;go_wp2_with fail;refine Z.upper HF (λ_ _ h k=>⟨rfl,zaf h k⟩) ?_;intro w7 HF _ _ Z;go_wp2_with fail;refine Z.ns (zfi G b k rec H _ (Z.nd0 zo) _ Z.ps) (zbJ G.T G.en H.adv k _) HF (λ_ _ h k=>⟨rfl,zaf h k⟩) ?_;intro n8 t8 A8 c8 w8 HF _ _ _ _ Z;go_wp2_with fail;refine Z.go (zop G b k _ (Z.nd0 zo) _ Z.ps) (zdz G.T G.en _) HF (λ_ _ h k=>⟨rfl,zaf h k⟩) ?_;intro i9 t9 e w9 HF _ _ _ Z hq;obtain rfl:e=.returned ↑i9:=hq;rename_i gq _;have gq':t8.next<=t9.next:=gq;go_wp2_with fail;refine Z.ex zs HF (λ_ _ h k=>⟨rfl,zaf h k⟩) ?_;intro w10 HF _ _ Z;go_wp2_with fail;replace Z:=Z.row Z.fx.1 zo;obtain⟨F,HQ,HK⟩:∃F:List Nd->Ps->R Nd,Hid (R.next (zdG G.T (rec .member) (⟨#[125]⟩:ByteArray) k n8 t9.adv) F=RR)/\Hid (∀l s,F l s=.ok (.mk 6 (zao G.T st.adv) i9 (zaC G.T G.en st) l,s)):=⟨_,HF,λ_ _=>rfl⟩;clear HF
    go_loopw [10] (λsv wr=>∃(j:Nat) (acc:List Nd) (t:Ps) (A:Option Addr) (c:Nat),sv=.slice A acc.length c/\acc.length<=65536+t.next/\G.T.length-t.next+1<=j/\Hid (R.next (zdG G.T (rec .member) (⟨#[125]⟩:ByteArray) j acc t) F=RR)/\t9.next+1<=t.next/\t.next<=G.T.length/\w7.heap.size<=wr.heap.size/\St G b w true (Ow w7.heap.size wr.heap.size acc (.slice A acc.length c)) t t.next wr) (λ_ wr=>G.T.length-zeG wr b)
    case atStart=>exact⟨k,n8,t9.adv,A8,c8,rfl,zo,by show G.T.length-(t9.next+1)+1<=k;omega,HQ,Nat.le_refl _,Z.ps.le,zo,Z⟩
    case round=>
     clear HQ Z;obtain⟨j,acc,t,A,c,rfl,hacc,hj,HF,ht1,ht2,swr,Z⟩:=hrel;obtain⟨j',rfl⟩:∃j',j=j'+1:=⟨j-1,zo⟩;rw[zdG] at HF;replace HF:=hite HF;have hmr:=Z.psn;go_wp2_with fail;refine Z.acc zs HF rfl ?_ ?_
     ·intro w11 HF _ _ Z;replace HF:=(HK.out _ _).symm.trans HF;clear hmr HK;go_wp2_with fail;refine Z.node ?_;intro w12 _ Z;obtain⟨⟨_,_,_,_,_⟩,_⟩:=Z.bx5;go_wp2;exact Z.fin HF (Ow.rk Z.fx) zo rfl rfl rfl rfl
     ·intro w11 HF _ Z;replace HF:=zmS HF;go_wp2_with fail;refine Z.nt H .member 0 HF zo trivial rfl (λ_ _ h k=>⟨rfl,zaf h k⟩) ?_;intro n12 t12 A12 c12 w12 HF _ _ _ Z;go_wp2_with (at_builtin;refine Z.wp_app Z.fx.2 Z.fx.1 rfl rfl rfl rfl zo zo (λ_=>by omega) zo zo zo ?_);intro L13 A13 c13 w13 hL _ _ Z;rw[hL] at HF;clear hL;have hm9:=Z.psn;go_wp2_with fail;exact⟨⟨j',L13,t12,A13,c13,rfl,zo,zo,HF,zo,zo,zo,Z⟩,zo⟩
   ·intro w6 HF _ Z;go_wp2_with fail;have K:=zhc G b st _ Z.ps;refine K.mono ?_;rintro e we ⟨rfl,hb⟩;exact⟨rfl,zaf (by rw[<-HF.out];rfl) (Z.own.of_below hb)⟩
end
theorem zAp (G:PG):∀(f:Nat) (nt:NT) (st:Ps),zEe nt->zao G.T st=(⟨#[116,114,117,101]⟩:ByteArray)->∀n st',zgM G.T G.en f nt st=.ok (n,st')->st'=st.adv
 |0,nt,st,_,_,n,st',h=>by cases h
 |f+1,nt,st,ht,hw,n,st',h=>by
  have ih:=zAp G f;have ha:=G.htr st hw;have h:ztJ G.T G.en (zgM G.T G.en f) f nt st=.ok (n,st'):=h
  have nx:∀(mt:NT) (g:Nd->Ps->R Nd),zEe mt->R.next (zgM G.T G.en f mt st) g=.ok (n,st')->∃x,g x st.adv=.ok (n,st'):=λmt g hm h=>by
   cases hx:zgM G.T G.en f mt st with
   |error a=>rw[hx] at h;cases h
   |ok p=>
    obtain⟨x,s1⟩:=p;rw[hx] at h;rw[ih mt st hm hw x s1 hx] at h;exact⟨x,h⟩
  cases nt with
  |expr=>
   have h:zrt G.T G.en (zgM G.T G.en f) f st=.ok (n,st'):=h;unfold zrt at h;rw[hw,if_neg zd,if_neg zd,if_neg zd,if_neg zd] at h;exact ih (.operand 1) st trivial hw n st' h
  |operand l=>
   have h:zfj G.T G.en (zgM G.T G.en f) f l st=.ok (n,st'):=h;unfold zfj at h;rw[hw,if_neg (show ¬((⟨#[116,114,117,101]⟩:ByteArray):ByteArray)=(⟨#[110,111,116]⟩:ByteArray) by decide),if_neg (show ¬((⟨#[116,114,117,101]⟩:ByteArray):ByteArray)=(⟨#[45]⟩:ByteArray) by decide)] at h
   split at h
   ·exact ih (.operand 4) st trivial hw n st' h
   ·split at h
    ·exact ih .postf st trivial hw n st' h
    ·obtain⟨x,hx⟩:=nx (.operand (l+1)) _ trivial h;cases f with
     |zero=>cases hx
     |succ f=>
      rw[zfe,ha,show zeH (⟨#[97,99,116,111,114]⟩:ByteArray)=none by kernel_rfl,if_neg zs] at hx;cases hx;rfl
  |postf=>
   have h:zfR G.T G.en (zgM G.T G.en f) f st=.ok (n,st'):=h;unfold zfR at h;obtain⟨x,hx⟩:=nx .primary _ trivial h;cases f with
   |zero=>cases hx
   |succ f=>
    rw[zdL,ha,if_neg zd,if_neg zd,if_neg zd] at hx;cases hx;rfl
  |primary=>
   have h:zcA G.T G.en (zgM G.T G.en f) f st=.ok (n,st'):=h;have hp:=zzT hw;rw[zjJ rfl zo zo] at h;unfold zfn at h;rw[hw,if_pos rfl] at h;cases h;rfl
  |_=>exact absurd ht (λh=>h)
end Go.Proofs.YtcebmphappfjjaaGreatDoor
