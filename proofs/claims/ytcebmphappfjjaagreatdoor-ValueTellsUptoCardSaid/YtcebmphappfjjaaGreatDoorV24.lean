/- Conditions: those in each statement. -/
import Derived.Test.YtcebmphappfjjaaGreatDoorV23
import Derived.Deep.RegionHeld3
import Derived.RegionDies
import Derived.Deep.RegionLaw
import Derived.Test.YtcebmphappfjjaaGreatDoorProg
import Derived.Test.YtcebmphappfjjaaGreatDoorV02
set_option maxHeartbeats 32000000
set_option maxRecDepth 100000
namespace Go.Proofs.YtcebmphappfjjaaGreatDoor
open Go.RowKit
def zhk (T:List Tok) (rec:NT->Ps->R Nd) (k:Nat) (st:Ps):R Nd:=(zdJ T rec k [] st).next λl st'=>.ok (.mk 1 ⟨#[]⟩ 0 0 l,st')
theorem zmT (G:PG) (b:Nat):∀f,Recs G b f (zgM G.T G.en f)
 |0=>⟨λnt st=>zhX G.T G.en 0 nt st,zAp G 0,λnt st _ h=>absurd h (Nat.not_lt_zero _)⟩
 |f+1=>⟨λnt st=>zhX G.T G.en (f+1) nt st,zAp G (f+1),λnt st ho hn w h=>by
  have H:=zmT G b f;cases nt with
  |typ=>exact zso G b f _ H st ho hn w h
  |field=>exact znH G b f _ H st hn w h
  |expr=>exact zpn G b f _ H st ho hn w h
  |operand l=>exact zlk G b f _ H l ho.1 st ho.2 hn w h
  |postf=>exact zkD G b f _ H st ho hn w h
  |primary=>exact zlg G b f _ H st ho hn w h
  |ctor=>exact zqS G b f _ H st hn w h
  |member=>exact zmk G b f _ H st hn w h
  |decl=>exact zpu G b f _ H st hn w h
  |_=>exact ho.elim⟩
section
variable (G:PG) (b k:Nat) (rec:NT->Ps->R Nd) (H:Recs G b k rec)
include H
theorem zmB (st:Ps) (hneed:16*(G.T.length-st.next)+1<k+1) (w:World) (h:PsAt G b w st) :
 Calls Tryz.prog 123 #[.pointer (some ⟨b,0,none⟩),.bool false] w (zaG G b QNd (zhk G.T rec k st) w):=by
 obtain⟨hbw,hlim,hlen,lw0,RR,hR,w0,hw0,sw0,Z⟩:=St.head h (zhk G.T rec k st);rw[hR];unfold zhk at hR;have HF:=zz hR;clear h hR;go_in;go_wp2_with fail;clear hw0;replace Z:=Z.row0 (lo:=w0.heap.size) zo;obtain⟨F,HQ,HK⟩:∃F:List Nd->Ps->R Nd,Hid (R.next (zdJ G.T rec k [] st) F=RR)/\Hid (∀l s,F l s=.ok (.mk 1 ⟨#[]⟩ 0 0 l,s)):=⟨_,HF,λ_ _=>rfl⟩;clear HF
 go_loopw [5] (λsv wr=>∃(j:Nat) (acc:List Nd) (t:Ps) (A:Option Addr) (c:Nat),sv=.slice A acc.length c/\acc.length<=65536+t.next/\G.T.length-t.next+1<=j/\Hid (R.next (zdJ G.T rec j acc t) F=RR)/\st.next<=t.next/\t.next<=G.T.length/\w0.heap.size<=wr.heap.size/\St G b w true (Ow w0.heap.size wr.heap.size acc (.slice A acc.length c)) t t.next wr) (λ_ wr=>G.T.length-zeG wr b)
 case atStart=>exact⟨k,[],st,none,0,rfl,by simp,by show G.T.length-(st.next)+1<=k;omega,HQ,Nat.le_refl _,Z.ps.le,zo,Z⟩
 case round=>
  clear HQ Z;obtain⟨j,acc,t,A,c,rfl,hacc,hj,HF,ht1,ht2,swr,Z⟩:=hrel;obtain⟨j',rfl⟩:∃j',j=j'+1:=⟨j-1,zo⟩;rw[zdJ] at HF;replace HF:=hite HF;have hmr:=Z.psn;go_wp2_with fail;have K:=zjE G b t _ Z.ps
  by_cases hw:t.next=G.T.length
  ·have e0:((t.next:Int) == (G.T.length:Int))=true:=by rw[beq_iff_eq];omega
   rw[e0] at K;replace HF:=hpos HF hw;refine Z.q K ?_;intro w1 _ Z;clear K e0;replace HF:=(HK.out _ _).symm.trans HF;clear hmr HK;go_wp2_with fail;refine Z.node ?_;intro w2 _ Z;obtain⟨⟨_,_,_,_,_⟩,_⟩:=Z.bx5;go_wp2;exact Z.fin HF (Ow.rk Z.fx) zo rfl rfl rfl rfl
  ·have e0:((t.next:Int) == (G.T.length:Int))=false:=by rw[beq_eq_false_iff_ne];omega
   rw[e0] at K;replace HF:=hneg HF hw;refine Z.q K ?_;intro w1 _ Z;clear K e0;replace HF:=zmS HF;go_wp2_with fail;refine Z.nt H .decl 0 HF zo trivial rfl (λ_ _ h k=>⟨rfl,zaf h k⟩) ?_;intro n2 t2 A2 c2 w2 HF _ _ _ Z;go_wp2_with (at_builtin;refine Z.wp_app Z.fx.2 Z.fx.1 rfl rfl rfl rfl zo zo (λ_=>by omega) zo zo zo ?_);intro L3 A3 c3 w3 hL _ _ Z;rw[hL] at HF;clear hL;have hm9:=Z.psn;go_wp2_with fail;exact⟨⟨j',L3,t2,A3,c3,rfl,zo,zo,HF,zo,zo,zo,Z⟩,zo⟩
end
end Go.Proofs.YtcebmphappfjjaaGreatDoor
set_option maxHeartbeats 32000000
set_option maxRecDepth 100000
namespace Go.Proofs.YtcebmphappfjjaaGreatDoor
open Go.RowKit Go.MapKept
theorem zbr {w w1 w2:World} {g:Nat} (hg:w1.grownBy w2 (some g)) (hb:Below w.heap.size w w1) (h:w.heap.size<=g):Below w.heap.size w w2:=by
 have:=hb.size;exact⟨hg.os.trans hb.os,hg.tape.trans hb.tape,hg.output.trans hb.output,Nat.le_trans hb.size hg.size,λk hk=>(hg.block k zo (λe=>by have:=Option.some.inj e;omega)).trans (hb.block k hk)⟩
theorem zep (w:World):Calls Tryz.prog 122 #[] w λe w'=>e=.returned (.map (some w.heap.size))/\zaN w' w.heap.size zgA/\Below w.heap.size w w':=by
 have hmm:=@run_makeMap Tryz.prog;have hm0:=zaN.new w;have hb0:=(Below.refl w.heap.size w).alloc (Nat.le_refl _) (.map #[] 0);obtain⟨w0,hw0⟩:=zn (w.alloc (.map #[] 0));rw[hw0] at hm0 hb0;have H0:=zz (And.intro hm0 hb0);clear hm0 hb0;obtain⟨w1,hup1,hq1,hg1,_⟩:=zap (P:=Tryz.prog) (T:=111) Tryz.underlying111 Tryz.underlying9 H0.out.1 (⟨#[111,114]⟩:ByteArray) (.int .i64 1);have H1:=zz (And.intro hq1 (zbr hg1 H0.out.2 (Nat.le_refl _)));clear hq1 hg1 H0;obtain⟨w2,hup2,hq2,hg2,_⟩:=zap (P:=Tryz.prog) (T:=111) Tryz.underlying111 Tryz.underlying9 H1.out.1 (⟨#[97,110,100]⟩:ByteArray) (.int .i64 2);have H2:=zz (And.intro hq2 (zbr hg2 H1.out.2 (Nat.le_refl _)));clear hq2 hg2 H1;obtain⟨w3,hup3,hq3,hg3,_⟩:=zap (P:=Tryz.prog) (T:=111) Tryz.underlying111 Tryz.underlying9 H2.out.1 (⟨#[61,61]⟩:ByteArray) (.int .i64 4);have H3:=zz (And.intro hq3 (zbr hg3 H2.out.2 (Nat.le_refl _)));clear hq3 hg3 H2;obtain⟨w4,hup4,hq4,hg4,_⟩:=zap (P:=Tryz.prog) (T:=111) Tryz.underlying111 Tryz.underlying9 H3.out.1 (⟨#[33,61]⟩:ByteArray) (.int .i64 4);have H4:=zz (And.intro hq4 (zbr hg4 H3.out.2 (Nat.le_refl _)));clear hq4 hg4 H3;obtain⟨w5,hup5,hq5,hg5,_⟩:=zap (P:=Tryz.prog) (T:=111) Tryz.underlying111 Tryz.underlying9 H4.out.1 (⟨#[60]⟩:ByteArray) (.int .i64 4);have H5:=zz (And.intro hq5 (zbr hg5 H4.out.2 (Nat.le_refl _)));clear hq5 hg5 H4;obtain⟨w6,hup6,hq6,hg6,_⟩:=zap (P:=Tryz.prog) (T:=111) Tryz.underlying111 Tryz.underlying9 H5.out.1 (⟨#[60,61]⟩:ByteArray) (.int .i64 4);have H6:=zz (And.intro hq6 (zbr hg6 H5.out.2 (Nat.le_refl _)));clear hq6 hg6 H5;obtain⟨w7,hup7,hq7,hg7,_⟩:=zap (P:=Tryz.prog) (T:=111) Tryz.underlying111 Tryz.underlying9 H6.out.1 (⟨#[62]⟩:ByteArray) (.int .i64 4);have H7:=zz (And.intro hq7 (zbr hg7 H6.out.2 (Nat.le_refl _)));clear hq7 hg7 H6;obtain⟨w8,hup8,hq8,hg8,_⟩:=zap (P:=Tryz.prog) (T:=111) Tryz.underlying111 Tryz.underlying9 H7.out.1 (⟨#[62,61]⟩:ByteArray) (.int .i64 4);have H8:=zz (And.intro hq8 (zbr hg8 H7.out.2 (Nat.le_refl _)));clear hq8 hg8 H7;obtain⟨w9,hup9,hq9,hg9,_⟩:=zap (P:=Tryz.prog) (T:=111) Tryz.underlying111 Tryz.underlying9 H8.out.1 (⟨#[43,43]⟩:ByteArray) (.int .i64 5);have H9:=zz (And.intro hq9 (zbr hg9 H8.out.2 (Nat.le_refl _)));clear hq9 hg9 H8;obtain⟨w10,hup10,hq10,hg10,_⟩:=zap (P:=Tryz.prog) (T:=111) Tryz.underlying111 Tryz.underlying9 H9.out.1 (⟨#[43]⟩:ByteArray) (.int .i64 6);have H10:=zz (And.intro hq10 (zbr hg10 H9.out.2 (Nat.le_refl _)));clear hq10 hg10 H9;obtain⟨w11,hup11,hq11,hg11,_⟩:=zap (P:=Tryz.prog) (T:=111) Tryz.underlying111 Tryz.underlying9 H10.out.1 (⟨#[45]⟩:ByteArray) (.int .i64 6);have H11:=zz (And.intro hq11 (zbr hg11 H10.out.2 (Nat.le_refl _)));clear hq11 hg11 H10;obtain⟨w12,hup12,hq12,hg12,_⟩:=zap (P:=Tryz.prog) (T:=111) Tryz.underlying111 Tryz.underlying9 H11.out.1 (⟨#[42]⟩:ByteArray) (.int .i64 7);have H12:=zz (And.intro hq12 (zbr hg12 H11.out.2 (Nat.le_refl _)));clear hq12 hg12 H11
 obtain⟨w13,hup13,hq13,hg13,_⟩:=zap (P:=Tryz.prog) (T:=111) Tryz.underlying111 Tryz.underlying9 H12.out.1 (⟨#[47]⟩:ByteArray) (.int .i64 7);have H13:=zz (And.intro hq13 (zbr hg13 H12.out.2 (Nat.le_refl _)));clear hq13 hg13 H12;obtain⟨w14,hup14,hq14,hg14,_⟩:=zap (P:=Tryz.prog) (T:=111) Tryz.underlying111 Tryz.underlying9 H13.out.1 (⟨#[37]⟩:ByteArray) (.int .i64 7);have H14:=zz (And.intro hq14 (zbr hg14 H13.out.2 (Nat.le_refl _)));clear hq14 hg14 H13;go_in;go_wp2;go_ret;exact⟨rfl,by have q:=H14.out.1;simp[mput,fnd] at q;exact q,H14.out.2⟩
end Go.Proofs.YtcebmphappfjjaaGreatDoor
