/- Conditions: those in each statement. -/
import Derived.Test.YtcebmphappfjjaaGreatDoorV46
import Derived.Test.YtcebmphappfjjaaGreatDoorV47
set_option maxHeartbeats 32000000
set_option maxRecDepth 100000
namespace Go.Proofs.YtcebmphappfjjaaGreatDoor
open Go.RowKit
def zDj (b:Nat) (o:Option (V × RS × Nat)) (w:World) (e:Ending) (w':World):Prop:=
 Chg (λk=>k=b) w w'/\
 match o with
 |none=>e=.returned (.tuple #[.agg #[.int .i64 0,.string ⟨#[]⟩,.int .i64 0,.int .i64 0,.string ⟨#[]⟩,.slice none 0 0],.int .i64 (-1)])/\∃r',R2At w' b r'/\r'.s.size<=4294967296
 |some (v,r',left')=>∃A c,e=.returned (.tuple #[.agg #[.int .i64 v.kind,.string v.t,.int .i64 v.n,.int .i64 v.m,.string v.s,.slice A v.l.length c],.int .i64 left'])/\Rd (Bt w.heap.size w'.heap.size) w' (vs v.l) (.slice A v.l.length c)/\R2At w' b r'
structure TSt (w0:World) (b vb:Nat) (W:World) (r:RS) (cs:Array Value):Prop where
 chg:Chg (λk=>k=b) w0 W
 rd:R2At W b r
 res:zab W w0.heap.size #[.int .i64 0,.string ⟨#[]⟩,.int .i64 0,.int .i64 0,.string ⟨#[]⟩,.slice none 0 0] 24
 v:zab W vb cs 24
 vb:w0.heap.size<vb
section
variable {w0:World} {b vb:Nat} {W w1:World} {r r':RS} {cs:Array Value}
theorem TSt.call (h:TSt w0 b vb W r cs) (hb:b<w0.heap.size) (hc:Chg (λk=>k=b) W w1) (hr:R2At w1 b r'):TSt w0 b vb w1 r' cs:=
 ⟨h.chg.next hc,hr,h.res.keep hc zo,h.v.keep hc (by have:=h.vb;omega),h.vb⟩
theorem TSt.store (h:TSt w0 b vb W r cs) (hb:b<w0.heap.size) (j:Nat) (u:Value):TSt w0 b vb (W.setCell ⟨vb,j,none⟩ u) r (cs.setIfInBounds j u):=by
 have hc:Chg (λk=>k=vb) W (W.setCell ⟨vb,j,none⟩ u):=(Chg.refl (λk=>k=vb) W).setCell (p:=⟨vb,j,none⟩) (.inl rfl) u;have:=h.vb;exact⟨h.chg.trans hc (λk hk=>.inr zo),h.rd.keep hc zo,h.res.keep hc zo,h.v.set j u,h.vb⟩
theorem TSt.later (h:TSt w0 b vb W r cs) (hb:b<w0.heap.size) (hc:Chg (λk=>vb<k) W w1):TSt w0 b vb w1 r cs:=by
 have:=h.vb;exact⟨h.chg.trans hc (λk hk=>.inr zo),h.rd.keep hc zo,h.res.keep hc zo,h.v.keep hc zo,h.vb⟩
end
def TZ:Value:=.tuple #[.agg #[.int .i64 0,.string ⟨#[]⟩,.int .i64 0,.int .i64 0,.string ⟨#[]⟩,.slice none 0 0],.int .i64 (-1)]
theorem zDO {w0:World} {b vb:Nat} {W:World} {r:RS} {cs:Array Value} (h:TSt w0 b vb W r cs) (hb:b<w0.heap.size) (hs:r.s.size<=4294967296) {a:Act} {o:Obj}
 (h4:a.tmps.getD 4 undef=.pointer (some ⟨w0.heap.size,0,none⟩)) (h5:a.tmps.getD 5 undef=.int .i64 (-1)) (hd:a.defers=[]) :
 bodyPost Tryz.prog Tryz.f51 (zDj b none w0) Exit.ret a (((((((W.setCell ⟨w0.heap.size,0,none⟩ ↑()).setCell ⟨w0.heap.size,1,none⟩ ↑zj.a).setCell ⟨w0.heap.size,2,none⟩ ↑()).setCell ⟨w0.heap.size,3,none⟩ ↑()).setCell ⟨w0.heap.size,4,none⟩ ↑zj.a).setCell ⟨w0.heap.size,5,none⟩ (.slice none 0 0)).alloc o):=by
 have hal:∀X:World,Chg (λ_=>False) X (X.alloc o):=λX=>(Chg.refl _ X).alloc o;refine bodyPost_ret (v:=TZ) ?_ hd ⟨(zlG h.chg (.inr (Nat.le_refl _)) _ _ _ _ _ _).alloc _,rfl,r,(h.rd.keep (zlJ _ _ _ _ _ _) zo).keep (hal _) (λh=>h),hs⟩;have:=zah Tryz.results51 a.tmps _ w0.heap.size _ _ (0,0) _ h4 ((zhz ↑() ↑zj.a ↑() ↑() ↑zj.a (.slice none 0 0) h.res).keep (hal _) (λh=>h)) Tryz.underlying24 rfl zkU;rw[h5] at this;exact this
theorem zEi {w0:World} {b vb:Nat} {W:World} {r:RS} {left:Nat} {K N M:Int} {T S:ByteArray} {acc:List V} {vq:Value} (h:TSt w0 b vb W r #[↑K,↑T,↑N,↑M,↑S,vq]) (hb:b<w0.heap.size) (hO:zaz (vb+1) 24 6 acc.length (zgZ acc) W vq) {a:Act}
 (h4:a.tmps.getD 4 undef=.pointer (some ⟨w0.heap.size,0,none⟩)) (h5:a.tmps.getD 5 undef=↑left) (hd:a.defers=[]) :
 bodyPost Tryz.prog Tryz.f51 (zDj b (some (.mk K T N M S acc,r,left)) w0) Exit.ret a ((((((W.setCell ⟨w0.heap.size,0,none⟩ ↑K).setCell ⟨w0.heap.size,1,none⟩ ↑T).setCell ⟨w0.heap.size,2,none⟩ ↑N).setCell ⟨w0.heap.size,3,none⟩ ↑M).setCell ⟨w0.heap.size,4,none⟩ ↑S).setCell ⟨w0.heap.size,5,none⟩ vq):=by
 have hrd:=hO.rd;obtain⟨A,c,rfl,_⟩:=hrd.sl_inv;have hvb:=h.vb;have:=zah Tryz.results51 a.tmps _ w0.heap.size _ _ (0,0) _ h4 (zhz ↑K ↑T ↑N ↑M ↑S (.slice A acc.length c) h.res) Tryz.underlying24 rfl zkU;rw[h5] at this;refine bodyPost_ret this hd ⟨zlG h.chg (.inr (Nat.le_refl _)) _ _ _ _ _ _,A,c,rfl,?_,h.rd.keep (zlJ _ _ _ _ _ _) zo⟩;have hc:=zlJ (w:=W) (g:=w0.heap.size) ↑K ↑T ↑N ↑M ↑S (.slice A acc.length c);have h1:=hc.rd (ok:=Bt (vb+1) W.heap.size) (λb hb=>⟨hb.2,by have:=hb.1;omega⟩) hrd;exact h1.weaken (λb hb=>⟨by have:=hb.1;omega,Nat.lt_of_lt_of_le hb.2 hc.size⟩)
theorem zBz:∀(F:Nat) (b:Nat) (r:RS) (left:Nat) (w:World),left<F->left<=16384->r.s.size<=4294967296->R2At w b r->
 Calls Tryz.prog 51 #[.pointer (some ⟨b,0,none⟩),↑left] w (zDj b (tkS F r left) w)
 |0,_,_,_,_,h,_,_,_=>absurd h zo
 |F+1,b,r,left,w,hF,hleft,hs,hr=>by
  have IH:=zz (zBz F);have hb:=hr.lt;obtain⟨W,hW⟩:∃W,w.alloc (.cells #[↑(),↑zj.a,↑(),↑(),↑zj.a,.slice none 0 0] 24)=W:=⟨_,rfl⟩;have hA:Below w.heap.size w W:=by rw[<-hW];exact(Below.refl _ _).alloc (Nat.le_refl _) _
  have HSZ:Hid (W.heap.size=w.heap.size+1):=zz (by rw[<-hW];simp);have HRW:=zz (hr.below hA);have HZW:Hid (zab W w.heap.size #[↑(),↑zj.a,↑(),↑(),↑zj.a,.slice none 0 0] 24):=zz (by rw[<-hW];exact zab.new w _ _);have HA:=zz hA;have z0:W.cell? ⟨w.heap.size,0,none⟩=some ↑():=by rw[HZW.out.cell];rfl
  have z1:W.cell? ⟨w.heap.size,1,none⟩=some ↑zj.a:=by rw[HZW.out.cell];rfl
  have z2:W.cell? ⟨w.heap.size,2,none⟩=some ↑():=by rw[HZW.out.cell];rfl
  have z3:W.cell? ⟨w.heap.size,3,none⟩=some ↑():=by rw[HZW.out.cell];rfl
  have z4:W.cell? ⟨w.heap.size,4,none⟩=some ↑zj.a:=by rw[HZW.out.cell];rfl
  have z5:W.cell? ⟨w.heap.size,5,none⟩=some (.slice none 0 0):=by rw[HZW.out.cell];rfl
  have zf:=HZW.out.fz;have HLE:=zz (zzE b r W HRW.out);clear hA hr;obtain⟨O,hO⟩:=zn (tkS (F+1) r left);rw[hO]
  by_cases hl0:left=0
  ·subst hl0;have HN:Hid (O=none):=zz (by rw[<-hO,tkS,if_pos (.inl rfl)]);clear hO;go_in;go_wp2_with fail;rw[HN.out]
   exact bodyPost_ret (v:=TZ) (zah Tryz.results51 _ _ w.heap.size _ _ (0,0) _ rfl (zhz _ _ _ _ _ _ HZW.out) Tryz.underlying24 rfl zkU) rfl
    ⟨zlG (Chg.of_below HA.out) (.inr (Nat.le_refl _)) _ _ _ _ _ _,rfl,r,HRW.out.keep (zlJ _ _ _ _ _ _) zo,hs⟩
  ·by_cases hs0:r.s.size=0
   ·have HN:Hid (O=none):=zz (by rw[<-hO,tkS,if_pos (.inr hs0)]);have hlb0:¬(left:Int)<1:=zo
    have hlb1:decide ((left:Int)<1)=false:=decide_eq_false hlb0;have hsb:((r.s.size:Int) == 0)=true:=by simp[hs0]
    clear hl0 hs0 hO;go_in;go_wp2_with fail;refine zi HLE ?_;rintro e w1 ⟨rfl,rfl⟩;go_wp2_with fail;rw[HN.out]
    exact bodyPost_ret (v:=TZ) (zah Tryz.results51 _ _ w.heap.size _ _ (0,0) _ rfl (zhz _ _ _ _ _ _ HZW.out) Tryz.underlying24 rfl zkU) rfl
     ⟨zlG (Chg.of_below HA.out) (.inr (Nat.le_refl _)) _ _ _ _ _ _,rfl,r,HRW.out.keep (zlJ _ _ _ _ _ _) zo,hs⟩
   ·obtain⟨l1,rfl⟩:∃l1,left=l1+1:=⟨left-1,zo⟩;have hlb0:¬((l1:Int)+1)<1:=zo
    have hlb1:decide (((l1:Int)+1)<1)=false:=decide_eq_false hlb0;have hsb:((r.s.size:Int) == 0)=false:=by rw[beq_eq_false_iff_ne];omega
    rw[tkS,if_neg zo,Nat.add_sub_cancel] at hO;rw[show (((l1+1:Nat):Int))=(l1:Int)+1 by omega];have hs1:(hd1 r).s.size<=4294967296:=Nat.le_trans (zuO r) hs;have hs2:(hd2 r).s.size<=4294967296:=Nat.le_trans (zuV (hd1 r)) hs1;have hs3:(hd3 r).s.size<=4294967296:=Nat.le_trans (zve (hd2 r)) hs2;have hs4:(hd4 r).s.size<=4294967296:=Nat.le_trans (zve (hd3 r)) hs3;have hs5:(hd5 r).s.size<=4294967296:=Nat.le_trans (zuV (hd4 r)) hs4;have hs6:(hd6 r).s.size<=4294967296:=Nat.le_trans (zuO (hd5 r)) hs5;have H1:Hid (∀W,R2At W b r->Calls Tryz.prog 95 #[.pointer (some ⟨b,0,none⟩)] W (zzS b (hd1 r) (.int .i64 (numV r)) W)):=zz (λW h=>zAn b r W h hs);have H2:Hid (∀W,R2At W b (hd1 r)->Calls Tryz.prog 96 #[.pointer (some ⟨b,0,none⟩)] W (zzS b (hd2 r) (.string (zoJ (hd1 r))) W)):=zz (λW h=>zBg b (hd1 r) W h hs1);have H3:Hid (∀W,R2At W b (hd2 r)->Calls Tryz.prog 97 #[.pointer (some ⟨b,0,none⟩)] W (zzS b (hd3 r) (.int .i64 (intV (hd2 r))) W)):=zz (λW h=>zBG b (hd2 r) W h hs2);have H4:Hid (∀W,R2At W b (hd3 r)->Calls Tryz.prog 97 #[.pointer (some ⟨b,0,none⟩)] W (zzS b (hd4 r) (.int .i64 (intV (hd3 r))) W)):=zz (λW h=>zBG b (hd3 r) W h hs3);have H5:Hid (∀W,R2At W b (hd4 r)->Calls Tryz.prog 96 #[.pointer (some ⟨b,0,none⟩)] W (zzS b (hd5 r) (.string (zoJ (hd4 r))) W)):=zz (λW h=>zBg b (hd4 r) W h hs4);have H6:Hid (∀W,R2At W b (hd5 r)->Calls Tryz.prog 95 #[.pointer (some ⟨b,0,none⟩)] W (zzS b (hd6 r) (.int .i64 (numV (hd5 r))) W)):=zz (λW h=>zAn b (hd5 r) W h hs5);have HO:Hid (O=(zcn (tkS F) (numV (hd5 r)) (hd6 r) l1).map λp=>(.mk (numV r) (zoJ (hd1 r)) (intV (hd2 r)) (intV (hd3 r)) (zoJ (hd4 r)) p.1,p.2.1,p.2.2)):=zz hO.symm;have hv5:=zwz (hd5 r);clear hs1 hs2 hs3 hs4 hs5 hO hl0 hs0;generalize hd6 r=R6 at *
    generalize numV (hd5 r)=C at *
    generalize zoJ (hd4 r)=S at *
    generalize hd5 r=R5 at *
    generalize intV (hd3 r)=M at *
    generalize hd4 r=R4 at *
    generalize intV (hd2 r)=N at *
    generalize hd3 r=R3 at *
    generalize zoJ (hd1 r)=T at *
    generalize hd2 r=R2 at *
    generalize hK:numV r=K at *
    generalize hd1 r=R1 at *
    clear hK;go_in;go_wp2_with fail;refine zi HLE ?_;rintro e w1 ⟨rfl,rfl⟩;go_wp2_with fail;clear z0 z1 z2 z3 z4 z5 zf hW;(with_reducible refine(H1.out _ HRW.out).mono ?_);rintro e w1 ⟨rfl,hc,hr⟩
    have S1:Hid (TSt w b w1.heap.size (w1.alloc (.cells #[↑K,↑zj.a,↑(),↑(),↑zj.a,.slice none 0 0] 24)) R1 #[↑K,↑zj.a,↑(),↑(),↑zj.a,.slice none 0 0]):=zz (by
     have hz:=HSZ.out;have h1:=hc.size;have ha:Chg (λ_=>False) w1 (w1.alloc (.cells #[↑K,↑zj.a,↑(),↑(),↑zj.a,.slice none 0 0] 24)):=(Chg.refl _ _).alloc _;exact⟨((Chg.of_below HA.out).trans hc (λk hk=>.inl hk)).alloc _,hr.keep ha (λh=>h),(HZW.out.keep hc zo).keep ha (λh=>h),zab.new w1 _ _,zo⟩)
    clear hc hr;go_wp2_with fail;have hvb1:w.heap.size<w1.heap.size:=S1.out.vb;obtain⟨X1,hX1⟩:∃X,w1.alloc (.cells #[↑K,↑zj.a,↑(),↑(),↑zj.a,.slice none 0 0] 24)=X:=⟨_,rfl⟩;rw[hX1] at S1 ⊢;clear hX1;generalize w1.heap.size=vb at *
    clear HZW HRW HA HSZ H1 HLE;clear w1;(with_reducible refine(H2.out _ S1.out.rd).mono ?_);rintro e w2 ⟨rfl,hc,hr⟩;have T2:=zz (S1.out.call hb hc hr);clear hc hr S1 H2;have hv:w2.cell? ⟨vb,1,none⟩=some ↑zj.a:=by rw[T2.out.v.cell];rfl
    have hf:=T2.out.v.fz;have S2:Hid (TSt w b vb (w2.setCell ⟨vb,1,none⟩ ↑T) R2 #[↑K,↑T,↑(),↑(),↑zj.a,.slice none 0 0]):=zz (by simpa using T2.out.store hb 1 ↑T);clear T2;go_wp2_with fail;(with_reducible refine(H3.out _ S2.out.rd).mono ?_);rintro e w3 ⟨rfl,hc,hr⟩;have T3:=zz (S2.out.call hb hc hr);clear hc hr S2 H3;have hv:w3.cell? ⟨vb,2,none⟩=some ↑():=by rw[T3.out.v.cell];rfl
    have hf:=T3.out.v.fz;have S3:Hid (TSt w b vb (w3.setCell ⟨vb,2,none⟩ ↑N) R3 #[↑K,↑T,↑N,↑(),↑zj.a,.slice none 0 0]):=zz (by simpa using T3.out.store hb 2 ↑N);clear T3;go_wp2_with fail;(with_reducible refine(H4.out _ S3.out.rd).mono ?_);rintro e w4 ⟨rfl,hc,hr⟩;have T4:=zz (S3.out.call hb hc hr);clear hc hr S3 H4;have hv:w4.cell? ⟨vb,3,none⟩=some ↑():=by rw[T4.out.v.cell];rfl
    have hf:=T4.out.v.fz;have S4:Hid (TSt w b vb (w4.setCell ⟨vb,3,none⟩ ↑M) R4 #[↑K,↑T,↑N,↑M,↑zj.a,.slice none 0 0]):=zz (by simpa using T4.out.store hb 3 ↑M);clear T4;go_wp2_with fail;(with_reducible refine(H5.out _ S4.out.rd).mono ?_);rintro e w5 ⟨rfl,hc,hr⟩;have T5:=zz (S4.out.call hb hc hr);clear hc hr S4 H5;have hv:w5.cell? ⟨vb,4,none⟩=some ↑zj.a:=by rw[T5.out.v.cell];rfl
    have hf:=T5.out.v.fz;have S5:Hid (TSt w b vb (w5.setCell ⟨vb,4,none⟩ ↑S) R5 #[↑K,↑T,↑N,↑M,↑S,.slice none 0 0]):=zz (by simpa using T5.out.store hb 4 ↑S);clear T5;go_wp2_with fail;(with_reducible refine(H6.out _ S5.out.rd).mono ?_);rintro e w6 ⟨rfl,hc,hr⟩;have T6:=zz (S5.out.call hb hc hr);clear hc hr S5 H6;go_wp2_with fail
    go_loopw [1,8] (λs1 s8 wr=>∃(i:Nat) (acc:List V) (ri:RS) (li:Nat) (vq:Value),i<=C/\s8=↑i/\s1=↑li/\Hid (acc.length=i)/\i+li<=l1/\ri.s.size<=4294967296/\Hid (TSt w b vb wr ri #[↑K,↑T,↑N,↑M,↑S,vq])/\Hid (zaz (vb+1) 24 6 acc.length (zgZ acc) wr vq)/\Hid (zei (tkS F) C R6 l1 i acc ri li)) (λ_ s8 _=>C-(intOf s8).toNat)
    case atStart=>exact⟨0,[],R6,l1,.slice none 0 0,zo,rfl,by first|rfl|(refine congrArg _ ?_;omega),zz rfl,zo,hs6,T6,zz (zaz.nil _ _ _ _ _),zz (zei.start _ _ _ _)⟩
    case round=>
     obtain⟨i,acc,ri,li,vq,hi,rfl,rfl,HAL,hli,hri,HS,HW,HL⟩:=hrel;obtain⟨A9,c9,rfl,_⟩:=HW.out.rd.sl_inv
     by_cases hlt:i<C
     ·have HC:=zz (IH.out b ri li wr zo zo hri HS.out.rd);obtain⟨o,ho⟩:=zn (tkS F ri li);rw[ho] at HC;have HOO:=zz ho;clear ho;go_wp2_with fail;refine zi HC ?_;rintro e w8 ⟨hc8,hp8⟩;clear HC;cases o with
      |none=>
       obtain⟨rfl,r8,hr8,hrs8⟩:=hp8;have S8:=zz (HS.out.call hb hc8 hr8);have HN:Hid (O=none):=zz (by rw[HO.out,HL.out.stop hlt HOO.out];rfl);clear hc8 hr8;have z0:w8.cell? ⟨w.heap.size,0,none⟩=some ↑():=by rw[S8.out.res.cell];rfl
       have z1:w8.cell? ⟨w.heap.size,1,none⟩=some ↑zj.a:=by rw[S8.out.res.cell];rfl
       have z2:w8.cell? ⟨w.heap.size,2,none⟩=some ↑():=by rw[S8.out.res.cell];rfl
       have z3:w8.cell? ⟨w.heap.size,3,none⟩=some ↑():=by rw[S8.out.res.cell];rfl
       have z4:w8.cell? ⟨w.heap.size,4,none⟩=some ↑zj.a:=by rw[S8.out.res.cell];rfl
       have z5:w8.cell? ⟨w.heap.size,5,none⟩=some (.slice none 0 0):=by rw[S8.out.res.cell];rfl
       have zf:=S8.out.res.fz;have h8:w.heap.size<w8.heap.size:=S8.out.res.lt;go_wp2_with fail;rw[HN.out];exact zDO S8.out hb hrs8 rfl rfl rfl
      |some p=>
       obtain⟨x,r8,l8⟩:=p;obtain⟨A8,c8,rfl,hx8,hr8⟩:=hp8;have hle:=zCh _ _ _ _ _ _ HOO.out;have hlt8:=zDT HOO.out;have S8:=zz (HS.out.call hb hc8 hr8);have hvb:=HS.out.vb;have hvl:=HS.out.v.lt;have W8:=zz (HW.out.chg hc8 (λj hj=>by omega));have hsz:=hc8.size;have HOB:=zz HW.out.below_own;have hB:Below w8.heap.size w8 ((w8.alloc (.cells #[↑x.kind,↑x.t,↑x.n,↑x.m,↑x.s,.slice A8 x.l.length c8] 24)).alloc (.cells #[↑x.kind,↑x.t,↑x.n,↑x.m,↑x.s,.slice A8 x.l.length c8] 24)):=((Below.refl _ _).alloc (Nat.le_refl _) _).alloc zs _;have HB:=zz hB;have HXO:=zz (W8.out.below hB);have HX8:=zz (hx8.below hB (λb hb=>hb.2));have v5:w8.cell? ⟨vb,5,none⟩=some (.slice A9 acc.length c9):=by rw[S8.out.v.cell];rfl
       have h8:vb<w8.heap.size:=S8.out.v.lt;have HL2:=zz (HL.out.step hlt HOO.out);have hl80:¬(l8:Int)<0:=zo
       clear hx8 hr8 hc8 hB;go_wp2_with (at_builtin;refine zjM rfl _ _ rfl (vb+1) ?cx1 (.slice A9 acc.length c9) acc rfl HXO.out ⟨w8.heap.size+1,0,none⟩ 1 x A8 c8 rfl ?cx2 ?cx3 ?cx4 ?_)
       case cx1=>simp;omega
       case cx2=>
        intro j u hj;rw[Addr.add_lit,Nat.zero_add,show w8.heap.size+1=(w8.alloc (.cells #[↑x.kind,↑x.t,↑x.n,↑x.m,↑x.s,.slice A8 x.l.length c8] 24)).heap.size by simp,zbG];exact List.getElem?_toArray.trans hj
       case cx3=>
        refine HX8.out.weaken (λq hq=>⟨⟨by have:=hq.1;omega,by have:=hq.2;simp;omega⟩,λh=>?_⟩);have:=(HOB.out q h.symm).2;have:=hq.1;omega
       case cx4=>rw[HAL.out];omega
       intro v' w10 hO10 hg10;obtain⟨A10,c10,rfl,_⟩:=hO10.rd.sl_inv;have hch:Chg (λk=>vb<k) w8 w10:=(Chg.of_below HB.out).next (Chg.of_grown hg10 (λk hk=>by have:=(HOB.out k hk).1;omega));have S10:=zz (S8.out.later hb hch);have y5:w10.cell? ⟨vb,5,none⟩=some (.slice A9 acc.length c9):=by rw[S10.out.v.cell];rfl
       have yf:=S10.out.v.fz;have hal2:(acc++[x]).length=acc.length+1:=by simp
       have S11:Hid (TSt w b vb (w10.setCell ⟨vb,5,none⟩ (.slice A10 (acc.length+1) c10)) r8 #[↑K,↑T,↑N,↑M,↑S,.slice A10 (acc.length+1) c10]):=zz (by simpa using S10.out.store hb 5 (.slice A10 (acc.length+1) c10));have W11:Hid (zaz (vb+1) 24 6 (acc++[x]).length (zgZ (acc++[x])) (w10.setCell ⟨vb,5,none⟩ (.slice A10 (acc.length+1) c10)) (.slice A10 (acc.length+1) c10)):=zz (by rw[hal2];exact hO10.chg ((Chg.refl (λk=>k=vb) w10).setCell (p:=⟨vb,5,none⟩) (.inl rfl) (.slice A10 (acc.length+1) c10)) (λj hj=>by omega));have HAL2:Hid ((acc++[x]).length=i+1):=zz (by simp[HAL.out]);clear hO10 hg10 hch hal2;go_wp2_with fail;exact⟨⟨i+1,acc++[x],r8,l8,_,zo,by go_num,rfl,HAL2,zo,zo,S11,W11,HL2⟩,by simp[intOf];omega⟩
     ·obtain rfl:i=C:=zo
      have HN:Hid (O=some (.mk K T N M S acc,ri,li)):=zz (by rw[HO.out,HL.out.done];rfl);have z0:wr.cell? ⟨w.heap.size,0,none⟩=some ↑():=by rw[HS.out.res.cell];rfl
      have z1:wr.cell? ⟨w.heap.size,1,none⟩=some ↑zj.a:=by rw[HS.out.res.cell];rfl
      have z2:wr.cell? ⟨w.heap.size,2,none⟩=some ↑():=by rw[HS.out.res.cell];rfl
      have z3:wr.cell? ⟨w.heap.size,3,none⟩=some ↑():=by rw[HS.out.res.cell];rfl
      have z4:wr.cell? ⟨w.heap.size,4,none⟩=some ↑zj.a:=by rw[HS.out.res.cell];rfl
      have z5:wr.cell? ⟨w.heap.size,5,none⟩=some (.slice none 0 0):=by rw[HS.out.res.cell];rfl
      have zf:=HS.out.res.fz;have v0:wr.cell? ⟨vb,0,none⟩=some ↑K:=by rw[HS.out.v.cell];rfl
      have v1:wr.cell? ⟨vb,1,none⟩=some ↑T:=by rw[HS.out.v.cell];rfl
      have v2:wr.cell? ⟨vb,2,none⟩=some ↑N:=by rw[HS.out.v.cell];rfl
      have v3:wr.cell? ⟨vb,3,none⟩=some ↑M:=by rw[HS.out.v.cell];rfl
      have v4:wr.cell? ⟨vb,4,none⟩=some ↑S:=by rw[HS.out.v.cell];rfl
      have v5:wr.cell? ⟨vb,5,none⟩=some (.slice A9 acc.length c9):=by rw[HS.out.v.cell];rfl
      go_wp2_with fail;rw[HN.out];exact zEi HS.out hb HW.out rfl rfl rfl
end Go.Proofs.YtcebmphappfjjaaGreatDoor
