/- Conditions: those in each statement. -/
import Derived.Test.YtcebmphappfjjaaGreatDoorV31
set_option maxHeartbeats 32000000
set_option maxRecDepth 100000
namespace Go.Proofs.YtcebmphappfjjaaGreatDoor
open Go.RowKit
structure DSt (w0:World) (b lb vb:Nat) (W:World) (r:RS) (left:Int) (cs:Array Value):Prop where
 chg:Chg (λk=>k=b\/k=lb) w0 W
 rd:zdd W b r
 cl:zab W lb #[.int .i64 left] 3
 res:zab W w0.heap.size #[.int .i64 0,.string ⟨#[]⟩,.int .i64 0,.int .i64 0,.string ⟨#[]⟩,.slice none 0 0] 24
 v:zab W vb cs 24
 vb:w0.heap.size<vb
section
variable {w0:World} {b lb vb:Nat} {W w1:World} {r r':RS} {left:Int} {cs:Array Value}
theorem DSt.call (h:DSt w0 b lb vb W r left cs) (hb:b<w0.heap.size) (hne:b≠lb) (hc:Chg (λk=>k=b) W w1) (hr:zdd w1 b r'):DSt w0 b lb vb w1 r' left cs:=
 ⟨h.chg.next (hc.mono λ_ h=>.inl h),hr,h.cl.keep hc (λe=>hne e.symm),h.res.keep hc zo,h.v.keep hc (by have:=h.vb;omega),h.vb⟩
theorem DSt.store (h:DSt w0 b lb vb W r left cs) (hb:b<w0.heap.size) (hlb:lb<w0.heap.size) (j:Nat) (u:Value):DSt w0 b lb vb (W.setCell ⟨vb,j,none⟩ u) r left (cs.setIfInBounds j u):=by
 have hc:Chg (λk=>k=vb) W (W.setCell ⟨vb,j,none⟩ u):=(Chg.refl (λk=>k=vb) W).setCell (p:=⟨vb,j,none⟩) (.inl rfl) u;have:=h.vb;exact⟨h.chg.trans hc (λk hk=>.inr zo),h.rd.keep hc zo,h.cl.keep hc zo,h.res.keep hc zo,h.v.set j u,h.vb⟩
theorem DSt.later (h:DSt w0 b lb vb W r left cs) (hb:b<w0.heap.size) (hlb:lb<w0.heap.size) (hc:Chg (λk=>vb<k) W w1):DSt w0 b lb vb w1 r left cs:=by
 have:=h.vb;exact⟨h.chg.trans hc (λk hk=>.inr zo),h.rd.keep hc zo,h.cl.keep hc zo,h.res.keep hc zo,h.v.keep hc zo,h.vb⟩
theorem DSt.deep (h:DSt w0 b lb vb W r left cs) (hb:b<w0.heap.size) (hlb:lb<w0.heap.size) {left':Int} (hc:Chg (λk=>k=b\/k=lb) W w1) (hr:zdd w1 b r') (hl:zab w1 lb #[↑left'] 3):DSt w0 b lb vb w1 r' left' cs:=by
 have:=h.vb;exact⟨h.chg.next hc,hr,hl,h.res.keep hc zo,h.v.keep hc zo,h.vb⟩
end
def ZT:Value:=.tuple #[.agg #[.int .i64 0,.string ⟨#[]⟩,.int .i64 0,.int .i64 0,.string ⟨#[]⟩,.slice none 0 0],.bool false]
theorem zvY {w0:World} {b lb vb:Nat} {W:World} {r:RS} {left:Int} {cs:Array Value} (h:DSt w0 b lb vb W r left cs) (hb:b<w0.heap.size) (hlb:lb<w0.heap.size) (hs:r.s.size<=4294967296) {a:Act}
 (h4:a.tmps.getD 4 undef=.pointer (some ⟨w0.heap.size,0,none⟩)) (h5:a.tmps.getD 5 undef=.bool false) (hd:a.defers=[]) :
 bodyPost Tryz.prog Tryz.f50 (zvQ b lb none w0) Exit.ret a ((((((W.setCell ⟨w0.heap.size,0,none⟩ ↑()).setCell ⟨w0.heap.size,1,none⟩ ↑zj.a).setCell ⟨w0.heap.size,2,none⟩ ↑()).setCell ⟨w0.heap.size,3,none⟩ ↑()).setCell ⟨w0.heap.size,4,none⟩ ↑zj.a).setCell ⟨w0.heap.size,5,none⟩ (.slice none 0 0)):=by
 refine bodyPost_ret (v:=ZT) ?_ hd ⟨zlG h.chg (.inr (Nat.le_refl _)) _ _ _ _ _ _,rfl,⟨r,h.rd.keep (zlJ _ _ _ _ _ _) zo,hs⟩,_,h.cl.keep (zlJ _ _ _ _ _ _) zo⟩;have:=zah Tryz.results50 a.tmps _ w0.heap.size _ _ (0,0) _ h4 (zhz ↑() ↑zj.a ↑() ↑() ↑zj.a (.slice none 0 0) h.res) Tryz.underlying24 rfl zkU;rw[h5] at this;exact this
theorem zwg {w0:World} {b lb vb:Nat} {W:World} {r:RS} {left:Int} {cs:Array Value} (h:DSt w0 b lb vb W r left cs) (hb:b<w0.heap.size) (hlb:lb<w0.heap.size) (hs:r.s.size<=4294967296) {a:Act} {o:Obj}
 (h4:a.tmps.getD 4 undef=.pointer (some ⟨w0.heap.size,0,none⟩)) (h5:a.tmps.getD 5 undef=.bool false) (hd:a.defers=[]) :
 bodyPost Tryz.prog Tryz.f50 (zvQ b lb none w0) Exit.ret a (((((((W.setCell ⟨w0.heap.size,0,none⟩ ↑()).setCell ⟨w0.heap.size,1,none⟩ ↑zj.a).setCell ⟨w0.heap.size,2,none⟩ ↑()).setCell ⟨w0.heap.size,3,none⟩ ↑()).setCell ⟨w0.heap.size,4,none⟩ ↑zj.a).setCell ⟨w0.heap.size,5,none⟩ (.slice none 0 0)).alloc o):=by
 have hal:∀X:World,Chg (λ_=>False) X (X.alloc o):=λX=>(Chg.refl _ X).alloc o;refine bodyPost_ret (v:=ZT) ?_ hd ⟨(zlG h.chg (.inr (Nat.le_refl _)) _ _ _ _ _ _).alloc _,rfl,⟨r,(h.rd.keep (zlJ _ _ _ _ _ _) zo).keep (hal _) (λh=>h),hs⟩,_,(h.cl.keep (zlJ _ _ _ _ _ _) zo).keep (hal _) (λh=>h)⟩;have:=zah Tryz.results50 a.tmps _ w0.heap.size _ _ (0,0) _ h4 ((zhz ↑() ↑zj.a ↑() ↑() ↑zj.a (.slice none 0 0) h.res).keep (hal _) (λh=>h)) Tryz.underlying24 rfl zkU;rw[h5] at this;exact this
theorem zwG {w0:World} {b lb vb:Nat} {W:World} {r:RS} {left:Nat} {K N M:Int} {T S:ByteArray} {acc:List V} {vq:Value} (h:DSt w0 b lb vb W r (left:Int) #[↑K,↑T,↑N,↑M,↑S,vq]) (hb:b<w0.heap.size) (hlb:lb<w0.heap.size) (hO:zaz (vb+1) 24 6 acc.length (zgZ acc) W vq) {a:Act}
 (h4:a.tmps.getD 4 undef=.pointer (some ⟨w0.heap.size,0,none⟩)) (h5:a.tmps.getD 5 undef=.bool true) (hd:a.defers=[]) :
 bodyPost Tryz.prog Tryz.f50 (zvQ b lb (some (.mk K T N M S acc,r,left)) w0) Exit.ret a ((((((W.setCell ⟨w0.heap.size,0,none⟩ ↑K).setCell ⟨w0.heap.size,1,none⟩ ↑T).setCell ⟨w0.heap.size,2,none⟩ ↑N).setCell ⟨w0.heap.size,3,none⟩ ↑M).setCell ⟨w0.heap.size,4,none⟩ ↑S).setCell ⟨w0.heap.size,5,none⟩ vq):=by
 have hrd:=hO.rd;obtain⟨A,c,rfl,_⟩:=hrd.sl_inv;have hvb:=h.vb;have:=zah Tryz.results50 a.tmps _ w0.heap.size _ _ (0,0) _ h4 (zhz ↑K ↑T ↑N ↑M ↑S (.slice A acc.length c) h.res) Tryz.underlying24 rfl zkU;rw[h5] at this;refine bodyPost_ret this hd ⟨zlG h.chg (.inr (Nat.le_refl _)) _ _ _ _ _ _,A,c,rfl,?_,h.rd.keep (zlJ _ _ _ _ _ _) zo,h.cl.keep (zlJ _ _ _ _ _ _) zo⟩;have hc:=zlJ (w:=W) (g:=w0.heap.size) ↑K ↑T ↑N ↑M ↑S (.slice A acc.length c);have h1:=hc.rd (ok:=Bt (vb+1) W.heap.size) (λb hb=>⟨hb.2,by have:=hb.1;omega⟩) hrd;exact h1.weaken (λb hb=>⟨by have:=hb.1;omega,Nat.lt_of_lt_of_le hb.2 hc.size⟩)
theorem zvH:∀(F:Nat) (b lb:Nat) (r:RS) (left:Nat) (w:World),left<F->left<=16384->b≠lb->r.s.size<=4294967296->zdd w b r->zab w lb #[↑left] 3->
 Calls Tryz.prog 50 #[.pointer (some ⟨b,0,none⟩),.pointer (some ⟨lb,0,none⟩)] w (zvQ b lb (decS F r left) w)
 |0,_,_,_,_,_,h,_,_,_,_,_=>absurd h zo
 |F+1,b,lb,r,left,w,hF,hleft,hne,hs,hr,hl=>by
  have IH:=zz (zvH F);have hb:=hr.lt;have hlb:=hl.lt;obtain⟨W,hW⟩:∃W,w.alloc (.cells #[↑(),↑zj.a,↑(),↑(),↑zj.a,.slice none 0 0] 24)=W:=⟨_,rfl⟩;have hA:Below w.heap.size w W:=by rw[<-hW];exact(Below.refl _ _).alloc (Nat.le_refl _) _
  have HSZ:Hid (W.heap.size=w.heap.size+1):=zz (by rw[<-hW];simp);have SS:Hid (DSt w b lb W.heap.size (W.alloc (.cells #[] 3)) r (left:Int) #[]->True):=zz (λ_=>trivial);clear SS;have HRW:=zz (hr.below hA);have HLW:Hid (zab W lb #[↑left] 3):=zz ((hA.block lb hlb).trans hl);have HZW:Hid (zab W w.heap.size #[↑(),↑zj.a,↑(),↑(),↑zj.a,.slice none 0 0] 24):=zz (by rw[<-hW];exact zab.new w _ _);have HA:=zz hA;have l0:W.cell? ⟨lb,0,none⟩=some ↑left:=by rw[HLW.out.cell];rfl
  have lf:=HLW.out.fz;have z0:W.cell? ⟨w.heap.size,0,none⟩=some ↑():=by rw[HZW.out.cell];rfl
  have z1:W.cell? ⟨w.heap.size,1,none⟩=some ↑zj.a:=by rw[HZW.out.cell];rfl
  have z2:W.cell? ⟨w.heap.size,2,none⟩=some ↑():=by rw[HZW.out.cell];rfl
  have z3:W.cell? ⟨w.heap.size,3,none⟩=some ↑():=by rw[HZW.out.cell];rfl
  have z4:W.cell? ⟨w.heap.size,4,none⟩=some ↑zj.a:=by rw[HZW.out.cell];rfl
  have z5:W.cell? ⟨w.heap.size,5,none⟩=some (.slice none 0 0):=by rw[HZW.out.cell];rfl
  have zf:=HZW.out.fz;clear hA hr hl;obtain⟨O,hO⟩:=zn (decS (F+1) r left);rw[hO]
  by_cases hl0:left=0
  ·subst hl0;have HN:Hid (O=none):=zz (by rw[<-hO,decS,if_pos (.inl rfl)]);clear hO;go_in;go_wp2_with fail;rw[HN.out]
   exact bodyPost_ret (v:=ZT) (zah Tryz.results50 _ _ w.heap.size _ _ (0,0) _ rfl (zhz _ _ _ _ _ _ HZW.out) Tryz.underlying24 rfl zkU) rfl
    ⟨zlG (Chg.of_below HA.out) (.inr (Nat.le_refl _)) _ _ _ _ _ _,rfl,⟨r,HRW.out.keep (zlJ _ _ _ _ _ _) zo,hs⟩,_,HLW.out.keep (zlJ _ _ _ _ _ _) zo⟩
  ·by_cases hs0:r.s.size=0
   ·have HN:Hid (O=none):=zz (by rw[<-hO,decS,if_pos (.inr hs0)]);have hlb0:((left:Int) == 0)=false:=by simp;omega
    have hsb:((r.s.size:Int) == 0)=true:=by simp[hs0]
    clear hl0 hs0 hO;go_in;go_wp2_with fail;(with_reducible refine(zva b r W HRW.out).mono ?_);rintro e w1 ⟨rfl,rfl⟩;go_wp2_with fail;rw[HN.out]
    exact bodyPost_ret (v:=ZT) (zah Tryz.results50 _ _ w.heap.size _ _ (0,0) _ rfl (zhz _ _ _ _ _ _ HZW.out) Tryz.underlying24 rfl zkU) rfl
     ⟨zlG (Chg.of_below HA.out) (.inr (Nat.le_refl _)) _ _ _ _ _ _,rfl,⟨r,HRW.out.keep (zlJ _ _ _ _ _ _) zo,hs⟩,_,HLW.out.keep (zlJ _ _ _ _ _ _) zo⟩
   ·obtain⟨l1,rfl⟩:∃l1,left=l1+1:=⟨left-1,zo⟩;have hlb0:(((l1:Int)+1) == 0)=false:=by rw[beq_eq_false_iff_ne];omega
    have hsb:((r.s.size:Int) == 0)=false:=by rw[beq_eq_false_iff_ne];omega
    rw[show (((l1+1:Nat):Int))=(l1:Int)+1 by omega] at l0;rw[decS,if_neg zo,Nat.add_sub_cancel] at hO;have hs1:(hd1 r).s.size<=4294967296:=Nat.le_trans (zuO r) hs;have hs2:(hd2 r).s.size<=4294967296:=Nat.le_trans (zuV (hd1 r)) hs1;have hs3:(hd3 r).s.size<=4294967296:=Nat.le_trans (zve (hd2 r)) hs2;have hs4:(hd4 r).s.size<=4294967296:=Nat.le_trans (zve (hd3 r)) hs3;have hs5:(hd5 r).s.size<=4294967296:=Nat.le_trans (zuV (hd4 r)) hs4;have hs6:(hd6 r).s.size<=4294967296:=Nat.le_trans (zuO (hd5 r)) hs5;have H1:Hid (∀W,zdd W b r->Calls Tryz.prog 92 #[.pointer (some ⟨b,0,none⟩)] W (zvr b (hd1 r) (.int .i64 (numV r)) W)):=zz (λW h=>zvp b r W h hs);have H2:Hid (∀W,zdd W b (hd1 r)->Calls Tryz.prog 93 #[.pointer (some ⟨b,0,none⟩)] W (zvr b (hd2 r) (.string (zoJ (hd1 r))) W)):=zz (λW h=>zwj b (hd1 r) W h hs1);have H3:Hid (∀W,zdd W b (hd2 r)->Calls Tryz.prog 94 #[.pointer (some ⟨b,0,none⟩)] W (zvr b (hd3 r) (.int .i64 (intV (hd2 r))) W)):=zz (λW h=>zwI b (hd2 r) W h hs2);have H4:Hid (∀W,zdd W b (hd3 r)->Calls Tryz.prog 94 #[.pointer (some ⟨b,0,none⟩)] W (zvr b (hd4 r) (.int .i64 (intV (hd3 r))) W)):=zz (λW h=>zwI b (hd3 r) W h hs3);have H5:Hid (∀W,zdd W b (hd4 r)->Calls Tryz.prog 93 #[.pointer (some ⟨b,0,none⟩)] W (zvr b (hd5 r) (.string (zoJ (hd4 r))) W)):=zz (λW h=>zwj b (hd4 r) W h hs4);have H6:Hid (∀W,zdd W b (hd5 r)->Calls Tryz.prog 92 #[.pointer (some ⟨b,0,none⟩)] W (zvr b (hd6 r) (.int .i64 (numV (hd5 r))) W)):=zz (λW h=>zvp b (hd5 r) W h hs5);have HO:Hid (O=if ((hd6 r).s.size == 0&&!zti (hd6 r)) || decide (l1<numV (hd5 r)) then none else (zcn (decS F) (numV (hd5 r)) (hd6 r) l1).map λp=>(.mk (numV r) (zoJ (hd1 r)) (intV (hd2 r)) (intV (hd3 r)) (zoJ (hd4 r)) p.1,p.2.1,p.2.2)):=zz (by rw[<-hO];rfl);have hv5:=zwz (hd5 r);clear hs1 hs2 hs3 hs4 hs5 hO hl0 hs0;generalize hd6 r=R6 at *
    generalize numV (hd5 r)=C at *
    generalize zoJ (hd4 r)=S at *
    generalize hd5 r=R5 at *
    generalize intV (hd3 r)=M at *
    generalize hd4 r=R4 at *
    generalize intV (hd2 r)=N at *
    generalize hd3 r=R3 at *
    generalize zoJ (hd1 r)=T at *
    generalize hd2 r=R2 at *
    generalize hK:numV r=K at *
    generalize hd1 r=R1 at *
    clear hK;go_in;go_wp2_with fail;(with_reducible refine(zva b r W HRW.out).mono ?_);rintro e w1 ⟨rfl,rfl⟩;go_wp2_with fail
    have S0:Hid (DSt w b lb W.heap.size ((W.setCell ⟨lb,0,none⟩ (.int .i64 (l1:Int))).alloc (.cells #[↑(),↑zj.a,↑(),↑(),↑zj.a,.slice none 0 0] 24)) r (l1:Int) #[↑(),↑zj.a,↑(),↑(),↑zj.a,.slice none 0 0]):=zz (by
     have hc:Chg (λk=>k=lb) W (W.setCell ⟨lb,0,none⟩ (.int .i64 (l1:Int))):=(Chg.refl (λk=>k=lb) W).setCell (p:=⟨lb,0,none⟩) (.inl rfl) _;have hc2:=hc.alloc (.cells #[↑(),↑zj.a,↑(),↑(),↑zj.a,.slice none 0 0] 24);have hz:=HSZ.out;refine⟨((Chg.of_below HA.out).trans hc (λk hk=>.inl (.inr hk))).alloc _,HRW.out.keep hc2 (λe=>hne e),?_,HZW.out.keep hc2 zo,?_,zo⟩
     ·have h1:zab (W.setCell ⟨lb,0,none⟩ (.int .i64 (l1:Int))) lb #[.int .i64 (l1:Int)] 3:=by simpa using HLW.out.set 0 (.int .i64 (l1:Int))
      exact h1.keep ((Chg.refl (λ_=>False) _).alloc _) (λh=>h)
     ·have:=zab.new (W.setCell ⟨lb,0,none⟩ (.int .i64 (l1:Int))) #[↑(),↑zj.a,↑(),↑(),↑zj.a,.slice none 0 0] 24
      rwa [zbs] at this)
    generalize hV:W.heap.size=vb at S0 ⊢;obtain⟨X0,hX0⟩:∃X,((W.setCell ⟨lb,0,none⟩ (.int .i64 (l1:Int))).alloc (.cells #[↑(),↑zj.a,↑(),↑(),↑zj.a,.slice none 0 0] 24))=X:=⟨_,rfl⟩;rw[hX0] at S0 ⊢;clear hX0 hV l0 lf z0 z1 z2 z3 z4 z5 zf HZW HLW HRW HA HSZ hW;clear W;(with_reducible refine(H1.out _ S0.out.rd).mono ?_);rintro e w1 ⟨rfl,hc,hr⟩;have T1:=zz (S0.out.call hb hne hc hr);clear hc hr S0 H1;have hv:w1.cell? ⟨vb,0,none⟩=some ↑():=by rw[T1.out.v.cell];rfl
    have hf:=T1.out.v.fz;have S1:Hid (DSt w b lb vb (w1.setCell ⟨vb,0,none⟩ ↑K) R1 (l1:Int) #[↑K,↑zj.a,↑(),↑(),↑zj.a,.slice none 0 0]):=zz (by simpa using T1.out.store hb hlb 0 ↑K);clear T1;go_wp2_with fail;(with_reducible refine(H2.out _ S1.out.rd).mono ?_);rintro e w2 ⟨rfl,hc,hr⟩;have T2:=zz (S1.out.call hb hne hc hr);clear hc hr S1 H2;have hv:w2.cell? ⟨vb,1,none⟩=some ↑zj.a:=by rw[T2.out.v.cell];rfl
    have hf:=T2.out.v.fz;have S2:Hid (DSt w b lb vb (w2.setCell ⟨vb,1,none⟩ ↑T) R2 (l1:Int) #[↑K,↑T,↑(),↑(),↑zj.a,.slice none 0 0]):=zz (by simpa using T2.out.store hb hlb 1 ↑T);clear T2;go_wp2_with fail;(with_reducible refine(H3.out _ S2.out.rd).mono ?_);rintro e w3 ⟨rfl,hc,hr⟩;have T3:=zz (S2.out.call hb hne hc hr);clear hc hr S2 H3;have hv:w3.cell? ⟨vb,2,none⟩=some ↑():=by rw[T3.out.v.cell];rfl
    have hf:=T3.out.v.fz;have S3:Hid (DSt w b lb vb (w3.setCell ⟨vb,2,none⟩ ↑N) R3 (l1:Int) #[↑K,↑T,↑N,↑(),↑zj.a,.slice none 0 0]):=zz (by simpa using T3.out.store hb hlb 2 ↑N);clear T3;go_wp2_with fail;(with_reducible refine(H4.out _ S3.out.rd).mono ?_);rintro e w4 ⟨rfl,hc,hr⟩;have T4:=zz (S3.out.call hb hne hc hr);clear hc hr S3 H4;have hv:w4.cell? ⟨vb,3,none⟩=some ↑():=by rw[T4.out.v.cell];rfl
    have hf:=T4.out.v.fz;have S4:Hid (DSt w b lb vb (w4.setCell ⟨vb,3,none⟩ ↑M) R4 (l1:Int) #[↑K,↑T,↑N,↑M,↑zj.a,.slice none 0 0]):=zz (by simpa using T4.out.store hb hlb 3 ↑M);clear T4;go_wp2_with fail;(with_reducible refine(H5.out _ S4.out.rd).mono ?_);rintro e w5 ⟨rfl,hc,hr⟩;have T5:=zz (S4.out.call hb hne hc hr);clear hc hr S4 H5;have hv:w5.cell? ⟨vb,4,none⟩=some ↑zj.a:=by rw[T5.out.v.cell];rfl
    have hf:=T5.out.v.fz;have S5:Hid (DSt w b lb vb (w5.setCell ⟨vb,4,none⟩ ↑S) R5 (l1:Int) #[↑K,↑T,↑N,↑M,↑S,.slice none 0 0]):=zz (by simpa using T5.out.store hb hlb 4 ↑S);clear T5;go_wp2_with fail;(with_reducible refine(H6.out _ S5.out.rd).mono ?_);rintro e w6 ⟨rfl,hc,hr⟩;have T6:=zz (S5.out.call hb hne hc hr);clear hc hr S5 H6;have lc:w6.cell? ⟨lb,0,none⟩=some (.int .i64 (l1:Int)):=by rw[T6.out.cl.cell];rfl
    have z0:w6.cell? ⟨w.heap.size,0,none⟩=some ↑():=by rw[T6.out.res.cell];rfl
    have z1:w6.cell? ⟨w.heap.size,1,none⟩=some ↑zj.a:=by rw[T6.out.res.cell];rfl
    have z2:w6.cell? ⟨w.heap.size,2,none⟩=some ↑():=by rw[T6.out.res.cell];rfl
    have z3:w6.cell? ⟨w.heap.size,3,none⟩=some ↑():=by rw[T6.out.res.cell];rfl
    have z4:w6.cell? ⟨w.heap.size,4,none⟩=some ↑zj.a:=by rw[T6.out.res.cell];rfl
    have z5:w6.cell? ⟨w.heap.size,5,none⟩=some (.slice none 0 0):=by rw[T6.out.res.cell];rfl
    have zf:=T6.out.res.fz
    by_cases hz:R6.s.size=0
    ·have hzb:((R6.s.size:Int) == 0)=true:=by simp[hz]
     obtain⟨D,hD⟩:=zn (zti R6);go_wp2_with fail;(with_reducible refine(zva b R6 w6 T6.out.rd).mono ?_);rintro e w7 ⟨rfl,rfl⟩;go_wp2_with fail;(with_reducible refine(zxw b R6 w6 T6.out.rd).mono ?_);rintro e w7 ⟨rfl,rfl⟩;rw[hD];rw[hD] at HO;clear hD;cases D with
     |false=>
      have HN:Hid (O=none):=zz (by rw[HO.out,if_pos (by simp[hz])]);go_wp2_with fail;rw[HN.out];exact zvY T6.out hb hlb hs6 rfl rfl rfl
     |true=>
      by_cases hC:l1<C
      ·have HN:Hid (O=none):=zz (by rw[HO.out,if_pos (by simp[hC])]);have hCi:(l1:Int)<(C:Int):=zo
       clear HO;go_wp2_with fail;rw[HN.out];exact zvY T6.out hb hlb hs6 rfl rfl rfl
      ·have hCi:¬(l1:Int)<(C:Int):=zo
       have hCd:decide (l1<C)=false:=by simpa using hC
       have HO2:Hid (O=(zcn (decS F) C R6 l1).map λp=>(.mk K T N M S p.1,p.2.1,p.2.2)):=zz (by rw[HO.out,if_neg (by simp;omega)]);have hC2:C<=16384:=zo
       clear HO hC;go_wp2_with fail;clear lc z0 z1 z2 z3 z4 z5 zf
       go_loopw [59] (λs59 wr=>∃(i:Nat) (acc:List V) (ri:RS) (li:Nat) (vq:Value),i<=C/\s59=↑i/\Hid (acc.length=i)/\li<=l1/\ri.s.size<=4294967296/\Hid (DSt w b lb vb wr ri (li:Int) #[↑K,↑T,↑N,↑M,↑S,vq])/\Hid (zaz (vb+1) 24 6 acc.length (zgZ acc) wr vq)/\Hid (zei (decS F) C R6 l1 i acc ri li)) (λs59 _=>C-(intOf s59).toNat)
       case atStart=>exact⟨0,[],R6,l1,.slice none 0 0,zo,rfl,zz rfl,zo,hs6,T6,zz (zaz.nil _ _ _ _ _),zz (zei.start _ _ _ _)⟩
       case round=>
        obtain⟨i,acc,ri,li,vq,hi,rfl,HAL,hli,hri,HS,HW,HL⟩:=hrel;obtain⟨A9,c9,rfl,_⟩:=HW.out.rd.sl_inv
        by_cases hlt:i<C
        ·have HC:=zz (IH.out b lb ri li wr zo zo hne hri HS.out.rd HS.out.cl);obtain⟨o,ho⟩:=zn (decS F ri li);rw[ho] at HC;have HOO:=zz ho;clear ho;go_wp2_with fail;refine zi HC ?_;rintro e w8 ⟨hc8,hp8⟩;clear HC;cases o with
         |none=>
          obtain⟨rfl,⟨r8,hr8,hrs8⟩,n8,hl8⟩:=hp8;have S8:=zz (HS.out.deep hb hlb hc8 hr8 hl8);have HN:Hid (O=none):=zz (by rw[HO2.out,HL.out.stop hlt HOO.out];rfl);clear hc8 hr8 hl8;have z0:w8.cell? ⟨w.heap.size,0,none⟩=some ↑():=by rw[S8.out.res.cell];rfl
          have z1:w8.cell? ⟨w.heap.size,1,none⟩=some ↑zj.a:=by rw[S8.out.res.cell];rfl
          have z2:w8.cell? ⟨w.heap.size,2,none⟩=some ↑():=by rw[S8.out.res.cell];rfl
          have z3:w8.cell? ⟨w.heap.size,3,none⟩=some ↑():=by rw[S8.out.res.cell];rfl
          have z4:w8.cell? ⟨w.heap.size,4,none⟩=some ↑zj.a:=by rw[S8.out.res.cell];rfl
          have z5:w8.cell? ⟨w.heap.size,5,none⟩=some (.slice none 0 0):=by rw[S8.out.res.cell];rfl
          have zf:=S8.out.res.fz;have h8:w.heap.size<w8.heap.size:=S8.out.res.lt;go_wp2_with fail;rw[HN.out];exact zwg S8.out hb hlb hrs8 rfl rfl rfl
         |some p=>
          obtain⟨x,r8,l8⟩:=p;obtain⟨A8,c8,rfl,hx8,hr8,hl8⟩:=hp8;have hle:=zwp _ _ _ _ _ _ HOO.out;have S8:=zz (HS.out.deep hb hlb hc8 hr8 hl8);have hvb:=HS.out.vb;have hvl:=HS.out.v.lt;have W8:=zz (HW.out.chg hc8 (λj hj=>by omega));have hsz:=hc8.size;have HOB:=zz HW.out.below_own;have hB:Below w8.heap.size w8 ((w8.alloc (.cells #[↑x.kind,↑x.t,↑x.n,↑x.m,↑x.s,.slice A8 x.l.length c8] 24)).alloc (.cells #[↑x.kind,↑x.t,↑x.n,↑x.m,↑x.s,.slice A8 x.l.length c8] 24)):=((Below.refl _ _).alloc (Nat.le_refl _) _).alloc zs _;have HB:=zz hB;have HXO:=zz (W8.out.below hB);have HX8:=zz (hx8.below hB (λb hb=>hb.2));have v5:w8.cell? ⟨vb,5,none⟩=some (.slice A9 acc.length c9):=by rw[S8.out.v.cell];rfl
          have h8:vb<w8.heap.size:=S8.out.v.lt;have HL2:=zz (HL.out.step hlt HOO.out);clear hx8 hr8 hl8 hc8 hB;go_wp2_with (at_builtin;refine zjM rfl _ _ rfl (vb+1) ?cx1 (.slice A9 acc.length c9) acc rfl HXO.out ⟨w8.heap.size+1,0,none⟩ 1 x A8 c8 rfl ?cx2 ?cx3 ?cx4 ?_)
          case cx1=>simp;omega
          case cx2=>
           intro j u hj;rw[Addr.add_lit,Nat.zero_add,show w8.heap.size+1=(w8.alloc (.cells #[↑x.kind,↑x.t,↑x.n,↑x.m,↑x.s,.slice A8 x.l.length c8] 24)).heap.size by simp,zbG];exact List.getElem?_toArray.trans hj
          case cx3=>
           refine HX8.out.weaken (λq hq=>⟨⟨by have:=hq.1;omega,by have:=hq.2;simp;omega⟩,λh=>?_⟩);have:=(HOB.out q h.symm).2;have:=hq.1;omega
          case cx4=>rw[HAL.out];omega
          intro v' w10 hO10 hg10;obtain⟨A10,c10,rfl,_⟩:=hO10.rd.sl_inv;have hch:Chg (λk=>vb<k) w8 w10:=(Chg.of_below HB.out).next (Chg.of_grown hg10 (λk hk=>by have:=(HOB.out k hk).1;omega));have S10:=zz (S8.out.later hb hlb hch);have y5:w10.cell? ⟨vb,5,none⟩=some (.slice A9 acc.length c9):=by rw[S10.out.v.cell];rfl
          have yf:=S10.out.v.fz;have hal2:(acc++[x]).length=acc.length+1:=by simp
          have S11:Hid (DSt w b lb vb (w10.setCell ⟨vb,5,none⟩ (.slice A10 (acc.length+1) c10)) r8 (l8:Int) #[↑K,↑T,↑N,↑M,↑S,.slice A10 (acc.length+1) c10]):=zz (by simpa using S10.out.store hb hlb 5 (.slice A10 (acc.length+1) c10));have W11:Hid (zaz (vb+1) 24 6 (acc++[x]).length (zgZ (acc++[x])) (w10.setCell ⟨vb,5,none⟩ (.slice A10 (acc.length+1) c10)) (.slice A10 (acc.length+1) c10)):=zz (by rw[hal2];exact hO10.chg ((Chg.refl (λk=>k=vb) w10).setCell (p:=⟨vb,5,none⟩) (.inl rfl) (.slice A10 (acc.length+1) c10)) (λj hj=>by omega));have HAL2:Hid ((acc++[x]).length=i+1):=zz (by simp[HAL.out]);clear hO10 hg10 hch hal2;go_wp2_with fail;exact⟨⟨i+1,acc++[x],r8,l8,_,zo,by go_num,HAL2,zo,zo,S11,W11,HL2⟩,by simp[intOf];omega⟩
        ·obtain rfl:i=C:=zo
         have HN:Hid (O=some (.mk K T N M S acc,ri,li)):=zz (by rw[HO2.out,HL.out.done];rfl);have z0:wr.cell? ⟨w.heap.size,0,none⟩=some ↑():=by rw[HS.out.res.cell];rfl
         have z1:wr.cell? ⟨w.heap.size,1,none⟩=some ↑zj.a:=by rw[HS.out.res.cell];rfl
         have z2:wr.cell? ⟨w.heap.size,2,none⟩=some ↑():=by rw[HS.out.res.cell];rfl
         have z3:wr.cell? ⟨w.heap.size,3,none⟩=some ↑():=by rw[HS.out.res.cell];rfl
         have z4:wr.cell? ⟨w.heap.size,4,none⟩=some ↑zj.a:=by rw[HS.out.res.cell];rfl
         have z5:wr.cell? ⟨w.heap.size,5,none⟩=some (.slice none 0 0):=by rw[HS.out.res.cell];rfl
         have zf:=HS.out.res.fz;have v0:wr.cell? ⟨vb,0,none⟩=some ↑K:=by rw[HS.out.v.cell];rfl
         have v1:wr.cell? ⟨vb,1,none⟩=some ↑T:=by rw[HS.out.v.cell];rfl
         have v2:wr.cell? ⟨vb,2,none⟩=some ↑N:=by rw[HS.out.v.cell];rfl
         have v3:wr.cell? ⟨vb,3,none⟩=some ↑M:=by rw[HS.out.v.cell];rfl
         have v4:wr.cell? ⟨vb,4,none⟩=some ↑S:=by rw[HS.out.v.cell];rfl
         have v5:wr.cell? ⟨vb,5,none⟩=some (.slice A9 acc.length c9):=by rw[HS.out.v.cell];rfl
         go_wp2_with fail;rw[HN.out];exact zwG HS.out hb hlb HW.out rfl rfl rfl
    ·have hzb:((R6.s.size:Int) == 0)=false:=by rw[beq_eq_false_iff_ne];omega
     go_wp2_with fail;(with_reducible refine(zva b R6 w6 T6.out.rd).mono ?_);rintro e w7 ⟨rfl,rfl⟩
     by_cases hC:l1<C
     ·have HN:Hid (O=none):=zz (by rw[HO.out,if_pos (by simp[hC])]);have hCi:(l1:Int)<(C:Int):=zo
      clear HO;go_wp2_with fail;rw[HN.out];exact zvY T6.out hb hlb hs6 rfl rfl rfl
     ·have hCi:¬(l1:Int)<(C:Int):=zo
      have hCd:decide (l1<C)=false:=by simpa using hC
      have HO2:Hid (O=(zcn (decS F) C R6 l1).map λp=>(.mk K T N M S p.1,p.2.1,p.2.2)):=zz (by rw[HO.out,if_neg (by rw[beq_eq_false_iff_ne.2 hz];simp;omega)]);have hC2:C<=16384:=zo
      clear HO hC;go_wp2_with fail;clear lc z0 z1 z2 z3 z4 z5 zf
      go_loopw [59] (λs59 wr=>∃(i:Nat) (acc:List V) (ri:RS) (li:Nat) (vq:Value),i<=C/\s59=↑i/\Hid (acc.length=i)/\li<=l1/\ri.s.size<=4294967296/\Hid (DSt w b lb vb wr ri (li:Int) #[↑K,↑T,↑N,↑M,↑S,vq])/\Hid (zaz (vb+1) 24 6 acc.length (zgZ acc) wr vq)/\Hid (zei (decS F) C R6 l1 i acc ri li)) (λs59 _=>C-(intOf s59).toNat)
      case atStart=>exact⟨0,[],R6,l1,.slice none 0 0,zo,rfl,zz rfl,zo,hs6,T6,zz (zaz.nil _ _ _ _ _),zz (zei.start _ _ _ _)⟩
      case round=>
       obtain⟨i,acc,ri,li,vq,hi,rfl,HAL,hli,hri,HS,HW,HL⟩:=hrel;obtain⟨A9,c9,rfl,_⟩:=HW.out.rd.sl_inv
       by_cases hlt:i<C
       ·have HC:=zz (IH.out b lb ri li wr zo zo hne hri HS.out.rd HS.out.cl);obtain⟨o,ho⟩:=zn (decS F ri li);rw[ho] at HC;have HOO:=zz ho;clear ho;go_wp2_with fail;refine zi HC ?_;rintro e w8 ⟨hc8,hp8⟩;clear HC;cases o with
        |none=>
         obtain⟨rfl,⟨r8,hr8,hrs8⟩,n8,hl8⟩:=hp8;have S8:=zz (HS.out.deep hb hlb hc8 hr8 hl8);have HN:Hid (O=none):=zz (by rw[HO2.out,HL.out.stop hlt HOO.out];rfl);clear hc8 hr8 hl8;have z0:w8.cell? ⟨w.heap.size,0,none⟩=some ↑():=by rw[S8.out.res.cell];rfl
         have z1:w8.cell? ⟨w.heap.size,1,none⟩=some ↑zj.a:=by rw[S8.out.res.cell];rfl
         have z2:w8.cell? ⟨w.heap.size,2,none⟩=some ↑():=by rw[S8.out.res.cell];rfl
         have z3:w8.cell? ⟨w.heap.size,3,none⟩=some ↑():=by rw[S8.out.res.cell];rfl
         have z4:w8.cell? ⟨w.heap.size,4,none⟩=some ↑zj.a:=by rw[S8.out.res.cell];rfl
         have z5:w8.cell? ⟨w.heap.size,5,none⟩=some (.slice none 0 0):=by rw[S8.out.res.cell];rfl
         have zf:=S8.out.res.fz;have h8:w.heap.size<w8.heap.size:=S8.out.res.lt;go_wp2_with fail;rw[HN.out];exact zwg S8.out hb hlb hrs8 rfl rfl rfl
        |some p=>
         obtain⟨x,r8,l8⟩:=p;obtain⟨A8,c8,rfl,hx8,hr8,hl8⟩:=hp8;have hle:=zwp _ _ _ _ _ _ HOO.out;have S8:=zz (HS.out.deep hb hlb hc8 hr8 hl8);have hvb:=HS.out.vb;have hvl:=HS.out.v.lt;have W8:=zz (HW.out.chg hc8 (λj hj=>by omega));have hsz:=hc8.size;have HOB:=zz HW.out.below_own;have hB:Below w8.heap.size w8 ((w8.alloc (.cells #[↑x.kind,↑x.t,↑x.n,↑x.m,↑x.s,.slice A8 x.l.length c8] 24)).alloc (.cells #[↑x.kind,↑x.t,↑x.n,↑x.m,↑x.s,.slice A8 x.l.length c8] 24)):=((Below.refl _ _).alloc (Nat.le_refl _) _).alloc zs _;have HB:=zz hB;have HXO:=zz (W8.out.below hB);have HX8:=zz (hx8.below hB (λb hb=>hb.2));have v5:w8.cell? ⟨vb,5,none⟩=some (.slice A9 acc.length c9):=by rw[S8.out.v.cell];rfl
         have h8:vb<w8.heap.size:=S8.out.v.lt;have HL2:=zz (HL.out.step hlt HOO.out);clear hx8 hr8 hl8 hc8 hB;go_wp2_with (at_builtin;refine zjM rfl _ _ rfl (vb+1) ?cy1 (.slice A9 acc.length c9) acc rfl HXO.out ⟨w8.heap.size+1,0,none⟩ 1 x A8 c8 rfl ?cy2 ?cy3 ?cy4 ?_)
         case cy1=>simp;omega
         case cy2=>
          intro j u hj;rw[Addr.add_lit,Nat.zero_add,show w8.heap.size+1=(w8.alloc (.cells #[↑x.kind,↑x.t,↑x.n,↑x.m,↑x.s,.slice A8 x.l.length c8] 24)).heap.size by simp,zbG];exact List.getElem?_toArray.trans hj
         case cy3=>
          refine HX8.out.weaken (λq hq=>⟨⟨by have:=hq.1;omega,by have:=hq.2;simp;omega⟩,λh=>?_⟩);have:=(HOB.out q h.symm).2;have:=hq.1;omega
         case cy4=>rw[HAL.out];omega
         intro v' w10 hO10 hg10;obtain⟨A10,c10,rfl,_⟩:=hO10.rd.sl_inv;have hch:Chg (λk=>vb<k) w8 w10:=(Chg.of_below HB.out).next (Chg.of_grown hg10 (λk hk=>by have:=(HOB.out k hk).1;omega));have S10:=zz (S8.out.later hb hlb hch);have y5:w10.cell? ⟨vb,5,none⟩=some (.slice A9 acc.length c9):=by rw[S10.out.v.cell];rfl
         have yf:=S10.out.v.fz;have hal2:(acc++[x]).length=acc.length+1:=by simp
         have S11:Hid (DSt w b lb vb (w10.setCell ⟨vb,5,none⟩ (.slice A10 (acc.length+1) c10)) r8 (l8:Int) #[↑K,↑T,↑N,↑M,↑S,.slice A10 (acc.length+1) c10]):=zz (by simpa using S10.out.store hb hlb 5 (.slice A10 (acc.length+1) c10));have W11:Hid (zaz (vb+1) 24 6 (acc++[x]).length (zgZ (acc++[x])) (w10.setCell ⟨vb,5,none⟩ (.slice A10 (acc.length+1) c10)) (.slice A10 (acc.length+1) c10)):=zz (by rw[hal2];exact hO10.chg ((Chg.refl (λk=>k=vb) w10).setCell (p:=⟨vb,5,none⟩) (.inl rfl) (.slice A10 (acc.length+1) c10)) (λj hj=>by omega));have HAL2:Hid ((acc++[x]).length=i+1):=zz (by simp[HAL.out]);clear hO10 hg10 hch hal2;go_wp2_with fail;exact⟨⟨i+1,acc++[x],r8,l8,_,zo,by go_num,HAL2,zo,zo,S11,W11,HL2⟩,by simp[intOf];omega⟩
       ·obtain rfl:i=C:=zo
        have HN:Hid (O=some (.mk K T N M S acc,ri,li)):=zz (by rw[HO2.out,HL.out.done];rfl);have z0:wr.cell? ⟨w.heap.size,0,none⟩=some ↑():=by rw[HS.out.res.cell];rfl
        have z1:wr.cell? ⟨w.heap.size,1,none⟩=some ↑zj.a:=by rw[HS.out.res.cell];rfl
        have z2:wr.cell? ⟨w.heap.size,2,none⟩=some ↑():=by rw[HS.out.res.cell];rfl
        have z3:wr.cell? ⟨w.heap.size,3,none⟩=some ↑():=by rw[HS.out.res.cell];rfl
        have z4:wr.cell? ⟨w.heap.size,4,none⟩=some ↑zj.a:=by rw[HS.out.res.cell];rfl
        have z5:wr.cell? ⟨w.heap.size,5,none⟩=some (.slice none 0 0):=by rw[HS.out.res.cell];rfl
        have zf:=HS.out.res.fz;have v0:wr.cell? ⟨vb,0,none⟩=some ↑K:=by rw[HS.out.v.cell];rfl
        have v1:wr.cell? ⟨vb,1,none⟩=some ↑T:=by rw[HS.out.v.cell];rfl
        have v2:wr.cell? ⟨vb,2,none⟩=some ↑N:=by rw[HS.out.v.cell];rfl
        have v3:wr.cell? ⟨vb,3,none⟩=some ↑M:=by rw[HS.out.v.cell];rfl
        have v4:wr.cell? ⟨vb,4,none⟩=some ↑S:=by rw[HS.out.v.cell];rfl
        have v5:wr.cell? ⟨vb,5,none⟩=some (.slice A9 acc.length c9):=by rw[HS.out.v.cell];rfl
        go_wp2_with fail;rw[HN.out];exact zwG HS.out hb hlb HW.out rfl rfl rfl
end Go.Proofs.YtcebmphappfjjaaGreatDoor
