/- Conditions: those in each statement. -/
import Derived.Test.YtcebmphappfjjaaGreatDoorV35
import Derived.Test.YtcebmphappfjjaaGreatDoorV31
set_option maxHeartbeats 32000000
set_option maxRecDepth 100000
namespace Go.Proofs.YtcebmphappfjjaaGreatDoor
open Go.RowKit
def VRes (b:Nat) (w:World) (o:Option (V × Nat × List UInt8)) (e:Ending) (w':World):Prop:=Chg (λj=>j=b) w w'/\
 match o with
 |some (v,q,r)=>Vp w' b r q/\∃A c,e=.returned (.tuple #[.agg #[.int .i64 v.kind,.string v.t,.int .i64 v.n,.int .i64 v.m,.string v.s,.slice A v.l.length c],.bool true])/\Rd (Bt w.heap.size w'.heap.size) w' (vs v.l) (.slice A v.l.length c)
 |none=>∃k t n m s A ln c,e=.returned (.tuple #[.agg #[.int .i64 k,.string t,.int .i64 n,.int .i64 m,.string s,.slice A ln c],.bool false])
def LRes (b:Nat) (w:World) (o:Option (List V × Nat × List UInt8)) (e:Ending) (w':World):Prop:=Chg (λj=>j=b) w w'/\
 match o with
 |some (l,q,r)=>Vp w' b r q/\∃A c,e=.returned (.tuple #[.slice A l.length c,.bool true])/\Rd (Bt w.heap.size w'.heap.size) w' (vs l) (.slice A l.length c)
 |none=>∃A ln c,e=.returned (.tuple #[.slice A ln c,.bool false])
theorem VpAt.set2 {S:ByteArray} {i q:Nat} {w:World} {b:Nat} (h:VpAt S i q w b) (j:Nat) (hj:j<=16384):VpAt S i j (w.setCell ⟨b,2,none⟩ (.int .i64 (j:Int))) b:=by
 obtain⟨h1,h2,h3,_⟩:=h;exact⟨by simpa using h1.set 2 (.int .i64 (j:Int)),h2,h3,hj⟩
theorem Vp.chg {w w':World} {b:Nat} {r:List UInt8} {q:Nat} (h:Vp w b r q) {M:Nat->Prop} (hc:Chg M w w') (hm:¬M b):Vp w' b r q:=by
 obtain⟨S,i,hr,h1,h2⟩:=h;exact⟨S,i,hr,h1.keep hc hm,h2⟩
theorem Vp.lt {w:World} {b:Nat} {r:List UInt8} {q:Nat} (h:Vp w b r q):b<w.heap.size:=by
 obtain⟨S,i,hr,h1,h2⟩:=h;exact h1.lt
structure PV (b:Nat) (w W:World):Prop where
 own:Chg (λj=>j=b) w W
 box:zab W w.heap.size #[.int .i64 0,.string ⟨#[]⟩,.int .i64 0,.int .i64 0,.string ⟨#[]⟩,.slice none 0 0] 24
 lt:b<w.heap.size
theorem PV.next {b:Nat} {w W W':World} (h:PV b w W) (hc:Chg (λj=>j=b) W W'):PV b w W':=⟨h.own.next hc,h.box.keep hc (by have:=h.lt;omega),h.lt⟩
theorem PV.new {b:Nat} {w:World} (h:b<w.heap.size):PV b w (w.alloc (.cells #[↑(),↑zj.a,↑(),↑(),↑zj.a,.slice none 0 0] 24)):=⟨(Chg.refl _ _).alloc _,zab.new _ _ _,h⟩
theorem PV.z {b:Nat} {w W:World} (h:PV b w W):W.cell? ⟨w.heap.size,0,none⟩=some ↑()/\W.cell? ⟨w.heap.size,1,none⟩=some ↑zj.a/\W.cell? ⟨w.heap.size,2,none⟩=some ↑()/\W.cell? ⟨w.heap.size,3,none⟩=some ↑()/\W.cell? ⟨w.heap.size,4,none⟩=some ↑zj.a/\W.cell? ⟨w.heap.size,5,none⟩=some (.slice none 0 0)/\∀j,W.frozen? ⟨w.heap.size,j,none⟩=false:=
 ⟨h.box.cell 0,h.box.cell 1,h.box.cell 2,h.box.cell 3,h.box.cell 4,h.box.cell 5,h.box.fz⟩
theorem zeF {fn:Func} (hfn:fn.results=#[.cell 2 24,.tmp 3]) {b:Nat} {w W:World} {v:V} {q:Nat} {r:List UInt8} {A:Option Addr} {c:Nat} (hP:PV b w W) (hp:Vp W b r q) (hrd:Rd (Bt (w.heap.size+1) W.heap.size) W (vs v.l) (.slice A v.l.length c)) {a:Act}
 (h4:a.tmps.getD 2 undef=.pointer (some ⟨w.heap.size,0,none⟩)) (h5:a.tmps.getD 3 undef=.bool true) (hd:a.defers=[]) :
 bodyPost Tryz.prog fn (VRes b w (some (v,q,r))) Exit.ret a ((((((W.setCell ⟨w.heap.size,0,none⟩ ↑v.kind).setCell ⟨w.heap.size,1,none⟩ ↑v.t).setCell ⟨w.heap.size,2,none⟩ ↑v.n).setCell ⟨w.heap.size,3,none⟩ ↑v.m).setCell ⟨w.heap.size,4,none⟩ ↑v.s).setCell ⟨w.heap.size,5,none⟩ (.slice A v.l.length c)):=by
 have:=zah hfn a.tmps _ w.heap.size _ _ (0,0) _ h4 (zhz ↑v.kind ↑v.t ↑v.n ↑v.m ↑v.s (.slice A v.l.length c) hP.box) Tryz.underlying24 rfl zkU;rw[h5] at this;have hc1:=zlJ (w:=W) (g:=w.heap.size) ↑v.kind ↑v.t ↑v.n ↑v.m ↑v.s (.slice A v.l.length c);have h1:=hc1.rd (ok:=Bt (w.heap.size+1) W.heap.size) (λb hb=>⟨hb.2,by have:=hb.1;omega⟩) hrd;have hb:=hP.lt;exact bodyPost_ret this hd ⟨zlG hP.own (.inr (Nat.le_refl _)) _ _ _ _ _ _,hp.chg hc1 zo,A,c,rfl,h1.weaken (λb hb=>⟨by have:=hb.1;omega,Nat.lt_of_lt_of_le hb.2 hc1.size⟩)⟩
theorem zeD {fn:Func} (hfn:fn.results=#[.cell 2 24,.tmp 3]) {b:Nat} {w W:World} {k n m:Int} {t s:ByteArray} {A:Option Addr} {ln c:Nat} (hP:PV b w W) {a:Act}
 (h4:a.tmps.getD 2 undef=.pointer (some ⟨w.heap.size,0,none⟩)) (h5:a.tmps.getD 3 undef=.bool false) (hd:a.defers=[]) :
 bodyPost Tryz.prog fn (VRes b w none) Exit.ret a ((((((W.setCell ⟨w.heap.size,0,none⟩ ↑k).setCell ⟨w.heap.size,1,none⟩ ↑t).setCell ⟨w.heap.size,2,none⟩ ↑n).setCell ⟨w.heap.size,3,none⟩ ↑m).setCell ⟨w.heap.size,4,none⟩ ↑s).setCell ⟨w.heap.size,5,none⟩ (.slice A ln c)):=by
 have:=zah hfn a.tmps _ w.heap.size _ _ (0,0) _ h4 (zhz ↑k ↑t ↑n ↑m ↑s (.slice A ln c) hP.box) Tryz.underlying24 rfl zkU;rw[h5] at this;exact bodyPost_ret this hd ⟨zlG hP.own (.inr (Nat.le_refl _)) _ _ _ _ _ _,k,t,n,m,s,A,ln,c,rfl⟩
def zht (f q:Nat) (s:List UInt8):Option (V × Nat × List UInt8):=
 match pre [123] (s.dropWhile nmB) with
 |some r=>(zdf intL f 125 q r).map (λp=>(.mk 6 (lb (s.takeWhile nmB)) 0 0 ⟨#[]⟩ p.1,p.2))
 |none=>match pre [35] (s.dropWhile nmB) with
 |some r=>(match intL r with
  |some p=>(match pre [40] p.2 with
   |some r'=>(zdf intL f 41 q r').map (λz=>(.mk 7 (lb (s.takeWhile nmB)) p.1 0 ⟨#[]⟩ z.1,z.2))
   |none=>none)
  |none=>none)
 |none=>match pre [64] (s.dropWhile nmB) with
 |some r=>some (.mk 8 (lb (s.takeWhile nmB)) 0 0 (lb (r.takeWhile ptB)) [],q,r.dropWhile ptB)
 |none=>none
def VAtF (f:Nat):Prop:=∀(b:Nat) (w:World) (r:List UInt8) (q:Nat),3*q+1<=f->Vp w b r q->Calls Tryz.prog 85 #[.pointer (some ⟨b,0,none⟩)] w (VRes b w (valL intL f q r))
def LAtF (f:Nat):Prop:=∀(b:Nat) (w:World) (r:List UInt8) (q:Nat) (en:UInt8),3*q+3<=f->Vp w b r q->Calls Tryz.prog 150 #[.pointer (some ⟨b,0,none⟩),.string ⟨#[en]⟩] w (LRes b w (zdf intL f en q r))
theorem wk {w wi wj:World} {d:D} {v:Value} (h:Rd (Bt wi.heap.size wj.heap.size) wj d v) {b:Nat} (hP:PV b w wi):Rd (Bt (w.heap.size+1) wj.heap.size) wj d v:=
 h.weaken (λ_ hb=>⟨Nat.le_trans hP.box.lt hb.1,hb.2⟩)
theorem zok (f:Nat) (HL:LAtF f) (b:Nat) (w:World) (r:List UInt8) (q:Nat) (hf:3*q+3<=f) (h:Vp w b r q):Calls Tryz.prog 151 #[.pointer (some ⟨b,0,none⟩)] w (VRes b w (zht f q r)):=by
 obtain⟨O,hO⟩:=zn (zht f q r);rw[hO];unfold zht at hO;have P0:=zz (PV.new (w:=w) h.lt);have V0:=zz (h.chg (M:=λ_=>False) ((Chg.refl _ _).alloc (.cells #[↑(),↑zj.a,↑(),↑(),↑zj.a,.slice none 0 0] 24)) (λh=>h));have KL:=zz HL;have KA:=zz (λp W r q h=>zfg p b W r q h);have KW:=zz (λW r q h=>zhC 196 nmB (λ_ _=>by kernel_rfl) zot b W r q h);have KP:=zz (λW r q h=>zhC 198 ptB (λ_ _=>by kernel_rfl) zoV b W r q h);have KI:=zz (λW r q h=>zmR b W r q h);have HF:=zz hf;obtain⟨W0,hW0⟩:∃W,w.alloc (.cells #[↑(),↑zj.a,↑(),↑(),↑zj.a,.slice none 0 0] 24)=W:=⟨_,rfl⟩;rw[hW0] at P0 V0;have K1:=zz (KW.out W0 r q V0.out);generalize r.dropWhile nmB=r1 at *
 generalize lb (r.takeWhile nmB)=nm at *
 clear h HL hf;go_in;go_wp2_with fail;refine K1.out.mono ?_;rintro e w1 ⟨rfl,hc,hv⟩;have P1:=zz (P0.out.next hc);have V1:=zz hv;clear hc hv;have K2:=KA.out ⟨#[123]⟩ w1 r1 q V1.out;rw[show bl ⟨#[123]⟩=[123] from rfl] at K2;cases h1:pre [123] r1 with
 |some r2=>
  rw[h1] at K2 hO;have K2:=zz K2;clear h1;go_wp2_with fail;refine K2.out.mono ?_;rintro e w2 ⟨rfl,hc,hv⟩;have P2:=zz (P1.out.next hc);have V2:=zz hv;clear hc hv;have K3:=zz (KL.out b w2 r2 q 125 HF.out V2.out);go_wp2_with fail;refine K3.out.mono ?_;rintro e w3 ⟨hc,hq⟩;have P3:=zz (P2.out.next hc);clear hc;cases hl:zdf intL f 125 q r2 with
  |none=>
   rw[hl] at hO hq;obtain⟨A,ln,c,rfl⟩:=hq;obtain rfl:none=O:=hO;clear hl;obtain⟨z0,z1,z2,z3,z4,z5,zf⟩:=P3.out.z;go_wp2;exact zeD zr P3.out rfl rfl rfl
  |some p=>
   obtain⟨l,q2,r2⟩:=p;rw[hl] at hO hq;obtain⟨hv,A,c,rfl,hrd⟩:=hq;have V3:=zz hv;have R3:=zz (wk hrd P2.out);obtain rfl:some (.mk 6 nm 0 0 ⟨#[]⟩ l,q2,r2)=O:=hO;clear hl hv hrd;obtain⟨z0,z1,z2,z3,z4,z5,zf⟩:=P3.out.z;go_wp2;exact zeF (v:=.mk 6 nm 0 0 ⟨#[]⟩ l) zr P3.out V3.out R3.out rfl rfl rfl
 |none=>
  rw[h1] at K2 hO;have K2:=zz K2;clear h1;go_wp2_with fail;refine K2.out.mono ?_;rintro e w2 ⟨rfl,hc,hv⟩;have P2:=zz (P1.out.next hc);have V2:=zz hv;clear hc hv;have K3:=KA.out ⟨#[35]⟩ w2 r1 q V2.out;rw[show bl ⟨#[35]⟩=[35] from rfl] at K3;cases h2:pre [35] r1 with
  |some r2=>
   rw[h2] at K3 hO;have K3:=zz K3;clear h2;go_wp2_with fail;refine K3.out.mono ?_;rintro e w3 ⟨rfl,hc,hv⟩;have P3:=zz (P2.out.next hc);have V3:=zz hv;clear hc hv;have K4:=zz (KI.out w3 r2 q V3.out);go_wp2_with fail;refine K4.out.mono ?_;rintro e w4 ⟨hc,hq⟩;have P4:=zz (P3.out.next hc);clear hc;cases hi:intL r2 with
   |none=>
    rw[hi] at hO hq;obtain⟨n,rfl⟩:=hq;obtain rfl:none=O:=hO;clear hi;obtain⟨z0,z1,z2,z3,z4,z5,zf⟩:=P4.out.z;go_wp2;exact zeD zr P4.out rfl rfl rfl
   |some p=>
    obtain⟨n,r3⟩:=p;rw[hi] at hO hq;obtain⟨rfl,hv⟩:=hq;have V4:=zz hv;have K5:=KA.out ⟨#[40]⟩ w4 r3 q V4.out;rw[show bl ⟨#[40]⟩=[40] from rfl] at K5;clear hi hv;cases h3:pre [40] r3 with
    |none=>
     rw[h3] at K5;have K5:=zz K5;obtain rfl:none=O:=by simpa [h3] using hO
     clear h3;go_wp2_with fail;refine K5.out.mono ?_;rintro e w5 ⟨rfl,hc,hv⟩;have P5:=zz (P4.out.next hc);have V5:=zz hv;clear hc hv;obtain⟨z0,z1,z2,z3,z4,z5,zf⟩:=P5.out.z;go_wp2;exact zeD zr P5.out rfl rfl rfl
    |some r4=>
     have K5:=zz K5;rw[h3] at K5;replace hO:(zdf intL f 41 q r4).map (λz=>(V.mk 7 nm n 0 ⟨#[]⟩ z.1,z.2))=O:=by simpa [h3] using hO
     clear h3;go_wp2_with fail;refine K5.out.mono ?_;rintro e w5 ⟨rfl,hc,hv⟩;have P5:=zz (P4.out.next hc);have V5:=zz hv;clear hc hv;have K6:=zz (KL.out b w5 r4 q 41 HF.out V5.out);go_wp2_with fail;refine K6.out.mono ?_;rintro e w6 ⟨hc,hq⟩;have P6:=zz (P5.out.next hc);clear hc;cases hl:zdf intL f 41 q r4 with
     |none=>
      rw[hl] at hO hq;obtain⟨A,ln,c,rfl⟩:=hq;obtain rfl:none=O:=hO;clear hl;obtain⟨z0,z1,z2,z3,z4,z5,zf⟩:=P6.out.z;go_wp2;exact zeD zr P6.out rfl rfl rfl
     |some p=>
      obtain⟨l,q2,r2⟩:=p;rw[hl] at hO hq;obtain⟨hv,A,c,rfl,hrd⟩:=hq;have V6:=zz hv;have R6:=zz (wk hrd P5.out);obtain rfl:some (.mk 7 nm n 0 ⟨#[]⟩ l,q2,r2)=O:=hO;clear hl hv hrd;obtain⟨z0,z1,z2,z3,z4,z5,zf⟩:=P6.out.z;go_wp2;exact zeF (v:=.mk 7 nm n 0 ⟨#[]⟩ l) zr P6.out V6.out R6.out rfl rfl rfl
  |none=>
   rw[h2] at K3 hO;have K3:=zz K3;clear h2;go_wp2_with fail;refine K3.out.mono ?_;rintro e w3 ⟨rfl,hc,hv⟩;have P3:=zz (P2.out.next hc);have V3:=zz hv;clear hc hv;have K4:=KA.out ⟨#[64]⟩ w3 r1 q V3.out;rw[show bl ⟨#[64]⟩=[64] from rfl] at K4;cases h3:pre [64] r1 with
   |some r2=>
    rw[h3] at K4 hO;have K4:=zz K4;clear h3;go_wp2_with fail;refine K4.out.mono ?_;rintro e w4 ⟨rfl,hc,hv⟩;have P4:=zz (P3.out.next hc);have V4:=zz hv;clear hc hv;have K5:=zz (KP.out w4 r2 q V4.out);go_wp2_with fail;refine K5.out.mono ?_;rintro e w5 ⟨rfl,hc,hv⟩;have P5:=zz (P4.out.next hc);have V5:=zz hv;clear hc hv;obtain rfl:some (.mk 8 nm 0 0 (lb (r2.takeWhile ptB)) [],q,r2.dropWhile ptB)=O:=hO;obtain⟨z0,z1,z2,z3,z4,z5,zf⟩:=P5.out.z;go_wp2;exact zeF (v:=.mk 8 nm 0 0 (lb (r2.takeWhile ptB)) []) zr P5.out V5.out Rd.sl_nil rfl rfl rfl
   |none=>
    rw[h3] at K4 hO;have K4:=zz K4;clear h3;go_wp2_with fail;refine K4.out.mono ?_;rintro e w4 ⟨rfl,hc,hv⟩;have P4:=zz (P3.out.next hc);have V4:=zz hv;clear hc hv;obtain rfl:none=O:=hO;obtain⟨z0,z1,z2,z3,z4,z5,zf⟩:=P4.out.z;go_wp2;exact zeD zr P4.out rfl rfl rfl
theorem zpq:∀f:Nat,(∀q s v q2 r,valL intL f q s=some (v,q2,r)->q2<q)/\(∀e q s l q2 r,zdf intL f e q s=some (l,q2,r)->q2<=q)/\(∀e q s l q2 r,zcd intL f e q s=some (l,q2,r)->q2<=q)
 |0=>⟨λq s v q2 r h=>(by simp[valL] at h),λe q s l q2 r h=>(by simp[zdf] at h),λe q s l q2 r h=>(by simp[zcd] at h)⟩
 |f+1=>by
  obtain⟨h1,h2,h3⟩:=zpq f;refine⟨λq s v q2 r h=>?_,λe q s l q2 r h=>?_,λe q s l q2 r h=>?_⟩
  ·cases q with
   |zero=>rw[valL] at h;cases h
   |succ q=>
    have key:∀{e:UInt8} {s:List UInt8} {g:List V × Nat × List UInt8->V × Nat × List UInt8},(∀p,(g p).2=p.2)->(zdf intL f e q s).map g=some (v,q2,r)->q2<q+1:=by
     intro e s g hg h;cases hv:zdf intL f e q s with
     |none=>rw[hv] at h;cases h
     |some p=>
      rw[hv] at h;have:=h2 e q s p.1 p.2.1 p.2.2 hv;have h5:=congrArg (λz=>z.2.1) (Option.some.inj h);have h6:=congrArg Prod.fst (hg p);simp only at h5;omega
    rw[valL] at h
    repeat' split at h
    all_goals first
     |(cases h;done)
     |(cases h;omega)
     |exact key (λ_=>rfl) h
     |(obtain⟨⟨p1,p2⟩,_,h5⟩:=Option.map_eq_some_iff.1 h;cases h5;omega)
  ·rw[zdf] at h
   split at h
   ·cases h;omega
   ·exact h3 _ _ _ _ _ _ h
  ·rw[zcd] at h
   split at h
   ·cases h
   ·rename_i z hz;obtain⟨v1,q1,r1⟩:=z;have:=h1 _ _ _ _ _ hz;simp only at h
    split at h
    ·cases h;omega
    ·split at h
     ·obtain⟨⟨p1,p2,p3⟩,h4,h5⟩:=Option.map_eq_some_iff.1 h;cases h5;have:=h3 _ _ _ _ _ _ h4;omega
     ·cases h
def zrn (w:World) (b:Nat):Nat:=match w.cell? ⟨b,2,none⟩ with|some (.int _ n)=>n.toNat|_=>0
theorem Vp.left {w:World} {b:Nat} {r:List UInt8} {q:Nat} (h:Vp w b r q):zrn w b=q:=by
 obtain⟨S,i,_,hv⟩:=h;unfold zrn;rw[hv.1.cell 2];rfl
theorem zmf (f:Nat) (IH:∀g,g<f->VAtF g):LAtF f:=by
 intro b w r q en hf h;obtain⟨f,rfl⟩:∃k,f=k+1:=⟨f-1,zo⟩;obtain⟨O,hO⟩:=zn (zdf intL (f+1) en q r);rw[hO];rw[zdf] at hO;have hq:q<=16384:=by obtain⟨S,i,_,hv⟩:=h;exact hv.2.2.2
 have hb:=h.lt;have KA:=zz (λp W r q h=>zfg p b W r q h);have K1:=KA.out ⟨#[en]⟩ w r q h;rw[show bl ⟨#[en]⟩=[en] from rfl] at K1;have HI:=zz IH;have V0:=zz h;clear h IH;cases h1:pre [en] r with
 |some r1=>
  rw[h1] at K1 hO;have K1:=zz K1;obtain rfl:some ([],q,r1)=O:=hO;clear h1;go_in;go_wp2_with fail;refine K1.out.mono ?_;rintro e w1 ⟨rfl,hc,hv⟩;have HC:=zz hc;have HV:=zz hv;clear hc hv;go_wp2
  go_ret2
  exact⟨HC.out,HV.out,none,0,rfl,Rd.sl_nil⟩
 |none=>
  rw[h1] at K1 hO;have K1:=zz K1;have HO:=zz (show (zcd intL f en q r).map (λp=>([]++p.1,p.2))=O from by rw[<-hO];cases zcd intL f en q r<;>rfl);clear h1 hO;go_in;go_wp2_with fail;refine K1.out.mono ?_;rintro e w1 ⟨rfl,hc,hv⟩;have HC:=zz hc;have HV:=zz hv;clear hc hv V0;go_wp2
  go_loopw [6] (λs6 wr=>∃(g p:Nat) (s:List UInt8) (acc:List V),g<=f/\3*p+2<=g/\acc.length+p<=16384/\Hid ((zcd intL g en p s).map (λz=>(acc++z.1,z.2))=O)/\Hid (Vp wr b s p)/\Hid (Chg (λj=>j=b) w wr)/\Hid (zaz w.heap.size 24 6 acc.length (zgZ acc) wr s6)) (λ_ wr=>zrn wr b)
  case atStart=>exact⟨f,q,r,[],Nat.le_refl _,zo,by simpa using hq,HO,HV,HC,zz (zaz.nil _ _ _ _ _)⟩
  case round=>
   clear HO HV HC;obtain⟨g,p,s,acc,hg,hp,hap,HO,HV,HC,HW⟩:=hrel;obtain⟨g,rfl⟩:∃k,g=k+1:=⟨g-1,zo⟩;obtain⟨A9,c9,rfl,_⟩:=HW.out.rd.sl_inv;have hm:=HV.out.left;have hsw:=HC.out.size;have KV:=zz (HI.out g zo b wr s p zo HV.out);have hO:=HO.out;rw[zcd] at hO;clear HO;go_wp2_with fail;refine KV.out.mono ?_;rintro e w8 ⟨hc8,hq8⟩;have HC8:=zz (HC.out.next hc8);cases hx:valL intL g p s with
   |none=>
    rw[hx] at hO hq8;obtain⟨k,t,n,m,s',A,ln,c,rfl⟩:=hq8;obtain rfl:none=O:=hO;clear hc8 hx hm;have hfin:Below w8.heap.size w8 (w8.alloc (.cells #[↑k,↑t,↑n,↑m,↑s',.slice A ln c] 24)):=(Below.refl _ _).alloc (Nat.le_refl _) _;have HF:=zz (HC8.out.thenBelow hfin);clear hfin;go_wp2
    go_ret2
    exact⟨HF.out,_,_,_,rfl⟩
   |some z=>
    obtain⟨x,p2,s2⟩:=z;have hlt:=(zpq g).1 _ _ _ _ _ hx;rw[hx] at hO hq8;obtain⟨hv8,A8,c8,rfl,hx8⟩:=hq8;have W8:=zz (HW.out.chg hc8 (λj hj=>by omega));have HOB:=zz HW.out.below_own;have hsz:=hc8.size;have hB:Below w8.heap.size w8 ((w8.alloc (.cells #[↑x.kind,↑x.t,↑x.n,↑x.m,↑x.s,.slice A8 x.l.length c8] 24)).alloc (.cells #[↑x.kind,↑x.t,↑x.n,↑x.m,↑x.s,.slice A8 x.l.length c8] 24)):=((Below.refl _ _).alloc (Nat.le_refl _) _).alloc zs _;have HB:=zz hB;have HXO:=zz (W8.out.below hB);have HX8:=zz (hx8.below hB (λb hb=>hb.2));have HV8:=zz hv8;have HO8:=zz hO;clear hv8 hx8 hc8 hB hO hx;go_wp2_with (at_builtin;refine zjM rfl _ _ rfl w.heap.size ?cx1 (.slice A9 acc.length c9) acc rfl HXO.out ⟨w8.heap.size+1,0,none⟩ 1 x A8 c8 rfl ?cx2 ?cx3 ?cx4 ?_)
    case cx1=>simp;omega
    case cx2=>
     intro j u hj;rw[Addr.add_lit,Nat.zero_add,show w8.heap.size+1=(w8.alloc (.cells #[↑x.kind,↑x.t,↑x.n,↑x.m,↑x.s,.slice A8 x.l.length c8] 24)).heap.size by simp,zbG];exact List.getElem?_toArray.trans hj
    case cx3=>
     refine HX8.out.weaken (λq hq=>⟨⟨by have:=hq.1;omega,by have:=hq.2;simp;omega⟩,λh=>?_⟩);have:=(HOB.out q h.symm).2;have:=hq.1;omega
    case cx4=>omega
    intro v' w10 hO10 hg10;obtain⟨A10,c10,rfl,_⟩:=hO10.rd.sl_inv;have hch:Chg (λk=>w.heap.size<=k) w8 w10:=(Chg.of_below HB.out).next (Chg.of_grown hg10 (λk hk=>(HOB.out k hk).1));have HC10:Hid (Chg (λj=>j=b) w w10):=zz (HC8.out.trans hch (λj hj=>.inr hj));have HV10:=zz (HV8.out.chg hch zo);have hal2:(acc++[x]).length=acc.length+1:=by simp
    have HW10:=zz hO10;have KE:=KA.out ⟨#[en]⟩ w10 s2 p2 HV10.out;rw[show bl ⟨#[en]⟩=[en] from rfl] at KE;clear hO10 hg10 hch;have hO8:=HO8.out;clear HO8;cases h1:pre [en] s2 with
    |some s3=>
     rw[h1] at KE;have KE:=zz KE;have HN:Hid (O=some (acc++[x],p2,s3)):=zz (by rw[<-hO8];simp[h1]);clear h1 hO8;go_wp2_with fail;refine KE.out.mono ?_;rintro e w11 ⟨rfl,hc,hv⟩;have HF:=zz (HC10.out.next hc);have HV11:=zz hv;have HR:=zz (HW10.out.chg hc (λj hj=>by omega)).rd;clear hc hv;go_wp2
     go_ret2
     exact⟨HF.out,by rw[HN.out];exact⟨HV11.out,A10,c10,by rw[hal2];rfl,by have:=HR.out;rw[<-hal2] at this;exact this⟩⟩
    |none=>
     rw[h1] at KE;have KE:=zz KE;have h1:=zz h1;go_wp2_with fail;refine KE.out.mono ?_;rintro e w11 ⟨rfl,hc,hv⟩;have HC11:=zz (HC10.out.next hc);have HV11:=zz hv;have HW11:=zz (HW10.out.chg hc (λj hj=>by omega));have KC:=KA.out ⟨#[44,32]⟩ w11 s2 p2 HV11.out;rw[show bl ⟨#[44,32]⟩=[44,32] from rfl] at KC;clear hc hv KE HC10 HV10 HW10;cases h2:pre [44,32] s2 with
     |none=>
      rw[h2] at KC;have KC:=zz KC;have HN:Hid (O=none):=zz (by rw[<-hO8];simp[h1.out,h2]);clear h1 h2 hO8;go_wp2_with fail;refine KC.out.mono ?_;rintro e w12 ⟨rfl,hc,hv⟩;have HF:=zz (HC11.out.next hc);clear hc hv;go_wp2
      go_ret2
      exact⟨HF.out,by rw[HN.out];exact⟨_,_,_,rfl⟩⟩
     |some s3=>
      rw[h2] at KC;have KC:=zz KC;have HN:Hid ((zcd intL g en p2 s3).map (λz=>((acc++[x])++z.1,z.2))=O):=zz (by rw[<-hO8];simp only[h1.out,h2,Option.map_map];congr 1;funext z;simp);clear h1 h2 hO8;go_wp2_with fail;refine KC.out.mono ?_;rintro e w12 ⟨rfl,hc,hv⟩;have HC12:=zz (HC11.out.next hc);have HW12:=zz (HW11.out.chg hc (λj hj=>by omega));have hm2:=hv.left;have HV12:=zz hv;clear hc hv;go_wp2;exact⟨⟨g,p2,s3,acc++[x],zo,zo,zo,HN,HV12,HC12,by rw[hal2];exact HW12⟩,zo⟩
theorem zoD (f:Nat) (HL:LAtF f):VAtF (f+1):=by
 intro b w r q hf h;have P0:=zz (PV.new (w:=w) h.lt);have V0:=h.chg (M:=λ_=>False) ((Chg.refl _ _).alloc (.cells #[↑(),↑zj.a,↑(),↑(),↑zj.a,.slice none 0 0] 24)) (λh=>h);obtain⟨W0,hW0⟩:∃W,w.alloc (.cells #[↑(),↑zj.a,↑(),↑(),↑zj.a,.slice none 0 0] 24)=W:=⟨_,rfl⟩;rw[hW0] at P0 V0;obtain⟨S,i,hr,hv⟩:=V0;have c2:=hv.1.a 2 rfl;have hq:=hv.2.2.2;cases q with
 |zero=>
  rw[valL];have c2:W0.cell? ⟨b,2,none⟩=some ↑():=c2;clear hr hv h;obtain⟨z0,z1,z2,z3,z4,z5,zf⟩:=P0.out.z;go_in;go_wp2;exact zeD zr P0.out rfl rfl rfl
 |succ q=>
  obtain⟨O,hO⟩:=zn (valL intL (f+1) (q+1) r);rw[hO];rw[valL] at hO;have hcast:((q+1:Nat):Int)=(q:Int)+1:=zo
  rw[hcast] at c2;have hwr:IntKind.i64.wrap ((q:Int)+1-1)=(q:Int):=by rw[IntWalk.i64_in _ zo];omega
  have hne:((q:Int)+1 == 0)=false:=by rw[beq_eq_false_iff_ne];omega
  have zb:=hv.1.fz 2;have V1:Hid (Vp (W0.setCell ⟨b,2,none⟩ (.int .i64 (q:Int))) b r q):=zz ⟨S,i,hr,hv.set2 q zo⟩;have P1:Hid (PV b w (W0.setCell ⟨b,2,none⟩ (.int .i64 (q:Int)))):=zz (P0.out.next ((Chg.refl (λj=>j=b) W0).setCell (p:=⟨b,2,none⟩) (.inl rfl) _));obtain⟨w1,hw1⟩:∃W,W0.setCell ⟨b,2,none⟩ (.int .i64 (q:Int))=W:=⟨_,rfl⟩;rw[hw1] at V1 P1;have KA:=zz (λp W r q h=>zfg p b W r q h);have KL:=zz HL;have KT:=zz (λW r q h=>zpK b W r q h);have KI:=zz (λW r q h=>zmR b W r q h);have KN:=zz (λW r h=>zok f HL b W r q zo h);have hf2:3*q+3<=f:=zo
  have HF:=zz hf2;have K1:=KA.out ⟨#[40,41]⟩ w1 r q V1.out;rw[show bl ⟨#[40,41]⟩=[40,41] from rfl] at K1;clear hr hv h HL hf hcast hf2;go_in;cases h0:pre [40,41] r with
  |some r1=>
   rw[h0] at K1 hO;have K1:=zz K1;obtain rfl:some (.mk 1 ⟨#[]⟩ 0 0 ⟨#[]⟩ [],q,r1)=O:=hO;clear h0;go_wp2_with fail;refine K1.out.mono ?_;rintro e w2 ⟨rfl,hc,hv⟩;have P2:=zz (P1.out.next hc);have V2:=zz hv;clear hc hv;obtain⟨z0,z1,z2,z3,z4,z5,zf⟩:=P2.out.z;go_wp2;exact zeF (v:=.mk 1 ⟨#[]⟩ 0 0 ⟨#[]⟩ []) zr P2.out V2.out Rd.sl_nil rfl rfl rfl
  |none=>
   rw[h0] at K1 hO;have K1:=zz K1;clear h0;go_wp2_with fail;refine K1.out.mono ?_;rintro e w2 ⟨rfl,hc,hv⟩;have P2:=zz (P1.out.next hc);have V2:=zz hv;clear hc hv;have K2:=KA.out ⟨#[102,97,108,115,101]⟩ w2 r q V2.out;rw[show bl ⟨#[102,97,108,115,101]⟩=[102,97,108,115,101] from rfl] at K2;cases h1:pre [102,97,108,115,101] r with
   |some r2=>
    rw[h1] at K2 hO;have K2:=zz K2;obtain rfl:some (.mk 2 ⟨#[]⟩ 0 0 ⟨#[]⟩ [],q,r2)=O:=hO;clear h1;go_wp2_with fail;refine K2.out.mono ?_;rintro e w3 ⟨rfl,hc,hv⟩;have P3:=zz (P2.out.next hc);have V3:=zz hv;clear hc hv;obtain⟨z0,z1,z2,z3,z4,z5,zf⟩:=P3.out.z;go_wp2;exact zeF (v:=.mk 2 ⟨#[]⟩ 0 0 ⟨#[]⟩ []) zr P3.out V3.out Rd.sl_nil rfl rfl rfl
   |none=>
    rw[h1] at K2 hO;have K2:=zz K2;clear h1;go_wp2_with fail;refine K2.out.mono ?_;rintro e w3 ⟨rfl,hc,hv⟩;have P3:=zz (P2.out.next hc);have V3:=zz hv;clear hc hv;have K3:=KA.out ⟨#[116,114,117,101]⟩ w3 r q V3.out;rw[show bl ⟨#[116,114,117,101]⟩=[116,114,117,101] from rfl] at K3;cases h2:pre [116,114,117,101] r with
    |some r3=>
     rw[h2] at K3 hO;have K3:=zz K3;obtain rfl:some (.mk 2 ⟨#[]⟩ 1 0 ⟨#[]⟩ [],q,r3)=O:=hO;clear h2;go_wp2_with fail;refine K3.out.mono ?_;rintro e w4 ⟨rfl,hc,hv⟩;have P4:=zz (P3.out.next hc);have V4:=zz hv;clear hc hv;obtain⟨z0,z1,z2,z3,z4,z5,zf⟩:=P4.out.z;go_wp2;exact zeF (v:=.mk 2 ⟨#[]⟩ 1 0 ⟨#[]⟩ []) zr P4.out V4.out Rd.sl_nil rfl rfl rfl
    |none=>
     rw[h2] at K3 hO;have K3:=zz K3;clear h2;go_wp2_with fail;refine K3.out.mono ?_;rintro e w4 ⟨rfl,hc,hv⟩;have P4:=zz (P3.out.next hc);have V4:=zz hv;clear hc hv;have K4:=KA.out ⟨#[34]⟩ w4 r q V4.out;rw[show bl ⟨#[34]⟩=[34] from rfl] at K4;cases h3:pre [34] r with
     |some r4=>
      rw[h3] at K4 hO;have K4:=zz K4;clear h3;go_wp2_with fail;refine K4.out.mono ?_;rintro e w5 ⟨rfl,hc,hv⟩;have P5:=zz (P4.out.next hc);have V5:=zz hv;clear hc hv;have KT2:=zz (KT.out w5 r4 q V5.out);go_wp2_with fail;refine KT2.out.mono ?_;rintro e w6 ⟨hc,hq2⟩;have P6:=zz (P5.out.next hc);clear hc;cases ht:zbO r4 with
      |none=>
       rw[ht] at hO hq2;obtain⟨s,rfl⟩:=hq2;obtain rfl:none=O:=hO;clear ht;obtain⟨z0,z1,z2,z3,z4,z5,zf⟩:=P6.out.z;go_wp2;exact zeD zr P6.out rfl rfl rfl
      |some p=>
       obtain⟨l,r9⟩:=p;rw[ht] at hO hq2;obtain⟨rfl,hv⟩:=hq2;have V6:=zz hv;obtain rfl:some (.mk 4 ⟨#[]⟩ 0 0 (lb l) [],q,r9)=O:=hO;clear ht hv;obtain⟨z0,z1,z2,z3,z4,z5,zf⟩:=P6.out.z;go_wp2;exact zeF (v:=.mk 4 ⟨#[]⟩ 0 0 (lb l) []) zr P6.out V6.out Rd.sl_nil rfl rfl rfl
     |none=>
      rw[h3] at K4 hO;have K4:=zz K4;clear h3;go_wp2_with fail;refine K4.out.mono ?_;rintro e w5 ⟨rfl,hc,hv⟩;have P5:=zz (P4.out.next hc);have V5:=zz hv;clear hc hv;have K5:=KA.out ⟨#[91]⟩ w5 r q V5.out;rw[show bl ⟨#[91]⟩=[91] from rfl] at K5;cases h4:pre [91] r with
      |some r5=>
       rw[h4] at K5 hO;have K5:=zz K5;clear h4;go_wp2_with fail;refine K5.out.mono ?_;rintro e w6 ⟨rfl,hc,hv⟩;have P6:=zz (P5.out.next hc);have V6:=zz hv;clear hc hv;have K3:=zz (KL.out b w6 r5 q 93 HF.out V6.out);go_wp2_with fail;refine K3.out.mono ?_;rintro e w7 ⟨hc,hq2⟩;have P7:=zz (P6.out.next hc);clear hc;cases hl:zdf intL f 93 q r5 with
       |none=>
        rw[hl] at hO hq2;obtain⟨A,ln,c,rfl⟩:=hq2;obtain rfl:none=O:=hO;clear hl;obtain⟨z0,z1,z2,z3,z4,z5,zf⟩:=P7.out.z;go_wp2;exact zeD zr P7.out rfl rfl rfl
       |some p=>
        obtain⟨l,q2,r2⟩:=p;rw[hl] at hO hq2;obtain⟨hv,A,c,rfl,hrd⟩:=hq2;have V7:=zz hv;have R7:=zz (wk hrd P6.out);obtain rfl:some (V.mk 5 ⟨#[]⟩ 0 0 ⟨#[]⟩ l,q2,r2)=O:=hO;clear hl hv hrd;obtain⟨z0,z1,z2,z3,z4,z5,zf⟩:=P7.out.z;go_wp2;exact zeF (v:=.mk 5 ⟨#[]⟩ 0 0 ⟨#[]⟩ l) zr P7.out V7.out R7.out rfl rfl rfl
      |none=>
       rw[h4] at K5 hO;have K5:=zz K5;clear h4;go_wp2_with fail;refine K5.out.mono ?_;rintro e w6 ⟨rfl,hc,hv⟩;have P6:=zz (P5.out.next hc);have V6:=zz hv;clear hc hv;have hv6:=V6.out;obtain⟨S2,i2,hr2,hv2⟩:=hv6;replace hr2:(bl S2).drop i2=r:=hr2;have c0:=hv2.c0;have c1:=hv2.c1;have hi2:=hv2.2.1;have hS2:=hv2.2.2.1;have sgo:∀(nq:Nat),PV b w (w6.drewN nq)/\Vp (w6.drewN nq) b r q:=λnq=>⟨P6.out.next ((Chg.refl _ _).drewN nq),S2,i2,hr2,hv2⟩;have SGO:=zz sgo;clear sgo;obtain⟨up,hup⟩:=zn ((r.head?.map upB).getD false);rw[hup] at hO;have HOI:=zz (λ(h:up=false)=>show (intL r).map (λp=>(V.mk 3 ⟨#[]⟩ p.1 0 ⟨#[]⟩ [],q,p.2))=O from by subst h;exact hO);have HON:=zz (λ(h:up=true)=>show zht f q r=O from by subst h;exact hO);clear hO
       by_cases hlt:i2<S2.size
       ·have hlti:(i2:Int)<(S2.size:Int):=zo
        have hlt':decide ((i2:Int)<(S2.size:Int))=true:=decide_eq_true hlti;obtain⟨c,hd,hbt⟩:=zed S2 i2 hlt;have HJ:∀W,_:=zaP S2 i2 hlt;rw[hbt] at HJ;have hu:up=upB c:=by rw[<-hup,<-hr2,show (bl S2).drop i2=c::(bl S2).drop (i2+1) from hd];rfl
        have hux:upB c=decide (65<=(c.toNat:Int)/\(c.toNat:Int)<=90):=by
         unfold upB;rw[Bool.eq_iff_iff];simp only[Bool.and_eq_true,decide_eq_true_eq,UInt8.le_iff_toNat_le]
         show 65<=c.toNat/\c.toNat<=90↔_
         omega
        rw[hux] at hu;obtain⟨x,hx⟩:∃x:Int,(c.toNat:Int)=x:=⟨_,rfl⟩;rw[hx] at HJ hu;clear hd hbt hr2 hv2 hux hx hup
        by_cases a1:65<=x
        ·by_cases a2:x<=90
         ·have hO:=HON.out (by rw[hu];exact decide_eq_true ⟨a1,a2⟩);clear hu;go_wp2
          go_quiet (fail)
          have KN2:=zz (KN.out _ r (SGO.out nq).2);have P9:=zz (SGO.out nq).1;clear c0 c1;go_wp2_with fail;refine KN2.out.mono ?_;rintro e w9 ⟨hc,hq2⟩;have P10:=zz (P9.out.next hc);clear hc;cases hn:zht f q r with
          |none=>
           rw[hn] at hO hq2;obtain⟨k,t,n,m,s,A,ln,c,rfl⟩:=hq2;obtain rfl:none=O:=hO;clear hn;obtain⟨z0,z1,z2,z3,z4,z5,zf⟩:=P10.out.z;go_wp2;exact zeD zr P10.out rfl rfl rfl
          |some p=>
           obtain⟨v,q2,r2⟩:=p;rw[hn] at hO hq2;obtain⟨hv,A,c,rfl,hrd⟩:=hq2;have V10:=zz hv;have R10:=zz (wk hrd P9.out);obtain rfl:some (v,q2,r2)=O:=hO;clear hn hv hrd;obtain⟨z0,z1,z2,z3,z4,z5,zf⟩:=P10.out.z;go_wp2;exact zeF (v:=v) zr P10.out V10.out R10.out rfl rfl rfl
         ·have hO:=HOI.out (by rw[hu];exact decide_eq_false (λh=>a2 h.2));have b1:decide (65<=x)=true:=decide_eq_true a1;have b2:decide (x<=90)=false:=decide_eq_false a2;clear hu;go_wp2
          go_quiet (fail)
          have KI2:=zz (KI.out _ r q (SGO.out nq).2);have P9:=zz (SGO.out nq).1;clear c0 c1;go_wp2_with fail;refine KI2.out.mono ?_;rintro e w9 ⟨hc,hq2⟩;have P10:=zz (P9.out.next hc);clear hc;cases hn:intL r with
          |none=>
           rw[hn] at hO hq2;obtain⟨n,rfl⟩:=hq2;obtain rfl:none=O:=hO;clear hn;obtain⟨z0,z1,z2,z3,z4,z5,zf⟩:=P10.out.z;go_wp2;exact zeD zr P10.out rfl rfl rfl
          |some p=>
           obtain⟨n,r2⟩:=p;rw[hn] at hO hq2;obtain⟨rfl,hv⟩:=hq2;have V10:=zz hv;obtain rfl:some (V.mk 3 ⟨#[]⟩ n 0 ⟨#[]⟩ [],q,r2)=O:=hO;clear hn hv;obtain⟨z0,z1,z2,z3,z4,z5,zf⟩:=P10.out.z;go_wp2;exact zeF (v:=.mk 3 ⟨#[]⟩ n 0 ⟨#[]⟩ []) zr P10.out V10.out Rd.sl_nil rfl rfl rfl
        ·have hO:=HOI.out (by rw[hu];exact decide_eq_false (λh=>a1 h.1));have b1:decide (65<=x)=false:=decide_eq_false a1;clear hu;go_wp2
         go_quiet (fail)
         have KI2:=zz (KI.out _ r q (SGO.out nq).2);have P9:=zz (SGO.out nq).1;clear c0 c1;go_wp2_with fail;refine KI2.out.mono ?_;rintro e w9 ⟨hc,hq2⟩;have P10:=zz (P9.out.next hc);clear hc;cases hn:intL r with
         |none=>
          rw[hn] at hO hq2;obtain⟨n,rfl⟩:=hq2;obtain rfl:none=O:=hO;clear hn;obtain⟨z0,z1,z2,z3,z4,z5,zf⟩:=P10.out.z;go_wp2;exact zeD zr P10.out rfl rfl rfl
         |some p=>
          obtain⟨n,r2⟩:=p;rw[hn] at hO hq2;obtain⟨rfl,hv⟩:=hq2;have V10:=zz hv;obtain rfl:some (V.mk 3 ⟨#[]⟩ n 0 ⟨#[]⟩ [],q,r2)=O:=hO;clear hn hv;obtain⟨z0,z1,z2,z3,z4,z5,zf⟩:=P10.out.z;go_wp2;exact zeF (v:=.mk 3 ⟨#[]⟩ n 0 ⟨#[]⟩ []) zr P10.out V10.out Rd.sl_nil rfl rfl rfl
       ·have hn:((bl S2).drop i2)=[]:=List.drop_eq_nil_of_le (by have:(bl S2).length=S2.size:=zai S2;omega);have hO:=HOI.out (by rw[<-hup,<-hr2,hn];rfl);have hlti:¬(i2:Int)<(S2.size:Int):=zo
        have hlt':decide ((i2:Int)<(S2.size:Int))=false:=decide_eq_false hlti;clear hn hr2 hv2 hup;go_wp2
        go_quiet (fail)
        have KI2:=zz (KI.out _ r q (SGO.out nq).2);have P9:=zz (SGO.out nq).1;clear c0 c1;go_wp2_with fail;refine KI2.out.mono ?_;rintro e w9 ⟨hc,hq2⟩;have P10:=zz (P9.out.next hc);clear hc;cases hn:intL r with
        |none=>
         rw[hn] at hO hq2;obtain⟨n,rfl⟩:=hq2;obtain rfl:none=O:=hO;clear hn;obtain⟨z0,z1,z2,z3,z4,z5,zf⟩:=P10.out.z;go_wp2;exact zeD zr P10.out rfl rfl rfl
        |some p=>
         obtain⟨n,r2⟩:=p;rw[hn] at hO hq2;obtain⟨rfl,hv⟩:=hq2;have V10:=zz hv;obtain rfl:some (V.mk 3 ⟨#[]⟩ n 0 ⟨#[]⟩ [],q,r2)=O:=hO;clear hn hv;obtain⟨z0,z1,z2,z3,z4,z5,zf⟩:=P10.out.z;go_wp2;exact zeF (v:=.mk 3 ⟨#[]⟩ n 0 ⟨#[]⟩ []) zr P10.out V10.out Rd.sl_nil rfl rfl rfl
theorem zqD:∀f:Nat,VAtF f:=λf=>Nat.strongRecOn f (λf ih=>by
 cases f with
 |zero=>intro b w r q hf h;omega
 |succ f=>exact zoD f (zmf f (λg hg=>ih g zo)))
end Go.Proofs.YtcebmphappfjjaaGreatDoor
