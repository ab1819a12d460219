/- Conditions: those in each statement. -/
import Derived.Test.YtcebmphappfjjaaGreatDoorV43
import Derived.Test.YtcebmphappfjjaaGreatDoorV36
set_option maxHeartbeats 32000000
set_option maxRecDepth 100000
namespace Go.Proofs.YtcebmphappfjjaaGreatDoor
open Go.RowKit
def stL:Option (List UInt8)->Nat
 |none=>0
 |some r=>r.length
def RV (S:ByteArray) (b:Nat) (w:World) (x:V × Option (List UInt8)) (e:Ending) (w':World):Prop:=Chg (λj=>j=b) w w'/\Sc S w' b x.2/\
 ∃A c,e=.returned (.agg #[.int .i64 x.1.kind,.string x.1.t,.int .i64 x.1.n,.int .i64 x.1.m,.string x.1.s,.slice A x.1.l.length c])/\Rd (Bt w.heap.size w'.heap.size) w' (vs x.1.l) (.slice A x.1.l.length c)
def RL (S:ByteArray) (b:Nat) (w:World) (x:List V × Option (List UInt8)) (e:Ending) (w':World):Prop:=Chg (λj=>j=b) w w'/\Sc S w' b x.2/\
 ∃A c,e=.returned (.slice A x.1.length c)/\Rd (Bt w.heap.size w'.heap.size) w' (vs x.1) (.slice A x.1.length c)
theorem zEm {p:List UInt8} {st:Option (List UInt8)} {r:List UInt8} (h:hasL p st=some r):stL st=p.length+r.length:=by
 cases st with
 |none=>cases h
 |some r0=>exact zzu h
theorem zBe {a:UInt8} {st:Option (List UInt8)} {r:List UInt8} (h:hasL [a] st=some r):stL st=r.length+1:=(zEm h).trans (Nat.add_comm _ _)
theorem zDR (p:UInt8->Bool) (st:Option (List UInt8)):(whL p st).1.length+stL (whL p st).2=stL st:=by
 cases st with
 |none=>rfl
 |some r=>show (r.takeWhile p).length+(r.dropWhile p).length=r.length;rw[<-List.length_append,List.takeWhile_append_dropWhile]
theorem zEn (q:List UInt8):(lb q).size=q.length:=by simp[ByteArray.size]
theorem Sc.len {S:ByteArray} {w:World} {b:Nat} {st:Option (List UInt8)} (h:Sc S w b st):stL st<=2097152:=by
 cases st with
 |none=>exact Nat.zero_le _
 |some r=>obtain⟨j,hr,h1,h2,h3⟩:=h;show r.length<=_;rw[<-hr,zpH];omega
theorem zzR {fn:Func} (hfn:fn.results=#[.cell 2 24]) {S:ByteArray} {b:Nat} {w W:World} {v:V} {st:Option (List UInt8)} {A:Option Addr} {c:Nat} (hP:PV b w W) (hp:Sc S W b st) (hrd:Rd (Bt (w.heap.size+1) W.heap.size) W (vs v.l) (.slice A v.l.length c)) {O:V × Option (List UInt8)} (hO:(v,st)=O) {a:Act}
 (h4:a.tmps.getD 2 undef=.pointer (some ⟨w.heap.size,0,none⟩)) (hd:a.defers=[]) :
 bodyPost Tryz.prog fn (RV S b w O) Exit.ret a ((((((W.setCell ⟨w.heap.size,0,none⟩ ↑v.kind).setCell ⟨w.heap.size,1,none⟩ ↑v.t).setCell ⟨w.heap.size,2,none⟩ ↑v.n).setCell ⟨w.heap.size,3,none⟩ ↑v.m).setCell ⟨w.heap.size,4,none⟩ ↑v.s).setCell ⟨w.heap.size,5,none⟩ (.slice A v.l.length c)):=by
 subst hO;have:=results_cell_row hfn a.tmps _ w.heap.size _ _ (0,0) _ h4 (zhz ↑v.kind ↑v.t ↑v.n ↑v.m ↑v.s (.slice A v.l.length c) hP.box) Tryz.underlying24 rfl zkU;have hc1:=zlJ (w:=W) (g:=w.heap.size) ↑v.kind ↑v.t ↑v.n ↑v.m ↑v.s (.slice A v.l.length c);have h1:=hc1.rd (ok:=Bt (w.heap.size+1) W.heap.size) (λb hb=>⟨hb.2,by have:=hb.1;omega⟩) hrd;have hb:=hP.lt;exact bodyPost_ret this hd ⟨zlG hP.own (.inr (Nat.le_refl _)) _ _ _ _ _ _,hp.chg hc1 zo,A,c,rfl,h1.weaken (λb hb=>⟨by have:=hb.1;omega,Nat.lt_of_lt_of_le hb.2 hc1.size⟩)⟩
def RVAt (S:ByteArray) (f:Nat):Prop:=∀(b:Nat) (w:World) (st:Option (List UInt8)),3*stL st+3<=f->Sc S w b st->Calls Tryz.prog 49 #[.pointer (some ⟨b,0,none⟩)] w (RV S b w (zzz f st))
def RLAt (S:ByteArray) (f:Nat):Prop:=∀(b:Nat) (w:World) (st:Option (List UInt8)) (en:UInt8),3*stL st+4<=f->Sc S w b st->Calls Tryz.prog 90 #[.pointer (some ⟨b,0,none⟩),.string ⟨#[en]⟩] w (RL S b w (zzv (λe s=>zzs f e s) en st))
theorem zBU (S:ByteArray) (f:Nat) (HL:RLAt S f):RVAt S (f+1):=by
 intro b w st hf h;have P0:=zz (PV.new (w:=w) h.lt);have V0:=zz (h.chg (M:=λ_=>False) ((Chg.refl _ _).alloc (.cells #[↑(),↑zj.a,↑(),↑(),↑zj.a,.slice none 0 0] 24)) (λh=>h));obtain⟨W0,hW0⟩:∃W,w.alloc (.cells #[↑(),↑zj.a,↑(),↑(),↑zj.a,.slice none 0 0] 24)=W:=⟨_,rfl⟩;rw[hW0] at P0 V0;obtain⟨O,hO⟩:=zn (zzz (f+1) st);rw[hO];rw[zzz] at hO;unfold zAo at hO;have KA:=zz (λp W st (hp:p.size<=100) h=>zBP S p b W st hp h);have KW:=zz (λset wd W st (hp:set.size<=100) h=>zCs S set wd b W st hp h);have KQ:=zz (λW r h=>zBT S b W r h);have KL:=zz HL;have KR:=zz (λs lo hi W (hs:s.size<=2097152)=>zAq s lo hi W hs);have HF:=zz hf;clear h HL hf;have K0:=KA.out ⟨#[40,41]⟩ W0 st zd V0.out;go_in;rw[show bl ⟨#[40,41]⟩=[40,41] from rfl] at K0;cases h9:hasL [40,41] st with
 |some r1=>
  rw[h9] at K0 hO;have K0:=zz K0;have HX:=zz h9;clear h9;have HO:Hid ((.mk 1 ⟨#[]⟩ 0 0 ⟨#[]⟩ [],some r1)=O):=zz hO;clear hO;go_wp2_with fail;refine K0.out.mono ?_;rintro e w9 ⟨rfl,hc,hv⟩;have Pw9:=zz (P0.out.next hc);have Vw9:=zz hv;clear hc hv;obtain⟨z0,z1,z2,z3,z4,z5,zf⟩:=Pw9.out.z;go_wp2;exact zzR (v:=.mk 1 ⟨#[]⟩ 0 0 ⟨#[]⟩ []) zr Pw9.out Vw9.out Rd.sl_nil HO.out rfl rfl
 |none=>
  rw[h9] at K0 hO;have K0:=zz K0;clear h9;go_wp2_with fail;refine K0.out.mono ?_;rintro e w1 ⟨rfl,hc,hv⟩;have Pw1:=zz (P0.out.next hc);have Vw1:=zz hv;clear hc hv;have K0:=KA.out ⟨#[116,114,117,101]⟩ w1 st zd Vw1.out;rw[show bl ⟨#[116,114,117,101]⟩=[116,114,117,101] from rfl] at K0;cases h9:hasL [116,114,117,101] st with
  |some r1=>
   rw[h9] at K0 hO;have K0:=zz K0;have HX:=zz h9;clear h9;have HO:Hid ((.mk 2 ⟨#[]⟩ 1 0 ⟨#[]⟩ [],some r1)=O):=zz hO;clear hO;go_wp2_with fail;refine K0.out.mono ?_;rintro e w9 ⟨rfl,hc,hv⟩;have Pw9:=zz (Pw1.out.next hc);have Vw9:=zz hv;clear hc hv;obtain⟨z0,z1,z2,z3,z4,z5,zf⟩:=Pw9.out.z;go_wp2;exact zzR (v:=.mk 2 ⟨#[]⟩ 1 0 ⟨#[]⟩ []) zr Pw9.out Vw9.out Rd.sl_nil HO.out rfl rfl
  |none=>
   rw[h9] at K0 hO;have K0:=zz K0;clear h9;go_wp2_with fail;refine K0.out.mono ?_;rintro e w2 ⟨rfl,hc,hv⟩;have Pw2:=zz (Pw1.out.next hc);have Vw2:=zz hv;clear hc hv;have K0:=KA.out ⟨#[102,97,108,115,101]⟩ w2 st zd Vw2.out;rw[show bl ⟨#[102,97,108,115,101]⟩=[102,97,108,115,101] from rfl] at K0;cases h9:hasL [102,97,108,115,101] st with
   |some r1=>
    rw[h9] at K0 hO;have K0:=zz K0;have HX:=zz h9;clear h9;have HO:Hid ((.mk 2 ⟨#[]⟩ 0 0 ⟨#[]⟩ [],some r1)=O):=zz hO;clear hO;go_wp2_with fail;refine K0.out.mono ?_;rintro e w9 ⟨rfl,hc,hv⟩;have Pw9:=zz (Pw2.out.next hc);have Vw9:=zz hv;clear hc hv;obtain⟨z0,z1,z2,z3,z4,z5,zf⟩:=Pw9.out.z;go_wp2;exact zzR (v:=.mk 2 ⟨#[]⟩ 0 0 ⟨#[]⟩ []) zr Pw9.out Vw9.out Rd.sl_nil HO.out rfl rfl
   |none=>
    rw[h9] at K0 hO;have K0:=zz K0;clear h9;go_wp2_with fail;refine K0.out.mono ?_;rintro e w3 ⟨rfl,hc,hv⟩;have Pw3:=zz (Pw2.out.next hc);have Vw3:=zz hv;clear hc hv;have K0:=KA.out ⟨#[34]⟩ w3 st zd Vw3.out;rw[show bl ⟨#[34]⟩=[34] from rfl] at K0;cases h9:hasL [34] st with
    |some r1=>
     rw[h9] at K0 hO;have K0:=zz K0;have HX:=zz h9;clear h9;go_wp2_with fail;refine K0.out.mono ?_;rintro e w9 ⟨rfl,hc,hv⟩;have Pw9:=zz (Pw3.out.next hc);have Vw9:=zz hv;clear hc hv;have KK:=zz (KQ.out w9 r1 Vw9.out);have HO:Hid ((.mk 4 ⟨#[]⟩ 0 0 (lb (((rqL r1).map Prod.fst).getD [])) [],(rqL r1).map Prod.snd)=O):=zz hO;generalize lb (((rqL r1).map Prod.fst).getD [])=sx at *
     generalize (rqL r1).map Prod.snd=st2 at *
     clear hO;go_wp2_with fail;refine KK.out.mono ?_;rintro e w10 ⟨rfl,hc,hv⟩;have Pw10:=zz (Pw9.out.next hc);have Vw10:=zz hv;clear hc hv;obtain⟨z0,z1,z2,z3,z4,z5,zf⟩:=Pw10.out.z;go_wp2;exact zzR (v:=.mk 4 ⟨#[]⟩ 0 0 sx []) zr Pw10.out Vw10.out Rd.sl_nil HO.out rfl rfl
    |none=>
     rw[h9] at K0 hO;have K0:=zz K0;clear h9;go_wp2_with fail;refine K0.out.mono ?_;rintro e w4 ⟨rfl,hc,hv⟩;have Pw4:=zz (Pw3.out.next hc);have Vw4:=zz hv;clear hc hv;have K0:=KA.out ⟨#[91]⟩ w4 st zd Vw4.out;rw[show bl ⟨#[91]⟩=[91] from rfl] at K0;cases h9:hasL [91] st with
     |some r1=>
      rw[h9] at K0 hO;have K0:=zz K0;have HX:=zz h9;clear h9;go_wp2_with fail;refine K0.out.mono ?_;rintro e w9 ⟨rfl,hc,hv⟩;have Pw9:=zz (Pw4.out.next hc);have Vw9:=zz hv;clear hc hv;have hfl:3*stL (some r1)+4<=f:=by have:=HF.out;have:=zBe HX.out;show 3*r1.length+4<=f;omega
      have KK:=zz (KL.out b w9 (some r1) 93 hfl Vw9.out);obtain⟨x,hx⟩:=zn (zzv (λe s=>zzs f e s) 93 (some r1));rw[hx] at KK;have HO:Hid ((.mk 5 ⟨#[]⟩ 0 0 ⟨#[]⟩ x.1,x.2)=O):=zz (by rw[<-hx];exact hO);clear hO hx hfl;go_wp2_with fail;refine KK.out.mono ?_;rintro e w10 ⟨hc,hv,A,c,rfl,hrd⟩;have P10:=zz (Pw9.out.next hc);have V10:=zz hv;have R10:=zz (wk hrd Pw9.out);clear hc hv hrd;obtain⟨z0,z1,z2,z3,z4,z5,zf⟩:=P10.out.z;go_wp2;exact zzR (v:=.mk 5 ⟨#[]⟩ 0 0 ⟨#[]⟩ x.1) zr P10.out V10.out R10.out HO.out rfl rfl
     |none=>
      rw[h9] at K0 hO;have K0:=zz K0;clear h9;go_wp2_with fail;refine K0.out.mono ?_;rintro e w5 ⟨rfl,hc,hv⟩;have Pw5:=zz (Pw4.out.next hc);have Vw5:=zz hv;clear hc hv;have KK:=zz (KW.out ⟨#[45]⟩ true w5 st zd Vw5.out);rw[show bl ⟨#[45]⟩=[45] from rfl] at KK;have hwl:=zDR (whB true [45]) st;obtain⟨y,hy⟩:=zn (whL (whB true [45]) st);rw[hy] at KK hwl hO;obtain⟨sl,st2⟩:=y;have hsl:(lb sl).size<=2097152:=by have:=(show Sc S w5 b st from Vw5.out).len;rw[zEn];simp only at hwl;omega
      have hO:zAf (λe s=>zzs f e s) sl st2=O:=hO;have HY:Hid (3*stL st2+4<=f+2):=zz (by have:=HF.out;simp only at hwl;omega);unfold zAf at hO;clear hy hwl;have HSL:=zz hsl;go_wp2_with fail;refine KK.out.mono ?_;rintro e w6 ⟨rfl,hc,hv⟩;have Pw6:=zz (Pw5.out.next hc);have Vw6:=zz hv;clear hc hv;have KPI:=zz (λW=>KR.out (lb sl) (-9007199254740992) 9007199254740992 W HSL.out);unfold zBO at hO;generalize hnm:lb sl=nm at *
      clear hsl;have K0:=KA.out ⟨#[123]⟩ w6 st2 zd Vw6.out;rw[show bl ⟨#[123]⟩=[123] from rfl] at K0;cases h9:hasL [123] st2 with
      |some r1=>
       rw[h9] at K0 hO;have K0:=zz K0;have HX:=zz h9;clear h9;go_wp2_with fail;refine K0.out.mono ?_;rintro e w9 ⟨rfl,hc,hv⟩;have Pw9:=zz (Pw6.out.next hc);have Vw9:=zz hv;clear hc hv;have hfl:3*stL (some r1)+4<=f:=by have:=HY.out;have:=zBe HX.out;show 3*r1.length+4<=f;omega
       have KK:=zz (KL.out b w9 (some r1) 125 hfl Vw9.out);obtain⟨x,hx⟩:=zn (zzv (λe s=>zzs f e s) 125 (some r1));rw[hx] at KK;have HO:Hid ((.mk 6 nm 0 0 ⟨#[]⟩ x.1,x.2)=O):=zz (by rw[<-hx];exact hO);clear hO hx hfl;go_wp2_with fail;refine KK.out.mono ?_;rintro e w10 ⟨hc,hv,A,c,rfl,hrd⟩;have P10:=zz (Pw9.out.next hc);have V10:=zz hv;have R10:=zz (wk hrd Pw9.out);clear hc hv hrd;obtain⟨z0,z1,z2,z3,z4,z5,zf⟩:=P10.out.z;go_wp2;exact zzR (v:=.mk 6 nm 0 0 ⟨#[]⟩ x.1) zr P10.out V10.out R10.out HO.out rfl rfl
      |none=>
       rw[h9] at K0 hO;have K0:=zz K0;clear h9;go_wp2_with fail;refine K0.out.mono ?_;rintro e w7 ⟨rfl,hc,hv⟩;have Pw7:=zz (Pw6.out.next hc);have Vw7:=zz hv;clear hc hv;have K0:=KA.out ⟨#[35]⟩ w7 st2 zd Vw7.out;rw[show bl ⟨#[35]⟩=[35] from rfl] at K0;cases h9:hasL [35] st2 with
       |some r1=>
        rw[h9] at K0 hO;have K0:=zz K0;have HX:=zz h9;clear h9;go_wp2_with fail;refine K0.out.mono ?_;rintro e w9 ⟨rfl,hc,hv⟩;have Pw9:=zz (Pw7.out.next hc);have Vw9:=zz hv;clear hc hv;have KK:=zz (KW.out ⟨#[]⟩ false w9 (some r1) zd Vw9.out);rw[show bl ⟨#[]⟩=[] from rfl] at KK;have hwl:_=r1.length:=zDR (whB false []) (some r1);have hrs:=zBe HX.out;have hvl:r1.length<=2097152:=(show Sc S w9 b (some r1) from Vw9.out).len;obtain⟨y,hy⟩:=zn (whL (whB false []) (some r1));rw[hy] at KK hwl hO;obtain⟨dl,st3⟩:=y;have hdl:(lb dl).size<=2097152:=by rw[zEn];simp only at hwl;omega
        have HY2:Hid (3*stL st3+4<=f+1):=zz (by have:=HY.out;simp only at hwl;omega);have hO:((.mk 7 nm (zbD (lb dl) 0 4096).1 0 ⟨#[]⟩ (zzv (λe s=>zzs f e s) 41 (if (zbD (lb dl) 0 4096).2=true then hasL [40] st3 else none)).1,(zzv (λe s=>zzs f e s) 41 (if (zbD (lb dl) 0 4096).2=true then hasL [40] st3 else none)).2):V × Option (List UInt8))=O:=hO;have KP:=zz (λW=>KR.out (lb dl) 0 4096 W hdl);generalize lb dl=dx at *
        obtain⟨pr,hpr⟩:=zn (zbD dx 0 4096);rw[hpr] at KP hO;obtain⟨pn,pk⟩:=pr;clear hy hwl hrs hvl hpr hdl;go_wp2_with fail;refine KK.out.mono ?_;rintro e w10 ⟨rfl,hc,hv⟩;have Pw10:=zz (Pw9.out.next hc);have Vw10:=zz hv;clear hc hv;go_wp2_with fail;refine(KP.out w10).mono ?_;rintro e w11 hpp;obtain⟨rfl,hb9⟩:=hpp;have Pw11:=zz (Pw10.out.next (Chg.of_below hb9));have Vw11:=zz (Vw10.out.chg (M:=λ_=>False) (Chg.of_below hb9) (λh=>h));clear hb9;cases pk with
        |true=>
         rw[if_pos rfl] at hO;have K1:=KA.out ⟨#[40]⟩ w11 st3 zd Vw11.out;rw[show bl ⟨#[40]⟩=[40] from rfl] at K1;cases h9:hasL [40] st3 with
         |some r2=>
          rw[h9] at K1 hO;have K1:=zz K1;have hfl:3*stL (some r2)+4<=f:=by have:=HY2.out;have:=zBe h9;show 3*r2.length+4<=f;omega
          have HFL:=zz hfl;clear h9 hfl;go_wp2_with fail;refine K1.out.mono ?_;rintro e w12 ⟨rfl,hc,hv⟩;have Pw12:=zz (Pw11.out.next hc);have Vw12:=zz hv;clear hc hv;have KK:=zz (KL.out b w12 (some r2:Option (List UInt8)) 41 HFL.out Vw12.out);obtain⟨x,hx⟩:=zn (zzv (λe s=>zzs f e s) 41 (some r2:Option (List UInt8)));rw[hx] at KK hO;have HO:Hid ((.mk 7 nm pn 0 ⟨#[]⟩ x.1,x.2)=O):=zz hO;clear hO hx;go_wp2_with fail;refine KK.out.mono ?_;rintro e w14 ⟨hc,hv,A,c,rfl,hrd⟩;have P14:=zz (Pw12.out.next hc);have V14:=zz hv;have R14:=zz (wk hrd Pw12.out);clear hc hv hrd;obtain⟨z0,z1,z2,z3,z4,z5,zf⟩:=P14.out.z;go_wp2;exact zzR (v:=.mk 7 nm pn 0 ⟨#[]⟩ x.1) zr P14.out V14.out R14.out HO.out rfl rfl
         |none=>
          rw[h9] at K1 hO;have K1:=zz K1;have hfl:3*stL none+4<=f:=by have:=HY2.out;show 3*0+4<=f;have:=HY.out;have:=HX.out;have:=zBe this;omega
          have HFL:=zz hfl;clear h9 hfl;go_wp2_with fail;refine K1.out.mono ?_;rintro e w12 ⟨rfl,hc,hv⟩;have Pw12:=zz (Pw11.out.next hc);have Vw12:=zz hv;clear hc hv;obtain⟨i9,hc9⟩:=Vw12.out.cells;have e1:=hc9.a 1 rfl;have e2:=hc9.fz 1;have V13:=zz Vw12.out.err;have P13:=zz (Pw12.out.next ((Chg.refl (λj=>j=b) w12).setCell (p:=⟨b,1,none⟩) (.inl rfl) (.int .i64 (-1))));obtain⟨w13,hw13⟩:∃W,w12.setCell ⟨b,1,none⟩ (.int .i64 (-1))=W:=⟨_,rfl⟩;rw[hw13] at V13 P13;clear hc9;have KK:=zz (KL.out b w13 (none:Option (List UInt8)) 41 HFL.out V13.out);obtain⟨x,hx⟩:=zn (zzv (λe s=>zzs f e s) 41 (none:Option (List UInt8)));rw[hx] at KK hO;have HO:Hid ((.mk 7 nm pn 0 ⟨#[]⟩ x.1,x.2)=O):=zz hO;clear hO hx;go_wp2_with fail;refine KK.out.mono ?_;rintro e w14 ⟨hc,hv,A,c,rfl,hrd⟩;have P14:=zz (P13.out.next hc);have V14:=zz hv;have R14:=zz (wk hrd P13.out);clear hc hv hrd;obtain⟨z0,z1,z2,z3,z4,z5,zf⟩:=P14.out.z;go_wp2;exact zzR (v:=.mk 7 nm pn 0 ⟨#[]⟩ x.1) zr P14.out V14.out R14.out HO.out rfl rfl
        |false=>
         rw[if_neg zs] at hO;have HFL:Hid (3*stL none+4<=f):=zz (by have:=HY2.out;show 3*0+4<=f;have:=HY.out;have:=HX.out;have:=zBe this;omega);obtain⟨i9,hc9⟩:=Vw11.out.cells;have e1:=hc9.a 1 rfl;have e2:=hc9.fz 1;have V13:=zz Vw11.out.err;have P13:=zz (Pw11.out.next ((Chg.refl (λj=>j=b) w11).setCell (p:=⟨b,1,none⟩) (.inl rfl) (.int .i64 (-1))));obtain⟨w13,hw13⟩:∃W,w11.setCell ⟨b,1,none⟩ (.int .i64 (-1))=W:=⟨_,rfl⟩;rw[hw13] at V13 P13;clear hc9;have KK:=zz (KL.out b w13 (none:Option (List UInt8)) 41 HFL.out V13.out);obtain⟨x,hx⟩:=zn (zzv (λe s=>zzs f e s) 41 (none:Option (List UInt8)));rw[hx] at KK hO;have HO:Hid ((.mk 7 nm pn 0 ⟨#[]⟩ x.1,x.2)=O):=zz hO;clear hO hx;go_wp2_with fail;refine KK.out.mono ?_;rintro e w14 ⟨hc,hv,A,c,rfl,hrd⟩;have P14:=zz (P13.out.next hc);have V14:=zz hv;have R14:=zz (wk hrd P13.out);clear hc hv hrd;obtain⟨z0,z1,z2,z3,z4,z5,zf⟩:=P14.out.z;go_wp2;exact zzR (v:=.mk 7 nm pn 0 ⟨#[]⟩ x.1) zr P14.out V14.out R14.out HO.out rfl rfl
       |none=>
        rw[h9] at K0 hO;have K0:=zz K0;clear h9;go_wp2_with fail;refine K0.out.mono ?_;rintro e w8 ⟨rfl,hc,hv⟩;have Pw8:=zz (Pw7.out.next hc);have Vw8:=zz hv;clear hc hv;have K0:=KA.out ⟨#[64]⟩ w8 st2 zd Vw8.out;rw[show bl ⟨#[64]⟩=[64] from rfl] at K0;cases h9:hasL [64] st2 with
        |some r1=>
         rw[h9] at K0 hO;have K0:=zz K0;have HX:=zz h9;clear h9;go_wp2_with fail;refine K0.out.mono ?_;rintro e w9 ⟨rfl,hc,hv⟩;have Pw9:=zz (Pw8.out.next hc);have Vw9:=zz hv;clear hc hv;have KK:=zz (KW.out ⟨#[46]⟩ false w9 (some r1) zd Vw9.out);rw[show bl ⟨#[46]⟩=[46] from rfl] at KK;have HO:Hid ((.mk 8 nm 0 0 (lb (whL (whB false [46]) (some r1)).1) [],(whL (whB false [46]) (some r1)).2)=O):=zz hO;generalize lb (whL (whB false [46]) (some r1)).1=sx at *
         generalize (whL (whB false [46]) (some r1)).2=st3 at *
         clear hO;go_wp2_with fail;refine KK.out.mono ?_;rintro e w10 ⟨rfl,hc,hv⟩;have Pw10:=zz (Pw9.out.next hc);have Vw10:=zz hv;clear hc hv;obtain⟨z0,z1,z2,z3,z4,z5,zf⟩:=Pw10.out.z;go_wp2;exact zzR (v:=.mk 8 nm 0 0 sx []) zr Pw10.out Vw10.out Rd.sl_nil HO.out rfl rfl
        |none=>
         rw[h9] at K0 hO;have K0:=zz K0;clear h9;go_wp2_with fail;refine K0.out.mono ?_;rintro e w16 ⟨rfl,hc,hv⟩;have Pw16:=zz (Pw8.out.next hc);have Vw16:=zz hv;clear hc hv;obtain⟨pr,hpr⟩:=zn (zbD nm (-9007199254740992) 9007199254740992);rw[hpr] at KPI hO;obtain⟨pn,pk⟩:=pr;clear hpr;go_wp2_with fail;refine(KPI.out w16).mono ?_;rintro e w17 hpp;obtain⟨rfl,hb9⟩:=hpp;have Pw17:=zz (Pw16.out.next (Chg.of_below hb9));have Vw17:=zz (Vw16.out.chg (M:=λ_=>False) (Chg.of_below hb9) (λh=>h));clear hb9;cases pk with
         |true=>
          have HO:Hid ((.mk 3 ⟨#[]⟩ pn 0 ⟨#[]⟩ [],st2)=O):=zz (by rw[<-hO];rfl);clear hO;obtain⟨z0,z1,z2,z3,z4,z5,zf⟩:=Pw17.out.z;go_wp2;exact zzR (v:=.mk 3 ⟨#[]⟩ pn 0 ⟨#[]⟩ []) zr Pw17.out Vw17.out Rd.sl_nil HO.out rfl rfl
         |false=>
          have HO:Hid ((.mk 3 ⟨#[]⟩ pn 0 ⟨#[]⟩ [],none)=O):=zz (by rw[<-hO];rfl);obtain⟨i9,hc9⟩:=Vw17.out.cells;have e1:=hc9.a 1 rfl;have e2:=hc9.fz 1;have V18:=zz Vw17.out.err;have P18:=zz (Pw17.out.next ((Chg.refl (λj=>j=b) w17).setCell (p:=⟨b,1,none⟩) (.inl rfl) (.int .i64 (-1))));obtain⟨w18,hw18⟩:∃W,w17.setCell ⟨b,1,none⟩ (.int .i64 (-1))=W:=⟨_,rfl⟩;rw[hw18] at V18 P18;clear hc9 hO;obtain⟨z0,z1,z2,z3,z4,z5,zf⟩:=P18.out.z;go_wp2;exact zzR (v:=.mk 3 ⟨#[]⟩ pn 0 ⟨#[]⟩ []) zr P18.out V18.out Rd.sl_nil HO.out rfl rfl
def finL (acc:List V) (x:List V × Option (List UInt8)):List V × Option (List UInt8):=match x.2 with
 |some r=>(acc++x.1,some r)
 |none=>([],none)
theorem zDC (S:ByteArray) (f:Nat) (IH:∀g,g<f->RVAt S g):RLAt S f:=by
 intro b w st en hf h;obtain⟨O,hO⟩:=zn (zzv (λe s=>zzs f e s) en st);rw[hO];unfold zzv at hO;have KA:=zz (λp W st (hp:p.size<=100) h=>zBP S p b W st hp h);have HI:=zz IH;have hb:=h.lt;have hsl:=h.len;have K1:=KA.out ⟨#[en]⟩ w st (by simp[ByteArray.size]) h;rw[show bl ⟨#[en]⟩=[en] from rfl] at K1;cases h1:hasL [en] st with
 |some r1=>
  rw[h1] at K1 hO;have K1:=zz K1;have HO:Hid (([],some r1)=O):=zz hO;clear h1 h IH hO;go_in;go_wp2_with fail;refine K1.out.mono ?_;rintro e w1 ⟨rfl,hc,hv⟩;have HC:=zz hc;have HV:=zz hv;clear hc hv;go_wp2;go_ret;exact⟨HC.out,by rw[<-HO.out];exact HV.out,none,0,by rw[<-HO.out];rfl,by rw[<-HO.out];exact Rd.sl_nil⟩
 |none=>
  rw[h1] at K1 hO;have K1:=zz K1
  have HO:Hid (finL [] (zzs f en st)=O):=zz (by
   rw[<-hO]
   show finL [] (zzs f en st)=zzs f en st
   unfold finL;obtain⟨x,hx⟩:=zn (zzs f en st);rw[hx];cases hs:x.2 with
   |some r=>show ([]++x.1,some r)=x;rw[<-hs];rfl
   |none=>rw[<-hx,zCA f en st (by rw[hx];exact hs)])
  have HV0:=zz h;clear h1 h IH hO;go_in;go_wp2_with fail;refine K1.out.mono ?_;rintro e w1 ⟨rfl,hc,hv⟩;have HC:=zz hc;have HV:Hid (Sc S w1 b st):=zz hv;clear hc hv HV0;go_wp2
  go_loopw [5] (λs5 wr=>∃(g:Nat) (st:Option (List UInt8)) (acc:List V),g<=f/\(st=none\/3*stL st+4<=g/\acc.length+stL st<=2097152)/\Hid (finL acc (zzs g en st)=O)/\Hid (Sc S wr b st)/\Hid (Chg (λj=>j=b) w wr)/\Hid (zaz w.heap.size 24 6 acc.length (zgZ acc) wr s5)) (λ_ wr=>scMs S wr b)
  case atStart=>exact⟨f,st,[],Nat.le_refl _,.inr ⟨hf,by simpa using hsl⟩,HO,HV,HC,zz (zaz.nil _ _ _ _ _)⟩
  case round=>
   clear HO HV HC;obtain⟨g,st,acc,hg,hpa,HO,HV,HC,HW⟩:=hrel;cases st with
   |none=>
    have c1:=HV.out.1.a 1 rfl;have HN:Hid (O=([],none)):=zz (by rw[<-HO.out,zzO];rfl);go_wp2;go_ret;exact⟨HC.out,by rw[HN.out];exact HV.out,none,0,by rw[HN.out];rfl,by rw[HN.out];exact Rd.sl_nil⟩
   |some r0=>
    obtain⟨hp0,hap⟩:3*r0.length+4<=g/\acc.length+r0.length<=2097152:=by
     rcases hpa with h|h
     ·cases h
     ·exact h
    obtain⟨g,rfl⟩:∃k,g=k+1:=⟨g-1,zo⟩;clear hpa;obtain⟨A9,c9,rfl,_⟩:=HW.out.rd.sl_inv;have HMS:=zz HV.out.ms;have hsw:=HC.out.size;have KV:=zz (HI.out g zo b wr (some r0) (by show 3*r0.length+3<=g;omega) HV.out);obtain⟨i9,hr9,hc9,hi9⟩:=HV.out;have c1:=hc9.a 1 rfl;have hi0:(0:Int)<=i9:=zo
    have hO:=HO.out;rw[zzs] at hO;have hO:finL acc (ritI (zzz g (some r0)) (λe s=>zzs g e s) en)=O:=hO;unfold ritI at hO;obtain⟨z,hz⟩:=zn (zzz g (some r0));have hlt:∀r',z.2=some r'->r'.length<r0.length:=λr' hr'=>(zEc g).1 r0 r' (by rw[hz];exact hr');rw[hz] at hO KV;obtain⟨x,st2⟩:=z;clear HO hr9 hc9 hz;go_wp2_with fail;refine KV.out.mono ?_;rintro e w8 ⟨hc8,hv8,A8,c8,rfl,hx8⟩;have hlt:∀r',st2=some r'->r'.length<r0.length:=hlt;have HC8:=zz (HC.out.next hc8);have W8:=zz (HW.out.chg hc8 (λj hj=>by omega));have HOB:=zz HW.out.below_own;have hsz:=hc8.size;have hB:Below w8.heap.size w8 ((w8.alloc (.cells #[↑x.kind,↑x.t,↑x.n,↑x.m,↑x.s,.slice A8 x.l.length c8] 24)).alloc (.cells #[↑x.kind,↑x.t,↑x.n,↑x.m,↑x.s,.slice A8 x.l.length c8] 24)):=((Below.refl _ _).alloc (Nat.le_refl _) _).alloc zs _;have HB:=zz hB;have HXO:=zz (W8.out.below hB);have HX8:=zz (hx8.below hB (λb hb=>hb.2));have HV8:=zz hv8;have HO8:=zz hO;have HLT:=zz hlt;clear hv8 hx8 hc8 hB hO hlt c1;go_wp2_with (at_builtin;refine zjM rfl _ _ rfl w.heap.size ?cx1 (.slice A9 acc.length c9) acc rfl HXO.out ⟨w8.heap.size+1,0,none⟩ 1 x A8 c8 rfl ?cx2 ?cx3 ?cx4 ?_)
    case cx1=>simp;omega
    case cx2=>
     intro j u hj;rw[Addr.add_lit,Nat.zero_add,show w8.heap.size+1=(w8.alloc (.cells #[↑x.kind,↑x.t,↑x.n,↑x.m,↑x.s,.slice A8 x.l.length c8] 24)).heap.size by simp,zbG];exact List.getElem?_toArray.trans hj
    case cx3=>
     refine HX8.out.weaken (λq hq=>⟨⟨by have:=hq.1;omega,by have:=hq.2;simp;omega⟩,λh=>?_⟩);have:=(HOB.out q h.symm).2;have:=hq.1;omega
    case cx4=>omega
    intro v' w10 hO10 hg10;obtain⟨A10,c10,rfl,_⟩:=hO10.rd.sl_inv;have hch:Chg (λk=>w.heap.size<=k) w8 w10:=(Chg.of_below HB.out).next (Chg.of_grown hg10 (λk hk=>(HOB.out k hk).1));have HC10:Hid (Chg (λj=>j=b) w w10):=zz (HC8.out.trans hch (λj hj=>.inr hj));have HV10:Hid (Sc S w10 b st2):=zz (Sc.chg HV8.out hch zo);have hal2:(acc++[x]).length=acc.length+1:=by simp
    have HW10:=zz hO10;have KE:=KA.out ⟨#[en]⟩ w10 st2 (by simp[ByteArray.size]) HV10.out;rw[show bl ⟨#[en]⟩=[en] from rfl] at KE;clear hO10 hg10 hch;have hO8:finL acc (match hasL [en] st2 with|some r=>([x],some r)|none=>match hasL [44,32] st2 with|some r=>(match (zzs g en (some r)).2 with|some r2=>(x::(zzs g en (some r)).1,some r2)|none=>([],none))|none=>([],none))=O:=HO8.out;clear HO8;cases h1:hasL [en] st2 with
    |some s3=>
     rw[h1] at KE;have KE:=zz KE;have HN:Hid (O=(acc++[x],some s3)):=zz (by rw[<-hO8,h1];rfl);clear h1 hO8;go_wp2_with fail;refine KE.out.mono ?_;rintro e w11 ⟨rfl,hc,hv⟩;have HF:=zz (HC10.out.next hc);have HV11:Hid (Sc S w11 b (some s3)):=zz hv;have HR:=zz (HW10.out.chg hc (λj hj=>by omega)).rd;clear hc hv;go_wp2;go_ret;exact⟨HF.out,by rw[HN.out];exact HV11.out,A10,c10,by rw[HN.out];show _=Ending.returned (.slice A10 (acc++[x]).length c10);rw[hal2];rfl,by rw[HN.out];have hr:=HR.out;rw[<-hal2] at hr;exact hr⟩
    |none=>
     rw[h1] at KE hO8;have KE:=zz KE;clear h1;go_wp2_with fail;refine KE.out.mono ?_;rintro e w11 ⟨rfl,hc,hv⟩;have HC11:=zz (HC10.out.next hc);have HV11:Hid (Sc S w11 b st2):=zz hv;have HW11:=zz (HW10.out.chg hc (λj hj=>by omega));have KC:=KA.out ⟨#[44,32]⟩ w11 st2 zd HV11.out;rw[show bl ⟨#[44,32]⟩=[44,32] from rfl] at KC;clear hc hv KE HC10 HV10 HW10;cases h2:hasL [44,32] st2 with
     |none=>
      rw[h2] at KC hO8;have KC:=zz KC;have HN:Hid (finL (acc++[x]) (zzs g en none)=O):=zz (by rw[<-hO8,zzO];rfl);clear h2 hO8;go_wp2_with fail;refine KC.out.mono ?_;rintro e w12 ⟨rfl,hc,hv⟩;have HC12:=zz (HC11.out.next hc);have HW12:=zz (HW11.out.chg hc (λj hj=>by omega));have HV12:Hid (Sc S w12 b st2):=zz hv;obtain⟨i9,hc9⟩:=HV12.out.cells;have e1:=hc9.a 1 rfl;have e2:=hc9.fz 1;have hcc:Chg (λj=>j=b) w12 (w12.setCell ⟨b,1,none⟩ (.int .i64 (-1))):=(Chg.refl (λj=>j=b) w12).setCell (p:=⟨b,1,none⟩) (.inl rfl) _;have HC13:=zz (HC12.out.next hcc);have HW13:=zz (HW12.out.chg hcc (λj hj=>by omega));have HV13:=zz HV12.out.err;clear hc hv hcc hc9;go_wp2;exact⟨⟨g,none,acc++[x],zo,.inl rfl,HN,HV13,HC13,by rw[hal2];exact HW13⟩,by have h1:=HV13.out.ms0;have h2:=HMS.out;omega⟩
     |some s3=>
      rw[h2] at KC hO8;have KC:=zz KC
      have hl3:s3.length+3<=r0.length:=by
       cases hs:st2 with
       |none=>rw[hs] at h2;cases h2
       |some r'=>
        rw[hs] at h2;have h5:=zzu (show pre [44,32] r'=some s3 from h2);have h6:=HLT.out r' hs;simp at h5;omega
      have HN:Hid (finL (acc++[x]) (zzs g en (some s3))=O):=zz (by
       rw[<-hO8];obtain⟨y,hy⟩:=zn (zzs g en (some s3))
       show finL (acc++[x]) (zzs g en (some s3))=finL acc (match (zzs g en (some s3)).2 with|some r2=>(x::(zzs g en (some s3)).1,some r2)|none=>([],none))
       rw[hy];unfold finL;cases y.2 with
       |none=>rfl
       |some r=>show ((acc++[x])++y.1,some r)=(acc++(x::y.1),some r);simp)
      clear h2 hO8;go_wp2_with fail;refine KC.out.mono ?_;rintro e w12 ⟨rfl,hc,hv⟩;have HC12:=zz (HC11.out.next hc);have HW12:=zz (HW11.out.chg hc (λj hj=>by omega));have HV12:Hid (Sc S w12 b (some s3)):=zz hv;clear hc hv;go_wp2;exact⟨⟨g,some s3,acc++[x],zo,.inr ⟨by show 3*s3.length+4<=g;omega,by show (acc++[x]).length+s3.length<=_;omega⟩,HN,HV12,HC12,by rw[hal2];exact HW12⟩,by have h1:=HV12.out.ms;have h2:=HMS.out;omega⟩
theorem rall (S:ByteArray):∀f:Nat,(∀g,g<f->RVAt S g)/\RLAt S f
 |0=>⟨λg hg=>absurd hg (Nat.not_lt_zero g),λb w st en hf=>absurd hf zo⟩
 |f+1=>by
  obtain⟨h1,h2⟩:=rall S f
  have h3:∀g,g<f+1->RVAt S g:=λg hg=>by
   rcases Nat.lt_or_eq_of_le (Nat.lt_succ_iff.1 hg) with h|h
   ·exact h1 g h
   ·subst h;cases g with
    |zero=>intro b w st hf;exact absurd hf zo
    |succ g=>exact zBU S g (rall S g).2
  exact⟨h3,zDC S (f+1) h3⟩
theorem zCo (S:ByteArray) (f:Nat):RVAt S f:=(rall S (f+1)).1 f (Nat.lt_succ_self f)
end Go.Proofs.YtcebmphappfjjaaGreatDoor
