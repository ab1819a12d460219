/- Conditions: those in each statement. -/
import Derived.Test.YtcebmphappfjjaaGreatDoorV27
import Derived.Test.YtcebmphappfjjaaGreatDoorV19
import Derived.Lib.QuietBelow
import Derived.BigQuiet
import Derived.Deep.RegionHeld3
set_option maxHeartbeats 32000000
set_option maxRecDepth 100000
namespace Go.Proofs.YtcebmphappfjjaaGreatDoor
open Go.RowKit
theorem zyF {ok:Nat->Prop} {w:World} {l:List Dcl} {A:Option Addr} {n c i:Nat} {d:Dcl} (h:Rd ok w (slG 3 zgj l) (.slice A n c)) (hi:l[i]?=some d) :
 ∃b off A' c',A=some ⟨b,off,none⟩/\ok b/\i<n/\w.cell? ⟨b,off+i*3,none⟩=some ↑d.name/\w.cell? ⟨b,off+i*3+1,none⟩=some ↑d.record/\w.cell? ⟨b,off+i*3+2,none⟩=some (.slice A' d.ctors.length c')/\Rd ok w (slG 2 zha d.ctors) (.slice A' d.ctors.length c'):=by
 have hl:=(ztO h).1;have hin:i<n:=by have:=(List.getElem?_eq_some_iff.1 hi).1;omega
 obtain⟨b,off,f,e,hb,hg,hr⟩:=zqT h hin;obtain rfl:d=f:=Option.some.inj (hi.symm.trans hg);obtain⟨u0,c0,r0⟩:=hr 0 zo;obtain⟨u1,c1,r1⟩:=hr 1 zo;obtain⟨u2,c2,r2⟩:=hr 2 zo;obtain rfl:u0=↑d.name:=r0;obtain rfl:u1=↑d.record:=r1;have r2:Rd ok w (slG 2 zha d.ctors) u2:=r2;obtain⟨A',c',rfl,_⟩:=r2.sl_inv;exact⟨b,off,A',c',e,hb,hin,c0,c1,c2,r2⟩
theorem zyd {ok:Nat->Prop} {w:World} {l:List Ctr} {A:Option Addr} {n c i:Nat} {d:Ctr} (h:Rd ok w (slG 2 zha l) (.slice A n c)) (hi:l[i]?=some d) :
 ∃b off A' c',A=some ⟨b,off,none⟩/\ok b/\i<n/\w.cell? ⟨b,off+i*2+1,none⟩=some (.slice A' d.fields.length c')/\Rd ok w (fls d.fields) (.slice A' d.fields.length c'):=by
 have hl:=(ztO h).1;have hin:i<n:=by have:=(List.getElem?_eq_some_iff.1 hi).1;omega
 obtain⟨b,off,f,e,hb,hg,hr⟩:=zqT h hin;obtain rfl:d=f:=Option.some.inj (hi.symm.trans hg);obtain⟨u1,c1,r1⟩:=hr 1 zo;have r1:Rd ok w (fls d.fields) u1:=r1;obtain⟨A',c',rfl,_⟩:=r1.sl_inv;exact⟨b,off,A',c',e,hb,hin,c1,r1⟩
def fitD (pp:Prg) (k:Int) (t:ByteArray) (n:Int) (l:List V):Bool:=match zyr pp k t n with
 |none=>false
 |some ts=>decide (l.length=ts.length)&&zuP pp l ts
theorem zwu (pp:Prg) (p:PgV) (fb m B:Nat) (k:Int) (t:ByteArray) (n m':Int) (s:ByteArray) (l:List V) (IH:∀v∈l,zwm pp p fb m B v) (hR:AllR pp) (hn:0<=n) (A:Option Addr) (c:Nat) (w:World) (h:FtC pp p fb m B w) (hr:Rd (Lt B) w (vs l) (.slice A l.length c)) :
 Calls Tryz.prog 189 #[.pointer (some ⟨fb,0,none⟩),.agg #[↑k,↑t,↑n,↑m',↑s,.slice A l.length c]] w (zwq m (fitD pp k t n l) w):=by
 obtain⟨w1,h1,b1,c1⟩:=zaj w #[↑k,↑t,↑n,↑m',↑s,.slice A l.length c] 24;have HF1:=zz (h.below b1);have HX1:=zz c1;have HB1:=zz b1;have HL:=zz h;have HR:=zz hr;have HI:=zz IH;have HA:=zz hR;have hl:=zno hr;have hn1:l.length<=9223372036854775807:=Nat.le_trans hl.2.1 hl.2.2;obtain⟨R,hRR⟩:=zn (fitD pp k t n l);have HRR:=zz hRR;rw[hRR];have g0:∀x:NW pp p fb m B w1,x.w.cell? ⟨fb,0,none⟩=some (.slice p.At p.nT p.ct):=λx=>x.f.cells.cell 0;have g1:∀x:NW pp p fb m B w1,x.w.cell? ⟨fb,1,none⟩=some (.slice p.Ae p.nE p.ce):=λx=>x.f.cells.cell 1;have g2:∀x:NW pp p fb m B w1,x.w.cell? ⟨fb,2,none⟩=some (.slice p.Af p.nF p.cf):=λx=>x.f.cells.cell 2;have g3:∀x:NW pp p fb m B w1,x.w.cell? ⟨fb,3,none⟩=some (.slice p.Aa p.nA p.ca):=λx=>x.f.cells.cell 3;have z1:∀x:NW pp p fb m B w1,x.w.cell? ⟨w.heap.size,1,none⟩=some ↑t:=λx=>(x.c.cell (p:=⟨w.heap.size,1,none⟩) HX1.out.lt).trans (HX1.out.cell 1);have hne:Nonempty (NW pp p fb m B w1):=⟨⟨w1,HF1.out,Below.refl _ _⟩⟩;have KF:=λx:NW pp p fb m B w1=>zpW p (pp.types.map Dcl.name) t x.w x.f.tn;unfold fitD zyr at hRR;obtain⟨o,ho⟩:=zn (zft (pp.types.map Dcl.name) t);rw[ho] at KF;replace ho:zqM pp t=o:=ho;rw[ho] at hRR;clear b1 c1 h hr hl IH hR;cases o with
 |none=>
  have KQ:=zz (λx:NW pp p fb m B w1=>x.calls (r:=.tuple #[↑(),.bool false]) ((KF x).mono λ_ _ h=>⟨h.2,h.1⟩));obtain rfl:false=R:=hRR;clear KF ho;go_in;go_wp2_with fail;refine zuN (C:=λw'=>∃x:NW pp p fb m B w1,w'=x.w) zk zk ⟨⟨_,HF1.out.drew,⟨rfl,rfl,rfl,Nat.le_refl _,λ_ _=>rfl⟩⟩,rfl⟩ ?_
  repeat (go_big_quiet_step (first|with_reducible exact KQ.out _))
  refine wpQuiet_nil ?_;intro _ hw';obtain⟨x,hw''⟩:=hw';subst hw'';clear z1 g0 g1 g2 g3 KQ hne;have HC4:=zz (zac HB1.out x.c HB1.out.size);have HF4:=zz x.f;generalize x.w=w4 at *
  go_wp2;go_ret;exact⟨rfl,Chg.of_below HC4.out,HF4.out.map⟩
 |some i=>
  have KQ:=zz (λx:NW pp p fb m B w1=>x.calls (r:=.tuple #[.int .i64 (i:Int),.bool true]) ((KF x).mono λ_ _ h=>⟨h.2,h.1⟩));have HO:=zz ho;clear KF ho;obtain⟨nn,rfl⟩:∃nn:Nat,n=(nn:Int):=⟨n.toNat,zo⟩
  have hi:i<pp.types.length:=by
   have h2:List.findIdx? (λx=>decide (x=t)) (pp.types.map Dcl.name)=some i:=HO.out;have h3:=(List.findIdx?_eq_some_iff_getElem.1 h2).1
   simpa using h3
  obtain⟨d,hd⟩:∃d,pp.types[i]?=some d:=⟨_,List.getElem?_eq_getElem hi⟩;simp only[hd,Int.toNat_natCast] at hRR;obtain⟨O,hO⟩:=zn ((if k=(if d.record then 6 else 7) then (d.ctors[nn]?).map (λc=>c.fields.map Fld.ty) else none:Option (List Ty)));rw[hO] at hRR;clear hn;go_in;go_wp2_with fail;refine zuN (C:=λw'=>∃x:NW pp p fb m B w1,w'=x.w) zk zk ⟨⟨_,HF1.out.drew,⟨rfl,rfl,rfl,Nat.le_refl _,λ_ _=>rfl⟩⟩,rfl⟩ ?_
  repeat (go_big_quiet_step (first|with_reducible exact KQ.out _))
  refine wpQuiet_nil ?_;intro _ hw';obtain⟨x,hw''⟩:=hw';subst hw'';clear z1 g0 g1 g2 g3 KQ hne;have HC4:=zz (zac HB1.out x.c HB1.out.size);have HF4:=zz x.f;have HX4:=zz (zaa x.c HX1.out);generalize x.w=w4 at *
  obtain⟨b2,off2,A2,c2,e,hlb2,hin,q0,q1,q2,r2⟩:=zyF HF4.out.types hd;have f0:=HF4.out.cells.a 0 rfl;rw[e] at f0;have hini:(i:Int)<(p.nT:Int):=zo
  obtain⟨w5,hw5,hbx,hcx⟩:=zaj w4 #[↑d.name,↑d.record,.slice A2 d.ctors.length c2] 63;have y1:=hcx.a 1 rfl;have y2:=hcx.a 2 rfl;have hx5:=zaa hbx HX4.out;have v0:=hx5.a 0 rfl;have v2:=hx5.a 2 rfl;have v5:=hx5.a 5 rfl;have HF5:=zz (HF4.out.below hbx);have HC5:=zz (zac HC4.out hbx HC4.out.size);have HR5:=zz (HL.out.rd (Chg.of_below HC5.out) HR.out);have r2:=Rd.below (ok:=Lt B) hbx (λ_ hh=>HF4.out.lt _ hh) r2;have hl2:=ztO r2;have hn2:d.ctors.length<=9223372036854775807:=Nat.le_trans hl2.2.1 hl2.2.2;clear hbx hcx hx5 hlb2 hl2;cases hrec:d.record with
  |true=>
   rw[hrec] at q1 y1 hw5;have hkk:(if k=6 then (d.ctors[nn]?).map (λc=>c.fields.map Fld.ty) else none:Option (List Ty))=O:=by rw[<-hO,hrec];rfl
   by_cases hk:k=6
   ·subst hk;rw[if_pos rfl] at hkk
    by_cases hN:nn<d.ctors.length
    ·obtain⟨e,he⟩:∃e,d.ctors[nn]?=some e:=⟨_,List.getElem?_eq_getElem hN⟩;obtain⟨b3,off3,A3,c3,e3,hlb3,hin3,p1,r3⟩:=zyd r2 he;subst e3;rw[he] at hkk;obtain rfl:some (e.fields.map Fld.ty)=O:=hkk;have hl3:=ztO r3;have hn3:e.fields.length<=9223372036854775807:=Nat.le_trans hl3.2.1 hl3.2.2;have p1:w5.cell? ⟨b3,off3+nn*2+1,none⟩=some (.slice A3 e.fields.length c3):=p1;have hNi:(nn:Int)<(d.ctors.length:Int):=zo
     have hN0:(0:Int)<=(nn:Int):=zo
     have hfl:=HA.out.1 d (List.mem_of_getElem? hd) e (List.mem_of_getElem? he);have KD:=zz (zvB pp p fb m B l HI.out (false,(i:Int),(nn:Int)) e.fields hfl A A3 c c3 w5 HF5.out HR5.out r3);clear hd he r2 r3 hl3 hlb3 hfl hO hin3
     by_cases hll:l.length=e.fields.length
     ·have HE:Hid (zuP pp l (e.fields.map Fld.ty)=R):=zz (by rw[<-hRR];simp[hll]);have hle:((l.length:Int) == (e.fields.length:Int))=true:=by rw[beq_iff_eq];omega
      unfold plK at KD;rw[HE.out] at KD;clear hRR hll;go_wp2_with fail;refine KD.out.mono ?_;rintro e6 w6 ⟨rfl,hc6,hm6⟩;have HC6:=zz ((Chg.of_below HC5.out).next hc6);have HM6:=zz hm6;clear hc6 hm6;go_wp2;go_ret;exact⟨rfl,HC6.out,HM6.out⟩
     ·have hle:((l.length:Int) == (e.fields.length:Int))=false:=by rw[beq_eq_false_iff_ne];omega
      have HE:Hid (R=false):=zz (by rw[<-hRR];simp[hll]);clear hRR hll KD;go_wp2;go_ret;exact⟨by rw[HE.out];rfl,Chg.of_below HC5.out,HF5.out.map⟩
    ·have hNi:(d.ctors.length:Int)<=(nn:Int):=zo
     rw[List.getElem?_eq_none zo] at hkk;obtain rfl:none=O:=hkk;obtain rfl:false=R:=hRR;clear hd r2 hO;go_wp2;go_ret;exact⟨rfl,Chg.of_below HC5.out,HF5.out.map⟩
   ·rw[if_neg hk] at hkk;obtain rfl:none=O:=hkk;obtain rfl:false=R:=hRR;clear hd r2 hO;go_wp2;go_ret;exact⟨rfl,Chg.of_below HC5.out,HF5.out.map⟩
  |false=>
   rw[hrec] at q1 y1 hw5;have hkk:(if k=7 then (d.ctors[nn]?).map (λc=>c.fields.map Fld.ty) else none:Option (List Ty))=O:=by rw[<-hO,hrec];rfl
   by_cases hk:k=7
   ·subst hk;rw[if_pos rfl] at hkk
    by_cases hN:nn<d.ctors.length
    ·obtain⟨e,he⟩:∃e,d.ctors[nn]?=some e:=⟨_,List.getElem?_eq_getElem hN⟩;obtain⟨b3,off3,A3,c3,e3,hlb3,hin3,p1,r3⟩:=zyd r2 he;subst e3;rw[he] at hkk;obtain rfl:some (e.fields.map Fld.ty)=O:=hkk;have hl3:=ztO r3;have hn3:e.fields.length<=9223372036854775807:=Nat.le_trans hl3.2.1 hl3.2.2;have p1:w5.cell? ⟨b3,off3+nn*2+1,none⟩=some (.slice A3 e.fields.length c3):=p1;have hNi:(nn:Int)<(d.ctors.length:Int):=zo
     have hN0:(0:Int)<=(nn:Int):=zo
     have hfl:=HA.out.1 d (List.mem_of_getElem? hd) e (List.mem_of_getElem? he);have KD:=zz (zvB pp p fb m B l HI.out (false,(i:Int),(nn:Int)) e.fields hfl A A3 c c3 w5 HF5.out HR5.out r3);clear hd he r2 r3 hl3 hlb3 hfl hO hin3
     by_cases hll:l.length=e.fields.length
     ·have HE:Hid (zuP pp l (e.fields.map Fld.ty)=R):=zz (by rw[<-hRR];simp[hll]);have hle:((l.length:Int) == (e.fields.length:Int))=true:=by rw[beq_iff_eq];omega
      unfold plK at KD;rw[HE.out] at KD;clear hRR hll;go_wp2_with fail;refine KD.out.mono ?_;rintro e6 w6 ⟨rfl,hc6,hm6⟩;have HC6:=zz ((Chg.of_below HC5.out).next hc6);have HM6:=zz hm6;clear hc6 hm6;go_wp2;go_ret;exact⟨rfl,HC6.out,HM6.out⟩
     ·have hle:((l.length:Int) == (e.fields.length:Int))=false:=by rw[beq_eq_false_iff_ne];omega
      have HE:Hid (R=false):=zz (by rw[<-hRR];simp[hll]);clear hRR hll KD;go_wp2;go_ret;exact⟨by rw[HE.out];rfl,Chg.of_below HC5.out,HF5.out.map⟩
    ·have hNi:(d.ctors.length:Int)<=(nn:Int):=zo
     rw[List.getElem?_eq_none zo] at hkk;obtain rfl:none=O:=hkk;obtain rfl:false=R:=hRR;clear hd r2 hO;go_wp2;go_ret;exact⟨rfl,Chg.of_below HC5.out,HF5.out.map⟩
   ·rw[if_neg hk] at hkk;obtain rfl:none=O:=hkk;obtain rfl:false=R:=hRR;clear hd r2 hO;go_wp2;go_ret;exact⟨rfl,Chg.of_below HC5.out,HF5.out.map⟩
theorem zwY (a b:ByteArray):(a.toList == b.toList)=decide (a=b):=by
 rw[Bool.eq_iff_iff,beq_iff_eq,decide_eq_true_eq];exact⟨zbX,λh=>by rw[h]⟩
def zxL (pp:Prg) (n:Int) (l:List V) (y:Ty):Bool:=match fFun pp n l.length y with
 |none=>false
 |some ts=>zuP pp l ts
def zyI (pp:Prg) (p:PgV) (fb m B:Nat) (l:List V):Prop:=∀(t:ByteArray) (n m':Int) (s:ByteArray) (y:Ty) (A A':Option Addr) (c c':Nat) (w:World),0<=n->FtC pp p fb m B w->zsM pp y=true->y.fit=true->y.kind=8->Rd (Lt B) w (vs l) (.slice A l.length c)->Rd (Lt B) w (ys y.args) (.slice A' y.args.length c')->
 Calls Tryz.prog 190 #[.pointer (some ⟨fb,0,none⟩),.agg #[.int .i64 9,.string t,.int .i64 n,.int .i64 m',.string s,.slice A l.length c],.agg #[.int .i64 y.kind,.string y.name,.slice A' y.args.length c']] w (zwq m (zxL pp n l y) w)
theorem zwc (pp:Prg) (p:PgV) (fb m B:Nat) (k:Int) (t:ByteArray) (n m':Int) (s:ByteArray) (l:List V) (IH:∀v∈l,zwm pp p fb m B v) (HFU:zyI pp p fb m B l) (hR:AllR pp) (hn:t.size≠0->0<=n) (hn9:k=9->0<=n):zwm pp p fb m B (.mk k t n m' s l):=by
 intro y A A' c c' w h hy hyf hr hr';replace hr:Rd (Lt B) w (vs l) (.slice A l.length c):=hr
 show Calls Tryz.prog 142 #[.pointer (some ⟨fb,0,none⟩),.agg #[↑k,↑t,↑n,↑m',↑s,.slice A l.length c],.agg #[↑y.kind,↑y.name,.slice A' y.args.length c']] w (zwq m (fitV pp (.mk k t n m' s l) y) w)
 obtain⟨w1,h1,b1,c1⟩:=zaj w #[↑k,↑t,↑n,↑m',↑s,.slice A l.length c] 24;obtain⟨w2,h2,b2,c2⟩:=zaj w1 #[↑y.kind,↑y.name,.slice A' y.args.length c'] 70;have c1':=zaa b2 c1;have v0:w2.cell? ⟨w.heap.size,0,none⟩=some ↑k:=c1'.cell 0;have v1:w2.cell? ⟨w.heap.size,1,none⟩=some ↑t:=c1'.cell 1;have v2:w2.cell? ⟨w.heap.size,2,none⟩=some ↑n:=c1'.cell 2;have v3:w2.cell? ⟨w.heap.size,3,none⟩=some ↑m':=c1'.cell 3;have v4:w2.cell? ⟨w.heap.size,4,none⟩=some ↑s:=c1'.cell 4;have v5:w2.cell? ⟨w.heap.size,5,none⟩=some (.slice A l.length c):=c1'.cell 5;have y0:w2.cell? ⟨w1.heap.size,0,none⟩=some ↑y.kind:=c2.cell 0;have y1:w2.cell? ⟨w1.heap.size,1,none⟩=some ↑y.name:=c2.cell 1;have y2:w2.cell? ⟨w1.heap.size,2,none⟩=some (.slice A' y.args.length c'):=c2.cell 2;have b12:=zac b1 b2 b1.size;have HB2:=zz b12;have HF2:=zz (h.below b12);have HX2:=zz c1';have HY2:=zz c2;have HR2:=zz (h.rd (Chg.of_below b12) hr);have HT2:=zz (h.rd (Chg.of_below b12) hr');have HI:=zz IH;have HFN:=zz HFU;have HN1:Hid (¬w1.heap.size=m):=zz (by have:=h.map.lt;have:=b1.size;omega);have HA:=zz hR;have HYR:=zz hy;have HYF:=zz hyf;have hfm:zdT y=true:=by unfold zsM at hy;rw[Bool.and_eq_true] at hy;exact hy.1
 obtain⟨R,hRR⟩:=zn (fitV pp (.mk k t n m' s l) y);rw[hRR];rw[fitV] at hRR;have hl:=zno hr;have hn1:l.length<=9223372036854775807:=Nat.le_trans hl.2.1 hl.2.2;clear b1 c1 b2 c2 c1' b12 h hr hr' IH HFU hR hl hy hyf;obtain⟨kk,hkk⟩:=zn y.kind;have HKK:=zz hkk;rw[hkk] at hRR y0 h2 ⊢;clear hkk;rcases (show kk=1\/kk=2\/kk=3\/kk=4\/kk=7\/kk=6\/kk=8\/(kk≠1/\kk≠2/\kk≠3/\kk≠4/\kk≠7/\kk≠6/\kk≠8) by omega) with rfl|rfl|rfl|rfl|rfl|rfl|rfl|hz
 ·rw[if_pos rfl] at hRR;go_in;go_wp2;go_ret;exact⟨by rw[<-hRR];rfl,Chg.of_below HB2.out,HF2.out.map⟩
 ·rw[if_neg zo,if_pos rfl] at hRR;go_in;go_wp2;go_ret;exact⟨by rw[<-hRR];rfl,Chg.of_below HB2.out,HF2.out.map⟩
 ·rw[if_neg zo,if_neg zo,if_pos rfl] at hRR
  by_cases hk:k=3
  ·subst hk;go_in;go_wp2;go_ret;exact⟨by rw[<-hRR];rfl,Chg.of_below HB2.out,HF2.out.map⟩
  ·have hk2:(k == 3)=false:=by rw[beq_eq_false_iff_ne];exact hk
   rw[hk2,Bool.false_or] at hRR;go_in;go_wp2;go_ret;exact⟨by rw[<-hRR];simp,Chg.of_below HB2.out,HF2.out.map⟩
 ·rw[if_neg zo,if_neg zo,if_neg zo,if_pos rfl] at hRR;go_in;go_wp2;go_ret;exact⟨by rw[<-hRR];rfl,Chg.of_below HB2.out,HF2.out.map⟩
 ·rw[if_neg zo,if_neg zo,if_neg zo,if_neg zo,if_pos rfl,<-zwY] at hRR
  by_cases hk:k=8
  ·subst hk;replace hRR:(t.toList == y.name.toList)=R:=by rw[<-hRR];rfl
   go_in;go_wp2;go_ret;exact⟨by rw[<-hRR];rfl,Chg.of_below HB2.out,HF2.out.map⟩
  ·have hk2:(k == 8)=false:=by rw[beq_eq_false_iff_ne];exact hk
   rw[hk2,Bool.false_and] at hRR;subst hRR;go_in;go_wp2;go_ret;exact⟨rfl,Chg.of_below HB2.out,HF2.out.map⟩
 ·rw[if_neg zo,if_neg zo,if_neg zo,if_neg zo,if_neg zo,if_pos rfl] at hRR;replace hRR:(decide (t=y.name)&&fitD pp k t n l)=R:=hRR;rw[<-zwY] at hRR;cases he:(t.toList == y.name.toList) with
  |false=>
   rw[he,Bool.false_and] at hRR;subst hRR;go_in;go_wp2;go_ret;exact⟨rfl,Chg.of_below HB2.out,HF2.out.map⟩
  |true=>
   rw[he,Bool.true_and] at hRR
   have hts:t.size≠0:=by
    have h9:t=y.name:=zbX (eq_of_beq he);rw[h9];obtain⟨ky,ny,ay⟩:=y;have h8:ky=6:=HKK.out;subst h8;rw[zdT,if_neg zo,if_pos (.inl rfl),Bool.and_eq_true] at hfm;intro h0;have h7:=hfm.1
    revert h7
    rw[show ny=⟨#[]⟩ from zbX (by rw[ByteArray.toList_eq,ByteArray.toList_eq];exact List.eq_nil_of_length_eq_zero ((zai ny).trans h0))];exact by decide
   have KD:=zz (zwu pp p fb m B k t n m' s l HI.out HA.out (hn hts) A c w2 HF2.out HR2.out);rw[hRR] at KD;go_in;go_wp2_with fail;refine KD.out.mono ?_;rintro e6 w6 ⟨rfl,hc6,hm6⟩;have HC6:=zz ((Chg.of_below HB2.out).next hc6);have HM6:=zz hm6;clear hc6 hm6;go_wp2;go_ret;exact⟨rfl,HC6.out,HM6.out⟩
 ·rw[if_neg zo,if_neg zo,if_neg zo,if_neg zo,if_neg zo,if_neg zo,if_pos rfl] at hRR
  by_cases hk:k=9
  ·subst hk;replace hRR:zxL pp n l y=R:=by rw[<-hRR];rfl
   have KD:=HFN.out t n m' s y A A' c c' w2 (hn9 rfl) HF2.out HYR.out HYF.out HKK.out HR2.out HT2.out;rw[HKK.out,hRR] at KD;have KD:=zz KD;go_in;go_wp2_with fail;refine KD.out.mono ?_;rintro e6 w6 ⟨rfl,hc6,hm6⟩;have HC6:=zz ((Chg.of_below HB2.out).next hc6);have HM6:=zz hm6;clear hc6 hm6;go_wp2;go_ret;exact⟨rfl,HC6.out,HM6.out⟩
  ·have hk2:(k == 9)=false:=by rw[beq_eq_false_iff_ne];exact hk
   rw[hk2,Bool.false_and] at hRR;subst hRR;go_in;go_wp2;go_ret;exact⟨rfl,Chg.of_below HB2.out,HF2.out.map⟩
 ·obtain⟨z1,z2,z3,z4,z5,z6,z7⟩:=hz;rw[if_neg z1,if_neg z2,if_neg z3,if_neg z4,if_neg z5,if_neg z6,if_neg z7] at hRR
  have ha1:y.args.length=1:=by
   obtain⟨ky,ny,ay⟩:=y;have h8:ky=kk:=HKK.out;subst h8;rw[zdT,if_neg zo,if_neg zo] at hfm
   split at hfm
   ·simp only[Bool.and_eq_true,decide_eq_true_eq] at hfm;exact hfm.1.2
   ·first|(cases hfm;done)|(rw[if_neg zo] at hfm;cases hfm)
  by_cases hk:k=5
  ·subst hk;replace hRR:zuU pp l (elT y)=R:=by rw[<-hRR];rfl
   obtain⟨b3,off3,e0,e3,hlb3,hget3,A3,c3,g0,g1,g2,r3⟩:=znN HT2.out (i:=0) zo
   have hel:elT y=e0:=by
    obtain⟨ky,ny,ay⟩:=y;cases ay with
    |nil=>exact absurd ha1 (by simp[Ty.args])
    |cons a r=>exact Option.some.inj hget3
   rw[hel] at hRR
   have hrt:zsM pp e0=true/\e0.fit=true:=by
    have h7:=HYR.out;have h8:=HYF.out;obtain⟨ky,ny,ay⟩:=y;cases ay with
    |nil=>exact absurd ha1 (by simp[Ty.args])
    |cons a r=>
     obtain rfl:a=e0:=Option.some.inj hget3;have h9:ky=kk:=HKK.out;subst h9;unfold zsM at h7 ⊢;rw[zdT,zch,zdX,if_neg zo,if_neg zo] at h7;simp only[Bool.and_eq_true] at h7;refine⟨?_,?_⟩
     ·rw[Bool.and_eq_true];refine⟨?_,h7.2.2.1⟩;have h6:=h7.1
      split at h6
      ·simp only[Bool.and_eq_true] at h6;have h5:=h6.2;rw[zgF,Bool.and_eq_true] at h5;exact h5.1
      ·first|(cases h6;done)|(rw[if_neg zo] at h6;cases h6)
     ·rw[Ty.fit] at h8;simp only[Bool.and_eq_true] at h8;exact zhZ h8.2 List.mem_cons_self
   have HRT:=zz hrt;have y2':w2.cell? ⟨w1.heap.size,2,none⟩=some (.slice (some ⟨b3,off3,none⟩) y.args.length c'):=by rw[y2,e3]
   have HT3:=zz r3;have HC0:Hid (Chg (λj=>j=m) w w2):=zz (Chg.of_below HB2.out);have HA0:Hid (zuU pp (l.drop 0) e0=R):=zz (by rw[List.drop_zero];exact hRR);have HLB3:Hid (b3<B):=zz hlb3;have hw1w:w1.heap.size<w2.heap.size:=HY2.out.lt;have HWW:Hid (w1.heap.size<w2.heap.size):=zz hw1w;have HNM:Hid (¬w1.heap.size=m):=HN1;have g0:w2.cell? ⟨b3,off3,none⟩=some ↑e0.kind:=by simpa using g0
   have g1:w2.cell? ⟨b3,off3+1,none⟩=some ↑e0.name:=by simpa using g1
   have g2:w2.cell? ⟨b3,off3+2,none⟩=some (.slice A3 e0.args.length c3):=by simpa using g2
   have GG:=zz (And.intro g0 (And.intro g1 g2));have hY2:=zz y2';have ha1i:(0:Int)<(y.args.length:Int):=zo
   have HX9:Hid (Chg (λj=>j=m) w2 w2):=zz (Chg.refl _ _);subst e3;clear hRR hel hget3 r3 hrt ha1 hfm hw1w hlb3 g0 g1 g2 y2' y2;go_in;go_wp2_with fail
   go_loopw [77] (λs77 wr=>∃i:Nat,i<=l.length/\s77=↑i/\Hid (zuU pp (l.drop i) e0=R)/\Hid (Chg (λj=>j=m) w2 wr)/\Hid (FtC pp p fb m B wr)) (λs77 _=>l.length-(intOf s77).toNat)
   case atStart=>exact⟨0,zo,rfl,HA0,HX9,HF2⟩
   case round=>
    clear HA0 HX9;obtain⟨i,hi,rfl,HA1,HC9,HF9⟩:=hrel
    by_cases hil:i<l.length
    ·have hin:(i:Int)<l.length:=zo
     obtain⟨b,off,k1,t1,n1,m1,s1,l1,A1,c1,e,hlb,hget,p0,p1,p2,p3,p4,p5,r5⟩:=zrO (HF2.out.rd HC9.out HR2.out) hil;subst e;have hm:=List.mem_of_getElem? hget;have q:=HA1.out;rw[zww pp hget] at q;obtain⟨w3,hw3,hbx,hcx⟩:=zaj wr #[↑k1,↑t1,↑n1,↑m1,↑s1,.slice A1 l1.length c1] 24;have HX3:=zz hcx;have hsr:=HC9.out.size;have HNE:Hid (¬wr.heap.size=m):=zz (by have:=HF9.out.map.lt;omega);have HF3:=zz (HF9.out.below hbx);have HC3:=zz (HC9.out.thenBelow hbx);have HW3:Hid (w1.heap.size<w3.heap.size):=zz (by have:=hbx.size;have:=HWW.out;omega);have HB3:Hid (b3<w3.heap.size):=zz (HF3.out.lt _ HLB3.out);have HN3:Hid (¬b3=m):=zz (λe=>by have:=HF9.out.lm;have:=HLB3.out;omega);have HY3:Hid (w3.cell? ⟨w1.heap.size,2,none⟩=some (.slice (some ⟨b3,off3,none⟩) y.args.length c')):=zz ((HC3.out.cell (p:=⟨w1.heap.size,2,none⟩) HWW.out HNM.out).trans hY2.out);have hb3:b3<w2.heap.size:=HF2.out.lt _ HLB3.out;have HG3:Hid (w3.cell? ⟨b3,off3,none⟩=some ↑e0.kind/\w3.cell? ⟨b3,off3+1,none⟩=some ↑e0.name/\w3.cell? ⟨b3,off3+2,none⟩=some (.slice A3 e0.args.length c3)):=zz ⟨(HC3.out.cell (p:=⟨b3,_,none⟩) hb3 HN3.out).trans GG.out.1,(HC3.out.cell (p:=⟨b3,_,none⟩) hb3 HN3.out).trans GG.out.2.1,(HC3.out.cell (p:=⟨b3,_,none⟩) hb3 HN3.out).trans GG.out.2.2⟩;have HRV:=zz (Rd.below (ok:=Lt B) hbx (λ_ hh=>HF9.out.lt _ hh) r5);have HRT3:=zz (HF2.out.rd HC3.out HT3.out);have KB:Hid (∀W,FtC pp p fb m B W->Rd (Lt B) W (vs l1) (.slice A1 l1.length c1)->Rd (Lt B) W (ys e0.args) (.slice A3 e0.args.length c3)->Calls _ _ #[.pointer (some ⟨fb,0,none⟩),.agg #[↑k1,↑t1,↑n1,↑m1,↑s1,.slice A1 l1.length c1],.agg #[↑e0.kind,↑e0.name,.slice A3 e0.args.length c3]] W _):=zz (λW h1 h2 h3=>HI.out _ hm e0 A1 A3 c1 c3 W h1 HRT.out.1 HRT.out.2 h2 h3);obtain⟨x,hx⟩:=zn (fitV pp (.mk k1 t1 n1 m1 s1 l1) e0);rw[hx] at KB q;have HQ:=zz q;clear r5 hget hm q hbx hcx hx HA1 hlb hb3 hsr;cases x with
     |false=>
      have HN:Hid (R=false):=zz (by rw[<-HQ.out];rfl);clear HQ;have z0:∀x:QW pp p fb m B w3,x.w.cell? ⟨wr.heap.size,0,none⟩=some ↑k1:=λx=>x.cell HX3.out.lt HNE.out (HX3.out.cell 0);have z1:∀x:QW pp p fb m B w3,x.w.cell? ⟨wr.heap.size,1,none⟩=some ↑t1:=λx=>x.cell HX3.out.lt HNE.out (HX3.out.cell 1);have z2:∀x:QW pp p fb m B w3,x.w.cell? ⟨wr.heap.size,2,none⟩=some ↑n1:=λx=>x.cell HX3.out.lt HNE.out (HX3.out.cell 2);have z3:∀x:QW pp p fb m B w3,x.w.cell? ⟨wr.heap.size,3,none⟩=some ↑m1:=λx=>x.cell HX3.out.lt HNE.out (HX3.out.cell 3);have z4:∀x:QW pp p fb m B w3,x.w.cell? ⟨wr.heap.size,4,none⟩=some ↑s1:=λx=>x.cell HX3.out.lt HNE.out (HX3.out.cell 4);have z5:∀x:QW pp p fb m B w3,x.w.cell? ⟨wr.heap.size,5,none⟩=some (.slice A1 l1.length c1):=λx=>x.cell HX3.out.lt HNE.out (HX3.out.cell 5);have u2:∀x:QW pp p fb m B w3,x.w.cell? ⟨w1.heap.size,2,none⟩=some (.slice (some ⟨b3,off3,none⟩) y.args.length c'):=λx=>x.cell HW3.out HNM.out HY3.out;have g0:∀x:QW pp p fb m B w3,x.w.cell? ⟨b3,off3,none⟩=some ↑e0.kind:=λx=>x.cell HB3.out HN3.out HG3.out.1;have g1:∀x:QW pp p fb m B w3,x.w.cell? ⟨b3,off3+1,none⟩=some ↑e0.name:=λx=>x.cell HB3.out HN3.out HG3.out.2.1;have g2:∀x:QW pp p fb m B w3,x.w.cell? ⟨b3,off3+2,none⟩=some (.slice A3 e0.args.length c3):=λx=>x.cell HB3.out HN3.out HG3.out.2.2;have hne:Nonempty (QW pp p fb m B w3):=⟨⟨w3,HF3.out,Chg.refl _ _⟩⟩;have KQ:=zz (λx:QW pp p fb m B w3=>x.calls (KB.out x.w x.f (x.rd HF3.out HRV.out) (x.rd HF3.out HRT3.out)));go_wp2_with fail;clear hw3 p0 p1 p2 p3 p4 p5;refine zuN (C:=λw'=>∃x:QW pp p fb m B w3,w'=x.w) zk zk ⟨⟨_,HF3.out.drew,⟨rfl,rfl,rfl,Nat.le_refl _,λ_ _ _=>rfl⟩⟩,rfl⟩ ?_
      repeat (go_big_quiet_step (first|with_reducible exact KQ.out _))
      refine wpQuiet_nil ?_;intro _ hw';obtain⟨x,hw''⟩:=hw';subst hw'';clear z0 z1 z2 z3 z4 z5 u2 g0 g1 g2 KQ hne;have HC4:=zz (HC3.out.next x.c);have HF4:=zz x.f;generalize x.w=w4 at *
      go_wp2;go_ret;exact⟨by rw[HN.out];rfl,HC0.out.next HC4.out,HF4.out.map⟩
     |true=>
      have HN:Hid (zuU pp (l.drop (i+1)) e0=R):=zz (by rw[<-HQ.out];rfl);clear HQ;have z0:∀x:QW pp p fb m B w3,x.w.cell? ⟨wr.heap.size,0,none⟩=some ↑k1:=λx=>x.cell HX3.out.lt HNE.out (HX3.out.cell 0);have z1:∀x:QW pp p fb m B w3,x.w.cell? ⟨wr.heap.size,1,none⟩=some ↑t1:=λx=>x.cell HX3.out.lt HNE.out (HX3.out.cell 1);have z2:∀x:QW pp p fb m B w3,x.w.cell? ⟨wr.heap.size,2,none⟩=some ↑n1:=λx=>x.cell HX3.out.lt HNE.out (HX3.out.cell 2);have z3:∀x:QW pp p fb m B w3,x.w.cell? ⟨wr.heap.size,3,none⟩=some ↑m1:=λx=>x.cell HX3.out.lt HNE.out (HX3.out.cell 3);have z4:∀x:QW pp p fb m B w3,x.w.cell? ⟨wr.heap.size,4,none⟩=some ↑s1:=λx=>x.cell HX3.out.lt HNE.out (HX3.out.cell 4);have z5:∀x:QW pp p fb m B w3,x.w.cell? ⟨wr.heap.size,5,none⟩=some (.slice A1 l1.length c1):=λx=>x.cell HX3.out.lt HNE.out (HX3.out.cell 5);have u2:∀x:QW pp p fb m B w3,x.w.cell? ⟨w1.heap.size,2,none⟩=some (.slice (some ⟨b3,off3,none⟩) y.args.length c'):=λx=>x.cell HW3.out HNM.out HY3.out;have g0:∀x:QW pp p fb m B w3,x.w.cell? ⟨b3,off3,none⟩=some ↑e0.kind:=λx=>x.cell HB3.out HN3.out HG3.out.1;have g1:∀x:QW pp p fb m B w3,x.w.cell? ⟨b3,off3+1,none⟩=some ↑e0.name:=λx=>x.cell HB3.out HN3.out HG3.out.2.1;have g2:∀x:QW pp p fb m B w3,x.w.cell? ⟨b3,off3+2,none⟩=some (.slice A3 e0.args.length c3):=λx=>x.cell HB3.out HN3.out HG3.out.2.2;have hne:Nonempty (QW pp p fb m B w3):=⟨⟨w3,HF3.out,Chg.refl _ _⟩⟩;have KQ:=zz (λx:QW pp p fb m B w3=>x.calls (KB.out x.w x.f (x.rd HF3.out HRV.out) (x.rd HF3.out HRT3.out)));go_wp2_with fail;clear hw3 p0 p1 p2 p3 p4 p5;refine zuN (C:=λw'=>∃x:QW pp p fb m B w3,w'=x.w) zk zk ⟨⟨_,HF3.out.drew,⟨rfl,rfl,rfl,Nat.le_refl _,λ_ _ _=>rfl⟩⟩,rfl⟩ ?_
      repeat (go_big_quiet_step (first|with_reducible exact KQ.out _))
      refine wpQuiet_nil ?_;intro _ hw';obtain⟨x,hw''⟩:=hw';subst hw'';clear z0 z1 z2 z3 z4 z5 u2 g0 g1 g2 KQ hne;have HC4:=zz (HC3.out.next x.c);have HF4:=zz x.f;generalize x.w=w4 at *
      go_wp2_with fail;exact⟨⟨i+1,zo,by go_num,HN,HC4,HF4⟩,by simp[intOf];omega⟩
    ·obtain rfl:i=l.length:=zo
     have HN:Hid (R=true):=zz (by rw[<-HA1.out,List.drop_eq_nil_of_le (Nat.le_refl _),zwU]);clear HA1;go_wp2;go_ret;exact⟨by rw[HN.out];rfl,HC0.out.next HC9.out,HF9.out.map⟩
  ·have hk2:(k == 5)=false:=by rw[beq_eq_false_iff_ne];exact hk
   have hk3:(k != 5)=true:=by rw[bne_iff_ne];exact hk
   rw[hk2,Bool.false_and] at hRR;subst hRR;clear ha1 hfm;go_in;go_wp2;go_ret;exact⟨rfl,Chg.of_below HB2.out,HF2.out.map⟩
end Go.Proofs.YtcebmphappfjjaaGreatDoor
set_option maxHeartbeats 32000000
set_option maxRecDepth 100000
namespace Go.Proofs.YtcebmphappfjjaaGreatDoor
open Go.RowKit Go.Sort
theorem zwA (a b:Ty) (r s:List Ty):zsB (a::r) (b::s)=(zuF a b&&zsB r s):=by rw[zsB]
theorem zwO (s:List Ty):zsB [] s=true:=by
 rw[zsB];intro a r b s h;cases h
def SmAt (t:Ty):Prop:=∀(u:Ty) (A:Option Addr) (c:Nat) (A':Option Addr) (c':Nat) (w:World),Rd (Lt w.heap.size) w (ys t.args) (.slice A t.args.length c)->Rd (Lt w.heap.size) w (ys u.args) (.slice A' u.args.length c')->
 Calls Tryz.prog 239 #[.agg #[.int .i64 t.kind,.string t.name,.slice A t.args.length c],.agg #[.int .i64 u.kind,.string u.name,.slice A' u.args.length c']] w λe w'=>e=.returned (.bool (zuF t u))/\Below w.heap.size w w'
theorem zyk (k:Int) (nm:ByteArray) (l:List Ty) (IH:∀t∈l,SmAt t):SmAt (.mk k nm l):=by
 intro u A c A' c' w h h';obtain⟨k',nm',l'⟩:=u;replace h:Rd (Lt w.heap.size) w (ys l) (.slice A l.length c):=h;replace h':Rd (Lt w.heap.size) w (ys l') (.slice A' l'.length c'):=h'
 show Calls Tryz.prog 239 #[.agg #[↑k,↑nm,.slice A l.length c],.agg #[↑k',↑nm',.slice A' l'.length c']] w λe w'=>e=.returned (.bool (zuF (.mk k nm l) (.mk k' nm' l')))/\Below w.heap.size w w'
 rw[zuF];have hl:=zqb h;have hl':=zqb h';have hn:l.length<=9223372036854775807:=Nat.le_trans hl.2.1 hl.2.2;have hn':l'.length<=9223372036854775807:=Nat.le_trans hl'.2.1 hl'.2.2;have b1:=zag w (.cells #[↑k,↑nm,.slice A l.length c] 70);have c1:=zab.new w #[↑k,↑nm,.slice A l.length c] 70;obtain⟨w1,h1⟩:=zn (w.alloc (.cells #[↑k,↑nm,.slice A l.length c] 70));have s1:w.heap.size+1<=w1.heap.size:=by rw[<-h1];simp
 rw[h1] at b1 c1;have b2:=zag w1 (.cells #[↑k',↑nm',.slice A' l'.length c'] 70);have c2:=zab.new w1 #[↑k',↑nm',.slice A' l'.length c'] 70;obtain⟨w2,h2⟩:=zn (w1.alloc (.cells #[↑k',↑nm',.slice A' l'.length c'] 70));have s2:w1.heap.size+1<=w2.heap.size:=by rw[<-h2];simp
 rw[h2] at b2 c2;have c1':=zaa b2 c1;have x0:=c1'.a 0 rfl;have x1:=c1'.a 1 rfl;have x2:=c1'.a 2 rfl;have y0:=c2.a 0 rfl;have y1:=c2.a 1 rfl;have y2:=c2.a 2 rfl;have HC1:=zz c1';have HC2:=zz c2;have HB:=zz (zac b1 b2 b1.size);have HR:=zz h;have HR':=zz h';have HI:=zz IH;clear b1 b2 c1 c1' c2 hl hl' h h' IH
 by_cases hk:k=k'
 ·have ek:(k != k')=false:=by simp[hk]
  rw[decide_eq_true hk,Bool.true_and]
  by_cases hm:nm=nm'
  ·have em:(nm.toList == nm'.toList)=true:=by simp[hm]
   rw[decide_eq_true hm,Bool.true_and]
   by_cases hll:l.length=l'.length
   ·have ell:((l.length:Int) != (l'.length:Int))=false:=by simp[hll]
    rw[decide_eq_true hll,Bool.true_and];obtain⟨r,hr⟩:=zn (zsB l l');have HA0:Hid (zsB (l.drop 0) (l'.drop 0)=r):=zz hr;rw[hr];have hll1:l.length<=l'.length:=Nat.le_of_eq hll;have hll2:l'.length<=l.length:=Nat.le_of_eq hll.symm;clear hr hk hm hll;have HD0:Hid (Below w2.heap.size w2 w2):=zz (Below.refl _ _);go_in;go_wp2;clear h1 h2 x0 x1 x2 y0 y1 y2 ek em ell
    go_loopw [30] (λs wr=>∃i:Nat,i<=l.length/\s=↑i/\Hid (zsB (l.drop i) (l'.drop i)=r)/\Hid (Below w2.heap.size w2 wr)) (λs _=>l.length-(intOf s).toNat)
    case atStart=>exact⟨0,zo,rfl,HA0,HD0⟩
    case round=>
     clear HA0 HD0;obtain⟨i,hi,rfl,HA,HD⟩:=hrel;have sB:=HD.out.size;have HBW:=zz (zac HB.out HD.out HB.out.size)
     by_cases hlt:i<l.length
     ·obtain⟨b,off,y,e,hlb,hget,Ay,cy,p0,p1,p2,r5⟩:=znN (HR.out.belows HBW.out) hlt;subst e;obtain⟨b',off',y',e,hlb',hget',Ay',cy',p0',p1',p2',r5'⟩:=znN (HR'.out.belows HBW.out) (show i<l'.length by omega);subst e;have hin:(i:Int)<l.length:=zo
      have hin':(i:Int)<l'.length:=zo
      have q:=HA.out;rw[zal hget,zal hget',zwA] at q;have z2:wr.cell? ⟨w.heap.size,2,none⟩=_:=(zaa HD.out HC1.out).cell 2;have z2':wr.cell? ⟨w1.heap.size,2,none⟩=_:=(zaa HD.out HC2.out).cell 2;replace z2:wr.cell? ⟨w.heap.size,2,none⟩=some (.slice (some ⟨b,off,none⟩) l.length c):=z2;replace z2':wr.cell? ⟨w1.heap.size,2,none⟩=some (.slice (some ⟨b',off',none⟩) l'.length c'):=z2'
      have K0:Hid (∀d os,Calls Tryz.prog 239 #[.agg #[↑y.kind,↑y.name,.slice Ay y.args.length cy],.agg #[↑y'.kind,↑y'.name,.slice Ay' y'.args.length cy']] (grow (redrawn wr d) os) λe w'=>e=.returned (.bool (zuF y y'))/\∃p:Regrown,w'=grow (redrawn wr p.d) p.os):=
       zz (λd os=>Calls.regrown_of (by have t:=HI.out y (List.mem_of_getElem? hget) y' Ay cy Ay' cy' (grow (redrawn wr d) os) (r5.belows (below_regrown wr d os)) (r5'.belows (below_regrown wr d os));exact t))
      have o0:=λd os=>cell_regrown p0 d os;have o1:=λd os=>cell_regrown p1 d os;have o2:=λd os=>cell_regrown p2 d os;have o3:=λd os=>cell_regrown p0' d os;have o4:=λd os=>cell_regrown p1' d os;have o5:=λd os=>cell_regrown p2' d os;have o6:=λd os=>cell_regrown z2 d os;have o7:=λd os=>cell_regrown z2' d os;clear HA r5 r5' hget hget' hlb hlb';obtain⟨v,hv⟩:=zn (zuF y y');rw[hv] at q K0;have HQ:=zz q;clear q hv;go_wp2_with fail;refine wp_region_quiet_below zk zk ?_
      repeat (go_big_quiet_step (first|with_reducible exact K0.out _ _))
      refine wpQuiet_nil ?_;intro _ hw';obtain⟨⟨dq,osq⟩,hw''⟩:=hw';subst hw'';have HD2:=zz (zac HD.out (below_regrown wr dq osq) HD.out.size);have HBL:=zz (zac HBW.out (below_regrown wr dq osq) HBW.out.size);cases v with
      |false=>
       go_wp2;go_ret;exact⟨by rw[<-HQ.out];rfl,HBL.out⟩
      |true=>
       go_wp2;exact⟨⟨i+1,zo,by go_num,zz (by have q:=HQ.out;simpa using q),HD2⟩,by simp[intOf];omega⟩
     ·have HQ:Hid (true=r):=zz (by
       have q:=HA.out;rw[List.drop_eq_nil_of_le zo,zwO] at q;exact q)
      clear HA;go_wp2;go_ret;exact⟨by rw[<-HQ.out];rfl,HBW.out⟩
   ·have ell:((l.length:Int) != (l'.length:Int))=true:=by simp;omega
    rw[decide_eq_false hll];clear hk hm hll;go_in;go_wp2;go_ret;exact⟨rfl,HB.out⟩
  ·have em:=zfo hm;rw[decide_eq_false hm];clear hk hm;go_in;go_wp2;go_ret;exact⟨rfl,HB.out⟩
 ·have ek:(k != k')=true:=by rw[bne_iff_ne];exact hk
  rw[decide_eq_false hk];clear hk;go_in;go_wp2;go_ret;exact⟨rfl,HB.out⟩
theorem zvs:∀t:Ty,SmAt t
 |.mk k n a=>zyk k n a (λx _hx=>zvs x)
theorem zyG {ok:Nat->Prop} {w:World} {l:List Fun'} {A:Option Addr} {n c i:Nat} {f:Fun'} (h:Rd ok w (slG 11 zme l) (.slice A n c)) (hi:l[i]?=some f) :
 ∃b off A1 c1 A2 c2 A3 c3,A=some ⟨b,off,none⟩/\ok b/\i<n/\(∀(j:Nat) (u:Value),[Value.string f.name,.slice A1 f.params.length c1,↑f.result.kind,↑f.result.name,.slice A2 f.result.args.length c2,↑(),↑(),↑(),↑(),↑zj.a,.slice A3 0 c3][j]?=some u->w.cell? ⟨b,off+i*11+j,none⟩=some u)/\
  Rd ok w (fls f.params) (.slice A1 f.params.length c1)/\Rd ok w (ys f.result.args) (.slice A2 f.result.args.length c2):=by
 have hl:=(ztO h).1;have hin:i<n:=by have:=(List.getElem?_eq_some_iff.1 hi).1;omega
 obtain⟨b,off,f',e,hb,hg,hr⟩:=zqT h hin;obtain rfl:f=f':=Option.some.inj (hi.symm.trans hg);obtain⟨u0,c0,r0⟩:=hr 0 zo;obtain⟨u1,c1,r1⟩:=hr 1 zo;obtain⟨u2,c2,r2⟩:=hr 2 zo;obtain⟨u3,c3,r3⟩:=hr 3 zo;obtain⟨u4,c4,r4⟩:=hr 4 zo;obtain⟨u5,c5,r5⟩:=hr 5 zo;obtain⟨u6,c6,r6⟩:=hr 6 zo;obtain⟨u7,c7,r7⟩:=hr 7 zo;obtain⟨u8,c8,r8⟩:=hr 8 zo;obtain⟨u9,c9,r9⟩:=hr 9 zo;obtain⟨u10,c10,r10⟩:=hr 10 zo;obtain rfl:u0=↑f.name:=r0;have r1:Rd ok w (fls f.params) u1:=r1;obtain⟨A1,k1,rfl,_⟩:=r1.sl_inv;obtain rfl:u2=↑f.result.kind:=r2;obtain rfl:u3=↑f.result.name:=r3;have r4:Rd ok w (ys f.result.args) u4:=r4;obtain⟨A2,k2,rfl,_⟩:=r4.sl_inv;obtain rfl:u5=↑():=r5;obtain rfl:u6=↑():=r6;obtain rfl:u7=↑():=r7;obtain rfl:u8=↑():=r8;obtain rfl:u9=↑zj.a:=r9;have r10:Rd ok w (zrX 5) u10:=r10;obtain⟨A3,k3,rfl,_⟩:=r10.sl_inv;refine⟨b,off,A1,k1,A2,k2,A3,k3,e,hb,hin,λj u hj=>?_,r1,r4⟩
 match j,hj with
 |0,hj=>cases hj;exact c0
 |1,hj=>cases hj;exact c1
 |2,hj=>cases hj;exact c2
 |3,hj=>cases hj;exact c3
 |4,hj=>cases hj;exact c4
 |5,hj=>cases hj;exact c5
 |6,hj=>cases hj;exact c6
 |7,hj=>cases hj;exact c7
 |8,hj=>cases hj;exact c8
 |9,hj=>cases hj;exact c9
 |10,hj=>cases hj;exact c10
 |j+11,hj=>simp at hj
theorem zxR {α:Type} {k:Nat} {row:α->Nat->D} {ok:Nat->Prop} {w:World} {l:List α} {A:Option Addr} {c j:Nat} (h:Rd ok w (slG k row l) (.slice A l.length c)) (hk:j<=l.length) (A':Option Addr) (hA:A'=if c=j then A else A.map (·.add (j*k))):Rd ok w (slG k row (l.drop j)) (.slice A' (l.drop j).length (c-j)):=by
 obtain⟨A0,c0,e,h1,h2,h3⟩:=h.sl_inv;injection e with e1 e2 e3;subst e1 e3;have hlen:(l.drop j).length=l.length-j:=List.length_drop;refine Rd.sl_mk zo zo (λhp=>?_);obtain⟨b,off,rfl,hb,hr⟩:=h3 zo;refine⟨b,off+j*k,?_,hb,λi hi=>?_⟩
 ·rw[hA,if_neg zo,Option.map_some,Addr.add_lit]
 ·have:=hr (j+i) zo;have hil:j+i<l.length:=zo
  have hx:l[j+i]?=some l[j+i]:=List.getElem?_eq_getElem hil;rw[zas hx] at this;rw[zas (l:=l.drop j) (i:=i) (x:=l[j+i]) (by rw[List.getElem?_drop];exact hx)];rw[show off+j*k+i*k=off+(j+i)*k by rw[Nat.add_mul];omega];exact this
theorem zwW {a b:List Ty} {i:Nat} {x y:Ty} (hx:a[i]?=some x) (hy:b[i]?=some y):zvx (a.drop i) (b.drop i)=(zuF x y&&zvx (a.drop (i+1)) (b.drop (i+1))):=by
 obtain⟨h1,rfl⟩:=List.getElem?_eq_some_iff.1 hx;obtain⟨h2,rfl⟩:=List.getElem?_eq_some_iff.1 hy;rw[List.drop_eq_getElem_cons h1,List.drop_eq_getElem_cons h2,zvx]
theorem zxu (b:List Ty):zvx [] b=true:=by rw[zvx]
theorem zwB {l:List Ty} {n:Nat} {x:Ty} (hn:l.length=n+1) (hx:l[n]?=some x):l.getLastD Ty.zero=x:=by
 rw[List.getLastD_eq_getLast?,List.getLast?_eq_getElem?,hn,Nat.add_sub_cancel,hx];rfl
theorem zwv (pp:Prg) (p:PgV) (fb m B:Nat) (l:List V) (IH:∀v∈l,zwm pp p fb m B v) (hR:AllR pp):zyI pp p fb m B l:=by
 intro t n m' s y A A' c c' w hn h hy hyf hyk hr hr';obtain⟨nn,rfl⟩:∃nn:Nat,n=(nn:Int):=⟨n.toNat,zo⟩;obtain⟨w1,h1,b1,c1⟩:=zaj w #[.int .i64 9,↑t,.int .i64 (nn:Int),↑m',↑s,.slice A l.length c] 24;obtain⟨w2,h2,b2,c2⟩:=zaj w1 #[↑y.kind,↑y.name,.slice A' y.args.length c'] 70;have c1':=zaa b2 c1;have b12:=zac b1 b2 b1.size;have HB2:=zz b12;have HF2:=zz (h.below b12);have HX2:=zz c1';have HY2:=zz c2;have HR2:=zz (h.rd (Chg.of_below b12) hr);have HT2:=zz (h.rd (Chg.of_below b12) hr');have HI:=zz IH;have HL:=zz h;have HR0:=zz hr;have HT0:=zz hr';have HN1:Hid (¬w1.heap.size=m):=zz (by have:=h.map.lt;have:=b1.size;omega);have HN0:Hid (¬w.heap.size=m):=zz (by have:=h.map.lt;omega);have HA:=zz hR;have v2:∀n,(w2.drewN n).cell? ⟨w.heap.size,2,none⟩=some (.int .i64 (nn:Int)):=λn=>c1'.cell 2;have f2:∀n,(w2.drewN n).cell? ⟨fb,2,none⟩=some (.slice p.Af p.nF p.cf):=λn=>HF2.out.cells.cell 2;have hnF:=h.nF;obtain⟨R,hRR⟩:=zn (zxL pp (nn:Int) l y);rw[hRR];unfold zxL fFun at hRR;simp only[Int.toNat_natCast] at hRR;have HYK:=zz hyk;have HYR:=zz hy;have HYF:=zz hyf;clear b1 c1 b2 c2 c1' b12 h hr hr' IH hR hn hyk hy hyf
 by_cases hN:nn<pp.funs.length
 ·obtain⟨f,hf⟩:∃f,pp.funs[nn]?=some f:=⟨_,List.getElem?_eq_getElem hN⟩;rw[hf] at hRR;simp only at hRR;have hNi:(nn:Int)<(p.nF:Int):=zo
  have hNd:decide ((p.nF:Int)<=(nn:Int))=false:=decide_eq_false zo;go_in;go_wp2_with fail
  go_quiet (fail)
  obtain⟨w3,hw3⟩:=zn (w2.drewN nq);have HF3:=zz (HF2.out.drewN nq);have HB3:=zz (zae HB2.out nq);have HX3:Hid (zab (w2.drewN nq) _ _ _):=HX2;have HY3:Hid (zab (w2.drewN nq) _ _ _):=HY2;rw[hw3] at HF3 HB3 HX3 HY3 ⊢;clear hw3 h1 h2 v2 f2;obtain⟨b3,off3,A1,k1,A2,k2,A3,k3,e,hlb3,hin3,hcs,r1,r2⟩:=zyG HF3.out.funs hf;have v2:w3.cell? ⟨w.heap.size,2,none⟩=some (.int .i64 (nn:Int)):=HX3.out.cell 2;have f2:w3.cell? ⟨fb,2,none⟩=some (.slice (some ⟨b3,off3,none⟩) p.nF p.cf):=by have:=HF3.out.cells.cell 2;rw[e] at this;exact this
  have c0:w3.cell? ⟨b3,off3+nn*11,none⟩=some (Value.string f.name):=hcs 0 _ rfl;have c1:w3.cell? ⟨b3,off3+nn*11+1,none⟩=some (.slice A1 f.params.length k1):=hcs 1 _ rfl;have c2:w3.cell? ⟨b3,off3+nn*11+2,none⟩=some ↑f.result.kind:=hcs 2 _ rfl;have c3:w3.cell? ⟨b3,off3+nn*11+3,none⟩=some ↑f.result.name:=hcs 3 _ rfl;have c4:w3.cell? ⟨b3,off3+nn*11+4,none⟩=some (.slice A2 f.result.args.length k2):=hcs 4 _ rfl;have c5:w3.cell? ⟨b3,off3+nn*11+5,none⟩=some (.int .i64 0):=hcs 5 _ rfl;have c6:w3.cell? ⟨b3,off3+nn*11+6,none⟩=some (.int .i64 0):=hcs 6 _ rfl;have c7:w3.cell? ⟨b3,off3+nn*11+7,none⟩=some (.int .i64 0):=hcs 7 _ rfl;have c8:w3.cell? ⟨b3,off3+nn*11+8,none⟩=some (.int .i64 0):=hcs 8 _ rfl;have c9:w3.cell? ⟨b3,off3+nn*11+9,none⟩=some (.string ⟨#[]⟩):=hcs 9 _ rfl;have c10:w3.cell? ⟨b3,off3+nn*11+10,none⟩=some (.slice A3 0 k3):=hcs 10 _ rfl;have R1:=zz r1;have R2:=zz r2;have HLB:=zz hlb3;clear hcs r1 r2 hlb3 e;go_wp2
  go_region_held3 (λw'=>w'.cell? ⟨w.heap.size,2,none⟩=some (.int .i64 (nn:Int))/\w'.cell? ⟨fb,2,none⟩=some (.slice (some ⟨b3,off3,none⟩) p.nF p.cf)/\w'.cell? ⟨b3,off3+nn*11,none⟩=some (Value.string f.name)/\w'.cell? ⟨b3,off3+nn*11+1,none⟩=some (.slice A1 f.params.length k1)/\w'.cell? ⟨b3,off3+nn*11+2,none⟩=some ↑f.result.kind/\w'.cell? ⟨b3,off3+nn*11+3,none⟩=some ↑f.result.name/\w'.cell? ⟨b3,off3+nn*11+4,none⟩=some (.slice A2 f.result.args.length k2)/\w'.cell? ⟨b3,off3+nn*11+5,none⟩=some (.int .i64 0)/\w'.cell? ⟨b3,off3+nn*11+6,none⟩=some (.int .i64 0)/\w'.cell? ⟨b3,off3+nn*11+7,none⟩=some (.int .i64 0)/\w'.cell? ⟨b3,off3+nn*11+8,none⟩=some (.int .i64 0)/\w'.cell? ⟨b3,off3+nn*11+9,none⟩=some (.string ⟨#[]⟩)/\w'.cell? ⟨b3,off3+nn*11+10,none⟩=some (.slice A3 0 k3)) (go_keep) (fail)
  obtain⟨w4,hw4⟩:∃W,(w3.alloc (.cells #[↑f.name,.slice A1 f.params.length k1,↑f.result.kind,↑f.result.name,.slice A2 f.result.args.length k2,.int .i64 0,.int .i64 0,.int .i64 0,.int .i64 0,.string ⟨#[]⟩,.slice A3 0 k3] 182)).drew=W:=⟨_,rfl⟩;have hb4:Below w3.heap.size w3 w4:=hw4▸(⟨rfl,rfl,rfl,(zag w3 (.cells #[↑f.name,.slice A1 f.params.length k1,↑f.result.kind,↑f.result.name,.slice A2 f.result.args.length k2,.int .i64 0,.int .i64 0,.int .i64 0,.int .i64 0,.string ⟨#[]⟩,.slice A3 0 k3] 182)).size,(zag w3 (.cells #[↑f.name,.slice A1 f.params.length k1,↑f.result.kind,↑f.result.name,.slice A2 f.result.args.length k2,.int .i64 0,.int .i64 0,.int .i64 0,.int .i64 0,.string ⟨#[]⟩,.slice A3 0 k3] 182)).block⟩:Below w3.heap.size w3 (w3.alloc (.cells #[↑f.name,.slice A1 f.params.length k1,↑f.result.kind,↑f.result.name,.slice A2 f.result.args.length k2,.int .i64 0,.int .i64 0,.int .i64 0,.int .i64 0,.string ⟨#[]⟩,.slice A3 0 k3] 182)).drew);have hc4:zab w4 w3.heap.size #[↑f.name,.slice A1 f.params.length k1,↑f.result.kind,↑f.result.name,.slice A2 f.result.args.length k2,.int .i64 0,.int .i64 0,.int .i64 0,.int .i64 0,.string ⟨#[]⟩,.slice A3 0 k3] 182:=hw4▸(zab.new w3 #[↑f.name,.slice A1 f.params.length k1,↑f.result.kind,↑f.result.name,.slice A2 f.result.args.length k2,.int .i64 0,.int .i64 0,.int .i64 0,.int .i64 0,.string ⟨#[]⟩,.slice A3 0 k3] 182:_);rw[hw4];have HF4:=zz (HF3.out.below hb4);have HB4:=zz (zac HB3.out hb4 HB3.out.size);have HX4:=zz (zaa hb4 HX3.out);have HY4:=zz (zaa hb4 HY3.out);have HZ4:=zz hc4;have R14:=zz (HF3.out.rd (Chg.of_below hb4) R1.out);have R24:=zz (HF3.out.rd (Chg.of_below hb4) R2.out);have HN3:Hid (¬w3.heap.size=m):=zz (by have:=HF3.out.map.lt;omega);have v5:∀n,(w4.drewN n).cell? ⟨w.heap.size,5,none⟩=some (.slice A l.length c):=λn=>HX4.out.cell 5;have y2:∀n,(w4.drewN n).cell? ⟨w1.heap.size,2,none⟩=some (.slice A' y.args.length c'):=λn=>HY4.out.cell 2;have hfm:zdT y=true:=by have h7:=HYR.out;unfold zsM at h7;rw[Bool.and_eq_true] at h7;exact h7.1
  have hpos:0<y.args.length:=by
   obtain⟨ky,ny,ay⟩:=y;have h8:ky=8:=HYK.out;subst h8;rw[zdT,if_neg zo,if_neg zo,if_neg zo,if_pos rfl] at hfm;simp only[Bool.and_eq_true] at hfm;cases ay with
   |nil=>simp at hfm
   |cons a r=>show 0<r.length+1;omega
  obtain⟨la,hla⟩:∃la,y.args.length=la+1:=⟨y.args.length-1,zo⟩;have HLA:=zz hla;have hll:=zno HR2.out;have hly:=zqb HT2.out;have hn1:l.length<=9223372036854775807:=Nat.le_trans hll.2.1 hll.2.2;have hn2:la+1<=9223372036854775807:=by have:=Nat.le_trans hly.2.1 hly.2.2;omega
  have hw1':IntKind.i64.wrap (((la+1:Nat):Int)-1)=(la:Int):=by rw[IntWalk.i64_in _ zo];omega
  rw[hla] at y2;clear hfm hpos hla hll hly;clear hw4 hb4 hc4 v2 f2 c0 c1 c2 c3 c4 c5 c6 c7 c8 c9 c10;go_wp2_with fail
  go_quiet (fail)
  go_wp2_with fail;obtain⟨w5,hw5⟩:=zn (w4.drewN nq);have HF5:=zz (HF4.out.drewN nq);have HB5:=zz (zae HB4.out nq);have HX5:Hid (zab (w4.drewN nq) _ _ _):=HX4;have HY5:Hid (zab (w4.drewN nq) _ _ _):=HY4;have HZ5:Hid (zab (w4.drewN nq) _ _ _):=HZ4;have R15:=zz (HF4.out.rd (Chg.of_below (zae (Below.refl _ _) nq)) R14.out);have R25:=zz (HF4.out.rd (Chg.of_below (zae (Below.refl _ _) nq)) R24.out);rw[hw5] at HF5 HB5 HX5 HY5 HZ5 R15 R25 ⊢;clear hw5 v5 y2 HX4 HY4 HZ4 HF4 HB4 R14 R24 R1 R2 HX3 HY3 HF3 HB3 HX2 HY2 HF2 HB2 HR2 HT2;obtain⟨a0,offa,ya,ea,hla0,hya,Aa,ca,t0,t1,t2,ta⟩:=znN (HL.out.rd (Chg.of_below HB5.out) HT0.out) (i:=la) (by rw[HLA.out];omega);subst ea;have hlast:=zwB HLA.out hya;rw[hlast,HLA.out] at hRR;have i1:w5.cell? ⟨w3.heap.size,1,none⟩=some (.slice A1 f.params.length k1):=HZ5.out.cell 1;have i2:w5.cell? ⟨w3.heap.size,2,none⟩=some ↑f.result.kind:=HZ5.out.cell 2;have i3:w5.cell? ⟨w3.heap.size,3,none⟩=some ↑f.result.name:=HZ5.out.cell 3;have i4:w5.cell? ⟨w3.heap.size,4,none⟩=some (.slice A2 f.result.args.length k2):=HZ5.out.cell 4;have i5:w5.cell? ⟨w1.heap.size,2,none⟩=some (.slice (some ⟨a0,offa,none⟩) y.args.length c'):=HY5.out.cell 2;rw[HLA.out] at i5;have o1:=λd os=>cell_regrown i1 d os;have o2:=λd os=>cell_regrown i2 d os;have o3:=λd os=>cell_regrown i3 d os;have o4:=λd os=>cell_regrown i4 d os;have o5:=λd os=>cell_regrown i5 d os;have o6:=λd os=>cell_regrown t0 d os;have o7:=λd os=>cell_regrown t1 d os;have o8:=λd os=>cell_regrown t2 d os;have hla1:(la:Int)<(la:Int)+1:=zo
  clear i1 i2 i3 i4 i5 t0 t1 t2;have R25':=zz (R25.out.weaken HF5.out.lt);have ta':=ta.weaken HF5.out.lt
  have K0:Hid (∀d os,Calls Tryz.prog 239 #[.agg #[↑f.result.kind,↑f.result.name,.slice A2 f.result.args.length k2],.agg #[↑ya.kind,↑ya.name,.slice Aa ya.args.length ca]] (grow (redrawn w5 d) os) λe w'=>e=.returned (.bool (zuF f.result ya))/\∃p:Regrown,w'=grow (redrawn w5 p.d) p.os):=
   zz (λd os=>Calls.regrown_of (by have t:=zvs f.result ya A2 k2 Aa ca (grow (redrawn w5 d) os) (R25'.out.belows (below_regrown w5 d os)) (ta'.belows (below_regrown w5 d os));exact t))
  clear ta ta' hla0
  by_cases hP:f.params.length=l.length+la
  ·have hPi:(f.params.length:Int)=(l.length:Int)+(la:Int):=zo
   have hPn:=ztO (k:=4) (row:=rowF) R15.out;have hPm:f.params.length<=9223372036854775807:=Nat.le_trans hPn.2.1 hPn.2.2;have hw2:IntKind.i64.wrap ((l.length:Int)+(la:Int))=(l.length:Int)+(la:Int):=IntWalk.i64_in _ zo;have hPd:((f.params.length:Int) != (l.length:Int)+(la:Int))=false:=by rw[hPi];simp
   rw[decide_eq_true zo,Bool.true_and] at hRR;obtain⟨v,hv⟩:=zn (zuF f.result ya);rw[hv] at hRR K0;clear hya hlast hv;have HPP:=zz hP;have HPN:=zz hPn.2.1;clear hPi hPn hP;refine wp_region_quiet_below zk zk ?_
   repeat (go_big_quiet_step (first|with_reducible exact K0.out _ _))
   refine wpQuiet_nil ?_;intro _ hw';obtain⟨⟨dq,osq⟩,hw''⟩:=hw';subst hw'';have HB6:=zz (zac HB5.out (below_regrown w5 dq osq) HB5.out.size);have HF6:=zz (HF5.out.below (below_regrown w5 dq osq));clear o1 o2 o3 o4 o5 o6 o7 o8 K0;cases v with
   |false=>
    obtain rfl:false=R:=by
     rw[Bool.false_and,if_neg zs] at hRR;exact hRR
    go_wp2;go_ret;exact⟨rfl,Chg.of_below HB6.out,HF6.out.map⟩
   |true=>
    rw[Bool.true_and] at hRR;have hc6:zab (grow (redrawn w5 dq) osq) w3.heap.size _ _:=zaa (below_regrown w5 dq osq) HZ5.out;have hd6:zab (grow (redrawn w5 dq) osq) w.heap.size _ _:=zaa (below_regrown w5 dq osq) HX5.out;have HY6:=zz (zaa (below_regrown w5 dq osq) HY5.out);have R16:=zz (HF5.out.rd (Chg.of_below (below_regrown w5 dq osq)) R15.out);obtain⟨w6,hw6⟩:=zn (grow (redrawn w5 dq) osq);have hw6':grow (redrawn w5 {d:=dq,os:=osq:Regrown}.d) {d:=dq,os:=osq:Regrown}.os=w6:=hw6;rw[hw6'] ;rw[hw6] at HB6 HF6 hc6 hd6 HY6 R16;have HZ6:=zz hc6;have HX6:=zz hd6;clear hw6 hw6' R15 R25 R25' HX5 HY5 HZ5 HF5 HB5;have i1:w6.cell? ⟨w3.heap.size,1,none⟩=some (.slice A1 f.params.length k1):=hc6.cell 1;clear hc6 hd6;obtain⟨A5,hA5⟩:=zn ((if k1=l.length then A1 else A1.map (λx=>x.add (l.length*4))));obtain⟨P,hP⟩:=zn (f.params.drop l.length);rw[hP] at hRR;have RD:=zxR (k:=4) (row:=rowF) R16.out (by have:=HPP.out;omega) A5 hA5.symm;rw[hP] at RD;have hPl:P.length=la:=by rw[<-hP,List.length_drop];have:=HPP.out;omega
    rw[hPl] at RD;have RD6:Hid (Rd (Lt B) w6 (fls P) (.slice A5 la (k1-l.length))):=zz RD;obtain⟨sz,hsz⟩:=zn (zvx (P.map Fld.ty) y.args);rw[hsz] at hRR;have HRR:Hid ((sz&&zuP pp l (f.params.map Fld.ty))=R):=zz (by cases sz<;>simpa using hRR);have HS0:Hid (zvx ((P.map Fld.ty).drop 0) (y.args.drop 0)=sz):=zz (by simpa using hsz);have HPL:=zz hPl;have HW0:Hid (Below w6.heap.size w6 w6):=zz (Below.refl _ _);have hsub:f.params.length-l.length=la:=by have:=HPP.out;omega
    have hle1:l.length<=f.params.length:=by have:=HPP.out;omega
    have hle2:l.length<=k1:=by have:=HPN.out;omega
    have hle3:(l.length:Int)<=(f.params.length:Int):=zo
    clear hRR hsz hP hPl RD;go_wp2_with fail;have HFR:=zz hf;clear i1 hsub hle1 hle2 hle3 hw2 hPd hA5
    go_loopw [60] (λs60 wr=>∃i:Nat,i<=la/\s60=↑i/\Hid (zvx ((P.map Fld.ty).drop i) (y.args.drop i)=sz)/\Hid (Below w6.heap.size w6 wr)) (λs60 _=>la-(intOf s60).toNat)
    case atStart=>exact⟨0,zo,rfl,HS0,HW0⟩
    case round=>
     clear HS0 HW0;obtain⟨i,hi,rfl,HS1,HW1⟩:=hrel;have HBR:=zz (zac HB6.out HW1.out HB6.out.size);have HFr:=zz (HF6.out.next (Chg.of_below HW1.out) (HF6.out.map.keep (HW1.out.block m HF6.out.map.lt)))
     by_cases hil:i<la
     ·have hin:(i:Int)<(la:Int):=zo
      have hin2:(i:Int)<(la:Int)+1:=zo
      obtain⟨b5,off5,x,A4,k4,e5,hlb5,hx,p0,p1,p2,p3,rx⟩:=zxX (HF6.out.rd (Chg.of_below HW1.out) RD6.out) hil;subst e5;obtain⟨b6,off6,y6,e6,hlb6,hy6,A6,k6,q0,q1,q2,ry⟩:=znN (HL.out.rd (Chg.of_below HBR.out) HT0.out) (i:=i) (by rw[HLA.out];omega);injection e6 with e6;injection e6 with e61 e62 e63;subst e61 e62;have q:=HS1.out;rw[zwW (x:=x.ty) (by rw[List.getElem?_map,hx];rfl) hy6] at q;obtain⟨w7,hw7,hbx,hcx⟩:=zaj wr #[↑x.name,↑x.ty.kind,↑x.ty.name,.slice A4 x.ty.args.length k4] 74;have i1:w7.cell? ⟨wr.heap.size,1,none⟩=some ↑x.ty.kind:=hcx.cell 1;have i2:w7.cell? ⟨wr.heap.size,2,none⟩=some ↑x.ty.name:=hcx.cell 2;have i3:w7.cell? ⟨wr.heap.size,3,none⟩=some (.slice A4 x.ty.args.length k4):=hcx.cell 3;have i4:w7.cell? ⟨w1.heap.size,2,none⟩=some (.slice (some ⟨a0,offa,none⟩) y.args.length c'):=(zaa hbx (zaa HW1.out HY6.out)).cell 2;rw[HLA.out] at i4;have ha0:a0<wr.heap.size:=HFr.out.lt _ hlb6;have i5:w7.cell? ⟨a0,offa+i*3,none⟩=some ↑y6.kind:=(hbx.cell ha0).trans q0;have i6:w7.cell? ⟨a0,offa+i*3+1,none⟩=some ↑y6.name:=(hbx.cell ha0).trans q1;have i7:w7.cell? ⟨a0,offa+i*3+2,none⟩=some (.slice A6 y6.args.length k6):=(hbx.cell ha0).trans q2;have o1:=λd os=>cell_regrown i1 d os;have o2:=λd os=>cell_regrown i2 d os;have o3:=λd os=>cell_regrown i3 d os;have o4:=λd os=>cell_regrown i4 d os;have o5:=λd os=>cell_regrown i5 d os;have o6:=λd os=>cell_regrown i6 d os;have o7:=λd os=>cell_regrown i7 d os;have HF7:=HFr.out.below hbx;have rx7:=(HFr.out.rd (Chg.of_below hbx) rx).weaken HF7.lt;have ry7:=(HFr.out.rd (Chg.of_below hbx) ry).weaken HF7.lt
      have K0:Hid (∀d os,Calls Tryz.prog 239 #[.agg #[↑x.ty.kind,↑x.ty.name,.slice A4 x.ty.args.length k4],.agg #[↑y6.kind,↑y6.name,.slice A6 y6.args.length k6]] (grow (redrawn w7 d) os) λe w'=>e=.returned (.bool (zuF x.ty y6))/\∃p:Regrown,w'=grow (redrawn w7 p.d) p.os):=
       zz (λd os=>Calls.regrown_of (by have t:=zvs x.ty y6 A4 k4 A6 k6 (grow (redrawn w7 d) os) (rx7.belows (below_regrown w7 d os)) (ry7.belows (below_regrown w7 d os));exact t))
      have HW7:=zz (zac HW1.out hbx HW1.out.size);obtain⟨v,hv⟩:=zn (zuF x.ty y6);rw[hv] at q K0;have HQ:=zz q;clear q hv i1 i2 i3 i4 i5 i6 i7 rx ry rx7 ry7 HF7 hcx hbx q0 q1 q2 hx hy6 hlb5 hlb6 ha0;go_wp2_with fail;refine wp_region_quiet_below zk zk ?_
      repeat (go_big_quiet_step (first|with_reducible exact K0.out _ _))
      refine wpQuiet_nil ?_;intro _ hw';obtain⟨⟨dq,osq⟩,hw''⟩:=hw';subst hw'';have HW8:=zz (zac HW7.out (below_regrown w7 dq osq) HW7.out.size);have HB8:=zz (zac HB6.out HW8.out HB6.out.size);clear o1 o2 o3 o4 o5 o6 o7 K0;cases v with
      |false=>
       have HN:Hid (false=R):=zz (by rw[<-HRR.out,<-HQ.out];rfl);go_wp2;go_ret;exact⟨by rw[<-HN.out];rfl,Chg.of_below HB8.out,HL.out.map.keep (HB8.out.block m HL.out.map.lt)⟩
      |true=>
       have HN:Hid (zvx ((P.map Fld.ty).drop (i+1)) (y.args.drop (i+1))=sz):=zz (by rw[<-HQ.out];rfl);clear HQ;go_wp2_with fail;refine⟨⟨_,_,_,_,_,_,_,_,_,_,_,_,_,_,_,_,_,_,⟨i+1,zo,?_,HN,HW8⟩,rfl⟩,?_⟩
       ·go_num
       ·simp[intOf];omega
     ·obtain rfl:i=la:=zo
      have HN:Hid (zuP pp l (f.params.map Fld.ty)=R):=zz (by
       rw[<-HRR.out,<-HS1.out,List.drop_eq_nil_of_le (by rw[List.length_map,HPL.out];omega),zxu,Bool.true_and])
      have i1:wr.cell? ⟨w.heap.size,2,none⟩=some (.int .i64 (nn:Int)):=(zaa HW1.out HX6.out).cell 2;have i2:wr.cell? ⟨w.heap.size,5,none⟩=some (.slice A l.length c):=(zaa HW1.out HX6.out).cell 5;have i3:wr.cell? ⟨w3.heap.size,1,none⟩=some (.slice A1 f.params.length k1):=(zaa HW1.out HZ6.out).cell 1;have KF:=zvB pp p fb m B l HI.out (true,(nn:Int),0) f.params (λx hx=>HA.out.2 f (List.mem_of_getElem? HFR.out) x hx) A A1 c k1 wr HFr.out (HL.out.rd (Chg.of_below HBR.out) HR0.out) (HF6.out.rd (Chg.of_below HW1.out) R16.out);rw[HN.out] at KF;have K1:=zz KF;clear KF HS1;unfold plK at K1;go_wp2_with fail;refine zi K1 ?_;rintro e w9 ⟨rfl,hc9,hm9⟩;have HC9:=zz ((Chg.of_below HBR.out).next hc9);have HM9:=zz hm9;clear hc9 hm9;go_wp2;go_ret;exact⟨rfl,HC9.out,HM9.out⟩
  ·obtain rfl:false=R:=by
    rw[decide_eq_false zo,Bool.false_and,if_neg zs] at hRR;exact hRR
   obtain⟨z,hz⟩:=zn (IntKind.i64.wrap ((l.length:Int)+(la:Int)))
   have hzn:((f.params.length:Int) != z)=true:=by
    rw[bne_iff_ne];intro hzz;rw[<-hz] at hzz;rw[IntWalk.i64_left] at hzz;unfold wrap64 at hzz;omega
   clear hRR hP hya hlast;refine wp_region_quiet_below zk zk ?_
   repeat (go_big_quiet_step (fail))
   refine wpQuiet_nil ?_;intro _ hw';obtain⟨⟨dq,osq⟩,hw''⟩:=hw';subst hw'';have HB6:=zz (zac HB5.out (below_regrown w5 dq osq) HB5.out.size);have HF6:=zz (HF5.out.below (below_regrown w5 dq osq));go_wp2;go_ret;exact⟨rfl,Chg.of_below HB6.out,HF6.out.map⟩
 ·rw[List.getElem?_eq_none zo] at hRR;obtain rfl:false=R:=hRR;have hNi:(p.nF:Int)<=(nn:Int):=zo
  have hNd:decide ((p.nF:Int)<=(nn:Int))=true:=decide_eq_true hNi;clear hnF;go_in;go_wp2_with fail
  go_quiet (fail)
  go_wp2;go_ret;exact⟨rfl,(Chg.of_below HB2.out).drewN _,HF2.out.map⟩
end Go.Proofs.YtcebmphappfjjaaGreatDoor
