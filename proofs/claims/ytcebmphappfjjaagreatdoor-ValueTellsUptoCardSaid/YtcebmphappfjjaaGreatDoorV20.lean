/- Conditions: those in each statement. -/
import Derived.Test.YtcebmphappfjjaaGreatDoorV19
import Derived.Test.YtcebmphappfjjaaGreatDoorV16
import Derived.BigQuiet
set_option maxHeartbeats 32000000
set_option maxRecDepth 100000
namespace Go.Proofs.YtcebmphappfjjaaGreatDoor
open Go.RowKit Go.MapKept
def Emp (L:List (List Nat)):Prop:=∀r∈L,r=[]
theorem zpb (db:Nat) (l:List Nd) (hk2:∀n∈l,n.kind≠2) (hva:∀n∈l,∀x∈zbf n,∀z∈x,BasN z) (hok:zfW l=none) (hs:zaB l<=2097152) (A:Option Addr) (c mt ma:Nat) (LA:List (ByteArray × Value)) (w:World) (hd:DdAt w db A l.length c mt ma (typM l 0) LA) (h:Rd (Lt w.heap.size) w (ns l) (.slice A l.length c)) :
 Calls Tryz.prog 78 #[.pointer (some ⟨db,0,none⟩)] w (FtB w ((zfW l).map (λa=>(11,a)))):=by
 have hl:=zaS h;have hn:l.length<=2097152:=Nat.le_trans (zat l) hs;obtain⟨r,hr⟩:=zn ((zfW l).map (λa=>((11:Int),a)));rw[hr];have HRN:Hid (r=none):=zz (by rw[<-hr,hok];rfl);have HVA:=zz hva;have HE0:Hid (Emp (zfA l).wait):=zz (λx hx=>(List.mem_replicate.1 hx).2);clear hok hva;have hmf:∀(fn:Fn) (first cap:Array Value) (W:World),(Instr.makeFunc fn first cap).run Tryz.prog W=.ok (.func fn first cap) W:=λ_ _ _ _=>rfl;have hmb:=zoU l.length hn;have hmr:=zqn l.length hn;obtain⟨ab,hab⟩:=zn (zeB (List.replicate l.length false));obtain⟨ar,har⟩:=zn ((List.replicate l.length (Value.slice none 0 0)).toArray);rw[hab] at hmb;rw[har] at hmr;have ltd:=hd.box.lt;obtain⟨w1,h1,b1,k1⟩:=zaj w #[↑(),↑()] 117;have s1:w1.heap.size=w.heap.size+1:=by rw[<-h1];simp
 obtain⟨w2,h2,b2,k2⟩:=zaj w1 ab 4;have s2:w2.heap.size=w.heap.size+2:=by rw[<-h2];simp[s1]
 obtain⟨w3,h3,b3,k3⟩:=zaj w2 #[.slice (some ⟨w1.heap.size,0,none⟩) l.length l.length] 163;have s3:w3.heap.size=w.heap.size+3:=by rw[<-h3];simp[s2]
 obtain⟨w4,h4,b4,k4⟩:=zaj w3 ar 107;have s4:w4.heap.size=w.heap.size+4:=by rw[<-h4];simp[s3]
 obtain⟨w5,h5,b5,k5⟩:=zaj w4 #[.slice none 0 0] 107;have s5:w5.heap.size=w.heap.size+5:=by rw[<-h5];simp[s4]
 have e2:=zac b1 b2 b1.size;have e3:=zac e2 b3 e2.size;have e4:=zac e3 b4 e3.size;have e5:=zac e4 b5 e4.size;have x1:w1.cell? ⟨db,0,none⟩=some (.slice A l.length c):=(hd.below b1).box.cell 0;have x3:w3.cell? ⟨db,0,none⟩=some (.slice A l.length c):=(hd.below e3).box.cell 0;have x5:w5.cell? ⟨db,0,none⟩=some (.slice A l.length c):=(hd.below e5).box.cell 0
 have HZ0:Hid (LpSt w w5 (λ_=>2) (zfA l) none 0 none 0 (List.replicate l.length (.slice none 0 0))):=zz (by
  refine LpSt.start (l:=l) (λ_=>2) e5 ?_ ?_ ?_ ?_ ?_
  ·exact zaa b5 (zaa b4 (zaa b3 (zaa b2 k1)))
  ·rw[hab,<-s1];exact zaa b5 (zaa b4 (zaa b3 k2))
  ·rw[<-s1,<-s2];exact zaa b5 (zaa b4 k3)
  ·rw[har,<-s3];exact zaa b5 k4
  ·rw[<-s4];exact k5)
 obtain⟨q0,hq0⟩:=zn (zfw l l 0 (zfA l));have HA0:Hid (zfw l (l.drop 0) 0 (zfA l)=q0):=zz hq0;have HO0:=zz (zpm l);have hfin:zgn l=(zdW l.length q0).fin:=by unfold zgn;rw[hq0]
 have HFIN:=zz hfin;have HR:=zz h;have HD:=zz hd;have HS:=zz hs;have HSG:=zz hk2;have HRR:=zz hr;have HS1:=zz s1;have HS2:=zz s2;have HS3:=zz s3;have HS4:=zz s4;have hbs0:0+zaB (l.drop 0)<=2097152:=by rw[List.drop_zero];omega
 have hl2:=hl.2;clear hl hr h hd hs hk2 hq0 hfin b1 b2 b3 b4 b5 k1 k2 k3 k4 k5 e2 e3 e4 e5 s1 s2 s3 s4 s5;go_in;go_wp2;rw[HS1.out,HS2.out,HS3.out,HS4.out];clear h1 h2 h3 h4 h5 x1 x3 x5 hmb hmr HS1 HS2 HS3 HS4 hab har
 go_loopw [40,5] (λs40 s5 wr=>∃(i:Nat) (s:Lq) (lb:Nat->Nat) (An:Option Addr) (cn:Nat) (Ar:Option Addr) (cr:Nat) (vs:List Value) (b:Nat),i<=l.length/\s40=↑i/\s5=.slice An s.needs.length cn/\Hid (zfw l (l.drop i) i s=q0)/\Hid (LqOk l.length b s)/\b+zaB (l.drop i)<=2097152/\Hid (LpSt w wr lb s An cn Ar cr vs)/\Hid (Emp s.wait)) (λs40 _ _=>l.length-(intOf s40).toNat)
 case atStart=>exact⟨0,zfA l,_,none,0,none,0,_,0,zo,rfl,rfl,HA0,HO0,hbs0,HZ0,HE0⟩
 case round=>
  clear HA0 HO0 HZ0 hbs0 HE0;obtain⟨i,s,lb,An,cn,Ar,cr,vs,b,hi,rfl,rfl,HA,HO,hbs,HB,HE⟩:=hrel
  by_cases hlt:i<l.length
  ·have sB:=HB.out.low.size;have sBr:=HB.out.rbx.lt;have rr:=Rd.below (ok:=Lt w.heap.size) HB.out.low (λ_ h=>h) HR.out;obtain⟨b0,off,y,e,hlb0,hget,A',c',p0,p1,p2,p3,p4,r5⟩:=zbC rr hlt;subst e;have hin:(i:Int)<l.length:=zo
   have hym:=List.mem_of_getElem? hget;have hys:=zaK hym;have hyS:y.size=1+zaB y.kids:=by cases y;rw[zbT];rfl
   have hS0:=HS.out;have hsy:zaB y.kids<=2097152:=zo
   have q:=HA.out;rw[zal hget,zfw] at q;rw[zal hget,zcR] at hbs;obtain⟨w3',hw3,hb3,hx3⟩:=zaj wr #[↑y.kind,↑y.text,↑y.n,↑y.at',.slice A' y.kids.length c'] 49;obtain⟨y0,y1,y2,y3,y4⟩:=hx3.c5;have hsl:∀q,q<wr.heap.size->(λq=>if q<wr.heap.size then lb q else 2) q=lb q:=λq hq=>if_pos hq;obtain⟨lb1,hlb⟩:∃g:Nat->Nat,(λq=>if q<wr.heap.size then lb q else 2)=g:=⟨_,rfl⟩;rw[hlb] at hsl;have hnew:∀q,wr.heap.size<=q->lb1 q=2:=λq hq=>by rw[<-hlb];exact if_neg zo
   have Z3:=zz ((HB.out.relab hsl).below hb3);have hs3:=hb3.size;have KC:=zz (zhb (λb=>b<w.heap.size) y (HSG.out y hym) hsy A' c' w3' ((Rd.below (ok:=Lt w.heap.size) hb3 (λb hb=>Nat.lt_of_lt_of_le hb sB) r5).weaken (λb hb=>⟨hb,Nat.lt_of_lt_of_le hb (Nat.le_trans sB hs3)⟩)));have hcost:=ztq y;obtain⟨cs,hcs⟩:=zn (zbf y);have hbc:=HVA.out y hym;rw[hcs] at KC q hcost hbc;have HBC:=zz hbc;clear hbc;have hbs2:b+zkA (cs.drop 0)+zaB (l.drop (i+1))<=2097152:=by rw[List.drop_zero];omega
   have HG0:Hid (zfw l (l.drop (i+1)) (i+1) ((cs.drop 0).foldl (zkp l i) s)=q0):=zz q;have HNW:=zz hnew;clear q hcs hcost hlb hsl hnew hb3 hx3 HA hget hlb0 hym hys hyS hS0 hsy r5 rr;go_wp2_with fail;refine zi KC ?_;rintro e w4' ⟨hb4,A4,c4,rfl,hr4⟩;have Z4:=zz (Z3.out.below hb4);have hcl:=hr4.sl_inv
   have hcl2:cs.length<=c4/\c4<=9223372036854775807:=by
    obtain⟨_,_,e,h1,h2,_⟩:=hcl;injection e with e1 e2 e3;subst e3;exact⟨h1,h2⟩
   have HRC:Hid (Rd (LtP (Oth w.heap.size lb1) w4'.heap.size) w4' (slG 1 ziF cs) (.slice A4 cs.length c4)):=zz (hr4.weaken (λq hq=>⟨hq.1.elim .inl (λx=>.inr ⟨zo,HNW.out q zo⟩),hq.2⟩));obtain⟨nc,hnc0⟩:=zn w4'.heap.size;rw[hnc0] at HRC;have hnc:nc<=w4'.heap.size:=zo
   clear hb4 hr4 hcl hnc0 hw3 y0 y1 y2 y3 y4 Z3 HNW KC hs3 HB p0 p1 p2 p3 p4;go_wp2
   go_loopw [48,5] (λs48 s5 wx=>∃(k:Nat) (s:Lq) (lb:Nat->Nat) (An:Option Addr) (cn:Nat) (Ar:Option Addr) (cr:Nat) (vs:List Value) (b:Nat),k<=cs.length/\s48=↑k/\s5=.slice An s.needs.length cn/\Hid (zfw l (l.drop (i+1)) (i+1) ((cs.drop k).foldl (zkp l i) s)=q0)/\Hid (LqOk l.length b s)/\b+zkA (cs.drop k)+zaB (l.drop (i+1))<=2097152/\Hid (LpSt w wx lb s An cn Ar cr vs)/\Hid (Rd (LtP (Oth w.heap.size lb) nc) wx (slG 1 ziF cs) (.slice A4 cs.length c4))/\nc<=wx.heap.size/\Hid (Emp s.wait)) (λs48 _ _=>cs.length-(intOf s48).toNat)
   case atStart=>exact⟨0,s,lb1,An,cn,Ar,cr,vs,b,zo,rfl,rfl,HG0,HO,hbs2,Z4,HRC,hnc,HE⟩
   case round=>
    clear HG0 HO hbs hbs2 Z4 HRC hnc HE;obtain⟨k,s,lb,An,cn,Ar,cr,vs,b,hk,rfl,rfl,HG,HO,hbs,HB,HRC,hnc,HE⟩:=hrel
    by_cases hlk:k<cs.length
    ·obtain⟨b4,off4,x,A5,c5,e,hob,hget,p0,r5⟩:=zuK HRC.out hlk;subst e;have hkn:(k:Int)<cs.length:=zo
     have HBX:=zz (HBC.out x (List.mem_of_getElem? hget));have q:=HG.out;rw[zal hget,List.foldl_cons] at q;rw[zal hget,show zkA (x::cs.drop (k+1))=1+x.length+zkA (cs.drop (k+1)) by unfold zkA;rw[List.map_cons,List.sum_cons]] at hbs;have sB:=HB.out.low.size;have sBr:=HB.out.rbx.lt;obtain⟨w5',hw5,hb5,hx5⟩:=zaj wr #[↑i,↑()] 170;have hz5:w5'.heap.size=wr.heap.size+1:=by rw[<-hw5];simp
     have hsl:∀q,q<wr.heap.size->(λq=>if q<wr.heap.size then lb q else 2) q=lb q:=λq hq=>if_pos hq;obtain⟨lb2,hlb⟩:∃g:Nat->Nat,(λq=>if q<wr.heap.size then lb q else 2)=g:=⟨_,rfl⟩;rw[hlb] at hsl;have hnew:∀q,wr.heap.size<=q->lb2 q=2:=λq hq=>by rw[<-hlb];exact if_neg zo
     have Z5:=zz ((HB.out.relab hsl).below hb5);have HRC5:=zz (zdA (zcW HRC.out hnc hsl) hnc hb5);have HRX5:=zz (zdA (zcW r5 hnc hsl) hnc hb5);have hxl:=zaS r5;have hx1:=hxl.2.1;have hx2:=hxl.2.2;obtain⟨nb,hnb⟩:=zn wr.heap.size;have HNB:=zz hnb;have HX5:Hid (zab w5' nb #[↑i,↑()] 170):=zz (by rw[<-hnb];exact hx5);have hl2':lb2 nb=2:=hnew nb zo;have HL5:=zz hl2';have hnb5:nc<=nb/\nb<w5'.heap.size/\w.heap.size+5<=nb:=zo
     obtain⟨pq,hpq⟩:=zn (x.foldl (argQ l s.needs.length) (s.wait,0));have HP0:Hid ((x.drop 0).foldl (argQ l s.needs.length) (s.wait,0)=pq):=zz hpq;have HW0:Hid (WOk l.length (b+0) (s.needs.length+1) s.wait):=zz (HO.out.wt.mono (Nat.le_refl _) (Nat.le_succ _));have HPQ:=zz hpq;have HQ:=zz q;have HW5:=zz hw5;have hbx:b+(1+x.length)+zkA (cs.drop (k+1))+zaB (l.drop (i+1))<=2097152:=zo
     clear q hpq hlb hsl hnew hb5 hx5 hxl r5 HG HB HRC hget hob hz5 hl2' hbs hnb hw5;go_wp2;rw[HW5.out,HNB.out];clear HW5 p0 HNB
     go_loopw [56] (λs56 wz=>∃(m:Nat) (W3:List (List Nat)) (left:Int) (lb:Nat->Nat) (vs:List Value),m<=x.length/\s56=↑m/\Hid ((x.drop m).foldl (argQ l s.needs.length) (W3,left)=pq)/\Hid (WOk l.length (b+m) (s.needs.length+1) W3)/\Hid (LpSt w wz lb {s with wait:=W3} An cn Ar cr vs)/\Hid (zab wz nb #[↑i,↑left] 170)/\Hid (lb nb=2)/\nb<wz.heap.size/\Hid (Rd (LtP (Oth w.heap.size lb) nc) wz (slG 1 ziF cs) (.slice (some ⟨b4,off4,none⟩) cs.length c4))/\Hid (Rd (LtP (Oth w.heap.size lb) nc) wz (ns x) (.slice A5 x.length c5))/\Hid (left=0)/\Hid (Emp W3)) (λs56 _=>x.length-(intOf s56).toNat)
     case atStart=>exact⟨0,s.wait,0,lb2,vs,zo,rfl,HP0,HW0,Z5,HX5,HL5,hnb5.2.1,HRC5,HRX5,zz rfl,HE⟩
     case round=>
      clear HP0 HW0 Z5 HX5 HL5 HRC5 HRX5 HE;obtain⟨m,W3,left,lb,vs,hm,rfl,HP,HW,HB,HX,HL,hnz,HRC,HRX,HLF,HE⟩:=hrel;have hncz:nc<=wr.heap.size:=zo
      by_cases hlm:m<x.length
      ·obtain⟨b6,off6,z,e,hob,hget,A6,c6,g0,g1,g2,g3,g4,r6⟩:=zbC HRX.out hlm;subst e;have hmn:(m:Int)<x.length:=zo
       have hbz:=HBX.out z (List.mem_of_getElem? hget);have HBZ:=zz hbz;clear hbz;have q:=HP.out;rw[zal hget,List.foldl_cons] at q;have sB:=HB.out.low.size;have sBr:=HB.out.rbx.lt;obtain⟨w7,hw7,hb7,hx7⟩:=zaj wr #[↑z.kind,↑z.text,↑z.n,↑z.at',.slice A6 z.kids.length c6] 49;have hz7:=hb7.size;have t0:=hx7.a 0 rfl;have t1:=hx7.a 1 rfl;have hsl:∀q,q<wr.heap.size->(λq=>if q<wr.heap.size then lb q else 2) q=lb q:=λq hq=>if_pos hq;obtain⟨lb3,hlb⟩:∃g:Nat->Nat,(λq=>if q<wr.heap.size then lb q else 2)=g:=⟨_,rfl⟩;rw[hlb] at hsl;have hnew:∀q,wr.heap.size<=q->lb3 q=2:=λq hq=>by rw[<-hlb];exact if_neg zo
       have Z7:=zz ((HB.out.relab hsl).below hb7);have HRC7:=zz (zdA (zcW HRC.out hncz hsl) hncz hb7);have HRX7:=zz (zdA (zcW HRX.out hncz hsl) hncz hb7);have HX7:=zz (zaa hb7 HX.out);have HL7:Hid (lb3 nb=2):=zz (by rw[hsl nb hnz];exact HL.out);have hnz7:nb<w7.heap.size:=zo
       have HWn:=zz (HW.out.mono (b':=b+(m+1)) zo (Nat.le_refl _))
       have hno:¬(z.kind=12/\zbW z.text=0)->Hid ((x.drop (m+1)).foldl (argQ l s.needs.length) (W3,left)=pq):=λhc=>zz (by
        rw[show argQ l s.needs.length (W3,left) z=(W3,left) by unfold argQ;rw[if_neg hc]] at q;exact q)
       have y1:w7.cell? ⟨db,1,none⟩=some (.map (some mt)):=(HD.out.below Z7.out.low).box.cell 1;have hlk:∀q,_:=λq=>zov ((HD.out.below Z7.out.low).below (zae (Below.refl _ _) q)).tm z.text
       by_cases h12:z.kind=12
       ·have e12:(z.kind == 12)=true:=by rw[h12];rfl
        have KB:=zz (zgh z.text w7)
        by_cases hbk:zbW z.text=0
        ·exact absurd hbk HBZ.out.2.2.2
        ·have hbb:(zbW z.text == 0)=false:=by rw[beq_eq_false_iff_ne];exact hbk
         have HQ2:=hno (λh=>hbk h.2);clear q hno hlb hsl hnew hb7 hx7 HP HB HRC HRX hget hob h12 HX HL r6 HW hlk y1 hbk;generalize zbW z.text=B at *
         go_wp2_with fail;refine zi KB ?_;rintro e w8 ⟨rfl,rfl⟩;go_wp2;exact⟨⟨m+1,W3,left,lb3,vs,zo,by go_num,HQ2,HWn,Z7,HX7,HL7,hnz7,HRC7,HRX7,HLF,HE⟩,by simp[intOf];omega⟩
       ·exact absurd HBZ.out.1 h12
      ·have q:=HP.out;rw[List.drop_eq_nil_of_le zo,List.foldl_nil] at q;subst q;have hml:m=x.length:=zo
       subst hml;have sB:=HB.out.low.size;have sBr:=HB.out.rbx.lt;have u0:=HX.out.a 0 rfl;have u1:=HX.out.a 1 rfl;have hsl:∀q,q<wr.heap.size->(λq=>if q<wr.heap.size then lb q else 0) q=lb q:=λq hq=>if_pos hq;obtain⟨lb3,hlb⟩:∃g:Nat->Nat,(λq=>if q<wr.heap.size then lb q else 0)=g:=⟨_,rfl⟩;rw[hlb] at hsl;have hnew:∀q,wr.heap.size<=q->lb3 q=0:=λq hq=>by rw[<-hlb];exact if_neg zo
       have Z7:=zz (HB.out.relab hsl);have HRC7:=zz (zcW HRC.out hncz hsl);have ba:=zag wr (.cells #[↑i,↑left] 170);have Z8:=zz (Z7.out.below ba);have HX8:=zz (zaa ba HX.out);have HL7:Hid (lb3 nb=2):=zz (by rw[hsl nb hnz];exact HL.out);have HRC8:=zz (zdA HRC7.out hncz ba);have sl8:=ba.size;have HNW:=zz hnew;have hnl:=HO.out.nl;have HCK:Hid (LqOk l.length (b+(1+x.length)) (zkp l i s x)):=zz (HO.out.ctor rfl hlt);have hnl8:=HCK.out.nl;have hct:=HCK.out.ct;have hrd:=HCK.out.rd
       have hct0:zkp l i s x=if left=0 then zaV {s with wait:=W3,needs:=s.needs++[(i,left)] } i else {s with wait:=W3,needs:=s.needs++[(i,left)] }:=by
        unfold zkp;rw[HPQ.out]
       have HCT:=zz hct0;have hfl:=HO.out.fl;have hifn:i<s.fin.length:=by rw[hfl];exact hlt
       have hrdy:s.ready.length<=2097152:=by have:=HO.out.ct;omega
       clear hlb hsl hnew ba hct0 HB Z7 HRC7 HRC HRX HX HL hct hrd hnl8 HPQ HW HP hfl;go_wp2_with (at_builtin;refine zaJ zoi zsU Tryz.underlying164 rfl zo zo rfl _ _ rfl (LB w.heap.size lb3 0) ⟨zo,HNW.out _ zo⟩ (.slice An s.needs.length cn) s.needs rfl Z8.out.o0 ⟨wr.heap.size,0,none⟩ 1 (i,left) [↑i,↑left] rfl rfl ?n2 ?n3 ?n4 ?_)
       case n2=>exact zaI _ zr _ _
       case n3=>
        intro j u hj
        match j with
        |0=>simp at hj;exact hj.symm
        |1=>simp at hj;exact hj.symm
        |j+2=>simp at hj
       case n4=>omega
       intro v' w9 hO hg _;replace hO:OwnS (LB w.heap.size lb3 0) 170 2 (s.needs++[(i,left)]).length (zan zoi (s.needs++[(i,left)])) w9 v':=by rw[List.length_append];exact hO
       obtain⟨L,hL⟩:=zn (s.needs++[(i,left)]);rw[hL] at hO HCT;obtain⟨A9,c9,rfl,_⟩:=hO.owned0.rd.sl_inv;have hch:Chg (LB w.heap.size lb3 0) _ w9:=Chg.of_grown hg (λq hq=>(Z8.out.o0.below_own q hq).1);have Z9:=zz (Z8.out.grownN hO hg);have hmv:=hch.mono (λq hq=>ztL hq zo:∀q,LB w.heap.size lb3 0 q->Mv w.heap.size lb3 q);have hnc8:nc<=(wr.alloc (.cells #[↑i,↑left] 170)).heap.size:=zo
       have HRC9:=zz (zhL HRC8.out hnc8 hmv);have HX9:=zz (HX8.out.keep hmv (zqH (.inr ⟨hnb5.2.2,HL7.out⟩)));have u1:=HX9.out.a 1 rfl;have hs9:=hmv.size;have hnc9:nc<=w9.heap.size:=zo
       clear hO hg hch hL Z8 HX8 HRC8 hmv
       by_cases h0:left=0
       ·have e0:(left == 0)=true:=by rw[h0];rfl
        have q:=HQ.out;have q1:=HCT.out;rw[if_pos h0] at q1;rw[q1] at q HCK;have hsl4:∀q,q<w9.heap.size->(λq=>if q<w9.heap.size then lb3 q else 1) q=lb3 q:=λq hq=>if_pos hq;obtain⟨lb4,hlb4⟩:∃g:Nat->Nat,(λq=>if q<w9.heap.size then lb3 q else 1)=g:=⟨_,rfl⟩;rw[hlb4] at hsl4;have hnew4:∀q,w9.heap.size<=q->lb4 q=1:=λq hq=>by rw[<-hlb4];exact if_neg zo
        have KS:=zz (ziW i (Z9.out.relab hsl4) hifn hrdy hnew4);have HRC10:=zz (zcW HRC9.out hnc9 hsl4);have HQ2:=zz q;have hnd:(zaV {s with wait:=W3,needs:=L} i).needs=L:=zda _ _;have HE3:Hid (Emp (zaV {s with wait:=W3,needs:=L} i).wait):=zz (by rw[zhJ];exact HE.out);clear q q1 hlb4 hsl4 hnew4 HCT Z9 HRC9 HX9 h0;go_wp2_with fail;refine zi KS ?_;rintro e w11 ⟨rfl,Ar',cr',hz,hc⟩;have HRC11:=zz (zhL HRC10.out hnc9 hc);have hs11:=hc.size;have Z11:=zz hz;clear hz hc KS u1;go_wp2;exact⟨⟨k+1,_,lb4,A9,c9,Ar',cr',vs,b+(1+x.length),zo,by go_num,by rw[hnd],HQ2,HCK,hbx,Z11,HRC11,zo,HE3⟩,by simp[intOf];omega⟩
       ·exact absurd HLF.out h0
    ·have HG2:Hid (zfw l (l.drop (i+1)) (i+1) s=q0):=zz (by
      have q:=HG.out;rw[List.drop_eq_nil_of_le (show cs.length<=k by omega)] at q;exact q)
     have hbs3:b+zaB (l.drop (i+1))<=2097152:=zo
     clear HG HRC;go_wp2;exact⟨⟨i+1,s,lb,An,cn,Ar,cr,vs,b,zo,by go_num,rfl,HG2,HO,hbs3,HB,HE⟩,by simp[intOf];omega⟩
  ·have e0:s=q0:=by
    have q:=HA.out;rw[List.drop_eq_nil_of_le zo,zfw] at q;exact q
   subst e0;obtain⟨rq,hrq⟩:=zn (zdW l.length s);have HFQ:Hid (zgn l=rq.fin):=zz (by rw[HFIN.out,hrq]);obtain⟨N,hN⟩:=zn s.needs.length;have HN0:=zz hN;have HRQ0:=zz hrq;have HC0:=zz HO.out.ct;have hNb:N<=2097152:=by rw[<-hN];exact Nat.le_trans HO.out.nl zo
   have HOB:Hid (LqOk l.length 2097152 s):=zz (HO.out.mono zo);clear HA HFIN hrq hbs HO;go_wp2;rw[HN0.out];clear hN
   go_loopw [17] (λ_ wr=>∃(f:Nat) (s:Lq) (lb:Nat->Nat) (Ar:Option Addr) (cr:Nat),Hid (zdW f s=rq)/\Hid (s.fin.count false+s.ready.length<=f)/\Hid (LqOk l.length 2097152 s)/\Hid (s.needs.length=N)/\Hid (LpSt w wr lb s An cn Ar cr vs)/\Hid (Emp s.wait)) (λ_ wr=>msr w.heap.size wr)
   case atStart=>exact⟨l.length,s,lb,Ar,cr,HRQ0,HC0,HOB,HN0,HB,HE⟩
   case round=>
    clear HRQ0 HC0 HOB HN0 HB HE;obtain⟨f,s,lb,Ar,cr,HQ,HC,HO,HN,HB,HE⟩:=hrel;have x0:=HB.out.rbx.a 0 rfl;have sB:=HB.out.low.size;have sBr:=HB.out.rbx.lt;rcases Nat.eq_zero_or_eq_succ_pred s.ready.length with h0|h0
    ·have hre:s.ready=[]:=List.eq_nil_of_length_eq_zero h0;have q:=HQ.out;rw[zmg hre] at q;subst q;rw[h0] at x0;have x1:wr.cell? ⟨db,0,none⟩=some (.slice A l.length c):=(HD.out.below HB.out.low).box.cell 0;have HF0:Hid ((lpF s.fin (l.drop 0) 0).map (λa=>((11:Int),a))=r):=zz (by rw[List.drop_zero,<-HFQ.out,<-zql];exact HRR.out);have hfl:=HO.out.fl;have HFL:=zz hfl;clear hre hfl HC HN HQ HO;go_wp2;clear x0 x1
     go_loopw [154] (λs154 wx=>∃i:Nat,i<=l.length/\s154=↑i/\Hid ((lpF s.fin (l.drop i) i).map (λa=>((11:Int),a))=r)/\Hid (LpSt w wx lb s An cn Ar cr vs)) (λs154 _=>l.length-(intOf s154).toNat)
     case atStart=>exact⟨0,zo,rfl,HF0,HB⟩
     case round=>
      clear HF0 HB;obtain⟨i,hi,rfl,HA,HB⟩:=hrel
      by_cases hlt:i<l.length
      ·have sB:=HB.out.low.size;have sBr:=HB.out.rbx.lt;obtain⟨b0,off,y,e,hlb0,hget,A',c',p0,p1,p2,p3,p4,r5⟩:=zbC (HR.out.belows HB.out.low) hlt;subst e;have hin:(i:Int)<l.length:=zo
       have q:=HA.out;rw[zal hget,lpF] at q;obtain⟨w3',hw3,hb3,hx3⟩:=zaj wr #[↑y.kind,↑y.text,↑y.n,↑y.at',.slice A' y.kids.length c'] 49;have y0:=hx3.a 0 rfl;have y3:=hx3.a 3 rfl;have Z3:=zz (HB.out.below hb3);have hif:i<s.fin.length:=by rw[HFL.out];exact hlt
       have hifi:(i:Int)<s.fin.length:=zo
       have f0:=Z3.out.fbx.a 0 rfl;have f1:w3'.cell? ⟨w.heap.size+1,i,none⟩=some (.bool s.fin[i]):=by rw[Z3.out.fin.cell];simp[zeB,hif]
       have hgd:s.fin.getD i false=s.fin[i]:=by simp[List.getD,List.getElem?_eq_getElem hif]
       rw[hgd] at q;obtain⟨bf,hbf⟩:=zn (s.fin[i]);rw[hbf] at f1 q
       by_cases hk:y.kind=2\/y.kind=3
       ·have hkk:((y.kind == 2)=true)\/((y.kind == 2)=false/\(y.kind == 3)=true):=by
         rcases hk with h|h
         ·left;rw[h];rfl
         ·right;rw[h];exact⟨rfl,rfl⟩
        cases bf with
        |true=>
         rw[if_neg zs] at q;have HQ2:=zz q;clear q hbf hgd hb3 hx3 HA HB hget hlb0 r5 hk;rcases hkk with e2|⟨e2,e3⟩
         all_goals
          go_wp2;exact⟨⟨i+1,zo,by go_num,HQ2,Z3⟩,by simp[intOf];omega⟩
        |false=>
         rw[if_pos ⟨hk,rfl⟩] at q;exact absurd ((show some (11,y.at')=r from q).trans HRN.out) zs
       ·have e2:(y.kind == 2)=false:=by rw[beq_eq_false_iff_ne];omega
        have e3:(y.kind == 3)=false:=by rw[beq_eq_false_iff_ne];omega
        rw[if_neg (λh=>hk h.1)] at q;have HQ2:=zz q;clear q hbf hgd hb3 hx3 HA HB hget hlb0 r5 hk;go_wp2;exact⟨⟨i+1,zo,by go_num,HQ2,Z3⟩,by simp[intOf];omega⟩
      ·have HQ2:Hid (none=r):=zz (by
        have q:=HA.out;rw[List.drop_eq_nil_of_le zo,lpF] at q;exact q)
       have ZF:Hid (FbSt w wr):=zz ⟨HB.out.low,HB.out.res⟩;have u0:=ZF.out.res.cell 0;have u1:=ZF.out.res.cell 1;have uz:=ZF.out.res.fz;clear HA;go_wp2
       first
        |exact zhx zr ZF.out (by rw[<-HQ2.out]) zr zr rfl
        |exact zfS zr ZF.out (by rw[<-HQ2.out]) zr zr rfl
    ·obtain⟨n1,hn1⟩:=zn s.ready.length.pred;rw[hn1] at h0;have hlt1:n1<s.ready.length:=zo
     have hrn:s.ready[n1]?=some s.ready[n1]:=List.getElem?_eq_getElem hlt1;obtain⟨gr,hgr,hgr1,hgr2,x1⟩:=zpx HB.out.o1 hlt1;obtain⟨i,hi0⟩:=zn (s.ready[n1]);rw[hi0] at hrn x1;subst hgr;have hin:i<l.length:=by rw[<-hi0];exact HO.out.rd _ (List.getElem_mem hlt1)
     have hinn:(i:Int)<l.length:=zo
     obtain⟨f',hf'⟩:∃f',f=f'+1:=⟨f-1,by have:=HC.out;omega⟩;subst hf';have q:=HQ.out;rw[zmC h0 hrn] at q;have Z1:=HB.out.take zo;have hw1:=HB.out.wt.row i _ (List.getElem?_eq_getElem (by rw[HO.out.wt.1];exact hin));obtain⟨r5,hr5⟩:∃r,s.wait[i]'(by rw[HO.out.wt.1];exact hin)=r:=⟨_,rfl⟩;have hwi:s.wait[i]?=some r5:=by rw[List.getElem?_eq_getElem (by rw[HO.out.wt.1];exact hin),hr5]
     rw[hr5] at hw1;have HR50:Hid (r5=[]):=zz (HE.out r5 (List.mem_of_getElem? hwi));have hgd:s.wait.getD i []=r5:=by simp[List.getD,hwi]
     rw[hgd] at q
     have hr5c:∀c∈r5,c<N:=by
      have:=(HO.out.wt.get hin).2;rw[hgd,HN.out] at this;exact this
     have hr5l:r5.length<=2097152:=by
      have:=(HO.out.wt.get hin).1;rw[hgd] at this;exact this
     obtain⟨Aw,cw,hv,_⟩:=hw1
     have hcl:r5.length<=cw/\cw<=9223372036854775807:=by
      obtain⟨A2,c2,h1,h2⟩:=HB.out.wt.row i r5 hwi;have e:=h1.symm.trans hv;injection e with e;injection e with e1 e2 e3;subst e1 e3;obtain⟨_,_,e5,h5,h6,_⟩:=h2.owned0.rd.sl_inv;injection e5 with e6 e7 e8;subst e8;exact⟨h5,h6⟩
     rw[h0] at x0;have z0:=HB.out.rbx.fz;have hpred:s.ready.length-1=n1:=zo
     rw[hpred] at Z1
     have hC1:s.fin.count false+s.ready.dropLast.length<=f':=by
      have:=HC.out;rw[List.length_dropLast];omega
     have hC2:s.fin.count false+s.ready.dropLast.length<s.fin.count false+s.ready.length:=by
      rw[List.length_dropLast];omega
     obtain⟨s1,hs1⟩:=zn (({s with ready:=s.ready.dropLast}:Lq));have hO1:=HO.out.take;have hW1:s1.wait=s.wait:=by rw[<-hs1]
     have hN1:s1.needs.length=N:=by rw[<-hs1];exact HN.out
     have hK1:s1.fin.count false+s1.ready.length=s.fin.count false+s.ready.dropLast.length:=by rw[<-hs1]
     rw[hs1] at Z1 q hO1;obtain⟨K,hK⟩:=zn (s.fin.count false+s.ready.dropLast.length);rw[hK] at hK1 hC1 hC2;have hlen:s1.ready.length=n1:=by rw[<-hs1];show s.ready.dropLast.length=n1;rw[List.length_dropLast];omega
     obtain⟨w1',hw1'⟩:∃W,wr.setCell ⟨w.heap.size+4,0,none⟩ (.slice (some ⟨gr,0,none⟩) n1 cr)=W:=⟨_,rfl⟩;rw[hw1'] at Z1;have v1:w1'.cell? ⟨w.heap.size+3,i,none⟩=some (.slice Aw r5.length cw):=by rw[Z1.wt.box.cell];simpa using hv
     obtain⟨s9,hs9⟩:=zn (r5.foldl hitQ s1);rw[hs9] at q;have HQ9:=zz q;have HF0:Hid ((r5.drop 0).foldl hitQ s1=s9):=zz hs9;have HZ1:=zz Z1;have HO1:=zz hO1;have HW1:=zz hW1;have HN1:=zz hN1;have HK1:=zz hK1;have HWI:=zz hwi;have HV:=zz hv;have HR5:=zz hr5c;have HC1:=zz hC1;have HC2:=zz hC2;have HMS:=zz (zsI HB.out);have hn1b:n1+1<=cr:=zo
     clear q hs9 Z1 hO1 hW1 hN1 hK1 hwi hv hr5c hC1 hC2 hK hs1 hi0 hrn h0 hn1 hlt1 hgr1 hlen hpred hgd hr5 HQ HC HO HN HB;go_wp2;clear hw1' x0 x1 z0 v1
     go_loopw [123] (λs123 wx=>∃(k:Nat) (s2:Lq) (lb:Nat->Nat) (Ar:Option Addr) (cr:Nat),k<=r5.length/\s123=↑k/\Hid ((r5.drop k).foldl hitQ s2=s9)/\Hid (s2.wait=s.wait)/\Hid (s2.fin.count false+s2.ready.length=K)/\Hid (LqOk l.length 2097152 s2)/\Hid (s2.needs.length=N)/\Hid (LpSt w wx lb s2 An cn Ar cr vs)) (λs123 _=>r5.length-(intOf s123).toNat)
     case atStart=>exact⟨0,s1,lb,_,cr,zo,rfl,HF0,HW1,HK1,HO1,HN1,HZ1⟩
     case round=>
      clear HF0 HK1 HO1 HN1 HZ1 HW1;obtain⟨k,s2,lb,Ar,cr,hk,rfl,HF,HW,HK,HO,HN,HB⟩:=hrel
      by_cases hlk:k<r5.length
      ·rw[HR50.out] at hlk;exact absurd hlk (Nat.not_lt_zero _)
      ·have q:=HF.out;rw[List.drop_eq_nil_of_le (show r5.length<=k by omega),List.foldl_nil] at q;subst q;have HM2:=zz (zsI HB.out);have HC9:Hid (s2.fin.count false+s2.ready.length<=f'):=zz (by rw[HK.out];exact HC1.out);have hmm:Hid (msr w.heap.size wr<s.fin.count false+s.ready.length):=zz (by rw[HM2.out,HK.out];exact HC2.out);have HE2:Hid (Emp s2.wait):=zz (by rw[HW.out];exact HE.out);clear HM2 HF HK HC1 HC2 HR5 HV HWI HW;go_wp2_with fail;refine⟨⟨f',s2,lb,Ar,cr,HQ9,HC9,HO,HN,HB,HE2⟩,?_⟩;rw[HMS.out];exact hmm.out
end Go.Proofs.YtcebmphappfjjaaGreatDoor
