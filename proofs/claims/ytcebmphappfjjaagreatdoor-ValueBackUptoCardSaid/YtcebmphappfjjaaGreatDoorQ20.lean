/- Conditions: those in each statement. -/
import Derived.Test.YtcebmphappfjjaaGreatDoorQ19
import Derived.Test.YtcebmphappfjjaaGreatDoorQ16
import Derived.BigQuiet
set_option maxHeartbeats 32000000
set_option maxRecDepth 100000
namespace Go.Proofs.YtcebmphappfjjaaGreatDoor
open Go.RowKit Go.MapKept
theorem zpb (db:Nat) (l:List Nd) (hsg:∀n∈l,zeE n.kids) (hs:zaB l<=2097152) (A:Option Addr) (c mt ma:Nat) (LA:List (ByteArray × Value)) (w:World) (hd:DdAt w db A l.length c mt ma (typM l 0) LA) (h:Rd (Lt w.heap.size) w (ns l) (.slice A l.length c)) :
 Calls Tryz.prog 78 #[.pointer (some ⟨db,0,none⟩)] w (FtB w ((zfW l).map (λa=>(11,a)))):=by
 have hl:=zaS h;have hn:l.length<=2097152:=Nat.le_trans (zat l) hs;obtain⟨r,hr⟩:∃r,(zfW l).map (λa=>((11:Int),a))=r:=⟨_,rfl⟩;rw[hr];have hmf:∀(fn:Fn) (first cap:Array Value) (W:World),(Instr.makeFunc fn first cap).run Tryz.prog W=.ok (.func fn first cap) W:=λ_ _ _ _=>rfl;have hmb:=zoU l.length hn;have hmr:=zqn l.length hn;obtain⟨ab,hab⟩:∃a,zeB (List.replicate l.length false)=a:=⟨_,rfl⟩;obtain⟨ar,har⟩:∃a,(List.replicate l.length (Value.slice none 0 0)).toArray=a:=⟨_,rfl⟩;rw[hab] at hmb;rw[har] at hmr;have ltd:=hd.box.lt;obtain⟨w1,h1,b1,k1⟩:=zaj w #[.int .i64 0,.int .i64 0] 117;have s1:w1.heap.size=w.heap.size+1:=by rw[<-h1];simp
 obtain⟨w2,h2,b2,k2⟩:=zaj w1 ab 4;have s2:w2.heap.size=w.heap.size+2:=by rw[<-h2];simp[s1]
 obtain⟨w3,h3,b3,k3⟩:=zaj w2 #[.slice (some ⟨w1.heap.size,0,none⟩) l.length l.length] 163;have s3:w3.heap.size=w.heap.size+3:=by rw[<-h3];simp[s2]
 obtain⟨w4,h4,b4,k4⟩:=zaj w3 ar 107;have s4:w4.heap.size=w.heap.size+4:=by rw[<-h4];simp[s3]
 obtain⟨w5,h5,b5,k5⟩:=zaj w4 #[.slice none 0 0] 107;have s5:w5.heap.size=w.heap.size+5:=by rw[<-h5];simp[s4]
 have e2:=zac b1 b2 b1.size;have e3:=zac e2 b3 e2.size;have e4:=zac e3 b4 e3.size;have e5:=zac e4 b5 e4.size;have x1:w1.cell? ⟨db,0,none⟩=some (.slice A l.length c):=(hd.below b1).box.cell 0;have x3:w3.cell? ⟨db,0,none⟩=some (.slice A l.length c):=(hd.below e3).box.cell 0;have x5:w5.cell? ⟨db,0,none⟩=some (.slice A l.length c):=(hd.below e5).box.cell 0
 have HZ0:Hid (LpSt w w5 (λ_=>2) (zfA l) none 0 none 0 (List.replicate l.length (.slice none 0 0))):=zz (by
  refine LpSt.start (l:=l) (λ_=>2) e5 ?_ ?_ ?_ ?_ ?_
  ·exact zaa b5 (zaa b4 (zaa b3 (zaa b2 k1)))
  ·rw[hab,<-s1];exact zaa b5 (zaa b4 (zaa b3 k2))
  ·rw[<-s1,<-s2];exact zaa b5 (zaa b4 k3)
  ·rw[har,<-s3];exact zaa b5 k4
  ·rw[<-s4];exact k5)
 obtain⟨q0,hq0⟩:∃q,zfw l l 0 (zfA l)=q:=⟨_,rfl⟩;have HA0:Hid (zfw l (l.drop 0) 0 (zfA l)=q0):=zz hq0;have HO0:=zz (zpm l);have hfin:zgn l=(zdW l.length q0).fin:=by unfold zgn;rw[hq0]
 have HFIN:=zz hfin;have HR:=zz h;have HD:=zz hd;have HS:=zz hs;have HSG:=zz hsg;have HRR:=zz hr;have HS1:=zz s1;have HS2:=zz s2;have HS3:=zz s3;have HS4:=zz s4;have hbs0:0+zaB (l.drop 0)<=2097152:=by rw[List.drop_zero];omega
 have hl2:=hl.2;clear hl hr h hd hs hsg hq0 hfin b1 b2 b3 b4 b5 k1 k2 k3 k4 k5 e2 e3 e4 e5 s1 s2 s3 s4 s5;go_enter Tryz.func78,Tryz.ntmps78;go_wp2_with fail;rw[HS1.out,HS2.out,HS3.out,HS4.out];clear h1 h2 h3 h4 h5 x1 x3 x5 hmb hmr HS1 HS2 HS3 HS4 hab har
 go_loopw [40,5] (λs40 s5 wr=>∃(i:Nat) (s:Lq) (lb:Nat->Nat) (An:Option Addr) (cn:Nat) (Ar:Option Addr) (cr:Nat) (vs:List Value) (b:Nat),i<=l.length/\s40=.int .i64 i/\s5=.slice An s.needs.length cn/\Hid (zfw l (l.drop i) i s=q0)/\Hid (LqOk l.length b s)/\b+zaB (l.drop i)<=2097152/\Hid (LpSt w wr lb s An cn Ar cr vs)) (λs40 _ _=>l.length-(intOf s40).toNat)
 case atStart=>exact⟨0,zfA l,_,none,0,none,0,_,0,by omega,rfl,rfl,HA0,HO0,hbs0,HZ0⟩
 case round=>
  clear HA0 HO0 HZ0 hbs0;obtain⟨i,s,lb,An,cn,Ar,cr,vs,b,hi,rfl,rfl,HA,HO,hbs,HB⟩:=hrel
  by_cases hlt:i<l.length
  ·have sB:=HB.out.low.size;have sBr:=HB.out.rbx.lt;have rr:=Rd.below (ok:=Lt w.heap.size) HB.out.low (λ_ h=>h) HR.out;obtain⟨b0,off,y,e,hlb0,hget,A',c',p0,p1,p2,p3,p4,r5⟩:=zbC rr hlt;subst e;have hin:(i:Int)<l.length:=by omega
   have hym:=List.mem_of_getElem? hget;have hys:=zaK hym;have hyS:y.size=1+zaB y.kids:=by cases y;rw[zbT];rfl
   have hS0:=HS.out;have hsy:zaB y.kids<=2097152:=by omega
   have q:=HA.out;rw[zal hget,zfw] at q;rw[zal hget,zcR] at hbs;obtain⟨w3',hw3,hb3,hx3⟩:=zaj wr #[.int .i64 y.kind,.string y.text,.int .i64 y.n,.int .i64 y.at',.slice A' y.kids.length c'] 49;obtain⟨y0,y1,y2,y3,y4⟩:=hx3.c5;have hsl:∀q,q<wr.heap.size->(λq=>if q<wr.heap.size then lb q else 2) q=lb q:=λq hq=>if_pos hq;obtain⟨lb1,hlb⟩:∃g:Nat->Nat,(λq=>if q<wr.heap.size then lb q else 2)=g:=⟨_,rfl⟩;rw[hlb] at hsl;have hnew:∀q,wr.heap.size<=q->lb1 q=2:=λq hq=>by rw[<-hlb];exact if_neg (by omega)
   have Z3:=zz ((HB.out.relab hsl).below hb3);have hs3:=hb3.size;have KC:=zz (zhb (λb=>b<w.heap.size) y (HSG.out y hym) hsy A' c' w3' ((Rd.below (ok:=Lt w.heap.size) hb3 (λb hb=>Nat.lt_of_lt_of_le hb sB) r5).weaken (λb hb=>⟨hb,Nat.lt_of_lt_of_le hb (Nat.le_trans sB hs3)⟩)));have hcost:=ztq y;obtain⟨cs,hcs⟩:∃cs,zbf y=cs:=⟨_,rfl⟩;rw[hcs] at KC q hcost;have hbs2:b+zkA (cs.drop 0)+zaB (l.drop (i+1))<=2097152:=by rw[List.drop_zero];omega
   have HG0:Hid (zfw l (l.drop (i+1)) (i+1) ((cs.drop 0).foldl (zkp l i) s)=q0):=zz q;have HNW:=zz hnew;clear q hcs hcost hlb hsl hnew hb3 hx3 HA hget hlb0 hym hys hyS hS0 hsy r5 rr;go_wp2_with fail;(with_reducible refine KC.out.mono ?_);rintro e w4' ⟨hb4,A4,c4,rfl,hr4⟩;have Z4:=zz (Z3.out.below hb4);have hcl:=hr4.sl_inv
   have hcl2:cs.length<=c4/\c4<=9223372036854775807:=by
    obtain⟨_,_,e,h1,h2,_⟩:=hcl;injection e with e1 e2 e3;subst e3;exact⟨h1,h2⟩
   have HRC:Hid (Rd (LtP (Oth w.heap.size lb1) w4'.heap.size) w4' (slG 1 ziF cs) (.slice A4 cs.length c4)):=zz (hr4.weaken (λq hq=>⟨hq.1.elim .inl (λx=>.inr ⟨by omega,HNW.out q (by omega)⟩),hq.2⟩));obtain⟨nc,hnc0⟩:∃n,w4'.heap.size=n:=⟨_,rfl⟩;rw[hnc0] at HRC;have hnc:nc<=w4'.heap.size:=by omega
   clear hb4 hr4 hcl hnc0 hw3 y0 y1 y2 y3 y4 Z3 HNW KC hs3 HB p0 p1 p2 p3 p4;go_wp2_with fail
   go_loopw [48,5] (λs48 s5 wx=>∃(k:Nat) (s:Lq) (lb:Nat->Nat) (An:Option Addr) (cn:Nat) (Ar:Option Addr) (cr:Nat) (vs:List Value) (b:Nat),k<=cs.length/\s48=.int .i64 k/\s5=.slice An s.needs.length cn/\Hid (zfw l (l.drop (i+1)) (i+1) ((cs.drop k).foldl (zkp l i) s)=q0)/\Hid (LqOk l.length b s)/\b+zkA (cs.drop k)+zaB (l.drop (i+1))<=2097152/\Hid (LpSt w wx lb s An cn Ar cr vs)/\Hid (Rd (LtP (Oth w.heap.size lb) nc) wx (slG 1 ziF cs) (.slice A4 cs.length c4))/\nc<=wx.heap.size) (λs48 _ _=>cs.length-(intOf s48).toNat)
   case atStart=>exact⟨0,s,lb1,An,cn,Ar,cr,vs,b,by omega,rfl,rfl,HG0,HO,hbs2,Z4,HRC,hnc⟩
   case round=>
    clear HG0 HO hbs hbs2 Z4 HRC hnc;obtain⟨k,s,lb,An,cn,Ar,cr,vs,b,hk,rfl,rfl,HG,HO,hbs,HB,HRC,hnc⟩:=hrel
    by_cases hlk:k<cs.length
    ·obtain⟨b4,off4,x,A5,c5,e,hob,hget,p0,r5⟩:=zuK HRC.out hlk;subst e;have hkn:(k:Int)<cs.length:=by omega
     have q:=HG.out;rw[zal hget,List.foldl_cons] at q;rw[zal hget,show zkA (x::cs.drop (k+1))=1+x.length+zkA (cs.drop (k+1)) by unfold zkA;rw[List.map_cons,List.sum_cons]] at hbs;have sB:=HB.out.low.size;have sBr:=HB.out.rbx.lt;obtain⟨w5',hw5,hb5,hx5⟩:=zaj wr #[.int .i64 i,.int .i64 0] 170;have hz5:w5'.heap.size=wr.heap.size+1:=by rw[<-hw5];simp
     have hsl:∀q,q<wr.heap.size->(λq=>if q<wr.heap.size then lb q else 2) q=lb q:=λq hq=>if_pos hq;obtain⟨lb2,hlb⟩:∃g:Nat->Nat,(λq=>if q<wr.heap.size then lb q else 2)=g:=⟨_,rfl⟩;rw[hlb] at hsl;have hnew:∀q,wr.heap.size<=q->lb2 q=2:=λq hq=>by rw[<-hlb];exact if_neg (by omega)
     have Z5:=zz ((HB.out.relab hsl).below hb5);have HRC5:=zz (zdA (zcW HRC.out hnc hsl) hnc hb5);have HRX5:=zz (zdA (zcW r5 hnc hsl) hnc hb5);have hxl:=zaS r5;have hx1:=hxl.2.1;have hx2:=hxl.2.2;obtain⟨nb,hnb⟩:∃n,wr.heap.size=n:=⟨_,rfl⟩;have HNB:=zz hnb;have HX5:Hid (zab w5' nb #[.int .i64 i,.int .i64 0] 170):=zz (by rw[<-hnb];exact hx5);have hl2':lb2 nb=2:=hnew nb (by omega);have HL5:=zz hl2';have hnb5:nc<=nb/\nb<w5'.heap.size/\w.heap.size+5<=nb:=by omega
     obtain⟨pq,hpq⟩:∃p,x.foldl (argQ l s.needs.length) (s.wait,0)=p:=⟨_,rfl⟩;have HP0:Hid ((x.drop 0).foldl (argQ l s.needs.length) (s.wait,0)=pq):=zz hpq;have HW0:Hid (WOk l.length (b+0) (s.needs.length+1) s.wait):=zz (HO.out.wt.mono (Nat.le_refl _) (Nat.le_succ _));have HPQ:=zz hpq;have HQ:=zz q;have HW5:=zz hw5;have hbx:b+(1+x.length)+zkA (cs.drop (k+1))+zaB (l.drop (i+1))<=2097152:=by omega
     clear q hpq hlb hsl hnew hb5 hx5 hxl r5 HG HB HRC hget hob hz5 hl2' hbs hnb hw5;go_wp2_with fail;rw[HW5.out,HNB.out];clear HW5 p0 HNB
     go_loopw [56] (λs56 wz=>∃(m:Nat) (W3:List (List Nat)) (left:Int) (lb:Nat->Nat) (vs:List Value),m<=x.length/\s56=.int .i64 m/\Hid ((x.drop m).foldl (argQ l s.needs.length) (W3,left)=pq)/\Hid (WOk l.length (b+m) (s.needs.length+1) W3)/\Hid (LpSt w wz lb {s with wait:=W3} An cn Ar cr vs)/\Hid (zab wz nb #[.int .i64 i,.int .i64 left] 170)/\Hid (lb nb=2)/\nb<wz.heap.size/\Hid (Rd (LtP (Oth w.heap.size lb) nc) wz (slG 1 ziF cs) (.slice (some ⟨b4,off4,none⟩) cs.length c4))/\Hid (Rd (LtP (Oth w.heap.size lb) nc) wz (ns x) (.slice A5 x.length c5))) (λs56 _=>x.length-(intOf s56).toNat)
     case atStart=>exact⟨0,s.wait,0,lb2,vs,by omega,rfl,HP0,HW0,Z5,HX5,HL5,hnb5.2.1,HRC5,HRX5⟩
     case round=>
      clear HP0 HW0 Z5 HX5 HL5 HRC5 HRX5;obtain⟨m,W3,left,lb,vs,hm,rfl,HP,HW,HB,HX,HL,hnz,HRC,HRX⟩:=hrel;have hncz:nc<=wr.heap.size:=by omega
      by_cases hlm:m<x.length
      ·obtain⟨b6,off6,z,e,hob,hget,A6,c6,g0,g1,g2,g3,g4,r6⟩:=zbC HRX.out hlm;subst e;have hmn:(m:Int)<x.length:=by omega
       have q:=HP.out;rw[zal hget,List.foldl_cons] at q;have sB:=HB.out.low.size;have sBr:=HB.out.rbx.lt;obtain⟨w7,hw7,hb7,hx7⟩:=zaj wr #[.int .i64 z.kind,.string z.text,.int .i64 z.n,.int .i64 z.at',.slice A6 z.kids.length c6] 49;have hz7:=hb7.size;have t0:w7.cell? ⟨wr.heap.size,0,none⟩=some (.int .i64 z.kind):=hx7.cell 0;have t1:w7.cell? ⟨wr.heap.size,1,none⟩=some (.string z.text):=hx7.cell 1;have hsl:∀q,q<wr.heap.size->(λq=>if q<wr.heap.size then lb q else 2) q=lb q:=λq hq=>if_pos hq;obtain⟨lb3,hlb⟩:∃g:Nat->Nat,(λq=>if q<wr.heap.size then lb q else 2)=g:=⟨_,rfl⟩;rw[hlb] at hsl;have hnew:∀q,wr.heap.size<=q->lb3 q=2:=λq hq=>by rw[<-hlb];exact if_neg (by omega)
       have Z7:=zz ((HB.out.relab hsl).below hb7);have HRC7:=zz (zdA (zcW HRC.out hncz hsl) hncz hb7);have HRX7:=zz (zdA (zcW HRX.out hncz hsl) hncz hb7);have HX7:=zz (zaa hb7 HX.out);have HL7:Hid (lb3 nb=2):=zz (by rw[hsl nb hnz];exact HL.out);have hnz7:nb<w7.heap.size:=by omega
       have HWn:=zz (HW.out.mono (b':=b+(m+1)) (by omega) (Nat.le_refl _))
       have hno:¬(z.kind=12/\zbW z.text=0)->Hid ((x.drop (m+1)).foldl (argQ l s.needs.length) (W3,left)=pq):=λhc=>zz (by
        rw[show argQ l s.needs.length (W3,left) z=(W3,left) by unfold argQ;rw[if_neg hc]] at q;exact q)
       have y1:w7.cell? ⟨db,1,none⟩=some (.map (some mt)):=(HD.out.below Z7.out.low).box.cell 1;have hlk:∀q,_:=λq=>zov ((HD.out.below Z7.out.low).below (zae (Below.refl _ _) q)).tm z.text
       by_cases h12:z.kind=12
       ·have e12:(z.kind == 12)=true:=by rw[h12];rfl
        have KB:=zz (zgh z.text w7)
        by_cases hbk:zbW z.text=0
        ·rw[hbk] at KB;rw[show argQ l s.needs.length (W3,left) z=(W3.set (zeA l z.text) (W3.getD (zeA l z.text) []++[s.needs.length]),IntKind.i64.wrap (left+1)) by unfold argQ;rw[if_pos ⟨h12,hbk⟩]] at q;have hj:zeA l z.text<l.length:=zmG z.text (by omega);obtain⟨j,hj0⟩:∃j,zeA l z.text=j:=⟨_,rfl⟩;rw[hj0] at q hj hlk;have hjn:(j:Int)<l.length:=by omega
         have hjW:j<W3.length:=by rw[HW.out.1];exact hj
         have hrj:W3[j]?=some W3[j]:=List.getElem?_eq_getElem hjW
         have hrl:W3[j].length<=2097152:=by
          have:=(HW.out.2 _ (List.getElem_mem hjW)).1;omega
         obtain⟨rj,hrj0⟩:∃r,W3[j]=r:=⟨_,rfl⟩;rw[hrj0] at hrj hrl;have hgd:W3.getD j []=rj:=by simp[List.getD,hrj]
         rw[hgd] at q;have HQ2:Hid ((x.drop (m+1)).foldl (argQ l s.needs.length) (W3.set j (rj++[s.needs.length]),wrap64 (left+1))=pq):=zz (by rw[IntWalk.i64_left] at q;exact q)
         have HWS:Hid (WOk l.length (b+(m+1)) (s.needs.length+1) (W3.set j (rj++[s.needs.length]))):=zz (by
          have:=HW.out.arg (l:=l) (x:=left) (t:=z) (Nat.lt_succ_self s.needs.length) rfl (by omega);unfold argQ at this;rw[if_pos ⟨h12,hbk⟩,hj0,hgd] at this;exact this)
         have HRJ:=zz hrj;clear q hno hlb hsl hnew hb7 hx7 HP HB HRC HRX hget hob h12 hbk HX HL hgd hrj0 hjW hrj HWn HW r6 hj0;go_wp2_with fail;(with_reducible refine KB.out.mono ?_);rintro e w8 ⟨rfl,rfl⟩;go_wp2_with fail
         go_quiet (fail)
         generalize hW:World.drewN w7 _=w8;have hb8:Below w7.heap.size w7 w8:=by rw[<-hW];exact zae (Below.refl _ _) _
         have hs8:=hb8.size;have hnz8:nb<w8.heap.size:=by omega
         have hsl5:∀q,q<w8.heap.size->(λq=>if q<w8.heap.size then lb3 q else 3+j) q=lb3 q:=λq hq=>if_pos hq;obtain⟨lb5,hlb5⟩:∃g:Nat->Nat,(λq=>if q<w8.heap.size then lb3 q else 3+j)=g:=⟨_,rfl⟩;rw[hlb5] at hsl5;have hnew5:∀q,w8.heap.size<=q->lb5 q=3+j:=λq hq=>by rw[<-hlb5];exact if_neg (by omega)
         have Z8:=zz ((Z7.out.below hb8).relab hsl5);have hnc8:nc<=w8.heap.size:=by omega
         have hnc7:nc<=w7.heap.size:=by omega
         have HRC8:=zz (zcW (zdA HRC7.out hnc7 hb8) hnc8 hsl5);have HRX8:=zz (zcW (zdA HRX7.out hnc7 hb8) hnc8 hsl5);have HX8:=zz (zaa hb8 HX7.out);have HL8:Hid (lb5 nb=2):=zz (by rw[hsl5 nb hnz8];exact HL7.out);have HNW:=zz hnew5;obtain⟨Aw,cw,hv,ho⟩:=Z8.out.wt.row j rj HRJ.out;have HV:=zz hv;have v8:w8.cell? ⟨w.heap.size+3,j,none⟩=some (.slice Aw rj.length cw):=by rw[Z8.out.wt.box.cell];simpa using hv
         have ba:=zag w8 (.cells #[.int .i64 s.needs.length] 3);have Z9:=zz (Z8.out.below ba);have O9:=zz (ho.below ba);have sl9:=ba.size;clear hW hb8 hlb5 hsl5 hnew5 Z7 HRC7 HRX7 HX7 HL7 hv ho ba hlk y1 t0 t1 KB hw7;go_wp2_with (at_builtin;refine zaJ rowI zsG Tryz.underlying107 rfl (by omega) (by omega) rfl _ _ rfl (LB w.heap.size lb5 (3+j)) ⟨by omega,HNW.out _ (by omega)⟩ (.slice Aw rj.length cw) rj rfl O9.out ⟨w8.heap.size,0,none⟩ 1 s.needs.length [.int .i64 s.needs.length] rfl rfl ?a2 ?a3 ?a4 ?_)
         case a2=>exact zaI _ (by rfl) _ _
         case a3=>
          intro j u hj;cases j with
          |zero=>simp at hj;exact hj.symm
          |succ j=>simp at hj
         case a4=>omega
         intro v' w9 hO hg _;replace hO:OwnS (LB w.heap.size lb5 (3+j)) 3 1 (rj++[s.needs.length]).length (zan rowI (rj++[s.needs.length])) w9 v':=by rw[List.length_append];exact hO
         obtain⟨L,hL⟩:∃L,rj++[s.needs.length]=L:=⟨_,rfl⟩;rw[hL] at hO HQ2 HWS;obtain⟨A9,c9,rfl,_⟩:=hO.owned0.rd.sl_inv;have hch:Chg (LB w.heap.size lb5 (3+j)) _ w9:=Chg.of_grown hg (λq hq=>(O9.out.below_own q hq).1);have hbx9:=Z9.out.wt.box.keep hch (λhq=>by have:=hq.1;omega);have y9:w9.cell? ⟨w.heap.size+3,j,none⟩=some (.slice Aw rj.length cw):=by rw[hbx9.cell];simpa using HV.out
         have z9:=hbx9.fz;have Z10:=zz (Z9.out.grownW HRJ.out HV.out hO hg);have HM:Chg (Mv w.heap.size lb5) w8 (w9.setCell ⟨w.heap.size+3,j,none⟩ (.slice A9 L.length c9)):=(((Chg.refl _ w8).thenBelow ((Below.refl _ _).alloc (Nat.le_refl _) _)).trans (hch.mono (λq hq=>ztL hq (by omega))) (λ_ hq=>.inl hq)).setCell (p:=⟨w.heap.size+3,j,none⟩) (.inl ⟨by show w.heap.size<=w.heap.size+3;omega,.inl (by show w.heap.size+3<_;omega)⟩) _;obtain⟨w10,h10⟩:∃V,w9.setCell ⟨w.heap.size+3,j,none⟩ (.slice A9 L.length c9)=V:=⟨_,rfl⟩;rw[h10] at Z10 HM;have hs10:=HM.size;have HRC10:=zz (zhL HRC8.out hnc8 HM);have HRX10:=zz (zhL HRX8.out hnc8 HM);have hmb:¬Mv w.heap.size lb5 nb:=zqH (.inr ⟨hnb5.2.2,HL8.out⟩);have HX10:=zz (HX8.out.keep HM hmb);have u1:w10.cell? ⟨nb,1,none⟩=some (.int .i64 left):=HX10.out.cell 1;have uz:=HX10.out.fz;clear hO hg hch hbx9 hL HM hmb HX8 HRC8 HRX8 Z9 O9 Z8;go_wp2_with fail;have hcb:Chg (λq=>q=nb) w10 (w10.setCell ⟨nb,1,none⟩ (.int .i64 (wrap64 (left+1)))):=(Chg.refl (λq=>q=nb) w10).setCell (p:=⟨nb,1,none⟩) (.inl rfl) _;have hnc10:nc<=w10.heap.size:=by omega
         have Z11:Hid (LpSt w _ lb5 {s with wait:=W3.set j L} An cn Ar cr (vs.set j (.slice A9 L.length c9))):=zz (Z10.out.out (M:=λq=>q=nb) hcb (λq (hq:q=nb)=>⟨by omega,λ_=>by rw[hq];exact HL8.out⟩));refine⟨⟨m+1,_,_,lb5,_,by omega,by go_num,HQ2,HWS,Z11,zz ?_,HL8,Nat.lt_of_lt_of_le (Nat.lt_of_lt_of_le hnz8 hs10) hcb.size,zz (zsC HRC10.out hnc10 hnb5.1),zz (zsC HRX10.out hnc10 hnb5.1)⟩,by simp[intOf];omega⟩;have:=HX10.out.set 1 (.int .i64 (wrap64 (left+1)))
         simpa using this
        ·have hbb:(zbW z.text == 0)=false:=by rw[beq_eq_false_iff_ne];exact hbk
         have HQ2:=hno (λh=>hbk h.2);clear q hno hlb hsl hnew hb7 hx7 HP HB HRC HRX hget hob h12 HX HL r6 HW hlk y1 hbk;generalize zbW z.text=B at *
         go_wp2_with fail;(with_reducible refine KB.out.mono ?_);rintro e w8 ⟨rfl,rfl⟩;go_wp2_with fail;exact⟨⟨m+1,W3,left,lb3,vs,by omega,by go_num,HQ2,HWn,Z7,HX7,HL7,hnz7,HRC7,HRX7⟩,by simp[intOf];omega⟩
       ·have e12:(z.kind == 12)=false:=by rw[beq_eq_false_iff_ne];exact h12
        have HQ2:=hno (λh=>h12 h.1);clear q hno hlb hsl hnew hb7 hx7 HP HB HRC HRX hget hob h12 HX HL r6 HW hlk y1;go_wp2_with fail;exact⟨⟨m+1,W3,left,lb3,vs,by omega,by go_num,HQ2,HWn,Z7,HX7,HL7,hnz7,HRC7,HRX7⟩,by simp[intOf];omega⟩
      ·have q:=HP.out;rw[List.drop_eq_nil_of_le (by omega),List.foldl_nil] at q;subst q;have hml:m=x.length:=by omega
       subst hml;have sB:=HB.out.low.size;have sBr:=HB.out.rbx.lt;have u0:wr.cell? ⟨nb,0,none⟩=some (.int .i64 i):=HX.out.cell 0;have u1:wr.cell? ⟨nb,1,none⟩=some (.int .i64 left):=HX.out.cell 1;have hsl:∀q,q<wr.heap.size->(λq=>if q<wr.heap.size then lb q else 0) q=lb q:=λq hq=>if_pos hq;obtain⟨lb3,hlb⟩:∃g:Nat->Nat,(λq=>if q<wr.heap.size then lb q else 0)=g:=⟨_,rfl⟩;rw[hlb] at hsl;have hnew:∀q,wr.heap.size<=q->lb3 q=0:=λq hq=>by rw[<-hlb];exact if_neg (by omega)
       have Z7:=zz (HB.out.relab hsl);have HRC7:=zz (zcW HRC.out hncz hsl);have ba:=zag wr (.cells #[.int .i64 i,.int .i64 left] 170);have Z8:=zz (Z7.out.below ba);have HX8:=zz (zaa ba HX.out);have HL7:Hid (lb3 nb=2):=zz (by rw[hsl nb hnz];exact HL.out);have HRC8:=zz (zdA HRC7.out hncz ba);have sl8:=ba.size;have HNW:=zz hnew;have hnl:=HO.out.nl;have HCK:Hid (LqOk l.length (b+(1+x.length)) (zkp l i s x)):=zz (HO.out.ctor rfl hlt);have hnl8:=HCK.out.nl;have hct:=HCK.out.ct;have hrd:=HCK.out.rd
       have hct0:zkp l i s x=if left=0 then zaV {s with wait:=W3,needs:=s.needs++[(i,left)] } i else {s with wait:=W3,needs:=s.needs++[(i,left)] }:=by
        unfold zkp;rw[HPQ.out]
       have HCT:=zz hct0;have hfl:=HO.out.fl;have hifn:i<s.fin.length:=by rw[hfl];exact hlt
       have hrdy:s.ready.length<=2097152:=by have:=HO.out.ct;omega
       clear hlb hsl hnew ba hct0 HB Z7 HRC7 HRC HRX HX HL hct hrd hnl8 HPQ HW HP hfl;go_wp2_with (at_builtin;refine zaJ zoi zsU Tryz.underlying164 rfl (by omega) (by omega) rfl _ _ rfl (LB w.heap.size lb3 0) ⟨by omega,HNW.out _ (by omega)⟩ (.slice An s.needs.length cn) s.needs rfl Z8.out.o0 ⟨wr.heap.size,0,none⟩ 1 (i,left) [.int .i64 i,.int .i64 left] rfl rfl ?n2 ?n3 ?n4 ?_)
       case n2=>exact zaI _ (by rfl) _ _
       case n3=>
        intro j u hj
        match j with
        |0=>simp at hj;exact hj.symm
        |1=>simp at hj;exact hj.symm
        |j+2=>simp at hj
       case n4=>omega
       intro v' w9 hO hg _;replace hO:OwnS (LB w.heap.size lb3 0) 170 2 (s.needs++[(i,left)]).length (zan zoi (s.needs++[(i,left)])) w9 v':=by rw[List.length_append];exact hO
       obtain⟨L,hL⟩:∃L,s.needs++[(i,left)]=L:=⟨_,rfl⟩;rw[hL] at hO HCT;obtain⟨A9,c9,rfl,_⟩:=hO.owned0.rd.sl_inv;have hch:Chg (LB w.heap.size lb3 0) _ w9:=Chg.of_grown hg (λq hq=>(Z8.out.o0.below_own q hq).1);have Z9:=zz (Z8.out.grownN hO hg);have hmv:=hch.mono (λq hq=>ztL hq (by omega):∀q,LB w.heap.size lb3 0 q->Mv w.heap.size lb3 q);have hnc8:nc<=(wr.alloc (.cells #[.int .i64 i,.int .i64 left] 170)).heap.size:=by omega
       have HRC9:=zz (zhL HRC8.out hnc8 hmv);have HX9:=zz (HX8.out.keep hmv (zqH (.inr ⟨hnb5.2.2,HL7.out⟩)));have u1:w9.cell? ⟨nb,1,none⟩=some (.int .i64 left):=HX9.out.cell 1;have hs9:=hmv.size;have hnc9:nc<=w9.heap.size:=by omega
       clear hO hg hch hL Z8 HX8 HRC8 hmv
       by_cases h0:left=0
       ·have e0:(left == 0)=true:=by rw[h0];rfl
        have q:=HQ.out;have q1:=HCT.out;rw[if_pos h0] at q1;rw[q1] at q HCK;have hsl4:∀q,q<w9.heap.size->(λq=>if q<w9.heap.size then lb3 q else 1) q=lb3 q:=λq hq=>if_pos hq;obtain⟨lb4,hlb4⟩:∃g:Nat->Nat,(λq=>if q<w9.heap.size then lb3 q else 1)=g:=⟨_,rfl⟩;rw[hlb4] at hsl4;have hnew4:∀q,w9.heap.size<=q->lb4 q=1:=λq hq=>by rw[<-hlb4];exact if_neg (by omega)
        have KS:=zz (ziW i (Z9.out.relab hsl4) hifn hrdy hnew4);have HRC10:=zz (zcW HRC9.out hnc9 hsl4);have HQ2:=zz q;have hnd:(zaV {s with wait:=W3,needs:=L} i).needs=L:=zda _ _;clear q q1 hlb4 hsl4 hnew4 HCT Z9 HRC9 HX9 h0;go_wp2_with fail;(with_reducible refine KS.out.mono ?_);rintro e w11 ⟨rfl,Ar',cr',hz,hc⟩;have HRC11:=zz (zhL HRC10.out hnc9 hc);have hs11:=hc.size;have Z11:=zz hz;clear hz hc KS u1;go_wp2_with fail;exact⟨⟨k+1,_,lb4,A9,c9,Ar',cr',vs,b+(1+x.length),by omega,by go_num,by rw[hnd],HQ2,HCK,hbx,Z11,HRC11,by omega⟩,by simp[intOf];omega⟩
       ·have e0:(left == 0)=false:=by rw[beq_eq_false_iff_ne];exact h0
        have q:=HQ.out;have q1:=HCT.out;rw[if_neg h0] at q1;rw[q1] at q HCK;have HQ2:=zz q;clear q q1 HCT HX9 h0;go_wp2_with fail;exact⟨⟨k+1,_,lb3,A9,c9,Ar,cr,vs,b+(1+x.length),by omega,by go_num,rfl,HQ2,HCK,hbx,Z9,HRC9,by omega⟩,by simp[intOf];omega⟩
    ·have HG2:Hid (zfw l (l.drop (i+1)) (i+1) s=q0):=zz (by
      have q:=HG.out;rw[List.drop_eq_nil_of_le (show cs.length<=k by omega)] at q;exact q)
     have hbs3:b+zaB (l.drop (i+1))<=2097152:=by omega
     clear HG HRC;go_wp2_with fail;exact⟨⟨i+1,s,lb,An,cn,Ar,cr,vs,b,by omega,by go_num,rfl,HG2,HO,hbs3,HB⟩,by simp[intOf];omega⟩
  ·have e0:s=q0:=by
    have q:=HA.out;rw[List.drop_eq_nil_of_le (by omega),zfw] at q;exact q
   subst e0;obtain⟨rq,hrq⟩:∃q,zdW l.length s=q:=⟨_,rfl⟩;have HFQ:Hid (zgn l=rq.fin):=zz (by rw[HFIN.out,hrq]);obtain⟨N,hN⟩:∃n,s.needs.length=n:=⟨_,rfl⟩;have HN0:=zz hN;have HRQ0:=zz hrq;have HC0:=zz HO.out.ct;have hNb:N<=2097152:=by rw[<-hN];exact Nat.le_trans HO.out.nl (by omega)
   have HOB:Hid (LqOk l.length 2097152 s):=zz (HO.out.mono (by omega));clear HA HFIN hrq hbs HO;go_wp2_with fail;rw[HN0.out];clear hN
   go_loopw [17] (λ_ wr=>∃(f:Nat) (s:Lq) (lb:Nat->Nat) (Ar:Option Addr) (cr:Nat),Hid (zdW f s=rq)/\Hid (s.fin.count false+s.ready.length<=f)/\Hid (LqOk l.length 2097152 s)/\Hid (s.needs.length=N)/\Hid (LpSt w wr lb s An cn Ar cr vs)) (λ_ wr=>msr w.heap.size wr)
   case atStart=>exact⟨l.length,s,lb,Ar,cr,HRQ0,HC0,HOB,HN0,HB⟩
   case round=>
    clear HRQ0 HC0 HOB HN0 HB;obtain⟨f,s,lb,Ar,cr,HQ,HC,HO,HN,HB⟩:=hrel;have x0:wr.cell? ⟨w.heap.size+4,0,none⟩=some (.slice Ar s.ready.length cr):=HB.out.rbx.cell 0;have sB:=HB.out.low.size;have sBr:=HB.out.rbx.lt;rcases Nat.eq_zero_or_eq_succ_pred s.ready.length with h0|h0
    ·have hre:s.ready=[]:=List.eq_nil_of_length_eq_zero h0;have q:=HQ.out;rw[zmg hre] at q;subst q;rw[h0] at x0;have x1:wr.cell? ⟨db,0,none⟩=some (.slice A l.length c):=(HD.out.below HB.out.low).box.cell 0;have HF0:Hid ((lpF s.fin (l.drop 0) 0).map (λa=>((11:Int),a))=r):=zz (by rw[List.drop_zero,<-HFQ.out,<-zql];exact HRR.out);have hfl:=HO.out.fl;have HFL:=zz hfl;clear hre hfl HC HN HQ HO;go_wp2_with fail;clear x0 x1
     go_loopw [154] (λs154 wx=>∃i:Nat,i<=l.length/\s154=.int .i64 i/\Hid ((lpF s.fin (l.drop i) i).map (λa=>((11:Int),a))=r)/\Hid (LpSt w wx lb s An cn Ar cr vs)) (λs154 _=>l.length-(intOf s154).toNat)
     case atStart=>exact⟨0,by omega,rfl,HF0,HB⟩
     case round=>
      clear HF0 HB;obtain⟨i,hi,rfl,HA,HB⟩:=hrel
      by_cases hlt:i<l.length
      ·have sB:=HB.out.low.size;have sBr:=HB.out.rbx.lt;obtain⟨b0,off,y,e,hlb0,hget,A',c',p0,p1,p2,p3,p4,r5⟩:=zbC (HR.out.belows HB.out.low) hlt;subst e;have hin:(i:Int)<l.length:=by omega
       have q:=HA.out;rw[zal hget,lpF] at q;obtain⟨w3',hw3,hb3,hx3⟩:=zaj wr #[.int .i64 y.kind,.string y.text,.int .i64 y.n,.int .i64 y.at',.slice A' y.kids.length c'] 49;have y0:w3'.cell? ⟨wr.heap.size,0,none⟩=some (.int .i64 y.kind):=hx3.cell 0;have y3:w3'.cell? ⟨wr.heap.size,3,none⟩=some (.int .i64 y.at'):=hx3.cell 3;have Z3:=zz (HB.out.below hb3);have hif:i<s.fin.length:=by rw[HFL.out];exact hlt
       have hifi:(i:Int)<s.fin.length:=by omega
       have f0:w3'.cell? ⟨w.heap.size+2,0,none⟩=some (.slice (some ⟨w.heap.size+1,0,none⟩) s.fin.length s.fin.length):=Z3.out.fbx.cell 0;have f1:w3'.cell? ⟨w.heap.size+1,i,none⟩=some (.bool s.fin[i]):=by rw[Z3.out.fin.cell];simp[zeB,hif]
       have hgd:s.fin.getD i false=s.fin[i]:=by simp[List.getD,List.getElem?_eq_getElem hif]
       rw[hgd] at q;obtain⟨bf,hbf⟩:∃b,s.fin[i]=b:=⟨_,rfl⟩;rw[hbf] at f1 q
       by_cases hk:y.kind=2\/y.kind=3
       ·have hkk:((y.kind == 2)=true)\/((y.kind == 2)=false/\(y.kind == 3)=true):=by
         rcases hk with h|h
         ·left;rw[h];rfl
         ·right;rw[h];exact⟨rfl,rfl⟩
        cases bf with
        |true=>
         rw[if_neg (by simp)] at q;have HQ2:=zz q;clear q hbf hgd hb3 hx3 HA HB hget hlb0 r5 hk;rcases hkk with e2|⟨e2,e3⟩
         all_goals
          go_wp2_with fail;exact⟨⟨i+1,by omega,by go_num,HQ2,Z3⟩,by simp[intOf];omega⟩
        |false=>
         rw[if_pos ⟨hk,rfl⟩] at q;have HQ2:Hid (some (11,y.at')=r):=zz q;have ZF:Hid (FbSt w w3'):=zz ⟨Z3.out.low,Z3.out.res⟩;have u0:=ZF.out.res.cell 0;have u1:=ZF.out.res.cell 1;have uz:=ZF.out.res.fz;clear q hbf hgd hb3 hx3 HA HB hget hlb0 r5 hk;rcases hkk with e2|⟨e2,e3⟩
         all_goals
          go_wp2_with fail;exact ziR (by rfl) 11 y.at' ZF.out (by rw[<-HQ2.out]) (by rfl) (by rfl) rfl
       ·have e2:(y.kind == 2)=false:=by rw[beq_eq_false_iff_ne];omega
        have e3:(y.kind == 3)=false:=by rw[beq_eq_false_iff_ne];omega
        rw[if_neg (λh=>hk h.1)] at q;have HQ2:=zz q;clear q hbf hgd hb3 hx3 HA HB hget hlb0 r5 hk;go_wp2_with fail;exact⟨⟨i+1,by omega,by go_num,HQ2,Z3⟩,by simp[intOf];omega⟩
      ·have HQ2:Hid (none=r):=zz (by
        have q:=HA.out;rw[List.drop_eq_nil_of_le (by omega),lpF] at q;exact q)
       have ZF:Hid (FbSt w wr):=zz ⟨HB.out.low,HB.out.res⟩;have u0:=ZF.out.res.cell 0;have u1:=ZF.out.res.cell 1;have uz:=ZF.out.res.fz;clear HA;go_wp2_with fail
       first
        |exact zhx (by rfl) ZF.out (by rw[<-HQ2.out]) (by rfl) (by rfl) rfl
        |exact zfS (by rfl) ZF.out (by rw[<-HQ2.out]) (by rfl) (by rfl) rfl
    ·obtain⟨n1,hn1⟩:∃n,s.ready.length.pred=n:=⟨_,rfl⟩;rw[hn1] at h0;have hlt1:n1<s.ready.length:=by omega
     have hrn:s.ready[n1]?=some s.ready[n1]:=List.getElem?_eq_getElem hlt1;obtain⟨gr,hgr,hgr1,hgr2,x1⟩:=zpx HB.out.o1 hlt1;obtain⟨i,hi0⟩:∃i,s.ready[n1]=i:=⟨_,rfl⟩;rw[hi0] at hrn x1;subst hgr;have hin:i<l.length:=by rw[<-hi0];exact HO.out.rd _ (List.getElem_mem hlt1)
     have hinn:(i:Int)<l.length:=by omega
     obtain⟨f',hf'⟩:∃f',f=f'+1:=⟨f-1,by have:=HC.out;omega⟩;subst hf';have q:=HQ.out;rw[zmC h0 hrn] at q;have Z1:=HB.out.take (by omega);have hw1:=HB.out.wt.row i _ (List.getElem?_eq_getElem (by rw[HO.out.wt.1];exact hin));obtain⟨r5,hr5⟩:∃r,s.wait[i]'(by rw[HO.out.wt.1];exact hin)=r:=⟨_,rfl⟩;have hwi:s.wait[i]?=some r5:=by rw[List.getElem?_eq_getElem (by rw[HO.out.wt.1];exact hin),hr5]
     rw[hr5] at hw1;have hgd:s.wait.getD i []=r5:=by simp[List.getD,hwi]
     rw[hgd] at q
     have hr5c:∀c∈r5,c<N:=by
      have:=(HO.out.wt.get hin).2;rw[hgd,HN.out] at this;exact this
     have hr5l:r5.length<=2097152:=by
      have:=(HO.out.wt.get hin).1;rw[hgd] at this;exact this
     obtain⟨Aw,cw,hv,_⟩:=hw1
     have hcl:r5.length<=cw/\cw<=9223372036854775807:=by
      obtain⟨A2,c2,h1,h2⟩:=HB.out.wt.row i r5 hwi;have e:=h1.symm.trans hv;injection e with e;injection e with e1 e2 e3;subst e1 e3;obtain⟨_,_,e5,h5,h6,_⟩:=h2.owned0.rd.sl_inv;injection e5 with e6 e7 e8;subst e8;exact⟨h5,h6⟩
     rw[h0] at x0;have z0:=HB.out.rbx.fz;have hpred:s.ready.length-1=n1:=by omega
     rw[hpred] at Z1
     have hC1:s.fin.count false+s.ready.dropLast.length<=f':=by
      have:=HC.out;rw[List.length_dropLast];omega
     have hC2:s.fin.count false+s.ready.dropLast.length<s.fin.count false+s.ready.length:=by
      rw[List.length_dropLast];omega
     obtain⟨s1,hs1⟩:∃t,({s with ready:=s.ready.dropLast}:Lq)=t:=⟨_,rfl⟩;have hO1:=HO.out.take;have hW1:s1.wait=s.wait:=by rw[<-hs1]
     have hN1:s1.needs.length=N:=by rw[<-hs1];exact HN.out
     have hK1:s1.fin.count false+s1.ready.length=s.fin.count false+s.ready.dropLast.length:=by rw[<-hs1]
     rw[hs1] at Z1 q hO1;obtain⟨K,hK⟩:∃K,s.fin.count false+s.ready.dropLast.length=K:=⟨_,rfl⟩;rw[hK] at hK1 hC1 hC2;have hlen:s1.ready.length=n1:=by rw[<-hs1];show s.ready.dropLast.length=n1;rw[List.length_dropLast];omega
     obtain⟨w1',hw1'⟩:∃W,wr.setCell ⟨w.heap.size+4,0,none⟩ (.slice (some ⟨gr,0,none⟩) n1 cr)=W:=⟨_,rfl⟩;rw[hw1'] at Z1;have v1:w1'.cell? ⟨w.heap.size+3,i,none⟩=some (.slice Aw r5.length cw):=by rw[Z1.wt.box.cell];simpa using hv
     obtain⟨s9,hs9⟩:∃t,r5.foldl hitQ s1=t:=⟨_,rfl⟩;rw[hs9] at q;have HQ9:=zz q;have HF0:Hid ((r5.drop 0).foldl hitQ s1=s9):=zz hs9;have HZ1:=zz Z1;have HO1:=zz hO1;have HW1:=zz hW1;have HN1:=zz hN1;have HK1:=zz hK1;have HWI:=zz hwi;have HV:=zz hv;have HR5:=zz hr5c;have HC1:=zz hC1;have HC2:=zz hC2;have HMS:=zz (zsI HB.out);have hn1b:n1+1<=cr:=by omega
     clear q hs9 Z1 hO1 hW1 hN1 hK1 hwi hv hr5c hC1 hC2 hK hs1 hi0 hrn h0 hn1 hlt1 hgr1 hlen hpred hgd hr5 HQ HC HO HN HB;go_wp2_with fail;clear hw1' x0 x1 z0 v1
     go_loopw [123] (λs123 wx=>∃(k:Nat) (s2:Lq) (lb:Nat->Nat) (Ar:Option Addr) (cr:Nat),k<=r5.length/\s123=.int .i64 k/\Hid ((r5.drop k).foldl hitQ s2=s9)/\Hid (s2.wait=s.wait)/\Hid (s2.fin.count false+s2.ready.length=K)/\Hid (LqOk l.length 2097152 s2)/\Hid (s2.needs.length=N)/\Hid (LpSt w wx lb s2 An cn Ar cr vs)) (λs123 _=>r5.length-(intOf s123).toNat)
     case atStart=>exact⟨0,s1,lb,_,cr,by omega,rfl,HF0,HW1,HK1,HO1,HN1,HZ1⟩
     case round=>
      clear HF0 HK1 HO1 HN1 HZ1 HW1;obtain⟨k,s2,lb,Ar,cr,hk,rfl,HF,HW,HK,HO,HN,HB⟩:=hrel
      by_cases hlk:k<r5.length
      ·have hkn:(k:Int)<r5.length:=by omega
       have sB:=HB.out.low.size;have sBr:=HB.out.rbx.lt;obtain⟨Ay,cy,hvy,hoy⟩:=HB.out.wt.row i r5 (by rw[HW.out];exact HWI.out);have e:=hvy.symm.trans HV.out;injection e with e;injection e with e1 e2 e3;subst e1 e3;obtain⟨gw,hgw,_,_,x1⟩:=zpx hoy hlk;subst hgw;obtain⟨cc,hcc⟩:∃c,r5[k]=c:=⟨_,rfl⟩;rw[hcc] at x1;have hcN:cc<N:=by rw[<-hcc];exact HR5.out _ (List.getElem_mem hlk)
       have hcNi:(cc:Int)<N:=by omega
       have hc2:cc<s2.needs.length:=by rw[HN.out];exact hcN
       obtain⟨gn,hgn,hn1,hn2,y0,y1,yz⟩:=znn HB.out.o0 hc2;subst hgn;have hdg:s2.needs[cc]?=some s2.needs[cc]:=List.getElem?_eq_getElem hc2;obtain⟨d,hd0⟩:∃d,s2.needs[cc]=d:=⟨_,rfl⟩;rw[hd0] at y0 y1 hdg;obtain⟨ow,lf⟩:=d;have hown:ow<l.length:=HO.out.ow (ow,lf) (by rw[<-hd0];exact List.getElem_mem hc2);have q:=HF.out;rw[List.drop_eq_getElem_cons hlk,List.foldl_cons,hcc] at q;have hO2:=HO.out.hit hc2;have hK2:=(ztl HO.out hc2).trans HK.out;have hW2:=(zsy s2 cc).trans HW.out;have hN2:=(zqh s2 cc).trans HN.out;have hhd:=zto hdg;obtain⟨s3,hs3⟩:∃t,hitQ s2 cc=t:=⟨_,rfl⟩;rw[hs3] at q hO2 hK2 hW2 hN2 hhd;obtain⟨lv,hlv⟩:∃v,wrap64 (lf-1)=v:=⟨_,rfl⟩;have hhd:s3=if lv=0 then zaV {s2 with needs:=s2.needs.set cc (ow,lv) } ow else {s2 with needs:=s2.needs.set cc (ow,lv) }:=by rw[<-hlv];exact hhd
       have Z1:=HB.out.needSet (v:=lv) hdg;have hcm:0+cc<cn:=by omega
       obtain⟨w1',hw1'⟩:∃W,wr.setCell ⟨gn,cc*2+1,none⟩ (.int .i64 lv)=W:=⟨_,rfl⟩;rw[hw1'] at Z1;have hc3:cc<(s2.needs.set cc (ow,lv)).length:=by rw[List.length_set];exact hc2
       obtain⟨gn',hgn',_,_,t0,t1,_⟩:=znn (r:=s2.needs.set cc (ow,lv)) Z1.o0 hc3;injection hgn' with hgn';injection hgn' with hgn';subst hgn';rw[List.getElem_set_self] at t0 t1;have hrdy:s2.ready.length<=2097152:=by have:=HO.out.ct;omega
       have hfl:ow<s2.fin.length:=by rw[HO.out.fl];exact hown
       have hs1:w1'.heap.size=wr.heap.size:=by rw[<-hw1'];exact World.size_setCell ..
       have HZ1:=zz Z1;have HQ2:=zz q;have HO2:=zz hO2;have HK2:=zz hK2;have HW2:=zz hW2;have HN2:=zz hN2
       by_cases h0:lv=0
       ·have e0:(lv == 0)=true:=by rw[h0];rfl
        rw[if_pos h0] at hhd;obtain⟨lb4,hlb4⟩:∃g:Nat->Nat,(λq=>if q<w1'.heap.size then lb q else 1)=g:=⟨_,rfl⟩;have hsl:∀q,q<w1'.heap.size->lb4 q=lb q:=λq hq=>by rw[<-hlb4];exact if_pos hq
        have hnew:∀q,w1'.heap.size<=q->lb4 q=1:=λq hq=>by rw[<-hlb4];exact if_neg (by omega)
        have KS:=zz (ziW ow (Z1.relab hsl) hfl hrdy hnew);have KS':Hid (∃X,X=s3/\X=zaV {s2 with needs:=s2.needs.set cc (ow,lv) } ow):=zz ⟨s3,rfl,hhd⟩;have HHD:=zz hhd;clear hhd hlb4 hsl hnew h0 hs1 Z1 q hO2 hK2 hW2 hN2 hoy hvy HB HZ1 hd0 hdg hcc HF HW HK HO HN KS' hs3;go_wp2_with fail;(with_reducible refine KS.out.mono ?_);rintro e w11 ⟨rfl,Ar',cr',hz,hc⟩;have Z11:Hid (LpSt w w11 lb4 s3 (some ⟨gn,0,none⟩) cn Ar' cr' vs):=zz (by rw[HHD.out];exact hz);clear hz hc HHD KS t0 t1 y0 y1 yz x1 hw1';go_wp2_with fail;exact⟨⟨k+1,s3,lb4,Ar',cr',by omega,by go_num,HQ2,HW2,HK2,HO2,HN2,Z11⟩,by simp[intOf];omega⟩
       ·have e0:(lv == 0)=false:=by rw[beq_eq_false_iff_ne];exact h0
        rw[if_neg h0] at hhd;have Z11:Hid (LpSt w w1' lb s3 (some ⟨gn,0,none⟩) cn Ar cr vs):=zz (by rw[hhd];exact Z1);clear hhd h0 hs1 Z1 q hO2 hK2 hW2 hN2 hoy hvy HB HZ1 hd0 hdg hcc HF HW HK HO HN hs3;go_wp2_with fail;exact⟨⟨k+1,s3,lb,Ar,cr,by omega,by go_num,HQ2,HW2,HK2,HO2,HN2,Z11⟩,by simp[intOf];omega⟩
      ·have q:=HF.out;rw[List.drop_eq_nil_of_le (show r5.length<=k by omega),List.foldl_nil] at q;subst q;have HM2:=zz (zsI HB.out);have HC9:Hid (s2.fin.count false+s2.ready.length<=f'):=zz (by rw[HK.out];exact HC1.out);have hmm:Hid (msr w.heap.size wr<s.fin.count false+s.ready.length):=zz (by rw[HM2.out,HK.out];exact HC2.out);clear HM2 HF HK HC1 HC2 HR5 HV HWI HW;go_wp2_with fail;refine⟨⟨f',s2,lb,Ar,cr,HQ9,HC9,HO,HN,HB⟩,?_⟩;rw[HMS.out];exact hmm.out
end Go.Proofs.YtcebmphappfjjaaGreatDoor
