/- Conditions: those in each statement. -/
import Derived.Test.YtcebmphappfjjaaGreatDoorQ12
set_option maxHeartbeats 32000000
set_option maxRecDepth 100000
namespace Go.Proofs.YtcebmphappfjjaaGreatDoor
open Go.RowKit Go.MapKept
theorem zts (y:Nd) (seen:List ByteArray):zaY [y] seen=if memB y.text seen=true then (some y.at',seen) else (none,seen++[y.text]):=by
 rw[zaY]
 by_cases h:memB y.text seen=true
 ·rw[if_pos h,if_pos h]
 ·rw[if_neg h,if_neg h,zaY]
theorem znI (kd:Int) (tx:ByteArray) (nn at':Int) (l:List Nd) (ctors:List ByteArray):zdR (.mk kd tx nn at' l) ctors=if kd=3 then zaY l ctors
 else match (zaY (zaL l) []).1 with
 |some a=>(some a,ctors)
 |none=>if kd=6 then (zcS (l.drop (zaL l).length) [] [],ctors) else (none,ctors):=rfl
theorem zgR (y:Nd) (A:Option Addr) (c m:Nat) (seen:List ByteArray) (w:World) (h:Rd (Lt w.heap.size) w (ns [y]) (.slice A 1 c)) (hm:zaN w m (setL seen)) :
 Calls Tryz.prog 184 #[.slice A 1 c,.map (some m)] w (zhD w m (if memB y.text seen=true then (some y.at',seen) else (none,seen++[y.text]))):=by
 have:=zcX [y] A c m seen w h hm;rw[zts] at this;exact this
structure MbSt (w W:World) (ms mh:Nat) (st hd:List ByteArray):Prop where
 low:Below w.heap.size w W
 states:zaN W ms (setL st)
 hands:zaN W mh (setL hd)
 les:w.heap.size<=ms
 leh:w.heap.size<=mh
 ne:ms≠mh
section
variable {w W W':World} {ms mh:Nat} {st hd:List ByteArray}
theorem MbSt.below (h:MbSt w W ms mh st hd) (k:Below W.heap.size W W'):MbSt w W' ms mh st hd:=
 ⟨zac h.low k h.low.size,zaq h.states (Chg.of_below (M:=λ_=>False) k) (λh=>h),zaq h.hands (Chg.of_below (M:=λ_=>False) k) (λh=>h),h.les,h.leh,h.ne⟩
theorem MbSt.turnS {st':List ByteArray} (h:MbSt w W ms mh st hd) (k:Kept (λq=>q=ms) W W') (hm:zaN W' ms (setL st')):MbSt w W' ms mh st' hd:=
 ⟨h.low.trans (k.chg.below h.low.size (λq hq=>by have:=h.les;omega)),hm,zaq h.hands k.chg (λe=>h.ne e.symm),h.les,h.leh,h.ne⟩
theorem MbSt.turnH {hd':List ByteArray} (h:MbSt w W ms mh st hd) (k:Kept (λq=>q=mh) W W') (hm:zaN W' mh (setL hd')):MbSt w W' ms mh st hd':=
 ⟨h.low.trans (k.chg.below h.low.size (λq hq=>by have:=h.leh;omega)),zaq h.states k.chg h.ne,hm,h.les,h.leh,h.ne⟩
end
theorem MbSt.other {w W W':World} {ms mh x:Nat} {st hd:List ByteArray} (h:MbSt w W ms mh st hd) (k:Kept (λq=>q=x) W W') (hx:w.heap.size<=x) (h1:ms≠x) (h2:mh≠x):MbSt w W' ms mh st hd:=
 ⟨h.low.trans (k.chg.below h.low.size (λq hq=>by omega)),zaq h.states k.chg h1,zaq h.hands k.chg h2,h.les,h.leh,h.ne⟩
theorem zeZ {w w1 W:World} {m:Nat} {ct:List ByteArray} {o:Option Int} {e:Ending} (b1:Below w.heap.size w w1) (hm:zaN w1 m (setL ct)) (hp:Below w1.heap.size w1 W)
 (he:match o with|some a=>e=.returned (.tuple #[.int .i64 a,.bool true])|none=>e=.returned (.tuple #[.int .i64 0,.bool false])):zhD w m (o,ct) e W:=
 ⟨Kept.of_below (zac b1 hp b1.size),zaq hm (Chg.of_below (M:=λ_=>False) hp) (λh=>h),he⟩
theorem znV (kd:Int) (tx:ByteArray) (nn at':Int) (l:List Nd) (hs:zaB l<=2097152) (A:Option Addr) (c m:Nat) (ctors:List ByteArray) (w:World) (h:Rd (Lt w.heap.size) w (ns l) (.slice A l.length c)) (hm:zaN w m (setL ctors)) :
 Calls Tryz.prog 128 #[.agg #[.int .i64 kd,.string tx,.int .i64 nn,.int .i64 at',.slice A l.length c],.map (some m)] w (zhD w m (zdR (.mk kd tx nn at' l) ctors)):=by
 have hmm:=@run_makeMap Tryz.prog;have hl:=zaS h;have hc1:=hl.2.1;have hc2:=hl.2.2;have hn:l.length<=2097152:=Nat.le_trans (zat l) hs;obtain⟨r,hr⟩:∃r,zdR (.mk kd tx nn at' l) ctors=r:=⟨_,rfl⟩;rw[hr];rw[znI] at hr;obtain⟨w1,h1,b1,c1⟩:=zaj w #[.int .i64 kd,.string tx,.int .i64 nn,.int .i64 at',.slice A l.length c] 49;have s1:w1.heap.size=w.heap.size+1:=by rw[<-h1];simp
 have x0:=c1.cell 0;have x4:w1.cell? ⟨w.heap.size,4,none⟩=some (.slice A l.length c):=c1.cell 4;have hm1:zaN w1 m (setL ctors):=zaq hm (Chg.of_below (M:=λ_=>False) b1) (λh=>h);have HM0:=zz hm;have HM1:=zz hm1;have HB1:=zz b1;have HC1:=zz c1;have HR1:=zz (h.belows b1);have hml:=hm.lt;clear h hl hm hm1 b1 c1
 by_cases hk:kd=3
 ·subst hk;rw[if_pos rfl] at hr;have KR:=zz (zcX l A c m ctors w1 HR1.out HM1.out);rw[hr] at KR;clear hr;go_enter Tryz.func128,Tryz.ntmps128;go_wp2_with fail;(with_reducible refine KR.out.mono ?_);obtain⟨o,s'⟩:=r;cases o with
  |none=>
   rintro e w2 ⟨hk2,hm2,rfl⟩;have HP:=zz (And.intro ((Kept.of_below (M:=λq=>q=m) HB1.out).next hk2) hm2);clear hk2 hm2;go_wp2
   go_ret2
   exact⟨HP.out.1,HP.out.2,rfl⟩
  |some a=>
   rintro e w2 ⟨hk2,hm2,rfl⟩;have HP:=zz (And.intro ((Kept.of_below (M:=λq=>q=m) HB1.out).next hk2) hm2);clear hk2 hm2;go_wp2
   go_ret2
   exact⟨HP.out.1,HP.out.2,rfl⟩
 ·rw[if_neg hk] at hr;have e3:(kd == 3)=false:=by rw[beq_eq_false_iff_ne];exact hk
  clear hk;have KL:=zz (zcj l A c w1 HR1.out);obtain⟨f,hf⟩:∃f,zaL l=f:=⟨_,rfl⟩;have hfl:f.length<=l.length:=by rw[<-hf];exact zgw l
  have HRf:=zz (zih HR1.out);rw[hf] at hr KL HRf;clear hf;go_enter Tryz.func128,Tryz.ntmps128;go_wp2_with fail;(with_reducible refine KL.out.mono ?_);rintro e w2 ⟨rfl,hb2⟩;have HB2:=zz (zac HB1.out hb2 HB1.out.size);have b3:=zag w2 (.map #[] 0);have m3:=zaN.new w2;obtain⟨w3,h3⟩:∃W,w2.alloc (.map #[] 0)=W:=⟨_,rfl⟩;have s3:w3.heap.size=w2.heap.size+1:=by rw[<-h3];simp
  rw[h3] at b3 m3;have hb3:=zac hb2 b3 hb2.size;have HB3:=zz (zac HB2.out b3 HB2.out.size);have HB13:=zz hb3;have X3:=zz (zaa hb3 HC1.out);have HM3:=zz (zaq HM1.out (Chg.of_below (M:=λ_=>False) hb3) (λh=>h));have HR3:=zz (HR1.out.belows hb3);have KR:=zz (zcX f A c w2.heap.size [] w3 (HRf.out.belows hb3) m3);have hs12:=hb2.size;have hs23:w2.heap.size<w3.heap.size:=by omega
  clear hb2 hb3 b3 m3 s3 x0 x4 h1;go_wp2_with fail;(with_reducible refine KR.out.mono ?_);obtain⟨q,hq⟩:∃q,zaY f []=q:=⟨_,rfl⟩;rw[hq] at hr KR ⊢;obtain⟨o,s'⟩:=q;cases o with
  |some a=>
   have HQ:=zz hr;rintro e w4 ⟨hk4,hm4,rfl⟩;have HP:Hid (Below w.heap.size w w4):=zz (HB3.out.trans (hk4.chg.below HB3.out.size (λq hq=>by omega)));clear hr hk4 hm4;go_wp2
   go_ret2
   rw[<-HQ.out];exact⟨Kept.of_below HP.out,zaq HM0.out (Chg.of_below (M:=λ_=>False) HP.out) (λh=>h),rfl⟩
  |none=>
   simp only at hr;rintro e w4 ⟨hk4,hm4,rfl⟩;have HB4:Hid (Below w.heap.size w w4):=zz (HB3.out.trans (hk4.chg.below HB3.out.size (λq hq=>by omega)));have X4:=zz (hk4.cells X3.out (by omega));have x0:=X4.out.cell 0;have x4:w4.cell? ⟨w.heap.size,4,none⟩=some (.slice A l.length c):=X4.out.cell 4;have HR4:=zz (hk4.rd HR3.out);have hs34:=hk4.size;have HB14:Hid (Below w1.heap.size w1 w4):=zz (HB13.out.trans (hk4.chg.below HB13.out.size (λq hq=>by omega)));clear hk4 hm4 X3 HR3 HM3 KR KL h3
   by_cases hk6:kd=6
   ·subst hk6;rw[if_pos rfl] at hr;clear e3;have hmx:∀W:World,Below w1.heap.size w1 W->W.cell? ⟨w.heap.size,4,none⟩=some (.slice A l.length c):=λW hb=>(zaa hb HC1.out).cell 4;have HMX:=zz hmx;have b5:=zag w4 (.map #[] 0);have m5:=zaN.new w4;obtain⟨w5,h5⟩:∃W,w4.alloc (.map #[] 0)=W:=⟨_,rfl⟩;have s5:w5.heap.size=w4.heap.size+1:=by rw[<-h5];simp
    rw[h5] at b5 m5;have b6:=zag w5 (.map #[] 0);have m6:=zaN.new w5;obtain⟨w6,h6⟩:∃W,w5.alloc (.map #[] 0)=W:=⟨_,rfl⟩;rw[h6] at b6 m6;have Z0:Hid (MbSt w1 w6 w4.heap.size w5.heap.size [] []):=zz ⟨zac (zac HB14.out b5 HB14.out.size) b6 (by have:=HB14.out.size;omega),zaq m5 (Chg.of_below (M:=λ_=>False) b6) (λh=>h),m6,HB14.out.size,by have:=HB14.out.size;omega,by omega⟩;obtain⟨ms,hms⟩:∃k,w4.heap.size=k:=⟨_,rfl⟩;obtain⟨mh,hmh⟩:∃k,w5.heap.size=k:=⟨_,rfl⟩;have x6:w6.cell? ⟨w.heap.size,4,none⟩=some (.slice A l.length c):=hmx w6 Z0.out.low;have HQR:=zz hr;clear hr hmx b5 m5 b6 m6 s5
    by_cases hfk:f.length<l.length
    ·obtain⟨b,off,_,e,_,_,_⟩:=zbC HR1.out hfk;subst e;have hcf:f.length<c:=by omega
     have HRr:=zz (zgl HR1.out hfl (some ⟨b,off+f.length*5,none⟩) (by rw[if_neg (by omega),Option.map_some,Addr.add_lit]));obtain⟨o,ho⟩:∃o,zcS (l.drop f.length) [] []=o:=⟨_,rfl⟩;obtain⟨rest,hrest⟩:∃rest,l.drop f.length=rest:=⟨_,rfl⟩;have hrl:rest.length=l.length-f.length:=by rw[<-hrest,List.length_drop]
     have hrg:∀i,rest[i]?=l[f.length+i]?:=λi=>by rw[<-hrest,List.getElem?_drop]
     have q:=HQR.out;rw[ho] at q;clear HQR;have HQR:=zz q;rw[hrest] at ho HRr;have HRL:=zz hrl;have HRG:=zz hrg;have HA0:Hid (zcS (rest.drop 0) [] []=o):=zz ho;have hrle:rest.length<=l.length-f.length:=by omega
     have hrge:l.length-f.length<=rest.length:=by omega
     clear ho hrest hrl hrg q;go_wp2_with fail;rw[hms,hmh] at Z0;clear h5 h6 hms hmh x6
     go_loopw [49] (λs wr=>∃(i:Nat) (st hd:List ByteArray),i<=rest.length/\s=.int .i64 i/\Hid (zcS (rest.drop i) st hd=o)/\Hid (MbSt w1 wr ms mh st hd)) (λs _=>rest.length-(intOf s).toNat)
     case atStart=>exact⟨0,[],[],by omega,rfl,HA0,Z0⟩
     case round=>
      clear HA0 Z0;obtain⟨i,st,hd,hi,rfl,HA,HB⟩:=hrel;have hlms:=HB.out.states.lt;have hlmh:=HB.out.hands.lt;have hsB:=HB.out.low.size
      by_cases hlt:i<rest.length
      ·obtain⟨b',off',y,e,hlb,hget,A',c',p0,p1,p2,p3,p4,r5⟩:=zbC (HRr.out.belows HB.out.low) hlt;injection e with e;injection e with e1 e2;subst e1 e2;have hin:(i:Int)<rest.length:=by omega
       have q:=HA.out;rw[zal hget,zcS] at q
       have hone:Rd (Lt wr.heap.size) wr (ns [y]) (.slice (some ⟨b,off+(f.length+i)*5,none⟩) 1 (c-(f.length+i))):=by
        have h1:=zgl (HR1.out.belows HB.out.low) (k:=f.length+i) (by omega) (some ⟨b,off+(f.length+i)*5,none⟩) (by rw[if_neg (by omega),Option.map_some,Addr.add_lit]);have h2:=zhO h1 (k:=1) (by rw[List.length_drop];omega)
        have h3:(l.drop (f.length+i)).take 1=[y]:=by
         have:=HRG.out i;rw[hget] at this;rw[zal this.symm];rfl
        rw[h3] at h2;exact h2
       obtain⟨w7,hw7,hb7,hx7⟩:=zaj wr #[.int .i64 y.kind,.string y.text,.int .i64 y.n,.int .i64 y.at',.slice A' y.kids.length c'] 49;have q0:w7.cell? ⟨wr.heap.size,0,none⟩=some (.int .i64 y.kind):=hx7.cell 0;have q4:w7.cell? ⟨wr.heap.size,4,none⟩=some (.slice A' y.kids.length c'):=hx7.cell 4;have HX7:=zz hx7;have Z7:=zz (HB.out.below hb7);have x4:w7.cell? ⟨w.heap.size,4,none⟩=some (.slice (some ⟨b,off,none⟩) l.length c):=HMX.out w7 Z7.out.low
       by_cases hko:y.kind=10
       ·have e10:(y.kind == 10)=true:=by rw[beq_iff_eq];exact hko
        simp only[if_pos hko] at q;have KS:=zz (zgR y (some ⟨b,off+(f.length+i)*5,none⟩) (c-(f.length+i)) mh hd w7 (hone.belows hb7) Z7.out.hands);cases hmb:memB y.text hd with
        |true=>
         rw[hmb,if_pos rfl] at KS;rw[hmb,if_pos rfl] at q;have HQ:=zz q;clear q hmb hb7 hx7 hget r5 HA HB hone hko;go_wp2_with fail;(with_reducible refine KS.out.mono ?_);rintro e w8 ⟨hk8,hm8,rfl⟩;have HP:=zz ((Z7.out.turnH hk8 hm8).low);clear hk8 hm8 q0 q4;go_wp2
         go_ret2
         rw[<-HQR.out,<-HQ.out];exact zeZ HB1.out HM1.out HP.out rfl
        |false=>
         rw[hmb,if_neg (by simp)] at KS;rw[hmb,if_neg (by simp)] at q;have HQ0:=zz q;clear q hmb hget HA HB hone hko;go_wp2_with fail;(with_reducible refine KS.out.mono ?_);rintro e w8 ⟨hk8,hm8,rfl⟩;have Z8:=zz (Z7.out.turnH hk8 hm8);have X8:=zz (hk8.cells HX7.out (by omega));have y4:w8.cell? ⟨wr.heap.size,4,none⟩=some (.slice A' y.kids.length c'):=X8.out.cell 4;have HR8:=zz (hk8.rd (r5.belows hb7));have KL:=zz (zcj y.kids A' c' w8 HR8.out);have HRf2:=zz (zih HR8.out);obtain⟨f2,hf2⟩:∃f2,zaL y.kids=f2:=⟨_,rfl⟩;have q:=HQ0.out;rw[hf2] at KL HRf2 q;have HQ1:=zz q;have hs78:=hk8.size;clear hk8 hm8 hb7 hx7 r5 q hf2 HQ0 q0 q4 KS hw7;go_wp2_with fail;(with_reducible refine KL.out.mono ?_);rintro e w9 ⟨rfl,hb9⟩;have Z9:=zz (Z8.out.below hb9);have b10:=zag w9 (.map #[] 0);have m10:=zaN.new w9;obtain⟨w10,h10⟩:∃W,w9.alloc (.map #[] 0)=W:=⟨_,rfl⟩;have s10:w10.heap.size=w9.heap.size+1:=by rw[<-h10];simp
         rw[h10] at b10 m10;have Z10:=zz (Z9.out.below b10);have KR:=zz (zcX f2 A' c' w9.heap.size [] w10 (HRf2.out.belows (zac hb9 b10 hb9.size)) m10);have hs9:=Z9.out.low.size;have hs10:w9.heap.size<w10.heap.size:=by omega
         have Z9s:=Z9.out.states.lt;have Z9h:=Z9.out.hands.lt;clear hb9 b10 m10 y4 X8 HR8 KL s10;go_wp2_with fail;(with_reducible refine KR.out.mono ?_);obtain⟨p2,hp2⟩:∃p2,zaY f2 []=p2:=⟨_,rfl⟩;have q:=HQ1.out;rw[hp2] at q KR ⊢;clear hp2 HQ1;obtain⟨o2,s2⟩:=p2;cases o2 with
         |some a=>
          have HQ:=zz q;rintro e w11 ⟨hk11,hm11,rfl⟩;have HP:Hid (Below w1.heap.size w1 w11):=zz (Z10.out.low.trans (hk11.chg.below Z10.out.low.size (λq hq=>by omega)));clear hk11 hm11 q;go_wp2
          go_ret2
          rw[<-HQR.out,<-HQ.out];exact zeZ HB1.out HM1.out HP.out rfl
         |none=>
          have HQ:=zz q;rintro e w11 ⟨hk11,hm11,rfl⟩;have Z11:Hid (MbSt w1 w11 ms mh st (hd++[y.text])):=zz (Z10.out.other hk11 (by omega) (by omega) (by omega));clear hk11 hm11 q Z7 Z8 Z9 Z10 KR h10;go_wp2_with fail;exact⟨⟨i+1,st,(hd++[y.text]),by omega,by go_num,HQ,Z11⟩,by simp[intOf];omega⟩
       ·have e10:(y.kind == 10)=false:=by rw[beq_eq_false_iff_ne];exact hko
        simp only[if_neg hko] at q;have KS:=zz (zgR y (some ⟨b,off+(f.length+i)*5,none⟩) (c-(f.length+i)) ms st w7 (hone.belows hb7) Z7.out.states);cases hmb:memB y.text st with
        |true=>
         rw[hmb,if_pos rfl] at KS;rw[hmb,if_pos rfl] at q;have HQ:=zz q;clear q hmb hb7 hx7 hget r5 HA HB hone hko;go_wp2_with fail;(with_reducible refine KS.out.mono ?_);rintro e w8 ⟨hk8,hm8,rfl⟩;have HP:=zz ((Z7.out.turnS hk8 hm8).low);clear hk8 hm8 q0 q4;go_wp2
         go_ret2
         rw[<-HQR.out,<-HQ.out];exact zeZ HB1.out HM1.out HP.out rfl
        |false=>
         rw[hmb,if_neg (by simp)] at KS;rw[hmb,if_neg (by simp)] at q;have HQ0:=zz q;clear q hmb hget HA HB hone hko;go_wp2_with fail;(with_reducible refine KS.out.mono ?_);rintro e w8 ⟨hk8,hm8,rfl⟩;have Z8:=zz (Z7.out.turnS hk8 hm8);have X8:=zz (hk8.cells HX7.out (by omega));have y4:w8.cell? ⟨wr.heap.size,4,none⟩=some (.slice A' y.kids.length c'):=X8.out.cell 4;have HR8:=zz (hk8.rd (r5.belows hb7));have KL:=zz (zcj y.kids A' c' w8 HR8.out);have HRf2:=zz (zih HR8.out);obtain⟨f2,hf2⟩:∃f2,zaL y.kids=f2:=⟨_,rfl⟩;have q:=HQ0.out;rw[hf2] at KL HRf2 q;have HQ1:=zz q;have hs78:=hk8.size;clear hk8 hm8 hb7 hx7 r5 q hf2 HQ0 q0 q4 KS hw7;go_wp2_with fail;(with_reducible refine KL.out.mono ?_);rintro e w9 ⟨rfl,hb9⟩;have Z9:=zz (Z8.out.below hb9);have b10:=zag w9 (.map #[] 0);have m10:=zaN.new w9;obtain⟨w10,h10⟩:∃W,w9.alloc (.map #[] 0)=W:=⟨_,rfl⟩;have s10:w10.heap.size=w9.heap.size+1:=by rw[<-h10];simp
         rw[h10] at b10 m10;have Z10:=zz (Z9.out.below b10);have KR:=zz (zcX f2 A' c' w9.heap.size [] w10 (HRf2.out.belows (zac hb9 b10 hb9.size)) m10);have hs9:=Z9.out.low.size;have hs10:w9.heap.size<w10.heap.size:=by omega
         have Z9s:=Z9.out.states.lt;have Z9h:=Z9.out.hands.lt;clear hb9 b10 m10 y4 X8 HR8 KL s10;go_wp2_with fail;(with_reducible refine KR.out.mono ?_);obtain⟨p2,hp2⟩:∃p2,zaY f2 []=p2:=⟨_,rfl⟩;have q:=HQ1.out;rw[hp2] at q KR ⊢;clear hp2 HQ1;obtain⟨o2,s2⟩:=p2;cases o2 with
         |some a=>
          have HQ:=zz q;rintro e w11 ⟨hk11,hm11,rfl⟩;have HP:Hid (Below w1.heap.size w1 w11):=zz (Z10.out.low.trans (hk11.chg.below Z10.out.low.size (λq hq=>by omega)));clear hk11 hm11 q;go_wp2
          go_ret2
          rw[<-HQR.out,<-HQ.out];exact zeZ HB1.out HM1.out HP.out rfl
         |none=>
          have HQ:=zz q;rintro e w11 ⟨hk11,hm11,rfl⟩;have Z11:Hid (MbSt w1 w11 ms mh (st++[y.text]) hd):=zz (Z10.out.other hk11 (by omega) (by omega) (by omega));clear hk11 hm11 q Z7 Z8 Z9 Z10 KR h10;go_wp2_with fail;exact⟨⟨i+1,(st++[y.text]),hd,by omega,by go_num,HQ,Z11⟩,by simp[intOf];omega⟩
      ·have HQ:Hid (none=o):=zz (by
        have q:=HA.out;rw[List.drop_eq_nil_of_le (by omega),zcS] at q;exact q)
       have HP:=zz HB.out.low;clear HA HB;go_wp2
       go_ret2
       rw[<-HQR.out,<-HQ.out];exact zeZ HB1.out HM1.out HP.out rfl
    ·have hfe:l.length<=f.length:=by omega
     have HQ:Hid ((none,ctors)=r):=zz (by
      have q:=HQR.out;rw[List.drop_eq_nil_of_le hfe,zcS] at q;exact q)
     clear HQR
     by_cases hcf:c=f.length
     ·subst hcf;go_wp2_with fail
      go_loopw [49] (λs wr=>s=.int .i64 0/\Hid (MbSt w1 wr w4.heap.size w5.heap.size [] [])) (λ_ _=>0)
      case atStart=>exact⟨rfl,Z0⟩
      case round=>
       obtain⟨rfl,HB⟩:=hrel;have HP:=zz HB.out.low;go_wp2
       go_ret2
       rw[<-HQ.out];exact zeZ HB1.out HM1.out HP.out rfl
     ·have hcf2:f.length<c:=by omega
      have hcb:(c == f.length)=false:=by rw[beq_eq_false_iff_ne];exact hcf
      cases A with
      |none=>
       go_wp2_with fail
       go_loopw [49] (λs wr=>s=.int .i64 0/\Hid (MbSt w1 wr w4.heap.size w5.heap.size [] [])) (λ_ _=>0)
       case atStart=>exact⟨rfl,Z0⟩
       case round=>
        obtain⟨rfl,HB⟩:=hrel;have HP:=zz HB.out.low;go_wp2
        go_ret2
        rw[<-HQ.out];exact zeZ HB1.out HM1.out HP.out rfl
      |some a=>
       go_wp2_with fail
       go_loopw [49] (λs wr=>s=.int .i64 0/\Hid (MbSt w1 wr w4.heap.size w5.heap.size [] [])) (λ_ _=>0)
       case atStart=>exact⟨rfl,Z0⟩
       case round=>
        obtain⟨rfl,HB⟩:=hrel;have HP:=zz HB.out.low;go_wp2
        go_ret2
        rw[<-HQ.out];exact zeZ HB1.out HM1.out HP.out rfl
   ·rw[if_neg hk6] at hr;have e6:(kd != 6)=true:=by rw[bne_iff_ne];exact hk6
    have HQ:=zz hr;clear hk6 hr;go_wp2
    go_ret2
    rw[<-HQ.out];exact⟨Kept.of_below HB4.out,zaq HM0.out (Chg.of_below (M:=λ_=>False) HB4.out) (λh=>h),rfl⟩
def MapS (w:World) (m:Nat) (L:List (ByteArray × Value)):Prop:=
 ∃es clock,w.heap[m]?=some (.map es clock)/\Stamped es clock/\es.toList.map (λe=>(e.key,e.val))=L.map (λp=>(Value.string p.1,p.2))
theorem MapS.is {w:World} {m:Nat} {L:List (ByteArray × Value)} (h:MapS w m L):zaN w m L:=by
 obtain⟨es,c,h1,_,h3⟩:=h;exact⟨es,c,h1,h3⟩
theorem MapS.keep {w w':World} {m:Nat} {L:List (ByteArray × Value)} (h:MapS w m L) (hk:w'.heap[m]?=w.heap[m]?):MapS w' m L:=by
 obtain⟨es,clock,h,h2⟩:=h;exact⟨es,clock,hk.trans h,h2⟩
theorem zaD {M:Nat->Prop} {w w':World} {m:Nat} {L:List (ByteArray × Value)} (h:MapS w m L) (k:Chg M w w') (hm:¬M m):MapS w' m L:=h.keep (k.block m h.is.lt hm)
theorem MapS.new (w:World):MapS (w.alloc (.map #[] 0)) w.heap.size []:=⟨#[],0,heap_alloc_new w _,stamped_empty 0,rfl⟩
theorem zkE {es:Array MapEntry} {clock:Nat} (h:Stamped es clock) (e:MapEntry) (he:e.born=clock):(es.push e).findIdx? (λx=>(x.born:Int) == (clock:Int))=some es.size:=by
 rw[Array.findIdx?_push]
 have h1:es.findIdx? (λx=>(x.born:Int) == (clock:Int))=none:=by
  rw[Array.findIdx?_eq_none_iff];intro x hx;have:=((stamped_iff es clock).1 h).1 x (by simpa using hx);simp;omega
 rw[h1];simp[he]
theorem zkk {es:Array MapEntry} {clock i:Nat} (h:Stamped es clock) (hi:i<es.size):es.findIdx? (λx=>(x.born:Int) == (es[i].born:Int))=some i:=by
 rw[Array.findIdx?_eq_some_iff_getElem];refine⟨hi,by simp,λj hj=>?_⟩;have hn:=((stamped_iff es clock).1 h).2.1;have hjs:j<es.size:=by omega
 have hne:es[j].born≠es[i].born:=λe=>by
  have h1:(es.toList.map (·.born))[j]?=some es[j].born:=by simp[hjs]
  have h2:(es.toList.map (·.born))[i]?=some es[i].born:=by simp[hi]
  have:=(List.getElem?_inj (by simpa using hjs) hn).1 (h1.trans (by rw[e,h2]));omega
 simp only[Bool.not_eq_true,beq_eq_false_iff_ne];omega
section
variable {P:Program} {T K E:TypeId} (hT:P.underlying T=some (.map K E)) (hK:P.underlying K=some .string)
include hT hK
theorem zfT {w:World} {m:Nat} {L:List (ByteArray × Value)} (h:zaN w m L) {z:Value} (hz:(zeroValue E).run P w=.ok z w) (k:ByteArray) :
 (Instr.lookup T (.map (some m)) (.string k) true).run P w=.ok (.tuple #[mget z L k,.bool (fnd k L 0).isSome]) w:=by
 obtain⟨es,clock,hb,he⟩:=h;have hf:=zcO k es.toList L 0 he;have hfk:=run_findKey (P:=P) (w:=w) hK hf;have hck:∀b,(Instr.checkKey b 10000 K (.string k)).run P w=.ok () w:=λb=>run_checkKey (P:=P) (w:=w) hK (k:=.string k) trivial b 9999;unfold mget;cases hx:fnd k L 0 with
 |none=>
  rw[hx] at hfk;simp[Instr.lookup,run_underlying hT,MapKept.run_getObj_map hb,hck,hfk,hz]
 |some p=>
  rw[hx] at hfk;simp[Instr.lookup,run_underlying hT,MapKept.run_getObj_map hb,hck,hfk]
theorem zka {w:World} {m:Nat} {L:List (ByteArray × Value)} (h:MapS w m L) {z:Value} (hz:(zeroValue E).run P w=.ok z w) (k:ByteArray) (v:Value) :
 ∃z' st w1 w2,(Instr.mapEntry T (.map (some m)) (.string k)).run P w=.ok (.tuple #[z',st]) w1/\(Instr.entryStore T (.map (some m)) st v).run P w1=.ok () w2/\
  MapS w2 m (mput L k v)/\w.grownBy w1 (some m)/\w.grownBy w2 (some m)/\w1.heap.size=w.heap.size/\w2.heap.size=w.heap.size/\∃L1,zaN w1 m L1:=by
 obtain⟨es,clock,hb,hst,he⟩:=h;have hf:=zcO k es.toList L 0 he;have hfk:=run_findKey (P:=P) (w:=w) hK hf;have hck:∀b,(Instr.checkKey b 10000 K (.string k)).run P w=.ok () w:=λb=>run_checkKey (P:=P) (w:=w) hK (k:=.string k) trivial b 9999
 have hgr:∀o:Obj,w.grownBy {w with heap:=w.heap.setIfInBounds m o} (some m):=λo=>
  ⟨rfl,rfl,rfl,by simp,λj _ hj=>(heap_set hb).2 j (λe=>hj (by rw[e]))⟩
 unfold mput;cases hx:fnd k L 0 with
 |none=>
  rw[hx] at hfk
  have hnk:∀x∈es.toList,x.key≠Value.string k:=λx hx2 e=>by
   obtain⟨j,hj⟩:=List.getElem?_of_mem hx2;have h1:=congrArg (λl=>l[j]?) he;simp only[List.getElem?_map,hj,Option.map_some] at h1;cases hL:L[j]? with
   |none=>rw[hL] at h1;cases h1
   |some p=>
    rw[hL] at h1;simp only[Option.map_some,Option.some.injEq,Prod.mk.injEq] at h1
    have hkp:k=p.1:=by
     have:=h1.1;rw[e] at this;injection this
    have:∀(L:List (ByteArray × Value)) (i j:Nat) (p:ByteArray × Value),L[j]?=some p->k=p.1->fnd k L i≠none:=by
     intro L
     induction L with
     |nil=>intro i j p h;simp at h
     |cons q r ih=>
      intro i j p h hk;rw[fnd]
      by_cases hq:k=q.1
      ·rw[if_pos hq];simp
      ·rw[if_neg hq];cases j with
       |zero=>simp at h;subst h;exact absurd hk hq
       |succ j=>exact ih (i+1) j p (by simpa using h) hk
    exact this L 0 j p hL hkp hx
  have hb1:({w with heap:=w.heap.setIfInBounds m (.map (es.push ⟨.string k,z,clock⟩) (clock+1)) }:World).heap[m]?=some (.map (es.push ⟨.string k,z,clock⟩) (clock+1)):=(heap_set hb).1;have hst1:=stamped_push hst (key:=.string k) (val:=z) hnk;refine⟨z,.int .i64 clock,{w with heap:=w.heap.setIfInBounds m (.map (es.push ⟨.string k,z,clock⟩) (clock+1)) },{w with heap:=w.heap.setIfInBounds m (.map ((es.push ⟨.string k,z,clock⟩).modify es.size (λe=>{e with val:=v})) (clock+1)) },?_,?_,⟨_,_,(heap_set hb).1,stamped_modify hst1 _ _ (λ_ _=>rfl) (λ_ _ _=>rfl),?_⟩,hgr _,hgr _,by simp,by simp,⟨L++[(k,z)],_,_,hb1,by simp[he]⟩⟩
  ·simp[Instr.mapEntry,run_underlying hT,MapKept.run_getObj_map hb,hck,hfk,hz,MapKept.run_setObj_map _ hb,goInt]
  ·have hfi:=zkE hst ⟨.string k,z,clock⟩ rfl;simp only[Instr.entryStore,Sem.run_bind,MapKept.run_getObj_map hb1,Result.andThen];simp[asInt,asIntOf,hfi,MapKept.run_setObj_map _ hb1]
  ·simp only[List.map_append,List.map_cons,List.map_nil,<-he];apply List.ext_getElem?;intro j;simp only[List.getElem?_map,Array.getElem?_toList,Array.getElem?_modify,List.getElem?_append,Array.getElem?_push,List.length_map,Array.length_toList]
   by_cases h1:j<es.size
   ·have h2:¬es.size=j:=by omega
    have h3:¬j=es.size:=by omega
    simp[h1,h2,h3]
   ·by_cases h2:j=es.size
    ·subst h2;simp
    ·have h3:¬es.size=j:=λe=>h2 e.symm;simp[h1,h2,h3];omega
 |some p=>
  rw[hx] at hfk;obtain⟨_,hp⟩:=zqZ hx;rw[Nat.sub_zero] at hp;have hlen:es.toList.length=L.length:=by simpa using congrArg List.length he
  have hpl:p.1<L.length:=(List.getElem?_eq_some_iff.1 hp).1;have hpe:p.1<es.size:=by simpa [<-hlen] using hpl
  have hke:es[p.1].key=.string k:=by
   have:=congrArg (λl=>l[p.1]?) he;simp only[List.getElem?_map,hp,Array.getElem?_toList,Array.getElem?_eq_getElem hpe,Option.map_some] at this;exact congrArg Prod.fst (Option.some.inj this)
  obtain⟨es1,hes1⟩:∃X,es.modify p.1 (λe=>{e with key:=Value.string k})=X:=⟨_,rfl⟩;have hb1:({w with heap:=w.heap.setIfInBounds m (.map es1 clock) }:World).heap[m]?=some (.map es1 clock):=(heap_set hb).1
  have hst1:Stamped es1 clock:=by
   rw[<-hes1];exact stamped_modify hst _ _ (λ_ _=>rfl) (λe _ h=>by rw[Array.getElem?_eq_getElem hpe] at h;cases h;exact hke.symm)
  have hs1:es1.size=es.size:=by rw[<-hes1];simp
  have hp1:p.1<es1.size:=by omega
  have hbn:es1[p.1].born=es[p.1].born:=by
   have:es1[p.1]?=some {es[p.1] with key:=Value.string k}:=by rw[<-hes1,Array.getElem?_modify,if_pos rfl,Array.getElem?_eq_getElem hpe,Option.map_some]
   rw[Array.getElem?_eq_getElem hp1] at this;rw[Option.some.inj this]
  refine⟨p.2,.int .i64 (es[p.1].born:Int),{w with heap:=w.heap.setIfInBounds m (.map es1 clock) },{w with heap:=w.heap.setIfInBounds m (.map (es1.modify p.1 (λe=>{e with val:=v})) clock) },?_,?_,⟨_,_,(heap_set hb).1,stamped_modify hst1 _ _ (λ_ _=>rfl) (λ_ _ _=>rfl),?_⟩,hgr _,hgr _,by simp,by simp,⟨L.set p.1 (k,p.2),_,_,hb1,?_⟩⟩
  ·simp[Instr.mapEntry,run_underlying hT,MapKept.run_getObj_map hb,hck,hfk,MapKept.run_setObj_map _ hb,goInt,Instr.keyThatStays,hpe,hke,Instr.sameBits,(bytes_beq k k).2 rfl,hes1]
  ·have hfi:=zkk hst1 hp1;rw[hbn] at hfi;simp only[Instr.entryStore,Sem.run_bind,MapKept.run_getObj_map hb1,Result.andThen];simp[asInt,asIntOf,hfi,MapKept.run_setObj_map _ hb1]
  ·apply List.ext_getElem?;intro j;have:=congrArg (λl=>l[j]?) he;rw[<-hes1];simp only[List.getElem?_map,Array.getElem?_toList] at this;simp only[List.getElem?_map,Array.getElem?_toList,Array.getElem?_modify,List.getElem?_set]
   by_cases hj:p.1=j
   ·subst hj;simp[hpl,hpe]
   ·simp[hj,this]
  ·apply List.ext_getElem?;intro j;have:=congrArg (λl=>l[j]?) he;rw[<-hes1];simp only[List.getElem?_map,Array.getElem?_toList] at this;simp only[List.getElem?_map,Array.getElem?_toList,Array.getElem?_modify,List.getElem?_set]
   by_cases hj:p.1=j
   ·subst hj;rw[Array.getElem?_eq_getElem hpe,hp] at this;simp only[Option.map_some,Option.some.injEq,Prod.mk.injEq] at this;simp[hpl,hpe,this.2]
   ·simp[hj,this]
end
end Go.Proofs.YtcebmphappfjjaaGreatDoor
