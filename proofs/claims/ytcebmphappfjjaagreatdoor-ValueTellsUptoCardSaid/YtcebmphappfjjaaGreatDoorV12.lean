/- Conditions: those in each statement. -/
import Derived.Test.YtcebmphappfjjaaGreatDoorV11
import Derived.Deep.RegionHeld3
import Derived.Deep.DeepCutAuto
import Derived.Deep.CutBlock
import Derived.Deep.RegionLaw
import Derived.RegionDies
set_option maxHeartbeats 32000000
set_option maxRecDepth 100000
namespace Go.Proofs.YtcebmphappfjjaaGreatDoor
open Go.RowKit
theorem zuw:(Tryz.prog.info? 66).map (λi=>(i.zero,i.size,i.bytes))=some (some (.agg #[↑zj.a,.slice none 0 0]),2,40):=by kernel_rfl
theorem ztD:(Tryz.prog.info? 63).map (·.size)=some 3:=by kernel_rfl
abbrev zsO (s:ByteArray) (n:Nat) (A:Option Addr) (c:Nat):List Value:=[.string s,.slice A n c]
theorem zpi {ok:Nat->Prop} {w:World} {s:ByteArray} {l:List Fld} {A:Option Addr} {c:Nat} (h:Rd ok w (fls l) (.slice A l.length c)):∀j u,(zsO s l.length A c)[j]?=some u->Rd ok w (zha ⟨s,l⟩ j) u:=by
 intro j u hj
 match j with
 |0=>simp at hj;exact hj.symm
 |1=>simp at hj;rw[<-hj];exact h
 |j+2=>simp at hj
theorem zaI {x:Nat} (W:World) (hx:W.heap.size=x) (cs:List Value) (e:TypeId):∀(j:Nat) (u:Value),cs[j]?=some u->(W.alloc (.cells cs.toArray e)).cell? ((⟨x,0,none⟩:Addr).add j)=some u:=λj u hj=>by
 subst hx;have:=zbG W cs.toArray e j;rw[List.getElem?_toArray,hj] at this;rw[Addr.add_lit,Nat.zero_add];exact this
structure VrSt (w W:World) (nm:ByteArray) (acc:List Ctr) (A:Option Addr) (c:Nat):Prop where
 low:Below w.heap.size w W
 res:zab W (w.heap.size+1) #[.string ⟨#[]⟩,.bool false,.slice none 0 0] 63
 box:zab W (w.heap.size+2) #[.string nm,.bool false,.slice A acc.length c] 63
 own:zaz (w.heap.size+3) 66 2 acc.length (zan zha acc) W (.slice A acc.length c)
structure VrIn (w W:World) (b:Nat) (nm:ByteArray) (acc:List Fld) (A:Option Addr) (c:Nat):Prop where
 low:Below w.heap.size w W
 box:zab W b #[.string nm,.slice A acc.length c] 66
 le:w.heap.size<=b
 own:zaz (b+1) 74 4 acc.length (zan rowF acc) W (.slice A acc.length c)
section
variable {w W W':World} {b:Nat} {nm:ByteArray} {acc:List Ctr} {fl:List Fld} {A:Option Addr} {c:Nat}
theorem VrSt.below (h:VrSt w W nm acc A c) (k:Below W.heap.size W W'):VrSt w W' nm acc A c:=⟨zac h.low k h.low.size,zaa k h.res,zaa k h.box,h.own.below k⟩
theorem VrIn.below (h:VrIn w W b nm fl A c) (k:Below W.heap.size W W'):VrIn w W' b nm fl A c:=⟨zac h.low k h.low.size,zaa k h.box,h.le,h.own.below k⟩
theorem VrIn.grown {L:List Fld} {A':Option Addr} {c':Nat} (h:VrIn w W b nm fl A c) (hO:zaz (b+1) 74 4 L.length (zan rowF L) W' (.slice A' L.length c')) (hg:W.grownBy W' (Value.slice A fl.length c).ownBlock) :
 VrIn w (W'.setCell ⟨b,1,none⟩ (.slice A' L.length c')) b nm L A' c':=by
 have hch:Chg (λk=>b+1<=k) W W':=Chg.of_grown hg (λk hk=>(h.own.below_own k hk).1);have hc2:Chg (λq=>q=b) W' (W'.setCell ⟨b,1,none⟩ (.slice A' L.length c')):=(Chg.refl (λq=>q=b) W').setCell (p:=⟨b,1,none⟩) (.inl rfl) _;have hl:=h.low.trans (hch.below h.low.size (λq hq=>by have:=h.le;omega));refine⟨hl.setCell (p:=⟨b,1,none⟩) h.le _,?_,h.le,hO.chg hc2 (λj hj=>by omega)⟩;have:=(h.box.keep hch zo).set 1 (.slice A' L.length c')
 simpa using this
theorem VrSt.grown {L:List Ctr} {A':Option Addr} {c':Nat} (h:VrSt w W nm acc A c) (hO:zaz (w.heap.size+3) 66 2 L.length (zan zha L) W' (.slice A' L.length c')) (hg:W.grownBy W' (Value.slice A acc.length c).ownBlock) :
 VrSt w (W'.setCell ⟨w.heap.size+2,2,none⟩ (.slice A' L.length c')) nm L A' c':=by
 have hch:Chg (λk=>w.heap.size+3<=k) W W':=Chg.of_grown hg (λk hk=>(h.own.below_own k hk).1);have hc2:Chg (λq=>q=w.heap.size+2) W' (W'.setCell ⟨w.heap.size+2,2,none⟩ (.slice A' L.length c')):=(Chg.refl (λq=>q=w.heap.size+2) W').setCell (p:=⟨w.heap.size+2,2,none⟩) (.inl rfl) _;have hl:=h.low.trans (hch.below h.low.size (λq hq=>by omega));refine⟨hl.setCell (p:=⟨w.heap.size+2,2,none⟩) (by show w.heap.size<=w.heap.size+2;omega) _,(h.res.keep hch zo).keep hc2 zo,?_,hO.chg hc2 (λj hj=>by omega)⟩;have:=(h.box.keep hch zo).set 2 (.slice A' L.length c')
 simpa using this
end
def zuJ (w:World) (d:Dcl) (e:Ending) (w':World):Prop:=Below w.heap.size w w'/\∃A c,e=.returned (.agg #[.string d.name,.bool d.record,.slice A d.ctors.length c])/\Rd (Bt w.heap.size w'.heap.size) w' (slG 2 zha d.ctors) (.slice A d.ctors.length c)
def zmD (t:Nd):Fld:=⟨⟨#[]⟩,zfu t⟩
def znW (k:Nd):Ctr:=⟨k.text,k.kids.map zmD⟩
theorem zmA (n:Nd):zhe n=⟨n.text,false,n.kids.map znW⟩:=rfl
theorem zlQ (n:Nd) (hB:∀y∈n.kids,∀z∈y.kids,BasN z) (A:Option Addr) (c:Nat) (w:World) (hf:n.fit=true) (hs:n.size<=2097152) (h:Rd (Lt w.heap.size) w (ns n.kids) (.slice A n.kids.length c)) :
 Calls Tryz.prog 138 #[.agg #[.int .i64 n.kind,.string n.text,.int .i64 n.n,.int .i64 n.at',.slice A n.kids.length c]] w (zuJ w (zhe n)):=by
 have hfk:=zav hf;have hsk:zaB n.kids<=2097152:=by cases n;rw[zbT] at hs;show zaB _<=_;simp only[Nd.kids];omega
 rw[zmA];generalize n.kind=kd,n.text=tx,n.n=nn,n.at'=at' at *
 obtain⟨l,hl0⟩:=zn n.kids;rw[hl0] at h hfk hsk hB ⊢;have HBL:=zz hB;clear hB;have hl:=zaS h;have hc1:=hl.2.1;have hc2:=hl.2.2;have hn:l.length<=2097152:=Nat.le_trans (zat l) hsk;clear hl0 hf hs;obtain⟨w1,h1,b1,c1⟩:=zaj w #[↑kd,↑tx,↑nn,↑at',.slice A l.length c] 49;have s1:w1.heap.size=w.heap.size+1:=by rw[<-h1];simp
 obtain⟨w2,h2,b2,c2⟩:=zaj w1 #[↑zj.a,.bool false,.slice none 0 0] 63;have s2:w2.heap.size=w.heap.size+2:=by rw[<-h2];simp[s1]
 obtain⟨w3,h3,b3,c3⟩:=zaj w2 #[↑tx,.bool false,.slice none 0 0] 63;rw[s1] at c2;rw[s2] at c3;have Z0:Hid (VrSt w w3 tx [] none 0):=zz ⟨zac (zac b1 b2 b1.size) b3 zo,zaa b3 c2,c3,zaz.nil _ _ _ _ _⟩;have cn:zab w3 w.heap.size #[↑kd,↑tx,↑nn,↑at',.slice A l.length c] 49:=zaa b3 (zaa b2 c1);have x1:=(zaa b2 c1).a 1 rfl;have x4:(w2.alloc (.cells #[↑tx,.bool false,.slice none 0 0] 63)).cell? ⟨w.heap.size,4,none⟩=some (.slice A l.length c):=by rw[h3];exact cn.cell 4
 have H3:=zz h3;have HS1:=zz s1;have HS2:=zz s2;obtain⟨r,hr⟩:=zn (l.map znW);rw[hr];have HA0:Hid ([]++(l.drop 0).map znW=r):=zz hr;have HR:=zz h;have HF:=zz hfk;clear b1 b2 b3 c1 c2 c3 s1 s2 cn hr h hfk hl h3;go_in;go_wp2;rw[H3.out,HS1.out,HS2.out];clear h1 h2 H3 x1 x4 HS1 HS2
 go_loopw [17] (λs17 wr=>∃(i:Nat) (acc:List Ctr) (A':Option Addr) (c':Nat),i<=l.length/\acc.length<=i/\s17=↑i/\Hid (acc++(l.drop i).map znW=r)/\Hid (VrSt w wr tx acc A' c')) (λs17 _=>l.length-(intOf s17).toNat)
 case atStart=>exact⟨0,[],none,0,zo,by simp,rfl,HA0,Z0⟩
 case round=>
  clear HA0 Z0;obtain⟨i,acc,A1,c1,hi,hal,rfl,HA,HB⟩:=hrel;rename World=>wo
  by_cases hlt:i<l.length
  ·obtain⟨b,off,y,e,_,hget,A',c',p0,p1,p2,p3,p4,r5⟩:=zbC (HR.out.belows HB.out.low) hlt;subst e;have HYM:=zz (List.mem_of_getElem? hget);have q:=HA.out;rw[zal hget,List.map_cons] at q;have hin:(i:Int)<l.length:=zo
   obtain⟨w4,hw4,hb4,hx4⟩:=zaj wo #[↑y.kind,↑y.text,↑y.n,↑y.at',.slice A' y.kids.length c'] 49;have s4:w4.heap.size=wo.heap.size+1:=by rw[<-hw4];simp
   have q1:=hx4.a 1 rfl;obtain⟨w5,hw5,hb5,hx5⟩:=zaj w4 #[↑y.text,.slice none 0 0] 66;have q4:(w4.alloc (.cells #[↑y.text,.slice none 0 0] 66)).cell? ⟨wo.heap.size,4,none⟩=some (.slice A' y.kids.length c'):=by rw[hw5];exact(zaa hb5 hx4).cell 4
   have H5:=zz hw5;have hyf:=zaR HF.out (List.mem_of_getElem? hget);have hys:=zaK (List.mem_of_getElem? hget);have hys2:zaB y.kids<=y.size:=by cases y;rw[zbT];show zaB _<=_;exact Nat.le_add_left _ _
   have hsy:zaB y.kids<=2097152:=zo
   have hyn:y.kids.length<=2097152:=Nat.le_trans (zat _) hsy;have hyl:=zaS r5;have hy1:=hyl.2.1;have hy2:=hyl.2.2;have I0:Hid (VrIn wo w5 w4.heap.size y.text [] none 0):=zz ⟨zac hb4 hb5 zo,hx5,zo,zaz.nil _ _ _ _ _⟩;have HFy:=zz (zav hyf);have HRy:=zz r5;have HSy:=zz hsy;have hs4:=zz s4;have J0:Hid ([]++(y.kids.drop 0).map zmD=y.kids.map zmD):=zz rfl;obtain⟨fl,hfl⟩:=zn (y.kids.map zmD);have hfll:fl.length=y.kids.length:=by rw[<-hfl];simp
   have HFL:=zz hfll;have HQ:Hid (acc++[(⟨y.text,fl⟩:Ctr)]++(l.drop (i+1)).map znW=r):=zz (by rw[<-q,<-hfl];simp[znW]);rw[hfl] at J0;clear q hyf hys hys2 hsy hyl r5 hb4 hb5 hx4 hx5 HA hget s4 hfl hfll;clear hw5;go_wp2;rw[H5.out];clear hw4 H5 q1 q4
   go_loopw [27] (λs27 wr=>∃(k:Nat) (ac:List Fld) (A3:Option Addr) (c3:Nat),k<=y.kids.length/\ac.length<=k/\s27=↑k/\Hid (ac++(y.kids.drop k).map zmD=fl)/\Hid (VrIn wo wr w4.heap.size y.text ac A3 c3)) (λs27 _=>y.kids.length-(intOf s27).toNat)
   case atStart=>exact⟨0,[],none,0,zo,by simp,rfl,J0,I0⟩
   case round=>
    clear J0 I0;obtain⟨k,ac,A3,c3,hk,hac,rfl,JA,JB⟩:=hrel
    by_cases hlk:k<y.kids.length
    ·obtain⟨b2,off2,z,e,_,hget,A2,c2,z0,z1,z2,z3,z4,r6⟩:=zbC (HRy.out.belows JB.out.low) hlk;subst e;have q:=JA.out;rw[zal hget,List.map_cons] at q;have hkn:(k:Int)<y.kids.length:=zo
     obtain⟨w6,hw6,hb6,hx6⟩:=zaj wr #[↑z.kind,↑z.text,↑z.n,↑z.at',.slice A2 z.kids.length c2] 49;have t0:=hx6.cell 0;have t1:=hx6.cell 1;have t2:=hx6.cell 2;have t3:=hx6.cell 3;have t4:=hx6.cell 4;have J6:=zz (JB.out.below hb6);have hzm:=List.mem_of_getElem? hget;have hzs:=zaK hzm;have hzS:=HSy.out;have KY:=zz (zfG z (HBL.out y HYM.out z hzm) A2 c2 w6 (zaR HFy.out hzm) zo (r6.belows hb6));obtain⟨t,ht⟩:=zn (zfu z);rw[ht] at KY;have JQ:Hid ((ac++[(⟨⟨#[]⟩,t⟩:Fld)])++(y.kids.drop (k+1)).map zmD=fl):=zz (by rw[<-q,<-ht];simp[zmD]);clear q ht hzm hzs hzS r6 hb6 hx6 JA hget JB;go_wp2_with fail;refine zi KY ?_;rintro e w7 ⟨hb7,ok7,A7,c7,rfl,hr7⟩;have hs67:=hb7.size;have J7:=zz (J6.out.below hb7);have sl6:=J6.out.box.lt;have hob:Hid (∀g,(Value.slice A3 ac.length c3).ownBlock=some g->g<w6.heap.size):=zz (λg hg=>(J6.out.own.below_own g hg).2);have R7:=zz hr7;clear hb7 hr7 t0 t1 t2 t3 t4 z0 z1 z2 z3 z4 hw6 J6;have ba:=zag w7 (.cells #[↑t.kind,↑t.name,.slice A7 t.args.length c7] 70);have J8:=zz (J7.out.below ba);have y1:(w7.alloc (.cells #[↑t.kind,↑t.name,.slice A7 t.args.length c7] 70)).cell? ⟨w4.heap.size,1,none⟩=some (.slice A3 ac.length c3):=J8.out.box.cell 1;have bb:=zag (w7.alloc (.cells #[↑t.kind,↑t.name,.slice A7 t.args.length c7] 70)) (.cells #[↑zj.a,↑t.kind,↑t.name,.slice A7 t.args.length c7] 74);have J9:=zz (J8.out.below bb);have R9:=zz (zaF bb (zaF ba R7.out));have O9:=zz J9.out.own;have sl9:=J9.out.box.lt;clear ba bb J7 R7;go_wp2_with (at_builtin;refine zba rowF zsD Tryz.underlying64 rfl zo zo rfl _ _ rfl (w4.heap.size+1) sl9 (.slice A3 ac.length c3) ac rfl O9.out ⟨w7.heap.size+1,0,none⟩ 1 ⟨⟨#[]⟩,t⟩ (zko ⟨#[]⟩ t A7 c7) rfl rfl ?cx2 ?cx3 ?cx4 ?_)
     case cx2=>exact ziP _ zs _ _ _ _
     case cx3=>exact λj u hj=>zku (zrh R9.out zs zo (λg hg=>hob.out g hg)) j u hj
     case cx4=>omega
     intro v' w10 hO hg _;replace hO:zaz (w4.heap.size+1) 74 4 (ac++[(⟨⟨#[]⟩,t⟩:Fld)]).length (zan rowF (ac++[(⟨⟨#[]⟩,t⟩:Fld)])) w10 v':=by rw[List.length_append];exact hO
     obtain⟨L,hL⟩:∃L,ac++[(⟨⟨#[]⟩,t⟩:Fld)]=L:=⟨_,rfl⟩;rw[hL] at hO;have q:=JQ.out;rw[hL] at q;have JQ2:=zz q;have hL2:L.length<=ac.length+1:=by rw[<-hL];simp
     obtain⟨A8,c8,rfl,_⟩:=hO.rd.sl_inv;have hch:Chg (λk=>w4.heap.size+1<=k) _ w10:=Chg.of_grown hg (λk hk=>(J9.out.own.below_own k hk).1);have hbx:=J9.out.box.keep hch zo;have J10:=zz (J9.out.grown hO hg);have y8:=hbx.a 1 rfl;have z8:=hbx.fz;clear hO hg hch hbx hL q JQ J8 J9 R9 O9 y1;go_wp2;exact⟨⟨k+1,L,A8,c8,zo,zo,by go_num,JQ2,J10⟩,by simp[intOf];omega⟩
    ·have JQ:Hid (ac=fl):=zz (by
      have q:=JA.out;rw[List.drop_eq_nil_of_le zo] at q
      simpa using q)
     clear JA;have Z3:=zz (HB.out.below JB.out.low);have y0:=JB.out.box.a 0 rfl;have y1:=JB.out.box.a 1 rfl;have x2:=Z3.out.box.a 2 rfl;have ba:=zag wr (.cells #[↑y.text,.slice A3 ac.length c3] 66);have Z4:=zz (Z3.out.below ba);have R4:=zz (zaF ba JB.out.own.slG);have O4:=zz Z4.out.own;have sl4:=Z4.out.box.lt;have hob:Hid (∀g,(Value.slice A1 acc.length c1).ownBlock=some g->g<w4.heap.size+1):=zz (λg hg=>by have:=(HB.out.own.below_own g hg).2;have:=hs4.out;omega);have hs42:w.heap.size+3<=w4.heap.size+1:=by have:=HB.out.box.lt;have:=hs4.out;omega
     clear ba;go_wp2_with (at_builtin;refine zba zha zuw Tryz.underlying61 rfl zo zo rfl _ _ rfl (w.heap.size+3) sl4 (.slice A1 acc.length c1) acc rfl O4.out ⟨wr.heap.size,0,none⟩ 1 ⟨y.text,ac⟩ (zsO y.text ac.length A3 c3) rfl rfl ?dx2 ?dx3 ?dx4 ?_)
     case dx2=>exact zaI _ rfl _ _
     case dx3=>exact λj u hj=>zpi (zrh R4.out zs hs42 (λg hg=>hob.out g hg)) j u hj
     case dx4=>omega
     intro v' w10 hO hg _;replace hO:zaz (w.heap.size+3) 66 2 (acc++[(⟨y.text,ac⟩:Ctr)]).length (zan zha (acc++[(⟨y.text,ac⟩:Ctr)])) w10 v':=by rw[List.length_append];exact hO
     obtain⟨L,hL⟩:∃L,acc++[(⟨y.text,ac⟩:Ctr)]=L:=⟨_,rfl⟩;rw[hL] at hO;have q:=HQ.out;rw[<-JQ.out,hL] at q;have HQ2:=zz q;have hL2:L.length<=acc.length+1:=by rw[<-hL];simp
     obtain⟨A8,c8,rfl,_⟩:=hO.rd.sl_inv;have hch:Chg (λk=>w.heap.size+3<=k) _ w10:=Chg.of_grown hg (λk hk=>(Z4.out.own.below_own k hk).1);have hbx:=Z4.out.box.keep hch zo;have Z10:=zz (Z4.out.grown hO hg);have y8:=hbx.a 2 rfl;have z8:=hbx.fz;clear hO hg hch hbx hL q HQ JQ Z3 Z4 R4 O4 y0 y1 x2;go_wp2;exact⟨⟨i+1,L,A8,c8,zo,zo,by go_num,HQ2,Z10⟩,by simp[intOf];omega⟩
  ·have HQ:Hid (acc=r):=zz (by
    have q:=HA.out;rw[List.drop_eq_nil_of_le zo] at q
    simpa using q)
   clear HA;have y0:=HB.out.box.cell 0;have y1:=HB.out.box.cell 1;have y2:=HB.out.box.cell 2;have x0:=HB.out.res.cell 0;have x1:=HB.out.res.cell 1;have x2:=HB.out.res.cell 2;have xz:=HB.out.res.fz;go_wp2_with fail;refine bodyPost_ret (zdh zr _ _ (w.heap.size+1) _ _ (0,0) _ rfl (zdD _ _ _ HB.out.res) Tryz.underlying63 rfl ztD) rfl ⟨?_,A1,c1,by rw[<-HQ.out],?_⟩
   ·exact HB.out.low.trans ((zcE _ _ _ _ _).below HB.out.low.size (λq hq=>by omega))
   ·rw[<-HQ.out];have hc:=zcE wo (w.heap.size+1) ↑tx (.bool false) (.slice A1 acc.length c1);exact(hc.rd (λb hb=>⟨hb.2,by have:=hb.1;omega⟩) HB.out.own.slG).weaken (λq hq=>⟨by have:=hq.1;omega,Nat.lt_of_lt_of_le hq.2 hc.size⟩)
theorem ztp:(Tryz.prog.info? 186).map (·.size)=some 7:=by kernel_rfl
theorem zkR {w:World} {g:Nat} {e:TypeId} {cs:Array Value} (u0 u1 u2 u3 u4 u5 u6:Value) (h:zab w g cs e) (hs:cs.size=7) :
 zab (((((((w.setCell ⟨g,0,none⟩ u0).setCell ⟨g,1,none⟩ u1).setCell ⟨g,2,none⟩ u2).setCell ⟨g,3,none⟩ u3).setCell ⟨g,4,none⟩ u4).setCell ⟨g,5,none⟩ u5).setCell ⟨g,6,none⟩ u6) g #[u0,u1,u2,u3,u4,u5,u6] e:=by
 have:=((((((h.set 0 u0).set 1 u1).set 2 u2).set 3 u3).set 4 u4).set 5 u5).set 6 u6
 have e:(((((((cs.setIfInBounds 0 u0).setIfInBounds 1 u1).setIfInBounds 2 u2).setIfInBounds 3 u3).setIfInBounds 4 u4).setIfInBounds 5 u5).setIfInBounds 6 u6)=#[u0,u1,u2,u3,u4,u5,u6]:=by
  apply Array.ext
  ·simp[hs]
  ·intro i h1 h2;simp at h2;rcases (show i=0\/i=1\/i=2\/i=3\/i=4\/i=5\/i=6 by omega) with rfl|rfl|rfl|rfl|rfl|rfl|rfl<;>simp[hs]
 rw[e] at this;exact this
theorem zmy {W:World} {g g' j:Nat} {u0 u1 u2 u3 u4 u5 u6:Value} (h:¬g'=g):(((((((W.setCell ⟨g,0,none⟩ u0).setCell ⟨g,1,none⟩ u1).setCell ⟨g,2,none⟩ u2).setCell ⟨g,3,none⟩ u3).setCell ⟨g,4,none⟩ u4).setCell ⟨g,5,none⟩ u5).setCell ⟨g,6,none⟩ u6).cell? ⟨g',j,none⟩=W.cell? ⟨g',j,none⟩:=by
 have k:∀(X:World) (q:Nat) (u:Value),(X.setCell ⟨g,q,none⟩ u).cell? ⟨g',j,none⟩=X.cell? ⟨g',j,none⟩:=λX q u=>World.cell?_setCell_other X ⟨g,q,none⟩ ⟨g',j,none⟩ u (λe=>h (by injection e with e1;exact e1.symm));rw[k,k,k,k,k,k,k]
theorem zhA {w:World} {g:Nat} (u0 u1 u2 u3 u4 u5 u6:Value):Chg (λk=>k=g) w (((((((w.setCell ⟨g,0,none⟩ u0).setCell ⟨g,1,none⟩ u1).setCell ⟨g,2,none⟩ u2).setCell ⟨g,3,none⟩ u3).setCell ⟨g,4,none⟩ u4).setCell ⟨g,5,none⟩ u5).setCell ⟨g,6,none⟩ u6):=
 ((((((((Chg.refl (λk=>k=g) w).setCell (p:=⟨g,0,none⟩) (.inl rfl) u0).setCell (p:=⟨g,1,none⟩) (.inl rfl) u1).setCell (p:=⟨g,2,none⟩) (.inl rfl) u2).setCell (p:=⟨g,3,none⟩) (.inl rfl) u3).setCell (p:=⟨g,4,none⟩) (.inl rfl) u4).setCell (p:=⟨g,5,none⟩) (.inl rfl) u5).setCell (p:=⟨g,6,none⟩) (.inl rfl) u6)
def Lab (B b0:Nat) (lb:Nat->Nat) (i q:Nat):Prop:=B+2<=q/\q≠b0/\lb q=i
theorem zcK {W:World} {lo B b0 i:Nat} {lb:Nat->Nat} {d:D} {u v:Value} (R:Rd (Bt lo W.heap.size) W d u) (hlo:B+2<=lo) (hb0:b0<lo) (hl:∀q,lo<=q->lb q=i) (hown:∀g,v.ownBlock=some g->g<lo) :
 Rd (λb=>(Lab B b0 lb i b/\b<W.heap.size)/\some b≠v.ownBlock) W d u:=
 R.weaken (λq hq=>⟨⟨⟨by have:=hq.1;omega,by have:=hq.1;omega,hl q hq.1⟩,hq.2⟩,λe=>by have:=hown q e.symm;have:=hq.1;omega⟩)
theorem zaE {W W':World} (h:Below W.drew.heap.size W.drew W'):Below W.heap.size W W':=⟨h.os,h.tape,h.output,h.size,h.block⟩
def zuo (w:World) (d:Actr) (e:Ending) (w':World):Prop:=Below w.heap.size w w'/\∃Ap cp Av cv Ao co,e=.returned (.agg #[.string d.name,.slice Ap d.params.length cp,.int .i64 0,.slice Av d.vars.length cv,.slice Ao d.on.length co,.int .i64 d.policy,.int .i64 d.most])/\
 Rd (Bt w.heap.size w'.heap.size) w' (fls d.params) (.slice Ap d.params.length cp)/\Rd (Bt w.heap.size w'.heap.size) w' (slG 9 ziD d.vars) (.slice Av d.vars.length cv)/\Rd (Bt w.heap.size w'.heap.size) w' (slG 4 zix d.on) (.slice Ao d.on.length co)
structure AnSt (w W:World) (b0:Nat) (tx:ByteArray) (Ap:Option Addr) (cp:Nat):Prop where
 low:Below w.heap.size w W
 le:w.heap.size+2<=b0
 res:zab W (w.heap.size+1) #[.string ⟨#[]⟩,.slice none 0 0,.int .i64 0,.slice none 0 0,.slice none 0 0,.int .i64 0,.int .i64 0] 186
 box:zab W b0 #[.string tx,.slice Ap 0 cp,.int .i64 0,.slice none 0 0,.slice none 0 0,.int .i64 0,.int .i64 0] 186
 par:Rd (Bt (w.heap.size+2) W.heap.size) W (fls []) (.slice Ap 0 cp)
theorem zxi (kd:Int) (tx:ByteArray) (at':Int) (A:Option Addr) (c:Nat) (w:World) (h:Rd (Lt w.heap.size) w (ns []) (.slice A 0 c)) :
 Calls Tryz.prog 140 #[.agg #[↑kd,↑tx,↑(),↑at',.slice A 0 c]] w (zuo w (zkn (.mk kd tx 0 at' []))):=by
 obtain⟨w1,h1,b1,c1⟩:=zaj w #[↑kd,↑tx,↑(),↑at',.slice A 0 c] 49;have s1:w1.heap.size=w.heap.size+1:=by rw[<-h1];simp
 obtain⟨w2,h2,b2,c2⟩:=zaj w1 #[↑zj.a,.slice none 0 0,↑(),.slice none 0 0,.slice none 0 0,↑(),↑()] 186;have s2:w2.heap.size=w.heap.size+2:=by rw[<-h2];simp[s1]
 rw[s1] at c2;have cn:=zaa b2 c1;have hb:=zac b1 b2 b1.size;have HB:=zz hb;have CN:=zz cn;have CR:=zz c2;have x1:=cn.a 1 rfl;have x4:=cn.a 4 rfl;have HS1:=zz s1;have hgt:w.heap.size+2<=w2.heap.size:=zo
 have hr:=h.belows hb;have KP:Hid (∀W,Below w2.heap.size w2 W->Calls Tryz.prog 137 #[.slice A 0 c] W λe w'=>Below W.heap.size W w'/\∃A' c',e=.returned (.slice A' 0 c')/\Rd (Bt W.heap.size w'.heap.size) w' (fls []) (.slice A' 0 c')):=zz (λW k=>zdo [] A c W (λx hx=>by cases hx) (λf hf=>by cases hf) rfl zd (hr.belows k));clear b1 b2 c1 c2 cn hb h s1 s2 hr;go_in
 go_upto_region 1 with (fail)
 rw[HS1.out];clear h1 h2 HS1
 go_cut [3] (λs3 wx=>∃(b0:Nat) (Ap:Option Addr) (cp:Nat),s3=.pointer (some ⟨b0,0,none⟩)/\Hid (zab wx w.heap.size #[↑kd,↑tx,↑(),↑at',.slice A 0 c] 49)/\Hid (AnSt w wx b0 tx Ap cp))
 case first=>
  go_wp2;have KP1:=zz (KP.out w2.drew (zae (Below.refl _ _) 1));obtain⟨w3,h3,b3,c3⟩:=zaj w2 #[↑zj.a,.slice none 0 0,↑(),.slice none 0 0,.slice none 0 0,↑(),↑()] 186;have s3:w3.heap.size=w2.heap.size+1:=by rw[<-h3];simp
  have KP2:=zz (KP.out w3.drew (zae b3 1));have B3:=zz b3;have C3:=zz c3;have S3:=zz s3;have u1:w3.drew.cell? ⟨w.heap.size,1,none⟩=some ↑tx:=(zaa b3 CN.out).cell 1;have u4:w3.drew.cell? ⟨w.heap.size,4,none⟩=some (.slice A 0 c):=(zaa b3 CN.out).cell 4;clear b3 c3 s3
  go_region_held3 (λw'=>w'.cell? ⟨w.heap.size,1,none⟩=some ↑tx/\w'.cell? ⟨w.heap.size,4,none⟩=some (.slice A 0 c)) (first|go_keep|(refine⟨?_,?_⟩<;>(rw[zmy zo];assumption))) (first
   |(go_at_call 137;go_loud (refine zi KP1 ?_;rintro e w4 ⟨hb4,A4,c4,rfl,hr4⟩;have B4:=zz (zaE hb4);have R4:=zz (show Rd (Bt w2.heap.size w4.heap.size) w4 (fls []) (.slice A4 0 c4) from hr4);have CN4:=zz (zaa B4.out CN.out);clear hb4 hr4;clear x1 x4;have x1:=CN4.out.a 1 rfl;have x4:=CN4.out.a 4 rfl))
   |(go_at_call 137;go_loud (refine zi KP2 ?_;rintro e w4 ⟨hb4,A4,c4,rfl,hr4⟩;have B4:=zz (zac B3.out (zaE hb4) B3.out.size);have C4:=zz (zaa (zaE hb4) C3.out);have R4:=zz (show Rd (Bt w3.heap.size w4.heap.size) w4 (fls []) (.slice A4 0 c4) from hr4);have CN4:=zz (zaa B4.out CN.out);clear hb4 hr4;clear x1 x4;have x1:=CN4.out.a 1 rfl;have x4:=CN4.out.a 4 rfl;have y0:=C4.out.a 0 rfl;have y1:=C4.out.a 1 rfl;have y2:=C4.out.a 2 rfl;have y3:=C4.out.a 3 rfl;have y4:=C4.out.a 4 rfl;have y5:=C4.out.a 5 rfl;have y6:=C4.out.a 6 rfl;have yz:=C4.out.fz)))
  ·go_wp2
   go_meet
   have ba:=zag w4 (.cells #[↑tx,.slice A4 0 c4,↑(),.slice none 0 0,.slice none 0 0,↑(),↑()] 186);have hbl:=zac HB.out B4.out HB.out.size;exact⟨w4.heap.size,A4,c4,rfl,zz (zaa ba CN4.out),zz ⟨zac hbl ba hbl.size,by have:=B4.out.size;omega,zaa ba (zaa B4.out CR.out),zab.new w4 _ _,(R4.out.keep (λq o hq=>ba.cell (p:=⟨q,o,none⟩) hq.2)).weaken (λq hq=>⟨by have:=hq.1;omega,Nat.lt_of_lt_of_le hq.2 ba.size⟩)⟩⟩
  ·go_wp2
   go_meet
   have hs3:=S3.out;have hc:=zhA (w:=w4) (g:=w2.heap.size) ↑tx (.slice A4 0 c4) ↑() (.slice none 0 0) (.slice none 0 0) ↑() ↑();have hbl:=zac HB.out B4.out HB.out.size;exact⟨w2.heap.size,A4,c4,rfl,zz (CN4.out.keep hc zo),zz ⟨hbl.trans (hc.below hbl.size (λq hq=>by omega)),hgt,(zaa B4.out CR.out).keep hc zo,zkR _ _ _ _ _ _ _ C4.out rfl,(hc.rd (λb hb=>⟨hb.2,by have:=hb.1;omega⟩) R4.out).weaken (λq hq=>⟨by have:=hq.1;omega,Nat.lt_of_lt_of_le hq.2 hc.size⟩)⟩⟩
 case rest=>
  clear KP x1 x4 CN HB CR hgt;obtain⟨b0,Ap,cp,rfl,CN,ST⟩:=hcut;rename World=>w5;have x2:=CN.out.cell 2;have x4:=CN.out.cell 4;have hble:=ST.out.le;clear CN;go_wp2
  go_loopw [29] (λs29 wr=>s29=↑()/\wr=w5) (λ_ _=>0)
  case atStart=>exact⟨rfl,rfl⟩
  case round=>
   obtain⟨rfl,rfl⟩:=hrel;clear x2 x4;obtain⟨y0,y1,y2,y3,y4,y5,y6⟩:_/\_/\_/\_/\_/\_/\_:=⟨ST.out.box.cell 0,ST.out.box.cell 1,ST.out.box.cell 2,ST.out.box.cell 3,ST.out.box.cell 4,ST.out.box.cell 5,ST.out.box.cell 6⟩;obtain⟨x0,x1,x2,x3,x4,x5,x6⟩:_/\_/\_/\_/\_/\_/\_:=⟨ST.out.res.cell 0,ST.out.res.cell 1,ST.out.res.cell 2,ST.out.res.cell 3,ST.out.res.cell 4,ST.out.res.cell 5,ST.out.res.cell 6⟩;have xz:=ST.out.res.fz;go_wp2;have hc:=zhA (w:=wr) (g:=w.heap.size+1) ↑tx (.slice Ap 0 cp) ↑() (.slice none 0 0) (.slice none 0 0) ↑() ↑();refine bodyPost_ret (zdh zr _ _ (w.heap.size+1) _ _ (0,0) _ rfl (zkR _ _ _ _ _ _ _ ST.out.res rfl) Tryz.underlying186 rfl ztp) rfl ⟨?_,Ap,cp,none,0,none,0,rfl,?_,Rd.sl_nil,Rd.sl_nil⟩
   ·exact ST.out.low.trans (hc.below ST.out.low.size (λq hq=>by omega))
   ·exact(hc.rd (λb hb=>⟨hb.2,by have:=hb.1;omega⟩) ST.out.par).weaken (λq hq=>⟨by have:=hq.1;omega,Nat.lt_of_lt_of_le hq.2 hc.size⟩)
end Go.Proofs.YtcebmphappfjjaaGreatDoor
