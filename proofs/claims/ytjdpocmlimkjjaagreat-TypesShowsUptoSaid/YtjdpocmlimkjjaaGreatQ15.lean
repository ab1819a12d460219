/- Conditions: those in each statement. -/
import Derived.Test.YtjdpocmlimkjjaaGreatQ14
set_option maxHeartbeats 32000000
set_option maxRecDepth 100000
namespace Go.Proofs.YtjdpocmlimkjjaaGreat
open Go.RowKit
theorem zqD:(Tryz.prog.info? 66).map (λi=>(i.zero,i.size,i.bytes))=some (some (.agg #[.string ⟨#[]⟩,.int .i64 0,.string ⟨#[]⟩,.slice none 0 0]),4,64):=by kernel_rfl
abbrev zli (s:ByteArray) (x:Ty) (A:Option Addr) (c:Nat):List Value:=[.string s,.int .i64 x.kind,.string x.name,.slice A x.args.length c]
theorem zla {ok:Nat→Prop} {w:World} {s:ByteArray} {x:Ty} {A:Option Addr} {c:Nat} (h:Rd ok w (ys x.args) (.slice A x.args.length c)):∀j u,(zli s x A c)[j]?=some u→Rd ok w (rowF ⟨s,x⟩ j) u:=by
 intro j u hj
 match j with
 |0=>simp at hj;exact hj.symm
 |1=>simp at hj;exact hj.symm
 |2=>simp at hj;exact hj.symm
 |3=>simp at hj;rw[←hj];exact h
 |j+4=>simp at hj
theorem zjt {x:Nat} (W:World) (hx:W.heap.size=x) (s:ByteArray) (y:Ty) (A:Option Addr) (c:Nat):∀(j:Nat) (u:Value),(zli s y A c)[j]?=some u→(W.alloc (.cells #[.string s,.int .i64 y.kind,.string y.name,.slice A y.args.length c] 66)).cell? ((⟨x,0,none⟩:Addr).add j)=some u:=λj u hj=>by
 subst hx;have:=zbQ W (zli s y A c).toArray 66 j;rw[List.getElem?_toArray,hj] at this;rw[Addr.add_lit,Nat.zero_add];exact this
theorem zpf {W:World} {lo B N:Nat} {d:D} {u v:Value} (R:Rd (Bt lo N) W d u) (hN:N≤W.heap.size) (hB:B≤lo) (HOB:∀g,v.ownBlock=some g→g<lo):Rd (λb=>Bt B W.heap.size b∧some b≠v.ownBlock) W d u:=
 R.weaken (λq hq=>⟨⟨Nat.le_trans hB hq.1,Nat.lt_of_lt_of_le hq.2 hN⟩,λe=>by have:=HOB q e.symm;have:=hq.1;omega⟩)
structure PmSt (w W:World) (acc:List Fld) (A:Option Addr) (c:Nat):Prop where
 low:Below w.heap.size w W
 own:zaK w.heap.size 66 4 acc.length (zap rowF acc) W (.slice A acc.length c)
section
variable {w W W':World} {acc:List Fld} {A:Option Addr} {c:Nat}
theorem PmSt.below (h:PmSt w W acc A c) (k:Below W.heap.size W W'):PmSt w W' acc A c:=⟨zab h.low k h.low.size,h.own.below k⟩
end
theorem zdR (l:List Nd) (A:Option Addr) (c:Nat) (w:World) (hk:zhV (zaL l)) (hf:fitL l=true) (hs:zaq l≤2097152) (h:Rd (Lt w.heap.size) w (ns l) (.slice A l.length c)) :
 Calls Tryz.prog 65 #[.slice A l.length c] w (zpe w (fls (zbk l)) (zbk l).length):=by
 have KL:=zz (zcC l A c w h);have hfl:fitL (zaL l)=true:=zpR hf;have hsl:zaq (zaL l)≤2097152:=Nat.le_trans (zow l) hs;have HRl:=zz (zij h);have hl:=zaD h;have hc1:=hl.2.1;have hc2:=hl.2.2;have hle:=zhj l;obtain⟨m,hm⟩:∃m,zaL l=m:=⟨_,rfl⟩;obtain⟨r,hr⟩:∃r,zbk l=r:=⟨_,rfl⟩;rw[hr];unfold zbk at hr;rw[hm] at hfl hsl hk hr hle;simp only[hm] at KL HRl;have HF:=zz hfl;have HK:=zz hk;have hn:m.length≤2097152:=Nat.le_trans (zaB m) hsl;have HA0:Hid ([]++((m.drop 0).map (λf=>(⟨f.text,zcs (kid0 f)⟩:Fld)))=r):=zz hr;clear h hl hm hr hk hf hs hfl;go_enter Tryz.func65,Tryz.ntmps65;go_wp2_with fail;(with_reducible refine KL.out.mono ?_);rintro e w1 ⟨rfl,hb1⟩;have HB0:Hid (PmSt w w1 [] none 0):=zz ⟨hb1,zaK.nil _ _ _ _ _⟩;clear hb1;go_wp2_with fail
 go_loopw [11,3] (λs11 s3 wr=>∃(i:Nat) (acc:List Fld) (A':Option Addr) (c':Nat),i≤m.length∧acc.length≤i∧s11=.int .i64 i∧s3=.slice A' acc.length c'∧Hid (acc++((m.drop i).map (λf=>(⟨f.text,zcs (kid0 f)⟩:Fld)))=r)∧Hid (PmSt w wr acc A' c')) (λs11 _ _=>m.length-(intOf s11).toNat)
 case atStart=>exact⟨0,[],none,0,by omega,by simp,rfl,rfl,HA0,HB0⟩
 case round=>
  clear HA0 HB0;obtain⟨i,acc,A1,c1,hi,hal,rfl,rfl,HA,HB⟩:=hrel
  by_cases hlt:i<m.length
  ·obtain⟨b,off,y,e,_,hget,A',c',p0,p1,p2,p3,p4,r5⟩:=zbN (HRl.out.belows HB.out.low) hlt;subst e;have hyk:=HK.out y (List.mem_of_getElem? hget);obtain⟨b2,off2,z,e2,_,hget2,A2,c2,z0,z1,z2,z3,z4,r6⟩:=zbN r5 hyk;have hyl:=zaD r5;have hy1:=hyl.2.1;have hy2:=hyl.2.2;subst e2;have q:=HA.out;rw[zak hget,List.map_cons,zhT hget2] at q;have hin:(i:Int)<m.length:=by omega
   obtain⟨w3,hw3,hb3,hx3⟩:=zai wr #[.int .i64 y.kind,.string y.text,.int .i64 y.n,.int .i64 y.at',.slice (some ⟨b2,off2,none⟩) y.kids.length c'] 25;have q1:w3.cell? ⟨wr.heap.size,1,none⟩=some (.string y.text):=hx3.cell 1;have q4:w3.cell? ⟨wr.heap.size,4,none⟩=some (.slice (some ⟨b2,off2,none⟩) y.kids.length c'):=hx3.cell 4;have hzl:b2<wr.heap.size:=World.block_lt_of_cell? wr _ z0;have t0:w3.cell? ⟨b2,off2,none⟩=some (.int .i64 z.kind):=by rw[hb3.cell (p:=⟨b2,off2,none⟩) hzl];simpa using z0
   have t1:w3.cell? ⟨b2,off2+1,none⟩=some (.string z.text):=by rw[hb3.cell (p:=⟨b2,off2+1,none⟩) hzl];simpa using z1
   have t2:w3.cell? ⟨b2,off2+2,none⟩=some (.int .i64 z.n):=by rw[hb3.cell (p:=⟨b2,off2+2,none⟩) hzl];simpa using z2
   have t3:w3.cell? ⟨b2,off2+3,none⟩=some (.int .i64 z.at'):=by rw[hb3.cell (p:=⟨b2,off2+3,none⟩) hzl];simpa using z3
   have t4:w3.cell? ⟨b2,off2+4,none⟩=some (.slice A2 z.kids.length c2):=by rw[hb3.cell (p:=⟨b2,off2+4,none⟩) hzl];simpa using z4
   have Z3:=zz (HB.out.below hb3);have hyf:=zaM HF.out (List.mem_of_getElem? hget);have hys:=zaY (List.mem_of_getElem? hget);have hzm:=List.mem_of_getElem? hget2;have hzs:=zaY hzm;have hys2:zaq y.kids≤y.size:=by cases y;rw[zaE];show zaq _≤_;exact Nat.le_add_left _ _
   have KY:=zz (zgO z A2 c2 w3 (zaM (zay hyf) hzm) (by omega) (r6.belows hb3));have HX3:=zz hx3;obtain⟨t,ht⟩:∃t,zcs z=t:=⟨_,rfl⟩;rw[ht] at KY q;have HQ:Hid ((acc++[⟨y.text,t⟩])++((m.drop (i+1)).map (λf=>(⟨f.text,zcs (kid0 f)⟩:Fld)))=r):=zz (by rw[←q];simp);clear q ht hyf hys hzm hzs hys2 r5 r6 z0 z1 z2 z3 z4 hb3 hx3 HA hget hget2 hyl hzl HB;go_wp2_with fail;(with_reducible refine KY.out.mono ?_);rintro e w4 ⟨hb4,ok4,A4,c4,rfl,hr4⟩;have hs34:=hb4.size;have sl3:=Z3.out.low.size;have Z4:=zz (Z3.out.below hb4);have hob:Hid (∀g,(Value.slice A1 acc.length c1).ownBlock=some g→g<w3.heap.size):=zz (λg hg=>(Z3.out.own.below_own g hg).2);have X4:=zz (zaa hb4 HX3.out);have R4:=zz hr4;clear hb4 hr4 q1 q4 t0 t1 t2 t3 t4 hw3 Z3 HX3;have ba:=zag w4 (.cells #[.int .i64 t.kind,.string t.name,.slice A4 t.args.length c4] 55);have Z5:=zz (Z4.out.below ba);have q1:(w4.alloc (.cells #[.int .i64 t.kind,.string t.name,.slice A4 t.args.length c4] 55)).cell? ⟨wr.heap.size,1,none⟩=some (.string y.text):=(zaa ba X4.out).cell 1;have bb:=zag (w4.alloc (.cells #[.int .i64 t.kind,.string t.name,.slice A4 t.args.length c4] 55)) (.cells #[.string y.text,.int .i64 t.kind,.string t.name,.slice A4 t.args.length c4] 66);have Z6:=zz (Z5.out.below bb);have R6:=zz (zaQ bb (zaQ ba R4.out));have O6:=zz Z6.out.own;have sl6:=Z6.out.low.size;clear ba bb Z4 R4 X4;go_wp2_with (at_builtin;refine zbp rowF zqD Tryz.underlying44 rfl (by omega) (by omega) rfl _ _ rfl w.heap.size sl6 (.slice A1 acc.length c1) acc rfl O6.out ⟨w4.heap.size+1,0,none⟩ 1 ⟨y.text,t⟩ (zli y.text t A4 c4) rfl rfl ?cx2 ?cx3 ?cx4 ?_)
   case cx2=>exact zjt _ (by simp) _ _ _ _
   case cx3=>exact λj u hj=>zla (zpf R6.out (by simp) sl3 (λg hg=>hob.out g hg)) j u hj
   case cx4=>omega
   intro v' w8 hO hg _;replace hO:zaK w.heap.size 66 4 (acc++[(⟨y.text,t⟩:Fld)]).length (zap rowF (acc++[(⟨y.text,t⟩:Fld)])) w8 v':=by rw[List.length_append];exact hO
   obtain⟨L,hL⟩:∃L,acc++[(⟨y.text,t⟩:Fld)]=L:=⟨_,rfl⟩;rw[hL] at hO;have q:=HQ.out;rw[hL] at q;have HQ2:=zz q;have hL2:L.length≤acc.length+1:=by rw[←hL];simp
   obtain⟨A8,c8,rfl,_⟩:=hO.rd.sl_inv;have Z8:Hid (PmSt w w8 L A8 c8):=zz ⟨Z6.out.low.trans ((Chg.of_grown (M:=λk=>w.heap.size≤k) hg (λk hk=>(Z6.out.own.below_own k hk).1)).below sl6 (λq hq=>hq)),hO⟩;clear hO hg hL q HQ Z5 Z6 R6 O6 q1;go_wp2_with fail;exact⟨⟨i+1,L,A8,c8,by omega,by omega,by go_num,rfl,HQ2,Z8⟩,by simp[intOf];omega⟩
  ·have HQ:Hid (acc=r):=zz (by
    have q:=HA.out;rw[List.drop_eq_nil_of_le (by omega)] at q
    simpa using q)
   clear HA;go_wp2_with fail;go_ret;rw[←HQ.out];exact⟨HB.out.low,A1,c1,rfl,HB.out.own.slG⟩
def zqX (w:World) (t:Ty) (e:Ending) (w':World):Prop:=Below w.heap.size w w'∧∃A c,e=.returned (.agg #[.int .i64 t.kind,.string t.name,.slice A t.args.length c])∧Rd (Bt w.heap.size w'.heap.size) w' (ys t.args) (.slice A t.args.length c)
theorem zgX (l:List Nd) (A:Option Addr) (c:Nat) (w:World) (hk:(zaL l).length<l.length) (hf:fitL l=true) (hs:zaq l≤2097152) (h:Rd (Lt w.heap.size) w (ns l) (.slice A l.length c)) :
 Calls Tryz.prog 67 #[.slice A l.length c] w (zqX w (zby l)):=by
 have hl:=zaD h;have hc1:=hl.2.1;have hc2:=hl.2.2;obtain⟨b,off,z,e,_,hget,A2,c2,z0,z1,z2,z3,z4,r6⟩:=zbN h hk;subst e;have hx1:=zac.new w #[.int .i64 0,.string ⟨#[]⟩,.slice none 0 0] 55;have hb1:=zag w (.cells #[.int .i64 0,.string ⟨#[]⟩,.slice none 0 0] 55);obtain⟨w1,hw1⟩:∃W,w.alloc (.cells #[.int .i64 0,.string ⟨#[]⟩,.slice none 0 0] 55)=W:=⟨_,rfl⟩;have s1:w1.heap.size=w.heap.size+1:=by rw[←hw1];simp
 rw[hw1] at hx1 hb1;have KL:=zz (zcC l (some ⟨b,off,none⟩) c w1 (h.belows hb1));obtain⟨m,hm⟩:∃m,(zaL l).length=m:=⟨_,rfl⟩;have hz:zcs z=zby l:=by unfold zby;rw[List.getD_eq_getElem?_getD,hget];rfl
 have hzm:=List.mem_of_getElem? hget;have hzs:=zaY hzm;have hzf:=zaM hf hzm;obtain⟨t,ht⟩:∃t,zby l=t:=⟨_,rfl⟩;rw[ht] at hz ⊢;simp only[hm] at KL;rw[hm] at hk z0 z1 z2 z3 z4;have KY:=zz (λ(W:World) (hb:Below w1.heap.size w1 W)=>zgO z A2 c2 W hzf (by omega) ((r6.belows hb1).belows hb));rw[hz] at KY;have HX1:=zz hx1;have HB1:=zz hb1;have hzl:b<w.heap.size:=World.block_lt_of_cell? w _ z0
 have HT:Hid (∀W,Below w1.heap.size w1 W→W.cell? ⟨b,off+m*5,none⟩=some (.int .i64 z.kind)∧W.cell? ⟨b,off+m*5+1,none⟩=some (.string z.text)∧W.cell? ⟨b,off+m*5+2,none⟩=some (.int .i64 z.n)∧W.cell? ⟨b,off+m*5+3,none⟩=some (.int .i64 z.at')∧W.cell? ⟨b,off+m*5+4,none⟩=some (.slice A2 z.kids.length c2)):=zz (λW hb=>by
  have k:∀o,W.cell? ⟨b,o,none⟩=w.cell? ⟨b,o,none⟩:=λo=>(hb.cell (p:=⟨b,o,none⟩) (Nat.lt_of_lt_of_le hzl hb1.size)).trans (hb1.cell (p:=⟨b,o,none⟩) hzl);exact⟨(k _).trans z0,(k _).trans z1,(k _).trans z2,(k _).trans z3,(k _).trans z4⟩)
 have HS1:=zz s1;clear h hl hf hs hget r6 hx1 hb1 hm hz hzm hzs hzf ht z0 z1 z2 z3 z4 s1;go_enter Tryz.func67,Tryz.ntmps67;go_wp2_with fail;(with_reducible refine KL.out.mono ?_);rintro e w2 ⟨rfl,hb2⟩;obtain⟨t0,t1,t2,t3,t4⟩:=HT.out w2 hb2;have HB2:=zz (zab HB1.out hb2 HB1.out.size);have X2:=zz (zaa hb2 HX1.out);have KY2:=zz (KY.out w2 hb2);have hs12:=hb2.size;have hs1:w.heap.size<w1.heap.size:=by have:=HS1.out;omega
 clear hb2 hw1 HB1 HX1 KL KY HT;go_wp2_with fail;(with_reducible refine KY2.out.mono ?_);rintro e w3 ⟨hb3,ok3,A3,c3,rfl,hr3⟩;have hs23:=hb3.size;have ba:=zag w3 (.cells #[.int .i64 t.kind,.string t.name,.slice A3 t.args.length c3] 55);have X4:=zaa ba (zaa hb3 X2.out);have R4:=zz (zaQ ba hr3);have HB4:=zz (zab (zab HB2.out hb3 HB2.out.size) ba (Nat.le_trans HB2.out.size hb3.size));have y0:=X4.cell 0;have y1:=X4.cell 1;have y2:=X4.cell 2;have yz:=X4.fz;have HX4:=zz X4;clear hb3 hr3 ba X2 HB2 t0 t1 t2 t3 t4 X4 KY2;go_wp2_with fail;have hc:=zcQ (w3.alloc (.cells #[.int .i64 t.kind,.string t.name,.slice A3 t.args.length c3] 55)) w.heap.size (.int .i64 t.kind) (.string t.name) (.slice A3 t.args.length c3);refine bodyPost_ret (zdJ (by rfl) _ _ w.heap.size _ _ (0,0) _ rfl (zdY _ _ _ HX4.out) Tryz.underlying55 rfl ziB) rfl ⟨?_,A3,c3,rfl,?_⟩
 ·exact HB4.out.trans (hc.below HB4.out.size (λq hq=>by omega))
 ·exact(hc.rd (λb hb=>⟨hb.2,by have:=hb.1;omega⟩) R4.out).weaken (λq hq=>⟨by have:=hq.1;omega,Nat.lt_of_lt_of_le hq.2 hc.size⟩)
theorem zrQ:(Tryz.prog.info? 46).map (λi=>(i.zero,i.size,i.bytes))=some (some (.agg #[.string ⟨#[]⟩,.slice none 0 0]),2,40):=by kernel_rfl
theorem zrw:(Tryz.prog.info? 41).map (·.size)=some 3:=by kernel_rfl
abbrev zqJ (s:ByteArray) (n:Nat) (A:Option Addr) (c:Nat):List Value:=[.string s,.slice A n c]
theorem zob {ok:Nat→Prop} {w:World} {s:ByteArray} {l:List Fld} {A:Option Addr} {c:Nat} (h:Rd ok w (fls l) (.slice A l.length c)):∀j u,(zqJ s l.length A c)[j]?=some u→Rd ok w (zfx ⟨s,l⟩ j) u:=by
 intro j u hj
 match j with
 |0=>simp at hj;exact hj.symm
 |1=>simp at hj;rw[←hj];exact h
 |j+2=>simp at hj
theorem zaU {x:Nat} (W:World) (hx:W.heap.size=x) (cs:List Value) (e:TypeId):∀(j:Nat) (u:Value),cs[j]?=some u→(W.alloc (.cells cs.toArray e)).cell? ((⟨x,0,none⟩:Addr).add j)=some u:=λj u hj=>by
 subst hx;have:=zbQ W cs.toArray e j;rw[List.getElem?_toArray,hj] at this;rw[Addr.add_lit,Nat.zero_add];exact this
structure VrSt (w W:World) (nm:ByteArray) (acc:List Ctr) (A:Option Addr) (c:Nat):Prop where
 low:Below w.heap.size w W
 res:zac W (w.heap.size+1) #[.string ⟨#[]⟩,.bool false,.slice none 0 0] 41
 box:zac W (w.heap.size+2) #[.string nm,.bool false,.slice A acc.length c] 41
 own:zaK (w.heap.size+3) 46 2 acc.length (zap zfx acc) W (.slice A acc.length c)
structure VrIn (w W:World) (b:Nat) (nm:ByteArray) (acc:List Fld) (A:Option Addr) (c:Nat):Prop where
 low:Below w.heap.size w W
 box:zac W b #[.string nm,.slice A acc.length c] 46
 le:w.heap.size≤b
 own:zaK (b+1) 66 4 acc.length (zap rowF acc) W (.slice A acc.length c)
section
variable {w W W':World} {b:Nat} {nm:ByteArray} {acc:List Ctr} {fl:List Fld} {A:Option Addr} {c:Nat}
theorem VrSt.below (h:VrSt w W nm acc A c) (k:Below W.heap.size W W'):VrSt w W' nm acc A c:=⟨zab h.low k h.low.size,zaa k h.res,zaa k h.box,h.own.below k⟩
theorem VrIn.below (h:VrIn w W b nm fl A c) (k:Below W.heap.size W W'):VrIn w W' b nm fl A c:=⟨zab h.low k h.low.size,zaa k h.box,h.le,h.own.below k⟩
theorem VrIn.grown {L:List Fld} {A':Option Addr} {c':Nat} (h:VrIn w W b nm fl A c) (hO:zaK (b+1) 66 4 L.length (zap rowF L) W' (.slice A' L.length c')) (hg:W.grownBy W' (Value.slice A fl.length c).ownBlock) :
 VrIn w (W'.setCell ⟨b,1,none⟩ (.slice A' L.length c')) b nm L A' c':=by
 have hch:Chg (λk=>b+1≤k) W W':=Chg.of_grown hg (λk hk=>(h.own.below_own k hk).1);have hc2:Chg (λq=>q=b) W' (W'.setCell ⟨b,1,none⟩ (.slice A' L.length c')):=(Chg.refl (λq=>q=b) W').setCell (p:=⟨b,1,none⟩) (.inl rfl) _;have hl:=h.low.trans (hch.below h.low.size (λq hq=>by have:=h.le;omega));refine⟨hl.setCell (p:=⟨b,1,none⟩) h.le _,?_,h.le,hO.chg hc2 (λj hj=>by omega)⟩;have:=(h.box.keep hch (by omega)).set 1 (.slice A' L.length c')
 simpa using this
theorem VrSt.grown {L:List Ctr} {A':Option Addr} {c':Nat} (h:VrSt w W nm acc A c) (hO:zaK (w.heap.size+3) 46 2 L.length (zap zfx L) W' (.slice A' L.length c')) (hg:W.grownBy W' (Value.slice A acc.length c).ownBlock) :
 VrSt w (W'.setCell ⟨w.heap.size+2,2,none⟩ (.slice A' L.length c')) nm L A' c':=by
 have hch:Chg (λk=>w.heap.size+3≤k) W W':=Chg.of_grown hg (λk hk=>(h.own.below_own k hk).1);have hc2:Chg (λq=>q=w.heap.size+2) W' (W'.setCell ⟨w.heap.size+2,2,none⟩ (.slice A' L.length c')):=(Chg.refl (λq=>q=w.heap.size+2) W').setCell (p:=⟨w.heap.size+2,2,none⟩) (.inl rfl) _;have hl:=h.low.trans (hch.below h.low.size (λq hq=>by omega));refine⟨hl.setCell (p:=⟨w.heap.size+2,2,none⟩) (by show w.heap.size≤w.heap.size+2;omega) _,(h.res.keep hch (by omega)).keep hc2 (by omega),?_,hO.chg hc2 (λj hj=>by omega)⟩;have:=(h.box.keep hch (by omega)).set 2 (.slice A' L.length c')
 simpa using this
end
def zsg (w:World) (d:Dcl) (e:Ending) (w':World):Prop:=Below w.heap.size w w'∧∃A c,e=.returned (.agg #[.string d.name,.bool d.record,.slice A d.ctors.length c])∧Rd (Bt w.heap.size w'.heap.size) w' (slG 2 zfx d.ctors) (.slice A d.ctors.length c)
def zls (t:Nd):Fld:=⟨⟨#[]⟩,zcs t⟩
def znb (k:Nd):Ctr:=⟨k.text,k.kids.map zls⟩
theorem zlK (n:Nd):zdH n=⟨n.text,false,n.kids.map znb⟩:=rfl
theorem zmh (n:Nd) (A:Option Addr) (c:Nat) (w:World) (hf:n.fit=true) (hs:n.size≤2097152) (h:Rd (Lt w.heap.size) w (ns n.kids) (.slice A n.kids.length c)) :
 Calls Tryz.prog 66 #[.agg #[.int .i64 n.kind,.string n.text,.int .i64 n.n,.int .i64 n.at',.slice A n.kids.length c]] w (zsg w (zdH n)):=by
 have hfk:=zay hf;have hsk:zaq n.kids≤2097152:=by cases n;rw[zaE] at hs;show zaq _≤_;simp only[Nd.kids];omega
 rw[zlK];generalize n.kind=kd,n.text=tx,n.n=nn,n.at'=at' at *
 obtain⟨l,hl0⟩:∃l,n.kids=l:=⟨_,rfl⟩;rw[hl0] at h hfk hsk ⊢;have hl:=zaD h;have hc1:=hl.2.1;have hc2:=hl.2.2;have hn:l.length≤2097152:=Nat.le_trans (zaB l) hsk;clear hl0 hf hs;obtain⟨w1,h1,b1,c1⟩:=zai w #[.int .i64 kd,.string tx,.int .i64 nn,.int .i64 at',.slice A l.length c] 25;have s1:w1.heap.size=w.heap.size+1:=by rw[←h1];simp
 obtain⟨w2,h2,b2,c2⟩:=zai w1 #[.string ⟨#[]⟩,.bool false,.slice none 0 0] 41;have s2:w2.heap.size=w.heap.size+2:=by rw[←h2];simp[s1]
 obtain⟨w3,h3,b3,c3⟩:=zai w2 #[.string tx,.bool false,.slice none 0 0] 41;rw[s1] at c2;rw[s2] at c3;have Z0:Hid (VrSt w w3 tx [] none 0):=zz ⟨zab (zab b1 b2 b1.size) b3 (by omega),zaa b3 c2,c3,zaK.nil _ _ _ _ _⟩;have cn:zac w3 w.heap.size #[.int .i64 kd,.string tx,.int .i64 nn,.int .i64 at',.slice A l.length c] 25:=zaa b3 (zaa b2 c1);have x1:w2.cell? ⟨w.heap.size,1,none⟩=some (.string tx):=(zaa b2 c1).cell 1;have x4:(w2.alloc (.cells #[.string tx,.bool false,.slice none 0 0] 41)).cell? ⟨w.heap.size,4,none⟩=some (.slice A l.length c):=by rw[h3];exact cn.cell 4
 have H3:=zz h3;have HS1:=zz s1;have HS2:=zz s2;obtain⟨r,hr⟩:∃r,l.map znb=r:=⟨_,rfl⟩;rw[hr];have HA0:Hid ([]++(l.drop 0).map znb=r):=zz hr;have HR:=zz h;have HF:=zz hfk;clear b1 b2 b3 c1 c2 c3 s1 s2 cn hr h hfk hl h3;go_enter Tryz.func66,Tryz.ntmps66;go_wp2_with fail;rw[H3.out,HS1.out,HS2.out];clear h1 h2 H3 x1 x4 HS1 HS2
 go_loopw [17] (λs17 wr=>∃(i:Nat) (acc:List Ctr) (A':Option Addr) (c':Nat),i≤l.length∧acc.length≤i∧s17=.int .i64 i∧Hid (acc++(l.drop i).map znb=r)∧Hid (VrSt w wr tx acc A' c')) (λs17 _=>l.length-(intOf s17).toNat)
 case atStart=>exact⟨0,[],none,0,by omega,by simp,rfl,HA0,Z0⟩
 case round=>
  clear HA0 Z0;obtain⟨i,acc,A1,c1,hi,hal,rfl,HA,HB⟩:=hrel;rename World=>wo
  by_cases hlt:i<l.length
  ·obtain⟨b,off,y,e,_,hget,A',c',p0,p1,p2,p3,p4,r5⟩:=zbN (HR.out.belows HB.out.low) hlt;subst e;have q:=HA.out;rw[zak hget,List.map_cons] at q;have hin:(i:Int)<l.length:=by omega
   obtain⟨w4,hw4,hb4,hx4⟩:=zai wo #[.int .i64 y.kind,.string y.text,.int .i64 y.n,.int .i64 y.at',.slice A' y.kids.length c'] 25;have s4:w4.heap.size=wo.heap.size+1:=by rw[←hw4];simp
   have q1:w4.cell? ⟨wo.heap.size,1,none⟩=some (.string y.text):=hx4.cell 1;obtain⟨w5,hw5,hb5,hx5⟩:=zai w4 #[.string y.text,.slice none 0 0] 46;have q4:(w4.alloc (.cells #[.string y.text,.slice none 0 0] 46)).cell? ⟨wo.heap.size,4,none⟩=some (.slice A' y.kids.length c'):=by rw[hw5];exact(zaa hb5 hx4).cell 4
   have H5:=zz hw5;have hyf:=zaM HF.out (List.mem_of_getElem? hget);have hys:=zaY (List.mem_of_getElem? hget);have hys2:zaq y.kids≤y.size:=by cases y;rw[zaE];show zaq _≤_;exact Nat.le_add_left _ _
   have hsy:zaq y.kids≤2097152:=by omega
   have hyn:y.kids.length≤2097152:=Nat.le_trans (zaB _) hsy;have hyl:=zaD r5;have hy1:=hyl.2.1;have hy2:=hyl.2.2;have I0:Hid (VrIn wo w5 w4.heap.size y.text [] none 0):=zz ⟨zab hb4 hb5 (by omega),hx5,by omega,zaK.nil _ _ _ _ _⟩;have HFy:=zz (zay hyf);have HRy:=zz r5;have HSy:=zz hsy;have hs4:=zz s4;have J0:Hid ([]++(y.kids.drop 0).map zls=y.kids.map zls):=zz rfl;obtain⟨fl,hfl⟩:∃fl,y.kids.map zls=fl:=⟨_,rfl⟩;have hfll:fl.length=y.kids.length:=by rw[←hfl];simp
   have HFL:=zz hfll;have HQ:Hid (acc++[(⟨y.text,fl⟩:Ctr)]++(l.drop (i+1)).map znb=r):=zz (by rw[←q,←hfl];simp[znb]);rw[hfl] at J0;clear q hyf hys hys2 hsy hyl r5 hb4 hb5 hx4 hx5 HA hget s4 hfl hfll;clear hw5;go_wp2_with fail;rw[H5.out];clear hw4 H5 q1 q4
   go_loopw [27] (λs27 wr=>∃(k:Nat) (ac:List Fld) (A3:Option Addr) (c3:Nat),k≤y.kids.length∧ac.length≤k∧s27=.int .i64 k∧Hid (ac++(y.kids.drop k).map zls=fl)∧Hid (VrIn wo wr w4.heap.size y.text ac A3 c3)) (λs27 _=>y.kids.length-(intOf s27).toNat)
   case atStart=>exact⟨0,[],none,0,by omega,by simp,rfl,J0,I0⟩
   case round=>
    clear J0 I0;obtain⟨k,ac,A3,c3,hk,hac,rfl,JA,JB⟩:=hrel
    by_cases hlk:k<y.kids.length
    ·obtain⟨b2,off2,z,e,_,hget,A2,c2,z0,z1,z2,z3,z4,r6⟩:=zbN (HRy.out.belows JB.out.low) hlk;subst e;have q:=JA.out;rw[zak hget,List.map_cons] at q;have hkn:(k:Int)<y.kids.length:=by omega
     obtain⟨w6,hw6,hb6,hx6⟩:=zai wr #[.int .i64 z.kind,.string z.text,.int .i64 z.n,.int .i64 z.at',.slice A2 z.kids.length c2] 25;have t0:=hx6.cell 0;have t1:=hx6.cell 1;have t2:=hx6.cell 2;have t3:=hx6.cell 3;have t4:=hx6.cell 4;have J6:=zz (JB.out.below hb6);have hzm:=List.mem_of_getElem? hget;have hzs:=zaY hzm;have hzS:=HSy.out;have KY:=zz (zgO z A2 c2 w6 (zaM HFy.out hzm) (by omega) (r6.belows hb6));obtain⟨t,ht⟩:∃t,zcs z=t:=⟨_,rfl⟩;rw[ht] at KY;have JQ:Hid ((ac++[(⟨⟨#[]⟩,t⟩:Fld)])++(y.kids.drop (k+1)).map zls=fl):=zz (by rw[←q,←ht];simp[zls]);clear q ht hzm hzs hzS r6 hb6 hx6 JA hget JB;go_wp2_with fail;(with_reducible refine KY.out.mono ?_);rintro e w7 ⟨hb7,ok7,A7,c7,rfl,hr7⟩;have hs67:=hb7.size;have J7:=zz (J6.out.below hb7);have sl6:=J6.out.box.lt;have hob:Hid (∀g,(Value.slice A3 ac.length c3).ownBlock=some g→g<w6.heap.size):=zz (λg hg=>(J6.out.own.below_own g hg).2);have R7:=zz hr7;clear hb7 hr7 t0 t1 t2 t3 t4 z0 z1 z2 z3 z4 hw6 J6;have ba:=zag w7 (.cells #[.int .i64 t.kind,.string t.name,.slice A7 t.args.length c7] 55);have J8:=zz (J7.out.below ba);have y1:(w7.alloc (.cells #[.int .i64 t.kind,.string t.name,.slice A7 t.args.length c7] 55)).cell? ⟨w4.heap.size,1,none⟩=some (.slice A3 ac.length c3):=J8.out.box.cell 1;have bb:=zag (w7.alloc (.cells #[.int .i64 t.kind,.string t.name,.slice A7 t.args.length c7] 55)) (.cells #[.string ⟨#[]⟩,.int .i64 t.kind,.string t.name,.slice A7 t.args.length c7] 66);have J9:=zz (J8.out.below bb);have R9:=zz (zaQ bb (zaQ ba R7.out));have O9:=zz J9.out.own;have sl9:=J9.out.box.lt;clear ba bb J7 R7;go_wp2_with (at_builtin;refine zbp rowF zqD Tryz.underlying44 rfl (by omega) (by omega) rfl _ _ rfl (w4.heap.size+1) sl9 (.slice A3 ac.length c3) ac rfl O9.out ⟨w7.heap.size+1,0,none⟩ 1 ⟨⟨#[]⟩,t⟩ (zli ⟨#[]⟩ t A7 c7) rfl rfl ?cx2 ?cx3 ?cx4 ?_)
     case cx2=>exact zjt _ (by simp) _ _ _ _
     case cx3=>exact λj u hj=>zla (zpf R9.out (by simp) (by omega) (λg hg=>hob.out g hg)) j u hj
     case cx4=>omega
     intro v' w10 hO hg _;replace hO:zaK (w4.heap.size+1) 66 4 (ac++[(⟨⟨#[]⟩,t⟩:Fld)]).length (zap rowF (ac++[(⟨⟨#[]⟩,t⟩:Fld)])) w10 v':=by rw[List.length_append];exact hO
     obtain⟨L,hL⟩:∃L,ac++[(⟨⟨#[]⟩,t⟩:Fld)]=L:=⟨_,rfl⟩;rw[hL] at hO;have q:=JQ.out;rw[hL] at q;have JQ2:=zz q;have hL2:L.length≤ac.length+1:=by rw[←hL];simp
     obtain⟨A8,c8,rfl,_⟩:=hO.rd.sl_inv;have hch:Chg (λk=>w4.heap.size+1≤k) _ w10:=Chg.of_grown hg (λk hk=>(J9.out.own.below_own k hk).1);have hbx:=J9.out.box.keep hch (by omega);have J10:=zz (J9.out.grown hO hg);have y8:w10.cell? ⟨w4.heap.size,1,none⟩=some (.slice A3 ac.length c3):=hbx.cell 1;have z8:=hbx.fz;clear hO hg hch hbx hL q JQ J8 J9 R9 O9 y1;go_wp2_with fail;exact⟨⟨k+1,L,A8,c8,by omega,by omega,by go_num,JQ2,J10⟩,by simp[intOf];omega⟩
    ·have JQ:Hid (ac=fl):=zz (by
      have q:=JA.out;rw[List.drop_eq_nil_of_le (by omega)] at q
      simpa using q)
     clear JA;have Z3:=zz (HB.out.below JB.out.low);have y0:wr.cell? ⟨w4.heap.size,0,none⟩=some (.string y.text):=JB.out.box.cell 0;have y1:wr.cell? ⟨w4.heap.size,1,none⟩=some (.slice A3 ac.length c3):=JB.out.box.cell 1;have x2:wr.cell? ⟨w.heap.size+2,2,none⟩=some (.slice A1 acc.length c1):=Z3.out.box.cell 2;have ba:=zag wr (.cells #[.string y.text,.slice A3 ac.length c3] 46);have Z4:=zz (Z3.out.below ba);have R4:=zz (zaQ ba JB.out.own.slG);have O4:=zz Z4.out.own;have sl4:=Z4.out.box.lt;have hob:Hid (∀g,(Value.slice A1 acc.length c1).ownBlock=some g→g<w4.heap.size+1):=zz (λg hg=>by have:=(HB.out.own.below_own g hg).2;have:=hs4.out;omega);have hs42:w.heap.size+3≤w4.heap.size+1:=by have:=HB.out.box.lt;have:=hs4.out;omega
     clear ba;go_wp2_with (at_builtin;refine zbp zfx zrQ Tryz.underlying39 rfl (by omega) (by omega) rfl _ _ rfl (w.heap.size+3) sl4 (.slice A1 acc.length c1) acc rfl O4.out ⟨wr.heap.size,0,none⟩ 1 ⟨y.text,ac⟩ (zqJ y.text ac.length A3 c3) rfl rfl ?dx2 ?dx3 ?dx4 ?_)
     case dx2=>exact zaU _ rfl _ _
     case dx3=>exact λj u hj=>zob (zpf R4.out (by simp) hs42 (λg hg=>hob.out g hg)) j u hj
     case dx4=>omega
     intro v' w10 hO hg _;replace hO:zaK (w.heap.size+3) 46 2 (acc++[(⟨y.text,ac⟩:Ctr)]).length (zap zfx (acc++[(⟨y.text,ac⟩:Ctr)])) w10 v':=by rw[List.length_append];exact hO
     obtain⟨L,hL⟩:∃L,acc++[(⟨y.text,ac⟩:Ctr)]=L:=⟨_,rfl⟩;rw[hL] at hO;have q:=HQ.out;rw[←JQ.out,hL] at q;have HQ2:=zz q;have hL2:L.length≤acc.length+1:=by rw[←hL];simp
     obtain⟨A8,c8,rfl,_⟩:=hO.rd.sl_inv;have hch:Chg (λk=>w.heap.size+3≤k) _ w10:=Chg.of_grown hg (λk hk=>(Z4.out.own.below_own k hk).1);have hbx:=Z4.out.box.keep hch (by omega);have Z10:=zz (Z4.out.grown hO hg);have y8:w10.cell? ⟨w.heap.size+2,2,none⟩=some (.slice A1 acc.length c1):=hbx.cell 2;have z8:=hbx.fz;clear hO hg hch hbx hL q HQ JQ Z3 Z4 R4 O4 y0 y1 x2;go_wp2_with fail;exact⟨⟨i+1,L,A8,c8,by omega,by omega,by go_num,HQ2,Z10⟩,by simp[intOf];omega⟩
  ·have HQ:Hid (acc=r):=zz (by
    have q:=HA.out;rw[List.drop_eq_nil_of_le (by omega)] at q
    simpa using q)
   clear HA;have y0:=HB.out.box.cell 0;have y1:=HB.out.box.cell 1;have y2:=HB.out.box.cell 2;have x0:=HB.out.res.cell 0;have x1:=HB.out.res.cell 1;have x2:=HB.out.res.cell 2;have xz:=HB.out.res.fz;go_wp2_with fail;refine bodyPost_ret (zdJ (by rfl) _ _ (w.heap.size+1) _ _ (0,0) _ rfl (zdY _ _ _ HB.out.res) Tryz.underlying41 rfl zrw) rfl ⟨?_,A1,c1,by rw[←HQ.out],?_⟩
   ·exact HB.out.low.trans ((zcQ _ _ _ _ _).below HB.out.low.size (λq hq=>by omega))
   ·rw[←HQ.out];have hc:=zcQ wo (w.heap.size+1) (.string tx) (.bool false) (.slice A1 acc.length c1);exact(hc.rd (λb hb=>⟨hb.2,by have:=hb.1;omega⟩) HB.out.own.slG).weaken (λq hq=>⟨by have:=hq.1;omega,Nat.lt_of_lt_of_le hq.2 hc.size⟩)
end Go.Proofs.YtjdpocmlimkjjaaGreat
