/- Conditions: those in each statement. -/
import Derived.Test.YtjdpocmlimkjjaaGreatQ09
set_option maxHeartbeats 32000000
set_option maxRecDepth 100000
namespace Go.Proofs.YtjdpocmlimkjjaaGreat
open Go.RowKit
abbrev nd5 (kd:Int) (tx:ByteArray) (nn at':Int) (l:List Nd) (A:Option Addr) (c:Nat):Value:=.agg #[.int .i64 kd,.string tx,.int .i64 nn,.int .i64 at',.slice A l.length c]
structure StrF (K:FuncId) (q:ByteArray→Bool):Prop where
 cf:∀(x:Value) (W:World),(callFunc K #[x]).run Tryz.prog W=.ok (.enter K #[x]) W
 run:∀(s:ByteArray) (w:World),s.size≤32768→Calls Tryz.prog K #[.string s] w λe w'=>e=.returned (.bool (q s))∧Below w.heap.size w w'
theorem zaX:StrF 84 zaw:=⟨λ_ _=>by kernel_rfl,λs w h=>zeW s w h⟩
theorem zbi:StrF 88 zaH:=⟨λ_ _=>by kernel_rfl,λs w h=>zda s w h⟩
theorem zdP:StrF 147 zdM:=⟨λ_ _=>by kernel_rfl,λs w h=>zgq s w h⟩
theorem zfP:StrF 146 zdG:=⟨λ_ _=>by kernel_rfl,λs w h=>zgz s w h⟩
theorem ziw:StrF 127 zcw:=⟨λ_ _=>by kernel_rfl,λs w h=>zfZ s w h⟩
structure BxN (w:World) (kd:Int) (tx:ByteArray) (nn at':Int) (l:List Nd) (A:Option Addr) (c:Nat) (W:World):Prop where
 low:Below w.heap.size w W
 box:zac W w.heap.size #[.int .i64 kd,.string tx,.int .i64 nn,.int .i64 at',.slice A l.length c] 25
 rd:Rd (Lt W.heap.size) W (ns l) (.slice A l.length c)
section
variable {w W W':World} {kd nn at':Int} {tx:ByteArray} {l:List Nd} {A:Option Addr} {c:Nat}
theorem BxN.below (h:BxN w kd tx nn at' l A c W) (k:Below W.heap.size W W'):BxN w kd tx nn at' l A c W':=⟨zab h.low k h.low.size,zaa k h.box,h.rd.belows k⟩
theorem BxN.new (h:Rd (Lt w.heap.size) w (ns l) (.slice A l.length c)):BxN w kd tx nn at' l A c (w.alloc (.cells #[.int .i64 kd,.string tx,.int .i64 nn,.int .i64 at',.slice A l.length c] 25)):=by
 have hb:=(Below.refl w.heap.size w).alloc (Nat.le_refl _) (.cells #[.int .i64 kd,.string tx,.int .i64 nn,.int .i64 at',.slice A l.length c] 25);exact⟨hb,zac.new w _ _,h.belows hb⟩
theorem BxN.c0 (h:BxN w kd tx nn at' l A c W):W.cell? ⟨w.heap.size,0,none⟩=some (.int .i64 kd):=h.box.cell 0
theorem BxN.c1 (h:BxN w kd tx nn at' l A c W):W.cell? ⟨w.heap.size,1,none⟩=some (.string tx):=h.box.cell 1
theorem BxN.c2 (h:BxN w kd tx nn at' l A c W):W.cell? ⟨w.heap.size,2,none⟩=some (.int .i64 nn):=h.box.cell 2
theorem BxN.c3 (h:BxN w kd tx nn at' l A c W):W.cell? ⟨w.heap.size,3,none⟩=some (.int .i64 at'):=h.box.cell 3
theorem BxN.c4 (h:BxN w kd tx nn at' l A c W):W.cell? ⟨w.heap.size,4,none⟩=some (.slice A l.length c):=h.box.cell 4
theorem BxN.cs (h:BxN w kd tx nn at' l A c W):W.cell? ⟨w.heap.size,0,none⟩=some (.int .i64 kd)∧W.cell? ⟨w.heap.size,1,none⟩=some (.string tx)∧W.cell? ⟨w.heap.size,2,none⟩=some (.int .i64 nn)∧W.cell? ⟨w.heap.size,3,none⟩=some (.int .i64 at')∧W.cell? ⟨w.heap.size,4,none⟩=some (.slice A l.length c):=h.box.c5
end
theorem ziH {tx:ByteArray} (h:tx=⟨#[]⟩):(tx.toList == [])=true:=zex (l:=[]) h
theorem zfD {tx:ByteArray} (h:¬tx=⟨#[]⟩):(tx.toList == [])=false:=zam (l:=[]) h
theorem zaG (kd:Int) (tx:ByteArray) (nn at':Int) (l:List Nd) (A:Option Addr) (c:Nat) (w:World) :
 Calls Tryz.prog 56 #[nd5 kd tx nn at' l A c] w λe w'=>e=.returned (.bool (zbf (.mk kd tx nn at' l)))∧Below w.heap.size w w':=by
 have hb:=(Below.refl w.heap.size w).alloc (Nat.le_refl _) (.cells #[.int .i64 kd,.string tx,.int .i64 nn,.int .i64 at',.slice A l.length c] 25);have hx:=zac.new w #[.int .i64 kd,.string tx,.int .i64 nn,.int .i64 at',.slice A l.length c] 25;obtain⟨w0,hw⟩:∃W,w.alloc (.cells #[.int .i64 kd,.string tx,.int .i64 nn,.int .i64 at',.slice A l.length c] 25)=W:=⟨_,rfl⟩;rw[hw] at hb hx;have x1:w0.cell? ⟨w.heap.size,1,none⟩=some (.string tx):=hx.cell 1;have x2:w0.cell? ⟨w.heap.size,2,none⟩=some (.int .i64 nn):=hx.cell 2;have HB:=zz hb;clear hb hx
 by_cases h1:tx=⟨#[]⟩
 ·have e1:=ziH h1;have H1:=zz h1;clear h1
  by_cases h2:nn=0
  ·have e2:(nn == 0)=true:=by simp[h2]
   have H2:=zz h2;clear h2;go_enter Tryz.func56,Tryz.ntmps56;go_wp2_with fail;go_ret;exact⟨by rw[show zbf (.mk kd tx nn at' l)=true by simp[zbf,Nd.text,Nd.n,H1.out,H2.out]];rfl,HB.out⟩
  ·have e2:(nn == 0)=false:=by simp[h2]
   have H2:=zz h2;clear h2;go_enter Tryz.func56,Tryz.ntmps56;go_wp2_with fail;go_ret;exact⟨by rw[show zbf (.mk kd tx nn at' l)=false by simp[zbf,Nd.text,Nd.n,H2.out]];rfl,HB.out⟩
 ·have e1:=zfD h1;have H1:=zz h1;clear h1;go_enter Tryz.func56,Tryz.ntmps56;go_wp2_with fail;go_ret;exact⟨by rw[show zbf (.mk kd tx nn at' l)=false by simp[zbf,Nd.text,Nd.n,H1.out]];rfl,HB.out⟩
theorem zal {K:FuncId} {q:ByteArray→Bool} (S:StrF K q) (kd:Int) (tx:ByteArray) (nn at':Int) (l:List Nd) (A:Option Addr) (c:Nat) (ht:tx.size≤32768) (w:World) :
 Calls Tryz.prog 83 #[nd5 kd tx nn at' l A c,.func (.func K) #[] #[]] w λe w'=>e=.returned (.bool (zav q (.mk kd tx nn at' l)))∧Below w.heap.size w w':=by
 have hb:=(Below.refl w.heap.size w).alloc (Nat.le_refl _) (.cells #[.int .i64 kd,.string tx,.int .i64 nn,.int .i64 at',.slice A l.length c] 25);have hx:=zac.new w #[.int .i64 kd,.string tx,.int .i64 nn,.int .i64 at',.slice A l.length c] 25;obtain⟨w0,hw⟩:∃W,w.alloc (.cells #[.int .i64 kd,.string tx,.int .i64 nn,.int .i64 at',.slice A l.length c] 25)=W:=⟨_,rfl⟩;rw[hw] at hb hx;have x1:w0.cell? ⟨w.heap.size,1,none⟩=some (.string tx):=hx.cell 1;have hcf:=S.cf;have KS:=zz (S.run tx w0 ht);have HB:=zz hb;have HX:=zz hx;clear hb hx;cases h1:q tx with
 |true=>
  rw[h1] at KS;have H1:=zz h1;clear h1;go_enter Tryz.func83,Tryz.ntmps83;go_wp2_with fail;(with_reducible refine KS.out.mono ?_);rintro e w1 ⟨rfl,hb1⟩;have HB1:=zz (zab HB.out hb1 HB.out.size);have x2:w1.cell? ⟨w.heap.size,2,none⟩=some (.int .i64 nn):=(zaa hb1 HX.out).cell 2;clear hb1 hw x1
  by_cases h2:nn=0
  ·have e2:(nn == 0)=true:=by simp[h2]
   have H2:=zz h2;clear h2;go_wp2_with fail;go_ret;exact⟨by rw[show zav q (.mk kd tx nn at' l)=true by simp[zav,Nd.text,Nd.n,H1.out,H2.out]];rfl,HB1.out⟩
  ·have e2:(nn == 0)=false:=by simp[h2]
   have H2:=zz h2;clear h2;go_wp2_with fail;go_ret;exact⟨by rw[show zav q (.mk kd tx nn at' l)=false by simp[zav,Nd.text,Nd.n,H2.out]];rfl,HB1.out⟩
 |false=>
  rw[h1] at KS;have H1:=zz h1;clear h1;go_enter Tryz.func83,Tryz.ntmps83;go_wp2_with fail;(with_reducible refine KS.out.mono ?_);rintro e w1 ⟨rfl,hb1⟩;have HB1:=zz (zab HB.out hb1 HB.out.size);clear hb1 hw x1;go_wp2_with fail;go_ret;exact⟨by rw[show zav q (.mk kd tx nn at' l)=false by simp[zav,Nd.text,Nd.n,H1.out]];rfl,HB1.out⟩
theorem zgj {ok:Nat→Prop} {w:World} {l:List Nd} {A:Option Addr} {c k:Nat} (h:Rd ok w (ns l) (.slice A l.length c)) (hk:k≤l.length):Rd ok w (ns (l.take k)) (.slice A (l.take k).length c):=by
 obtain⟨A0,c0,e,h1,h2,h3⟩:=h.sl_inv;injection e with e1 e2 e3;subst e1 e3;have hlen:(l.take k).length=k:=by rw[List.length_take];omega
 refine Rd.sl_mk (by omega) h2 (λhp=>?_);obtain⟨b,off,rfl,hb,hr⟩:=h3 (by omega);refine⟨b,off,rfl,hb,λi hi=>?_⟩;have:=hr i (by omega);have hil:i<l.length:=by omega
 rw[zgP hil] at this;rw[zgP hi];have hx:l[i]?=some l[i]:=List.getElem?_eq_getElem hil;rw[zax hx] at this;rw[zax (l:=l.take k) (i:=i) (x:=l[i]) (by rw[List.getElem?_take_of_lt (by omega)];exact hx)];exact this
theorem zhe {ok:Nat→Prop} {w:World} {l:List Nd} {A:Option Addr} {c k:Nat} (h:Rd ok w (ns l) (.slice A l.length c)) (hk:k≤l.length) (A':Option Addr) (hA:A'=if c=k then A else A.map (·.add (k*5))):Rd ok w (ns (l.drop k)) (.slice A' (l.drop k).length (c-k)):=by
 obtain⟨A0,c0,e,h1,h2,h3⟩:=h.sl_inv;injection e with e1 e2 e3;subst e1 e3;have hlen:(l.drop k).length=l.length-k:=List.length_drop;refine Rd.sl_mk (by omega) (by omega) (λhp=>?_);obtain⟨b,off,rfl,hb,hr⟩:=h3 (by omega);refine⟨b,off+k*5,?_,hb,λi hi=>?_⟩
 ·rw[hA,if_neg (by omega),Option.map_some,Addr.add_lit]
 ·have:=hr (k+i) (by omega);have hil:k+i<l.length:=by omega
  rw[zgP hil] at this;rw[zgP hi];have hx:l[k+i]?=some l[k+i]:=List.getElem?_eq_getElem hil;rw[zax hx] at this;rw[zax (l:=l.drop k) (i:=i) (x:=l[k+i]) (by rw[List.getElem?_drop];exact hx)];rw[show off+k*5+i*5=off+(k+i)*5 by omega];exact this
theorem zcP (w:World) (d:Int) (V:Value) (g:Nd→Bool) (S:Shp w V d g) (gs:List (Nd→Bool)) (b:Nat) (vs:List Value) (F:FsAt w d gs b vs) (m:Nat) (hm:m=gs.length) (hm0:0<m) (hm3:m≤16) (l:List Nd) (A:Option Addr) (c:Nat) (hf:fitL l=true) (h:Rd (Lt w.heap.size) w (ns l) (.slice A l.length c)) :
 Calls Tryz.prog 89 #[.slice A l.length c,.int .i64 d,V,.slice (some ⟨b,0,none⟩) m m] w λe w'=>e=.returned (.bool (zcg l g gs))∧Below w.heap.size w w':=by
 have hl:=zaD h;have hn:l.length≤9223372036854775807:=Nat.le_trans hl.2.1 hl.2.2;have HF:=zz hf
 by_cases hk:m≤l.length
 ·obtain⟨k,hk1⟩:∃k,l.length-m=k:=⟨_,rfl⟩;have hk2:(l.length:Int)-(m:Int)=(k:Int):=by omega
  have hk3:IntKind.i64.wrap ((l.length:Int)-(m:Int))=(k:Int):=by rw[IntWalk.i64_in _ (by omega)];omega
  have KA:=zct w V d g S (l.take k) A c (zev hf k) (zgj h (by omega));rw[show (l.take k).length=k by rw[List.length_take];omega] at KA;have K1:=zz KA;have HE:Hid (zcg l g gs=((l.take k).all g&&zaA (l.drop k) gs)):=zz (by unfold zcg;rw[←hm,hk1];simp[hk]);clear KA;have hkc:k≤c:=by omega
  have hkl:k≤l.length:=by omega
  have HR:=zz h;have HFs:=zz F;have HM:=zz hm;have HB0:Hid (Below w.heap.size w w):=zz (Below.refl _ _);have HK1:=zz hk1;have hnk:l.length-k=m:=by omega
  clear h F hl hm hf hk hk1 S;cases h1:(l.take k).all g with
  |false=>
   rw[h1] at K1 HE;go_enter Tryz.func89,Tryz.ntmps89;go_wp2_with fail;(with_reducible refine K1.out.mono ?_);rintro e w1 ⟨rfl,hb1⟩;have HB1:=zz hb1;clear hb1;go_wp2_with fail;go_ret;exact⟨by rw[HE.out];rfl,HB1.out⟩
  |true=>
   rw[h1] at K1 HE;go_enter Tryz.func89,Tryz.ntmps89;go_wp2_with fail;(with_reducible refine K1.out.mono ?_);rintro e w1 ⟨rfl,hb1⟩;have HB1:=zz hb1;have F1:FsAt w1 d gs b vs:=⟨HFs.out.len,zaa hb1 HFs.out.box,λi V g h1 h2=>(HFs.out.shp i V g h1 h2).mono hb1⟩;have R1:=HR.out.belows hb1;obtain⟨A',hA'⟩:∃A',(if c=k then A else A.map (λx=>x.add (k*5)))=A':=⟨_,rfl⟩;have KS:=zaW w1 d gs b vs F1 m HM.out hm3 (l.drop k) A' (c-k) (zih HF.out k) (zhe R1 hkl A' hA'.symm);rw[show (l.drop k).length=m by rw[List.length_drop];omega] at KS;have K2:=zz KS;clear hb1 F1 R1 KS;go_wp2_with fail;(with_reducible refine K2.out.mono ?_);rintro e w2 ⟨rfl,hb2⟩;have HB2:=zz (zab HB1.out hb2 HB1.out.size);clear hb2;go_wp2_with fail;go_ret;exact⟨by rw[HE.out];rfl,HB2.out⟩
 ·have hE:zcg l g gs=false:=by unfold zcg;rw[←hm];simp[hk]
  rw[hE];have hlt:¬(0:Int)≤(l.length:Int)-(m:Int):=by omega
  go_enter Tryz.func89,Tryz.ntmps89;go_wp2_with fail;go_ret;exact⟨rfl,Below.refl _ _⟩
theorem zea (w:World) (d:Int) (V1 V2:Value) (g1 g2:Nd→Bool) (S1:Shp w V1 d g1) (S2:Shp w V2 d g2) (l:List Nd) (A:Option Addr) (c:Nat) (hf:fitL l=true) (h:Rd (Lt w.heap.size) w (ns l) (.slice A l.length c)) :
 Calls Tryz.prog 129 #[.slice A l.length c,.int .i64 d,V1,V2] w λe w'=>e=.returned (.bool (zef l g1 g2))∧Below w.heap.size w w':=by
 have hl:=zaD h;have hn:l.length≤9223372036854775807:=Nat.le_trans hl.2.1 hl.2.2;have HR:=zz h;cases l with
 |nil=>
  clear h hl hn HR hf;go_enter Tryz.func129,Tryz.ntmps129;go_wp2_with fail;go_ret;exact⟨rfl,Below.refl _ _⟩
 |cons y l=>
  obtain⟨b,off,y',e,hlb,hget,A',c',p0,p1,p2,p3,p4,r5⟩:=zbN h (i:=0) (by simp);obtain rfl:y=y':=by simpa using hget
  obtain⟨K,cap,rfl,hcf,H3⟩:=S1;rw[fitL,Bool.and_eq_true] at hf;have KY:=zz (H3 y A' c' w (Below.refl _ _) hf.1 r5);have HF:=zz hf.2;obtain⟨m,hm⟩:∃m,(y::l).length=m:=⟨_,rfl⟩;have hm2:l.length=m-1:=by rw[←hm];simp
  have HM2:=zz hm2;have hm1:1≤m:=by rw[←hm];simp
  have hmi:(0:Int)<(m:Int):=by omega
  have hmi2:(1:Int)≤(m:Int):=by omega
  have hmc:m≤c:=by rw[←hm];exact hl.2.1
  have HMM:=zz hm;rw[hm];subst e;have HE:Hid (zef (y::l) g1 g2=(g1 y&&l.all g2)):=zz rfl;rw[Nat.zero_mul,Nat.add_zero] at p0 p1 p2 p3 p4;clear h hl hf hget H3 r5 hm hm2;cases h1:g1 y with
  |false=>
   rw[h1] at KY HE;go_enter Tryz.func129,Tryz.ntmps129;go_wp2_with fail;(with_reducible refine KY.out.mono ?_);rintro e w1 ⟨rfl,hb1⟩;have HB1:=zz hb1;clear hb1;go_wp2_with fail;go_ret;exact⟨by rw[HE.out];rfl,HB1.out⟩
  |true=>
   rw[h1] at KY HE;have HS2:=zz S2;clear S2;go_enter Tryz.func129,Tryz.ntmps129;go_wp2_with fail;(with_reducible refine KY.out.mono ?_);rintro e w1 ⟨rfl,hb1⟩;have HB1:=zz hb1;have R1:=HR.out.belows hb1;obtain⟨A1,hA1⟩:∃A1,(if c=1 then some ⟨b,off,none⟩ else (some ⟨b,off,none⟩:Option Addr).map (λx=>x.add (1*5)))=A1:=⟨_,rfl⟩;have RD:=zhe R1 (k:=1) (by simp) A1 hA1.symm;rw[show (y::l).drop 1=l from rfl] at RD;have KS:=zct w1 V2 d g2 (HS2.out.mono hb1) l A1 (c-1) HF.out RD;rw[HM2.out] at KS;have K2:=zz KS;have hA2:(if c=1 then some (⟨b,off,none⟩:Addr) else some ⟨b,off+5,none⟩)=A1:=by rw[←hA1];simp[Addr.add_lit]
   clear hb1 R1 KS RD hA1;go_wp2_with fail;(with_reducible refine K2.out.mono ?_);rintro e w2 ⟨rfl,hb2⟩;have HB2:=zz (zab HB1.out hb2 HB1.out.size);clear hb2;go_wp2_with fail;go_ret;exact⟨by rw[HE.out];rfl,HB2.out⟩
def ShpC (K:FuncId) (d:Int) (g:Nd→Bool):Prop:=∀(n:Nd) (A:Option Addr) (c:Nat) (W:World),n.fit=true→Rd (Lt W.heap.size) W (ns n.kids) (.slice A n.kids.length c)→
 Calls Tryz.prog K #[.agg #[.int .i64 n.kind,.string n.text,.int .i64 n.n,.int .i64 n.at',.slice A n.kids.length c],.int .i64 d] W λe W'=>e=.returned (.bool (g n))∧Below W.heap.size W W'
theorem ShpC.shp {K:FuncId} {d:Int} {g:Nd→Bool} (h:ShpC K d g) (hcf:∀(x y:Value) (W:World),(callFunc K #[x,y]).run Tryz.prog W=.ok (.enter K #[x,y]) W) (w:World):Shp w (.func (.func K) #[] #[]) d g:=
 ⟨K,#[],rfl,λx y W=>hcf x y W,λn A c W _ hf hr=>h n A c W hf hr⟩
section
variable {w:World} {d:Int} {V1 V2 V3:Value} {g1 g2 g3:Nd→Bool}
theorem zag (w:World) (o:Obj):Below w.heap.size w (w.alloc o):=(Below.refl w.heap.size w).alloc (Nat.le_refl _) o
theorem zai (w:World) (cs:Array Value) (t:TypeId):∃W,w.alloc (.cells cs t)=W∧Below w.heap.size w W∧zac W w.heap.size cs t:=⟨_,rfl,zag _ _,zac.new _ _ _⟩
theorem FsAt.new1 (S1:Shp w V1 d g1):FsAt (w.alloc (.cells #[V1] 150)) d [g1] w.heap.size [V1]:=
 ⟨rfl,zac.new w _ _,λi V g h1 h2=>match i,h1,h2 with
  |0,h1,h2=>by
   simp at h1 h2;subst h1 h2;exact S1.mono (zag _ _)
  |i+1,h1,_=>by simp at h1⟩
theorem FsAt.new2 (S1:Shp w V1 d g1) (S2:Shp w V2 d g2):FsAt (w.alloc (.cells #[V1,V2] 150)) d [g1,g2] w.heap.size [V1,V2]:=
 ⟨rfl,zac.new w _ _,λi V g h1 h2=>match i,h1,h2 with
  |0,h1,h2=>by
   simp at h1 h2;subst h1 h2;exact S1.mono (zag _ _)
  |1,h1,h2=>by
   simp at h1 h2;subst h1 h2;exact S2.mono (zag _ _)
  |i+2,h1,_=>by simp at h1⟩
theorem FsAt.new3 (S1:Shp w V1 d g1) (S2:Shp w V2 d g2) (S3:Shp w V3 d g3):FsAt (w.alloc (.cells #[V1,V2,V3] 150)) d [g1,g2,g3] w.heap.size [V1,V2,V3]:=
 ⟨rfl,zac.new w _ _,λi V g h1 h2=>match i,h1,h2 with
  |0,h1,h2=>by
   simp at h1 h2;subst h1 h2;exact S1.mono (zag _ _)
  |1,h1,h2=>by
   simp at h1 h2;subst h1 h2;exact S2.mono (zag _ _)
  |2,h1,h2=>by
   simp at h1 h2;subst h1 h2;exact S3.mono (zag _ _)
  |i+3,h1,_=>by simp at h1⟩
end
theorem zoP {K:FuncId} {q:ByteArray→Bool} (S:StrF K q) (f:Nat) (d k:Int) (hd:(f:Int)+d=41) (p1 p2:Nat) (kd:Int) (tx:ByteArray) (nn at':Int) (l:List Nd) (A:Option Addr) (c:Nat) (ht:tx.size≤32768) (w:World) (h1:zac w p1 #[.int .i64 k] 3) (h2:zac w p2 #[.func (.func K) #[] #[]] 52) :
 Calls Tryz.prog 132 #[nd5 kd tx nn at' l A c,.int .i64 d,.pointer (some ⟨p1,0,none⟩),.pointer (some ⟨p2,0,none⟩)] w λe w'=>e=.returned (.bool (zhH f k q (.mk kd tx nn at' l)))∧Below w.heap.size w w':=by
 obtain⟨w0,hw,hb,hx⟩:=zai w #[.int .i64 kd,.string tx,.int .i64 nn,.int .i64 at',.slice A l.length c] 25;obtain⟨x0,x1,x2,x3,x4⟩:=hx.c5;have y1:w0.cell? ⟨p1,0,none⟩=some (.int .i64 k):=(zaa hb h1).cell 0;have y2:w0.cell? ⟨p2,0,none⟩=some (.func (.func K) #[] #[]):=(zaa hb h2).cell 0;have HX:=zz hx;have HB:=zz hb;have HE:Hid (zhH f k q (.mk kd tx nn at' l)=(decide (0<f)&&decide (kd=k)&&zav q (.mk kd tx nn at' l)&&l.isEmpty)):=zz rfl;have KN:=zz (zal S kd tx nn at' l A c ht w0);clear hb hx h1 h2
 by_cases hf:0<f
 ·have hd2:d≤40:=by omega
  rw[decide_eq_true hf] at HE
  by_cases hk:kd=k
  ·subst hk;rw[decide_eq_true rfl] at HE;go_enter Tryz.func132,Tryz.ntmps132;go_wp2_with fail;(with_reducible refine KN.out.mono ?_);rintro e w1 ⟨rfl,hb1⟩;have HB1:=zz (zab HB.out hb1 HB.out.size);have z4:w1.cell? ⟨w.heap.size,4,none⟩=some (.slice A l.length c):=(zaa hb1 HX.out).cell 4;clear hb1 hw x0 x1 x2 x3 x4 y1 y2;cases hn:zav q (.mk kd tx nn at' l) with
   |false=>
    rw[hn] at HE;go_wp2_with fail;go_ret;exact⟨by rw[HE.out];rfl,HB1.out⟩
   |true=>
    rw[hn] at HE;go_wp2_with fail;go_ret;exact⟨by rw[HE.out];cases l<;>rfl,HB1.out⟩
  ·have hk2:(kd == k)=false:=by simp[hk]
   rw[decide_eq_false hk] at HE;go_enter Tryz.func132,Tryz.ntmps132;go_wp2_with fail;go_ret;exact⟨by rw[HE.out];rfl,HB.out⟩
 ·have hd2:¬d≤40:=by omega
  rw[decide_eq_false hf] at HE;go_enter Tryz.func132,Tryz.ntmps132;go_wp2_with fail;go_ret;exact⟨by rw[HE.out];rfl,HB.out⟩
theorem zfe {K:FuncId} {q:ByteArray→Bool} (S:StrF K q) (f:Nat) (d k:Int) (hd:(f:Int)+d=41) (w:World) :
 Calls Tryz.prog 93 #[.int .i64 k,.func (.func K) #[] #[]] w λe w'=>∃V,e=.returned V∧Shp w' V d (zhH f k q)∧Below w.heap.size w w':=by
 have hmf:∀(fn:Fn) (first cap:Array Value) (w:World),(Instr.makeFunc fn first cap).run Tryz.prog w=.ok (.func fn first cap) w:=λ_ _ _ _=>rfl;obtain⟨w1,h1,b1,c1⟩:=zai w #[.int .i64 k] 3;obtain⟨w2,h2,b2,c2⟩:=zai w1 #[.func (.func K) #[] #[]] 52
 have HS:Hid (Shp w2 (.func (.func 132) #[] #[.pointer (some ⟨w.heap.size,0,none⟩),.pointer (some ⟨w1.heap.size,0,none⟩)]) d (zhH f k q)):=zz
  ⟨_,_,rfl,λx y W=>by kernel_rfl,λn A c W hb hf hr=>by
   obtain⟨kd,tx,nn,at',l⟩:=n;exact zoP S f d k hd w.heap.size w1.heap.size kd tx nn at' l A c (zbe hf) W (zaa hb (zaa b2 c1)) (zaa hb c2)⟩
 have HB:=zz (zab b1 b2 b1.size);clear b1 c1 b2 c2;go_enter Tryz.func93,Tryz.ntmps93;go_wp2_with fail;go_ret;exact⟨_,rfl,HS.out,HB.out⟩
end Go.Proofs.YtjdpocmlimkjjaaGreat
