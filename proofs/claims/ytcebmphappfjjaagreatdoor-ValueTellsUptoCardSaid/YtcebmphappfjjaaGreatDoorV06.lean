/- Conditions: those in each statement. -/
import Derived.Test.YtcebmphappfjjaaGreatDoorV05
import Derived.Test.YtcebmphappfjjaaGreatDoorV02
set_option maxHeartbeats 32000000
set_option maxRecDepth 100000
namespace Go.Proofs.YtcebmphappfjjaaGreatDoor
open Go.RowKit
mutual
def Nd.fit:Nd->Bool
 |.mk _ t _ _ l=>decide (t.size<=32768)&&fitL l
def fitL:List Nd->Bool
 |[]=>true
 |n::r=>n.fit&&fitL r
end
theorem zaR:∀{l:List Nd} {n:Nd},fitL l=true->n∈l->n.fit=true
 |[],n,_,h=>by simp at h
 |x::r,n,h,hn=>by
  rw[fitL,Bool.and_eq_true] at h;rcases List.mem_cons.1 hn with rfl|h2
  ·exact h.1
  ·exact zaR h.2 h2
theorem zkb:∀{l:List Nd},(∀n∈l,n.fit=true)->fitL l=true
 |[],_=>rfl
 |x::r,h=>by
  rw[fitL,h x (List.mem_cons_self ..),zkb (λn hn=>h n (List.mem_cons_of_mem _ hn))];rfl
theorem zav {n:Nd} (h:n.fit=true):fitL n.kids=true:=by
 cases n;rw[Nd.fit,Bool.and_eq_true] at h;exact h.2
theorem zgd {l:List Nd} (h:fitL l=true) (k:Nat):fitL (l.take k)=true:=zkb (λ_ hn=>zaR h (List.mem_of_mem_take hn))
structure zvn (K:FuncId) (d:Int) (n:Nd):Prop where
 cf:∀(x y:Value) (W:World),(callFunc K #[x,y]).run Tryz.prog W=.ok (.enter K #[x,y]) W
 run:∀(A:Option Addr) (c:Nat) (W:World),Rd (Lt W.heap.size) W (ns n.kids) (.slice A n.kids.length c)->
  Calls Tryz.prog K #[.agg #[.int .i64 n.kind,.string n.text,.int .i64 n.n,.int .i64 n.at',.slice A n.kids.length c],.int .i64 d] W λe W'=>e=.returned (.bool true)/\Below W.heap.size W W'
theorem zvt {K:FuncId} {d:Int} {l:List Nd} (H:∀y∈l,zvn K d y) (A:Option Addr) (c:Nat) (w:World) (h:Rd (Lt w.heap.size) w (ns l) (.slice A l.length c)) :
 Calls Tryz.prog 172 #[.slice A l.length c,↑d,.func (.func K) #[] #[]] w λe w'=>e=.returned (.bool true)/\Below w.heap.size w w':=by
 have HR:=zz h;have HK:=zz H;have hl:=zaS h;have hn:l.length<=9223372036854775807:=Nat.le_trans hl.2.1 hl.2.2;have HB0:Hid (Below w.heap.size w w):=zz (Below.refl _ _);clear h hl H;go_in;go_wp2
 go_loopw [11] (λs wr=>∃i:Nat,i<=l.length/\s=↑i/\Hid (Below w.heap.size w wr)) (λs _=>l.length-(intOf s).toNat)
 case atStart=>exact⟨0,zo,rfl,HB0⟩
 case round=>
  clear HB0;obtain⟨i,hi,rfl,HB⟩:=hrel;have sB:=HB.out.size
  by_cases hlt:i<l.length
  ·obtain⟨b,off,y,e,hlb,hget,A',c',p0,p1,p2,p3,p4,r5⟩:=zbC (HR.out.belows HB.out) hlt;subst e;have hin:(i:Int)<l.length:=zo
   have hb1:=(Below.refl wr.heap.size wr).alloc (Nat.le_refl _) (.cells #[↑y.kind,↑y.text,↑y.n,↑y.at',.slice A' y.kids.length c'] 49);have hx1:=zab.new wr #[↑y.kind,↑y.text,↑y.n,↑y.at',.slice A' y.kids.length c'] 49;obtain⟨w1,hw1⟩:=zn (wr.alloc (.cells #[↑y.kind,↑y.text,↑y.n,↑y.at',.slice A' y.kids.length c'] 49));rw[hw1] at hb1 hx1;obtain⟨q0,q1,q2,q3,q4⟩:=hx1.c5;have HB1:=zz (HB.out.trans (hb1.mono sB));obtain⟨hcf,H3⟩:=HK.out y (List.mem_of_getElem? hget);have KY:=zz (H3 A' c' w1 (r5.belows hb1));have s1:=hb1.size;clear r5 hb1 hx1 hget H3;go_wp2_with fail;refine zi KY ?_;rintro e w2 ⟨rfl,hb2⟩;have HB2:=zz (HB1.out.trans (hb2.mono zo));clear hb2 q0 q1 q2 q3 q4 hw1;go_wp2;exact⟨⟨i+1,zo,by go_num,HB2⟩,by simp[intOf];omega⟩
  ·go_wp2;go_ret;exact⟨rfl,HB.out⟩
theorem zvL {d:Int} {l:List Nd} {b:Nat} (hm3:l.length<=16) {w:World} (hx:b<w.heap.size) (H:∀(i:Nat) (y:Nd),l[i]?=some y->∃K,w.cell? ⟨b,i,none⟩=some (.func (.func K) #[] #[])/\zvn K d y) (A:Option Addr) (c:Nat) (h:Rd (Lt w.heap.size) w (ns l) (.slice A l.length c)) :
 Calls Tryz.prog 229 #[.slice A l.length c,↑d,.slice (some ⟨b,0,none⟩) l.length l.length] w λe w'=>e=.returned (.bool true)/\Below w.heap.size w w':=by
 have HR:=zz h;have HS:=zz H;have HX:=zz hx;have HB0:Hid (Below w.heap.size w w):=zz (Below.refl _ _);have hne1:((l.length:Int) != (l.length:Int))=false:=by simp
 have hne2:((l.length:Int) == (l.length:Int))=true:=by simp
 clear h H hx;go_in;go_wp2
 go_loopw [16] (λs wr=>∃i:Nat,i<=l.length/\s=↑i/\Hid (Below w.heap.size w wr)) (λs _=>l.length-(intOf s).toNat)
 case atStart=>exact⟨0,zo,rfl,HB0⟩
 case round=>
  clear HB0;obtain⟨i,hi,rfl,HB⟩:=hrel;have sB:=HB.out.size
  by_cases hll:i<l.length
  ·obtain⟨b',off,y,e,hlb,hget,A',c',p0,p1,p2,p3,p4,r5⟩:=zbC (HR.out.belows HB.out) hll;subst e;obtain⟨K,hk,hcf,H3⟩:=HS.out i y hget;have hbox:wr.cell? ⟨b,i,none⟩=some (.func (.func K) #[] #[]):=(HB.out.cell (p:=⟨b,i,none⟩) HX.out).trans hk;have hin:(i:Int)<(l.length:Int):=zo
   have KY:=zz (H3 A' c' wr r5);clear r5 hget H3 hk;go_wp2_with fail;refine zi KY ?_;rintro e w2 ⟨rfl,hb2⟩;have HB2:=zz (HB.out.trans (hb2.mono zo));clear hb2;go_wp2;exact⟨⟨i+1,zo,by go_num,HB2⟩,by simp[intOf];omega⟩
  ·go_wp2;go_ret;exact⟨rfl,HB.out⟩
end Go.Proofs.YtcebmphappfjjaaGreatDoor
set_option maxHeartbeats 32000000
set_option maxRecDepth 100000
namespace Go.Proofs.YtcebmphappfjjaaGreatDoor
mutual
def Nd.size:Nd->Nat
 |.mk _ _ _ _ l=>1+zaB l
def zaB:List Nd->Nat
 |[]=>0
 |n::r=>n.size+zaB r
end
theorem zbT (k:Int) (t:ByteArray) (n a:Int) (l:List Nd):(Nd.mk k t n a l).size=1+zaB l:=by rw[Nd.size]
theorem zcR (n:Nd) (r:List Nd):zaB (n::r)=n.size+zaB r:=by rw[zaB]
theorem zaK:∀{l:List Nd} {n:Nd},n∈l->n.size<=zaB l
 |[],n,h=>by simp at h
 |x::r,n,h=>by
  rw[zaB];rcases List.mem_cons.1 h with rfl|h2
  ·omega
  ·have:=zaK h2;omega
theorem zke (n:Nd):1<=n.size:=by cases n;rw[Nd.size];omega
theorem zat:∀(l:List Nd),l.length<=zaB l
 |[]=>Nat.le_refl _
 |x::r=>by
  have:=zat r;have:=zke x;rw[zaB,List.length_cons];omega
end Go.Proofs.YtcebmphappfjjaaGreatDoor
set_option maxHeartbeats 32000000
set_option maxRecDepth 100000
namespace Go.Proofs.YtcebmphappfjjaaGreatDoor
open Go.RowKit
def BasN (n:Nd):Prop:=n.kind=12/\n.n=0/\n.kids=[]/\zbW n.text≠0
def zij (w:World) (o:Option Ty) (e:Ending) (w':World):Prop:=Below w.heap.size w w'/\match o with
 |none=>e=.returned (.tuple #[.agg #[.int .i64 0,.string ⟨#[]⟩,.slice none 0 0],.bool false])
 |some t=>∃A c,e=.returned (.tuple #[.agg #[.int .i64 t.kind,.string t.name,.slice A t.args.length c],.bool true])/\Rd (Bt w.heap.size w'.heap.size) w' (ys t.args) (.slice A t.args.length c)
def zlB (n:Nd):Prop:=∀(A:Option Addr) (c:Nat) (w:World),n.fit=true->n.size<=2097152->Rd (Lt w.heap.size) w (ns n.kids) (.slice A n.kids.length c)->
 Calls Tryz.prog 131 #[.agg #[.int .i64 n.kind,.string n.text,.int .i64 n.n,.int .i64 n.at',.slice A n.kids.length c]] w (zij w (zjC n))
structure RA (kind:Int) (w W:World) (acc:List Ty) (A:Option Addr) (c:Nat):Prop where
 low:Below w.heap.size w W
 res:zab W w.heap.size #[.int .i64 0,.string ⟨#[]⟩,.slice none 0 0] 70
 box:zab W (w.heap.size+1) #[.int .i64 kind,.string ⟨#[]⟩,.slice A acc.length c] 70
 own:zaz (w.heap.size+2) 70 3 acc.length (zan Ty.row acc) W (.slice A acc.length c)
section
variable {kind:Int} {w W W':World} {acc L:List Ty} {A A':Option Addr} {c c':Nat}
theorem RA.below (h:RA kind w W acc A c) (k:Below W.heap.size W W'):RA kind w W' acc A c:=⟨zac h.low k h.low.size,zaa k h.res,zaa k h.box,h.own.below k⟩
theorem RA.lt (h:RA kind w W acc A c):w.heap.size+1<W.heap.size:=h.box.lt
theorem RA.grown (h:RA kind w W acc A c) (hO:zaz (w.heap.size+2) 70 3 L.length (zan Ty.row L) W' (.slice A' L.length c')) (hg:W.grownBy W' (Value.slice A acc.length c).ownBlock) :
 RA kind w (W'.setCell ⟨w.heap.size+1,2,none⟩ (.slice A' L.length c')) L A' c':=by
 have hch:Chg (λk=>w.heap.size+2<=k) W W':=Chg.of_grown hg (λk hk=>(h.own.below_own k hk).1);have hc2:Chg (λq=>q=w.heap.size+1) W' (W'.setCell ⟨w.heap.size+1,2,none⟩ (.slice A' L.length c')):=(Chg.refl (λq=>q=w.heap.size+1) W').setCell (p:=⟨w.heap.size+1,2,none⟩) (.inl rfl) _;have hl:=h.low.trans (hch.below h.low.size (λq hq=>by omega));refine⟨hl.setCell (p:=⟨w.heap.size+1,2,none⟩) (by show w.heap.size<=w.heap.size+1;omega) _,(h.res.keep hch zo).keep hc2 zo,?_,hO.chg hc2 (λj hj=>by omega)⟩;have:=(h.box.keep hch zo).set 2 (.slice A' L.length c')
 simpa using this
end
abbrev nd5 (kd:Int) (tx:ByteArray) (nn at':Int) (l:List Nd) (A:Option Addr) (c:Nat):Value:=.agg #[.int .i64 kd,.string tx,.int .i64 nn,.int .i64 at',.slice A l.length c]
structure StrF (K:FuncId) (q:ByteArray->Bool):Prop where
 cf:∀(x:Value) (W:World),(callFunc K #[x]).run Tryz.prog W=.ok (.enter K #[x]) W
 run:∀(s:ByteArray) (w:World),s.size<=32768->Calls Tryz.prog K #[.string s] w λe w'=>e=.returned (.bool (q s))/\Below w.heap.size w w'
theorem zbq:StrF 171 zaw:=⟨λ_ _=>by kernel_rfl,λs w h=>zek s w h⟩
theorem zbZ:StrF 175 zaH:=⟨λ_ _=>by kernel_rfl,λs w h=>zcN s w h⟩
theorem zmz:StrF 231 zdr:=⟨λ_ _=>by kernel_rfl,λs w h=>zfz s w h⟩
structure BxN (w:World) (kd:Int) (tx:ByteArray) (nn at':Int) (l:List Nd) (A:Option Addr) (c:Nat) (W:World):Prop where
 low:Below w.heap.size w W
 box:zab W w.heap.size #[.int .i64 kd,.string tx,.int .i64 nn,.int .i64 at',.slice A l.length c] 49
 rd:Rd (Lt W.heap.size) W (ns l) (.slice A l.length c)
section
variable {w W W':World} {kd nn at':Int} {tx:ByteArray} {l:List Nd} {A:Option Addr} {c:Nat}
theorem BxN.below (h:BxN w kd tx nn at' l A c W) (k:Below W.heap.size W W'):BxN w kd tx nn at' l A c W':=⟨zac h.low k h.low.size,zaa k h.box,h.rd.belows k⟩
theorem BxN.new (h:Rd (Lt w.heap.size) w (ns l) (.slice A l.length c)):BxN w kd tx nn at' l A c (w.alloc (.cells #[.int .i64 kd,.string tx,.int .i64 nn,.int .i64 at',.slice A l.length c] 49)):=by
 have hb:=(Below.refl w.heap.size w).alloc (Nat.le_refl _) (.cells #[↑kd,↑tx,↑nn,↑at',.slice A l.length c] 49);exact⟨hb,zab.new w _ _,h.belows hb⟩
theorem BxN.c0 (h:BxN w kd tx nn at' l A c W):W.cell? ⟨w.heap.size,0,none⟩=some (.int .i64 kd):=h.box.cell 0
theorem BxN.c1 (h:BxN w kd tx nn at' l A c W):W.cell? ⟨w.heap.size,1,none⟩=some (.string tx):=h.box.cell 1
theorem BxN.c2 (h:BxN w kd tx nn at' l A c W):W.cell? ⟨w.heap.size,2,none⟩=some (.int .i64 nn):=h.box.cell 2
theorem BxN.c3 (h:BxN w kd tx nn at' l A c W):W.cell? ⟨w.heap.size,3,none⟩=some (.int .i64 at'):=h.box.cell 3
theorem BxN.c4 (h:BxN w kd tx nn at' l A c W):W.cell? ⟨w.heap.size,4,none⟩=some (.slice A l.length c):=h.box.cell 4
theorem BxN.cs (h:BxN w kd tx nn at' l A c W):W.cell? ⟨w.heap.size,0,none⟩=some (.int .i64 kd)/\W.cell? ⟨w.heap.size,1,none⟩=some (.string tx)/\W.cell? ⟨w.heap.size,2,none⟩=some (.int .i64 nn)/\W.cell? ⟨w.heap.size,3,none⟩=some (.int .i64 at')/\W.cell? ⟨w.heap.size,4,none⟩=some (.slice A l.length c):=h.box.c5
theorem BxN.yes (B:Hid (BxN w kd tx nn at' l A c W)) {fn:FuncId} {vs:Array Value} {S:Ending->World->Prop} (K:Calls Tryz.prog fn vs W λe w'=>e=.returned (.bool true)/\Below W.heap.size W w')
 (h:∀W',Hid (BxN w kd tx nn at' l A c W')->W'.cell? ⟨w.heap.size,0,none⟩=some (.int .i64 kd)->W'.cell? ⟨w.heap.size,1,none⟩=some (.string tx)->W'.cell? ⟨w.heap.size,2,none⟩=some (.int .i64 nn)->W'.cell? ⟨w.heap.size,3,none⟩=some (.int .i64 at')->W'.cell? ⟨w.heap.size,4,none⟩=some (.slice A l.length c)->S (.returned (.bool true)) W'):Calls Tryz.prog fn vs W S:=K.mono λe w' ⟨he,hb⟩=>by
 subst he;have b:=B.out.below hb;exact h w' (zz b) b.c0 b.c1 b.c2 b.c3 b.c4
theorem BxN.start (h:Rd (Lt w.heap.size) w (ns l) (.slice A l.length c)):∃W,w.alloc (.cells #[.int .i64 kd,.string tx,.int .i64 nn,.int .i64 at',.slice A l.length c] 49)=W/\Hid (BxN w kd tx nn at' l A c W)/\W.cell? ⟨w.heap.size,0,none⟩=some (.int .i64 kd)/\W.cell? ⟨w.heap.size,1,none⟩=some (.string tx)/\W.cell? ⟨w.heap.size,2,none⟩=some (.int .i64 nn)/\W.cell? ⟨w.heap.size,3,none⟩=some (.int .i64 at')/\W.cell? ⟨w.heap.size,4,none⟩=some (.slice A l.length c)/\l.length<=9223372036854775807:=
 have b:=BxN.new (kd:=kd) (tx:=tx) (nn:=nn) (at':=at') h
 ⟨_,rfl,zz b,b.c0,b.c1,b.c2,b.c3,b.c4,Nat.le_trans (zaS h).2.1 (zaS h).2.2⟩
end
theorem zxG (kd at':Int) (l:List Nd) (A:Option Addr) (c:Nat) (w:World) :
 Calls Tryz.prog 125 #[nd5 kd ⟨#[]⟩ 0 at' l A c] w λe w'=>e=.returned (.bool true)/\Below w.heap.size w w':=by
 have hb:=(Below.refl w.heap.size w).alloc (Nat.le_refl _) (.cells #[↑kd,↑zj.a,↑(),↑at',.slice A l.length c] 49);have hx:=zab.new w #[↑kd,↑zj.a,↑(),↑at',.slice A l.length c] 49;obtain⟨w0,hw⟩:∃W,w.alloc (.cells #[↑kd,↑zj.a,↑(),↑at',.slice A l.length c] 49)=W:=⟨_,rfl⟩;rw[hw] at hb hx;have x1:=hx.cell 1;have x2:=hx.cell 2;have HB:=zz hb;clear hb hx;go_in;go_wp2;go_ret;exact⟨rfl,HB.out⟩
theorem zuR {K:FuncId} {q:ByteArray->Bool} (S:StrF K q) {tx:ByteArray} (hq:q tx=true) (kd at':Int) (l:List Nd) (A:Option Addr) (c:Nat) (ht:tx.size<=32768) (w:World) :
 Calls Tryz.prog 170 #[nd5 kd tx 0 at' l A c,.func (.func K) #[] #[]] w λe w'=>e=.returned (.bool true)/\Below w.heap.size w w':=by
 have hb:=(Below.refl w.heap.size w).alloc (Nat.le_refl _) (.cells #[↑kd,↑tx,↑(),↑at',.slice A l.length c] 49);have hx:=zab.new w #[↑kd,↑tx,↑(),↑at',.slice A l.length c] 49;obtain⟨w0,hw⟩:=zn (w.alloc (.cells #[↑kd,↑tx,↑(),↑at',.slice A l.length c] 49));rw[hw] at hb hx;have x1:=hx.a 1 rfl;have hcf:=S.cf;have KS:=S.run tx w0 ht;rw[hq] at KS;have KS:=zz KS;have HB:=zz hb;have HX:=zz hx;clear hb hx hq;go_in;go_wp2_with fail;refine zi KS ?_;rintro e w1 ⟨rfl,hb1⟩;have HB1:=zz (zac HB.out hb1 HB.out.size);have x2:=(zaa hb1 HX.out).a 2 rfl;clear hb1 hw x1;go_wp2;go_ret;exact⟨rfl,HB1.out⟩
theorem zhO {ok:Nat->Prop} {w:World} {l:List Nd} {A:Option Addr} {c k:Nat} (h:Rd ok w (ns l) (.slice A l.length c)) (hk:k<=l.length):Rd ok w (ns (l.take k)) (.slice A (l.take k).length c):=by
 obtain⟨A0,c0,e,h1,h2,h3⟩:=h.sl_inv;injection e with e1 e2 e3;subst e1 e3;have hlen:(l.take k).length=k:=by rw[List.length_take];omega
 refine Rd.sl_mk zo h2 (λhp=>?_);obtain⟨b,off,rfl,hb,hr⟩:=h3 zo;refine⟨b,off,rfl,hb,λi hi=>?_⟩;have:=hr i zo;have hil:i<l.length:=zo
 rw[zgq hil] at this;rw[zgq hi];have hx:l[i]?=some l[i]:=List.getElem?_eq_getElem hil;rw[zas hx] at this;rw[zas (l:=l.take k) (i:=i) (x:=l[i]) (by rw[List.getElem?_take_of_lt zo];exact hx)];exact this
theorem zgl {ok:Nat->Prop} {w:World} {l:List Nd} {A:Option Addr} {c k:Nat} (h:Rd ok w (ns l) (.slice A l.length c)) (hk:k<=l.length) (A':Option Addr) (hA:A'=if c=k then A else A.map (·.add (k*5))):Rd ok w (ns (l.drop k)) (.slice A' (l.drop k).length (c-k)):=by
 obtain⟨A0,c0,e,h1,h2,h3⟩:=h.sl_inv;injection e with e1 e2 e3;subst e1 e3;have hlen:(l.drop k).length=l.length-k:=List.length_drop;refine Rd.sl_mk zo zo (λhp=>?_);obtain⟨b,off,rfl,hb,hr⟩:=h3 zo;refine⟨b,off+k*5,?_,hb,λi hi=>?_⟩
 ·rw[hA,if_neg zo,Option.map_some,Addr.add_lit]
 ·have:=hr (k+i) zo;have hil:k+i<l.length:=zo
  rw[zgq hil] at this;rw[zgq hi];have hx:l[k+i]?=some l[k+i]:=List.getElem?_eq_getElem hil;rw[zas hx] at this;rw[zas (l:=l.drop k) (i:=i) (x:=l[k+i]) (by rw[List.getElem?_drop];exact hx)];rw[show off+k*5+i*5=off+(k+i)*5 by omega];exact this
theorem zxk {K:FuncId} {d:Int} {l:List Nd} {b k m:Nat} (hl:l.length=k+m) (hm3:m<=16) {w:World} (hx:b<w.heap.size) (H:∀y∈l.take k,zvn K d y) (H2:∀(i:Nat) (y:Nd),(l.drop k)[i]?=some y->∃K,w.cell? ⟨b,i,none⟩=some (.func (.func K) #[] #[])/\zvn K d y) (A:Option Addr) (c:Nat) (h:Rd (Lt w.heap.size) w (ns l) (.slice A l.length c)) :
 Calls Tryz.prog 176 #[.slice A l.length c,↑d,.func (.func K) #[] #[],.slice (some ⟨b,0,none⟩) m m] w λe w'=>e=.returned (.bool true)/\Below w.heap.size w w':=by
 have hc:=zaS h;have hk3:IntKind.i64.wrap ((l.length:Int)-(m:Int))=(k:Int):=by rw[IntWalk.i64_in _ zo];omega
 have KA:=zvt H A c w (zhO h zo);rw[show (l.take k).length=k by rw[List.length_take];omega] at KA;have K1:=zz KA;have hkc:k<=c:=zo
 have hkl:k<=l.length:=zo
 have hnk:l.length-k=m:=zo
 have HR:=zz h;have HS:=zz H2;have HX:=zz hx;clear h hl H H2 hx hc KA;go_in;go_wp2_with fail;refine zi K1 ?_;rintro e w1 ⟨rfl,hb1⟩;have HB1:=zz hb1;obtain⟨A',hA'⟩:=zn ((if c=k then A else A.map (λx=>x.add (k*5))));have e1:(l.drop k).length=m:=by rw[List.length_drop];omega
 have KS:=zvL (d:=d) (l:=l.drop k) (b:=b) zo (w:=w1) (Nat.lt_of_lt_of_le HX.out hb1.size) (λi y hy=>by
  obtain⟨K,h1,h2⟩:=HS.out i y hy;exact⟨K,(hb1.cell (p:=⟨b,i,none⟩) HX.out).trans h1,h2⟩) A' (c-k) (zgl (HR.out.belows hb1) hkl A' hA'.symm)
 rw[e1] at KS;have K2:=zz KS;clear hb1 KS e1;go_wp2_with fail;refine zi K2 ?_;rintro e w2 ⟨rfl,hb2⟩;have HB2:=zz (zac HB1.out hb2 HB1.out.size);clear hb2;go_wp2;go_ret;exact⟨rfl,HB2.out⟩
theorem zag (w:World) (o:Obj):Below w.heap.size w (w.alloc o):=(Below.refl w.heap.size w).alloc (Nat.le_refl _) o
theorem zaj (w:World) (cs:Array Value) (t:TypeId):∃W,w.alloc (.cells cs t)=W/\Below w.heap.size w W/\zab W w.heap.size cs t:=⟨_,rfl,zag _ _,zab.new _ _ _⟩
def oneK (g:Nd->Bool):List Nd->Bool
 |[t]=>g t
 |_=>false
theorem zyy {g:Nd->Bool}:∀{l:List Nd},oneK g l=true->∃t,l=[t]/\g t=true
 |[t],h=>⟨t,rfl,h⟩
 |[],h=>by cases h
 |_::_::_,h=>by cases h
def szN (n:Nd):Bool:=decide (n.text.size<=32768)
def gT (n:Nd):Bool:=decide (n.kind=12)&&zdr n.text&&decide (n.n=0)&&n.kids.isEmpty&&szN n
def gF (n:Nd):Bool:=decide (n.kind=7)&&zaH n.text&&decide (n.n=0)&&oneK gT n.kids&&szN n
def gE (n:Nd):Bool:=decide (n.kind=22)&&decide (n.text=⟨#[]⟩)&&decide (n.n=1)&&n.kids.isEmpty
def zyt:List Nd->Bool
 |[x,y,t,e]=>gF x&&gF y&&gT t&&gE e
 |_=>false
theorem zxW:∀{l:List Nd},zyt l=true->∃x y t e,l=[x,y,t,e]/\((gF x=true/\gF y=true)/\gT t=true)/\gE e=true
 |[x,y,t,e],h=>⟨x,y,t,e,rfl,by simpa only[zyt,Bool.and_eq_true] using h⟩
 |[],h=>by cases h
 |[_],h=>by cases h
 |[_,_],h=>by cases h
 |[_,_,_],h=>by cases h
 |_::_::_::_::_::_,h=>by cases h
def gC (n:Nd):Bool:=decide (n.kind=8)&&zaw n.text&&decide (n.n=0)&&n.kids.all gT&&szN n
def gD (n:Nd):Bool:=
 if n.kind=3 then zaw n.text&&decide (n.n=0)&&decide (0<n.kids.length)&&n.kids.all gC&&szN n
 else if n.kind=5 then zaH n.text&&decide (n.n=0)&&zyt n.kids&&szN n
 else decide (n.kind=6)&&zaw n.text&&decide (-1<=n.n)&&decide (n.n<=9007199254740993)&&n.kids.isEmpty&&szN n
theorem zyl {n:Nd} (h:gD n=true):n.kind=3\/n.kind=5\/n.kind=6:=by
 unfold gD at h
 split at h
 ·omega
 ·split at h
  ·omega
  ·simp only[Bool.and_eq_true,decide_eq_true_eq] at h;omega
theorem zxc (at':Int) (l:List Nd) (A:Option Addr) (c:Nat) {w:World} (h:Rd (Lt w.heap.size) w (ns l) (.slice A l.length c)):Calls Tryz.prog 232 #[nd5 22 ⟨#[]⟩ 1 at' l A c] w λe w'=>e=.returned (.bool true)/\Below w.heap.size w w':=by
 obtain⟨w0,hw,B0,x0,x1,x2,x3,x4,hn⟩:=BxN.start (kd:=22) (tx:=⟨#[]⟩) (nn:=1) (at':=at') (l:=l) h;clear h;go_in;go_wp2;go_ret;exact⟨rfl,B0.out.low⟩
theorem zyc {l:List Nd} (h:l.isEmpty=true):((l.length:Int) == 0)=true/\¬(0:Int)<(l.length:Int):=by cases l with|nil=>exact⟨rfl,by simp⟩|cons _ _=>cases h
section
variable {d:Int} (hd0:0<=d)
include hd0
theorem zvR (hd:d<=40) {n:Nd} (h:gT n=true):zvn 177 d n:=by
 obtain⟨kd,tx,nn,at',l⟩:=n;simp only[gT,szN,Bool.and_eq_true,decide_eq_true_eq] at h;obtain⟨⟨⟨⟨rfl,hq⟩,rfl⟩,hl⟩,ht⟩:=h;obtain⟨e1,f1⟩:=zyc (l:=l) hl;refine⟨λ_ _ _=>by kernel_rfl,λA c w h=>?_⟩;obtain⟨w0,hw,B0,x0,x1,x2,x3,x4,hn⟩:=BxN.start (kd:=12) (tx:=tx) (nn:=0) (at':=at') (l:=l) h;have K:=zz (zuR zmz (tx:=tx) hq 12 at' l A c ht w0);have hdm2:¬(40:Int)<d:=zo
 clear h hq hl ht
 show Calls Tryz.prog 177 #[nd5 12 tx 0 at' l A c,↑d] w _
 go_in;go_wp2_with fail;refine BxN.yes B0 K.out ?_;clear B0 x0 x1 x2 x3 x4 hw K;intro w1_ B1_ x0 x1 x2 x3 x4;go_wp2;go_ret;exact⟨rfl,B1_.out.low⟩
theorem zwf (hd:d<=39) {n:Nd} (h:gF n=true):zvn 173 d n:=by
 obtain⟨kd,tx,nn,at',l⟩:=n;simp only[gF,szN,Bool.and_eq_true,decide_eq_true_eq] at h;obtain⟨⟨⟨⟨rfl,hq⟩,rfl⟩,hl⟩,ht⟩:=h;obtain⟨t,he,hl⟩:=zyy (l:=l) hl;have hl1:l.length=1:=by rw[he];rfl
 have hin:l.length<=16:=zo
 refine⟨λ_ _ _=>by kernel_rfl,λA c w h=>?_⟩;obtain⟨w0,hw,B0,x0,x1,x2,x3,x4,hn⟩:=BxN.start (kd:=7) (tx:=tx) (nn:=0) (at':=at') (l:=l) h;have K:=zz (zuR zbZ (tx:=tx) hq 7 at' l A c ht w0);have HL:=zz hl;have HE:=zz he;have HL1:=zz hl1;have hdm2:¬(40:Int)<d:=zo
 have hwd:IntKind.i64.wrap (d+1)=d+1:=IntWalk.i64_in _ zo;have hd1:Hid (0<=d+1/\d+1<=40):=zz zo;clear h hq hl ht hd hd0 he hl1 hin
 show Calls Tryz.prog 173 #[nd5 7 tx 0 at' l A c,↑d] w _
 go_in;go_wp2_with fail;refine BxN.yes B0 K.out ?_;clear B0 x0 x1 x2 x3 x4 hw K;intro w1_ B1_ x0 x1 x2 x3 x4;obtain⟨w2_,hw2_,b2,k2⟩:=zaj w1_ #[.func (.func 177) #[] #[]] 208;have B2_:=zz (B1_.out.below b2)
 have KC0:=zvL (d:=d+1) (l:=l) (b:=w1_.heap.size) (by have:=HL1.out;omega) k2.lt (λi y hy=>match i,hy with
  |0,hy=>⟨_,k2.cell 0,by
   obtain rfl:t=y:=by rw[HE.out] at hy;simpa using hy
   exact zvR hd1.out.1 hd1.out.2 HL.out⟩
  |i+1,hy=>by rw[HE.out] at hy;simp at hy) A c B2_.out.rd
 rw[show Value.slice (some ⟨w1_.heap.size,0,none⟩) l.length l.length=.slice (some ⟨w1_.heap.size,0,none⟩) 1 1 by rw[HL1.out]] at KC0;have KC:=zz KC0;clear B1_ b2 k2 KC0;go_wp2_with fail;refine BxN.yes B2_ KC.out ?_;clear B2_ x0 x1 x2 x3 x4 hw2_ KC;intro w3_ B3_ x0 x1 x2 x3 x4;go_wp2;go_ret;exact⟨rfl,B3_.out.low⟩
theorem zxE (hd:d<=40) {n:Nd} (h:gE n=true):zvn 178 d n:=by
 obtain⟨kd,tx,nn,at',l⟩:=n;simp only[gE,Bool.and_eq_true,decide_eq_true_eq] at h;obtain⟨⟨⟨rfl,htx⟩,rfl⟩,hl⟩:=h;obtain rfl:tx=⟨#[]⟩:=htx;obtain⟨e1,f1⟩:=zyc (l:=l) hl;refine⟨λ_ _ _=>by kernel_rfl,λA c w h=>?_⟩;obtain⟨w0,hw,B0,x0,x1,x2,x3,x4,hn⟩:=BxN.start (kd:=22) (tx:=⟨#[]⟩) (nn:=1) (at':=at') (l:=l) h;have K:=zz (zxc at' l A c B0.out.rd);have hdm2:¬(40:Int)<d:=zo
 clear h hl
 show Calls Tryz.prog 178 #[nd5 22 ⟨#[]⟩ 1 at' l A c,↑d] w _
 go_in;go_wp2_with fail;refine BxN.yes B0 K.out ?_;clear B0 x0 x1 x2 x3 x4 hw K;intro w1_ B1_ x0 x1 x2 x3 x4;go_wp2;go_ret;exact⟨rfl,B1_.out.low⟩
theorem zxO (hd:d<=39) {n:Nd} (h:gC n=true):zvn 174 d n:=by
 obtain⟨kd,tx,nn,at',l⟩:=n;simp only[gC,szN,Bool.and_eq_true,decide_eq_true_eq] at h;obtain⟨⟨⟨⟨rfl,hq⟩,rfl⟩,hl⟩,ht⟩:=h;replace hl:l.all gT=true:=hl;refine⟨λ_ _ _=>by kernel_rfl,λA c w h=>?_⟩;obtain⟨w0,hw,B0,x0,x1,x2,x3,x4,hn⟩:=BxN.start (kd:=8) (tx:=tx) (nn:=0) (at':=at') (l:=l) h;have K:=zz (zuR zbq (tx:=tx) hq 8 at' l A c ht w0);have hdm2:¬(40:Int)<d:=zo
 have hwd:IntKind.i64.wrap (d+1)=d+1:=IntWalk.i64_in _ zo;have HL:Hid (∀y∈l,zvn 177 (d+1) y):=zz λy hy=>zvR zo zo (List.all_eq_true.1 hl y hy);clear h hq hl ht hd hd0
 show Calls Tryz.prog 174 #[nd5 8 tx 0 at' l A c,↑d] w _
 go_in;go_wp2_with fail;refine BxN.yes B0 K.out ?_;clear B0 x0 x1 x2 x3 x4 hw K;intro w1_ B1_ x0 x1 x2 x3 x4;have KC:=zz (zvt HL.out A c w1_ B1_.out.rd);go_wp2_with fail;refine BxN.yes B1_ KC.out ?_;clear B1_ x0 x1 x2 x3 x4 KC;intro w3_ B3_ x0 x1 x2 x3 x4;go_wp2;go_ret;exact⟨rfl,B3_.out.low⟩
end
end Go.Proofs.YtcebmphappfjjaaGreatDoor
