/- Conditions: those in each statement. -/
import Derived.Test.YtjdpocmlimkjjaaGreatQ08
import Derived.Test.YtjdpocmlimkjjaaGreatQ02
import Derived.Test.YtjdpocmlimkjjaaGreatQ06
set_option maxHeartbeats 32000000
set_option maxRecDepth 100000
namespace Go.Proofs.YtjdpocmlimkjjaaGreat
open Go.RowKit
mutual
def Nd.fit:Nd→Bool
 |.mk _ t _ _ l=>decide (t.size≤32768)&&fitL l
def fitL:List Nd→Bool
 |[]=>true
 |n::r=>n.fit&&fitL r
end
theorem zaM:∀{l:List Nd} {n:Nd},fitL l=true→n∈l→n.fit=true
 |[],n,_,h=>by simp at h
 |x::r,n,h,hn=>by
  rw[fitL,Bool.and_eq_true] at h;rcases List.mem_cons.1 hn with rfl|h2
  ·exact h.1
  ·exact zaM h.2 h2
theorem zjR:∀{l:List Nd},(∀n∈l,n.fit=true)→fitL l=true
 |[],_=>rfl
 |x::r,h=>by
  rw[fitL,h x (List.mem_cons_self ..),zjR (λn hn=>h n (List.mem_cons_of_mem _ hn))];rfl
theorem zbe {n:Nd} (h:n.fit=true):n.text.size≤32768:=by
 cases n;rw[Nd.fit,Bool.and_eq_true] at h;exact of_decide_eq_true h.1
theorem zay {n:Nd} (h:n.fit=true):fitL n.kids=true:=by
 cases n;rw[Nd.fit,Bool.and_eq_true] at h;exact h.2
theorem zev {l:List Nd} (h:fitL l=true) (k:Nat):fitL (l.take k)=true:=zjR (λ_ hn=>zaM h (List.mem_of_mem_take hn))
theorem zih {l:List Nd} (h:fitL l=true) (k:Nat):fitL (l.drop k)=true:=zjR (λ_ hn=>zaM h (List.mem_of_mem_drop hn))
def Shp (w:World) (V:Value) (d:Int) (g:Nd→Bool):Prop:=∃(K:FuncId) (cap:Array Value),V=.func (.func K) #[] cap∧
 (∀(x y:Value) (W:World),(callFunc K (#[x,y]++cap)).run Tryz.prog W=.ok (.enter K (#[x,y]++cap)) W)∧
 ∀(n:Nd) (A:Option Addr) (c:Nat) (W:World),Below w.heap.size w W→n.fit=true→Rd (Lt W.heap.size) W (ns n.kids) (.slice A n.kids.length c)→
  Calls Tryz.prog K (#[.agg #[.int .i64 n.kind,.string n.text,.int .i64 n.n,.int .i64 n.at',.slice A n.kids.length c],.int .i64 d]++cap) W λe W'=>e=.returned (.bool (g n))∧Below W.heap.size W W'
theorem Shp.mono {w W:World} {V:Value} {d:Int} {g:Nd→Bool} (h:Shp w V d g) (k:Below w.heap.size w W):Shp W V d g:=by
 obtain⟨K,cap,h1,h2,h3⟩:=h;exact⟨K,cap,h1,h2,λn A c W' hb=>h3 n A c W' (zab k hb k.size)⟩
theorem zct (w:World) (V:Value) (d:Int) (g:Nd→Bool) (S:Shp w V d g) (l:List Nd) (A:Option Addr) (c:Nat) (hf:fitL l=true) (h:Rd (Lt w.heap.size) w (ns l) (.slice A l.length c)) :
 Calls Tryz.prog 85 #[.slice A l.length c,.int .i64 d,V] w λe w'=>e=.returned (.bool (l.all g))∧Below w.heap.size w w':=by
 obtain⟨K,cap,rfl,hcf,H3⟩:=S;have HR:=zz h;have HK:=zz H3;have HF:=zz hf;have hl:=zaD h;have hn:l.length≤9223372036854775807:=Nat.le_trans hl.2.1 hl.2.2;obtain⟨r,hr⟩:∃r,l.all g=r:=⟨_,rfl⟩;rw[hr];have HA0:=zz hr;have HB0:Hid (Below w.heap.size w w):=zz (Below.refl _ _);clear h hl hr hf H3;go_enter Tryz.func85,Tryz.ntmps85;go_wp2_with fail
 go_loopw [11] (λs wr=>∃i:Nat,i≤l.length∧s=.int .i64 i∧Hid ((l.drop i).all g=r)∧Hid (Below w.heap.size w wr)) (λs _=>l.length-(intOf s).toNat)
 case atStart=>exact⟨0,by omega,rfl,HA0,HB0⟩
 case round=>
  clear HA0 HB0;obtain⟨i,hi,rfl,HA,HB⟩:=hrel;have sB:=HB.out.size
  by_cases hlt:i<l.length
  ·obtain⟨b,off,y,e,hlb,hget,A',c',p0,p1,p2,p3,p4,r5⟩:=zbN (HR.out.belows HB.out) hlt;subst e;have q:=HA.out;rw[zak hget,List.all_cons] at q;have hin:(i:Int)<l.length:=by omega
   have hb1:=(Below.refl wr.heap.size wr).alloc (Nat.le_refl _) (.cells #[.int .i64 y.kind,.string y.text,.int .i64 y.n,.int .i64 y.at',.slice A' y.kids.length c'] 25);have hx1:=zac.new wr #[.int .i64 y.kind,.string y.text,.int .i64 y.n,.int .i64 y.at',.slice A' y.kids.length c'] 25;obtain⟨w1,hw1⟩:∃W,wr.alloc (.cells #[.int .i64 y.kind,.string y.text,.int .i64 y.n,.int .i64 y.at',.slice A' y.kids.length c'] 25)=W:=⟨_,rfl⟩;rw[hw1] at hb1 hx1;obtain⟨q0,q1,q2,q3,q4⟩:=hx1.c5;have HB1:=zz (HB.out.trans (hb1.mono sB));have KY:=zz (HK.out y A' c' w1 HB1.out (zaM HF.out (List.mem_of_getElem? hget)) (r5.belows hb1));have s1:=hb1.size;cases hg:g y with
   |false=>
    rw[hg] at KY q;have HQ:Hid (false=r):=zz q;clear HR r5 hb1 hx1 HA hget q hg HK;go_wp2_with fail;(with_reducible refine KY.out.mono ?_);rintro e w2 ⟨rfl,hb2⟩;have HB2:=zz (HB1.out.trans (hb2.mono (by omega)));clear hb2 q0 q1 q2 q3 q4 hw1;go_wp2_with fail;go_ret;exact⟨by rw[←HQ.out];rfl,HB2.out⟩
   |true=>
    rw[hg] at KY q;have HA2:Hid ((l.drop (i+1)).all g=r):=zz q;clear r5 hb1 hx1 HA hget q hg;go_wp2_with fail;(with_reducible refine KY.out.mono ?_);rintro e w2 ⟨rfl,hb2⟩;have HB2:=zz (HB1.out.trans (hb2.mono (by omega)));clear hb2 q0 q1 q2 q3 q4 hw1;go_wp2_with fail;exact⟨⟨i+1,by omega,by go_num,HA2,HB2⟩,by simp[intOf];omega⟩
  ·have HQ:Hid (true=r):=zz (by have q:=HA.out;rw[List.drop_eq_nil_of_le (by omega)] at q;exact q);go_wp2_with fail;go_ret;exact⟨by rw[←HQ.out];rfl,HB.out⟩
structure FsAt (w:World) (d:Int) (gs:List (Nd→Bool)) (b:Nat) (vs:List Value):Prop where
 len:vs.length=gs.length
 box:zac w b vs.toArray 150
 shp:∀(i:Nat) (V:Value) (g:Nd→Bool),vs[i]?=some V→gs[i]?=some g→Shp w V d g
theorem zil:∀{l:List Nd} {gs:List (Nd→Bool)},l.length≠gs.length→zaA l gs=false
 |[],[],h=>absurd rfl h
 |[],_::_,_=>rfl
 |_::_,[],_=>rfl
 |n::l,g::gs,h=>by rw[zaA,zil (by simpa using h),Bool.and_false]
theorem zkV {l:List Nd} {gs:List (Nd→Bool)} {i:Nat} {y:Nd} {g:Nd→Bool} (h1:l[i]?=some y) (h2:gs[i]?=some g):zaA (l.drop i) (gs.drop i)=(g y&&zaA (l.drop (i+1)) (gs.drop (i+1))):=by
 rw[zak h1,zak h2,zaA]
theorem zaW (w:World) (d:Int) (gs:List (Nd→Bool)) (b:Nat) (vs:List Value) (S:FsAt w d gs b vs) (m:Nat) (hm:m=gs.length) (hm3:m≤16) (l:List Nd) (A:Option Addr) (c:Nat) (hf:fitL l=true) (h:Rd (Lt w.heap.size) w (ns l) (.slice A l.length c)) :
 Calls Tryz.prog 125 #[.slice A l.length c,.int .i64 d,.slice (some ⟨b,0,none⟩) m m] w λe w'=>e=.returned (.bool (zaA l gs))∧Below w.heap.size w w':=by
 have HR:=zz h;have HF:=zz hf;have HS:=zz S;have hl:=zaD h;have hn:l.length≤9223372036854775807:=Nat.le_trans hl.2.1 hl.2.2;obtain⟨r,hr⟩:∃r,zaA l gs=r:=⟨_,rfl⟩;rw[hr];have HA0:=zz hr;have HM:=zz hm;have HB0:Hid (Below w.heap.size w w):=zz (Below.refl _ _);clear h hl hf S
 by_cases hne:l.length=m
 ·have hne1:((l.length:Int) != (m:Int))=false:=by simp[hne]
  have hne2:((l.length:Int) == (m:Int))=true:=by simp[hne]
  have HL:=zz hne;clear hr hne hm;go_enter Tryz.func125,Tryz.ntmps125;go_wp2_with fail
  go_loopw [16] (λs wr=>∃i:Nat,i≤m∧s=.int .i64 i∧Hid (zaA (l.drop i) (gs.drop i)=r)∧Hid (Below w.heap.size w wr)) (λs _=>m-(intOf s).toNat)
  case atStart=>exact⟨0,by omega,rfl,HA0,HB0⟩
  case round=>
   clear HA0 HB0;obtain⟨i,hi,rfl,HA,HB⟩:=hrel;have sB:=HB.out.size
   by_cases hlt:i<m
   ·have hll:i<l.length:=by rw[HL.out];exact hlt
    have hgl:i<gs.length:=by rw[←HM.out];exact hlt
    have hvl:i<vs.length:=by rw[HS.out.len];exact hgl
    obtain⟨b',off,y,e,hlb,hget,A',c',p0,p1,p2,p3,p4,r5⟩:=zbN (HR.out.belows HB.out) hll;subst e;have hgg:gs[i]?=some gs[i]:=List.getElem?_eq_getElem hgl;have hvv:vs[i]?=some vs[i]:=List.getElem?_eq_getElem hvl;have SH:=HS.out.shp i _ _ hvv hgg
    have hbox:wr.cell? ⟨b,i,none⟩=some vs[i]:=by
     have:=(zaa HB.out HS.out.box).cell i;rw[this];simp
    have q:=HA.out;rw[zkV hget hgg] at q;obtain⟨g,hg0⟩:∃g,gs[i]=g:=⟨_,rfl⟩;obtain⟨V,hV0⟩:∃V,vs[i]=V:=⟨_,rfl⟩;rw[hg0] at q SH;rw[hV0] at hbox SH;obtain⟨K,cap,rfl,hcf,H3⟩:=SH;have hin:(i:Int)<(m:Int):=by omega
    have hinl:(i:Int)<(l.length:Int):=by omega
    have KY:=zz (H3 y A' c' wr HB.out (zaM HF.out (List.mem_of_getElem? hget)) r5);cases hg:g y with
    |false=>
     rw[hg] at KY q;have HQ:Hid (false=r):=zz q;clear HR r5 HA hget q hg H3 HS hgg hvv hg0 hV0;go_wp2_with fail;(with_reducible refine KY.out.mono ?_);rintro e w2 ⟨rfl,hb2⟩;have HB2:=zz (HB.out.trans (hb2.mono (by omega)));clear hb2;go_wp2_with fail;go_ret;exact⟨by rw[←HQ.out];rfl,HB2.out⟩
    |true=>
     rw[hg] at KY q;have HA2:Hid (zaA (l.drop (i+1)) (gs.drop (i+1))=r):=zz q;clear r5 HA hget q hg H3 hgg hvv hg0 hV0;go_wp2_with fail;(with_reducible refine KY.out.mono ?_);rintro e w2 ⟨rfl,hb2⟩;have HB2:=zz (HB.out.trans (hb2.mono (by omega)));clear hb2;go_wp2_with fail;exact⟨⟨i+1,by omega,by go_num,HA2,HB2⟩,by simp[intOf];omega⟩
   ·have HQ:Hid (true=r):=zz (by
     have q:=HA.out;have h1:=HL.out;have h2:=HM.out;rw[List.drop_eq_nil_of_le (by omega),List.drop_eq_nil_of_le (by omega)] at q;exact q)
    go_wp2_with fail;go_ret;exact⟨by rw[←HQ.out];rfl,HB.out⟩
 ·have hne1:((l.length:Int) != (m:Int))=true:=by simp;omega
  have hne2:((l.length:Int) == (m:Int))=false:=by simp;omega
  have HQ:Hid (false=r):=zz (by rw[←hr];exact(zil (by omega)).symm);clear hr hne hm;go_enter Tryz.func125,Tryz.ntmps125;go_wp2_with fail;go_ret;exact⟨by rw[←HQ.out];rfl,HB0.out⟩
end Go.Proofs.YtjdpocmlimkjjaaGreat
set_option maxHeartbeats 32000000
set_option maxRecDepth 100000
namespace Go.Proofs.YtjdpocmlimkjjaaGreat
mutual
def Nd.size:Nd→Nat
 |.mk _ _ _ _ l=>1+zaq l
def zaq:List Nd→Nat
 |[]=>0
 |n::r=>n.size+zaq r
end
theorem zaE (k:Int) (t:ByteArray) (n a:Int) (l:List Nd):(Nd.mk k t n a l).size=1+zaq l:=by rw[Nd.size]
theorem zaI:zaq []=0:=by rw[zaq]
theorem zat (n:Nd) (r:List Nd):zaq (n::r)=n.size+zaq r:=by rw[zaq]
theorem zaj:∀(l m:List Nd),zaq (l++m)=zaq l+zaq m
 |[],m=>by rw[List.nil_append,zaq,Nat.zero_add]
 |x::r,m=>by rw[List.cons_append,zaq,zaq,zaj r m,Nat.add_assoc]
theorem zaY:∀{l:List Nd} {n:Nd},n∈l→n.size≤zaq l
 |[],n,h=>by simp at h
 |x::r,n,h=>by
  rw[zaq];rcases List.mem_cons.1 h with rfl|h2
  ·omega
  ·have:=zaY h2;omega
theorem zjI (n:Nd):1≤n.size:=by cases n;rw[Nd.size];omega
theorem zaB:∀(l:List Nd),l.length≤zaq l
 |[]=>Nat.le_refl _
 |x::r=>by
  have:=zaB r;have:=zjI x;rw[zaq,List.length_cons];omega
end Go.Proofs.YtjdpocmlimkjjaaGreat
set_option maxHeartbeats 32000000
set_option maxRecDepth 100000
namespace Go.Proofs.YtjdpocmlimkjjaaGreat
open Go.RowKit
def ziu (w:World) (o:Option Ty) (e:Ending) (w':World):Prop:=Below w.heap.size w w'∧match o with
 |none=>e=.returned (.tuple #[.agg #[.int .i64 0,.string ⟨#[]⟩,.slice none 0 0],.bool false])
 |some t=>∃A c,e=.returned (.tuple #[.agg #[.int .i64 t.kind,.string t.name,.slice A t.args.length c],.bool true])∧Rd (Bt w.heap.size w'.heap.size) w' (ys t.args) (.slice A t.args.length c)
def zlo (n:Nd):Prop:=∀(A:Option Addr) (c:Nat) (w:World),n.fit=true→n.size≤2097152→Rd (Lt w.heap.size) w (ns n.kids) (.slice A n.kids.length c)→
 Calls Tryz.prog 25 #[.agg #[.int .i64 n.kind,.string n.text,.int .i64 n.n,.int .i64 n.at',.slice A n.kids.length c]] w (ziu w (zfp n))
structure RA (kind:Int) (w W:World) (acc:List Ty) (A:Option Addr) (c:Nat):Prop where
 low:Below w.heap.size w W
 res:zac W w.heap.size #[.int .i64 0,.string ⟨#[]⟩,.slice none 0 0] 55
 box:zac W (w.heap.size+1) #[.int .i64 kind,.string ⟨#[]⟩,.slice A acc.length c] 55
 own:zaK (w.heap.size+2) 55 3 acc.length (zap Ty.row acc) W (.slice A acc.length c)
section
variable {kind:Int} {w W W':World} {acc L:List Ty} {A A':Option Addr} {c c':Nat}
theorem RA.below (h:RA kind w W acc A c) (k:Below W.heap.size W W'):RA kind w W' acc A c:=⟨zab h.low k h.low.size,zaa k h.res,zaa k h.box,h.own.below k⟩
theorem RA.lt (h:RA kind w W acc A c):w.heap.size+1<W.heap.size:=h.box.lt
theorem RA.grown (h:RA kind w W acc A c) (hO:zaK (w.heap.size+2) 55 3 L.length (zap Ty.row L) W' (.slice A' L.length c')) (hg:W.grownBy W' (Value.slice A acc.length c).ownBlock) :
 RA kind w (W'.setCell ⟨w.heap.size+1,2,none⟩ (.slice A' L.length c')) L A' c':=by
 have hch:Chg (λk=>w.heap.size+2≤k) W W':=Chg.of_grown hg (λk hk=>(h.own.below_own k hk).1);have hc2:Chg (λq=>q=w.heap.size+1) W' (W'.setCell ⟨w.heap.size+1,2,none⟩ (.slice A' L.length c')):=(Chg.refl (λq=>q=w.heap.size+1) W').setCell (p:=⟨w.heap.size+1,2,none⟩) (.inl rfl) _;have hl:=h.low.trans (hch.below h.low.size (λq hq=>by omega));refine⟨hl.setCell (p:=⟨w.heap.size+1,2,none⟩) (by show w.heap.size≤w.heap.size+1;omega) _,(h.res.keep hch (by omega)).keep hc2 (by omega),?_,hO.chg hc2 (λj hj=>by omega)⟩;have:=(h.box.keep hch (by omega)).set 2 (.slice A' L.length c')
 simpa using this
end
theorem znw (kind:Int) (l:List Nd) (IH:∀n∈l,zlo n) (A:Option Addr) (c:Nat) (w:World) (hf:fitL l=true) (hs:zaq l≤2097152) (h:Rd (Lt w.heap.size) w (ns l) (.slice A l.length c)) :
 Calls Tryz.prog 50 #[.int .i64 kind,.slice A l.length c] w (ziu w ((zer l).map (Ty.mk kind ⟨#[]⟩))):=by
 obtain⟨r,hr⟩:∃r,(zer l).map (Ty.mk kind ⟨#[]⟩)=r:=⟨_,rfl⟩;rw[hr];have HR:=zz h;have HF:=zz hf;have HI:=zz IH;have hl:=zaD h;have hn:l.length≤2097152:=Nat.le_trans (zaB l) hs;have b1:=(Below.refl w.heap.size w).alloc (Nat.le_refl _) (.cells #[.int .i64 0,.string ⟨#[]⟩,.slice none 0 0] 55);have c1:=zac.new w #[.int .i64 0,.string ⟨#[]⟩,.slice none 0 0] 55;obtain⟨w1,h1⟩:∃W,w.alloc (.cells #[.int .i64 0,.string ⟨#[]⟩,.slice none 0 0] 55)=W:=⟨_,rfl⟩;have s1:w1.heap.size=w.heap.size+1:=by rw[←h1];simp
 rw[h1] at b1 c1;have b2:=(Below.refl w1.heap.size w1).alloc (Nat.le_refl _) (.cells #[.int .i64 kind,.string ⟨#[]⟩,.slice none 0 0] 55);have c2:=zac.new w1 #[.int .i64 kind,.string ⟨#[]⟩,.slice none 0 0] 55;obtain⟨w2,h2⟩:∃W,w1.alloc (.cells #[.int .i64 kind,.string ⟨#[]⟩,.slice none 0 0] 55)=W:=⟨_,rfl⟩;rw[h2] at b2 c2;rw[s1] at c2;have Z0:Hid (RA kind w w2 [] none 0):=zz ⟨zab b1 b2 b1.size,zaa b2 c1,c2,zaK.nil _ _ _ _ _⟩;have HA0:Hid ((zer (l.drop 0)).map (λts=>Ty.mk kind ⟨#[]⟩ ([]++ts))=r):=zz hr;have HW:Hid ((w.alloc (.cells #[.int .i64 0,.string ⟨#[]⟩,.slice none 0 0] 55)).alloc (.cells #[.int .i64 kind,.string ⟨#[]⟩,.slice none 0 0] 55)=w2):=zz (by rw[h1,h2]);clear h hf IH hl b1 c1 b2 c2 hr h1 h2 s1;go_enter Tryz.func50,Tryz.ntmps50;go_wp2_with fail;rw[HW.out];clear HW
 go_loopw [15] (λs15 wr=>∃(i:Nat) (acc:List Ty) (A':Option Addr) (c':Nat),i≤l.length∧acc.length≤i∧s15=.int .i64 i∧Hid ((zer (l.drop i)).map (λts=>Ty.mk kind ⟨#[]⟩ (acc++ts))=r)∧Hid (RA kind w wr acc A' c')) (λs15 _=>l.length-(intOf s15).toNat)
 case atStart=>exact⟨0,[],none,0,by omega,by simp,rfl,HA0,Z0⟩
 case round=>
  clear HA0 Z0;obtain⟨i,acc,A1,c1,hi,hal,rfl,HA,HB⟩:=hrel
  by_cases hlt:i<l.length
  ·obtain⟨b,off,y,e,_,hget,A',c',p0,p1,p2,p3,p4,r5⟩:=zbN (HR.out.belows HB.out.low) hlt;subst e;have q:=HA.out;rw[zak hget,zer] at q;have hin:(i:Int)<l.length:=by omega
   have hb1:=(Below.refl wr.heap.size wr).alloc (Nat.le_refl _) (.cells #[.int .i64 y.kind,.string y.text,.int .i64 y.n,.int .i64 y.at',.slice A' y.kids.length c'] 25);have hx1:=zac.new wr #[.int .i64 y.kind,.string y.text,.int .i64 y.n,.int .i64 y.at',.slice A' y.kids.length c'] 25;obtain⟨w3,hw3⟩:∃W,wr.alloc (.cells #[.int .i64 y.kind,.string y.text,.int .i64 y.n,.int .i64 y.at',.slice A' y.kids.length c'] 25)=W:=⟨_,rfl⟩;rw[hw3] at hb1 hx1;obtain⟨q0,q1,q2,q3,q4⟩:=hx1.c5;have Z3:=zz (HB.out.below hb1);have KY:=zz (HI.out y (List.mem_of_getElem? hget) A' c' w3 (zaM HF.out (List.mem_of_getElem? hget)) (Nat.le_trans (zaY (List.mem_of_getElem? hget)) hs) (r5.belows hb1));clear HI r5 hb1 hx1 HA hget;cases hy:zfp y with
   |none=>
    rw[hy] at KY q;have HQ:Hid (none=r):=zz q;clear q hy;go_wp2_with fail;(with_reducible refine KY.out.mono ?_);rintro e w4 ⟨hb4,rfl⟩;have Z4:=zz (Z3.out.below hb4);clear hb4 q0 q1 q2 q3 q4 hw3 Z3 HB;have Z5:=zz (Z4.out.below ((Below.refl w4.heap.size w4).alloc (Nat.le_refl _) (.cells #[.int .i64 0,.string ⟨#[]⟩,.slice none 0 0] 55)));have x0:(w4.alloc (.cells #[.int .i64 0,.string ⟨#[]⟩,.slice none 0 0] 55)).cell? ⟨w.heap.size,0,none⟩=some (.int .i64 0):=Z5.out.res.cell 0;have x1:(w4.alloc (.cells #[.int .i64 0,.string ⟨#[]⟩,.slice none 0 0] 55)).cell? ⟨w.heap.size,1,none⟩=some (.string ⟨#[]⟩):=Z5.out.res.cell 1;have x2:(w4.alloc (.cells #[.int .i64 0,.string ⟨#[]⟩,.slice none 0 0] 55)).cell? ⟨w.heap.size,2,none⟩=some (.slice none 0 0):=Z5.out.res.cell 2;have z:=Z5.out.res.fz;clear Z4;go_wp2_with fail;refine bodyPost_ret (zah (q:=5) (by rfl) _ _ w.heap.size _ _ (0,0) _ rfl (zdY _ _ _ Z5.out.res) Tryz.underlying55 rfl ziB) rfl ⟨?_,?_⟩
    ·exact Z5.out.low.trans ((zcQ _ _ _ _ _).below Z5.out.low.size (λq hq=>by omega))
    ·rw[←HQ.out]
     rfl
   |some t=>
    rw[hy] at KY q
    have HQ:Hid ((zer (l.drop (i+1))).map (λts=>Ty.mk kind ⟨#[]⟩ ((acc++[t])++ts))=r):=zz (by
     rw[←q];cases zer (l.drop (i+1)) with
     |none=>rfl
     |some ts=>simp)
    clear q hy;go_wp2_with fail;(with_reducible refine KY.out.mono ?_);rintro e w4 ⟨hb4,A2,c2,rfl,hr4⟩;have hs34:=hb4.size;have Z4:=zz (Z3.out.below hb4);have hob:Hid (∀g,(Value.slice A1 acc.length c1).ownBlock=some g→g<w3.heap.size):=zz (λg hg=>(Z3.out.own.below_own g hg).2);have hz3:=Z3.out.lt;have R4:=zz hr4;clear hb4 hr4 q0 q1 q2 q3 q4 hw3 Z3 HB;have ba:=(Below.refl w4.heap.size w4).alloc (Nat.le_refl _) (.cells #[.int .i64 t.kind,.string t.name,.slice A2 t.args.length c2] 55);have bb:=(Below.refl (w4.alloc (.cells #[.int .i64 t.kind,.string t.name,.slice A2 t.args.length c2] 55)).heap.size (w4.alloc (.cells #[.int .i64 t.kind,.string t.name,.slice A2 t.args.length c2] 55))).alloc (Nat.le_refl _) (.cells #[.int .i64 t.kind,.string t.name,.slice A2 t.args.length c2] 55);have Z5:=zz (Z4.out.below ba);have Z6:=zz (Z5.out.below bb);have R6:=zz (zaQ bb (zaQ ba R4.out));have y2:(w4.alloc (.cells #[.int .i64 t.kind,.string t.name,.slice A2 t.args.length c2] 55)).cell? ⟨w.heap.size+1,2,none⟩=some (.slice A1 acc.length c1):=Z5.out.box.cell 2;have O6:=zz Z6.out.own;clear ba bb Z4 R4;go_wp2_with (at_builtin;refine zbp Ty.row zrW Tryz.underlying53 rfl (by omega) (by omega) rfl _ _ rfl (w.heap.size+2) ?cx1 (.slice A1 acc.length c1) acc rfl O6.out ⟨w4.heap.size+1,0,none⟩ 1 t (zkZ t A2 c2) rfl rfl ?cx2 ?cx3 ?cx4 ?_)
    case cx1=>simp;omega
    case cx2=>exact znc _ (by simp) _ _ _
    case cx3=>exact zrr R6.out (by omega) (λg hg=>Nat.lt_of_lt_of_le (hob.out g hg) (Nat.le_refl _))
    case cx4=>omega
    intro v' w8 hO hg _;replace hO:zaK (w.heap.size+2) 55 3 (acc++[t]).length (zap Ty.row (acc++[t])) w8 v':=by rw[List.length_append];exact hO
    obtain⟨L,hL⟩:∃L,acc++[t]=L:=⟨_,rfl⟩;rw[hL] at hO;have q:=HQ.out;rw[hL] at q;have HQ2:=zz q;have hL2:L.length≤acc.length+1:=by rw[←hL];simp
    obtain⟨A8,c8,rfl,_⟩:=hO.rd.sl_inv;have hch:Chg (λk=>w.heap.size+2≤k) _ w8:=Chg.of_grown hg (λk hk=>(Z6.out.own.below_own k hk).1);have hbx:=Z6.out.box.keep hch (by omega);have Z8:=zz (Z6.out.grown hO hg);have y8:w8.cell? ⟨w.heap.size+1,2,none⟩=some (.slice A1 acc.length c1):=hbx.cell 2;have z8:=hbx.fz;clear hO hg hch hbx hL q HQ Z5 Z6 R6 O6 y2;go_wp2_with fail;exact⟨⟨i+1,L,A8,c8,by omega,by omega,by go_num,HQ2,Z8⟩,by simp[intOf];omega⟩
  ·have HQ:Hid (some (Ty.mk kind ⟨#[]⟩ acc)=r):=zz (by
    have q:=HA.out;rw[List.drop_eq_nil_of_le (by omega),zer] at q;rw[←q];simp)
   have x0:wr.cell? ⟨w.heap.size,0,none⟩=some (.int .i64 0):=HB.out.res.cell 0;have x1:wr.cell? ⟨w.heap.size,1,none⟩=some (.string ⟨#[]⟩):=HB.out.res.cell 1;have x2:wr.cell? ⟨w.heap.size,2,none⟩=some (.slice none 0 0):=HB.out.res.cell 2;have z:=HB.out.res.fz;have y0:wr.cell? ⟨w.heap.size+1,0,none⟩=some (.int .i64 kind):=HB.out.box.cell 0;have y1:wr.cell? ⟨w.heap.size+1,1,none⟩=some (.string ⟨#[]⟩):=HB.out.box.cell 1;have y2:wr.cell? ⟨w.heap.size+1,2,none⟩=some (.slice A1 acc.length c1):=HB.out.box.cell 2;clear HA;go_wp2_with fail;refine bodyPost_ret (zah (q:=5) (by rfl) _ _ w.heap.size _ _ (0,0) _ rfl (zdY _ _ _ HB.out.res) Tryz.underlying55 rfl ziB) rfl ⟨?_,?_⟩
   ·exact HB.out.low.trans ((zcQ _ _ _ _ _).below HB.out.low.size (λq hq=>by omega))
   ·rw[←HQ.out];refine⟨A1,c1,rfl,?_⟩;have hc:=zcQ wr w.heap.size (.int .i64 kind) (.string ⟨#[]⟩) (.slice A1 acc.length c1);exact(zrg (HB.out.own.chg hc (λj hj=>by omega)).rd).weaken (λq hq=>⟨by have:=hq.1;omega,hq.2⟩)
end Go.Proofs.YtjdpocmlimkjjaaGreat
