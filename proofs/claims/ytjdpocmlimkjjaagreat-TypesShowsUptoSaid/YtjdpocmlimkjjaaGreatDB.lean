/- Conditions: those in each statement. -/
import Derived.Test.YtjdpocmlimkjjaaGreatDA
import Derived.Test.YtjdpocmlimkjjaaGreatQ02
import Derived.Test.YtjdpocmlimkjjaaGreatQ09
import Derived.Test.YtjdpocmlimkjjaaGreatQ28
set_option maxHeartbeats 32000000
set_option maxRecDepth 100000
namespace Go.Proofs.YtjdpocmlimkjjaaGreat
open Go.RowKit
def yco (k:Int) (t:ByteArray) (L:List Ty):Ty:=
 if k=12 then (if zbr t≠0 then .mk (zbr t) ⟨#[]⟩ L else .mk 6 t L)
 else if k=14 then .mk 7 t L else if k=13 then .mk 5 ⟨#[]⟩ L else if k=15 then .mk 8 ⟨#[]⟩ L else .mk 0 ⟨#[]⟩ L
def ycp (k:Int) (t:ByteArray) (n:Int) (o:Option (List Ty)):Option Ty:=match o with
 |none=>none
 |some L=>if n=0∧(k=12∨k=14∨t=⟨#[]⟩)∧zbJ (yco k t L)=true then some (yco k t L) else none
theorem ycq (k:Int) (t:ByteArray) (n:Int) (L:List Ty):ycp k t n (some L)=if n=0∧(k=12∨k=14∨t=⟨#[]⟩)∧zbJ (yco k t L)=true then some (yco k t L) else none:=rfl
theorem ycr (t:ByteArray) (L:List Ty):yco 14 t L=.mk 7 t L:=rfl
theorem ycs (t:ByteArray) (L:List Ty):yco 13 t L=.mk 5 ⟨#[]⟩ L:=rfl
theorem yct (t:ByteArray) (L:List Ty):yco 15 t L=.mk 8 ⟨#[]⟩ L:=rfl
theorem ycu (n:ByteArray) (a:List Ty):ybs 7 n a=(zaw n&&a.isEmpty):=by unfold ybs;rw[if_neg (by decide),if_pos (.inr rfl)]
theorem ycv (n:ByteArray) (a:List Ty):ybs 5 n a=(decide (n=⟨#[]⟩)&&decide (a.length=1)):=by unfold ybs;rw[if_neg (by decide),if_neg (by decide),if_pos rfl]
theorem ycw (n:ByteArray) (a:List Ty):ybs 8 n a=(decide (n=⟨#[]⟩)&&!a.isEmpty):=by unfold ybs;rw[if_neg (by decide),if_neg (by decide),if_neg (by decide),if_pos rfl]
theorem ycx:zer []=some []:=by rw[zer]
theorem ycy (n:Nd) (r:List Nd):zer (n::r)=match zfp n with|none=>none|some t=>match zer r with|none=>none|some l=>some (t::l):=by rw[zer];rfl
theorem ycz (t:ByteArray):zbr t=0∨zbr t=1∨zbr t=2∨zbr t=3∨zbr t=4:=by
 unfold zbr
 split
 ·simp
 ·split
  ·simp
  ·split
   ·simp
   ·split<;>simp
theorem yda:∀{l:List Nd} {L:List Ty},(∀x∈l,∀t,zfp x=some t→zbJ t=true)→zer l=some L→zbZ L=true∧L.length=l.length
 |[],L,_,h=>by rw[ycx] at h;injection h with h;subst h;exact⟨zis,rfl⟩
 |x::r,L,IH,h=>by
  rw[ycy] at h;cases h1:zfp x with
  |none=>rw[h1] at h;cases h
  |some t=>
   rw[h1] at h;simp only at h;cases h2:zer r with
   |none=>rw[h2] at h;cases h
   |some q=>
    rw[h2] at h;injection h with h;subst h;obtain⟨g1,g2⟩:=yda (λy hy=>IH y (List.mem_cons_of_mem _ hy)) h2;exact⟨by rw[zfv,IH x (List.mem_cons_self ..) t h1,g1];rfl,by rw[List.length_cons,List.length_cons,g2]⟩
theorem ydb (k:Int) (t:ByteArray) (n a:Int) (l:List Nd) (IH:∀x∈l,∀t,zfp x=some t→zbJ t=true):zfp (.mk k t n a l)=ycp k t n (zer l):=by
 have hlen:∀L,zer l=some L→L.length=l.length:=λL h=>(yda IH h).2;have hfm:∀L,zer l=some L→zbZ L=true:=λL h=>(yda IH h).1;have hnil:l.length=0→zer l=some []:=λh=>by rw[List.eq_nil_of_length_eq_zero h,ycx]
 have hemp:∀L,zer l=some L→L.isEmpty=decide (l.length=0):=λL h=>by
  rw[←hlen L h];cases L<;>simp
 rw[zfp]
 by_cases hn:n=0
 ·subst hn;rw[if_neg (by simp)]
  by_cases h12:k=12
  ·subst h12;rw[if_pos rfl]
   by_cases hl:l.length=0
   ·rw[hnil hl];unfold ycp yco;simp only[if_pos]
    by_cases hb:zbr t≠0
    ·rw[if_pos ⟨hb,hl⟩,if_pos hb,if_pos ⟨trivial,.inl trivial,by rw[ybt];unfold ybs;rw[if_pos (by have:=ycz t;omega)];simp[zis]⟩]
    ·rw[if_neg (λe=>hb e.1),if_neg hb]
     by_cases hu:zaw t=true
     ·rw[if_pos ⟨hu,hl⟩,if_pos ⟨trivial,.inl trivial,by rw[ybt];unfold ybs;rw[if_neg (by decide),if_pos (.inl rfl),hu,zis];rfl⟩]
     ·rw[if_neg (λe=>hu e.1),if_neg (λe=>hu (by have q:=e.2.2;rw[ybt] at q;unfold ybs at q;rw[if_neg (by decide),if_pos (.inl rfl)] at q;simp only[Bool.and_eq_true] at q;exact q.1.1))]
   ·rw[if_neg (λe=>hl e.2),if_neg (λe=>hl e.2)];cases hr:zer l with
    |none=>rfl
    |some L=>
     have he:L.isEmpty=false:=by rw[hemp L hr];exact decide_eq_false hl
     unfold ycp yco;simp only[if_pos];rw[if_neg];rintro⟨_,_,q⟩
     by_cases hb:zbr t≠0
     ·rw[if_pos hb,ybt] at q;unfold ybs at q;rw[if_pos (by have:=ycz t;omega),he] at q;simp at q
     ·rw[if_neg hb,ybt] at q;unfold ybs at q;rw[if_neg (by decide),if_pos (.inl rfl),he] at q;simp at q
  ·rw[if_neg h12]
   by_cases h14:k=14
   ·subst h14;rw[if_pos rfl];cases hr:zer l with
    |none=>
     have hl:¬l.length=0:=λe=>by rw[hnil e] at hr;cases hr
     rw[if_neg (λe=>hl e.2)]
     rfl
    |some L=>
     rw[ycq,ycr,ybt];rw[ycu,hemp L hr,hfm L hr]
     by_cases hq:zaw t=true∧l.length=0
     ·have:L=[]:=List.eq_nil_of_length_eq_zero (by rw[hlen L hr];exact hq.2);rw[if_pos hq,if_pos ⟨rfl,.inr (.inl rfl),by rw[hq.1,decide_eq_true hq.2];rfl⟩,this]
     ·rw[if_neg hq,if_neg];rintro⟨_,_,q⟩;simp only[Bool.and_eq_true,decide_eq_true_eq] at q;exact hq q.1
   ·rw[if_neg h14]
    by_cases h13:k=13
    ·subst h13;rw[if_pos rfl];cases hr:zer l with
     |none=>unfold ycp;split<;>rfl
     |some L=>
      rw[ycq,ycs,ybt];rw[ycv,hlen L hr,hfm L hr]
      by_cases hq:t=⟨#[]⟩∧l.length=1
      ·rw[if_pos hq,if_pos ⟨rfl,.inr (.inr hq.1),by rw[decide_eq_true hq.2];rfl⟩]
       rfl
      ·rw[if_neg hq,if_neg];rintro⟨_,q1,q⟩;simp only[Bool.and_eq_true,decide_eq_true_eq] at q;exact hq ⟨by rcases q1 with h|h|h<;>first|omega|exact h,q.1.2⟩
    ·rw[if_neg h13]
     by_cases h15:k=15
     ·subst h15;rw[if_pos rfl];cases hr:zer l with
      |none=>unfold ycp;split<;>rfl
      |some L=>
       rw[ycq,yct,ybt];rw[ycw,hemp L hr,hfm L hr]
       by_cases hq:t=⟨#[]⟩∧0<l.length
       ·rw[if_pos hq,if_pos ⟨rfl,.inr (.inr hq.1),by rw[decide_eq_false (show ¬l.length=0 by omega)];rfl⟩]
        rfl
       ·rw[if_neg hq,if_neg];rintro⟨_,q1,q⟩;simp only[Bool.and_eq_true,decide_eq_true_eq,Bool.not_eq_true',decide_eq_false_iff_not] at q;exact hq ⟨by rcases q1 with h|h|h<;>first|omega|exact h,by omega⟩
     ·rw[if_neg h15];cases hr:zer l with
      |none=>rfl
      |some L=>
       have e:yco k t L=.mk 0 ⟨#[]⟩ L:=by unfold yco;rw[if_neg h12,if_neg h14,if_neg h13,if_neg h15]
       rw[ycq,e,if_neg];rintro⟨_,_,q⟩;rw[ybt] at q;exact absurd q (by unfold ybs;simp)
 ·rw[if_pos hn];cases zer l with
  |none=>rfl
  |some L=>unfold ycp;simp only;rw[if_neg (λe=>hn e.1)]
theorem ydc:∀(x:Nd) (t:Ty),zfp x=some t→zbJ t=true
 |.mk k s n a l,t,h=>by
  rw[ydb k s n a l (λx _hx=>ydc x)] at h;unfold ycp at h;cases hr:zer l with
  |none=>rw[hr] at h;cases h
  |some L=>
   rw[hr] at h;simp only at h
   split at h
   ·rename_i hc;injection h with h;subst h;exact hc.2.2
   ·cases h
theorem ydd (k:Int) (t:ByteArray) (n a:Int) (l:List Nd):zfp (.mk k t n a l)=ycp k t n (zer l):=ydb k t n a l (λx _=>ydc x)
structure RR (k:Int) (t:ByteArray) (n a:Int) (l:List Nd) (A:Option Addr) (c:Nat) (w W:World) (acc:List Ty) (v:Value):Prop where
 low:Below w.heap.size w W
 nd:zac W w.heap.size #[.int .i64 k,.string t,.int .i64 n,.int .i64 a,.slice A l.length c] 25
 res:zac W (w.heap.size+1) #[.int .i64 0,.string ⟨#[]⟩,.slice none 0 0] 55
 own:zaK (w.heap.size+2) 55 3 acc.length (zap Ty.row acc) W v
structure RE (k:Int) (t:ByteArray) (n a:Int) (l:List Nd) (A:Option Addr) (c:Nat) (w W:World):Prop where
 low:Below w.heap.size w W
 nd:zac W w.heap.size #[.int .i64 k,.string t,.int .i64 n,.int .i64 a,.slice A l.length c] 25
 res:zac W (w.heap.size+1) #[.int .i64 0,.string ⟨#[]⟩,.slice none 0 0] 55
section
variable {k n a:Int} {t:ByteArray} {l:List Nd} {A:Option Addr} {c:Nat} {w W W':World} {acc L:List Ty} {v v':Value}
theorem RR.below (h:RR k t n a l A c w W acc v) (k':Below W.heap.size W W'):RR k t n a l A c w W' acc v:=⟨zab h.low k' h.low.size,zaa k' h.nd,zaa k' h.res,h.own.below k'⟩
theorem RR.lt (h:RR k t n a l A c w W acc v):w.heap.size+1<W.heap.size:=h.res.lt
theorem RR.grown (h:RR k t n a l A c w W acc v) (hO:zaK (w.heap.size+2) 55 3 L.length (zap Ty.row L) W' v') (hg:W.grownBy W' v.ownBlock):RR k t n a l A c w W' L v':=by
 have hch:Chg (λk=>w.heap.size+2≤k) W W':=Chg.of_grown hg (λk hk=>(h.own.below_own k hk).1);exact⟨h.low.trans (hch.below h.low.size (λq hq=>by omega)),h.nd.keep hch (by omega),h.res.keep hch (by omega),hO⟩
theorem RR.re (h:RR k t n a l A c w W acc v):RE k t n a l A c w W:=⟨h.low,h.nd,h.res⟩
theorem RE.below (h:RE k t n a l A c w W) (k':Below W.heap.size W W'):RE k t n a l A c w W':=⟨zab h.low k' h.low.size,zaa k' h.nd,zaa k' h.res⟩
theorem RE.set (h:RE k t n a l A c w W) {g j lo:Nat} {u:Value} {cs:Array Value} {d:D} (hg:w.heap.size+2≤g) (C:zac W g cs 55) (R:Rd (Bt lo g) W d v):∃V,W.setCell ⟨g,j,none⟩ u=V∧Hid (RE k t n a l A c w V)∧Hid (zac V g (cs.setIfInBounds j u) 55)∧Hid (Rd (Bt lo g) V d v):=by
 have hc:Chg (λq=>q=g) W (W.setCell ⟨g,j,none⟩ u):=(Chg.refl (λq=>q=g) W).setCell (p:=⟨g,j,none⟩) (.inl rfl) _;exact⟨_,rfl,zz ⟨h.low.trans (hc.below h.low.size (λq hq=>by omega)),h.nd.keep hc (by omega),h.res.keep hc (by omega)⟩,zz (C.set j u),zz (R.keep λb o hb=>hc.cell (p:=⟨b,o,none⟩) (Nat.lt_trans hb.2 C.lt) (λe=>Nat.ne_of_lt hb.2 e))⟩
theorem RE.set0 (h:RE k t n a l A c w W) {g lo:Nat} (u:Value) {a0 a1 a2:Value} {d:D} (hg:w.heap.size+2≤g) (C:zac W g #[a0,a1,a2] 55) (R:Rd (Bt lo g) W d v):∃V,W.setCell ⟨g,0,none⟩ u=V∧Hid (RE k t n a l A c w V)∧Hid (zac V g #[u,a1,a2] 55)∧Hid (Rd (Bt lo g) V d v):=h.set hg C R
theorem RE.set1 (h:RE k t n a l A c w W) {g lo:Nat} (u:Value) {a0 a1 a2:Value} {d:D} (hg:w.heap.size+2≤g) (C:zac W g #[a0,a1,a2] 55) (R:Rd (Bt lo g) W d v):∃V,W.setCell ⟨g,1,none⟩ u=V∧Hid (RE k t n a l A c w V)∧Hid (zac V g #[a0,u,a2] 55)∧Hid (Rd (Bt lo g) V d v):=h.set hg C R
theorem RE.all (h:RE k t n a l A c w W) {g:Nat} {a0 a1 a2:Value} (C:zac W g #[a0,a1,a2] 55):W.cell? ⟨w.heap.size,0,none⟩=some (.int .i64 k)∧W.cell? ⟨w.heap.size,1,none⟩=some (.string t)∧W.cell? ⟨w.heap.size,2,none⟩=some (.int .i64 n)∧W.cell? ⟨g,0,none⟩=some a0∧W.cell? ⟨g,1,none⟩=some a1∧W.cell? ⟨g,2,none⟩=some a2∧W.cell? ⟨w.heap.size+1,0,none⟩=some (.int .i64 0)∧W.cell? ⟨w.heap.size+1,1,none⟩=some (.string ⟨#[]⟩)∧W.cell? ⟨w.heap.size+1,2,none⟩=some (.slice none 0 0)∧∀j,W.frozen? ⟨w.heap.size+1,j,none⟩=false:=
 ⟨h.nd.cell 0,h.nd.cell 1,h.nd.cell 2,C.cell 0,C.cell 1,C.cell 2,h.res.cell 0,h.res.cell 1,h.res.cell 2,h.res.fz⟩
theorem RE.bad (h:RE k t n a l A c w W) {fn:Func} (hf:fn.results=#[.cell 2 55,.tmp 3]) {r:Option Ty} (hr:none=r) {x:Act} (h2:x.tmps.getD 2 undef=.pointer (some ⟨w.heap.size+1,0,none⟩)) (h3:x.tmps.getD 3 undef=.bool false) (hd:x.defers=[]) :
 bodyPost Tryz.prog fn (ziu w r) Exit.ret x (((W.setCell ⟨w.heap.size+1,0,none⟩ (.int .i64 0)).setCell ⟨w.heap.size+1,1,none⟩ (.string ⟨#[]⟩)).setCell ⟨w.heap.size+1,2,none⟩ (.slice none 0 0)):=by
 have:=zah (P:=Tryz.prog) hf x.tmps _ (w.heap.size+1) _ _ (0,0) _ h2 (zdY (.int .i64 0) (.string ⟨#[]⟩) (.slice none 0 0) h.res) Tryz.underlying55 rfl ziB;rw[h3] at this;subst hr;exact bodyPost_ret this hd ⟨h.low.trans ((zcQ _ _ _ _ _).below h.low.size (λq hq=>by omega)),rfl⟩
theorem RE.good {kk:Int} {nn:ByteArray} {Ac:Option Addr} {cc:Nat} (h:RE k t n a l A c w W) {fn:Func} (hf:fn.results=#[.cell 2 55,.tmp 3]) {r:Option Ty} (hr:some (.mk kk nn L)=r) {m:Nat} (hm:m=L.length) {g:Nat} (hg:g≤W.heap.size) (hR:Rd (Bt (w.heap.size+2) g) W (ys L) (.slice Ac L.length cc)) {x:Act} (h2:x.tmps.getD 2 undef=.pointer (some ⟨w.heap.size+1,0,none⟩)) (h3:x.tmps.getD 3 undef=.bool true) (hd:x.defers=[]) :
 bodyPost Tryz.prog fn (ziu w r) Exit.ret x (((W.setCell ⟨w.heap.size+1,0,none⟩ (.int .i64 kk)).setCell ⟨w.heap.size+1,1,none⟩ (.string nn)).setCell ⟨w.heap.size+1,2,none⟩ (.slice Ac m cc)):=by
 subst hm;have:=zah (P:=Tryz.prog) hf x.tmps _ (w.heap.size+1) _ _ (0,0) _ h2 (zdY (.int .i64 kk) (.string nn) (.slice Ac L.length cc) h.res) Tryz.underlying55 rfl ziB;rw[h3] at this;subst hr;have hc:=zcQ W (w.heap.size+1) (.int .i64 kk) (.string nn) (.slice Ac L.length cc);refine bodyPost_ret this hd ⟨h.low.trans (hc.below h.low.size (λq hq=>by omega)),Ac,cc,rfl,?_⟩;exact(hc.rd (ok:=Bt (w.heap.size+2) g) (λq hq=>⟨Nat.lt_of_lt_of_le hq.2 hg,by have:=hq.1;omega⟩) hR).weaken (λq hq=>⟨by have:=hq.1;omega,Nat.lt_of_lt_of_le hq.2 (Nat.le_trans hg hc.size)⟩)
end
theorem yde {kk:Int} {nn:ByteArray} {L:List Ty} (h:nn.size≤32768) (hL:zlZ L=true):(Ty.mk kk nn L).fit=true:=by rw[Ty.fit,hL,decide_eq_true (by omega)];rfl
theorem ydf (kk:Int) (nn:ByteArray) {acc:List Ty} {A:Option Addr} {c:Nat} (w:World) (hn:nn.size≤32768) (hf:zlZ acc=true) {lo g:Nat} (R:Rd (Bt lo g) w (ys acc) (.slice A acc.length c)) (hg:g≤w.heap.size):Hid (Calls Tryz.prog 16 #[.agg #[.int .i64 kk,.string nn,.slice A acc.length c]] w λe w'=>e=.returned (.bool (zbJ (.mk kk nn acc)))∧Below w.heap.size w w'):=
 zz (ybw (.mk kk nn acc) A c w (yde hn hf) (R.weaken (λ_ hq=>Nat.lt_of_lt_of_le hq.2 hg)))
def ydg (n:Nd):Prop:=∀(A:Option Addr) (c:Nat) (w:World),n.fit=true→n.size≤2097152→Rd (Lt w.heap.size) w (ns n.kids) (.slice A n.kids.length c)→
 Calls Tryz.prog 26 #[.agg #[.int .i64 n.kind,.string n.text,.int .i64 n.n,.int .i64 n.at',.slice A n.kids.length c]] w (ziu w (zfp n))
theorem ydh (k:Int) (t:ByteArray) (n a:Int) (l:List Nd) (IH:∀x∈l,ydg x):ydg (.mk k t n a l):=by
 intro A c w hf hs h;replace h:Rd (Lt w.heap.size) w (ns l) (.slice A l.length c):=h
 show Calls Tryz.prog 26 #[.agg #[.int .i64 k,.string t,.int .i64 n,.int .i64 a,.slice A l.length c]] w (ziu w (zfp (.mk k t n a l)))
 rw[ydd];obtain⟨r,hr⟩:∃r,ycp k t n (zer l)=r:=⟨_,rfl⟩;rw[hr];have HRR:=zz hr;rw[zaE] at hs;have hfk:fitL l=true:=zay hf;have htz:t.size≤32768:=by rw[Nd.fit,Bool.and_eq_true,decide_eq_true_eq] at hf;exact hf.1
 have HR:=zz h;have HF:=zz hfk;have HI:=zz IH;have hl:=zaD h;have hn:l.length≤2097152:=Nat.le_trans (zaB l) (by omega);have b1:=(Below.refl w.heap.size w).alloc (Nat.le_refl _) (.cells #[.int .i64 k,.string t,.int .i64 n,.int .i64 a,.slice A l.length c] 25);have c1:=zac.new w #[.int .i64 k,.string t,.int .i64 n,.int .i64 a,.slice A l.length c] 25;obtain⟨w1,h1⟩:∃W,w.alloc (.cells #[.int .i64 k,.string t,.int .i64 n,.int .i64 a,.slice A l.length c] 25)=W:=⟨_,rfl⟩;have s1:w1.heap.size=w.heap.size+1:=by rw[←h1];simp
 rw[h1] at b1 c1;have b2:=(Below.refl w1.heap.size w1).alloc (Nat.le_refl _) (.cells #[.int .i64 0,.string ⟨#[]⟩,.slice none 0 0] 55);have c2:=zac.new w1 #[.int .i64 0,.string ⟨#[]⟩,.slice none 0 0] 55;obtain⟨w2,h2⟩:∃W,w1.alloc (.cells #[.int .i64 0,.string ⟨#[]⟩,.slice none 0 0] 55)=W:=⟨_,rfl⟩;rw[h2] at b2 c2;rw[s1] at c2;have Z0:Hid (RR k t n a l A c w w2 [] (.slice none 0 0)):=zz ⟨zab b1 b2 b1.size,zaa b2 c1,c2,zaK.nil _ _ _ _ _⟩;have HA0:Hid (zer l=(zer (l.drop 0)).map (λts=>[]++ts)):=zz (by show zer l=(zer l).map _;cases zer l<;>rfl);have HW:Hid ((w.alloc (.cells #[.int .i64 k,.string t,.int .i64 n,.int .i64 a,.slice A l.length c] 25)).alloc (.cells #[.int .i64 0,.string ⟨#[]⟩,.slice none 0 0] 55)=w2):=zz (by rw[h1,h2]);clear h hf hfk IH hl b1 c1 b2 c2 hr h1 h2 s1;go_enter Tryz.func26,Tryz.ntmps26;go_wp2_with fail;rw[HW.out];clear HW
 go_loopw [4,5] (λs4 s5 wr=>∃(i:Nat) (acc:List Ty) (A':Option Addr) (c':Nat),i≤l.length∧acc.length≤i∧s4=.slice A' acc.length c'∧s5=.int .i64 i∧Hid (zer l=(zer (l.drop i)).map (λts=>acc++ts))∧Hid (RR k t n a l A c w wr acc (.slice A' acc.length c'))) (λ_ s5 _=>l.length-(intOf s5).toNat)
 case atStart=>exact⟨0,[],none,0,by omega,by simp,rfl,rfl,HA0,Z0⟩
 case round=>
  clear HA0 Z0;obtain⟨i,acc,A1,c1,hi,hal,rfl,rfl,HA,HB⟩:=hrel;have z4:wr.cell? ⟨w.heap.size,4,none⟩=some (.slice A l.length c):=HB.out.nd.cell 4
  by_cases hlt:i<l.length
  ·obtain⟨b,off,y,e,_,hget,A',c',p0,p1,p2,p3,p4,r5⟩:=zbN (HR.out.belows HB.out.low) hlt;subst e;have q:=HA.out;rw[zak hget,ycy] at q;have hin:(i:Int)<l.length:=by omega
   have KY:=zz (HI.out y (List.mem_of_getElem? hget) A' c' wr (zaM HF.out (List.mem_of_getElem? hget)) (by have:=zaY (List.mem_of_getElem? hget);omega) r5);clear HI r5 HA hget;cases hy:zfp y with
   |none=>
    rw[hy] at KY q;have HQ:Hid (none=r):=zz (by rw[←HRR.out,q];rfl);clear q hy;go_wp2_with fail;(with_reducible refine KY.out.mono ?_);rintro e w4 ⟨hb4,rfl⟩;have Z4:=zz (HB.out.below hb4);clear hb4 HB z4 p0 p1 p2 p3 p4;have Z5:=zz (Z4.out.below ((Below.refl w4.heap.size w4).alloc (Nat.le_refl _) (.cells #[.int .i64 0,.string ⟨#[]⟩,.slice none 0 0] 55)));have x0:(w4.alloc (.cells #[.int .i64 0,.string ⟨#[]⟩,.slice none 0 0] 55)).cell? ⟨w.heap.size+1,0,none⟩=some (.int .i64 0):=Z5.out.res.cell 0;have x1:(w4.alloc (.cells #[.int .i64 0,.string ⟨#[]⟩,.slice none 0 0] 55)).cell? ⟨w.heap.size+1,1,none⟩=some (.string ⟨#[]⟩):=Z5.out.res.cell 1;have x2:(w4.alloc (.cells #[.int .i64 0,.string ⟨#[]⟩,.slice none 0 0] 55)).cell? ⟨w.heap.size+1,2,none⟩=some (.slice none 0 0):=Z5.out.res.cell 2;have z:=Z5.out.res.fz;clear Z4;go_wp2_with fail;exact Z5.out.re.bad rfl HQ.out rfl rfl rfl
   |some u=>
    rw[hy] at KY q
    have HQ:Hid (zer l=(zer (l.drop (i+1))).map (λts=>(acc++[u])++ts)):=zz (by
     rw[q];cases zer (l.drop (i+1)) with
     |none=>rfl
     |some ts=>simp)
    clear q hy;go_wp2_with fail;(with_reducible refine KY.out.mono ?_);rintro e w4 ⟨hb4,A2,c2,rfl,hr4⟩;have hs34:=hb4.size;have Z4:=zz (HB.out.below hb4);have hob:Hid (∀g,(Value.slice A1 acc.length c1).ownBlock=some g→g<wr.heap.size):=zz (λg hg=>(HB.out.own.below_own g hg).2);have hz3:=HB.out.lt;have R4:=zz hr4;clear hb4 hr4 HB z4 p0 p1 p2 p3 p4;have ba:=(Below.refl w4.heap.size w4).alloc (Nat.le_refl _) (.cells #[.int .i64 u.kind,.string u.name,.slice A2 u.args.length c2] 55);have bb:=(Below.refl (w4.alloc (.cells #[.int .i64 u.kind,.string u.name,.slice A2 u.args.length c2] 55)).heap.size (w4.alloc (.cells #[.int .i64 u.kind,.string u.name,.slice A2 u.args.length c2] 55))).alloc (Nat.le_refl _) (.cells #[.int .i64 u.kind,.string u.name,.slice A2 u.args.length c2] 55);have Z5:=zz (Z4.out.below ba);have Z6:=zz (Z5.out.below bb);have R6:=zz (zaQ bb (zaQ ba R4.out));have O6:=zz Z6.out.own;clear ba bb Z4 R4 Z5;go_wp2_with (at_builtin;refine zbp Ty.row zrW Tryz.underlying53 rfl (by omega) (by omega) rfl _ _ rfl (w.heap.size+2) ?cx1 (.slice A1 acc.length c1) acc rfl O6.out ⟨w4.heap.size+1,0,none⟩ 1 u (zkZ u A2 c2) rfl rfl ?cx2 ?cx3 ?cx4 ?_)
    case cx1=>simp;omega
    case cx2=>exact znc _ (by simp) _ _ _
    case cx3=>exact zrr R6.out (by omega) (λg hg=>Nat.lt_of_lt_of_le (hob.out g hg) (Nat.le_refl _))
    case cx4=>omega
    intro v' w8 hO hg _;replace hO:zaK (w.heap.size+2) 55 3 (acc++[u]).length (zap Ty.row (acc++[u])) w8 v':=by rw[List.length_append];exact hO
    obtain⟨L,hL⟩:∃L,acc++[u]=L:=⟨_,rfl⟩;rw[hL] at hO HQ;have hL2:L.length≤acc.length+1:=by rw[←hL];simp
    obtain⟨A8,c8,rfl,_⟩:=hO.rd.sl_inv;have Z8:=zz (Z6.out.grown hO hg);clear hO hg hL Z6 R6 O6 hob;go_wp2_with fail;exact⟨⟨i+1,L,A8,c8,by omega,by omega,rfl,by go_num,HQ,Z8⟩,by simp[intOf];omega⟩
  ·have q:=HA.out;rw[List.drop_eq_nil_of_le (by omega),ycx] at q;replace q:zer l=some acc:=by rw[q];simp
   have hfa:zlZ acc=true:=zkN l HF.out q;have HE:Hid ((if n=0∧(k=12∨k=14∨t=⟨#[]⟩)∧zbJ (yco k t acc)=true then some (yco k t acc) else none)=r):=zz (by rw[←HRR.out,q];rfl);clear HA HRR HI q;have b5:=(Below.refl wr.heap.size wr).alloc (Nat.le_refl _) (.cells #[.int .i64 0,.string ⟨#[]⟩,.slice A1 acc.length c1] 55);have c5:=zac.new wr #[.int .i64 0,.string ⟨#[]⟩,.slice A1 acc.length c1] 55;obtain⟨w5,h5⟩:∃W,wr.alloc (.cells #[.int .i64 0,.string ⟨#[]⟩,.slice A1 acc.length c1] 55)=W:=⟨_,rfl⟩;have s5:wr.heap.size+1≤w5.heap.size:=by rw[←h5];simp
   rw[h5] at b5 c5;have hz3:=HB.out.lt;have hRr:Rd (Bt (w.heap.size+2) wr.heap.size) wr (ys acc) (.slice A1 acc.length c1):=zrg HB.out.own.rd;have R5:=zz (hRr.below b5 (λ_ hq=>hq.2));have Z5:=zz (HB.out.re.below b5);have C5:=zz c5;have x0:w5.cell? ⟨w.heap.size,0,none⟩=some (.int .i64 k):=Z5.out.nd.cell 0;have x1:w5.cell? ⟨w.heap.size,1,none⟩=some (.string t):=Z5.out.nd.cell 1;have y0:w5.cell? ⟨wr.heap.size,0,none⟩=some (.int .i64 0):=c5.cell 0;have y1:w5.cell? ⟨wr.heap.size,1,none⟩=some (.string ⟨#[]⟩):=c5.cell 1;have yf:=c5.fz;clear b5 c5 HB hRr
   by_cases h12:k=12
   ·subst h12
    by_cases hw_int:t=(⟨#[105,110,116]⟩:ByteArray)
    ·have ew_int:(t.toList == [105,110,116])=true:=zex hw_int;obtain⟨v0,hv0,ZZ0,CC0,RR0⟩:=Z5.out.set0 (.int .i64 3) (by omega) C5.out R5.out;have Z6:=ZZ0;have C6:=CC0;have R6:=RR0;have sz6:wr.heap.size+1≤v0.heap.size:=C6.out.lt;obtain⟨m0,m1,m2,u0,u1,u2,e0,e1,e2,ef⟩:=Z6.out.all C6.out;have KF:=ydf 3 ⟨#[]⟩ v0 (by decide) hfa R6.out (by omega)
     by_cases hn0:n=0
     ·have n0:(n != 0)=false:=by simp[hn0]
      have HE2:Hid ((if zbJ (.mk 3 ⟨#[]⟩ acc)=true then some (.mk 3 ⟨#[]⟩ acc) else none)=r):=zz (by
       rw[←HE.out,show yco 12 t acc=.mk 3 ⟨#[]⟩ acc from by rw[hw_int];kernel_rfl]
       by_cases hf:zbJ (.mk 3 ⟨#[]⟩ acc)=true
       ·rw[if_pos hf,if_pos ⟨hn0,.inl rfl,hf⟩]
       ·rw[if_neg hf,if_neg (λe=>hf e.2.2)])
      clear HE hn0;go_wp2_with fail;(with_reducible refine KF.out.mono ?_);rintro e w7 ⟨rfl,hb⟩;have Z7:=zz (Z6.out.below hb);have C7:=zz (zaa hb C6.out);have R7:=zz (R6.out.below hb (λ_ hq=>Nat.lt_of_lt_of_le hq.2 (by omega)));have sz7:=hb.size;clear hb KF m0 m1 m2 u0 u1 u2 e0 e1 e2 ef;obtain⟨-,-,-,u0,u1,u2,e0,e1,e2,ef⟩:=Z7.out.all C7.out;obtain⟨fb,hfb⟩:∃fb,zbJ (.mk 3 ⟨#[]⟩ acc)=fb:=⟨_,rfl⟩;rw[hfb] at HE2 ⊢;clear hfb;cases fb with
      |false=>
       have HQ:Hid (none=r):=zz (by rw[←HE2.out,if_neg (by simp)]);clear HE2;go_wp2_with fail;exact Z7.out.bad rfl HQ.out rfl rfl rfl
      |true=>
       have HQ:Hid (some (.mk 3 ⟨#[]⟩ acc)=r):=zz (by rw[←HE2.out,if_pos rfl]);clear HE2;go_wp2_with fail;exact Z7.out.good rfl HQ.out rfl (by omega) R7.out rfl rfl rfl
     ·have n0:(n != 0)=true:=by simp[hn0]
      have HQ:Hid (none=r):=zz (by rw[←HE.out,if_neg (λe=>hn0 e.1)]);clear hn0 HE KF;go_wp2_with fail;exact Z6.out.bad rfl HQ.out rfl rfl rfl
    ·have ew_int:=zam hw_int
     by_cases hw_bool:t=(⟨#[98,111,111,108]⟩:ByteArray)
     ·have ew_bool:(t.toList == [98,111,111,108])=true:=zex hw_bool;obtain⟨v0,hv0,ZZ0,CC0,RR0⟩:=Z5.out.set0 (.int .i64 2) (by omega) C5.out R5.out;have Z6:=ZZ0;have C6:=CC0;have R6:=RR0;have sz6:wr.heap.size+1≤v0.heap.size:=C6.out.lt;obtain⟨m0,m1,m2,u0,u1,u2,e0,e1,e2,ef⟩:=Z6.out.all C6.out;have KF:=ydf 2 ⟨#[]⟩ v0 (by decide) hfa R6.out (by omega)
      by_cases hn0:n=0
      ·have n0:(n != 0)=false:=by simp[hn0]
       have HE2:Hid ((if zbJ (.mk 2 ⟨#[]⟩ acc)=true then some (.mk 2 ⟨#[]⟩ acc) else none)=r):=zz (by
        rw[←HE.out,show yco 12 t acc=.mk 2 ⟨#[]⟩ acc from by rw[hw_bool];kernel_rfl]
        by_cases hf:zbJ (.mk 2 ⟨#[]⟩ acc)=true
        ·rw[if_pos hf,if_pos ⟨hn0,.inl rfl,hf⟩]
        ·rw[if_neg hf,if_neg (λe=>hf e.2.2)])
       clear HE hn0;go_wp2_with fail;(with_reducible refine KF.out.mono ?_);rintro e w7 ⟨rfl,hb⟩;have Z7:=zz (Z6.out.below hb);have C7:=zz (zaa hb C6.out);have R7:=zz (R6.out.below hb (λ_ hq=>Nat.lt_of_lt_of_le hq.2 (by omega)));have sz7:=hb.size;clear hb KF m0 m1 m2 u0 u1 u2 e0 e1 e2 ef;obtain⟨-,-,-,u0,u1,u2,e0,e1,e2,ef⟩:=Z7.out.all C7.out;obtain⟨fb,hfb⟩:∃fb,zbJ (.mk 2 ⟨#[]⟩ acc)=fb:=⟨_,rfl⟩;rw[hfb] at HE2 ⊢;clear hfb;cases fb with
       |false=>
        have HQ:Hid (none=r):=zz (by rw[←HE2.out,if_neg (by simp)]);clear HE2;go_wp2_with fail;exact Z7.out.bad rfl HQ.out rfl rfl rfl
       |true=>
        have HQ:Hid (some (.mk 2 ⟨#[]⟩ acc)=r):=zz (by rw[←HE2.out,if_pos rfl]);clear HE2;go_wp2_with fail;exact Z7.out.good rfl HQ.out rfl (by omega) R7.out rfl rfl rfl
      ·have n0:(n != 0)=true:=by simp[hn0]
       have HQ:Hid (none=r):=zz (by rw[←HE.out,if_neg (λe=>hn0 e.1)]);clear hn0 HE KF;go_wp2_with fail;exact Z6.out.bad rfl HQ.out rfl rfl rfl
     ·have ew_bool:=zam hw_bool
      by_cases hw_text:t=(⟨#[116,101,120,116]⟩:ByteArray)
      ·have ew_text:(t.toList == [116,101,120,116])=true:=zex hw_text;obtain⟨v0,hv0,ZZ0,CC0,RR0⟩:=Z5.out.set0 (.int .i64 4) (by omega) C5.out R5.out;have Z6:=ZZ0;have C6:=CC0;have R6:=RR0;have sz6:wr.heap.size+1≤v0.heap.size:=C6.out.lt;obtain⟨m0,m1,m2,u0,u1,u2,e0,e1,e2,ef⟩:=Z6.out.all C6.out;have KF:=ydf 4 ⟨#[]⟩ v0 (by decide) hfa R6.out (by omega)
       by_cases hn0:n=0
       ·have n0:(n != 0)=false:=by simp[hn0]
        have HE2:Hid ((if zbJ (.mk 4 ⟨#[]⟩ acc)=true then some (.mk 4 ⟨#[]⟩ acc) else none)=r):=zz (by
         rw[←HE.out,show yco 12 t acc=.mk 4 ⟨#[]⟩ acc from by rw[hw_text];kernel_rfl]
         by_cases hf:zbJ (.mk 4 ⟨#[]⟩ acc)=true
         ·rw[if_pos hf,if_pos ⟨hn0,.inl rfl,hf⟩]
         ·rw[if_neg hf,if_neg (λe=>hf e.2.2)])
        clear HE hn0;go_wp2_with fail;(with_reducible refine KF.out.mono ?_);rintro e w7 ⟨rfl,hb⟩;have Z7:=zz (Z6.out.below hb);have C7:=zz (zaa hb C6.out);have R7:=zz (R6.out.below hb (λ_ hq=>Nat.lt_of_lt_of_le hq.2 (by omega)));have sz7:=hb.size;clear hb KF m0 m1 m2 u0 u1 u2 e0 e1 e2 ef;obtain⟨-,-,-,u0,u1,u2,e0,e1,e2,ef⟩:=Z7.out.all C7.out;obtain⟨fb,hfb⟩:∃fb,zbJ (.mk 4 ⟨#[]⟩ acc)=fb:=⟨_,rfl⟩;rw[hfb] at HE2 ⊢;clear hfb;cases fb with
        |false=>
         have HQ:Hid (none=r):=zz (by rw[←HE2.out,if_neg (by simp)]);clear HE2;go_wp2_with fail;exact Z7.out.bad rfl HQ.out rfl rfl rfl
        |true=>
         have HQ:Hid (some (.mk 4 ⟨#[]⟩ acc)=r):=zz (by rw[←HE2.out,if_pos rfl]);clear HE2;go_wp2_with fail;exact Z7.out.good rfl HQ.out rfl (by omega) R7.out rfl rfl rfl
       ·have n0:(n != 0)=true:=by simp[hn0]
        have HQ:Hid (none=r):=zz (by rw[←HE.out,if_neg (λe=>hn0 e.1)]);clear hn0 HE KF;go_wp2_with fail;exact Z6.out.bad rfl HQ.out rfl rfl rfl
      ·have ew_text:=zam hw_text
       by_cases hw_unit:t=(⟨#[117,110,105,116]⟩:ByteArray)
       ·have ew_unit:(t.toList == [117,110,105,116])=true:=zex hw_unit;obtain⟨v0,hv0,ZZ0,CC0,RR0⟩:=Z5.out.set0 (.int .i64 1) (by omega) C5.out R5.out;have Z6:=ZZ0;have C6:=CC0;have R6:=RR0;have sz6:wr.heap.size+1≤v0.heap.size:=C6.out.lt;obtain⟨m0,m1,m2,u0,u1,u2,e0,e1,e2,ef⟩:=Z6.out.all C6.out;have KF:=ydf 1 ⟨#[]⟩ v0 (by decide) hfa R6.out (by omega)
        by_cases hn0:n=0
        ·have n0:(n != 0)=false:=by simp[hn0]
         have HE2:Hid ((if zbJ (.mk 1 ⟨#[]⟩ acc)=true then some (.mk 1 ⟨#[]⟩ acc) else none)=r):=zz (by
          rw[←HE.out,show yco 12 t acc=.mk 1 ⟨#[]⟩ acc from by rw[hw_unit];kernel_rfl]
          by_cases hf:zbJ (.mk 1 ⟨#[]⟩ acc)=true
          ·rw[if_pos hf,if_pos ⟨hn0,.inl rfl,hf⟩]
          ·rw[if_neg hf,if_neg (λe=>hf e.2.2)])
         clear HE hn0;go_wp2_with fail;(with_reducible refine KF.out.mono ?_);rintro e w7 ⟨rfl,hb⟩;have Z7:=zz (Z6.out.below hb);have C7:=zz (zaa hb C6.out);have R7:=zz (R6.out.below hb (λ_ hq=>Nat.lt_of_lt_of_le hq.2 (by omega)));have sz7:=hb.size;clear hb KF m0 m1 m2 u0 u1 u2 e0 e1 e2 ef;obtain⟨-,-,-,u0,u1,u2,e0,e1,e2,ef⟩:=Z7.out.all C7.out;obtain⟨fb,hfb⟩:∃fb,zbJ (.mk 1 ⟨#[]⟩ acc)=fb:=⟨_,rfl⟩;rw[hfb] at HE2 ⊢;clear hfb;cases fb with
         |false=>
          have HQ:Hid (none=r):=zz (by rw[←HE2.out,if_neg (by simp)]);clear HE2;go_wp2_with fail;exact Z7.out.bad rfl HQ.out rfl rfl rfl
         |true=>
          have HQ:Hid (some (.mk 1 ⟨#[]⟩ acc)=r):=zz (by rw[←HE2.out,if_pos rfl]);clear HE2;go_wp2_with fail;exact Z7.out.good rfl HQ.out rfl (by omega) R7.out rfl rfl rfl
        ·have n0:(n != 0)=true:=by simp[hn0]
         have HQ:Hid (none=r):=zz (by rw[←HE.out,if_neg (λe=>hn0 e.1)]);clear hn0 HE KF;go_wp2_with fail;exact Z6.out.bad rfl HQ.out rfl rfl rfl
       ·have ew_unit:=zam hw_unit;obtain⟨v0,hv0,ZZ0,CC0,RR0⟩:=Z5.out.set0 (.int .i64 6) (by omega) C5.out R5.out;have yy0:v0.cell? ⟨wr.heap.size,1,none⟩=some (.string ⟨#[]⟩):=CC0.out.cell 1;have xx0:v0.cell? ⟨w.heap.size,1,none⟩=some (.string t):=ZZ0.out.nd.cell 1;have yg0:=CC0.out.fz;obtain⟨v1,hv1,ZZ1,CC1,RR1⟩:=ZZ0.out.set1 (.string t) (by omega) CC0.out RR0.out;have Z6:=ZZ1;have C6:=CC1;have R6:=RR1;have sz6:wr.heap.size+1≤v1.heap.size:=C6.out.lt;obtain⟨m0,m1,m2,u0,u1,u2,e0,e1,e2,ef⟩:=Z6.out.all C6.out;have KF:=ydf 6 t v1 htz hfa R6.out (by omega)
        by_cases hn0:n=0
        ·have n0:(n != 0)=false:=by simp[hn0]
         have HE2:Hid ((if zbJ (.mk 6 t acc)=true then some (.mk 6 t acc) else none)=r):=zz (by
          rw[←HE.out,show yco 12 t acc=.mk 6 t acc from by unfold yco zbr;rw[if_pos rfl,if_neg (by rw[if_neg hw_int,if_neg hw_bool,if_neg hw_text,if_neg hw_unit];simp)]]
          by_cases hf:zbJ (.mk 6 t acc)=true
          ·rw[if_pos hf,if_pos ⟨hn0,.inl rfl,hf⟩]
          ·rw[if_neg hf,if_neg (λe=>hf e.2.2)])
         clear HE hn0;go_wp2_with fail;(with_reducible refine KF.out.mono ?_);rintro e w7 ⟨rfl,hb⟩;have Z7:=zz (Z6.out.below hb);have C7:=zz (zaa hb C6.out);have R7:=zz (R6.out.below hb (λ_ hq=>Nat.lt_of_lt_of_le hq.2 (by omega)));have sz7:=hb.size;clear hb KF m0 m1 m2 u0 u1 u2 e0 e1 e2 ef;obtain⟨-,-,-,u0,u1,u2,e0,e1,e2,ef⟩:=Z7.out.all C7.out;obtain⟨fb,hfb⟩:∃fb,zbJ (.mk 6 t acc)=fb:=⟨_,rfl⟩;rw[hfb] at HE2 ⊢;clear hfb;cases fb with
         |false=>
          have HQ:Hid (none=r):=zz (by rw[←HE2.out,if_neg (by simp)]);clear HE2;go_wp2_with fail;exact Z7.out.bad rfl HQ.out rfl rfl rfl
         |true=>
          have HQ:Hid (some (.mk 6 t acc)=r):=zz (by rw[←HE2.out,if_pos rfl]);clear HE2;go_wp2_with fail;exact Z7.out.good rfl HQ.out rfl (by omega) R7.out rfl rfl rfl
        ·have n0:(n != 0)=true:=by simp[hn0]
         have HQ:Hid (none=r):=zz (by rw[←HE.out,if_neg (λe=>hn0 e.1)]);clear hn0 HE KF;go_wp2_with fail;exact Z6.out.bad rfl HQ.out rfl rfl rfl
   ·have e12:(k == 12)=false:=by rw[beq_eq_false_iff_ne];exact h12
    by_cases h14:k=14
    ·subst h14;obtain⟨v0,hv0,ZZ0,CC0,RR0⟩:=Z5.out.set0 (.int .i64 7) (by omega) C5.out R5.out;have yy0:v0.cell? ⟨wr.heap.size,1,none⟩=some (.string ⟨#[]⟩):=CC0.out.cell 1;have xx0:v0.cell? ⟨w.heap.size,1,none⟩=some (.string t):=ZZ0.out.nd.cell 1;have yg0:=CC0.out.fz;obtain⟨v1,hv1,ZZ1,CC1,RR1⟩:=ZZ0.out.set1 (.string t) (by omega) CC0.out RR0.out;have Z6:=ZZ1;have C6:=CC1;have R6:=RR1;have sz6:wr.heap.size+1≤v1.heap.size:=C6.out.lt;obtain⟨m0,m1,m2,u0,u1,u2,e0,e1,e2,ef⟩:=Z6.out.all C6.out;have KF:=ydf 7 t v1 htz hfa R6.out (by omega)
     by_cases hn0:n=0
     ·have n0:(n != 0)=false:=by simp[hn0]
      have HE2:Hid ((if zbJ (.mk 7 t acc)=true then some (.mk 7 t acc) else none)=r):=zz (by
       rw[←HE.out,ycr]
       by_cases hf:zbJ (.mk 7 t acc)=true
       ·rw[if_pos hf,if_pos ⟨hn0,.inr (.inl rfl),hf⟩]
       ·rw[if_neg hf,if_neg (λe=>hf e.2.2)])
      clear HE hn0;go_wp2_with fail;(with_reducible refine KF.out.mono ?_);rintro e w7 ⟨rfl,hb⟩;have Z7:=zz (Z6.out.below hb);have C7:=zz (zaa hb C6.out);have R7:=zz (R6.out.below hb (λ_ hq=>Nat.lt_of_lt_of_le hq.2 (by omega)));have sz7:=hb.size;clear hb KF m0 m1 m2 u0 u1 u2 e0 e1 e2 ef;obtain⟨-,-,-,u0,u1,u2,e0,e1,e2,ef⟩:=Z7.out.all C7.out;obtain⟨fb,hfb⟩:∃fb,zbJ (.mk 7 t acc)=fb:=⟨_,rfl⟩;rw[hfb] at HE2 ⊢;clear hfb;cases fb with
      |false=>
       have HQ:Hid (none=r):=zz (by rw[←HE2.out,if_neg (by simp)]);clear HE2;go_wp2_with fail;exact Z7.out.bad rfl HQ.out rfl rfl rfl
      |true=>
       have HQ:Hid (some (.mk 7 t acc)=r):=zz (by rw[←HE2.out,if_pos rfl]);clear HE2;go_wp2_with fail;exact Z7.out.good rfl HQ.out rfl (by omega) R7.out rfl rfl rfl
     ·have n0:(n != 0)=true:=by simp[hn0]
      have HQ:Hid (none=r):=zz (by rw[←HE.out,if_neg (λe=>hn0 e.1)]);clear hn0 HE KF;go_wp2_with fail;exact Z6.out.bad rfl HQ.out rfl rfl rfl
    ·have e14:(k == 14)=false:=by rw[beq_eq_false_iff_ne];exact h14
     by_cases h13:k=13
     ·subst h13;obtain⟨v0,hv0,ZZ0,CC0,RR0⟩:=Z5.out.set0 (.int .i64 5) (by omega) C5.out R5.out;have Z6:=ZZ0;have C6:=CC0;have R6:=RR0;have sz6:wr.heap.size+1≤v0.heap.size:=C6.out.lt;obtain⟨m0,m1,m2,u0,u1,u2,e0,e1,e2,ef⟩:=Z6.out.all C6.out;have KF:=ydf 5 ⟨#[]⟩ v0 (by decide) hfa R6.out (by omega)
      by_cases hn0:n=0
      ·have n0:(n != 0)=false:=by simp[hn0]
       by_cases ht0:t=⟨#[]⟩
       ·have et:(t.toList == [])=true:=by rw[ht0];kernel_rfl
        have HE2:Hid ((if zbJ (.mk 5 ⟨#[]⟩ acc)=true then some (.mk 5 ⟨#[]⟩ acc) else none)=r):=zz (by
         rw[←HE.out,ycs]
         by_cases hf:zbJ (.mk 5 ⟨#[]⟩ acc)=true
         ·rw[if_pos hf,if_pos ⟨hn0,.inr (.inr ht0),hf⟩]
         ·rw[if_neg hf,if_neg (λe=>hf e.2.2)])
        clear HE hn0;go_wp2_with fail;(with_reducible refine KF.out.mono ?_);rintro e w7 ⟨rfl,hb⟩;have Z7:=zz (Z6.out.below hb);have C7:=zz (zaa hb C6.out);have R7:=zz (R6.out.below hb (λ_ hq=>Nat.lt_of_lt_of_le hq.2 (by omega)));have sz7:=hb.size;clear hb KF m0 m1 m2 u0 u1 u2 e0 e1 e2 ef;obtain⟨-,-,-,u0,u1,u2,e0,e1,e2,ef⟩:=Z7.out.all C7.out;obtain⟨fb,hfb⟩:∃fb,zbJ (.mk 5 ⟨#[]⟩ acc)=fb:=⟨_,rfl⟩;rw[hfb] at HE2 ⊢;clear hfb;cases fb with
        |false=>
         have HQ:Hid (none=r):=zz (by rw[←HE2.out,if_neg (by simp)]);clear HE2;go_wp2_with fail;exact Z7.out.bad rfl HQ.out rfl rfl rfl
        |true=>
         have HQ:Hid (some (.mk 5 ⟨#[]⟩ acc)=r):=zz (by rw[←HE2.out,if_pos rfl]);clear HE2;go_wp2_with fail;exact Z7.out.good rfl HQ.out rfl (by omega) R7.out rfl rfl rfl
       ·have et:=zez (l:=⟨#[]⟩) ht0;rw[show (⟨#[]⟩:ByteArray).toList=[] from by kernel_rfl] at et;have HQ:Hid (none=r):=zz (by rw[←HE.out,if_neg (λe=>by rcases e.2.1 with h|h|h<;>first|exact ht0 h|exact absurd h (by decide))]);clear ht0;clear HE KF;go_wp2_with fail;exact Z6.out.bad rfl HQ.out rfl rfl rfl
      ·have n0:(n != 0)=true:=by simp[hn0]
       have HQ:Hid (none=r):=zz (by rw[←HE.out,if_neg (λe=>hn0 e.1)]);clear hn0 HE KF
       by_cases ht0:t=⟨#[]⟩
       ·have et:(t.toList == [])=true:=by rw[ht0];kernel_rfl
        clear ht0;go_wp2_with fail;exact Z6.out.bad rfl HQ.out rfl rfl rfl
       ·have et:=zez (l:=⟨#[]⟩) ht0;rw[show (⟨#[]⟩:ByteArray).toList=[] from by kernel_rfl] at et;clear ht0;go_wp2_with fail;exact Z6.out.bad rfl HQ.out rfl rfl rfl
     ·have e13:(k == 13)=false:=by rw[beq_eq_false_iff_ne];exact h13
      by_cases h15:k=15
      ·subst h15;obtain⟨v0,hv0,ZZ0,CC0,RR0⟩:=Z5.out.set0 (.int .i64 8) (by omega) C5.out R5.out;have Z6:=ZZ0;have C6:=CC0;have R6:=RR0;have sz6:wr.heap.size+1≤v0.heap.size:=C6.out.lt;obtain⟨m0,m1,m2,u0,u1,u2,e0,e1,e2,ef⟩:=Z6.out.all C6.out;have KF:=ydf 8 ⟨#[]⟩ v0 (by decide) hfa R6.out (by omega)
       by_cases hn0:n=0
       ·have n0:(n != 0)=false:=by simp[hn0]
        by_cases ht0:t=⟨#[]⟩
        ·have et:(t.toList == [])=true:=by rw[ht0];kernel_rfl
         have HE2:Hid ((if zbJ (.mk 8 ⟨#[]⟩ acc)=true then some (.mk 8 ⟨#[]⟩ acc) else none)=r):=zz (by
          rw[←HE.out,yct]
          by_cases hf:zbJ (.mk 8 ⟨#[]⟩ acc)=true
          ·rw[if_pos hf,if_pos ⟨hn0,.inr (.inr ht0),hf⟩]
          ·rw[if_neg hf,if_neg (λe=>hf e.2.2)])
         clear HE hn0;go_wp2_with fail;(with_reducible refine KF.out.mono ?_);rintro e w7 ⟨rfl,hb⟩;have Z7:=zz (Z6.out.below hb);have C7:=zz (zaa hb C6.out);have R7:=zz (R6.out.below hb (λ_ hq=>Nat.lt_of_lt_of_le hq.2 (by omega)));have sz7:=hb.size;clear hb KF m0 m1 m2 u0 u1 u2 e0 e1 e2 ef;obtain⟨-,-,-,u0,u1,u2,e0,e1,e2,ef⟩:=Z7.out.all C7.out;obtain⟨fb,hfb⟩:∃fb,zbJ (.mk 8 ⟨#[]⟩ acc)=fb:=⟨_,rfl⟩;rw[hfb] at HE2 ⊢;clear hfb;cases fb with
         |false=>
          have HQ:Hid (none=r):=zz (by rw[←HE2.out,if_neg (by simp)]);clear HE2;go_wp2_with fail;exact Z7.out.bad rfl HQ.out rfl rfl rfl
         |true=>
          have HQ:Hid (some (.mk 8 ⟨#[]⟩ acc)=r):=zz (by rw[←HE2.out,if_pos rfl]);clear HE2;go_wp2_with fail;exact Z7.out.good rfl HQ.out rfl (by omega) R7.out rfl rfl rfl
        ·have et:=zez (l:=⟨#[]⟩) ht0;rw[show (⟨#[]⟩:ByteArray).toList=[] from by kernel_rfl] at et;have HQ:Hid (none=r):=zz (by rw[←HE.out,if_neg (λe=>by rcases e.2.1 with h|h|h<;>first|exact ht0 h|exact absurd h (by decide))]);clear ht0;clear HE KF;go_wp2_with fail;exact Z6.out.bad rfl HQ.out rfl rfl rfl
       ·have n0:(n != 0)=true:=by simp[hn0]
        have HQ:Hid (none=r):=zz (by rw[←HE.out,if_neg (λe=>hn0 e.1)]);clear hn0 HE KF
        by_cases ht0:t=⟨#[]⟩
        ·have et:(t.toList == [])=true:=by rw[ht0];kernel_rfl
         clear ht0;go_wp2_with fail;exact Z6.out.bad rfl HQ.out rfl rfl rfl
        ·have et:=zez (l:=⟨#[]⟩) ht0;rw[show (⟨#[]⟩:ByteArray).toList=[] from by kernel_rfl] at et;clear ht0;go_wp2_with fail;exact Z6.out.bad rfl HQ.out rfl rfl rfl
      ·have e15:(k == 15)=false:=by rw[beq_eq_false_iff_ne];exact h15
       have Z6:=Z5;have C6:=C5;have R6:=R5;have sz6:wr.heap.size+1≤w5.heap.size:=C6.out.lt;obtain⟨m0,m1,m2,u0,u1,u2,e0,e1,e2,ef⟩:=Z6.out.all C6.out;have KF:=ydf 0 ⟨#[]⟩ w5 (by decide) hfa R6.out (by omega)
       by_cases hn0:n=0
       ·have n0:(n != 0)=false:=by simp[hn0]
        by_cases ht0:t=⟨#[]⟩
        ·have et:(t.toList == [])=true:=by rw[ht0];kernel_rfl
         have HE2:Hid ((if zbJ (.mk 0 ⟨#[]⟩ acc)=true then some (.mk 0 ⟨#[]⟩ acc) else none)=r):=zz (by
          rw[←HE.out,show yco k t acc=.mk 0 ⟨#[]⟩ acc from by unfold yco;rw[if_neg h12,if_neg h14,if_neg h13,if_neg h15]]
          by_cases hf:zbJ (.mk 0 ⟨#[]⟩ acc)=true
          ·rw[if_pos hf,if_pos ⟨hn0,.inr (.inr ht0),hf⟩]
          ·rw[if_neg hf,if_neg (λe=>hf e.2.2)])
         clear HE hn0;go_wp2_with fail;(with_reducible refine KF.out.mono ?_);rintro e w7 ⟨rfl,hb⟩;have Z7:=zz (Z6.out.below hb);have C7:=zz (zaa hb C6.out);have R7:=zz (R6.out.below hb (λ_ hq=>Nat.lt_of_lt_of_le hq.2 (by omega)));have sz7:=hb.size;clear hb KF m0 m1 m2 u0 u1 u2 e0 e1 e2 ef;obtain⟨-,-,-,u0,u1,u2,e0,e1,e2,ef⟩:=Z7.out.all C7.out;obtain⟨fb,hfb⟩:∃fb,zbJ (.mk 0 ⟨#[]⟩ acc)=fb:=⟨_,rfl⟩;rw[hfb] at HE2 ⊢;clear hfb;cases fb with
         |false=>
          have HQ:Hid (none=r):=zz (by rw[←HE2.out,if_neg (by simp)]);clear HE2;go_wp2_with fail;exact Z7.out.bad rfl HQ.out rfl rfl rfl
         |true=>
          have HQ:Hid (some (.mk 0 ⟨#[]⟩ acc)=r):=zz (by rw[←HE2.out,if_pos rfl]);clear HE2;go_wp2_with fail;exact Z7.out.good rfl HQ.out rfl (by omega) R7.out rfl rfl rfl
        ·have et:=zez (l:=⟨#[]⟩) ht0;rw[show (⟨#[]⟩:ByteArray).toList=[] from by kernel_rfl] at et;have HQ:Hid (none=r):=zz (by rw[←HE.out,if_neg (λe=>by rcases e.2.1 with h|h|h<;>first|exact ht0 h|exact absurd h (by assumption))]);clear ht0;clear HE KF;go_wp2_with fail;exact Z6.out.bad rfl HQ.out rfl rfl rfl
       ·have n0:(n != 0)=true:=by simp[hn0]
        have HQ:Hid (none=r):=zz (by rw[←HE.out,if_neg (λe=>hn0 e.1)]);clear hn0 HE KF
        by_cases ht0:t=⟨#[]⟩
        ·have et:(t.toList == [])=true:=by rw[ht0];kernel_rfl
         clear ht0;go_wp2_with fail;exact Z6.out.bad rfl HQ.out rfl rfl rfl
        ·have et:=zez (l:=⟨#[]⟩) ht0;rw[show (⟨#[]⟩:ByteArray).toList=[] from by kernel_rfl] at et;clear ht0;go_wp2_with fail;exact Z6.out.bad rfl HQ.out rfl rfl rfl
theorem ydi:∀x:Nd,ydg x
 |.mk k t n a l=>ydh k t n a l (λx _hx=>ydi x)
end Go.Proofs.YtjdpocmlimkjjaaGreat
