/- Conditions: those in each statement. -/
import Derived.Test.YtcebmphappfjjaaGreatDoorQ03
import Derived.Test.YtcebmphappfjjaaGreatDoorQ01
import Derived.Deep.Upon
set_option maxHeartbeats 32000000
set_option maxRecDepth 100000
namespace Go.Proofs.YtcebmphappfjjaaGreatDoor
open Go.RowKit
def fnN:NT->FuncId
 |.typ=>223
 |.field=>220
 |.expr=>246
 |.heading=>255
 |.operand _=>257
 |.postf=>269
 |.primary=>279
 |.set=>218
 |.arm=>256
 |.bind=>278
 |.block=>247
 |.stmt=>258
 |.letS=>270
 |.branch=>272
 |.cases=>273
 |.sarm=>280
 |.send=>274
 |.doS=>275
 |.ctor=>222
 |.member=>226
 |.decl=>168
 |.group _=>281
def argN (b:Nat):NT->Array Value
 |.operand l=>#[.pointer (some ⟨b,0,none⟩),.int .i64 l]
 |.group a=>#[.pointer (some ⟨b,0,none⟩),.int .i64 a]
 |_=>#[.pointer (some ⟨b,0,none⟩)]
def NT.okay:NT->Prop
 |.operand l=>1<=l/\l<=8
 |_=>True
structure Recs (G:PG) (b k:Nat) (rec:NT->Ps->R Nd):Prop where
 adv:∀nt st,Adv (rec nt st) (st.next+1)
 run:∀(nt:NT) (st:Ps),nt.okay->need G.T nt st<k->∀w,PsAt G b w st->Calls Tryz.prog (fnN nt) (argN b nt) w (zaG G b QNd (rec nt st) w)
theorem Recs.next {G:PG} {b k:Nat} {rec:NT->Ps->R Nd} (h:Recs G b k rec) {nt:NT} {st st1:Ps} {n:Nd} (e:rec nt st=.ok (n,st1)):st.next+1<=st1.next:=h.adv nt st n st1 e
theorem Own1.trans {b:Nat} {w w1 w2:World} (h:Own1 b w w1) (k:Own1 b w1 w2):Own1 b w w2:=Chg.next h k
theorem Own1.of_below {b:Nat} {w w1 w2:World} (h:Own1 b w w1) (k:Below w1.heap.size w1 w2):Own1 b w w2:=Chg.thenBelow h k
theorem Own1.rd {b:Nat} {w1 w2:World} (k:Own1 b w1 w2) {lo:Nat} (hlo:b<lo) {d:D} {v:Value} (h:Rd (Bt lo w1.heap.size) w1 d v):Rd (Bt lo w2.heap.size) w2 d v:=
 (Chg.rd k (ok:=Bt lo w1.heap.size) (λq hq=>⟨hq.2,λe=>by have:=hq.1;omega⟩) h).weaken (λ_ hq=>⟨hq.1,Nat.lt_of_lt_of_le hq.2 k.size⟩)
theorem zaF {w1 w2:World} (k:Below w1.heap.size w1 w2) {lo:Nat} {d:D} {v:Value} (h:Rd (Bt lo w1.heap.size) w1 d v):Rd (Bt lo w2.heap.size) w2 d v:=
 (h.below k (λ_ hq=>hq.2)).weaken (λ_ hq=>⟨hq.1,Nat.lt_of_lt_of_le hq.2 k.size⟩)
theorem Own1.cells {b:Nat} {w1 w2:World} (k:Own1 b w1 w2) {g:Nat} {cs:Array Value} {e:TypeId} (h:zab w1 g cs e) (hg:¬g=b):zab w2 g cs e:=h.keep k hg
theorem zaa {w1 w2:World} (k:Below w1.heap.size w1 w2) {g:Nat} {cs:Array Value} {e:TypeId} (h:zab w1 g cs e):zab w2 g cs e:=(k.block g h.lt).trans h
theorem Own1.owned {b:Nat} {w1 w2:World} (k:Own1 b w1 w2) {lo:Nat} (hlo:b<lo) {e:TypeId} {m n:Nat} {f:Nat->Nat->D} {v:Value} (h:zaz lo e m n f w1 v):zaz lo e m n f w2 v:=h.chg k (λj hj=>by omega)
def zfK (x:Nd) (A:Option Addr) (c:Nat):List Value:=[.int .i64 x.kind,.string x.text,.int .i64 x.n,.int .i64 x.at',.slice A x.kids.length c]
structure NdV where
 x:Nd
 A:Option Addr
 c:Nat
def NdV.cells (y:NdV):List Value:=zfK y.x y.A y.c
theorem zfM:∀(l:List NdV) (i j:Nat) (y:NdV),l[i]?=some y->j<5->(l.flatMap NdV.cells)[i*5+j]?=(y.cells)[j]?
 |[],i,j,y,h,_=>by simp at h
 |z::r,0,j,y,h,hj=>by
  simp at h;subst h;rw[List.flatMap_cons,Nat.zero_mul,Nat.zero_add,List.getElem?_append_left (by show j<5;exact hj)]
 |z::r,i+1,j,y,h,hj=>by
  rw[List.flatMap_cons,List.getElem?_append_right (by show 5<=_;omega),show (i+1)*5+j-z.cells.length=i*5+j by show _-5=_;omega];exact zfM r i j y (by simpa using h) hj
theorem zuk (l:List NdV) {w:World} {lo:Nat} (hlo:lo<=w.heap.size) (h:∀y∈l,Rd (Bt lo w.heap.size) w (ns y.x.kids) (.slice y.A y.x.kids.length y.c)) (hn:l.length<=32768) :
 Rd (Bt lo (w.alloc (.cells (l.flatMap NdV.cells).toArray 49)).heap.size) (w.alloc (.cells (l.flatMap NdV.cells).toArray 49)) (ns (l.map NdV.x)) (.slice (some ⟨w.heap.size,0,none⟩) (l.map NdV.x).length l.length):=by
 have hb:=(Below.refl w.heap.size w).alloc (Nat.le_refl _) (.cells (l.flatMap NdV.cells).toArray 49);refine Rd.sl_mk (by simp) (by omega) λ_=>⟨w.heap.size,0,rfl,⟨hlo,by simp⟩,λi hi j hj=>?_⟩;have hi':i<l.length:=by simpa using hi
 have hy:l[i]?=some l[i]:=List.getElem?_eq_getElem hi';have hr:=zaF hb (h l[i] (List.getElem_mem hi'));rw[zeW (l.map NdV.x) i l[i].x (by rw[List.getElem?_map,hy];rfl)];have hu:(l[i].cells)[j]?=some ((l[i].cells)[j]'(show j<5 from hj)):=List.getElem?_eq_getElem (show j<5 from hj);refine⟨_,?_,zby hr j _ hu⟩;rw[Nat.zero_add,zbG,List.getElem?_toArray,zfM l i j _ hy hj];exact hu
theorem zlo (l:List NdV) {w:World} {lo:Nat} (hlo:lo<=w.heap.size) (h:∀y∈l,Rd (Bt lo w.heap.size) w (ns y.x.kids) (.slice y.A y.x.kids.length y.c)) (hn:l.length<=32768) :
 zaz lo 49 5 (l.map NdV.x).length (zan Nd.row (l.map NdV.x)) (w.alloc (.cells (l.flatMap NdV.cells).toArray 49)) (.slice (some ⟨w.heap.size,0,none⟩) (l.map NdV.x).length l.length):=by
 have hb:=(Below.refl w.heap.size w).alloc (Nat.le_refl _) (.cells (l.flatMap NdV.cells).toArray 49)
 have hsz:(l.flatMap NdV.cells).length=l.length*5:=by
  clear h hn hb
  induction l with
  |nil=>rfl
  |cons y r ih=>rw[List.flatMap_cons,List.length_append,ih,List.length_cons];show 5+_=_;omega
 refine .inr ⟨w.heap.size,l.length,rfl,hlo,by simp,by omega,⟨_,heap_alloc_new w _,by simpa using hsz⟩,λi hi j hj=>?_⟩;have hi':i<l.length:=by simpa using hi
 have hy:l[i]?=some l[i]:=List.getElem?_eq_getElem hi';have hr:=h l[i] (List.getElem_mem hi');rw[zas (l:=l.map NdV.x) (i:=i) (x:=l[i].x) (by rw[List.getElem?_map,hy];rfl)];have hu:(l[i].cells)[j]?=some ((l[i].cells)[j]'(show j<5 from hj)):=List.getElem?_eq_getElem (show j<5 from hj);refine⟨_,?_,zby ?_ j _ hu⟩
 ·rw[zbG,List.getElem?_toArray,zfM l i j _ hy hj];exact hu
 ·exact(hr.below hb (λ_ hq=>hq.2)).weaken (λq hq=>⟨⟨hq.1,Nat.lt_of_lt_of_le hq.2 hb.size⟩,by have:=hq.2;omega⟩)
section
variable {T:List Tok} {en:Int} {st:Ps}
theorem zqw {l:ByteArray} (h:zao T st=l):zax T en l st=.ok ((),st.adv):=by unfold zax;rw[if_pos h]
theorem zjf {l:ByteArray} (h:¬zao T st=l):zax T en l st=.error (zaC T en st):=by unfold zax zhu;rw[if_neg h]
theorem zlX {q:ByteArray->Bool} (h:q (zao T st)=true):zbw T en q st=.ok (zao T st,st.adv):=by unfold zbw;rw[if_pos h]
theorem zjR {q:ByteArray->Bool} (h:q (zao T st)=false):zbw T en q st=.error (zaC T en st):=by unfold zbw zhu;rw[if_neg (by rw[h];simp)]
end
theorem R.next_ok {α β:Type} {a:α} {st:Ps} {f:α->Ps->R β}:R.next (.ok (a,st)) f=f a st:=rfl
theorem R.next_err {α β:Type} {a:Int} {f:α->Ps->R β}:R.next (.error a:R α) f=.error a:=rfl
theorem zaf {α:Type} {G:PG} {b:Nat} {Q:α->World->Ending->World->Prop} {x:R α} {a:Int} {w w':World} (hF:x=.error a) (h:Own1 b w w'):zaG G b Q x w (zcJ a) w':=by
 rw[hF];exact⟨h,rfl⟩
section
variable {α β:Type} {P:Program} {fn:FuncId} {args:Array Value} {G:PG} {b:Nat} {w0 W:World} {S:Ending->World->Prop}
theorem zaG.next {Q:α->World->Ending->World->Prop} {x:R α} {f:α->Ps->R β} {r:R β} (HF:Hid (R.next x f=r)) (O:Hid (Own1 b w0 W)) (K:Calls P fn args W (zaG G b Q x W)) (hE:∀a w',r=.error a->Own1 b w0 w'->S (zcJ a) w')
 (hO:∀v st' e w',x=.ok (v,st')->Hid (f v st'=r)->Own1 b W w'->PsAt G b w' st'->Q v W e w'->S e w'):Calls P fn args W S:=K.mono (λe w' h=>by
 obtain⟨hc,h⟩:=h;cases x with
 |error a=>
  have h:e=zcJ a:=h;subst h;exact hE a w' HF.out.symm (O.out.trans hc)
 |ok p=>
  obtain⟨v,st'⟩:=p;exact hO v st' e w' rfl HF hc h.1 h.2)
theorem zaG.nextE {l:ByteArray} {st:Ps} {f:Unit->Ps->R β} {r:R β} (HF:Hid (R.next (zax G.T G.en l st) f=r)) (O:Hid (Own1 b w0 W)) (K:Calls P fn args W (zaG G b zuj (zax G.T G.en l st) W)) (hE:∀a w',r=.error a->Own1 b w0 w'->S (zcJ a) w')
 (hO:∀w',Hid (f () st.adv=r)->Own1 b W w'->PsAt G b w' st.adv->S (.returned (.tuple #[])) w'):Calls P fn args W S:=zaG.next HF O K hE (λv st' e w' hx hf hc hp hq=>by
 have hq:e=.returned (.tuple #[]):=hq;subst hq;unfold zax zhu at hx
 split at hx
 ·injection hx with hx;injection hx with _ h2;subst h2;exact hO w' hf hc hp
 ·cases hx)
theorem zaG.nextN {q:ByteArray->Bool} {st:Ps} {f:ByteArray->Ps->R β} {r:R β} {Q:ByteArray->World->Ending->World->Prop} (hQ:Q=QStr) (HF:Hid (R.next (zbw G.T G.en q st) f=r)) (O:Hid (Own1 b w0 W)) (K:Calls P fn args W (zaG G b Q (zbw G.T G.en q st) W)) (hE:∀a w',r=.error a->Own1 b w0 w'->S (zcJ a) w')
 (hO:∀w',Hid (f (zao G.T st) st.adv=r)->Own1 b W w'->PsAt G b w' st.adv->S (.returned (.string (zao G.T st))) w'):Calls P fn args W S:=zaG.next HF O K hE (λv st' e w' hx hf hc hp hq=>by
 subst hQ;have hq:e=.returned (.string v):=hq;subst hq;unfold zbw zhu at hx
 split at hx
 ·injection hx with hx;injection hx with h1 h2;subst h1 h2;exact hO w' hf hc hp
 ·cases hx)
end
theorem zux {G:PG} {b:Nat} {F:R Nd} {x:Nd} {st':Ps} {w W:World} {A:Option Addr} {c lo:Nat} (hF:F=.ok (x,st')) (own:Own1 b w W) (hb:b<w.heap.size) (hlim:G.lim<=w.heap.size) (ps:PsAt G b W st') (hlo:w.heap.size<lo)
 (rd:Rd (Bt lo W.heap.size) W (ns x.kids) (.slice A x.kids.length c)) {m:Nat} (hm:m=x.kids.length) (u0 u1 u2 u3 u4:Value) :
 zaG G b QNd F w (.returned (.agg #[.int .i64 x.kind,.string x.text,.int .i64 x.n,.int .i64 x.at',.slice A m c])) (((((W.setCell ⟨w.heap.size,0,none⟩ u0).setCell ⟨w.heap.size,1,none⟩ u1).setCell ⟨w.heap.size,2,none⟩ u2).setCell ⟨w.heap.size,3,none⟩ u3).setCell ⟨w.heap.size,4,none⟩ u4):=by
 have hc:Chg (λk=>k=w.heap.size) W (((((W.setCell ⟨w.heap.size,0,none⟩ u0).setCell ⟨w.heap.size,1,none⟩ u1).setCell ⟨w.heap.size,2,none⟩ u2).setCell ⟨w.heap.size,3,none⟩ u3).setCell ⟨w.heap.size,4,none⟩ u4):=
  ((((((Chg.refl (λk=>k=w.heap.size) W).setCell (p:=⟨w.heap.size,0,none⟩) (.inl rfl) u0).setCell (p:=⟨w.heap.size,1,none⟩) (.inl rfl) u1).setCell (p:=⟨w.heap.size,2,none⟩) (.inl rfl) u2).setCell (p:=⟨w.heap.size,3,none⟩) (.inl rfl) u3).setCell (p:=⟨w.heap.size,4,none⟩) (.inl rfl) u4)
 subst hm;rw[hF];refine⟨Chg.trans own hc (λj hj=>.inr (by omega)),ps.keep hc (λk hk=>⟨by omega,by omega⟩),A,c,rfl,?_⟩;exact(hc.rd (ok:=Bt lo W.heap.size) (λq hq=>⟨hq.2,by have:=hq.1;omega⟩) rd).weaken (λq hq=>⟨by have:=hq.1;omega,Nat.lt_of_lt_of_le hq.2 hc.size⟩)
theorem zqm {G:PG} {b m:Nat} {F:R (List Nd)} {l:List Nd} {st':Ps} {w W:World} {A:Option Addr} {c lo n:Nat} (hF:F=.ok (l,st')) (own:Own1 b w W) (ps:PsAt G b W st') (hlo:w.heap.size<=lo) (hl:l.length<=m)
 (ho:zaz lo 49 5 l.length (zan Nd.row l) W (.slice A l.length c)) (hn:n=l.length):zaG G b (QNs m) F w (.returned (.slice A n c)) W:=by
 subst hn;rw[hF];exact⟨own,ps,A,c,rfl,hl,ho.lower hlo⟩
theorem zeb {W:World} {g g' j:Nat} {u0 u1 u2 u3 u4:Value} (h:¬g'=g):(((((W.setCell ⟨g,0,none⟩ u0).setCell ⟨g,1,none⟩ u1).setCell ⟨g,2,none⟩ u2).setCell ⟨g,3,none⟩ u3).setCell ⟨g,4,none⟩ u4).cell? ⟨g',j,none⟩=W.cell? ⟨g',j,none⟩:=by
 have hn:∀i:Nat,(⟨g,i,none⟩:Addr)≠⟨g',j,none⟩:=λi e=>by injection e with e _ _;exact h e.symm
 rw[World.cell?_setCell_other _ _ _ _ (hn 4),World.cell?_setCell_other _ _ _ _ (hn 3),World.cell?_setCell_other _ _ _ _ (hn 2),World.cell?_setCell_other _ _ _ _ (hn 1),World.cell?_setCell_other _ _ _ _ (hn 0)]
theorem zam {s:ByteArray} {l:List UInt8} (h:¬s=⟨l.toArray⟩):(s.toList == l)=false:=by
 have:=zfo h
 rwa [ByteArray.toList_eq (⟨l.toArray⟩:ByteArray)] at this
section
variable {G:PG} {st:Ps} {rec:NT->Ps->R Nd} {k:Nat} {tk:Tok}
theorem zsL (h:zcq G st=tk) (hk:¬tk.kind=0):G.T[st.next]?=some tk/\st.next+1<=G.T.length:=by
 unfold zcq at h;cases hx:G.T[st.next]? with
 |none=>rw[hx] at h;simp only at h;subst h;exact absurd rfl hk
 |some t=>rw[hx] at h;simp only at h;subst h;exact⟨rfl,(List.getElem?_eq_some_iff.1 hx).1⟩
theorem zmc (h:zcq G st=tk) (h2:tk.kind=2):zcA G.T G.en rec k st=.ok (.mk 20 ⟨#[]⟩ tk.n tk.at' [],st.adv)/\st.next+1<=G.T.length:=by
 obtain⟨h3,h4⟩:=zsL h (by omega);refine⟨?_,h4⟩;unfold zcA;rw[h3];simp only;rw[if_pos h2]
theorem zkM (h:zcq G st=tk) (h2:tk.kind=3):zcA G.T G.en rec k st=.ok (.mk 21 tk.text 0 tk.at' [],st.adv)/\st.next+1<=G.T.length:=by
 obtain⟨h3,h4⟩:=zsL h (by omega);refine⟨?_,h4⟩;unfold zcA;rw[h3];simp only;rw[if_neg (by omega),if_pos h2]
theorem zjJ (h:zcq G st=tk) (h2:¬tk.kind=2) (h3:¬tk.kind=3):zcA G.T G.en rec k st=zfn G.T G.en rec k st:=by
 unfold zcA;unfold zcq at h;cases hx:G.T[st.next]? with
 |none=>rfl
 |some t=>rw[hx] at h;simp only at h;subst h;simp only;rw[if_neg h2,if_neg h3]
end
theorem zlZ {G:PG} {b:Nat} {F:R Int} {n:Int} {st':Ps} {w W:World} (hF:F=.ok (n,st')) (own:Own1 b w W) (ps:PsAt G b W st'):zaG G b QInt F w (.returned (.int .i64 n)) W:=by
 rw[hF];exact⟨own,ps,rfl⟩
theorem ztI {G:PG} {b:Nat} {w:World} {st st':Ps} {n:Int} (h:PsAt G b w st) (e:zcb G.T G.en st=.ok (n,st')):-9007199254740993<=n/\n<=9007199254740993/\st'=st.adv:=by
 unfold zcb at e;cases hx:G.T[st.next]? with
 |none=>rw[hx] at e;cases e
 |some t=>
  rw[hx] at e;simp only at e
  split at e
  ·injection e with e;injection e with e1 e2;subst e1 e2;have:=h.nm t (List.mem_of_getElem? hx);exact⟨by omega,by omega,rfl⟩
  ·cases e
theorem zaz.appendMany {B:Nat} {e:TypeId} {k n m:Nat} {f f':Nat->Nat->D} {w w':World} {v:Value} {xs news:List Value} {g cap:Nat} (h:zaz B e k n f w v) (hown:w.ownsRow B e k v n xs)
 (hown':w'.ownsRow B e k (.slice (some ⟨g,0,none⟩) (n+m) cap) (n+m) (xs++news)) (hg:w.grownBy w' v.ownBlock) (hat:v.ownBlock=some g\/g=w.heap.size) (hk:news.length=m*k)
 (hf:∀a,a<n->f' a=f a) (hnew:∀i j u,i<m->j<k->news[i*k+j]?=some u->Rd (λb=>Bt B w.heap.size b/\some b≠v.ownBlock) w (f' (n+i) j) u) :
 zaz B e k (n+m) f' w' (.slice (some ⟨g,0,none⟩) (n+m) cap):=by
 have hxl:xs.length=n*k:=hown.1;have hcells:=hown'.cells (g:=g) rfl;rcases hown'.2 with ⟨hv,_⟩|⟨g',cap',cur,hv,hBg,hcur,hnc,hc,hsz,_⟩
 ·injection hv with hv;cases hv
 injection hv with hv1 _ hv3;injection hv1 with hv1;injection hv1 with hv1;subst hv1 hv3
 have keep:∀{d:D} {u:Value},Rd (λb=>Bt B w.heap.size b/\some b≠v.ownBlock) w d u->Rd (λb=>Bt B w'.heap.size b/\b≠g) w' d u:=λhd=>
  (hd.keep (λb o hb=>World.cell?_of_block (hg.block b hb.1.2 hb.2))).weaken (λb hb=>⟨⟨hb.1.1,Nat.lt_of_lt_of_le hb.1.2 hg.size⟩,λhbg=>by
   subst hbg;rcases hat with h1|h1
   ·exact hb.2 h1.symm
   ·have:=hb.1.2;omega⟩)
 refine .inr ⟨g,cap,rfl,hBg,hnc,hc,⟨cur,hcur,hsz⟩,λa ha j hj=>?_⟩;rcases Nat.lt_or_ge a n with han|han
 ·have hak:=zdO (k:=k) han;have hu:xs[a*k+j]?=some (xs[a*k+j]'(by omega)):=List.getElem?_eq_getElem (by omega);have hc1:=hcells (a*k+j) _ ((List.getElem?_append_left (by omega)).trans hu);rw[Addr.add_lit,Nat.zero_add] at hc1;refine⟨_,hc1,?_⟩;rw[hf a han];rcases h with ⟨_,h0⟩|⟨g0,c0,rfl,_,_,_,_,hr⟩
  ·omega
  obtain⟨u,hcu,hd⟩:=hr a han j hj;have hc0:=hown.cells (g:=g0) rfl (a*k+j) _ hu;rw[Addr.add_lit,Nat.zero_add,hcu] at hc0;have he:=Option.some.inj hc0;rw[<-he]
  exact keep (hd.weaken (λb hb=>⟨hb.1,λh=>by
   have:some b=some g0:=h;injection this with this;exact hb.2 this⟩))
 ·obtain⟨i,rfl⟩:∃i,a=n+i:=⟨a-n,by omega⟩;have him:i<m:=by omega
  have hik:=zdO (k:=k) him;have hd:(n+i)*k+j-n*k=i*k+j:=by rw[Nat.add_mul];omega
  have hge:n*k<=(n+i)*k+j:=by rw[Nat.add_mul];omega
  have hu:news[i*k+j]?=some (news[i*k+j]'(by omega)):=List.getElem?_eq_getElem (by omega);have hc1:=hcells ((n+i)*k+j) _ (by rw[List.getElem?_append_right (by omega),hxl,hd];exact hu);rw[Addr.add_lit,Nat.zero_add] at hc1;exact⟨_,hc1,keep (hnew i j _ him hj hu)⟩
theorem ziH {T E:TypeId} {size bytes:Nat} {z:Value} (hinfo:(Tryz.prog.info? E).map (λi=>(i.zero,i.size,i.bytes))=some (some z,size,bytes)) (hund:Tryz.prog.underlying T=some (.slice E)) (hzs:z.cells.size=size) (hsz:0<size) (hbb:bytes<=8192)
 {w:World} {ops:Array Oper} {rest:List Oper} {o:Oper} {a:Act} {Q:Exit->Act->World->Prop} (hgd:o.guard=none) (s x:Operand)
 (ho:o.op=.call {callee:=.builtin .append,args:=#[s,x],argTypes:=#[T,T] })
 (B:Nat) (hB:B<=w.heap.size) (v:Value) (n:Nat) (f:Nat->Nat->D) (hs:a.eval s=v) (hO:zaz B E size n f w v)
 (m c:Nat) (A:Option Addr) (fl f':Nat->Nat->D) (hx:a.eval x=.slice A m c)
 (hsrc:0<m->∃b off,A=some ⟨b,off,none⟩/\∀i,i<m->zcI (λb=>Bt B w.heap.size b/\some b≠v.ownBlock) w b (off+i*size) size (fl i))
 (hf:∀a,a<n->f' a=f a) (hf2:∀i j,i<m->j<size->f' (n+i) j=fl i j) (hlen:n+m<=4194304)
 (h:∀v' w',zaz B E size (n+m) f' w' v'->w.grownBy w' v.ownBlock->(∀q,v'.ownBlock=some q->v.ownBlock=some q\/q=w.heap.size)->wpList Tryz.prog ops Q rest (a.put o.dst v') w'):wpList Tryz.prog ops Q (o::rest) a w:=by
 obtain⟨i0,hi0,hz0,hz1,hz2⟩:=info_parts hinfo
 by_cases hm0:m=0
 ·subst hm0
  have hsr:Src Tryz.prog i0.size T (.slice A 0 c) 0 [] w:=by
   cases A with
   |none=>exact Src.ofNil w hund c
   |some p=>exact Src.ofSlice w hund p 0 c [] (by simp) (λj u hu=>by simp at hu) (λu hu=>by simp at hu)
  obtain⟨A0,c0,e,hnc,_⟩:=hO.rd.sl_inv;have hrun:=run_append_nothing (P:=Tryz.prog) w T T o.type E i0 hund hi0 A0 n c0 hnc _ hsr;subst e;refine wpList_plain hgd λK hK=>?_;unfold Oper.wp;simp[execOp,ho,resolve,invoke,builtin,hs,hx,hrun,Result.andThen];refine hK _ _ (h _ w ?_ ⟨rfl,rfl,rfl,Nat.le_refl _,λ_ _ _=>rfl⟩ (λq hq=>.inl hq));rcases hO with ⟨h1,h2⟩|⟨g,c1,h1,h2,h3,h4,h5,h6⟩
  ·exact .inl ⟨h1,h2⟩
  ·exact .inr ⟨g,c1,h1,h2,h3,h4,h5,λk hk=>by rw[hf k hk];exact h6 k hk⟩
 ·obtain⟨b,off,rfl,hrow⟩:=hsrc (by omega);obtain⟨xs,hown⟩:=hO.own;obtain⟨news,hnws⟩:∃news:List Value,news=(List.range (m*size)).map (λq=>(w.cell? ⟨b,off+q,none⟩).getD undef):=⟨_,rfl⟩;have hnl:news.length=m*size:=by rw[hnws];simp
  have hget:∀q,q<m*size->∃u,news[q]?=some u/\w.cell? ⟨b,off+q,none⟩=some u/\Rd (λb=>Bt B w.heap.size b/\some b≠v.ownBlock) w (fl (q / size) (q % size)) u:=λq hq=>by
   have h1:q / size<m:=Nat.div_lt_of_lt_mul (by rw[Nat.mul_comm];exact hq);have h2:q % size<size:=Nat.mod_lt _ hsz;have h3:q / size*size+q % size=q:=by rw[Nat.mul_comm];exact Nat.div_add_mod q size
   obtain⟨u,hu,hd⟩:=hrow _ h1 _ h2;rw[Nat.add_assoc,h3] at hu;refine⟨u,?_,hu,hd⟩;rw[hnws];simp[hq,hu]
  have hb:(n+m)*bytes<=4194304*8192:=Nat.mul_le_mul hlen hbb;refine wpList_append_lies w hgd s x T ho B E i0 z size bytes hund hi0 hz0 hz1 hz2 hzs hsz v n xs hs hown ⟨b,off,none⟩ m c news hx hnl (λj u hj=>?_) (λu hu=>?_) (by omega) (by unfold maxLen;omega) (by omega) hB w.heap.size rfl ?_
  ·have hjl:=(List.getElem?_eq_some_iff.1 hj).1;obtain⟨u',h1,h2,_⟩:=hget j (by omega);rw[Addr.add_lit,h2,<-h1,hj]
  ·obtain⟨j,hj⟩:=List.getElem?_of_mem hu;have hjl:=(List.getElem?_eq_some_iff.1 hj).1;obtain⟨u',h1,_,h3⟩:=hget j (by omega);rw[h1] at hj;obtain rfl:=Option.some.inj hj;exact h3.oneCell
  intro g cap w' h2 h3 h4 _
  refine h _ w' ?_ h3 (λq hq=>by
   obtain rfl:g=q:=Option.some.inj hq;exact h4)
  refine hO.appendMany hown h2 h3 h4 hnl hf (λi j u hi hj hu=>?_);have hik:=zdO (k:=size) hi;obtain⟨u',h5,_,h6⟩:=hget (i*size+j) (by omega);rw[h5] at hu;obtain rfl:=Option.some.inj hu;have e1:(i*size+j) / size=i:=by rw[Nat.add_comm,Nat.add_mul_div_right _ _ hsz,Nat.div_eq_of_lt hj];omega
  have e2:(i*size+j) % size=j:=by rw[Nat.add_comm,Nat.add_mul_mod_self_right,Nat.mod_eq_of_lt hj]
  rw[e1,e2] at h6;rw[hf2 i j hi hj];exact h6
def zbc (x B:Nat) (e:TypeId) (k n:Nat) (f:Nat->Nat->D) (w:World) (v:Value):Prop:=
 (v=.slice none 0 0/\n=0)\/
 ∃g c,v=.slice (some ⟨g,0,none⟩) n c/\B<=g/\g≠x/\n<=c/\c<=9223372036854775807/\Blk w g e (c*k)/\∀a,a<n->zcI (λb=>Bt B w.heap.size b/\b≠g/\b≠x) w g (a*k) k (f a)
section
variable {x B:Nat} {e:TypeId} {k n:Nat} {f:Nat->Nat->D} {w w':World} {v:Value} {M:Nat->Prop}
theorem zbc.owned (h:zbc x B e k n f w v):zaz B e k n f w v:=by
 rcases h with h|⟨g,c,h1,h2,_,h3,h4,h5,h6⟩
 ·exact .inl h
 ·exact .inr ⟨g,c,h1,h2,h3,h4,h5,λa ha=>(h6 a ha).weaken (λb hb=>⟨hb.1,hb.2.1⟩)⟩
theorem zaz.ex (h:zaz B e k n f w v) (hx:w.heap.size<=x):zbc x B e k n f w v:=by
 rcases h with h|⟨g,c,h1,h2,h3,h4,h5,h6⟩
 ·exact .inl h
 ·exact .inr ⟨g,c,h1,h2,by have:=h5.lt;omega,h3,h4,h5,λa ha=>(h6 a ha).weaken (λb hb=>⟨hb.1,hb.2,by have:=hb.1.2;omega⟩)⟩
theorem zbc.chg (h:zbc x B e k n f w v) (hc:Chg M w w') (hm:∀j,M j->j<B\/j=x):zbc x B e k n f w' v:=by
 rcases h with h|⟨g,c,rfl,hB,hgx,hnc,hcm,⟨cur,hcur,hsz⟩,hr⟩
 ·exact .inl h
 ·have hg:g<w.heap.size:=(Array.getElem?_eq_some_iff.1 hcur).1
  have keep:∀j,B<=j->j<w.heap.size->j≠x->w'.heap[j]?=w.heap[j]?:=λj h1 h2 h3=>hc.block j h2 (λhmj=>by
   rcases hm j hmj with h|h
   ·omega
   ·exact h3 h)
  refine .inr ⟨g,c,rfl,hB,hgx,hnc,hcm,⟨cur,(keep g hB hg hgx).trans hcur,hsz⟩,λa ha=>?_⟩;refine zcI.weaken (ok:=λb=>Bt B w.heap.size b/\b≠g/\b≠x) (λb hb'=>⟨⟨hb'.1.1,Nat.lt_of_lt_of_le hb'.1.2 hc.size⟩,hb'.2⟩) ?_;exact(hr a ha).keep (λb o hb'=>World.cell?_of_block (a:=⟨b,o,none⟩) (keep b hb'.1.1 hb'.1.2 hb'.2.2)) (λj _=>World.cell?_of_block (a:=⟨g,_,none⟩) (keep g hB hg hgx))
theorem zbc.below (h:zbc x B e k n f w v) (hb:Below w.heap.size w w'):zbc x B e k n f w' v:=h.chg (Chg.of_below (M:=λ_=>False) hb) (λ_ h=>h.elim)
theorem Own1.ownedX {b:Nat} (hc:Chg (λk=>k=b) w w') (hlo:b<B) (h:zbc x B e k n f w v):zbc x B e k n f w' v:=h.chg hc (λj hj=>.inl (by omega))
end
theorem zbc.append {x B:Nat} {e:TypeId} {k n:Nat} {f f':Nat->Nat->D} {w w':World} {v:Value} {xs news:List Value} {g cap:Nat} (h:zbc x B e k n f w v) (hxl0:x<w.heap.size) (hown:w.ownsRow B e k v n xs)
 (hown':w'.ownsRow B e k (.slice (some ⟨g,0,none⟩) (n+1) cap) (n+1) (xs++news)) (hg:w.grownBy w' v.ownBlock) (hat:v.ownBlock=some g\/g=w.heap.size) (hk:news.length=k)
 (hf:∀a,a<n->f' a=f a) (hnew:∀j u,news[j]?=some u->Rd (λb=>(Bt B w.heap.size b/\some b≠v.ownBlock)/\b≠x) w (f' n j) u) :
 zbc x B e k (n+1) f' w' (.slice (some ⟨g,0,none⟩) (n+1) cap):=by
 have hxl:xs.length=n*k:=hown.1;have hcells:=hown'.cells (g:=g) rfl;rcases hown'.2 with ⟨hv,_⟩|⟨g',cap',cur,hv,hBg,hcur,hnc,hc,hsz,_⟩
 ·injection hv with hv;cases hv
 injection hv with hv1 _ hv3;injection hv1 with hv1;injection hv1 with hv1;subst hv1 hv3
 have keep:∀{d:D} {u:Value},Rd (λb=>(Bt B w.heap.size b/\some b≠v.ownBlock)/\b≠x) w d u->Rd (λb=>Bt B w'.heap.size b/\b≠g/\b≠x) w' d u:=λhd=>
  (hd.keep (λb o hb=>World.cell?_of_block (hg.block b hb.1.1.2 hb.1.2))).weaken (λb hb=>⟨⟨hb.1.1.1,Nat.lt_of_lt_of_le hb.1.1.2 hg.size⟩,λhbg=>by
   subst hbg;rcases hat with h1|h1
   ·exact hb.1.2 h1.symm
   ·have:=hb.1.1.2;omega,hb.2⟩)
 have hgx:g≠x:=by
  rcases hat with h1|h1
  ·rcases h with ⟨h2,_⟩|⟨g0,c0,h2,_,hx0,_⟩
   ·rw[h2] at h1;cases h1
   ·rw[h2] at h1;have:g0=g:=Option.some.inj h1;omega
  ·omega
 refine .inr ⟨g,cap,rfl,hBg,hgx,hnc,hc,⟨cur,hcur,hsz⟩,λa ha j hj=>?_⟩;rcases Nat.lt_or_ge a n with han|han
 ·have hak:=zdO (k:=k) han;have hu:xs[a*k+j]?=some (xs[a*k+j]'(by omega)):=List.getElem?_eq_getElem (by omega);have hc1:=hcells (a*k+j) _ ((List.getElem?_append_left (by omega)).trans hu);rw[Addr.add_lit,Nat.zero_add] at hc1;refine⟨_,hc1,?_⟩;rw[hf a han];rcases h with ⟨_,h0⟩|⟨g0,c0,rfl,_,_,_,_,_,hr⟩
  ·omega
  obtain⟨u,hcu,hd⟩:=hr a han j hj;have hc0:=hown.cells (g:=g0) rfl (a*k+j) _ hu;rw[Addr.add_lit,Nat.zero_add,hcu] at hc0;have he:=Option.some.inj hc0;rw[<-he]
  exact keep (hd.weaken (λb hb=>⟨⟨hb.1,λh=>by
   have:some b=some g0:=h;injection this with this;exact hb.2.1 this⟩,hb.2.2⟩))
 ·obtain rfl:a=n:=by omega
  have hu:news[j]?=some (news[j]'(by omega)):=List.getElem?_eq_getElem (by omega);have hc1:=hcells (a*k+j) _ (by rw[List.getElem?_append_right (by omega),hxl,show a*k+j-a*k=j by omega];exact hu);rw[Addr.add_lit,Nat.zero_add] at hc1;exact⟨_,hc1,keep (hnew j _ hu)⟩
theorem zgY {α:Type} (row:α->Nat->D) {T E:TypeId} {size bytes:Nat} {z:Value} (hinfo:(Tryz.prog.info? E).map (λi=>(i.zero,i.size,i.bytes))=some (some z,size,bytes)) (hund:Tryz.prog.underlying T=some (.slice E)) (hzs:z.cells.size=size) (hsz:0<size) (hbb:bytes<=8192)
 {w:World} {ops:Array Oper} {o:Oper} {a:Act} {K:Act->World->Prop} {Q:Exit->Act->World->Prop} {Ee:Prop} (hgd:o.guard=none) (s x:Operand)
 (ho:o.op=.call {callee:=.builtin .append,args:=#[s,x],argTypes:=#[T,T] })
 (X B:Nat) (hB:B<=w.heap.size) (hX:X<w.heap.size) (v:Value) (acc:List α) (hs:a.eval s=v) (hO:zbc X B E size acc.length (zan row acc) w v)
 (ad:Addr) (c:Nat) (y:α) (cs:List Value) (hcl:cs.length=size) (hx:a.eval x=.slice (some ad) 1 c) (hcells:∀(j:Nat) (u:Value),cs[j]?=some u->w.cell? (ad.add j)=some u)
 (hrd:∀(j:Nat) (u:Value),cs[j]?=some u->Rd (λb=>(Bt B w.heap.size b/\some b≠v.ownBlock)/\b≠X) w (row y j) u) (hlen:acc.length<=2097152)
 (h:∀v' w',zbc X B E size (acc++[y]).length (zan row (acc++[y])) w' v'->w.grownBy w' v.ownBlock->(∀q,v'.ownBlock=some q->v.ownBlock=some q\/q=w.heap.size)->K (a.put o.dst v') w'):if Region.wanted o (yielded ops a.tmps)=true then Oper.wp Tryz.prog o a w K Q else Ee:=by
 obtain⟨i0,hi0,hz0,hz1,hz2⟩:=info_parts hinfo;obtain⟨xs,hown⟩:=hO.owned.own;have hb:(acc.length+1)*bytes<=2097153*8192:=Nat.mul_le_mul (by omega) hbb;refine step_append_lies w hgd s x T ho B E i0 z size bytes hund hi0 hz0 hz1 hz2 hzs hsz v acc.length xs hs hown ad 1 c cs hx (by rw[hcl,Nat.one_mul]) hcells (λu hu=>?_) (by omega) (by unfold maxLen;omega) (by omega) hB w.heap.size rfl ?_
 ·obtain⟨j,hj⟩:=List.getElem?_of_mem hu;exact(hrd j u hj).oneCell
 intro g cap w' h2 h3 h4 _
 refine h _ w' ?_ h3 (λq hq=>by
  obtain rfl:g=q:=Option.some.inj hq;exact h4)
 have hl:(acc++[y]).length=acc.length+1:=by simp
 rw[hl];refine hO.append hX hown h2 h3 h4 hcl (λk hk=>?_) (λj u hj=>?_)
 ·have hx:acc[k]?=some acc[k]:=List.getElem?_eq_getElem hk;rw[zas hx,zas (l:=acc++[y]) (i:=k) (by rw[List.getElem?_append_left hk];exact hx)]
 ·rw[zas (l:=acc++[y]) (i:=acc.length) (x:=y) (by rw[List.getElem?_append_right (Nat.le_refl _)];simp)];exact hrd j u hj
end Go.Proofs.YtcebmphappfjjaaGreatDoor
