/- Conditions: those in each statement. -/
import Derived.Test.YtcebmphappfjjaaGreatDoorV03
import Derived.Test.YtcebmphappfjjaaGreatDoorV01
import Derived.Deep.Upon
import Derived.Test.YtcebmphappfjjaaGreatDoorV00
import Derived.Deep.RegionWith
import Derived.Laws.Strings
set_option maxHeartbeats 32000000
set_option maxRecDepth 100000
namespace Go.Proofs.YtcebmphappfjjaaGreatDoor
open Go.RowKit
def fnN:NT->FuncId
 |.typ=>223
 |.field=>220
 |.expr=>246
 |.heading=>255
 |.operand _=>257
 |.postf=>269
 |.primary=>279
 |.set=>218
 |.arm=>256
 |.bind=>278
 |.block=>247
 |.stmt=>258
 |.letS=>270
 |.branch=>272
 |.cases=>273
 |.sarm=>280
 |.send=>274
 |.doS=>275
 |.ctor=>222
 |.member=>226
 |.decl=>168
 |.group _=>281
def argN (b:Nat):NT->Array Value
 |.operand l=>#[.pointer (some ⟨b,0,none⟩),.int .i64 l]
 |.group a=>#[.pointer (some ⟨b,0,none⟩),.int .i64 a]
 |_=>#[.pointer (some ⟨b,0,none⟩)]
def okAt (T:List Tok):NT->Ps->Prop
 |.typ,st=>zao T st≠(⟨#[102,117,110]⟩:ByteArray)
 |.expr,st=>zao T st=(⟨#[116,114,117,101]⟩:ByteArray)
 |.postf,st=>zao T st=(⟨#[116,114,117,101]⟩:ByteArray)
 |.primary,st=>zao T st=(⟨#[116,114,117,101]⟩:ByteArray)
 |.operand l,st=>(1<=l/\l<=8)/\zao T st=(⟨#[116,114,117,101]⟩:ByteArray)
 |.field,_=>True
 |.ctor,_=>True
 |.member,_=>True
 |.decl,_=>True
 |_,_=>False
def zEe:NT->Prop
 |.expr=>True
 |.postf=>True
 |.primary=>True
 |.operand _=>True
 |_=>False
structure Recs (G:PG) (b k:Nat) (rec:NT->Ps->R Nd):Prop where
 adv:∀nt st,Adv (rec nt st) (st.next+1)
 tru:∀nt st,zEe nt->zao G.T st=(⟨#[116,114,117,101]⟩:ByteArray)->∀n st',rec nt st=.ok (n,st')->st'=st.adv
 run:∀(nt:NT) (st:Ps),okAt G.T nt st->need G.T nt st<k->∀w,PsAt G b w st->Calls Tryz.prog (fnN nt) (argN b nt) w (zaG G b QNd (rec nt st) w)
theorem Recs.next {G:PG} {b k:Nat} {rec:NT->Ps->R Nd} (h:Recs G b k rec) {nt:NT} {st st1:Ps} {n:Nd} (e:rec nt st=.ok (n,st1)):st.next+1<=st1.next:=h.adv nt st n st1 e
theorem Own1.trans {b:Nat} {w w1 w2:World} (h:Own1 b w w1) (k:Own1 b w1 w2):Own1 b w w2:=Chg.next h k
theorem Own1.of_below {b:Nat} {w w1 w2:World} (h:Own1 b w w1) (k:Below w1.heap.size w1 w2):Own1 b w w2:=Chg.thenBelow h k
theorem Own1.rd {b:Nat} {w1 w2:World} (k:Own1 b w1 w2) {lo:Nat} (hlo:b<lo) {d:D} {v:Value} (h:Rd (Bt lo w1.heap.size) w1 d v):Rd (Bt lo w2.heap.size) w2 d v:=
 (Chg.rd k (ok:=Bt lo w1.heap.size) (λq hq=>⟨hq.2,λe=>by have:=hq.1;omega⟩) h).weaken (λ_ hq=>⟨hq.1,Nat.lt_of_lt_of_le hq.2 k.size⟩)
theorem zaF {w1 w2:World} (k:Below w1.heap.size w1 w2) {lo:Nat} {d:D} {v:Value} (h:Rd (Bt lo w1.heap.size) w1 d v):Rd (Bt lo w2.heap.size) w2 d v:=
 (h.below k (λ_ hq=>hq.2)).weaken (λ_ hq=>⟨hq.1,Nat.lt_of_lt_of_le hq.2 k.size⟩)
theorem Own1.cells {b:Nat} {w1 w2:World} (k:Own1 b w1 w2) {g:Nat} {cs:Array Value} {e:TypeId} (h:zab w1 g cs e) (hg:¬g=b):zab w2 g cs e:=h.keep k hg
theorem zaa {w1 w2:World} (k:Below w1.heap.size w1 w2) {g:Nat} {cs:Array Value} {e:TypeId} (h:zab w1 g cs e):zab w2 g cs e:=(k.block g h.lt).trans h
theorem Own1.owned {b:Nat} {w1 w2:World} (k:Own1 b w1 w2) {lo:Nat} (hlo:b<lo) {e:TypeId} {m n:Nat} {f:Nat->Nat->D} {v:Value} (h:zaz lo e m n f w1 v):zaz lo e m n f w2 v:=h.chg k (λj hj=>by omega)
def zfK (x:Nd) (A:Option Addr) (c:Nat):List Value:=[.int .i64 x.kind,.string x.text,.int .i64 x.n,.int .i64 x.at',.slice A x.kids.length c]
structure NdV where
 x:Nd
 A:Option Addr
 c:Nat
def NdV.cells (y:NdV):List Value:=zfK y.x y.A y.c
theorem zfM:∀(l:List NdV) (i j:Nat) (y:NdV),l[i]?=some y->j<5->(l.flatMap NdV.cells)[i*5+j]?=(y.cells)[j]?
 |[],i,j,y,h,_=>by simp at h
 |z::r,0,j,y,h,hj=>by
  simp at h;subst h;rw[List.flatMap_cons,Nat.zero_mul,Nat.zero_add,List.getElem?_append_left (by show j<5;exact hj)]
 |z::r,i+1,j,y,h,hj=>by
  rw[List.flatMap_cons,List.getElem?_append_right (by show 5<=_;omega),show (i+1)*5+j-z.cells.length=i*5+j by show _-5=_;omega];exact zfM r i j y (by simpa using h) hj
theorem zuk (l:List NdV) {w:World} {lo:Nat} (hlo:lo<=w.heap.size) (h:∀y∈l,Rd (Bt lo w.heap.size) w (ns y.x.kids) (.slice y.A y.x.kids.length y.c)) (hn:l.length<=32768) :
 Rd (Bt lo (w.alloc (.cells (l.flatMap NdV.cells).toArray 49)).heap.size) (w.alloc (.cells (l.flatMap NdV.cells).toArray 49)) (ns (l.map NdV.x)) (.slice (some ⟨w.heap.size,0,none⟩) (l.map NdV.x).length l.length):=by
 have hb:=(Below.refl w.heap.size w).alloc (Nat.le_refl _) (.cells (l.flatMap NdV.cells).toArray 49);refine Rd.sl_mk zs zo λ_=>⟨w.heap.size,0,rfl,⟨hlo,by simp⟩,λi hi j hj=>?_⟩;have hi':i<l.length:=by simpa using hi
 have hy:l[i]?=some l[i]:=List.getElem?_eq_getElem hi';have hr:=zaF hb (h l[i] (List.getElem_mem hi'));rw[zeW (l.map NdV.x) i l[i].x (by rw[List.getElem?_map,hy];rfl)];have hu:(l[i].cells)[j]?=some ((l[i].cells)[j]'(show j<5 from hj)):=List.getElem?_eq_getElem (show j<5 from hj);refine⟨_,?_,zby hr j _ hu⟩;rw[Nat.zero_add,zbG,List.getElem?_toArray,zfM l i j _ hy hj];exact hu
theorem zlo (l:List NdV) {w:World} {lo:Nat} (hlo:lo<=w.heap.size) (h:∀y∈l,Rd (Bt lo w.heap.size) w (ns y.x.kids) (.slice y.A y.x.kids.length y.c)) (hn:l.length<=32768) :
 zaz lo 49 5 (l.map NdV.x).length (zan Nd.row (l.map NdV.x)) (w.alloc (.cells (l.flatMap NdV.cells).toArray 49)) (.slice (some ⟨w.heap.size,0,none⟩) (l.map NdV.x).length l.length):=by
 have hb:=(Below.refl w.heap.size w).alloc (Nat.le_refl _) (.cells (l.flatMap NdV.cells).toArray 49)
 have hsz:(l.flatMap NdV.cells).length=l.length*5:=by
  clear h hn hb
  induction l with
  |nil=>rfl
  |cons y r ih=>rw[List.flatMap_cons,List.length_append,ih,List.length_cons];show 5+_=_;omega
 refine .inr ⟨w.heap.size,l.length,rfl,hlo,by simp,zo,⟨_,heap_alloc_new w _,by simpa using hsz⟩,λi hi j hj=>?_⟩;have hi':i<l.length:=by simpa using hi
 have hy:l[i]?=some l[i]:=List.getElem?_eq_getElem hi';have hr:=h l[i] (List.getElem_mem hi');rw[zas (l:=l.map NdV.x) (i:=i) (x:=l[i].x) (by rw[List.getElem?_map,hy];rfl)];have hu:(l[i].cells)[j]?=some ((l[i].cells)[j]'(show j<5 from hj)):=List.getElem?_eq_getElem (show j<5 from hj);refine⟨_,?_,zby ?_ j _ hu⟩
 ·rw[zbG,List.getElem?_toArray,zfM l i j _ hy hj];exact hu
 ·exact(hr.below hb (λ_ hq=>hq.2)).weaken (λq hq=>⟨⟨hq.1,Nat.lt_of_lt_of_le hq.2 hb.size⟩,by have:=hq.2;omega⟩)
section
variable {T:List Tok} {en:Int} {st:Ps}
theorem zqw {l:ByteArray} (h:zao T st=l):zax T en l st=.ok ((),st.adv):=by unfold zax;rw[if_pos h]
theorem zjf {l:ByteArray} (h:¬zao T st=l):zax T en l st=.error (zaC T en st):=by unfold zax zhu;rw[if_neg h]
end
theorem R.next_ok {α β:Type} {a:α} {st:Ps} {f:α->Ps->R β}:R.next (.ok (a,st)) f=f a st:=rfl
theorem R.next_err {α β:Type} {a:Int} {f:α->Ps->R β}:R.next (.error a:R α) f=.error a:=rfl
theorem zaf {α:Type} {G:PG} {b:Nat} {Q:α->World->Ending->World->Prop} {x:R α} {a:Int} {w w':World} (hF:x=.error a) (h:Own1 b w w'):zaG G b Q x w (zcJ a) w':=by
 rw[hF];exact⟨h,rfl⟩
section
variable {α β:Type} {P:Program} {fn:FuncId} {args:Array Value} {G:PG} {b:Nat} {w0 W:World} {S:Ending->World->Prop}
theorem zaG.next {Q:α->World->Ending->World->Prop} {x:R α} {f:α->Ps->R β} {r:R β} (HF:Hid (R.next x f=r)) (O:Hid (Own1 b w0 W)) (K:Calls P fn args W (zaG G b Q x W)) (hE:∀a w',r=.error a->Own1 b w0 w'->S (zcJ a) w')
 (hO:∀v st' e w',x=.ok (v,st')->Hid (f v st'=r)->Own1 b W w'->PsAt G b w' st'->Q v W e w'->S e w'):Calls P fn args W S:=K.mono (λe w' h=>by
 obtain⟨hc,h⟩:=h;cases x with
 |error a=>
  have h:e=zcJ a:=h;subst h;exact hE a w' HF.out.symm (O.out.trans hc)
 |ok p=>
  obtain⟨v,st'⟩:=p;exact hO v st' e w' rfl HF hc h.1 h.2)
theorem zaG.nextE {l:ByteArray} {st:Ps} {f:Unit->Ps->R β} {r:R β} (HF:Hid (R.next (zax G.T G.en l st) f=r)) (O:Hid (Own1 b w0 W)) (K:Calls P fn args W (zaG G b zuj (zax G.T G.en l st) W)) (hE:∀a w',r=.error a->Own1 b w0 w'->S (zcJ a) w')
 (hO:∀w',Hid (f () st.adv=r)->Own1 b W w'->PsAt G b w' st.adv->S (.returned (.tuple #[])) w'):Calls P fn args W S:=zaG.next HF O K hE (λv st' e w' hx hf hc hp hq=>by
 have hq:e=.returned (.tuple #[]):=hq;subst hq;unfold zax zhu at hx
 split at hx
 ·injection hx with hx;injection hx with _ h2;subst h2;exact hO w' hf hc hp
 ·cases hx)
theorem zaG.nextN {q:ByteArray->Bool} {st:Ps} {f:ByteArray->Ps->R β} {r:R β} {Q:ByteArray->World->Ending->World->Prop} (hQ:Q=QStr) (HF:Hid (R.next (zbw G.T G.en q st) f=r)) (O:Hid (Own1 b w0 W)) (K:Calls P fn args W (zaG G b Q (zbw G.T G.en q st) W)) (hE:∀a w',r=.error a->Own1 b w0 w'->S (zcJ a) w')
 (hO:∀w',Hid (f (zao G.T st) st.adv=r)->Own1 b W w'->PsAt G b w' st.adv->S (.returned (.string (zao G.T st))) w'):Calls P fn args W S:=zaG.next HF O K hE (λv st' e w' hx hf hc hp hq=>by
 subst hQ;have hq:e=.returned ↑v:=hq;subst hq;unfold zbw zhu at hx
 split at hx
 ·injection hx with hx;injection hx with h1 h2;subst h1 h2;exact hO w' hf hc hp
 ·cases hx)
end
theorem zux {G:PG} {b:Nat} {F:R Nd} {x:Nd} {st':Ps} {w W:World} {A:Option Addr} {c lo:Nat} (hF:F=.ok (x,st')) (own:Own1 b w W) (hb:b<w.heap.size) (hlim:G.lim<=w.heap.size) (ps:PsAt G b W st') (hlo:w.heap.size<lo)
 (rd:Rd (Bt lo W.heap.size) W (ns x.kids) (.slice A x.kids.length c)) {m:Nat} (hm:m=x.kids.length) (u0 u1 u2 u3 u4:Value) :
 zaG G b QNd F w (.returned (.agg #[↑x.kind,↑x.text,↑x.n,↑x.at',.slice A m c])) (((((W.setCell ⟨w.heap.size,0,none⟩ u0).setCell ⟨w.heap.size,1,none⟩ u1).setCell ⟨w.heap.size,2,none⟩ u2).setCell ⟨w.heap.size,3,none⟩ u3).setCell ⟨w.heap.size,4,none⟩ u4):=by
 have hc:Chg (λk=>k=w.heap.size) W (((((W.setCell ⟨w.heap.size,0,none⟩ u0).setCell ⟨w.heap.size,1,none⟩ u1).setCell ⟨w.heap.size,2,none⟩ u2).setCell ⟨w.heap.size,3,none⟩ u3).setCell ⟨w.heap.size,4,none⟩ u4):=
  ((((((Chg.refl (λk=>k=w.heap.size) W).setCell (p:=⟨w.heap.size,0,none⟩) (.inl rfl) u0).setCell (p:=⟨w.heap.size,1,none⟩) (.inl rfl) u1).setCell (p:=⟨w.heap.size,2,none⟩) (.inl rfl) u2).setCell (p:=⟨w.heap.size,3,none⟩) (.inl rfl) u3).setCell (p:=⟨w.heap.size,4,none⟩) (.inl rfl) u4)
 subst hm;rw[hF];refine⟨Chg.trans own hc (λj hj=>.inr zo),ps.keep hc (λk hk=>⟨zo,zo⟩),A,c,rfl,?_⟩;exact(hc.rd (ok:=Bt lo W.heap.size) (λq hq=>⟨hq.2,by have:=hq.1;omega⟩) rd).weaken (λq hq=>⟨by have:=hq.1;omega,Nat.lt_of_lt_of_le hq.2 hc.size⟩)
theorem zqm {G:PG} {b m:Nat} {F:R (List Nd)} {l:List Nd} {st':Ps} {w W:World} {A:Option Addr} {c lo n:Nat} (hF:F=.ok (l,st')) (own:Own1 b w W) (ps:PsAt G b W st') (hlo:w.heap.size<=lo) (hl:l.length<=m)
 (ho:zaz lo 49 5 l.length (zan Nd.row l) W (.slice A l.length c)) (hn:n=l.length):zaG G b (QNs m) F w (.returned (.slice A n c)) W:=by
 subst hn;rw[hF];exact⟨own,ps,A,c,rfl,hl,ho.lower hlo⟩
theorem zam {s:ByteArray} {l:List UInt8} (h:¬s=⟨l.toArray⟩):(s.toList == l)=false:=by
 have:=zfo h
 rwa [ByteArray.toList_eq (⟨l.toArray⟩:ByteArray)] at this
section
variable {G:PG} {st:Ps} {rec:NT->Ps->R Nd} {k:Nat} {tk:Tok}
theorem zjJ (h:zcq G st=tk) (h2:¬tk.kind=2) (h3:¬tk.kind=3):zcA G.T G.en rec k st=zfn G.T G.en rec k st:=by
 unfold zcA;unfold zcq at h;cases hx:G.T[st.next]? with
 |none=>rfl
 |some t=>rw[hx] at h;simp only at h;subst h;simp only;rw[if_neg h2,if_neg h3]
end
theorem zlZ {G:PG} {b:Nat} {F:R Int} {n:Int} {st':Ps} {w W:World} (hF:F=.ok (n,st')) (own:Own1 b w W) (ps:PsAt G b W st'):zaG G b QInt F w (.returned ↑n) W:=by
 rw[hF];exact⟨own,ps,rfl⟩
theorem ztI {G:PG} {b:Nat} {w:World} {st st':Ps} {n:Int} (h:PsAt G b w st) (e:zcb G.T G.en st=.ok (n,st')):-9007199254740993<=n/\n<=9007199254740993/\st'=st.adv:=by
 unfold zcb at e;cases hx:G.T[st.next]? with
 |none=>rw[hx] at e;cases e
 |some t=>
  rw[hx] at e;simp only at e
  split at e
  ·injection e with e;injection e with e1 e2;subst e1 e2;have:=h.nm t (List.mem_of_getElem? hx);exact⟨zo,zo,rfl⟩
  ·cases e
theorem zaz.appendMany {B:Nat} {e:TypeId} {k n m:Nat} {f f':Nat->Nat->D} {w w':World} {v:Value} {xs news:List Value} {g cap:Nat} (h:zaz B e k n f w v) (hown:w.ownsRow B e k v n xs)
 (hown':w'.ownsRow B e k (.slice (some ⟨g,0,none⟩) (n+m) cap) (n+m) (xs++news)) (hg:w.grownBy w' v.ownBlock) (hat:v.ownBlock=some g\/g=w.heap.size) (hk:news.length=m*k)
 (hf:∀a,a<n->f' a=f a) (hnew:∀i j u,i<m->j<k->news[i*k+j]?=some u->Rd (λb=>Bt B w.heap.size b/\some b≠v.ownBlock) w (f' (n+i) j) u) :
 zaz B e k (n+m) f' w' (.slice (some ⟨g,0,none⟩) (n+m) cap):=by
 have hxl:xs.length=n*k:=hown.1;have hcells:=hown'.cells (g:=g) rfl;rcases hown'.2 with ⟨hv,_⟩|⟨g',cap',cur,hv,hBg,hcur,hnc,hc,hsz,_⟩
 ·injection hv with hv;cases hv
 injection hv with hv1 _ hv3;injection hv1 with hv1;injection hv1 with hv1;subst hv1 hv3
 have keep:∀{d:D} {u:Value},Rd (λb=>Bt B w.heap.size b/\some b≠v.ownBlock) w d u->Rd (λb=>Bt B w'.heap.size b/\b≠g) w' d u:=λhd=>
  (hd.keep (λb o hb=>World.cell?_of_block (hg.block b hb.1.2 hb.2))).weaken (λb hb=>⟨⟨hb.1.1,Nat.lt_of_lt_of_le hb.1.2 hg.size⟩,λhbg=>by
   subst hbg;rcases hat with h1|h1
   ·exact hb.2 h1.symm
   ·have:=hb.1.2;omega⟩)
 refine .inr ⟨g,cap,rfl,hBg,hnc,hc,⟨cur,hcur,hsz⟩,λa ha j hj=>?_⟩;rcases Nat.lt_or_ge a n with han|han
 ·have hak:=zdO (k:=k) han;have hu:xs[a*k+j]?=some (xs[a*k+j]'(zo)):=List.getElem?_eq_getElem zo;have hc1:=hcells (a*k+j) _ ((List.getElem?_append_left zo).trans hu);rw[Addr.add_lit,Nat.zero_add] at hc1;refine⟨_,hc1,?_⟩;rw[hf a han];rcases h with ⟨_,h0⟩|⟨g0,c0,rfl,_,_,_,_,hr⟩
  ·omega
  obtain⟨u,hcu,hd⟩:=hr a han j hj;have hc0:=hown.cells (g:=g0) rfl (a*k+j) _ hu;rw[Addr.add_lit,Nat.zero_add,hcu] at hc0;have he:=Option.some.inj hc0;rw[<-he]
  exact keep (hd.weaken (λb hb=>⟨hb.1,λh=>by
   have:some b=some g0:=h;injection this with this;exact hb.2 this⟩))
 ·obtain⟨i,rfl⟩:∃i,a=n+i:=⟨a-n,zo⟩;have him:i<m:=zo
  have hik:=zdO (k:=k) him;have hd:(n+i)*k+j-n*k=i*k+j:=by rw[Nat.add_mul];omega
  have hge:n*k<=(n+i)*k+j:=by rw[Nat.add_mul];omega
  have hu:news[i*k+j]?=some (news[i*k+j]'(zo)):=List.getElem?_eq_getElem zo;have hc1:=hcells ((n+i)*k+j) _ (by rw[List.getElem?_append_right zo,hxl,hd];exact hu);rw[Addr.add_lit,Nat.zero_add] at hc1;exact⟨_,hc1,keep (hnew i j _ him hj hu)⟩
def zbc (x B:Nat) (e:TypeId) (k n:Nat) (f:Nat->Nat->D) (w:World) (v:Value):Prop:=
 (v=.slice none 0 0/\n=0)\/
 ∃g c,v=.slice (some ⟨g,0,none⟩) n c/\B<=g/\g≠x/\n<=c/\c<=9223372036854775807/\Blk w g e (c*k)/\∀a,a<n->zcI (λb=>Bt B w.heap.size b/\b≠g/\b≠x) w g (a*k) k (f a)
section
variable {x B:Nat} {e:TypeId} {k n:Nat} {f:Nat->Nat->D} {w w':World} {v:Value} {M:Nat->Prop}
theorem zbc.owned (h:zbc x B e k n f w v):zaz B e k n f w v:=by
 rcases h with h|⟨g,c,h1,h2,_,h3,h4,h5,h6⟩
 ·exact .inl h
 ·exact .inr ⟨g,c,h1,h2,h3,h4,h5,λa ha=>(h6 a ha).weaken (λb hb=>⟨hb.1,hb.2.1⟩)⟩
theorem zaz.ex (h:zaz B e k n f w v) (hx:w.heap.size<=x):zbc x B e k n f w v:=by
 rcases h with h|⟨g,c,h1,h2,h3,h4,h5,h6⟩
 ·exact .inl h
 ·exact .inr ⟨g,c,h1,h2,by have:=h5.lt;omega,h3,h4,h5,λa ha=>(h6 a ha).weaken (λb hb=>⟨hb.1,hb.2,by have:=hb.1.2;omega⟩)⟩
theorem zbc.chg (h:zbc x B e k n f w v) (hc:Chg M w w') (hm:∀j,M j->j<B\/j=x):zbc x B e k n f w' v:=by
 rcases h with h|⟨g,c,rfl,hB,hgx,hnc,hcm,⟨cur,hcur,hsz⟩,hr⟩
 ·exact .inl h
 ·have hg:g<w.heap.size:=(Array.getElem?_eq_some_iff.1 hcur).1
  have keep:∀j,B<=j->j<w.heap.size->j≠x->w'.heap[j]?=w.heap[j]?:=λj h1 h2 h3=>hc.block j h2 (λhmj=>by
   rcases hm j hmj with h|h
   ·omega
   ·exact h3 h)
  refine .inr ⟨g,c,rfl,hB,hgx,hnc,hcm,⟨cur,(keep g hB hg hgx).trans hcur,hsz⟩,λa ha=>?_⟩;refine zcI.weaken (ok:=λb=>Bt B w.heap.size b/\b≠g/\b≠x) (λb hb'=>⟨⟨hb'.1.1,Nat.lt_of_lt_of_le hb'.1.2 hc.size⟩,hb'.2⟩) ?_;exact(hr a ha).keep (λb o hb'=>World.cell?_of_block (a:=⟨b,o,none⟩) (keep b hb'.1.1 hb'.1.2 hb'.2.2)) (λj _=>World.cell?_of_block (a:=⟨g,_,none⟩) (keep g hB hg hgx))
theorem zbc.below (h:zbc x B e k n f w v) (hb:Below w.heap.size w w'):zbc x B e k n f w' v:=h.chg (Chg.of_below (M:=λ_=>False) hb) (λ_ h=>h.elim)
theorem Own1.ownedX {b:Nat} (hc:Chg (λk=>k=b) w w') (hlo:b<B) (h:zbc x B e k n f w v):zbc x B e k n f w' v:=h.chg hc (λj hj=>.inl zo)
end
theorem zbc.append {x B:Nat} {e:TypeId} {k n:Nat} {f f':Nat->Nat->D} {w w':World} {v:Value} {xs news:List Value} {g cap:Nat} (h:zbc x B e k n f w v) (hxl0:x<w.heap.size) (hown:w.ownsRow B e k v n xs)
 (hown':w'.ownsRow B e k (.slice (some ⟨g,0,none⟩) (n+1) cap) (n+1) (xs++news)) (hg:w.grownBy w' v.ownBlock) (hat:v.ownBlock=some g\/g=w.heap.size) (hk:news.length=k)
 (hf:∀a,a<n->f' a=f a) (hnew:∀j u,news[j]?=some u->Rd (λb=>(Bt B w.heap.size b/\some b≠v.ownBlock)/\b≠x) w (f' n j) u) :
 zbc x B e k (n+1) f' w' (.slice (some ⟨g,0,none⟩) (n+1) cap):=by
 have hxl:xs.length=n*k:=hown.1;have hcells:=hown'.cells (g:=g) rfl;rcases hown'.2 with ⟨hv,_⟩|⟨g',cap',cur,hv,hBg,hcur,hnc,hc,hsz,_⟩
 ·injection hv with hv;cases hv
 injection hv with hv1 _ hv3;injection hv1 with hv1;injection hv1 with hv1;subst hv1 hv3
 have keep:∀{d:D} {u:Value},Rd (λb=>(Bt B w.heap.size b/\some b≠v.ownBlock)/\b≠x) w d u->Rd (λb=>Bt B w'.heap.size b/\b≠g/\b≠x) w' d u:=λhd=>
  (hd.keep (λb o hb=>World.cell?_of_block (hg.block b hb.1.1.2 hb.1.2))).weaken (λb hb=>⟨⟨hb.1.1.1,Nat.lt_of_lt_of_le hb.1.1.2 hg.size⟩,λhbg=>by
   subst hbg;rcases hat with h1|h1
   ·exact hb.1.2 h1.symm
   ·have:=hb.1.1.2;omega,hb.2⟩)
 have hgx:g≠x:=by
  rcases hat with h1|h1
  ·rcases h with ⟨h2,_⟩|⟨g0,c0,h2,_,hx0,_⟩
   ·rw[h2] at h1;cases h1
   ·rw[h2] at h1;have:g0=g:=Option.some.inj h1;omega
  ·omega
 refine .inr ⟨g,cap,rfl,hBg,hgx,hnc,hc,⟨cur,hcur,hsz⟩,λa ha j hj=>?_⟩;rcases Nat.lt_or_ge a n with han|han
 ·have hak:=zdO (k:=k) han;have hu:xs[a*k+j]?=some (xs[a*k+j]'(zo)):=List.getElem?_eq_getElem zo;have hc1:=hcells (a*k+j) _ ((List.getElem?_append_left zo).trans hu);rw[Addr.add_lit,Nat.zero_add] at hc1;refine⟨_,hc1,?_⟩;rw[hf a han];rcases h with ⟨_,h0⟩|⟨g0,c0,rfl,_,_,_,_,_,hr⟩
  ·omega
  obtain⟨u,hcu,hd⟩:=hr a han j hj;have hc0:=hown.cells (g:=g0) rfl (a*k+j) _ hu;rw[Addr.add_lit,Nat.zero_add,hcu] at hc0;have he:=Option.some.inj hc0;rw[<-he]
  exact keep (hd.weaken (λb hb=>⟨⟨hb.1,λh=>by
   have:some b=some g0:=h;injection this with this;exact hb.2.1 this⟩,hb.2.2⟩))
 ·obtain rfl:a=n:=zo
  have hu:news[j]?=some (news[j]'(zo)):=List.getElem?_eq_getElem zo;have hc1:=hcells (a*k+j) _ (by rw[List.getElem?_append_right zo,hxl,show a*k+j-a*k=j by omega];exact hu);rw[Addr.add_lit,Nat.zero_add] at hc1;exact⟨_,hc1,keep (hnew j _ hu)⟩
def zcm (n c:Int):Option Int:=if c<48\/57<c then none else if n<(-9223372036854775808+(c-48)).tdiv 10 then none else some (n*10-(c-48))
def digs:List UInt8->Int->Option Int
 |[],n=>some n
 |c::r,n=>(zcm n (c.toNat:Int)).bind (digs r)
def zcU (neg:Bool) (low high:Int):Option Int->Int × Bool
 |none=>(0,false)
 |some n=>if neg then (if n<low\/high<n then (0,false) else (n,true)) else if n < -9223372036854775807 then (0,false) else if -n<low\/high < -n then (0,false) else (-n,true)
theorem zgc {l:List UInt8} {i:Nat} (hi:i<l.length) (n:Int):digs (l.drop i) n=(zcm n ((l.getD i 0).toNat:Int)).bind (digs (l.drop (i+1))):=by
 rw[List.drop_eq_getElem_cons hi,digs,List.getD_eq_getElem?_getD,List.getElem?_eq_getElem hi];rfl
theorem zjz {l:List UInt8} {i:Nat} (hi:¬i<l.length) (n:Int):digs (l.drop i) n=some n:=by
 rw[List.drop_eq_nil_of_le zo,digs]
theorem zjV {w:World} {dg:ByteArray} {pos:Nat} (h:pos<dg.size):∃(R W:Nat),1<=W/\R<=2147483647/\((R:Int)=zak dg pos/\R<128/\W=1\/128<=R/\128<=zak dg pos)/\
 ∀ty,(Instr.next (.pointer (some ⟨w.heap.size,0,none⟩)) true ty).run Tryz.prog (w.iter dg pos)=.ok (.tuple #[.bool true,↑pos,.int .i32 R]) (w.iter dg (pos+W)):=by
 have hn:=λty=>run_next_any (P:=Tryz.prog) w dg pos ty h
 have hb:zak dg pos=((dg[pos]'h).toNat:Int):=by
  unfold zak;rw[List.getD_eq_getElem?_getD,Array.getElem?_toList];have h2:pos<dg.data.size:=h;rw[Array.getElem?_eq_getElem h2];rfl
 have hle:=decode_le dg pos
 by_cases ha:(dg[pos]'h).toNat<128
 ·rw[decode_ascii dg pos h ha] at hn;exact⟨(dg[pos]'h).toNat,1,Nat.le_refl _,zo,.inl ⟨hb.symm,ha,rfl⟩,hn⟩
 ·obtain⟨h1,h2⟩:=decode_high dg pos h zo;exact⟨_,_,h2,hle,.inr ⟨h1,zo⟩,hn⟩
theorem zbb (w:World) (dg:ByteArray) (pos:Nat):Below w.heap.size w (w.iter dg pos):=(Below.refl _ _).alloc (Nat.le_refl _) _
theorem zpy {a:Int} (h:a<=0):a.tdiv 10=-((-a) / 10):=by
 obtain⟨m,rfl⟩:∃m:Int,a=-m:=⟨-a,zo⟩;rw[Int.neg_tdiv,Int.tdiv_eq_ediv_of_nonneg zo,Int.neg_neg]
theorem zoG (s:ByteArray) (low high:Int) (w:World) (h0:s.size=0) :
 Calls Tryz.prog 54 #[↑s,↑low,↑high] w λe w'=>e=.returned (.tuple #[↑(),.bool false])/\Below w.heap.size w w':=by
 have he:s.toList=[]:=by rw[ByteArray.toList_eq];exact List.eq_nil_of_length_eq_zero (by rw[zai];exact h0)
 go_in;go_wp2
 go_ret2
 exact⟨rfl,Below.refl _ _⟩
theorem zpg (s:ByteArray) (low high:Int) (w:World) (hs:s.size<=2097152) (h0:0<s.size) (hm:¬zak s 0=45) (hz:¬zak s 0=48) :
 Calls Tryz.prog 54 #[↑s,↑low,↑high] w λe w'=>e=.returned (.tuple #[.int .i64 (zcU false low high (digs s.data.toList 0)).1,.bool (zcU false low high (digs s.data.toList 0)).2])/\Below w.heap.size w w':=by
 have hne:¬s.toList=[]:=λh=>by
  rw[ByteArray.toList_eq] at h;have:=zai s;rw[h] at this;simp at this;omega
 have hemp:s.toList.isEmpty=false:=by simpa using hne
 have hi0:(Instr.index 9 ↑s ↑()).run Tryz.prog w=.ok (.int .u8 (zak s 0)) w:=by simpa using zaP s 0 h0 w
 have e45:(zak s 0 == 45)=false:=by simpa using hm
 have e48:(zak s 0 == 48)=false:=by simpa using hz
 obtain⟨X0,hX0⟩:=zn (zak s 0);rw[hX0] at hi0 e45 e48 hm hz;clear hX0;go_in;go_wp2
 go_loopw [10] (λs10 wr=>∃(pos:Nat) (n:Int),s10=↑n/\-9223372036854775807<=n+1/\n<=0/\pos<=s.size/\wr=w.iter s pos/\Hid (digs s.data.toList 0=digs (s.data.toList.drop pos) n)) (λ_ wr=>s.size-wr.iterPos w.heap.size)
 case atStart=>exact⟨0,0,rfl,zo,zo,zo,rfl,zz (by rw[List.drop_zero])⟩
 case round=>
  obtain⟨pos,n,rfl,hn1,hn0,hp,rfl,HD⟩:=hrel;clear hi0
  by_cases hlt:pos<s.size
  ·obtain⟨R,W,hW,hR,hc,hnx⟩:=zjV (w:=w) (dg:=s) (pos:=pos) hlt;have HS:=zz (HD.out.trans (zgc (by rw[zai];exact hlt) n));rw[show ((s.data.toList.getD pos 0).toNat:Int)=zak s pos from rfl] at HS;have hbr:=zbt s pos;obtain⟨X,hX⟩:=zn (zak s pos);rw[hX] at hc HS hbr;clear hX
   by_cases hd:48<=X/\X<=57
   ·obtain⟨d1,d2⟩:=hd
    obtain⟨hRX,_,rfl⟩:(R:Int)=X/\R<128/\W=1:=by
     rcases hc with h|h
     ·exact h
     ·omega
    subst hRX;have k1:¬(R:Int)<48:=zo
    have k2:¬57<(R:Int):=zo
    by_cases ht:n<(-9223372036854775808+((R:Int)-48)).tdiv 10
    ·have HE:Hid (digs s.data.toList 0=none):=zz (by
      rw[HS.out];unfold zcm;rw[if_neg zo,if_pos ht];rfl)
     clear HS hc;go_wp2
     go_ret2
     exact⟨by rw[HE.out];rfl,zbb _ _ _⟩
    ·have hq:-9223372036854775807<=n*10-((R:Int)-48)+1/\n*10-((R:Int)-48)<=0:=by
      rw[zpy zo] at ht;omega
     have HE:Hid (digs s.data.toList 0=digs (s.data.toList.drop (pos+1)) (n*10-((R:Int)-48))):=zz (by
      rw[HS.out];unfold zcm;rw[if_neg zo,if_neg ht];rfl)
     clear HS hc;go_wp2;exact⟨⟨pos+1,_,rfl,zo,zo,zo,rfl,HE⟩,by simp;omega⟩
   ·have HE:Hid (digs s.data.toList 0=none):=zz (by
     rw[HS.out];unfold zcm;rw[if_pos zo];rfl)
    clear HS;rcases (show (R:Int)<48\/(¬(R:Int)<48/\57<(R:Int)) by omega) with h|⟨h,h'⟩
    all_goals
     clear hc hd;go_wp2
     go_ret2
     exact⟨by rw[HE.out];rfl,zbb _ _ _⟩
  ·have hnx:=λty=>run_next_end (P:=Tryz.prog) w s pos ty hlt;have HE:=zz (HD.out.trans (zjz (by rw[zai];exact hlt) n));clear HD;have HF:Hid (zcU false low high (some n)=if n < -9223372036854775807 then (0,false) else if -n<low\/high < -n then (0,false) else (-n,true)):=zz rfl
   by_cases hmin:n < -9223372036854775807
   ·have HG:=zz (HF.out.trans (if_pos hmin));obtain rfl:n=-9223372036854775808:=zo
    clear HF;go_wp2
    go_ret2
    exact⟨by rw[HE.out,HG.out];rfl,zbb _ _ _⟩
   ·have HG:=zz (HF.out.trans (if_neg hmin));have hmb:(n == -9223372036854775808)=false:=by simp;omega
    clear HF
    by_cases ho:-n<low\/high < -n
    ·have HH:=zz (HG.out.trans (if_pos ho));clear HG;rcases (show -n<low\/(¬-n<low/\high < -n) by omega) with h|⟨h,h'⟩
     all_goals
      clear ho;go_wp2
      go_ret2
      exact⟨by rw[HE.out,HH.out];rfl,zbb _ _ _⟩
    ·have HH:=zz (HG.out.trans (if_neg ho));have h1:¬-n<low:=λh=>ho (.inl h);have h2:¬high < -n:=λh=>ho (.inr h);clear HG ho;go_wp2
     go_ret2
     exact⟨by rw[HE.out,HH.out];rfl,zbb _ _ _⟩
theorem zoR (s:ByteArray) (low high:Int) (w:World) (h1:1<s.size) (hz:zak s 0=48) :
 Calls Tryz.prog 54 #[↑s,↑low,↑high] w λe w'=>e=.returned (.tuple #[↑(),.bool false])/\Below w.heap.size w w':=by
 have h0:0<s.size:=zo
 have hne:¬s.toList=[]:=λh=>by
  rw[ByteArray.toList_eq] at h;have:=zai s;rw[h] at this;simp at this;omega
 have hemp:s.toList.isEmpty=false:=by simpa using hne
 have hi0:(Instr.index 9 ↑s ↑()).run Tryz.prog w=.ok (.int .u8 (zak s 0)) w:=by simpa using zaP s 0 h0 w
 have e45:(zak s 0 == 45)=false:=by simp;omega
 have e48:(zak s 0 == 48)=true:=by simpa using hz
 have en:(s.toList == [48])=false:=by
  rw[beq_eq_false_iff_ne];intro h;rw[ByteArray.toList_eq] at h;have:=zai s;rw[h] at this;simp at this;omega
 obtain⟨X0,hX0⟩:=zn (zak s 0);rw[hX0] at hi0 e45 e48 hz;clear hX0;clear hz;go_in;go_wp2
 go_ret2
 exact⟨rfl,Below.refl _ _⟩
theorem zoT (low high:Int) (w:World) :
 Calls Tryz.prog 54 #[.string (ByteArray.mk #[48]),↑low,↑high] w λe w'=>e=.returned (.tuple #[.int .i64 (zcU false low high (digs (ByteArray.mk #[48]).data.toList 0)).1,.bool (zcU false low high (digs (ByteArray.mk #[48]).data.toList 0)).2])/\Below w.heap.size w w':=by
 obtain⟨s,hs1⟩:=zn (ByteArray.mk #[48]);have h0:0<s.size:=by rw[<-hs1];decide
 have hs:s.size<=2097152:=by rw[<-hs1];decide
 have en:s.toList=[48]:=by rw[<-hs1,ByteArray.toList_eq]
 have e45:(zak s 0 == 45)=false:=by rw[<-hs1];rfl
 have e48:(zak s 0 == 48)=true:=by rw[<-hs1];rfl
 rw[hs1];clear hs1
 have hne:¬s.toList=[]:=λh=>by
  rw[ByteArray.toList_eq] at h;have:=zai s;rw[h] at this;simp at this;omega
 have hemp:s.toList.isEmpty=false:=by simpa using hne
 have hi0:(Instr.index 9 ↑s ↑()).run Tryz.prog w=.ok (.int .u8 (zak s 0)) w:=by simpa using zaP s 0 h0 w
 obtain⟨X0,hX0⟩:=zn (zak s 0);rw[hX0] at hi0 e45 e48;clear hX0;go_in;go_wp2
 go_loopw [10] (λs10 wr=>∃(pos:Nat) (n:Int),s10=↑n/\-9223372036854775807<=n+1/\n<=0/\pos<=s.size/\wr=w.iter s pos/\Hid (digs s.data.toList 0=digs (s.data.toList.drop pos) n)) (λ_ wr=>s.size-wr.iterPos w.heap.size)
 case atStart=>exact⟨0,0,rfl,zo,zo,zo,rfl,zz (by rw[List.drop_zero])⟩
 case round=>
  obtain⟨pos,n,rfl,hn1,hn0,hp,rfl,HD⟩:=hrel;clear hi0
  by_cases hlt:pos<s.size
  ·obtain⟨R,W,hW,hR,hc,hnx⟩:=zjV (w:=w) (dg:=s) (pos:=pos) hlt;have HS:=zz (HD.out.trans (zgc (by rw[zai];exact hlt) n));rw[show ((s.data.toList.getD pos 0).toNat:Int)=zak s pos from rfl] at HS;have hbr:=zbt s pos;obtain⟨X,hX⟩:=zn (zak s pos);rw[hX] at hc HS hbr;clear hX
   by_cases hd:48<=X/\X<=57
   ·obtain⟨d1,d2⟩:=hd
    obtain⟨hRX,_,rfl⟩:(R:Int)=X/\R<128/\W=1:=by
     rcases hc with h|h
     ·exact h
     ·omega
    subst hRX;have k1:¬(R:Int)<48:=zo
    have k2:¬57<(R:Int):=zo
    by_cases ht:n<(-9223372036854775808+((R:Int)-48)).tdiv 10
    ·have HE:Hid (digs s.data.toList 0=none):=zz (by
      rw[HS.out];unfold zcm;rw[if_neg zo,if_pos ht];rfl)
     clear HS hc;go_wp2
     go_ret2
     exact⟨by rw[HE.out];rfl,zbb _ _ _⟩
    ·have hq:-9223372036854775807<=n*10-((R:Int)-48)+1/\n*10-((R:Int)-48)<=0:=by
      rw[zpy zo] at ht;omega
     have HE:Hid (digs s.data.toList 0=digs (s.data.toList.drop (pos+1)) (n*10-((R:Int)-48))):=zz (by
      rw[HS.out];unfold zcm;rw[if_neg zo,if_neg ht];rfl)
     clear HS hc;go_wp2;exact⟨⟨pos+1,_,rfl,zo,zo,zo,rfl,HE⟩,by simp;omega⟩
   ·have HE:Hid (digs s.data.toList 0=none):=zz (by
     rw[HS.out];unfold zcm;rw[if_pos zo];rfl)
    clear HS;rcases (show (R:Int)<48\/(¬(R:Int)<48/\57<(R:Int)) by omega) with h|⟨h,h'⟩
    all_goals
     clear hc hd;go_wp2
     go_ret2
     exact⟨by rw[HE.out];rfl,zbb _ _ _⟩
  ·have hnx:=λty=>run_next_end (P:=Tryz.prog) w s pos ty hlt;have HE:=zz (HD.out.trans (zjz (by rw[zai];exact hlt) n));clear HD;have HF:Hid (zcU false low high (some n)=if n < -9223372036854775807 then (0,false) else if -n<low\/high < -n then (0,false) else (-n,true)):=zz rfl
   by_cases hmin:n < -9223372036854775807
   ·have HG:=zz (HF.out.trans (if_pos hmin));obtain rfl:n=-9223372036854775808:=zo
    clear HF;go_wp2
    go_ret2
    exact⟨by rw[HE.out,HG.out];rfl,zbb _ _ _⟩
   ·have HG:=zz (HF.out.trans (if_neg hmin));have hmb:(n == -9223372036854775808)=false:=by simp;omega
    clear HF
    by_cases ho:-n<low\/high < -n
    ·have HH:=zz (HG.out.trans (if_pos ho));clear HG;rcases (show -n<low\/(¬-n<low/\high < -n) by omega) with h|⟨h,h'⟩
     all_goals
      clear ho;go_wp2
      go_ret2
      exact⟨by rw[HE.out,HH.out];rfl,zbb _ _ _⟩
    ·have HH:=zz (HG.out.trans (if_neg ho));have h1:¬-n<low:=λh=>ho (.inl h);have h2:¬high < -n:=λh=>ho (.inr h);clear HG ho;go_wp2
     go_ret2
     exact⟨by rw[HE.out,HH.out];rfl,zbb _ _ _⟩
theorem zoL (s:ByteArray) (low high:Int) (w:World) (h1:s.size=1) (hm:zak s 0=45) :
 Calls Tryz.prog 54 #[↑s,↑low,↑high] w λe w'=>e=.returned (.tuple #[↑(),.bool false])/\Below w.heap.size w w':=by
 have h0:0<s.size:=zo
 have hne:¬s.toList=[]:=λh=>by
  rw[ByteArray.toList_eq] at h;have:=zai s;rw[h] at this;simp at this;omega
 have hemp:s.toList.isEmpty=false:=by simpa using hne
 have hi0:(Instr.index 9 ↑s ↑()).run Tryz.prog w=.ok (.int .u8 (zak s 0)) w:=by simpa using zaP s 0 h0 w
 obtain⟨dg,hdg⟩:=zn (s.extract 1 s.size)
 have hsl:(Instr.slice 9 ↑s (some (.int .i64 1)) none none).run Tryz.prog w=.ok ↑dg w:=by
  rw[run_slice_string_l w _ s Tryz.underlying9 _ 1 zo zo,<-hdg];rfl
 have hds:dg.size=s.size-1:=by rw[<-hdg,ByteArray.size_extract];omega
 have e45:(zak s 0 == 45)=true:=by simpa using hm
 have hde:dg.toList=[]:=by rw[ByteArray.toList_eq];exact List.eq_nil_of_length_eq_zero (by rw[zai];omega)
 obtain⟨X0,hX0⟩:=zn (zak s 0);rw[hX0] at hi0 e45 hm;clear hX0;clear hm hdg h1;go_in;go_wp2
 go_ret2
 exact⟨rfl,Below.refl _ _⟩
theorem zlS (s:ByteArray) (low high:Int) (w:World) (h1:1<s.size) (hm:zak s 0=45) (hz:zak s 1=48) :
 Calls Tryz.prog 54 #[↑s,↑low,↑high] w λe w'=>e=.returned (.tuple #[↑(),.bool false])/\Below w.heap.size w w':=by
 have h0:0<s.size:=zo
 have hne:¬s.toList=[]:=λh=>by
  rw[ByteArray.toList_eq] at h;have:=zai s;rw[h] at this;simp at this;omega
 have hemp:s.toList.isEmpty=false:=by simpa using hne
 have hi0:(Instr.index 9 ↑s ↑()).run Tryz.prog w=.ok (.int .u8 (zak s 0)) w:=by simpa using zaP s 0 h0 w
 obtain⟨dg,hdg⟩:=zn (s.extract 1 s.size)
 have hsl:(Instr.slice 9 ↑s (some (.int .i64 1)) none none).run Tryz.prog w=.ok ↑dg w:=by
  rw[run_slice_string_l w _ s Tryz.underlying9 _ 1 zo zo,<-hdg];rfl
 have hds:dg.size=s.size-1:=by rw[<-hdg,ByteArray.size_extract];omega
 have e45:(zak s 0 == 45)=true:=by simpa using hm
 have hdne:¬dg.toList=[]:=λh=>by
  rw[ByteArray.toList_eq] at h;have:=zai dg;rw[h] at this;simp at this;omega
 have hdemp:dg.toList.isEmpty=false:=by simpa using hdne
 have hd0:(Instr.index 9 ↑dg ↑()).run Tryz.prog w=.ok (.int .u8 (zak dg 0)) w:=by simpa using zaP dg 0 zo w
 have hb1:zak dg 0=zak s 1:=by
  rw[<-hdg];unfold zak;rw[List.getD_eq_getElem?_getD,List.getD_eq_getElem?_getD,Array.getElem?_toList,Array.getElem?_toList,ByteArray.data_extract,Array.getElem?_extract,if_pos (by rw[show s.data.size=s.size from rfl];omega)]
 have e48:(zak dg 0 == 48)=true:=by rw[hb1];simpa using hz
 have en:(s.toList == [48])=false:=by
  rw[beq_eq_false_iff_ne];intro h;rw[ByteArray.toList_eq] at h;have:=zai s;rw[h] at this;simp at this;omega
 obtain⟨X0,hX0⟩:=zn (zak s 0);rw[hX0] at hi0 e45 hm;clear hX0;obtain⟨X1,hX1⟩:=zn (zak dg 0);rw[hX1] at hd0 e48;clear hm hdg hX1 hb1 hz hds;go_in;go_wp2
 go_ret2
 exact⟨rfl,Below.refl _ _⟩
theorem zpv (s:ByteArray) (low high:Int) (w:World) (hs:s.size<=2097152) (h1:1<s.size) (hm:zak s 0=45) (hz:¬zak s 1=48) :
 Calls Tryz.prog 54 #[↑s,↑low,↑high] w λe w'=>e=.returned (.tuple #[.int .i64 (zcU true low high (digs (s.extract 1 s.size).data.toList 0)).1,.bool (zcU true low high (digs (s.extract 1 s.size).data.toList 0)).2])/\Below w.heap.size w w':=by
 have h0:0<s.size:=zo
 have hne:¬s.toList=[]:=λh=>by
  rw[ByteArray.toList_eq] at h;have:=zai s;rw[h] at this;simp at this;omega
 have hemp:s.toList.isEmpty=false:=by simpa using hne
 have hi0:(Instr.index 9 ↑s ↑()).run Tryz.prog w=.ok (.int .u8 (zak s 0)) w:=by simpa using zaP s 0 h0 w
 obtain⟨dg,hdg⟩:=zn (s.extract 1 s.size)
 have hsl:(Instr.slice 9 ↑s (some (.int .i64 1)) none none).run Tryz.prog w=.ok ↑dg w:=by
  rw[run_slice_string_l w _ s Tryz.underlying9 _ 1 zo zo,<-hdg];rfl
 have hds:dg.size=s.size-1:=by rw[<-hdg,ByteArray.size_extract];omega
 have e45:(zak s 0 == 45)=true:=by simpa using hm
 have hdne:¬dg.toList=[]:=λh=>by
  rw[ByteArray.toList_eq] at h;have:=zai dg;rw[h] at this;simp at this;omega
 have hdemp:dg.toList.isEmpty=false:=by simpa using hdne
 have hd0:(Instr.index 9 ↑dg ↑()).run Tryz.prog w=.ok (.int .u8 (zak dg 0)) w:=by simpa using zaP dg 0 zo w
 have hb1:zak dg 0=zak s 1:=by
  rw[<-hdg];unfold zak;rw[List.getD_eq_getElem?_getD,List.getD_eq_getElem?_getD,Array.getElem?_toList,Array.getElem?_toList,ByteArray.data_extract,Array.getElem?_extract,if_pos (by rw[show s.data.size=s.size from rfl];omega)]
 have e48:(zak dg 0 == 48)=false:=by rw[hb1];simpa using hz
 obtain⟨X0,hX0⟩:=zn (zak s 0);rw[hX0] at hi0 e45 hm;clear hX0;obtain⟨X1,hX1⟩:=zn (zak dg 0);rw[hX1] at hd0 e48;rw[hdg];clear hm hdg hX1 hb1 hz;go_in;go_wp2
 go_loopw [10] (λs10 wr=>∃(pos:Nat) (n:Int),s10=↑n/\-9223372036854775807<=n+1/\n<=0/\pos<=dg.size/\wr=w.iter dg pos/\Hid (digs dg.data.toList 0=digs (dg.data.toList.drop pos) n)) (λ_ wr=>dg.size-wr.iterPos w.heap.size)
 case atStart=>exact⟨0,0,rfl,zo,zo,zo,rfl,zz (by rw[List.drop_zero])⟩
 case round=>
  obtain⟨pos,n,rfl,hn1,hn0,hp,rfl,HD⟩:=hrel;clear hi0 hd0 hsl
  by_cases hlt:pos<dg.size
  ·obtain⟨R,W,hW,hR,hc,hnx⟩:=zjV (w:=w) (dg:=dg) (pos:=pos) hlt;have HS:=zz (HD.out.trans (zgc (by rw[zai];exact hlt) n));rw[show ((dg.data.toList.getD pos 0).toNat:Int)=zak dg pos from rfl] at HS;have hbr:=zbt dg pos;obtain⟨X,hX⟩:=zn (zak dg pos);rw[hX] at hc HS hbr;clear hX
   by_cases hd:48<=X/\X<=57
   ·obtain⟨d1,d2⟩:=hd
    obtain⟨hRX,_,rfl⟩:(R:Int)=X/\R<128/\W=1:=by
     rcases hc with h|h
     ·exact h
     ·omega
    subst hRX;have k1:¬(R:Int)<48:=zo
    have k2:¬57<(R:Int):=zo
    by_cases ht:n<(-9223372036854775808+((R:Int)-48)).tdiv 10
    ·have HE:Hid (digs dg.data.toList 0=none):=zz (by
      rw[HS.out];unfold zcm;rw[if_neg zo,if_pos ht];rfl)
     clear HS hc;go_wp2
     go_ret2
     exact⟨by rw[HE.out];rfl,zbb _ _ _⟩
    ·have hq:-9223372036854775807<=n*10-((R:Int)-48)+1/\n*10-((R:Int)-48)<=0:=by
      rw[zpy zo] at ht;omega
     have HE:Hid (digs dg.data.toList 0=digs (dg.data.toList.drop (pos+1)) (n*10-((R:Int)-48))):=zz (by
      rw[HS.out];unfold zcm;rw[if_neg zo,if_neg ht];rfl)
     clear HS hc;go_wp2;exact⟨⟨pos+1,_,rfl,zo,zo,zo,rfl,HE⟩,by simp;omega⟩
   ·have HE:Hid (digs dg.data.toList 0=none):=zz (by
     rw[HS.out];unfold zcm;rw[if_pos zo];rfl)
    clear HS;rcases (show (R:Int)<48\/(¬(R:Int)<48/\57<(R:Int)) by omega) with h|⟨h,h'⟩
    all_goals
     clear hc hd;go_wp2
     go_ret2
     exact⟨by rw[HE.out];rfl,zbb _ _ _⟩
  ·have hnx:=λty=>run_next_end (P:=Tryz.prog) w dg pos ty hlt;have HE:=zz (HD.out.trans (zjz (by rw[zai];exact hlt) n));clear HD;have HG:Hid (zcU true low high (some n)=if n<low\/high<n then (0,false) else (n,true)):=zz rfl
   by_cases ho:n<low\/high<n
   ·have HH:=zz (HG.out.trans (if_pos ho));clear HG;rcases (show n<low\/(¬n<low/\high<n) by omega) with h|⟨h,h'⟩
    all_goals
     clear ho;go_wp2
     go_ret2
     exact⟨by rw[HE.out,HH.out];rfl,zbb _ _ _⟩
   ·have HH:=zz (HG.out.trans (if_neg ho));have h1:¬n<low:=λh=>ho (.inl h);have h2:¬high<n:=λh=>ho (.inr h);clear HG ho;go_wp2
    go_ret2
    exact⟨by rw[HE.out,HH.out];rfl,zbb _ _ _⟩
def zbD (s:ByteArray) (low high:Int):Int × Bool:=
 if s.size=0 then (0,false)
 else if zak s 0=45 then (if s.size=1\/zak s 1=48 then (0,false) else zcU true low high (digs (s.extract 1 s.size).data.toList 0))
 else if zak s 0=48/\¬s.size=1 then (0,false) else zcU false low high (digs s.data.toList 0)
theorem zsZ {s:ByteArray} (h:s.size=1) (hb:zak s 0=48):s=ByteArray.mk #[48]:=by
 apply zbX;rw[ByteArray.toList_eq];have hl:s.data.toList.length=1:=by rw[zai];exact h
 obtain⟨c,hc⟩:=List.length_eq_one_iff.1 hl;unfold zak at hb;rw[hc] at hb ⊢
 have:c=48:=by
  apply UInt8.toNat_inj.1;have:((c.toNat:Nat):Int)=48:=hb;have h2:(48:UInt8).toNat=48:=rfl;omega
 rw[this,ByteArray.toList_eq]
theorem zfQ (s:ByteArray) (low high:Int) (w:World) (hs:s.size<=2097152) :
 Calls Tryz.prog 54 #[↑s,↑low,↑high] w λe w'=>e=.returned (.tuple #[.int .i64 (zbD s low high).1,.bool (zbD s low high).2])/\Below w.heap.size w w':=by
 unfold zbD
 by_cases h0:s.size=0
 ·rw[if_pos h0];exact zoG s low high w h0
 rw[if_neg h0]
 by_cases hm:zak s 0=45
 ·rw[if_pos hm]
  by_cases h1:s.size=1
  ·rw[if_pos (.inl h1)];exact zoL s low high w h1 hm
  by_cases hz:zak s 1=48
  ·rw[if_pos (.inr hz)];exact zlS s low high w zo hm hz
  ·rw[if_neg (λh=>h.elim h1 hz)];exact zpv s low high w hs zo hm hz
 ·rw[if_neg hm]
  by_cases hz:zak s 0=48
  ·by_cases h1:s.size=1
   ·rw[if_neg (λh=>h.2 h1)];obtain rfl:=zsZ h1 hz;exact zoT low high w
   ·rw[if_pos ⟨hz,h1⟩];exact zoR s low high w zo hz
  ·rw[if_neg (λh=>hz h.1)];exact zpg s low high w hs zo hm hz
end Go.Proofs.YtcebmphappfjjaaGreatDoor
