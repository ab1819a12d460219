/- Conditions: those in each statement. -/
import Derived.Test.YtcebmphappfjjaaGreatDoorV13
import Derived.BigQuiet
set_option maxHeartbeats 32000000
set_option maxRecDepth 100000
namespace Go.Proofs.YtcebmphappfjjaaGreatDoor
open Go.RowKit Go.MapKept
theorem znI (kd:Int) (tx:ByteArray) (nn at':Int) (l:List Nd) (ctors:List ByteArray):zdR (.mk kd tx nn at' l) ctors=if kd=3 then zaY l ctors
 else match (zaY (zaL l) []).1 with
 |some a=>(some a,ctors)
 |none=>if kd=6 then (zcS (l.drop (zaL l).length) [] [],ctors) else (none,ctors):=rfl
structure MbSt (w W:World) (ms mh:Nat) (st hd:List ByteArray):Prop where
 low:Below w.heap.size w W
 states:zaN W ms (setL st)
 hands:zaN W mh (setL hd)
 les:w.heap.size<=ms
 leh:w.heap.size<=mh
 ne:ms≠mh
section
variable {w W W':World} {ms mh:Nat} {st hd:List ByteArray}
theorem MbSt.below (h:MbSt w W ms mh st hd) (k:Below W.heap.size W W'):MbSt w W' ms mh st hd:=
 ⟨zac h.low k h.low.size,zaq h.states (Chg.of_below (M:=λ_=>False) k) (λh=>h),zaq h.hands (Chg.of_below (M:=λ_=>False) k) (λh=>h),h.les,h.leh,h.ne⟩
end
theorem zeZ {w w1 W:World} {m:Nat} {ct:List ByteArray} {o:Option Int} {e:Ending} (b1:Below w.heap.size w w1) (hm:zaN w1 m (setL ct)) (hp:Below w1.heap.size w1 W)
 (he:match o with|some a=>e=.returned (.tuple #[.int .i64 a,.bool true])|none=>e=.returned (.tuple #[↑(),.bool false])):zhD w m (o,ct) e W:=
 ⟨Kept.of_below (zac b1 hp b1.size),zaq hm (Chg.of_below (M:=λ_=>False) hp) (λh=>h),he⟩
theorem znV (kd:Int) (tx:ByteArray) (nn at':Int) (l:List Nd) (hs:zaB l<=2097152) (A:Option Addr) (c m:Nat) (ctors:List ByteArray) (w:World) (hz:kd=6->l=[]) (h:Rd (Lt w.heap.size) w (ns l) (.slice A l.length c)) (hm:zaN w m (setL ctors)) :
 Calls Tryz.prog 128 #[.agg #[↑kd,↑tx,↑nn,↑at',.slice A l.length c],.map (some m)] w (zhD w m (zdR (.mk kd tx nn at' l) ctors)):=by
 have hmm:=@run_makeMap Tryz.prog;have hl:=zaS h;have hc1:=hl.2.1;have hc2:=hl.2.2;have hn:l.length<=2097152:=Nat.le_trans (zat l) hs;obtain⟨r,hr⟩:=zn (zdR (.mk kd tx nn at' l) ctors);rw[hr];rw[znI] at hr;obtain⟨w1,h1,b1,c1⟩:=zaj w #[↑kd,↑tx,↑nn,↑at',.slice A l.length c] 49;have s1:w1.heap.size=w.heap.size+1:=by rw[<-h1];simp
 have x0:=c1.cell 0;have x4:=c1.a 4 rfl;have hm1:zaN w1 m (setL ctors):=zaq hm (Chg.of_below (M:=λ_=>False) b1) (λh=>h);have HM0:=zz hm;have HM1:=zz hm1;have HB1:=zz b1;have HC1:=zz c1;have HR1:=zz (h.belows b1);have hml:=hm.lt;have HZ6:=zz hz;clear h hl hm hm1 b1 c1 hz
 by_cases hk:kd=3
 ·subst hk;rw[if_pos rfl] at hr;have KR:=zz (zcX l A c m ctors w1 HR1.out HM1.out);rw[hr] at KR;clear hr;go_in;go_wp2_with fail;refine zi KR ?_;obtain⟨o,s'⟩:=r;cases o with
  |none=>
   rintro e w2 ⟨hk2,hm2,rfl⟩;have HP:=zz (And.intro ((Kept.of_below (M:=λq=>q=m) HB1.out).next hk2) hm2);clear hk2 hm2;go_wp2
   go_ret2
   exact⟨HP.out.1,HP.out.2,rfl⟩
  |some a=>
   rintro e w2 ⟨hk2,hm2,rfl⟩;have HP:=zz (And.intro ((Kept.of_below (M:=λq=>q=m) HB1.out).next hk2) hm2);clear hk2 hm2;go_wp2
   go_ret2
   exact⟨HP.out.1,HP.out.2,rfl⟩
 ·rw[if_neg hk] at hr;have e3:(kd == 3)=false:=by rw[beq_eq_false_iff_ne];exact hk
  clear hk;have KL:=zz (zcj l A c w1 HR1.out);obtain⟨f,hf⟩:=zn (zaL l);have hfl:f.length<=l.length:=by rw[<-hf];exact zgw l
  have HRf:=zz (zih HR1.out);rw[hf] at hr KL HRf;clear hf;go_in;go_wp2_with fail;refine zi KL ?_;rintro e w2 ⟨rfl,hb2⟩;have HB2:=zz (zac HB1.out hb2 HB1.out.size);have b3:=zag w2 (.map #[] 0);have m3:=zaN.new w2;obtain⟨w3,h3⟩:=zn (w2.alloc (.map #[] 0));have s3:w3.heap.size=w2.heap.size+1:=by rw[<-h3];simp
  rw[h3] at b3 m3;have hb3:=zac hb2 b3 hb2.size;have HB3:=zz (zac HB2.out b3 HB2.out.size);have HB13:=zz hb3;have X3:=zz (zaa hb3 HC1.out);have HM3:=zz (zaq HM1.out (Chg.of_below (M:=λ_=>False) hb3) (λh=>h));have HR3:=zz (HR1.out.belows hb3);have KR:=zz (zcX f A c w2.heap.size [] w3 (HRf.out.belows hb3) m3);have hs12:=hb2.size;have hs23:w2.heap.size<w3.heap.size:=zo
  clear hb2 hb3 b3 m3 s3 x0 x4 h1;go_wp2_with fail;refine zi KR ?_;obtain⟨q,hq⟩:=zn (zaY f []);rw[hq] at hr KR ⊢;obtain⟨o,s'⟩:=q;cases o with
  |some a=>
   have HQ:=zz hr;rintro e w4 ⟨hk4,hm4,rfl⟩;have HP:Hid (Below w.heap.size w w4):=zz (HB3.out.trans (hk4.chg.below HB3.out.size (λq hq=>by omega)));clear hr hk4 hm4;go_wp2
   go_ret2
   rw[<-HQ.out];exact⟨Kept.of_below HP.out,zaq HM0.out (Chg.of_below (M:=λ_=>False) HP.out) (λh=>h),rfl⟩
  |none=>
   simp only at hr;rintro e w4 ⟨hk4,hm4,rfl⟩;have HB4:Hid (Below w.heap.size w w4):=zz (HB3.out.trans (hk4.chg.below HB3.out.size (λq hq=>by omega)));have X4:=zz (hk4.cells X3.out zo);have x0:=X4.out.cell 0;have x4:=X4.out.a 4 rfl;have HR4:=zz (hk4.rd HR3.out);have hs34:=hk4.size;have HB14:Hid (Below w1.heap.size w1 w4):=zz (HB13.out.trans (hk4.chg.below HB13.out.size (λq hq=>by omega)));clear hk4 hm4 X3 HR3 HM3 KR KL h3
   by_cases hk6:kd=6
   ·subst hk6;rw[if_pos rfl] at hr;clear e3;have hmx:∀W:World,Below w1.heap.size w1 W->W.cell? ⟨w.heap.size,4,none⟩=some (.slice A l.length c):=λW hb=>(zaa hb HC1.out).cell 4;have HMX:=zz hmx;have b5:=zag w4 (.map #[] 0);have m5:=zaN.new w4;obtain⟨w5,h5⟩:=zn (w4.alloc (.map #[] 0));have s5:w5.heap.size=w4.heap.size+1:=by rw[<-h5];simp
    rw[h5] at b5 m5;have b6:=zag w5 (.map #[] 0);have m6:=zaN.new w5;obtain⟨w6,h6⟩:=zn (w5.alloc (.map #[] 0));rw[h6] at b6 m6;have Z0:Hid (MbSt w1 w6 w4.heap.size w5.heap.size [] []):=zz ⟨zac (zac HB14.out b5 HB14.out.size) b6 (by have:=HB14.out.size;omega),zaq m5 (Chg.of_below (M:=λ_=>False) b6) (λh=>h),m6,HB14.out.size,by have:=HB14.out.size;omega,zo⟩;obtain⟨ms,hms⟩:=zn w4.heap.size;obtain⟨mh,hmh⟩:=zn w5.heap.size;have x6:w6.cell? ⟨w.heap.size,4,none⟩=some (.slice A l.length c):=hmx w6 Z0.out.low;have HQR:=zz hr;clear hr hmx b5 m5 b6 m6 s5
    by_cases hfk:f.length<l.length
    ·exact absurd hfk (by rw[HZ6.out rfl];exact Nat.not_lt_zero _)
    ·have hfe:l.length<=f.length:=zo
     have HQ:Hid ((none,ctors)=r):=zz (by
      have q:=HQR.out;rw[List.drop_eq_nil_of_le hfe,zcS] at q;exact q)
     clear HQR
     by_cases hcf:c=f.length
     ·subst hcf;go_wp2
      go_loopw [49] (λs wr=>s=↑()/\Hid (MbSt w1 wr w4.heap.size w5.heap.size [] [])) (λ_ _=>0)
      case atStart=>exact⟨rfl,Z0⟩
      case round=>
       obtain⟨rfl,HB⟩:=hrel;have HP:=zz HB.out.low;go_wp2
       go_ret2
       rw[<-HQ.out];exact zeZ HB1.out HM1.out HP.out rfl
     ·have hcf2:f.length<c:=zo
      have hcb:(c == f.length)=false:=by rw[beq_eq_false_iff_ne];exact hcf
      cases A with
      |none=>
       go_wp2
       go_loopw [49] (λs wr=>s=↑()/\Hid (MbSt w1 wr w4.heap.size w5.heap.size [] [])) (λ_ _=>0)
       case atStart=>exact⟨rfl,Z0⟩
       case round=>
        obtain⟨rfl,HB⟩:=hrel;have HP:=zz HB.out.low;go_wp2
        go_ret2
        rw[<-HQ.out];exact zeZ HB1.out HM1.out HP.out rfl
      |some a=>
       go_wp2
       go_loopw [49] (λs wr=>s=↑()/\Hid (MbSt w1 wr w4.heap.size w5.heap.size [] [])) (λ_ _=>0)
       case atStart=>exact⟨rfl,Z0⟩
       case round=>
        obtain⟨rfl,HB⟩:=hrel;have HP:=zz HB.out.low;go_wp2
        go_ret2
        rw[<-HQ.out];exact zeZ HB1.out HM1.out HP.out rfl
   ·rw[if_neg hk6] at hr;have e6:(kd != 6)=true:=by rw[bne_iff_ne];exact hk6
    have HQ:=zz hr;clear hk6 hr;go_wp2
    go_ret2
    rw[<-HQ.out];exact⟨Kept.of_below HB4.out,zaq HM0.out (Chg.of_below (M:=λ_=>False) HB4.out) (λh=>h),rfl⟩
def MapS (w:World) (m:Nat) (L:List (ByteArray × Value)):Prop:=
 ∃es clock,w.heap[m]?=some (.map es clock)/\Stamped es clock/\es.toList.map (λe=>(e.key,e.val))=L.map (λp=>(Value.string p.1,p.2))
theorem MapS.is {w:World} {m:Nat} {L:List (ByteArray × Value)} (h:MapS w m L):zaN w m L:=by
 obtain⟨es,c,h1,_,h3⟩:=h;exact⟨es,c,h1,h3⟩
theorem MapS.keep {w w':World} {m:Nat} {L:List (ByteArray × Value)} (h:MapS w m L) (hk:w'.heap[m]?=w.heap[m]?):MapS w' m L:=by
 obtain⟨es,clock,h,h2⟩:=h;exact⟨es,clock,hk.trans h,h2⟩
theorem zaD {M:Nat->Prop} {w w':World} {m:Nat} {L:List (ByteArray × Value)} (h:MapS w m L) (k:Chg M w w') (hm:¬M m):MapS w' m L:=h.keep (k.block m h.is.lt hm)
theorem MapS.new (w:World):MapS (w.alloc (.map #[] 0)) w.heap.size []:=⟨#[],0,heap_alloc_new w _,stamped_empty 0,rfl⟩
section
variable {P:Program} {T K E:TypeId} (hT:P.underlying T=some (.map K E)) (hK:P.underlying K=some .string)
include hT hK
theorem zfT {w:World} {m:Nat} {L:List (ByteArray × Value)} (h:zaN w m L) {z:Value} (hz:(zeroValue E).run P w=.ok z w) (k:ByteArray) :
 (Instr.lookup T (.map (some m)) ↑k true).run P w=.ok (.tuple #[mget z L k,.bool (fnd k L 0).isSome]) w:=by
 obtain⟨es,clock,hb,he⟩:=h;have hf:=zcO k es.toList L 0 he;have hfk:=run_findKey (P:=P) (w:=w) hK hf;have hck:∀b,(Instr.checkKey b 10000 K ↑k).run P w=.ok () w:=λb=>run_checkKey (P:=P) (w:=w) hK (k:=↑k) trivial b 9999;unfold mget;cases hx:fnd k L 0 with
 |none=>
  rw[hx] at hfk;simp[Instr.lookup,run_underlying hT,MapKept.run_getObj_map hb,hck,hfk,hz]
 |some p=>
  rw[hx] at hfk;simp[Instr.lookup,run_underlying hT,MapKept.run_getObj_map hb,hck,hfk]
end
def typM:List Nd->Nat->List (ByteArray × Value)
 |[],_=>[]
 |n::r,i=>if n.kind=2\/n.kind=3 then (n.text,.int .i64 i)::typM r (i+1) else typM r (i+1)
def acM:List Nd->Nat->List (ByteArray × Value)
 |[],_=>[]
 |n::r,i=>if n.kind=6 then (n.text,.int .i64 i)::acM r (i+1) else acM r (i+1)
theorem zgu (k:ByteArray):∀(L:List (ByteArray × Value)) (i:Nat),(fnd k L i).isSome=memB k (L.map Prod.fst)
 |[],_=>rfl
 |p::r,i=>by
  rw[fnd,List.map_cons]
  by_cases h:k=p.1
  ·rw[if_pos h];unfold memB;rw[List.any_cons,decide_eq_true h.symm];rfl
  ·rw[if_neg h,zgu k r (i+1)];unfold memB;rw[List.any_cons,decide_eq_false (λe=>h e.symm)];rfl
theorem zgE {k:ByteArray} {L:List (ByteArray × Value)} (v:Value) (h:memB k (L.map Prod.fst)=false):mput L k v=L++[(k,v)]:=by
 have:=zgu k L 0;rw[h] at this;unfold mput;cases hf:fnd k L 0 with
 |none=>rfl
 |some p=>rw[hf] at this;cases this
theorem zct {w:World} {b m:Nat} {cs:Array Value} {e:TypeId} {L:List (ByteArray × Value)} (hc:zab w b cs e) (hm:zaN w m L):b≠m:=λh=>by
 subst h;obtain⟨es,cl,h1,_⟩:=hm;have h2:w.heap[b]?=some (.cells cs e (0,0)):=hc;rw[h1] at h2;cases h2
theorem zff {w:World} {m:Nat} {L:List (ByteArray × Value)} (h:zaN w m L) (k:ByteArray):(Instr.lookup 111 (.map (some m)) ↑k true).run Tryz.prog w=.ok (.tuple #[mget ↑() L k,.bool (memB k (L.map Prod.fst))]) w:=by
 have:=zfT (P:=Tryz.prog) (T:=111) Tryz.underlying111 Tryz.underlying9 h (z:=↑()) zk k
 rwa [zgu] at this
def addB (k:ByteArray) (l:List ByteArray):List ByteArray:=if memB k l=true then l else l++[k]
theorem znl {k:ByteArray}:∀{l:List ByteArray} {i:Nat} {p:Nat × Value},fnd k (setL l) i=some p->(setL l).set (p.1-i) (k,.bool true)=setL l/\i<=p.1
 |[],i,p,h=>by cases h
 |x::r,i,p,h=>by
  have h':(if k=x then some (i,Value.bool true) else fnd k (setL r) (i+1))=some p:=h
  by_cases hk:k=x
  ·rw[if_pos hk] at h';cases h';subst hk;simp[setL]
  ·rw[if_neg hk] at h';have h2:=znl h';refine⟨?_,zo⟩
   show ((x,Value.bool true)::setL r).set (p.1-i) (k,.bool true)=(x,Value.bool true)::setL r
   rw[show p.1-i=(p.1-(i+1))+1 by omega,List.set_cons_succ,h2.1]
theorem zqi (k:ByteArray) (l:List ByteArray):mput (setL l) k (.bool true)=setL (addB k l):=by
 unfold addB;cases h:memB k l with
 |false=>rw[if_neg zs,zkX h]
 |true=>
  rw[if_pos rfl];unfold mput;obtain⟨j,hj⟩:=zes k l 0 h;rw[hj];exact(znl hj).1
theorem zdQ {w:World} {m:Nat} {l:List ByteArray} (h:zaN w m (setL l)) (k:ByteArray):∃w',(Instr.mapUpdate 156 (.map (some m)) ↑k (.bool true)).run Tryz.prog w=.ok () w'/\zaN w' m (setL (addB k l))/\Kept (λq=>q=m) w w'/\w'.heap.size=w.heap.size:=by
 obtain⟨w',h1,h2,h3,h4⟩:=zap (P:=Tryz.prog) (T:=156) Tryz.underlying156 Tryz.underlying9 h k (.bool true);rw[zqi] at h2;exact⟨w',h1,h2,zfL h h2 h3,h4⟩
theorem zgB {w:World} {m:Nat} {L:List (ByteArray × Value)} (h:MapS w m L) (k:ByteArray) (v:Value):∃w',(Instr.mapUpdate 111 (.map (some m)) ↑k v).run Tryz.prog w=.ok () w'/\MapS w' m (mput L k v)/\Kept (λq=>q=m) w w'/\w'.heap.size=w.heap.size:=by
 obtain⟨w',h1,h2,h3,h4⟩:=zap (P:=Tryz.prog) (T:=111) Tryz.underlying111 Tryz.underlying9 h.is k v;refine⟨w',h1,?_,zfL h.is h2 h3,h4⟩;obtain⟨es,clock,hb,hst,he⟩:=h
 have hks:∀x∈es.toList,IsKey .string x.key:=λx hx=>by
  obtain⟨j,hj⟩:=List.getElem?_of_mem hx;have h1:=congrArg (λl=>l[j]?) he;simp only[List.getElem?_map,hj,Option.map_some] at h1;cases hL:L[j]? with
  |none=>rw[hL] at h1;cases h1
  |some p=>
   rw[hL] at h1;simp only[Option.map_some,Option.some.injEq,Prod.mk.injEq] at h1;rw[h1.1];trivial
 obtain⟨es',cl',hb',hst',_,_⟩:=mapUpdate_keeps (P:=Tryz.prog) (d:=.string) Tryz.underlying111 Tryz.underlying9 hb hst hks (key:=↑k) trivial h1;obtain⟨es2,cl2,hb2,he2⟩:=h2;rw[hb'] at hb2;cases hb2;exact⟨es',cl',hb',hst',he2⟩
theorem ztX {n:Nd} {s:Nms} (h:n.kind=3):badN n s=(memB n.text s.types || memB n.text s.actors):=by unfold badN;rw[if_neg zo,if_pos (.inl h)]
theorem zuf {n:Nd} {s:Nms} (h:n.kind=6):badN n s=(memB n.text s.types || memB n.text s.actors):=by unfold badN;rw[if_neg zo,if_pos (.inr h)]
theorem zun {n:Nd} {s:Nms} (h:n.kind=5):badN n s=memB n.text s.funs:=by unfold badN;rw[if_neg zo,if_neg zo,if_pos h]
theorem zue {n:Nd} {s:Nms} (h:n.kind=3):addN n s={s with types:=s.types++[n.text] }:=by unfold addN;rw[if_neg zo,if_pos h]
theorem zug {n:Nd} {s:Nms} (h:n.kind=6):addN n s={s with actors:=s.actors++[n.text] }:=by unfold addN;rw[if_neg zo,if_neg zo,if_pos h]
theorem zuv {n:Nd} {s:Nms} (h:n.kind=5):addN n s={s with funs:=s.funs++[n.text] }:=by unfold addN;rw[if_neg zo,if_neg zo,if_neg zo,if_pos h]
theorem zeY (n:Nd) (hz:n.kind=6->n.kids=[]) (hs:zaB n.kids<=2097152) (A:Option Addr) (c m:Nat) (ctors:List ByteArray) (w:World) (h:Rd (Lt w.heap.size) w (ns n.kids) (.slice A n.kids.length c)) (hm:zaN w m (setL ctors)) :
 Calls Tryz.prog 128 #[.agg #[↑n.kind,↑n.text,↑n.n,↑n.at',.slice A n.kids.length c],.map (some m)] w (zhD w m (zdR n ctors)):=by
 obtain⟨k,t,nn,a,l⟩:=n;exact znV k t nn a l hs A c m ctors w hz h hm
abbrev LtB:=Lt
def DcAt (w:World) (db:Nat) (A:Option Addr) (n c mt ma:Nat):Prop:=zab w db #[.slice A n c,.map (some mt),.map (some ma)] 113
structure TwSt (w W:World) (mt ma mc me mf:Nat) (s:Nms) (Lt La:List (ByteArray × Value)):Prop where
 kept:Kept (λq=>q=mt\/q=ma) w W
 tm:MapS W mt Lt
 am:MapS W ma La
 cm:zaN W mc (setL s.ctors)
 em:zaN W me (setL s.effects)
 fm:zaN W mf (setL s.funs)
 tn:s.types=Lt.map Prod.fst
 an:s.actors=La.map Prod.fst
 res:zab W w.heap.size #[.int .i64 0,.int .i64 0] 117
 lc:w.heap.size<mc
 le:mc<me
 lf:me<mf
section
variable {w W W':World} {mt ma mc me mf:Nat} {s:Nms} {Lt La:List (ByteArray × Value)}
theorem TwSt.below (h:TwSt w W mt ma mc me mf s Lt La) (k:Below W.heap.size W W'):TwSt w W' mt ma mc me mf s Lt La:=
 have hc:=Chg.of_below (M:=λ_=>False) k
 ⟨h.kept.below k,zaD h.tm hc (λh=>h),zaD h.am hc (λh=>h),zaq h.cm hc (λh=>h),zaq h.em hc (λh=>h),zaq h.fm hc (λh=>h),h.tn,h.an,zaa k h.res,h.lc,h.le,h.lf⟩
theorem TwSt.drewN (h:TwSt w W mt ma mc me mf s Lt La) (q:Nat):TwSt w (W.drewN q) mt ma mc me mf s Lt La:=h.below (zae (Below.refl _ _) q)
theorem TwSt.drew (h:TwSt w W mt ma mc me mf s Lt La):TwSt w W.drew mt ma mc me mf s Lt La:=h.drewN 1
theorem zll {x:Nat} (k:Kept (λq=>q=x) W W') (h:Kept (λq=>q=mt\/q=ma) w W) (hx:x=mt\/x=ma\/w.heap.size<=x):Kept (λq=>q=mt\/q=ma) w W':=
 h.trans k (λj hj=>by subst hj;omega)
theorem TwSt.turnT {Lt':List (ByteArray × Value)} {s':Nms} (h:TwSt w W mt ma mc me mf s Lt La) (hta:mt≠ma) (hmt:mt<w.heap.size) (k:Kept (λq=>q=mt) W W') (hm:MapS W' mt Lt') (hs:s'={s with types:=Lt'.map Prod.fst}):TwSt w W' mt ma mc me mf s' Lt' La:=by
 subst hs;have h1:=h.lc;have h2:=h.le;have h3:=h.lf;exact⟨zll k h.kept (.inl rfl),hm,zaD h.am k.chg (λe=>hta e.symm),zaq h.cm k.chg zo,zaq h.em k.chg zo,zaq h.fm k.chg zo,rfl,h.an,k.cells h.res zo,h.lc,h.le,h.lf⟩
theorem TwSt.turnA {La':List (ByteArray × Value)} {s':Nms} (h:TwSt w W mt ma mc me mf s Lt La) (hta:mt≠ma) (hma:ma<w.heap.size) (k:Kept (λq=>q=ma) W W') (hm:MapS W' ma La') (hs:s'={s with actors:=La'.map Prod.fst}):TwSt w W' mt ma mc me mf s' Lt La':=by
 subst hs;have h1:=h.lc;have h2:=h.le;have h3:=h.lf;exact⟨zll k h.kept (.inr (.inl rfl)),zaD h.tm k.chg hta,hm,zaq h.cm k.chg zo,zaq h.em k.chg zo,zaq h.fm k.chg zo,h.tn,rfl,k.cells h.res zo,h.lc,h.le,h.lf⟩
theorem TwSt.turnC {c':List ByteArray} {s':Nms} (h:TwSt w W mt ma mc me mf s Lt La) (hmt:mt<w.heap.size) (hma:ma<w.heap.size) (k:Kept (λq=>q=mc) W W') (hm:zaN W' mc (setL c')) (hs:s'={s with ctors:=c'}):TwSt w W' mt ma mc me mf s' Lt La:=by
 subst hs;have h1:=h.lc;have h2:=h.le;have h3:=h.lf;exact⟨zll k h.kept (.inr (.inr zo)),zaD h.tm k.chg zo,zaD h.am k.chg zo,hm,zaq h.em k.chg zo,zaq h.fm k.chg zo,h.tn,h.an,k.cells h.res zo,h.lc,h.le,h.lf⟩
theorem TwSt.turnF {c':List ByteArray} {s':Nms} (h:TwSt w W mt ma mc me mf s Lt La) (hmt:mt<w.heap.size) (hma:ma<w.heap.size) (k:Kept (λq=>q=mf) W W') (hm:zaN W' mf (setL c')) (hs:s'={s with funs:=c'}):TwSt w W' mt ma mc me mf s' Lt La:=by
 subst hs;have h1:=h.lc;have h2:=h.le;have h3:=h.lf;exact⟨zll k h.kept (.inr (.inr zo)),zaD h.tm k.chg zo,zaD h.am k.chg zo,zaq h.cm k.chg zo,zaq h.em k.chg zo,hm,h.tn,h.an,k.cells h.res zo,h.lc,h.le,h.lf⟩
end
theorem zbM {w:World} {g:Nat} {e:TypeId} {a0 a1:Value} (u0 u1:Value) (h:zab w g #[a0,a1] e):zab ((w.setCell ⟨g,0,none⟩ u0).setCell ⟨g,1,none⟩ u1) g #[u0,u1] e:=by
 have:=(h.set 0 u0).set 1 u1
 simpa using this
theorem zbE (W:World) (X:Nat) (u0 u1:Value):Chg (λq=>q=X) W ((W.setCell ⟨X,0,none⟩ u0).setCell ⟨X,1,none⟩ u1):=
 (((Chg.refl (λq=>q=X) W).setCell (p:=⟨X,0,none⟩) (.inl rfl) u0).setCell (p:=⟨X,1,none⟩) (.inl rfl) u1)
theorem zbN:(Tryz.prog.info? 117).map (·.size)=some 2:=by kernel_rfl
def ztV (M:Nat->Prop) (w:World) (p:Option (Int × Int)) (Q:World->Prop) (e:Ending) (w':World):Prop:=(∃W,Kept M w W/\Chg (λq=>q=w.heap.size) W w'/\w.heap.size<W.heap.size)/\match p with
 |some a=>e=.returned (.tuple #[.agg #[.int .i64 a.1,.int .i64 a.2],.bool true])
 |none=>e=.returned (.tuple #[.agg #[.int .i64 0,.int .i64 0],.bool false])/\Q w'
theorem zrp (db:Nat) (l:List Nd) (hkn:∀n∈l,n.kind=3\/n.kind=5\/n.kind=6) (hz:∀n∈l,n.kind=6->n.kids=[]) (hok:zcL l .start=none) (hs:zaB l<=2097152) (A:Option Addr) (c mt ma:Nat) (w:World) (hd:DcAt w db A l.length c mt ma) (h:Rd (Lt w.heap.size) w (ns l) (.slice A l.length c)) (hmt:MapS w mt []) (hma:MapS w ma []) (hta:mt≠ma) :
 Calls Tryz.prog 74 #[.pointer (some ⟨db,0,none⟩)] w (ztV (λq=>q=mt\/q=ma) w ((zcL l .start).map (λa=>(4,a))) (λw'=>MapS w' mt (typM l 0)/\MapS w' ma (acM l 0))):=by
 have hmm:=@run_makeMap Tryz.prog;have hl:=zaS h;have hn:l.length<=2097152:=Nat.le_trans (zat l) hs;have ltt:=hmt.is.lt;have lta:=hma.is.lt;have ltd:=hd.lt;have hdt:=zct hd hmt.is;have hda:=zct hd hma.is;obtain⟨r,hr⟩:=zn (zcL l .start);obtain⟨LT,hLT⟩:=zn (typM l 0);obtain⟨LA,hLA⟩:=zn (acM l 0);rw[hr,hLT,hLA];have HRN:Hid (r=none):=zz (hr▸hok);have HZZ:=zz hz;clear hz hok;obtain⟨w1,h1,b1,c1⟩:=zaj w #[.int .i64 0,.int .i64 0] 117;have s1:w1.heap.size=w.heap.size+1:=by rw[<-h1];simp
 have b2:=zag w1 (.map #[] 0);have m2:=zaN.new w1;obtain⟨w2,h2⟩:=zn (w1.alloc (.map #[] 0));have s2:w2.heap.size=w1.heap.size+1:=by rw[<-h2];simp
 rw[h2] at b2 m2;have b3:=zag w2 (.map #[] 0);have m3:=zaN.new w2;obtain⟨w3,h3⟩:=zn (w2.alloc (.map #[] 0));have s3:w3.heap.size=w2.heap.size+1:=by rw[<-h3];simp
 rw[h3] at b3 m3;have b4:=zag w3 (.map #[] 0);have m4:=zaN.new w3;obtain⟨w4,h4⟩:=zn (w3.alloc (.map #[] 0));have s4:w4.heap.size=w3.heap.size+1:=by rw[<-h4];simp
 rw[h4] at b4 m4;have f0:zaN w4 w3.heap.size (setL []):=m4;obtain⟨v1,hup1,f1,k1,z1⟩:=zfb f0 (⟨#[108,101,110]⟩:ByteArray) zd;obtain⟨v2,hup2,f2,k2,z2⟩:=zfb f1 (⟨#[97,116]⟩:ByteArray) zd;obtain⟨v3,hup3,f3,k3,z3⟩:=zfb f2 (⟨#[112,117,116]⟩:ByteArray) zd;obtain⟨v4,hup4,f4,k4,z4⟩:=zfb f3 (⟨#[115,108,105,99,101]⟩:ByteArray) zd;obtain⟨v5,hup5,f5,k5,z5⟩:=zfb f4 (⟨#[115,105,122,101]⟩:ByteArray) zd;obtain⟨v6,hup6,f6,k6,z6⟩:=zfb f5 (⟨#[115,117,98]⟩:ByteArray) zd;obtain⟨v7,hup7,f7,k7,z7⟩:=zfb f6 (⟨#[115,104,111,119]⟩:ByteArray) zd;have kf:Kept (λq=>q=w3.heap.size) w4 v7:=((((((k1.next k2).next k3).next k4).next k5).next k6).next k7);have bl:Below w.heap.size w w4:=zac (zac (zac b1 b2 b1.size) b3 zo) b4 zo
 have Z0:Hid (TwSt w v7 mt ma w1.heap.size w2.heap.size w3.heap.size .start [] []):=zz ⟨(Kept.of_below bl).trans kf (λj hj=>by subst hj;exact .inr zo),zaD (zaD hmt (Chg.of_below (M:=λ_=>False) bl) (λh=>h)) kf.chg zo,zaD (zaD hma (Chg.of_below (M:=λ_=>False) bl) (λh=>h)) kf.chg zo,
  zaq (zaq m2 (Chg.of_below (M:=λ_=>False) (zac b3 b4 zo)) (λh=>h)) kf.chg zo,zaq (zaq m3 (Chg.of_below (M:=λ_=>False) b4) (λh=>h)) kf.chg zo,f7,rfl,rfl,kf.cells (zaa b4 (zaa b3 (zaa b2 c1))) zo,zo,zo,zo⟩
 obtain⟨mc,hmc⟩:=zn w1.heap.size;obtain⟨me,hme⟩:=zn w2.heap.size;obtain⟨mf,hmf⟩:=zn w3.heap.size;have x0:v7.cell? ⟨db,0,none⟩=some (.slice A l.length c):=(Z0.out.kept.cell db 0 ltd).trans (hd.cell 0);have HD:=zz hd;have HR:=zz h;have HKN:=zz hkn;have HS:=zz hs;have HA0:Hid (zcL (l.drop 0) .start=r):=zz hr;have HT0:Hid ([]++typM (l.drop 0) 0=LT):=zz hLT;have HC0:Hid ([]++acM (l.drop 0) 0=LA):=zz hLA;rw[hmc,hme,hmf] at Z0;have HMC:=zz hmc;have HME:=zz hme;have HMF:=zz hmf;clear hmc hme hmf;clear b1 b2 b3 b4 c1 m2 m3 m4 f0 f1 f2 f3 f4 f5 f6 f7 k1 k2 k3 k4 k5 k6 k7 kf bl hl hd h hkn hs hr hLT hLA s1 s2 s3 s4 z1 z2 z3 z4 z5 z6 z7 hmt hma;go_in;go_wp2;rw[HMC.out,HME.out,HMF.out];clear hup1 hup2 hup3 hup4 hup5 hup6 hup7 h1 h2 h3 h4 x0 HMC HME HMF
 go_loopw [25] (λs25 wr=>∃(i:Nat) (s:Nms) (Lt La:List (ByteArray × Value)),i<=l.length/\s25=.int .i64 i/\Hid (zcL (l.drop i) s=r)/\Hid (Lt++typM (l.drop i) i=LT)/\Hid (La++acM (l.drop i) i=LA)/\Hid (TwSt w wr mt ma mc me mf s Lt La)) (λs25 _=>l.length-(intOf s25).toNat)
 case atStart=>exact⟨0,.start,[],[],zo,rfl,HA0,HT0,HC0,Z0⟩
 case round=>
  clear HA0 HT0 HC0 Z0;obtain⟨i,s,Lt,La,hi,rfl,HA,HT,HC,HB⟩:=hrel
  by_cases hlt:i<l.length
  ·obtain⟨b,off,y,e,_,hget,A',c',p0,p1,p2,p3,p4,r5⟩:=zbC (HB.out.kept.rd HR.out) hlt;subst e;have hin:(i:Int)<l.length:=zo
   have q:=HA.out;rw[zal hget,zcL] at q;have qT:=HT.out;rw[zal hget,typM] at qT;have qA:=HC.out;rw[zal hget,acM] at qA;obtain⟨w3,hw3,hb3,hx3⟩:=zaj wr #[.int .i64 y.kind,.string y.text,.int .i64 y.n,.int .i64 y.at',.slice A' y.kids.length c'] 49;have q0:=hx3.a 0 rfl;have q1:=hx3.a 1 rfl;have Z3:=HB.out.below hb3;have D3:zab w3 db #[.slice (some ⟨b,off,none⟩) l.length c,.map (some mt),.map (some ma)] 113:=zaa hb3 (HB.out.kept.cells HD.out zo);have x1:=D3.a 1 rfl;have x2:=D3.a 2 rfl;have hlk1:∀q,_:=λq=>zff ((Z3.drewN q).tm.is) y.text;have hlk2:∀q,_:=λq=>zff ((Z3.drewN q).am.is) y.text;rw[<-Z3.tn] at hlk1;rw[<-Z3.an] at hlk2;obtain⟨g1,hg1⟩:=zn (mget (.int .i64 0) Lt y.text);obtain⟨g2,hg2⟩:=zn (mget (.int .i64 0) La y.text);rw[hg1] at hlk1;rw[hg2] at hlk2;have hyk:=HKN.out y (List.mem_of_getElem? hget);have R3:=zz (r5.belows hb3);have X3:=zz hx3;have HZ3:=zz Z3;have HD3:=zz D3;have HQ:=zz q;have HQT0:=zz qT;have HQA0:=zz qA;have HB7:=HB;have hsy:=zaK (List.mem_of_getElem? hget);have hsy2:=HS.out;have HSY:Hid (zaB y.kids<=2097152):=zz (by cases y;rw[zbT] at hsy;show zaB _<=_;simp only[Nd.kids];omega);clear hsy hsy2;have HYK:=zz hyk;have HYZ:=zz (HZZ.out y (List.mem_of_getElem? hget));obtain⟨bT,hbT⟩:=zn (memB y.text s.types);obtain⟨bA,hbA⟩:=zn (memB y.text s.actors);rw[hbT] at hlk1;rw[hbA] at hlk2;have HBT:=zz hbT;have HBA:=zz hbA;clear r5 hb3 hx3 HA HT HC HB Z3 D3 hget q qT qA hyk hbT hbA hg1 hg2;go_wp2
   go_quiet (fail)
   go_wp2
   go_quiet (fail)
   simp only[World.drewN_drewN];generalize hW:World.drewN w3 _=w4;have HZ4:Hid (TwSt w w4 mt ma mc me mf s Lt La):=zz (by rw[<-hW];exact HZ3.out.drewN _);have HX4:Hid (zab w4 wr.heap.size #[.int .i64 y.kind,.string y.text,.int .i64 y.n,.int .i64 y.at',.slice A' y.kids.length c'] 49):=zz (by rw[<-hW];exact zaa (zae (Below.refl _ _) _) X3.out);have HD4:Hid (zab w4 db #[.slice (some ⟨b,off,none⟩) l.length c,.map (some mt),.map (some ma)] 113):=zz (by rw[<-hW];exact zaa (zae (Below.refl _ _) _) HD3.out);have R4:Hid (Rd (LtB w4.heap.size) w4 (ns y.kids) (.slice A' y.kids.length c')):=zz (by rw[<-hW];exact R3.out.belows (zae (Below.refl _ _) _));clear hW q0 q1 x1 x2 hlk1 hlk2 hw3 HZ3 X3 HD3 R3;have q0:=HX4.out.a 0 rfl;have q1:=HX4.out.a 1 rfl;have x1:=HD4.out.a 1 rfl;have x2:=HD4.out.a 2 rfl;have lwt:=HB7.out.tm.is.lt;have lwa:=HB7.out.am.is.lt;have lwc:=HB7.out.cm.lt;have lwe:=HB7.out.em.lt;have lwf:=HB7.out.fm.lt;have lct:=HB7.out.lc;have lce:=HB7.out.le;have lcf:=HB7.out.lf;clear HB7;rcases HYK.out with hk|hk|hk
   ·have e2:(y.kind == 2)=false:=by rw[hk];rfl
    have e3:(y.kind == 3)=true:=by rw[hk];rfl
    have q:=HQ.out;rw[ztX hk] at q;rw[HBT.out,HBA.out] at q;have qT:=HQT0.out;rw[if_pos zo] at qT;have qA:=HQA0.out;rw[if_neg zo] at qA;cases bT with
    |true=>
     exact absurd (q.trans HRN.out) zs
    |false=>
     cases bA with
     |true=>
      exact absurd (q.trans HRN.out) zs
     |false=>
      obtain⟨w7,hU,hm7,hk7,_⟩:=zgB HZ4.out.drew.tm y.text (.int .i64 i);have Z7:=zz (HZ4.out.drew.turnT hta ltt hk7 hm7 rfl);have X7:=zz (hk7.cells (zaa (zae (Below.refl _ _) 1) HX4.out) zo);have R7:=zz (hk7.rd (R4.out.belows (zae (Below.refl _ _) 1)));have HK:=zz hk;have HK4:=zz (HX4.out);have hf1:mput Lt y.text (.int .i64 i)=Lt++[(y.text,.int .i64 i)]:=zgE _ (by rw[<-HZ4.out.tn];exact HBT.out);rw[hf1] at Z7;rw[show (Lt++[(y.text,Value.int .i64 i)]).map Prod.fst=s.types++[y.text] by rw[HZ4.out.tn];simp] at Z7;obtain⟨s7,hs7⟩:∃s7:Nms,addN y s=s7:=⟨_,rfl⟩;rw[hs7,if_neg zs] at q;have HQ7:=zz q;rw[<-zue hk,hs7] at Z7;obtain⟨Lt7,hLt7⟩:=zn (Lt++[(y.text,Value.int .i64 i)]);have HQT:Hid (Lt7++typM (l.drop (i+1)) (i+1)=LT):=zz (by rw[<-hLt7,<-qT];simp);have HQA:=zz qA;rw[hLt7] at Z7;clear hm7 hk7 q qT qA hk HQ HQT0 HQA0 HZ4 hf1 hs7 hLt7;go_wp2
      go_region
      have hs7:=Z7.out.kept.size;have X7n:=X7.out;obtain⟨q0,q1,q2,q3,q4⟩:=X7n.c5;have KW:=zz (zeY y HYZ.out HSY.out A' c' mc s7.ctors w7 R7.out Z7.out.cm);obtain⟨p,hp⟩:=zn (zdR y s7.ctors);have q:=HQ7.out;rw[hp] at q KW;clear hp X7n HQ7;go_wp2_with fail;refine zi KW ?_;obtain⟨o2,s2⟩:=p;cases o2 with
      |some a=>
       exact absurd ((show some a=r from q).trans HRN.out) zs
      |none=>
       have HR7:Hid (zcL (l.drop (i+1)) {s7 with ctors:=s2}=r):=zz q;rintro e w8 ⟨hk8,hm8,rfl⟩;have Z8:=zz (Z7.out.turnC ltt lta hk8 hm8 rfl);clear q hk8 hm8 q0 q1 q2 q3 q4 Z7 KW X7;go_wp2;exact⟨⟨i+1,{s7 with ctors:=s2},Lt7,La,zo,by go_num,HR7,HQT,HQA,Z8⟩,by simp[intOf];omega⟩
   ·have e2:(y.kind == 2)=false:=by rw[hk];rfl
    have e3:(y.kind == 3)=false:=by rw[hk];rfl
    have e6:(y.kind == 6)=false:=by rw[hk];rfl
    have e5:(y.kind == 5)=true:=by rw[hk];rfl
    obtain⟨bF,hbF⟩:=zn (memB y.text s.funs);have HBF:=zz hbF;have q:=HQ.out;rw[zun hk] at q;rw[hbF] at q;have qT:=HQT0.out;rw[if_neg zo] at qT;have qA:=HQA0.out;rw[if_neg zo] at qA;cases bF with
    |true=>
     exact absurd (q.trans HRN.out) zs
    |false=>
     have hlf:=zdn HZ4.out.fm y.text;rw[hbF] at hlf;obtain⟨w7,hU,hm7,hk7,_⟩:=zdQ HZ4.out.fm y.text;have Z7:=zz (HZ4.out.turnF ltt lta hk7 hm7 rfl);have X7:=zz (hk7.cells HX4.out zo);have R7:=zz (hk7.rd R4.out);have HK:=zz hk;have HK4:=zz (HX4.out);have hf1:addB y.text s.funs=s.funs++[y.text]:=by unfold addB;rw[hbF,if_neg zs]
     rw[hf1] at Z7;obtain⟨s7,hs7⟩:∃s7:Nms,addN y s=s7:=⟨_,rfl⟩;rw[hs7,if_neg zs] at q;have HQ7:=zz q;rw[<-zuv hk,hs7] at Z7;have HQT:=zz qT;have HQA:=zz qA;clear hm7 hk7 q qT qA hk HQ HQT0 HQA0 HZ4 hf1 hs7;have hs7:=Z7.out.kept.size;have X7n:=X7.out;obtain⟨q0,q1,q2,q3,q4⟩:=X7n.c5;have KW:=zz (zeY y HYZ.out HSY.out A' c' mc s7.ctors w7 R7.out Z7.out.cm);obtain⟨p,hp⟩:=zn (zdR y s7.ctors);have q:=HQ7.out;rw[hp] at q KW;clear hp X7n HQ7;go_wp2_with fail;refine zi KW ?_;obtain⟨o2,s2⟩:=p;cases o2 with
     |some a=>
      exact absurd ((show some a=r from q).trans HRN.out) zs
     |none=>
      have HR7:Hid (zcL (l.drop (i+1)) {s7 with ctors:=s2}=r):=zz q;rintro e w8 ⟨hk8,hm8,rfl⟩;have Z8:=zz (Z7.out.turnC ltt lta hk8 hm8 rfl);clear q hk8 hm8 q0 q1 q2 q3 q4 Z7 KW X7;go_wp2;exact⟨⟨i+1,{s7 with ctors:=s2},Lt,La,zo,by go_num,HR7,HQT,HQA,Z8⟩,by simp[intOf];omega⟩
   ·have e2:(y.kind == 2)=false:=by rw[hk];rfl
    have e3:(y.kind == 3)=false:=by rw[hk];rfl
    have e6:(y.kind == 6)=true:=by rw[hk];rfl
    have q:=HQ.out;rw[zuf hk] at q;rw[HBT.out,HBA.out] at q;have qT:=HQT0.out;rw[if_neg zo] at qT;have qA:=HQA0.out;rw[if_pos hk] at qA;cases bT with
    |true=>
     exact absurd (q.trans HRN.out) zs
    |false=>
     cases bA with
     |true=>
      exact absurd (q.trans HRN.out) zs
     |false=>
      obtain⟨w7,hU,hm7,hk7,_⟩:=zgB HZ4.out.drew.am y.text (.int .i64 i);have Z7:=zz (HZ4.out.drew.turnA hta lta hk7 hm7 rfl);have X7:=zz (hk7.cells (zaa (zae (Below.refl _ _) 1) HX4.out) zo);have R7:=zz (hk7.rd (R4.out.belows (zae (Below.refl _ _) 1)));have HK:=zz hk;have HK4:=zz (HX4.out);have hf1:mput La y.text (.int .i64 i)=La++[(y.text,.int .i64 i)]:=zgE _ (by rw[<-HZ4.out.an];exact HBA.out);rw[hf1] at Z7;rw[show (La++[(y.text,Value.int .i64 i)]).map Prod.fst=s.actors++[y.text] by rw[HZ4.out.an];simp] at Z7;obtain⟨s7,hs7⟩:∃s7:Nms,addN y s=s7:=⟨_,rfl⟩;rw[hs7,if_neg zs] at q;have HQ7:=zz q;rw[<-zug hk,hs7] at Z7;obtain⟨La7,hLa7⟩:=zn (La++[(y.text,Value.int .i64 i)]);have HQA:Hid (La7++acM (l.drop (i+1)) (i+1)=LA):=zz (by rw[<-hLa7,<-qA];simp);have HQT:=zz qT;rw[hLa7] at Z7;clear hm7 hk7 q qT qA hk HQ HQT0 HQA0 HZ4 hf1 hs7 hLa7;go_wp2
      go_region
      have hs7:=Z7.out.kept.size;have X7n:=X7.out;obtain⟨q0,q1,q2,q3,q4⟩:=X7n.c5;have KW:=zz (zeY y HYZ.out HSY.out A' c' mc s7.ctors w7 R7.out Z7.out.cm);obtain⟨p,hp⟩:=zn (zdR y s7.ctors);have q:=HQ7.out;rw[hp] at q KW;clear hp X7n HQ7;go_wp2_with fail;refine zi KW ?_;obtain⟨o2,s2⟩:=p;cases o2 with
      |some a=>
       exact absurd ((show some a=r from q).trans HRN.out) zs
      |none=>
       have HR7:Hid (zcL (l.drop (i+1)) {s7 with ctors:=s2}=r):=zz q;rintro e w8 ⟨hk8,hm8,rfl⟩;have Z8:=zz (Z7.out.turnC ltt lta hk8 hm8 rfl);clear q hk8 hm8 q0 q1 q2 q3 q4 Z7 KW X7;go_wp2;exact⟨⟨i+1,{s7 with ctors:=s2},Lt,La7,zo,by go_num,HR7,HQT,HQA,Z8⟩,by simp[intOf];omega⟩
  ·have HQ:Hid (none=r):=zz (by
    have q:=HA.out;rw[List.drop_eq_nil_of_le zo,zcL] at q;exact q)
   have HT1:Hid (Lt=LT):=zz (by
    have q:=HT.out;rw[List.drop_eq_nil_of_le zo,typM,List.append_nil] at q;exact q)
   have HC1:Hid (La=LA):=zz (by
    have q:=HC.out;rw[List.drop_eq_nil_of_le zo,acM,List.append_nil] at q;exact q)
   have y0:=HB.out.res.cell 0;have y1:=HB.out.res.cell 1;have yz:=HB.out.res.fz;clear HA HT HC;go_wp2_with fail;refine bodyPost_ret (zah (q:=3) zr _ _ w.heap.size _ _ (0,0) _ rfl (zbM _ _ HB.out.res) Tryz.underlying117 rfl zbN) rfl ⟨⟨wr,HB.out.kept,zbE _ _ _ _,HB.out.res.lt⟩,?_⟩;rw[<-HQ.out];have hc:=zbE wr w.heap.size (.int .i64 0) (.int .i64 0);refine⟨rfl,?_,?_⟩
   ·rw[<-HT1.out];exact zaD HB.out.tm hc zo
   ·rw[<-HC1.out];exact zaD HB.out.am hc zo
end Go.Proofs.YtcebmphappfjjaaGreatDoor
