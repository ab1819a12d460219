/- Conditions: those in each statement. -/
import Derived.Test.YtcebmphappfjjaaGreatDoorQ13
import Derived.BigQuiet
set_option maxHeartbeats 32000000
set_option maxRecDepth 100000
namespace Go.Proofs.YtcebmphappfjjaaGreatDoor
open Go.RowKit Go.MapKept
def typM:List Nd->Nat->List (ByteArray × Value)
 |[],_=>[]
 |n::r,i=>if n.kind=2\/n.kind=3 then (n.text,.int .i64 i)::typM r (i+1) else typM r (i+1)
def acM:List Nd->Nat->List (ByteArray × Value)
 |[],_=>[]
 |n::r,i=>if n.kind=6 then (n.text,.int .i64 i)::acM r (i+1) else acM r (i+1)
theorem zgu (k:ByteArray):∀(L:List (ByteArray × Value)) (i:Nat),(fnd k L i).isSome=memB k (L.map Prod.fst)
 |[],_=>rfl
 |p::r,i=>by
  rw[fnd,List.map_cons]
  by_cases h:k=p.1
  ·rw[if_pos h];unfold memB;rw[List.any_cons,decide_eq_true h.symm];rfl
  ·rw[if_neg h,zgu k r (i+1)];unfold memB;rw[List.any_cons,decide_eq_false (λe=>h e.symm)];rfl
theorem zgE {k:ByteArray} {L:List (ByteArray × Value)} (v:Value) (h:memB k (L.map Prod.fst)=false):mput L k v=L++[(k,v)]:=by
 have:=zgu k L 0;rw[h] at this;unfold mput;cases hf:fnd k L 0 with
 |none=>rfl
 |some p=>rw[hf] at this;cases this
theorem zct {w:World} {b m:Nat} {cs:Array Value} {e:TypeId} {L:List (ByteArray × Value)} (hc:zab w b cs e) (hm:zaN w m L):b≠m:=λh=>by
 subst h;obtain⟨es,cl,h1,_⟩:=hm;have h2:w.heap[b]?=some (.cells cs e (0,0)):=hc;rw[h1] at h2;cases h2
theorem zff {w:World} {m:Nat} {L:List (ByteArray × Value)} (h:zaN w m L) (k:ByteArray):(Instr.lookup 111 (.map (some m)) (.string k) true).run Tryz.prog w=.ok (.tuple #[mget (.int .i64 0) L k,.bool (memB k (L.map Prod.fst))]) w:=by
 have:=zfT (P:=Tryz.prog) (T:=111) Tryz.underlying111 Tryz.underlying9 h (z:=.int .i64 0) (by kernel_rfl) k
 rwa [zgu] at this
def addB (k:ByteArray) (l:List ByteArray):List ByteArray:=if memB k l=true then l else l++[k]
theorem znl {k:ByteArray}:∀{l:List ByteArray} {i:Nat} {p:Nat × Value},fnd k (setL l) i=some p->(setL l).set (p.1-i) (k,.bool true)=setL l/\i<=p.1
 |[],i,p,h=>by cases h
 |x::r,i,p,h=>by
  have h':(if k=x then some (i,Value.bool true) else fnd k (setL r) (i+1))=some p:=h
  by_cases hk:k=x
  ·rw[if_pos hk] at h';cases h';subst hk;simp[setL]
  ·rw[if_neg hk] at h';have h2:=znl h';refine⟨?_,by omega⟩
   show ((x,Value.bool true)::setL r).set (p.1-i) (k,.bool true)=(x,Value.bool true)::setL r
   rw[show p.1-i=(p.1-(i+1))+1 by omega,List.set_cons_succ,h2.1]
theorem zqi (k:ByteArray) (l:List ByteArray):mput (setL l) k (.bool true)=setL (addB k l):=by
 unfold addB;cases h:memB k l with
 |false=>rw[if_neg (by simp),zkX h]
 |true=>
  rw[if_pos rfl];unfold mput;obtain⟨j,hj⟩:=zes k l 0 h;rw[hj];exact(znl hj).1
theorem zdQ {w:World} {m:Nat} {l:List ByteArray} (h:zaN w m (setL l)) (k:ByteArray):∃w',(Instr.mapUpdate 156 (.map (some m)) (.string k) (.bool true)).run Tryz.prog w=.ok () w'/\zaN w' m (setL (addB k l))/\Kept (λq=>q=m) w w'/\w'.heap.size=w.heap.size:=by
 obtain⟨w',h1,h2,h3,h4⟩:=zap (P:=Tryz.prog) (T:=156) Tryz.underlying156 Tryz.underlying9 h k (.bool true);rw[zqi] at h2;exact⟨w',h1,h2,zfL h h2 h3,h4⟩
theorem zgB {w:World} {m:Nat} {L:List (ByteArray × Value)} (h:MapS w m L) (k:ByteArray) (v:Value):∃w',(Instr.mapUpdate 111 (.map (some m)) (.string k) v).run Tryz.prog w=.ok () w'/\MapS w' m (mput L k v)/\Kept (λq=>q=m) w w'/\w'.heap.size=w.heap.size:=by
 obtain⟨w',h1,h2,h3,h4⟩:=zap (P:=Tryz.prog) (T:=111) Tryz.underlying111 Tryz.underlying9 h.is k v;refine⟨w',h1,?_,zfL h.is h2 h3,h4⟩;obtain⟨es,clock,hb,hst,he⟩:=h
 have hks:∀x∈es.toList,IsKey .string x.key:=λx hx=>by
  obtain⟨j,hj⟩:=List.getElem?_of_mem hx;have h1:=congrArg (λl=>l[j]?) he;simp only[List.getElem?_map,hj,Option.map_some] at h1;cases hL:L[j]? with
  |none=>rw[hL] at h1;cases h1
  |some p=>
   rw[hL] at h1;simp only[Option.map_some,Option.some.injEq,Prod.mk.injEq] at h1;rw[h1.1];trivial
 obtain⟨es',cl',hb',hst',_,_⟩:=mapUpdate_keeps (P:=Tryz.prog) (d:=.string) Tryz.underlying111 Tryz.underlying9 hb hst hks (key:=.string k) trivial h1;obtain⟨es2,cl2,hb2,he2⟩:=h2;rw[hb'] at hb2;cases hb2;exact⟨es',cl',hb',hst',he2⟩
theorem zfH {w:World} {m:Nat} {L:List (ByteArray × Value)} (h:MapS w m L) (k:ByteArray) (v:Value):∃z' st w1 w2,(Instr.mapEntry 111 (.map (some m)) (.string k)).run Tryz.prog w=.ok (.tuple #[z',st]) w1/\(Instr.entryStore 111 (.map (some m)) st v).run Tryz.prog w1=.ok () w2/\MapS w2 m (mput L k v)/\Kept (λq=>q=m) w w2/\Kept (λq=>q=m) w w1:=by
 obtain⟨z',st,w1,w2,h1,h2,h3,h4,h5,h6,h7,L1,h8⟩:=zka (P:=Tryz.prog) (T:=111) Tryz.underlying111 Tryz.underlying9 h (z:=.int .i64 0) (by kernel_rfl) k v;exact⟨z',st,w1,w2,h1,h2,h3,zfL h.is h3.is h5,zfL h.is h8 h4⟩
theorem ztW {n:Nd} {s:Nms} (h:n.kind=2):badN n s=(memB n.text s.types || memB n.text s.actors || memB n.text s.ctors):=by unfold badN;rw[if_pos h]
theorem ztX {n:Nd} {s:Nms} (h:n.kind=3):badN n s=(memB n.text s.types || memB n.text s.actors):=by unfold badN;rw[if_neg (by omega),if_pos (.inl h)]
theorem zuf {n:Nd} {s:Nms} (h:n.kind=6):badN n s=(memB n.text s.types || memB n.text s.actors):=by unfold badN;rw[if_neg (by omega),if_pos (.inr h)]
theorem zun {n:Nd} {s:Nms} (h:n.kind=5):badN n s=memB n.text s.funs:=by unfold badN;rw[if_neg (by omega),if_neg (by omega),if_pos h]
theorem zuc {n:Nd} {s:Nms} (h:n.kind=4):badN n s=memB n.text s.effects:=by unfold badN;rw[if_neg (by omega),if_neg (by omega),if_neg (by omega),if_pos h]
theorem zur {n:Nd} {s:Nms} (h:n.kind=2):addN n s={s with types:=s.types++[n.text],ctors:=s.ctors++[n.text] }:=by unfold addN;rw[if_pos h]
theorem zue {n:Nd} {s:Nms} (h:n.kind=3):addN n s={s with types:=s.types++[n.text] }:=by unfold addN;rw[if_neg (by omega),if_pos h]
theorem zug {n:Nd} {s:Nms} (h:n.kind=6):addN n s={s with actors:=s.actors++[n.text] }:=by unfold addN;rw[if_neg (by omega),if_neg (by omega),if_pos h]
theorem zuv {n:Nd} {s:Nms} (h:n.kind=5):addN n s={s with funs:=s.funs++[n.text] }:=by unfold addN;rw[if_neg (by omega),if_neg (by omega),if_neg (by omega),if_pos h]
theorem zuz {n:Nd} {s:Nms} (h:n.kind=4):addN n s={s with effects:=s.effects++[n.text] }:=by unfold addN;rw[if_neg (by omega),if_neg (by omega),if_neg (by omega),if_neg (by omega),if_pos h]
theorem zeY (n:Nd) (hs:zaB n.kids<=2097152) (A:Option Addr) (c m:Nat) (ctors:List ByteArray) (w:World) (h:Rd (Lt w.heap.size) w (ns n.kids) (.slice A n.kids.length c)) (hm:zaN w m (setL ctors)) :
 Calls Tryz.prog 128 #[.agg #[.int .i64 n.kind,.string n.text,.int .i64 n.n,.int .i64 n.at',.slice A n.kids.length c],.map (some m)] w (zhD w m (zdR n ctors)):=by
 obtain⟨k,t,nn,a,l⟩:=n;exact znV k t nn a l hs A c m ctors w h hm
abbrev LtB:=Lt
def DcAt (w:World) (db:Nat) (A:Option Addr) (n c mt ma:Nat):Prop:=zab w db #[.slice A n c,.map (some mt),.map (some ma)] 113
structure TwSt (w W:World) (mt ma mc me mf:Nat) (s:Nms) (Lt La:List (ByteArray × Value)):Prop where
 kept:Kept (λq=>q=mt\/q=ma) w W
 tm:MapS W mt Lt
 am:MapS W ma La
 cm:zaN W mc (setL s.ctors)
 em:zaN W me (setL s.effects)
 fm:zaN W mf (setL s.funs)
 tn:s.types=Lt.map Prod.fst
 an:s.actors=La.map Prod.fst
 res:zab W w.heap.size #[.int .i64 0,.int .i64 0] 117
 lc:w.heap.size<mc
 le:mc<me
 lf:me<mf
section
variable {w W W':World} {mt ma mc me mf:Nat} {s:Nms} {Lt La:List (ByteArray × Value)}
theorem TwSt.below (h:TwSt w W mt ma mc me mf s Lt La) (k:Below W.heap.size W W'):TwSt w W' mt ma mc me mf s Lt La:=
 have hc:=Chg.of_below (M:=λ_=>False) k
 ⟨h.kept.below k,zaD h.tm hc (λh=>h),zaD h.am hc (λh=>h),zaq h.cm hc (λh=>h),zaq h.em hc (λh=>h),zaq h.fm hc (λh=>h),h.tn,h.an,zaa k h.res,h.lc,h.le,h.lf⟩
theorem TwSt.drewN (h:TwSt w W mt ma mc me mf s Lt La) (q:Nat):TwSt w (W.drewN q) mt ma mc me mf s Lt La:=h.below (zae (Below.refl _ _) q)
theorem TwSt.drew (h:TwSt w W mt ma mc me mf s Lt La):TwSt w W.drew mt ma mc me mf s Lt La:=h.drewN 1
theorem zll {x:Nat} (k:Kept (λq=>q=x) W W') (h:Kept (λq=>q=mt\/q=ma) w W) (hx:x=mt\/x=ma\/w.heap.size<=x):Kept (λq=>q=mt\/q=ma) w W':=
 h.trans k (λj hj=>by subst hj;omega)
theorem TwSt.turnT {Lt':List (ByteArray × Value)} {s':Nms} (h:TwSt w W mt ma mc me mf s Lt La) (hta:mt≠ma) (hmt:mt<w.heap.size) (k:Kept (λq=>q=mt) W W') (hm:MapS W' mt Lt') (hs:s'={s with types:=Lt'.map Prod.fst}):TwSt w W' mt ma mc me mf s' Lt' La:=by
 subst hs;have h1:=h.lc;have h2:=h.le;have h3:=h.lf;exact⟨zll k h.kept (.inl rfl),hm,zaD h.am k.chg (λe=>hta e.symm),zaq h.cm k.chg (by omega),zaq h.em k.chg (by omega),zaq h.fm k.chg (by omega),rfl,h.an,k.cells h.res (by omega),h.lc,h.le,h.lf⟩
theorem TwSt.turnA {La':List (ByteArray × Value)} {s':Nms} (h:TwSt w W mt ma mc me mf s Lt La) (hta:mt≠ma) (hma:ma<w.heap.size) (k:Kept (λq=>q=ma) W W') (hm:MapS W' ma La') (hs:s'={s with actors:=La'.map Prod.fst}):TwSt w W' mt ma mc me mf s' Lt La':=by
 subst hs;have h1:=h.lc;have h2:=h.le;have h3:=h.lf;exact⟨zll k h.kept (.inr (.inl rfl)),zaD h.tm k.chg hta,hm,zaq h.cm k.chg (by omega),zaq h.em k.chg (by omega),zaq h.fm k.chg (by omega),h.tn,rfl,k.cells h.res (by omega),h.lc,h.le,h.lf⟩
theorem TwSt.turnC {c':List ByteArray} {s':Nms} (h:TwSt w W mt ma mc me mf s Lt La) (hmt:mt<w.heap.size) (hma:ma<w.heap.size) (k:Kept (λq=>q=mc) W W') (hm:zaN W' mc (setL c')) (hs:s'={s with ctors:=c'}):TwSt w W' mt ma mc me mf s' Lt La:=by
 subst hs;have h1:=h.lc;have h2:=h.le;have h3:=h.lf;exact⟨zll k h.kept (.inr (.inr (by omega))),zaD h.tm k.chg (by omega),zaD h.am k.chg (by omega),hm,zaq h.em k.chg (by omega),zaq h.fm k.chg (by omega),h.tn,h.an,k.cells h.res (by omega),h.lc,h.le,h.lf⟩
theorem TwSt.turnE {c':List ByteArray} {s':Nms} (h:TwSt w W mt ma mc me mf s Lt La) (hmt:mt<w.heap.size) (hma:ma<w.heap.size) (k:Kept (λq=>q=me) W W') (hm:zaN W' me (setL c')) (hs:s'={s with effects:=c'}):TwSt w W' mt ma mc me mf s' Lt La:=by
 subst hs;have h1:=h.lc;have h2:=h.le;have h3:=h.lf;exact⟨zll k h.kept (.inr (.inr (by omega))),zaD h.tm k.chg (by omega),zaD h.am k.chg (by omega),zaq h.cm k.chg (by omega),hm,zaq h.fm k.chg (by omega),h.tn,h.an,k.cells h.res (by omega),h.lc,h.le,h.lf⟩
theorem TwSt.turnF {c':List ByteArray} {s':Nms} (h:TwSt w W mt ma mc me mf s Lt La) (hmt:mt<w.heap.size) (hma:ma<w.heap.size) (k:Kept (λq=>q=mf) W W') (hm:zaN W' mf (setL c')) (hs:s'={s with funs:=c'}):TwSt w W' mt ma mc me mf s' Lt La:=by
 subst hs;have h1:=h.lc;have h2:=h.le;have h3:=h.lf;exact⟨zll k h.kept (.inr (.inr (by omega))),zaD h.tm k.chg (by omega),zaD h.am k.chg (by omega),zaq h.cm k.chg (by omega),zaq h.em k.chg (by omega),hm,h.tn,h.an,k.cells h.res (by omega),h.lc,h.le,h.lf⟩
end
theorem zbM {w:World} {g:Nat} {e:TypeId} {a0 a1:Value} (u0 u1:Value) (h:zab w g #[a0,a1] e):zab ((w.setCell ⟨g,0,none⟩ u0).setCell ⟨g,1,none⟩ u1) g #[u0,u1] e:=by
 have:=(h.set 0 u0).set 1 u1
 simpa using this
theorem zbE (W:World) (X:Nat) (u0 u1:Value):Chg (λq=>q=X) W ((W.setCell ⟨X,0,none⟩ u0).setCell ⟨X,1,none⟩ u1):=
 (((Chg.refl (λq=>q=X) W).setCell (p:=⟨X,0,none⟩) (.inl rfl) u0).setCell (p:=⟨X,1,none⟩) (.inl rfl) u1)
theorem zbN:(Tryz.prog.info? 117).map (·.size)=some 2:=by kernel_rfl
def ztV (M:Nat->Prop) (w:World) (p:Option (Int × Int)) (Q:World->Prop) (e:Ending) (w':World):Prop:=(∃W,Kept M w W/\Chg (λq=>q=w.heap.size) W w'/\w.heap.size<W.heap.size)/\match p with
 |some a=>e=.returned (.tuple #[.agg #[.int .i64 a.1,.int .i64 a.2],.bool true])
 |none=>e=.returned (.tuple #[.agg #[.int .i64 0,.int .i64 0],.bool false])/\Q w'
theorem zrp (db:Nat) (l:List Nd) (hkn:∀n∈l,zaZ n=true) (hs:zaB l<=2097152) (A:Option Addr) (c mt ma:Nat) (w:World) (hd:DcAt w db A l.length c mt ma) (h:Rd (Lt w.heap.size) w (ns l) (.slice A l.length c)) (hmt:MapS w mt []) (hma:MapS w ma []) (hta:mt≠ma) :
 Calls Tryz.prog 74 #[.pointer (some ⟨db,0,none⟩)] w (ztV (λq=>q=mt\/q=ma) w ((zcL l .start).map (λa=>(4,a))) (λw'=>MapS w' mt (typM l 0)/\MapS w' ma (acM l 0))):=by
 have hmm:=@run_makeMap Tryz.prog;have hl:=zaS h;have hn:l.length<=2097152:=Nat.le_trans (zat l) hs;have ltt:=hmt.is.lt;have lta:=hma.is.lt;have ltd:=hd.lt;have hdt:=zct hd hmt.is;have hda:=zct hd hma.is;obtain⟨r,hr⟩:∃r,zcL l .start=r:=⟨_,rfl⟩;obtain⟨LT,hLT⟩:∃r,typM l 0=r:=⟨_,rfl⟩;obtain⟨LA,hLA⟩:∃r,acM l 0=r:=⟨_,rfl⟩;rw[hr,hLT,hLA];obtain⟨w1,h1,b1,c1⟩:=zaj w #[.int .i64 0,.int .i64 0] 117;have s1:w1.heap.size=w.heap.size+1:=by rw[<-h1];simp
 have b2:=zag w1 (.map #[] 0);have m2:=zaN.new w1;obtain⟨w2,h2⟩:∃W,w1.alloc (.map #[] 0)=W:=⟨_,rfl⟩;have s2:w2.heap.size=w1.heap.size+1:=by rw[<-h2];simp
 rw[h2] at b2 m2;have b3:=zag w2 (.map #[] 0);have m3:=zaN.new w2;obtain⟨w3,h3⟩:∃W,w2.alloc (.map #[] 0)=W:=⟨_,rfl⟩;have s3:w3.heap.size=w2.heap.size+1:=by rw[<-h3];simp
 rw[h3] at b3 m3;have b4:=zag w3 (.map #[] 0);have m4:=zaN.new w3;obtain⟨w4,h4⟩:∃W,w3.alloc (.map #[] 0)=W:=⟨_,rfl⟩;have s4:w4.heap.size=w3.heap.size+1:=by rw[<-h4];simp
 rw[h4] at b4 m4;have f0:zaN w4 w3.heap.size (setL []):=m4;obtain⟨v1,hup1,f1,k1,z1⟩:=zfb f0 (⟨#[108,101,110]⟩:ByteArray) (by decide);obtain⟨v2,hup2,f2,k2,z2⟩:=zfb f1 (⟨#[97,116]⟩:ByteArray) (by decide);obtain⟨v3,hup3,f3,k3,z3⟩:=zfb f2 (⟨#[112,117,116]⟩:ByteArray) (by decide);obtain⟨v4,hup4,f4,k4,z4⟩:=zfb f3 (⟨#[115,108,105,99,101]⟩:ByteArray) (by decide);obtain⟨v5,hup5,f5,k5,z5⟩:=zfb f4 (⟨#[115,105,122,101]⟩:ByteArray) (by decide);obtain⟨v6,hup6,f6,k6,z6⟩:=zfb f5 (⟨#[115,117,98]⟩:ByteArray) (by decide);obtain⟨v7,hup7,f7,k7,z7⟩:=zfb f6 (⟨#[115,104,111,119]⟩:ByteArray) (by decide);have kf:Kept (λq=>q=w3.heap.size) w4 v7:=((((((k1.next k2).next k3).next k4).next k5).next k6).next k7);have bl:Below w.heap.size w w4:=zac (zac (zac b1 b2 b1.size) b3 (by omega)) b4 (by omega)
 have Z0:Hid (TwSt w v7 mt ma w1.heap.size w2.heap.size w3.heap.size .start [] []):=zz ⟨(Kept.of_below bl).trans kf (λj hj=>by subst hj;exact .inr (by omega)),zaD (zaD hmt (Chg.of_below (M:=λ_=>False) bl) (λh=>h)) kf.chg (by omega),zaD (zaD hma (Chg.of_below (M:=λ_=>False) bl) (λh=>h)) kf.chg (by omega),
  zaq (zaq m2 (Chg.of_below (M:=λ_=>False) (zac b3 b4 (by omega))) (λh=>h)) kf.chg (by omega),zaq (zaq m3 (Chg.of_below (M:=λ_=>False) b4) (λh=>h)) kf.chg (by omega),f7,rfl,rfl,kf.cells (zaa b4 (zaa b3 (zaa b2 c1))) (by omega),by omega,by omega,by omega⟩
 obtain⟨mc,hmc⟩:∃k,w1.heap.size=k:=⟨_,rfl⟩;obtain⟨me,hme⟩:∃k,w2.heap.size=k:=⟨_,rfl⟩;obtain⟨mf,hmf⟩:∃k,w3.heap.size=k:=⟨_,rfl⟩;have x0:v7.cell? ⟨db,0,none⟩=some (.slice A l.length c):=(Z0.out.kept.cell db 0 ltd).trans (hd.cell 0);have HD:=zz hd;have HR:=zz h;have HKN:=zz hkn;have HS:=zz hs;have HA0:Hid (zcL (l.drop 0) .start=r):=zz hr;have HT0:Hid ([]++typM (l.drop 0) 0=LT):=zz hLT;have HC0:Hid ([]++acM (l.drop 0) 0=LA):=zz hLA;rw[hmc,hme,hmf] at Z0;have HMC:=zz hmc;have HME:=zz hme;have HMF:=zz hmf;clear hmc hme hmf;clear b1 b2 b3 b4 c1 m2 m3 m4 f0 f1 f2 f3 f4 f5 f6 f7 k1 k2 k3 k4 k5 k6 k7 kf bl hl hd h hkn hs hr hLT hLA s1 s2 s3 s4 z1 z2 z3 z4 z5 z6 z7 hmt hma;go_enter Tryz.func74,Tryz.ntmps74;go_wp2_with fail;rw[HMC.out,HME.out,HMF.out];clear hup1 hup2 hup3 hup4 hup5 hup6 hup7 h1 h2 h3 h4 x0 HMC HME HMF
 go_loopw [25] (λs25 wr=>∃(i:Nat) (s:Nms) (Lt La:List (ByteArray × Value)),i<=l.length/\s25=.int .i64 i/\Hid (zcL (l.drop i) s=r)/\Hid (Lt++typM (l.drop i) i=LT)/\Hid (La++acM (l.drop i) i=LA)/\Hid (TwSt w wr mt ma mc me mf s Lt La)) (λs25 _=>l.length-(intOf s25).toNat)
 case atStart=>exact⟨0,.start,[],[],by omega,rfl,HA0,HT0,HC0,Z0⟩
 case round=>
  clear HA0 HT0 HC0 Z0;obtain⟨i,s,Lt,La,hi,rfl,HA,HT,HC,HB⟩:=hrel
  by_cases hlt:i<l.length
  ·obtain⟨b,off,y,e,_,hget,A',c',p0,p1,p2,p3,p4,r5⟩:=zbC (HB.out.kept.rd HR.out) hlt;subst e;have hin:(i:Int)<l.length:=by omega
   have q:=HA.out;rw[zal hget,zcL] at q;have qT:=HT.out;rw[zal hget,typM] at qT;have qA:=HC.out;rw[zal hget,acM] at qA;obtain⟨w3,hw3,hb3,hx3⟩:=zaj wr #[.int .i64 y.kind,.string y.text,.int .i64 y.n,.int .i64 y.at',.slice A' y.kids.length c'] 49;have q0:w3.cell? ⟨wr.heap.size,0,none⟩=some (.int .i64 y.kind):=hx3.cell 0;have q1:w3.cell? ⟨wr.heap.size,1,none⟩=some (.string y.text):=hx3.cell 1;have Z3:=HB.out.below hb3;have D3:zab w3 db #[.slice (some ⟨b,off,none⟩) l.length c,.map (some mt),.map (some ma)] 113:=zaa hb3 (HB.out.kept.cells HD.out (by omega));have x1:w3.cell? ⟨db,1,none⟩=some (.map (some mt)):=D3.cell 1;have x2:w3.cell? ⟨db,2,none⟩=some (.map (some ma)):=D3.cell 2;have hlk1:∀q,_:=λq=>zff ((Z3.drewN q).tm.is) y.text;have hlk2:∀q,_:=λq=>zff ((Z3.drewN q).am.is) y.text;rw[<-Z3.tn] at hlk1;rw[<-Z3.an] at hlk2;obtain⟨g1,hg1⟩:∃g,mget (.int .i64 0) Lt y.text=g:=⟨_,rfl⟩;obtain⟨g2,hg2⟩:∃g,mget (.int .i64 0) La y.text=g:=⟨_,rfl⟩;rw[hg1] at hlk1;rw[hg2] at hlk2;have hyk:=HKN.out y (List.mem_of_getElem? hget);have R3:=zz (r5.belows hb3);have X3:=zz hx3;have HZ3:=zz Z3;have HD3:=zz D3;have HQ:=zz q;have HQT0:=zz qT;have HQA0:=zz qA;have HB7:=HB;have hsy:=zaK (List.mem_of_getElem? hget);have hsy2:=HS.out;have HSY:Hid (zaB y.kids<=2097152):=zz (by cases y;rw[zbT] at hsy;show zaB _<=_;simp only[Nd.kids];omega);clear hsy hsy2;have HYK:=zz hyk;obtain⟨bT,hbT⟩:∃g,memB y.text s.types=g:=⟨_,rfl⟩;obtain⟨bA,hbA⟩:∃g,memB y.text s.actors=g:=⟨_,rfl⟩;rw[hbT] at hlk1;rw[hbA] at hlk2;have HBT:=zz hbT;have HBA:=zz hbA;clear r5 hb3 hx3 HA HT HC HB Z3 D3 hget q qT qA hyk hbT hbA hg1 hg2;go_wp2_with fail
   go_quiet (fail)
   go_wp2_with fail
   go_quiet (fail)
   simp only[World.drewN_drewN];generalize hW:World.drewN w3 _=w4;have HZ4:Hid (TwSt w w4 mt ma mc me mf s Lt La):=zz (by rw[<-hW];exact HZ3.out.drewN _);have HX4:Hid (zab w4 wr.heap.size #[.int .i64 y.kind,.string y.text,.int .i64 y.n,.int .i64 y.at',.slice A' y.kids.length c'] 49):=zz (by rw[<-hW];exact zaa (zae (Below.refl _ _) _) X3.out);have HD4:Hid (zab w4 db #[.slice (some ⟨b,off,none⟩) l.length c,.map (some mt),.map (some ma)] 113):=zz (by rw[<-hW];exact zaa (zae (Below.refl _ _) _) HD3.out);have R4:Hid (Rd (LtB w4.heap.size) w4 (ns y.kids) (.slice A' y.kids.length c')):=zz (by rw[<-hW];exact R3.out.belows (zae (Below.refl _ _) _));clear hW q0 q1 x1 x2 hlk1 hlk2 hw3 HZ3 X3 HD3 R3;have q0:w4.cell? ⟨wr.heap.size,0,none⟩=some (.int .i64 y.kind):=HX4.out.cell 0;have q1:w4.cell? ⟨wr.heap.size,1,none⟩=some (.string y.text):=HX4.out.cell 1;have x1:w4.cell? ⟨db,1,none⟩=some (.map (some mt)):=HD4.out.cell 1;have x2:w4.cell? ⟨db,2,none⟩=some (.map (some ma)):=HD4.out.cell 2;have lwt:=HB7.out.tm.is.lt;have lwa:=HB7.out.am.is.lt;have lwc:=HB7.out.cm.lt;have lwe:=HB7.out.em.lt;have lwf:=HB7.out.fm.lt;have lct:=HB7.out.lc;have lce:=HB7.out.le;have lcf:=HB7.out.lf;clear HB7;have hkk:=HYK.out;unfold zaZ at hkk;have hkk2:=of_decide_eq_true hkk;clear hkk HYK;rcases hkk2 with hk|hk|hk|hk|hk
   ·have e2:(y.kind == 2)=true:=by rw[hk];rfl
    have hlc:=zdn HZ4.out.cm y.text;obtain⟨bC,hbC⟩:∃g,memB y.text s.ctors=g:=⟨_,rfl⟩;rw[hbC] at hlc;have HBC:=zz hbC;clear hbC;have q:=HQ.out;rw[ztW hk] at q;rw[HBT.out,HBA.out,HBC.out] at q;have qT:=HQT0.out;rw[if_pos (by omega)] at qT;have qA:=HQA0.out;rw[if_neg (by omega)] at qA;cases bT with
    |true=>
     obtain⟨z5,st5,w5,w6,hE,hS,hm6,hk6,hk5⟩:=zfH HZ4.out.drew.tm y.text (.int .i64 i);have Z6:=HZ4.out.drew.turnT hta ltt hk6 hm6 rfl;have qa1:w5.cell? ⟨wr.heap.size,1,none⟩=some (.string y.text):=(hk5.cells (zaa (zae (Below.refl _ _) 1) HX4.out) (by omega)).cell 1;have qb1:w6.cell? ⟨wr.heap.size,1,none⟩=some (.string y.text):=(hk6.cells (zaa (zae (Below.refl _ _) 1) HX4.out) (by omega)).cell 1;obtain⟨w7,hU,hm7,hk7,_⟩:=zdQ Z6.cm y.text;have Z7:=zz (Z6.turnC ltt lta hk7 hm7 rfl);have X7:=zz (hk7.cells (hk6.cells (zaa (zae (Below.refl _ _) 1) HX4.out) (by omega)) (by omega));have R7:=zz (hk7.rd (hk6.rd (R4.out.belows (zae (Below.refl _ _) 1))));have HK:=zz hk;have HK4:=zz (HX4.out);have HR7:Hid (some y.at'=r):=zz (by rw[<-q];rfl);have q3:w7.cell? ⟨wr.heap.size,3,none⟩=some (.int .i64 y.at'):=X7.out.cell 3;have y0:=Z7.out.res.cell 0;have y1:=Z7.out.res.cell 1;have yz:=Z7.out.res.fz;clear hm7 hk7 q qT qA hk HQ HQT0 HQA0 HZ4 hm6 hk6 hk5 Z6;go_wp2
     go_region
     go_wp2_with fail;refine bodyPost_ret (zah (q:=3) (by rfl) _ _ w.heap.size _ _ (0,0) _ rfl (zbM _ _ Z7.out.res) Tryz.underlying117 rfl zbN) rfl ⟨⟨w7,Z7.out.kept,zbE _ _ _ _,Z7.out.res.lt⟩,?_⟩;rw[<-HR7.out]
     rfl
    |false=>
     cases bA with
     |true=>
      obtain⟨z5,st5,w5,w6,hE,hS,hm6,hk6,hk5⟩:=zfH HZ4.out.drew.tm y.text (.int .i64 i);have Z6:=HZ4.out.drew.turnT hta ltt hk6 hm6 rfl;have qa1:w5.cell? ⟨wr.heap.size,1,none⟩=some (.string y.text):=(hk5.cells (zaa (zae (Below.refl _ _) 1) HX4.out) (by omega)).cell 1;have qb1:w6.cell? ⟨wr.heap.size,1,none⟩=some (.string y.text):=(hk6.cells (zaa (zae (Below.refl _ _) 1) HX4.out) (by omega)).cell 1;obtain⟨w7,hU,hm7,hk7,_⟩:=zdQ Z6.cm y.text;have Z7:=zz (Z6.turnC ltt lta hk7 hm7 rfl);have X7:=zz (hk7.cells (hk6.cells (zaa (zae (Below.refl _ _) 1) HX4.out) (by omega)) (by omega));have R7:=zz (hk7.rd (hk6.rd (R4.out.belows (zae (Below.refl _ _) 1))));have HK:=zz hk;have HK4:=zz (HX4.out);have HR7:Hid (some y.at'=r):=zz (by rw[<-q];rfl);have q3:w7.cell? ⟨wr.heap.size,3,none⟩=some (.int .i64 y.at'):=X7.out.cell 3;have y0:=Z7.out.res.cell 0;have y1:=Z7.out.res.cell 1;have yz:=Z7.out.res.fz;clear hm7 hk7 q qT qA hk HQ HQT0 HQA0 HZ4 hm6 hk6 hk5 Z6;go_wp2
      go_region
      go_wp2_with fail;refine bodyPost_ret (zah (q:=3) (by rfl) _ _ w.heap.size _ _ (0,0) _ rfl (zbM _ _ Z7.out.res) Tryz.underlying117 rfl zbN) rfl ⟨⟨w7,Z7.out.kept,zbE _ _ _ _,Z7.out.res.lt⟩,?_⟩;rw[<-HR7.out]
      rfl
     |false=>
      cases bC with
      |true=>
       obtain⟨z5,st5,w5,w6,hE,hS,hm6,hk6,hk5⟩:=zfH HZ4.out.drew.tm y.text (.int .i64 i);have Z6:=HZ4.out.drew.turnT hta ltt hk6 hm6 rfl;have qa1:w5.cell? ⟨wr.heap.size,1,none⟩=some (.string y.text):=(hk5.cells (zaa (zae (Below.refl _ _) 1) HX4.out) (by omega)).cell 1;have qb1:w6.cell? ⟨wr.heap.size,1,none⟩=some (.string y.text):=(hk6.cells (zaa (zae (Below.refl _ _) 1) HX4.out) (by omega)).cell 1;obtain⟨w7,hU,hm7,hk7,_⟩:=zdQ Z6.cm y.text;have Z7:=zz (Z6.turnC ltt lta hk7 hm7 rfl);have X7:=zz (hk7.cells (hk6.cells (zaa (zae (Below.refl _ _) 1) HX4.out) (by omega)) (by omega));have R7:=zz (hk7.rd (hk6.rd (R4.out.belows (zae (Below.refl _ _) 1))));have HK:=zz hk;have HK4:=zz (HX4.out);have HR7:Hid (some y.at'=r):=zz (by rw[<-q];rfl);have q3:w7.cell? ⟨wr.heap.size,3,none⟩=some (.int .i64 y.at'):=X7.out.cell 3;have y0:=Z7.out.res.cell 0;have y1:=Z7.out.res.cell 1;have yz:=Z7.out.res.fz;clear hm7 hk7 q qT qA hk HQ HQT0 HQA0 HZ4 hm6 hk6 hk5 Z6;go_wp2
       go_region
       go_wp2_with fail;refine bodyPost_ret (zah (q:=3) (by rfl) _ _ w.heap.size _ _ (0,0) _ rfl (zbM _ _ Z7.out.res) Tryz.underlying117 rfl zbN) rfl ⟨⟨w7,Z7.out.kept,zbE _ _ _ _,Z7.out.res.lt⟩,?_⟩;rw[<-HR7.out]
       rfl
      |false=>
       obtain⟨z5,st5,w5,w6,hE,hS,hm6,hk6,hk5⟩:=zfH HZ4.out.drew.tm y.text (.int .i64 i);have Z6:=HZ4.out.drew.turnT hta ltt hk6 hm6 rfl;have qa1:w5.cell? ⟨wr.heap.size,1,none⟩=some (.string y.text):=(hk5.cells (zaa (zae (Below.refl _ _) 1) HX4.out) (by omega)).cell 1;have qb1:w6.cell? ⟨wr.heap.size,1,none⟩=some (.string y.text):=(hk6.cells (zaa (zae (Below.refl _ _) 1) HX4.out) (by omega)).cell 1;obtain⟨w7,hU,hm7,hk7,_⟩:=zdQ Z6.cm y.text;have Z7:=zz (Z6.turnC ltt lta hk7 hm7 rfl);have X7:=zz (hk7.cells (hk6.cells (zaa (zae (Below.refl _ _) 1) HX4.out) (by omega)) (by omega));have R7:=zz (hk7.rd (hk6.rd (R4.out.belows (zae (Below.refl _ _) 1))));have HK:=zz hk;have HK4:=zz (HX4.out);have hf1:mput Lt y.text (.int .i64 i)=Lt++[(y.text,.int .i64 i)]:=zgE _ (by rw[<-HZ4.out.tn];exact HBT.out);have hf2:addB y.text s.ctors=s.ctors++[y.text]:=by unfold addB;rw[HBC.out,if_neg (by simp)]
       rw[hf1,hf2] at Z7;rw[show (Lt++[(y.text,Value.int .i64 i)]).map Prod.fst=s.types++[y.text] by rw[HZ4.out.tn];simp] at Z7;obtain⟨s7,hs7⟩:∃s7:Nms,addN y s=s7:=⟨_,rfl⟩;rw[hs7,if_neg (by simp)] at q;have HQ7:=zz q;rw[<-zur hk,hs7] at Z7;obtain⟨Lt7,hLt7⟩:∃L,Lt++[(y.text,Value.int .i64 i)]=L:=⟨_,rfl⟩;have HQT:Hid (Lt7++typM (l.drop (i+1)) (i+1)=LT):=zz (by rw[<-hLt7,<-qT];simp);have HQA:=zz qA;rw[hLt7] at Z7;clear hm7 hk7 q qT qA hk HQ HQT0 HQA0 HZ4 hm6 hk6 hk5 Z6 hf1 hf2 hs7 hLt7;go_wp2
       go_region
       have hs7:=Z7.out.kept.size;have X7n:=X7.out;obtain⟨q0,q1,q2,q3,q4⟩:=X7n.c5;have KW:=zz (zeY y HSY.out A' c' mc s7.ctors w7 R7.out Z7.out.cm);obtain⟨p,hp⟩:∃p,zdR y s7.ctors=p:=⟨_,rfl⟩;have q:=HQ7.out;rw[hp] at q KW;clear hp X7n HQ7;go_wp2_with fail;(with_reducible refine KW.out.mono ?_);obtain⟨o2,s2⟩:=p;cases o2 with
       |some a=>
        have HR7:Hid (some a=r):=zz q;rintro e w8 ⟨hk8,hm8,rfl⟩;have Z8:=zz (Z7.out.turnC ltt lta hk8 hm8 rfl);have y0:=Z8.out.res.cell 0;have y1:=Z8.out.res.cell 1;have yz:=Z8.out.res.fz;clear q hk8 hm8 q0 q1 q2 q3 q4;go_wp2_with fail;refine bodyPost_ret (zah (q:=3) (by rfl) _ _ w.heap.size _ _ (0,0) _ rfl (zbM _ _ Z8.out.res) Tryz.underlying117 rfl zbN) rfl ⟨⟨w8,Z8.out.kept,zbE _ _ _ _,Z8.out.res.lt⟩,?_⟩;rw[<-HR7.out]
        rfl
       |none=>
        have HR7:Hid (zcL (l.drop (i+1)) {s7 with ctors:=s2}=r):=zz q;rintro e w8 ⟨hk8,hm8,rfl⟩;have Z8:=zz (Z7.out.turnC ltt lta hk8 hm8 rfl);clear q hk8 hm8 q0 q1 q2 q3 q4 Z7 KW X7;go_wp2_with fail;exact⟨⟨i+1,{s7 with ctors:=s2},Lt7,La,by omega,by go_num,HR7,HQT,HQA,Z8⟩,by simp[intOf];omega⟩
   ·have e2:(y.kind == 2)=false:=by rw[hk];rfl
    have e3:(y.kind == 3)=true:=by rw[hk];rfl
    have q:=HQ.out;rw[ztX hk] at q;rw[HBT.out,HBA.out] at q;have qT:=HQT0.out;rw[if_pos (by omega)] at qT;have qA:=HQA0.out;rw[if_neg (by omega)] at qA;cases bT with
    |true=>
     obtain⟨w7,hU,hm7,hk7,_⟩:=zgB HZ4.out.drew.tm y.text (.int .i64 i);have Z7:=zz (HZ4.out.drew.turnT hta ltt hk7 hm7 rfl);have X7:=zz (hk7.cells (zaa (zae (Below.refl _ _) 1) HX4.out) (by omega));have R7:=zz (hk7.rd (R4.out.belows (zae (Below.refl _ _) 1)));have HK:=zz hk;have HK4:=zz (HX4.out);have HR7:Hid (some y.at'=r):=zz (by rw[<-q];rfl);have q3:w7.cell? ⟨wr.heap.size,3,none⟩=some (.int .i64 y.at'):=X7.out.cell 3;have y0:=Z7.out.res.cell 0;have y1:=Z7.out.res.cell 1;have yz:=Z7.out.res.fz;clear hm7 hk7 q qT qA hk HQ HQT0 HQA0 HZ4;go_wp2
     go_region
     go_wp2_with fail;refine bodyPost_ret (zah (q:=3) (by rfl) _ _ w.heap.size _ _ (0,0) _ rfl (zbM _ _ Z7.out.res) Tryz.underlying117 rfl zbN) rfl ⟨⟨w7,Z7.out.kept,zbE _ _ _ _,Z7.out.res.lt⟩,?_⟩;rw[<-HR7.out]
     rfl
    |false=>
     cases bA with
     |true=>
      obtain⟨w7,hU,hm7,hk7,_⟩:=zgB HZ4.out.drew.tm y.text (.int .i64 i);have Z7:=zz (HZ4.out.drew.turnT hta ltt hk7 hm7 rfl);have X7:=zz (hk7.cells (zaa (zae (Below.refl _ _) 1) HX4.out) (by omega));have R7:=zz (hk7.rd (R4.out.belows (zae (Below.refl _ _) 1)));have HK:=zz hk;have HK4:=zz (HX4.out);have HR7:Hid (some y.at'=r):=zz (by rw[<-q];rfl);have q3:w7.cell? ⟨wr.heap.size,3,none⟩=some (.int .i64 y.at'):=X7.out.cell 3;have y0:=Z7.out.res.cell 0;have y1:=Z7.out.res.cell 1;have yz:=Z7.out.res.fz;clear hm7 hk7 q qT qA hk HQ HQT0 HQA0 HZ4;go_wp2
      go_region
      go_wp2_with fail;refine bodyPost_ret (zah (q:=3) (by rfl) _ _ w.heap.size _ _ (0,0) _ rfl (zbM _ _ Z7.out.res) Tryz.underlying117 rfl zbN) rfl ⟨⟨w7,Z7.out.kept,zbE _ _ _ _,Z7.out.res.lt⟩,?_⟩;rw[<-HR7.out]
      rfl
     |false=>
      obtain⟨w7,hU,hm7,hk7,_⟩:=zgB HZ4.out.drew.tm y.text (.int .i64 i);have Z7:=zz (HZ4.out.drew.turnT hta ltt hk7 hm7 rfl);have X7:=zz (hk7.cells (zaa (zae (Below.refl _ _) 1) HX4.out) (by omega));have R7:=zz (hk7.rd (R4.out.belows (zae (Below.refl _ _) 1)));have HK:=zz hk;have HK4:=zz (HX4.out);have hf1:mput Lt y.text (.int .i64 i)=Lt++[(y.text,.int .i64 i)]:=zgE _ (by rw[<-HZ4.out.tn];exact HBT.out);rw[hf1] at Z7;rw[show (Lt++[(y.text,Value.int .i64 i)]).map Prod.fst=s.types++[y.text] by rw[HZ4.out.tn];simp] at Z7;obtain⟨s7,hs7⟩:∃s7:Nms,addN y s=s7:=⟨_,rfl⟩;rw[hs7,if_neg (by simp)] at q;have HQ7:=zz q;rw[<-zue hk,hs7] at Z7;obtain⟨Lt7,hLt7⟩:∃L,Lt++[(y.text,Value.int .i64 i)]=L:=⟨_,rfl⟩;have HQT:Hid (Lt7++typM (l.drop (i+1)) (i+1)=LT):=zz (by rw[<-hLt7,<-qT];simp);have HQA:=zz qA;rw[hLt7] at Z7;clear hm7 hk7 q qT qA hk HQ HQT0 HQA0 HZ4 hf1 hs7 hLt7;go_wp2
      go_region
      have hs7:=Z7.out.kept.size;have X7n:=X7.out;obtain⟨q0,q1,q2,q3,q4⟩:=X7n.c5;have KW:=zz (zeY y HSY.out A' c' mc s7.ctors w7 R7.out Z7.out.cm);obtain⟨p,hp⟩:∃p,zdR y s7.ctors=p:=⟨_,rfl⟩;have q:=HQ7.out;rw[hp] at q KW;clear hp X7n HQ7;go_wp2_with fail;(with_reducible refine KW.out.mono ?_);obtain⟨o2,s2⟩:=p;cases o2 with
      |some a=>
       have HR7:Hid (some a=r):=zz q;rintro e w8 ⟨hk8,hm8,rfl⟩;have Z8:=zz (Z7.out.turnC ltt lta hk8 hm8 rfl);have y0:=Z8.out.res.cell 0;have y1:=Z8.out.res.cell 1;have yz:=Z8.out.res.fz;clear q hk8 hm8 q0 q1 q2 q3 q4;go_wp2_with fail;refine bodyPost_ret (zah (q:=3) (by rfl) _ _ w.heap.size _ _ (0,0) _ rfl (zbM _ _ Z8.out.res) Tryz.underlying117 rfl zbN) rfl ⟨⟨w8,Z8.out.kept,zbE _ _ _ _,Z8.out.res.lt⟩,?_⟩;rw[<-HR7.out]
       rfl
      |none=>
       have HR7:Hid (zcL (l.drop (i+1)) {s7 with ctors:=s2}=r):=zz q;rintro e w8 ⟨hk8,hm8,rfl⟩;have Z8:=zz (Z7.out.turnC ltt lta hk8 hm8 rfl);clear q hk8 hm8 q0 q1 q2 q3 q4 Z7 KW X7;go_wp2_with fail;exact⟨⟨i+1,{s7 with ctors:=s2},Lt7,La,by omega,by go_num,HR7,HQT,HQA,Z8⟩,by simp[intOf];omega⟩
   ·have e2:(y.kind == 2)=false:=by rw[hk];rfl
    have e3:(y.kind == 3)=false:=by rw[hk];rfl
    have e6:(y.kind == 6)=false:=by rw[hk];rfl
    have e5:(y.kind == 5)=false:=by rw[hk];rfl
    have e4:(y.kind == 4)=true:=by rw[hk];rfl
    obtain⟨bF,hbF⟩:∃g,memB y.text s.effects=g:=⟨_,rfl⟩;have HBF:=zz hbF;have q:=HQ.out;rw[zuc hk] at q;rw[hbF] at q;have qT:=HQT0.out;rw[if_neg (by omega)] at qT;have qA:=HQA0.out;rw[if_neg (by omega)] at qA;cases bF with
    |true=>
     have hlf:=zdn HZ4.out.em y.text;rw[hbF] at hlf;obtain⟨w7,hU,hm7,hk7,_⟩:=zdQ HZ4.out.em y.text;have Z7:=zz (HZ4.out.turnE ltt lta hk7 hm7 rfl);have X7:=zz (hk7.cells HX4.out (by omega));have R7:=zz (hk7.rd R4.out);have HK:=zz hk;have HK4:=zz (HX4.out);have HR7:Hid (some y.at'=r):=zz (by rw[<-q];rfl);have q3:w7.cell? ⟨wr.heap.size,3,none⟩=some (.int .i64 y.at'):=X7.out.cell 3;have y0:=Z7.out.res.cell 0;have y1:=Z7.out.res.cell 1;have yz:=Z7.out.res.fz;clear hm7 hk7 q qT qA hk HQ HQT0 HQA0 HZ4;go_wp2_with fail;refine bodyPost_ret (zah (q:=3) (by rfl) _ _ w.heap.size _ _ (0,0) _ rfl (zbM _ _ Z7.out.res) Tryz.underlying117 rfl zbN) rfl ⟨⟨w7,Z7.out.kept,zbE _ _ _ _,Z7.out.res.lt⟩,?_⟩;rw[<-HR7.out]
     rfl
    |false=>
     have hlf:=zdn HZ4.out.em y.text;rw[hbF] at hlf;obtain⟨w7,hU,hm7,hk7,_⟩:=zdQ HZ4.out.em y.text;have Z7:=zz (HZ4.out.turnE ltt lta hk7 hm7 rfl);have X7:=zz (hk7.cells HX4.out (by omega));have R7:=zz (hk7.rd R4.out);have HK:=zz hk;have HK4:=zz (HX4.out);have hf1:addB y.text s.effects=s.effects++[y.text]:=by unfold addB;rw[hbF,if_neg (by simp)]
     rw[hf1] at Z7;obtain⟨s7,hs7⟩:∃s7:Nms,addN y s=s7:=⟨_,rfl⟩;rw[hs7,if_neg (by simp)] at q;have HQ7:=zz q;rw[<-zuz hk,hs7] at Z7;have HQT:=zz qT;have HQA:=zz qA;clear hm7 hk7 q qT qA hk HQ HQT0 HQA0 HZ4 hf1 hs7;have hs7:=Z7.out.kept.size;have X7n:=X7.out;obtain⟨q0,q1,q2,q3,q4⟩:=X7n.c5;have KW:=zz (zeY y HSY.out A' c' mc s7.ctors w7 R7.out Z7.out.cm);obtain⟨p,hp⟩:∃p,zdR y s7.ctors=p:=⟨_,rfl⟩;have q:=HQ7.out;rw[hp] at q KW;clear hp X7n HQ7;go_wp2_with fail;(with_reducible refine KW.out.mono ?_);obtain⟨o2,s2⟩:=p;cases o2 with
     |some a=>
      have HR7:Hid (some a=r):=zz q;rintro e w8 ⟨hk8,hm8,rfl⟩;have Z8:=zz (Z7.out.turnC ltt lta hk8 hm8 rfl);have y0:=Z8.out.res.cell 0;have y1:=Z8.out.res.cell 1;have yz:=Z8.out.res.fz;clear q hk8 hm8 q0 q1 q2 q3 q4;go_wp2_with fail;refine bodyPost_ret (zah (q:=3) (by rfl) _ _ w.heap.size _ _ (0,0) _ rfl (zbM _ _ Z8.out.res) Tryz.underlying117 rfl zbN) rfl ⟨⟨w8,Z8.out.kept,zbE _ _ _ _,Z8.out.res.lt⟩,?_⟩;rw[<-HR7.out]
      rfl
     |none=>
      have HR7:Hid (zcL (l.drop (i+1)) {s7 with ctors:=s2}=r):=zz q;rintro e w8 ⟨hk8,hm8,rfl⟩;have Z8:=zz (Z7.out.turnC ltt lta hk8 hm8 rfl);clear q hk8 hm8 q0 q1 q2 q3 q4 Z7 KW X7;go_wp2_with fail;exact⟨⟨i+1,{s7 with ctors:=s2},Lt,La,by omega,by go_num,HR7,HQT,HQA,Z8⟩,by simp[intOf];omega⟩
   ·have e2:(y.kind == 2)=false:=by rw[hk];rfl
    have e3:(y.kind == 3)=false:=by rw[hk];rfl
    have e6:(y.kind == 6)=false:=by rw[hk];rfl
    have e5:(y.kind == 5)=true:=by rw[hk];rfl
    obtain⟨bF,hbF⟩:∃g,memB y.text s.funs=g:=⟨_,rfl⟩;have HBF:=zz hbF;have q:=HQ.out;rw[zun hk] at q;rw[hbF] at q;have qT:=HQT0.out;rw[if_neg (by omega)] at qT;have qA:=HQA0.out;rw[if_neg (by omega)] at qA;cases bF with
    |true=>
     have hlf:=zdn HZ4.out.fm y.text;rw[hbF] at hlf;obtain⟨w7,hU,hm7,hk7,_⟩:=zdQ HZ4.out.fm y.text;have Z7:=zz (HZ4.out.turnF ltt lta hk7 hm7 rfl);have X7:=zz (hk7.cells HX4.out (by omega));have R7:=zz (hk7.rd R4.out);have HK:=zz hk;have HK4:=zz (HX4.out);have HR7:Hid (some y.at'=r):=zz (by rw[<-q];rfl);have q3:w7.cell? ⟨wr.heap.size,3,none⟩=some (.int .i64 y.at'):=X7.out.cell 3;have y0:=Z7.out.res.cell 0;have y1:=Z7.out.res.cell 1;have yz:=Z7.out.res.fz;clear hm7 hk7 q qT qA hk HQ HQT0 HQA0 HZ4;go_wp2_with fail;refine bodyPost_ret (zah (q:=3) (by rfl) _ _ w.heap.size _ _ (0,0) _ rfl (zbM _ _ Z7.out.res) Tryz.underlying117 rfl zbN) rfl ⟨⟨w7,Z7.out.kept,zbE _ _ _ _,Z7.out.res.lt⟩,?_⟩;rw[<-HR7.out]
     rfl
    |false=>
     have hlf:=zdn HZ4.out.fm y.text;rw[hbF] at hlf;obtain⟨w7,hU,hm7,hk7,_⟩:=zdQ HZ4.out.fm y.text;have Z7:=zz (HZ4.out.turnF ltt lta hk7 hm7 rfl);have X7:=zz (hk7.cells HX4.out (by omega));have R7:=zz (hk7.rd R4.out);have HK:=zz hk;have HK4:=zz (HX4.out);have hf1:addB y.text s.funs=s.funs++[y.text]:=by unfold addB;rw[hbF,if_neg (by simp)]
     rw[hf1] at Z7;obtain⟨s7,hs7⟩:∃s7:Nms,addN y s=s7:=⟨_,rfl⟩;rw[hs7,if_neg (by simp)] at q;have HQ7:=zz q;rw[<-zuv hk,hs7] at Z7;have HQT:=zz qT;have HQA:=zz qA;clear hm7 hk7 q qT qA hk HQ HQT0 HQA0 HZ4 hf1 hs7;have hs7:=Z7.out.kept.size;have X7n:=X7.out;obtain⟨q0,q1,q2,q3,q4⟩:=X7n.c5;have KW:=zz (zeY y HSY.out A' c' mc s7.ctors w7 R7.out Z7.out.cm);obtain⟨p,hp⟩:∃p,zdR y s7.ctors=p:=⟨_,rfl⟩;have q:=HQ7.out;rw[hp] at q KW;clear hp X7n HQ7;go_wp2_with fail;(with_reducible refine KW.out.mono ?_);obtain⟨o2,s2⟩:=p;cases o2 with
     |some a=>
      have HR7:Hid (some a=r):=zz q;rintro e w8 ⟨hk8,hm8,rfl⟩;have Z8:=zz (Z7.out.turnC ltt lta hk8 hm8 rfl);have y0:=Z8.out.res.cell 0;have y1:=Z8.out.res.cell 1;have yz:=Z8.out.res.fz;clear q hk8 hm8 q0 q1 q2 q3 q4;go_wp2_with fail;refine bodyPost_ret (zah (q:=3) (by rfl) _ _ w.heap.size _ _ (0,0) _ rfl (zbM _ _ Z8.out.res) Tryz.underlying117 rfl zbN) rfl ⟨⟨w8,Z8.out.kept,zbE _ _ _ _,Z8.out.res.lt⟩,?_⟩;rw[<-HR7.out]
      rfl
     |none=>
      have HR7:Hid (zcL (l.drop (i+1)) {s7 with ctors:=s2}=r):=zz q;rintro e w8 ⟨hk8,hm8,rfl⟩;have Z8:=zz (Z7.out.turnC ltt lta hk8 hm8 rfl);clear q hk8 hm8 q0 q1 q2 q3 q4 Z7 KW X7;go_wp2_with fail;exact⟨⟨i+1,{s7 with ctors:=s2},Lt,La,by omega,by go_num,HR7,HQT,HQA,Z8⟩,by simp[intOf];omega⟩
   ·have e2:(y.kind == 2)=false:=by rw[hk];rfl
    have e3:(y.kind == 3)=false:=by rw[hk];rfl
    have e6:(y.kind == 6)=true:=by rw[hk];rfl
    have q:=HQ.out;rw[zuf hk] at q;rw[HBT.out,HBA.out] at q;have qT:=HQT0.out;rw[if_neg (by omega)] at qT;have qA:=HQA0.out;rw[if_pos hk] at qA;cases bT with
    |true=>
     obtain⟨w7,hU,hm7,hk7,_⟩:=zgB HZ4.out.drew.am y.text (.int .i64 i);have Z7:=zz (HZ4.out.drew.turnA hta lta hk7 hm7 rfl);have X7:=zz (hk7.cells (zaa (zae (Below.refl _ _) 1) HX4.out) (by omega));have R7:=zz (hk7.rd (R4.out.belows (zae (Below.refl _ _) 1)));have HK:=zz hk;have HK4:=zz (HX4.out);have HR7:Hid (some y.at'=r):=zz (by rw[<-q];rfl);have q3:w7.cell? ⟨wr.heap.size,3,none⟩=some (.int .i64 y.at'):=X7.out.cell 3;have y0:=Z7.out.res.cell 0;have y1:=Z7.out.res.cell 1;have yz:=Z7.out.res.fz;clear hm7 hk7 q qT qA hk HQ HQT0 HQA0 HZ4;go_wp2
     go_region
     go_wp2_with fail;refine bodyPost_ret (zah (q:=3) (by rfl) _ _ w.heap.size _ _ (0,0) _ rfl (zbM _ _ Z7.out.res) Tryz.underlying117 rfl zbN) rfl ⟨⟨w7,Z7.out.kept,zbE _ _ _ _,Z7.out.res.lt⟩,?_⟩;rw[<-HR7.out]
     rfl
    |false=>
     cases bA with
     |true=>
      obtain⟨w7,hU,hm7,hk7,_⟩:=zgB HZ4.out.drew.am y.text (.int .i64 i);have Z7:=zz (HZ4.out.drew.turnA hta lta hk7 hm7 rfl);have X7:=zz (hk7.cells (zaa (zae (Below.refl _ _) 1) HX4.out) (by omega));have R7:=zz (hk7.rd (R4.out.belows (zae (Below.refl _ _) 1)));have HK:=zz hk;have HK4:=zz (HX4.out);have HR7:Hid (some y.at'=r):=zz (by rw[<-q];rfl);have q3:w7.cell? ⟨wr.heap.size,3,none⟩=some (.int .i64 y.at'):=X7.out.cell 3;have y0:=Z7.out.res.cell 0;have y1:=Z7.out.res.cell 1;have yz:=Z7.out.res.fz;clear hm7 hk7 q qT qA hk HQ HQT0 HQA0 HZ4;go_wp2
      go_region
      go_wp2_with fail;refine bodyPost_ret (zah (q:=3) (by rfl) _ _ w.heap.size _ _ (0,0) _ rfl (zbM _ _ Z7.out.res) Tryz.underlying117 rfl zbN) rfl ⟨⟨w7,Z7.out.kept,zbE _ _ _ _,Z7.out.res.lt⟩,?_⟩;rw[<-HR7.out]
      rfl
     |false=>
      obtain⟨w7,hU,hm7,hk7,_⟩:=zgB HZ4.out.drew.am y.text (.int .i64 i);have Z7:=zz (HZ4.out.drew.turnA hta lta hk7 hm7 rfl);have X7:=zz (hk7.cells (zaa (zae (Below.refl _ _) 1) HX4.out) (by omega));have R7:=zz (hk7.rd (R4.out.belows (zae (Below.refl _ _) 1)));have HK:=zz hk;have HK4:=zz (HX4.out);have hf1:mput La y.text (.int .i64 i)=La++[(y.text,.int .i64 i)]:=zgE _ (by rw[<-HZ4.out.an];exact HBA.out);rw[hf1] at Z7;rw[show (La++[(y.text,Value.int .i64 i)]).map Prod.fst=s.actors++[y.text] by rw[HZ4.out.an];simp] at Z7;obtain⟨s7,hs7⟩:∃s7:Nms,addN y s=s7:=⟨_,rfl⟩;rw[hs7,if_neg (by simp)] at q;have HQ7:=zz q;rw[<-zug hk,hs7] at Z7;obtain⟨La7,hLa7⟩:∃L,La++[(y.text,Value.int .i64 i)]=L:=⟨_,rfl⟩;have HQA:Hid (La7++acM (l.drop (i+1)) (i+1)=LA):=zz (by rw[<-hLa7,<-qA];simp);have HQT:=zz qT;rw[hLa7] at Z7;clear hm7 hk7 q qT qA hk HQ HQT0 HQA0 HZ4 hf1 hs7 hLa7;go_wp2
      go_region
      have hs7:=Z7.out.kept.size;have X7n:=X7.out;obtain⟨q0,q1,q2,q3,q4⟩:=X7n.c5;have KW:=zz (zeY y HSY.out A' c' mc s7.ctors w7 R7.out Z7.out.cm);obtain⟨p,hp⟩:∃p,zdR y s7.ctors=p:=⟨_,rfl⟩;have q:=HQ7.out;rw[hp] at q KW;clear hp X7n HQ7;go_wp2_with fail;(with_reducible refine KW.out.mono ?_);obtain⟨o2,s2⟩:=p;cases o2 with
      |some a=>
       have HR7:Hid (some a=r):=zz q;rintro e w8 ⟨hk8,hm8,rfl⟩;have Z8:=zz (Z7.out.turnC ltt lta hk8 hm8 rfl);have y0:=Z8.out.res.cell 0;have y1:=Z8.out.res.cell 1;have yz:=Z8.out.res.fz;clear q hk8 hm8 q0 q1 q2 q3 q4;go_wp2_with fail;refine bodyPost_ret (zah (q:=3) (by rfl) _ _ w.heap.size _ _ (0,0) _ rfl (zbM _ _ Z8.out.res) Tryz.underlying117 rfl zbN) rfl ⟨⟨w8,Z8.out.kept,zbE _ _ _ _,Z8.out.res.lt⟩,?_⟩;rw[<-HR7.out]
       rfl
      |none=>
       have HR7:Hid (zcL (l.drop (i+1)) {s7 with ctors:=s2}=r):=zz q;rintro e w8 ⟨hk8,hm8,rfl⟩;have Z8:=zz (Z7.out.turnC ltt lta hk8 hm8 rfl);clear q hk8 hm8 q0 q1 q2 q3 q4 Z7 KW X7;go_wp2_with fail;exact⟨⟨i+1,{s7 with ctors:=s2},Lt,La7,by omega,by go_num,HR7,HQT,HQA,Z8⟩,by simp[intOf];omega⟩
  ·have HQ:Hid (none=r):=zz (by
    have q:=HA.out;rw[List.drop_eq_nil_of_le (by omega),zcL] at q;exact q)
   have HT1:Hid (Lt=LT):=zz (by
    have q:=HT.out;rw[List.drop_eq_nil_of_le (by omega),typM,List.append_nil] at q;exact q)
   have HC1:Hid (La=LA):=zz (by
    have q:=HC.out;rw[List.drop_eq_nil_of_le (by omega),acM,List.append_nil] at q;exact q)
   have y0:=HB.out.res.cell 0;have y1:=HB.out.res.cell 1;have yz:=HB.out.res.fz;clear HA HT HC;go_wp2_with fail;refine bodyPost_ret (zah (q:=3) (by rfl) _ _ w.heap.size _ _ (0,0) _ rfl (zbM _ _ HB.out.res) Tryz.underlying117 rfl zbN) rfl ⟨⟨wr,HB.out.kept,zbE _ _ _ _,HB.out.res.lt⟩,?_⟩;rw[<-HQ.out];have hc:=zbE wr w.heap.size (.int .i64 0) (.int .i64 0);refine⟨rfl,?_,?_⟩
   ·rw[<-HT1.out];exact zaD HB.out.tm hc (by omega)
   ·rw[<-HC1.out];exact zaD HB.out.am hc (by omega)
end Go.Proofs.YtcebmphappfjjaaGreatDoor
