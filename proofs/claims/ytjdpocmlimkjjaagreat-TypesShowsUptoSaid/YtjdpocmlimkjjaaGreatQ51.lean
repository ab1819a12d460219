/- Conditions: those in each statement. -/
import Derived.Test.YtjdpocmlimkjjaaGreatQ43
import Derived.Test.YtjdpocmlimkjjaaGreatQ50
import Derived.Test.YtjdpocmlimkjjaaGreatQ08
import Derived.Test.YtjdpocmlimkjjaaGreatQ34
import Derived.Deep.RegionHeld3
import Derived.RegionTactic
set_option maxHeartbeats 32000000
set_option maxRecDepth 100000
namespace Go.Proofs.YtjdpocmlimkjjaaGreat
open Go.RowKit
theorem zlf {s:ByteArray}:∀{f i:Nat} {acc:List Tok} {c a:Int},zfS s f i acc=.error (c,a)→c≠0
 |0,i,acc,c,a,h=>by rw[zfS] at h;injection h with h;injection h with h _;omega
 |f+1,i,acc,c,a,h=>by
  rw[zfS] at h
  split at h
  ·cases h
  ·split at h
   ·rename_i e ht;injection h with h;injection h with h _;have:=zfK ht;omega
   ·exact zlf h
theorem zkK {s:ByteArray} {c a:Int} (h:zgo s=.error (c,a)):c≠0:=by
 unfold zgo at h
 split at h
 ·injection h with h;injection h with h _;omega
 ·exact zlf h
theorem zfU {P:Program} {fn:Func} {p q r:Tmp} {t1 t2 t3:TypeId} (h:fn.results=#[.cell p t1,.cell q t2,.cell r t3]) (tmps:Array Value) (w:World) (g0 g1 g2:Nat) (cs:Array Value) (v1 v2:Value) (d:TypeDesc)
 (hp:tmps.getD p undef=.pointer (some ⟨g0,0,none⟩)) (hq:tmps.getD q undef=.pointer (some ⟨g1,0,none⟩)) (hr:tmps.getD r undef=.pointer (some ⟨g2,0,none⟩))
 (H0:zac w g0 cs t1) (H1:∀W:World,W=w→(loadVar t2 ⟨g1,0,none⟩).run P W=.ok v1 W) (H2:∀W:World,W=w→(loadVar t3 ⟨g2,0,none⟩).run P W=.ok v2 W)
 (hu:P.underlying t1=some d) (hd:(match d with|.struct _|.array _ _=>true|_=>false)=true) (hi:(P.info? t1).map (·.size)=some cs.size) :
 (results fn tmps).run P w=.ok (.tuple #[.agg cs,v1,v2]) w:=by
 have hp':tmps[p]?.getD undef=.pointer (some ⟨g0,0,none⟩):=by simpa using hp
 have hq':tmps[q]?.getD undef=.pointer (some ⟨g1,0,none⟩):=by simpa using hq
 have hr':tmps[r]?.getD undef=.pointer (some ⟨g2,0,none⟩):=by simpa using hr
 simp[results,h,hp',hq',hr',asAddr,run_loadVar_row w g0 t1 t1 cs (0,0) d H0 hu hd hi,H1 w rfl,H2 w rfl]
def zhi (s:ByteArray) (w:World) (e:Ending) (w':World):Prop:=Below w.heap.size w w'∧match zdC s with
 |.error (c,a)=>e=.returned (.tuple #[.agg #[.int .i64 0,.string ⟨#[]⟩,.int .i64 0,.int .i64 0,.slice none 0 0],.int .i64 c,.int .i64 a])
 |.ok n=>∃A c,e=.returned (.tuple #[ndV n A c,.int .i64 0,.int .i64 0])∧Rd (Bt w.heap.size w'.heap.size) w' (ns n.kids) (.slice A n.kids.length c)
structure RB (w W:World) (cn:Array Value) (ev av:Value):Prop where
 low:Below w.heap.size w W
 n:zac W w.heap.size cn 25
 e:zac W (w.heap.size+1) #[ev] 26
 a:zac W (w.heap.size+1+1) #[av] 3
section
variable {w W W':World} {cn:Array Value} {ev av:Value}
theorem RB.below (h:RB w W cn ev av) (k:Below W.heap.size W W'):RB w W' cn ev av:=⟨zab h.low k h.low.size,zaa k h.n,zaa k h.e,zaa k h.a⟩
theorem RB.set1 (h:RB w W cn ev av) (u:Value):RB w (W.setCell ⟨w.heap.size+1,0,none⟩ u) cn u av:=by
 have hc:Chg (λk=>k=w.heap.size+1) W (W.setCell ⟨w.heap.size+1,0,none⟩ u):=(Chg.refl (λk=>k=w.heap.size+1) W).setCell (p:=⟨w.heap.size+1,0,none⟩) (.inl rfl) u;exact⟨h.low.setCell (p:=⟨w.heap.size+1,0,none⟩) (by show w.heap.size≤w.heap.size+1;omega) u,h.n.keep hc (by omega),by have:=h.e.set 0 u;simpa using this,h.a.keep hc (by omega)⟩
theorem RB.set2 (h:RB w W cn ev av) (u:Value):RB w (W.setCell ⟨w.heap.size+1+1,0,none⟩ u) cn ev u:=by
 have hc:Chg (λk=>k=w.heap.size+1+1) W (W.setCell ⟨w.heap.size+1+1,0,none⟩ u):=(Chg.refl (λk=>k=w.heap.size+1+1) W).setCell (p:=⟨w.heap.size+1+1,0,none⟩) (.inl rfl) u;exact⟨h.low.setCell (p:=⟨w.heap.size+1+1,0,none⟩) (by show w.heap.size≤w.heap.size+1+1;omega) u,h.n.keep hc (by omega),h.e.keep hc (by omega),by have:=h.a.set 0 u;simpa using this⟩
theorem RB.set0 {a0 a1 a2 a3 a4:Value} (h:RB w W #[a0,a1,a2,a3,a4] ev av) (u0 u1 u2 u3 u4:Value) :
 RB w (((((W.setCell ⟨w.heap.size,0,none⟩ u0).setCell ⟨w.heap.size,1,none⟩ u1).setCell ⟨w.heap.size,2,none⟩ u2).setCell ⟨w.heap.size,3,none⟩ u3).setCell ⟨w.heap.size,4,none⟩ u4) #[u0,u1,u2,u3,u4] ev av:=by
 have hc:=zdF W w.heap.size u0 u1 u2 u3 u4;exact⟨h.low.trans (hc.below h.low.size (λq hq=>by omega)),zeP u0 u1 u2 u3 u4 h.n,h.e.keep hc (by omega),h.a.keep hc (by omega)⟩
theorem RB.lt (h:RB w W cn ev av):w.heap.size+1+1<W.heap.size:=h.a.lt
end
theorem RB.own {w W W':World} {cn:Array Value} {ev av:Value} {b:Nat} (h:RB w W cn ev av) (k:Own1 b W W') (hb:w.heap.size+1+1<b):RB w W' cn ev av:=
 ⟨h.low.trans (Chg.below k h.low.size (λq hq=>by omega)),h.n.keep k (by omega),h.e.keep k (by omega),h.a.keep k (by omega)⟩
theorem zfj {P:Program} {fn:Func} {p q s:Tmp} {ty:TypeId} (h:fn.results=#[.cell p ty,.tmp q,.tmp s]) (tmps:Array Value) (w:World) (g:Nat) (t:TypeId) (cs:Array Value) (fr:Nat × Nat) (d:TypeDesc)
 (hp:tmps.getD p undef=.pointer (some ⟨g,0,none⟩)) (hg:w.heap[g]?=some (.cells cs t fr))
 (hu:P.underlying ty=some d) (hd:(match d with|.struct _|.array _ _=>true|_=>false)=true) (hi:(P.info? ty).map (·.size)=some cs.size) :
 (results fn tmps).run P w=.ok (.tuple #[.agg cs,tmps.getD q undef,tmps.getD s undef]) w:=by
 have hp':tmps[p]?.getD undef=.pointer (some ⟨g,0,none⟩):=by simpa using hp
 simp[results,h,hp',asAddr,run_loadVar_row w g t ty cs fr d hg hu hd hi]
theorem zjO {s:ByteArray} {w W:World} {cs:Array Value} {ev av:Int} {tmps:Array Value} (hcs:cs.size=5) (hp:tmps.getD 4 undef=.pointer (some ⟨w.heap.size,0,none⟩)) (hq:tmps.getD 5 undef=.pointer (some ⟨w.heap.size+1,0,none⟩)) (hr:tmps.getD 6 undef=.pointer (some ⟨w.heap.size+1+1,0,none⟩))
 (Z:RB w W cs (.int .i64 ev) (.int .i64 av)) (h:zhi s w (.returned (.tuple #[.agg cs,.int .i64 ev,.int .i64 av])) W) :
 bodyPostD Tryz.prog Tryz.f30 (zhi s w) Exit.ret {tmps:=tmps,defers:=[{target:=Target.fn (Fn.func 51) #[.pointer (some ⟨w.heap.size,0,none⟩),.pointer (some ⟨w.heap.size+1,0,none⟩),.pointer (some ⟨w.heap.size+1+1,0,none⟩)],args:=#[] }] } W:=by
 refine leaves_cons (f:=51) (args:=#[.pointer (some ⟨w.heap.size,0,none⟩),.pointer (some ⟨w.heap.size+1,0,none⟩),.pointer (some ⟨w.heap.size+1+1,0,none⟩)]) (by simp) (by simp[go_sem]) ?_;refine(zpS _ _ _ _).mono ?_;rintro e u' w'' ⟨rfl,rfl,rfl⟩;have c1:w''.cell? ⟨w.heap.size+1,0,none⟩=some (.int .i64 ev):=Z.e.cell 0;have c2:w''.cell? ⟨w.heap.size+1+1,0,none⟩=some (.int .i64 av):=Z.a.cell 0;exact⟨_,zfU (by rfl) _ _ w.heap.size (w.heap.size+1) (w.heap.size+1+1) cs _ _ _ hp hq hr Z.n (λW e=>by subst e;go_simp) (λW e=>by subst e;go_simp) Tryz.underlying25 rfl (by rw[hcs];kernel_rfl),h⟩
theorem zro (s:ByteArray) (w:World):Calls Tryz.prog 30 #[.string s,.bool false] w (zhi s w):=by
 have hmf:∀(fn:Fn) (first cap:Array Value) (w:World),(Instr.makeFunc fn first cap).run Tryz.prog w=.ok (.func fn first cap) w:=λ_ _ _ _=>rfl;obtain⟨W0,hW⟩:∃W,((w.alloc (.cells #[.int .i64 0,.string ⟨#[]⟩,.int .i64 0,.int .i64 0,.slice none 0 0] 25)).alloc (.cells #[.int .i64 0] 26)).alloc (.cells #[.int .i64 0] 3)=W:=⟨_,rfl⟩;have HW:=zz hW
 have Z0:Hid (RB w W0 #[.int .i64 0,.string ⟨#[]⟩,.int .i64 0,.int .i64 0,.slice none 0 0] (.int .i64 0) (.int .i64 0)):=zz (by
  rw[←hW];have b1:=(Below.refl w.heap.size w).alloc (Nat.le_refl _) (.cells #[.int .i64 0,.string ⟨#[]⟩,.int .i64 0,.int .i64 0,.slice none 0 0] 25);have c1:=zac.new w #[.int .i64 0,.string ⟨#[]⟩,.int .i64 0,.int .i64 0,.slice none 0 0] 25;obtain⟨w1,h1⟩:∃W,w.alloc (.cells #[.int .i64 0,.string ⟨#[]⟩,.int .i64 0,.int .i64 0,.slice none 0 0] 25)=W:=⟨_,rfl⟩;have s1:w1.heap.size=w.heap.size+1:=by rw[←h1];simp
  rw[h1] at b1 c1 ⊢;have b2:=(Below.refl w1.heap.size w1).alloc (Nat.le_refl _) (.cells #[.int .i64 0] 26);have c2:=zac.new w1 #[.int .i64 0] 26;obtain⟨w2,h2⟩:∃W,w1.alloc (.cells #[.int .i64 0] 26)=W:=⟨_,rfl⟩;have s2:w2.heap.size=w1.heap.size+1:=by rw[←h2];simp
  rw[h2] at b2 c2 ⊢;have b3:=(Below.refl w2.heap.size w2).alloc (Nat.le_refl _) (.cells #[.int .i64 0] 3);have c3:=zac.new w2 #[.int .i64 0] 3;rw[s1] at c2;rw[s2,s1] at c3;exact⟨zab (zab b1 b2 (by omega)) b3 (by omega),zaa b3 (zaa b2 c1),zaa b3 c2,c3⟩)
 have KS:=zz (zpJ s W0);clear hW
 go_enter_defers Tryz.func30,Tryz.ntmps30
 go_wp2_with fail;rw[HW.out];clear HW;obtain⟨r,hr⟩:∃r,zgo s=r:=⟨_,rfl⟩;have HR:=zz hr;rw[hr] at KS;cases r with
 |error p=>
  obtain⟨ce,ae⟩:=p;have hc0:=zkK hr;have hc1:(ce != 0)=true:=by simpa using hc0
  have hc2:(ce == 0)=false:=by simpa using hc0
  have HP:Hid (zdC s=.error (ce,ae)):=zz (by unfold zdC;rw[hr]);clear hr hc0 HR;(with_reducible refine KS.out.mono ?_);rintro e w1 ⟨hb,rfl⟩;have Z1:=zz (Z0.out.below hb);have y1:w1.cell? ⟨w.heap.size+1,0,none⟩=some (.int .i64 0):=Z1.out.e.cell 0;have z1:=Z1.out.e.fz;have y2:w1.cell? ⟨w.heap.size+1+1,0,none⟩=some (.int .i64 0):=Z1.out.a.cell 0;have z2:=Z1.out.a.fz;obtain⟨x0,x1,x2,x3,x4⟩:=Z1.out.n.c5;have z0:=Z1.out.n.fz;clear hb Z0 KS;go_wp2_with fail;have Z2:=zz ((Z1.out.set1 (.int .i64 ce)).set2 (.int .i64 ae));obtain⟨w2,hw2⟩:∃W,(w1.setCell ⟨w.heap.size+1,0,none⟩ (.int .i64 ce)).setCell ⟨w.heap.size+1+1,0,none⟩ (.int .i64 ae)=W:=⟨_,rfl⟩;rw[hw2] at Z2 ⊢;clear hw2 Z1 y1 y2 z1 z2 x0 x1 x2 x3 x4 z0;have y1:w2.cell? ⟨w.heap.size+1,0,none⟩=some (.int .i64 ce):=Z2.out.e.cell 0;have z1:=Z2.out.e.fz;have y2:w2.cell? ⟨w.heap.size+1+1,0,none⟩=some (.int .i64 ae):=Z2.out.a.cell 0;have z2:=Z2.out.a.fz;obtain⟨x0,x1,x2,x3,x4⟩:=Z2.out.n.c5;have z0:=Z2.out.n.fz
  go_region
  all_goals go_wp2_with fail
  all_goals
   have Z3:=(((Z2.out.set0 (.int .i64 0) (.string ⟨#[]⟩) (.int .i64 0) (.int .i64 0) (.slice none 0 0)).set1 (.int .i64 ce)).set2 (.int .i64 ae)).below (zae (Below.refl _ _) 1);refine zjO rfl rfl rfl rfl Z3 ⟨Z3.low,?_⟩;rw[HP.out]
 |ok T=>
  obtain⟨t1,t2,t3⟩:=zmk hr;(with_reducible refine KS.out.mono ?_);rintro e w1 ⟨hb,A,c,rfl,hO⟩;have hlt0:=Z0.out.lt;have Z1:=zz (Z0.out.below hb);have y1:w1.cell? ⟨w.heap.size+1,0,none⟩=some (.int .i64 0):=Z1.out.e.cell 0;have z1:=Z1.out.e.fz;have y2:w1.cell? ⟨w.heap.size+1+1,0,none⟩=some (.int .i64 0):=Z1.out.a.cell 0;have z2:=Z1.out.a.fz;have O1:=zz hO;clear hb Z0 KS HR hO;go_wp2_with fail;have Z2:=zz ((Z1.out.set1 (.int .i64 0)).set2 (.int .i64 0));have O2:=zz ((O1.out.chg ((Chg.refl (λk=>k=w.heap.size+1) w1).setCell (p:=⟨w.heap.size+1,0,none⟩) (.inl rfl) (.int .i64 0)) (λj hj=>by omega)).chg ((Chg.refl (λk=>k=w.heap.size+1+1) _).setCell (p:=⟨w.heap.size+1+1,0,none⟩) (.inl rfl) (.int .i64 0)) (λj hj=>by omega));obtain⟨w2,hw2⟩:∃W,(w1.setCell ⟨w.heap.size+1,0,none⟩ (.int .i64 0)).setCell ⟨w.heap.size+1+1,0,none⟩ (.int .i64 0)=W:=⟨_,rfl⟩;rw[hw2] at Z2 O2 ⊢;clear hw2 Z1 O1 y1 y2 z1 z2;have KO:=zz (zeN w2);have hlt2:=Z2.out.lt;(with_reducible refine KO.out.mono ?_);rintro e w3 ⟨rfl,hm,hb3⟩;have Z3:=zz (Z2.out.below hb3);have O3:=zz (O2.out.below hb3);have hlt3:=Z3.out.lt;obtain⟨m,hm0⟩:∃m,w2.heap.size=m:=⟨_,rfl⟩;rw[hm0] at hm;have hms:m<w3.heap.size:=hm.lt;have M3:=zz hm;clear Z2 O2 KO hm hb3;obtain⟨w4,hw4⟩:∃W,w3.alloc (.cells #[.slice A T.length c,.int .i64 0,.int .i64 (s.size:Int),.bool false,.map (some m)] 109)=W:=⟨_,rfl⟩;have hb4:Below w3.heap.size w3 w4:=by rw[←hw4];exact(Below.refl w3.heap.size w3).alloc (Nat.le_refl _) _
  have hn4:w4.heap[w3.heap.size]?=some (.cells #[.slice A T.length c,.int .i64 0,.int .i64 (s.size:Int),.bool false,.map (some m)] 109 (0,0)):=by rw[←hw4];exact heap_alloc_new w3 _
  have hs4:w4.heap.size=w3.heap.size+1:=by rw[←hw4];simp
  have P4:Hid (PsAt ⟨T,A,c,s.size,m,w3.heap.size⟩ w3.heap.size w4 ⟨0,false⟩):=zz {
   box:=hn4
   le:=Nat.zero_le _
   len:=by show T.length≤32768;omega
   tk:=(O3.out.rd.below hb4 (λ_ hq=>hq.2)).weaken (λq hq=>⟨by have:=hq.2;show q≠w3.heap.size;omega,hq.2⟩)
   mp:=M3.out.keep (hb4.block m hms)
   mb:=⟨by show m≠w3.heap.size;omega,hms⟩
   lim:=by show w3.heap.size≤w4.heap.size;omega
   tx:=λt ht=>(t2 t ht).1
   nm:=λt ht=>⟨(t2 t ht).2.1,(t2 t ht).2.2⟩ }
  have Z4:=zz (Z3.out.below hb4);have KP:=zz (zlz ⟨T,A,c,s.size,m,w3.heap.size⟩ w3.heap.size (64*(T.length+1)) (zdB T s.size (64*(T.length+1))) (zmF ⟨T,A,c,s.size,m,w3.heap.size⟩ w3.heap.size (64*(T.length+1))) ⟨0,false⟩ (by show 16*(T.length-0)+1<64*(T.length+1)+1;omega) w4 P4.out)
  have HR:Hid (zdC s=match (zbS T (zdB T s.size (64*(T.length+1))) (64*(T.length+1)) [] ⟨0,false⟩:R (List Nd)) with
   |.error a=>.error (2,a)
   |.ok (l,_)=>match zdW l 1 with
    |some a=>.error (10,a)
    |none=>.ok (.mk 1 ⟨#[]⟩ 0 0 l)):=zz (by unfold zdC;rw[hr];rfl)
  clear hr hb4 hn4 O3 M3 Z3 P4;unfold zhL at KP;obtain⟨pl,hpl⟩:∃pl,zbS T (zdB T s.size (64*(T.length+1))) (64*(T.length+1)) [] ⟨0,false⟩=pl:=⟨_,rfl⟩;dsimp only at KP;rw[hpl] at KP HR;clear hpl t1 t2 t3;go_wp2_with fail;clear hw4;cases pl with
  |error a=>
   (with_reducible refine KP.out.mono ?_);rintro e w5 ⟨hc,rfl⟩;have Z5:=Z4.out.own hc hlt3
   show bodyPostD _ _ _ _ _ _
   refine leaves_cons (f:=51) (args:=#[.pointer (some ⟨w.heap.size,0,none⟩),.pointer (some ⟨w.heap.size+1,0,none⟩),.pointer (some ⟨w.heap.size+1+1,0,none⟩)]) (by simp) (by simp[go_sem]) ?_;refine(zkg w.heap.size (w.heap.size+1) (w.heap.size+1+1) (by omega) (by omega) (by omega) a [] w5 _ _ _ _ _ _ _ Z5.n Z5.e Z5.a).mono ?_;rintro e u' w6 ⟨rfl,rfl,hw6⟩;have Z6:=(((Z5.set0 (.int .i64 0) (.string ⟨#[]⟩) (.int .i64 0) (.int .i64 0) (.slice none 0 0)).set1 (.int .i64 2)).set2 (.int .i64 0)).set2 (.int .i64 a);rw[←hw6] at Z6;clear hw6;have c1:w6.cell? ⟨w.heap.size+1,0,none⟩=some (.int .i64 2):=Z6.e.cell 0;have c2:w6.cell? ⟨w.heap.size+1+1,0,none⟩=some (.int .i64 a):=Z6.a.cell 0;refine⟨_,zfU (by rfl) _ _ w.heap.size (w.heap.size+1) (w.heap.size+1+1) _ (.int .i64 2) (.int .i64 a) _ rfl rfl rfl Z6.n (λW e=>by subst e;go_simp) (λW e=>by subst e;go_simp) Tryz.underlying25 rfl (by kernel_rfl),Z6.low,?_⟩;rw[HR.out]
  |ok p=>
   obtain⟨l,st'⟩:=p;(with_reducible refine KP.out.mono ?_);rintro e w5 ⟨hc,hp,A5,c5,rfl,hr5⟩;have Z5:=zz (Z4.out.own hc hlt3);have hlt5:=Z5.out.lt;have R5:=zz hr5;clear hc hp hr5 Z4 KP;obtain⟨x0,x1,x2,x3,x4⟩:=Z5.out.n.c5;have z0:=Z5.out.n.fz;dsimp only[Nd.kind,Nd.text,Nd.n,Nd.at',Nd.kids] at R5 ⊢;go_wp2_with fail;have Z6:=zz (Z5.out.set0 (.int .i64 1) (.string ⟨#[]⟩) (.int .i64 0) (.int .i64 0) (.slice A5 l.length c5));have R6:=zz ((zdF w5 w.heap.size (.int .i64 1) (.string ⟨#[]⟩) (.int .i64 0) (.int .i64 0) (.slice A5 l.length c5)).rd (ok:=Bt w4.heap.size w5.heap.size) (λq hq=>⟨hq.2,by have:=hq.1;omega⟩) R5.out);have hs6:=(zdF w5 w.heap.size (.int .i64 1) (.string ⟨#[]⟩) (.int .i64 0) (.int .i64 0) (.slice A5 l.length c5)).size;obtain⟨w6,hw6⟩:∃W,(((((w5.setCell ⟨w.heap.size,0,none⟩ (.int .i64 1)).setCell ⟨w.heap.size,1,none⟩ (.string ⟨#[]⟩)).setCell ⟨w.heap.size,2,none⟩ (.int .i64 0)).setCell ⟨w.heap.size,3,none⟩ (.int .i64 0)).setCell ⟨w.heap.size,4,none⟩ (.slice A5 l.length c5))=W:=⟨_,rfl⟩;rw[hw6] at Z6 R6 hs6 ⊢;clear hw6 Z5 R5 x0 x1 x2 x3 x4 z0;have KD0:=ziL 41 0 (by omega) (by omega) (.mk 1 ⟨#[]⟩ 0 0 l) A5 c5 w6 (R6.out.weaken (λq hq=>Nat.lt_of_lt_of_le hq.2 hs6));rw[zmQ] at KD0;dsimp only[Nd.kids,Nd.at',Nd.kind,Nd.text,Nd.n] at KD0;rw[if_neg (by omega)] at KD0;have HR2:zdC s=(match zdW l 1 with|some a=>.error (10,a)|none=>.ok (.mk 1 ⟨#[]⟩ 0 0 l)):=HR.out;clear HR;obtain⟨dd,hdd⟩:∃dd,zdW l (0+1)=dd:=⟨_,rfl⟩;rw[hdd] at KD0;have KD:Hid (Calls Tryz.prog 55 #[.agg #[.int .i64 1,.string ⟨#[]⟩,.int .i64 0,.int .i64 0,.slice A5 l.length c5],.int .i64 0] w6 _):=zz KD0;clear KD0;rw[show zdW l 1=dd from hdd] at HR2;have HR:=zz HR2;clear HR2 hdd;(with_reducible refine KD.out.mono ?_);rintro e w7 ⟨rfl,hb7⟩;have Z7:=zz (Z6.out.below hb7);have R7:=zz (R6.out.below hb7 (λq hq=>Nat.lt_of_lt_of_le hq.2 hs6));have hs7:=hb7.size;clear hb7 Z6 R6 KD;obtain⟨x0,x1,x2,x3,x4⟩:=Z7.out.n.c5;have z0:=Z7.out.n.fz;have y1:w7.cell? ⟨w.heap.size+1,0,none⟩=some (.int .i64 0):=Z7.out.e.cell 0;have z1:=Z7.out.e.fz;have y2:w7.cell? ⟨w.heap.size+1+1,0,none⟩=some (.int .i64 0):=Z7.out.a.cell 0;have z2:=Z7.out.a.fz;cases dd with
   |some a=>
    dsimp only[Option.getD,Option.isSome];go_wp2_with fail;have Z8:=((Z7.out.set0 (.int .i64 0) (.string ⟨#[]⟩) (.int .i64 0) (.int .i64 0) (.slice none 0 0)).set1 (.int .i64 10)).set2 (.int .i64 a);refine zjO rfl rfl rfl rfl Z8 ⟨Z8.low,?_⟩;rw[HR.out]
   |none=>
    dsimp only[Option.getD,Option.isSome];go_wp2_with fail;have Z8:=((Z7.out.set0 (.int .i64 1) (.string ⟨#[]⟩) (.int .i64 0) (.int .i64 0) (.slice A5 l.length c5)).set1 (.int .i64 0)).set2 (.int .i64 0);refine zjO rfl rfl rfl rfl Z8 ⟨Z8.low,?_⟩;rw[HR.out];refine⟨A5,c5,rfl,?_⟩;have q0:=(zdF w7 w.heap.size (.int .i64 1) (.string ⟨#[]⟩) (.int .i64 0) (.int .i64 0) (.slice A5 l.length c5)).rd (ok:=Bt w4.heap.size w5.heap.size) (λq hq=>⟨Nat.lt_of_lt_of_le hq.2 (by omega),by have:=hq.1;omega⟩) R7.out;have q1:=q0.setCell (p:=⟨w.heap.size+1,0,none⟩) (λq hq=>by have:=hq.1;show q≠w.heap.size+1;omega) (.int .i64 0);have q2:=q1.setCell (p:=⟨w.heap.size+1+1,0,none⟩) (λq hq=>by have:=hq.1;show q≠w.heap.size+1+1;omega) (.int .i64 0);refine q2.weaken (λq hq=>⟨by have:=hq.1;omega,Nat.lt_of_lt_of_le hq.2 ?_⟩);simp only[zbO];omega
theorem zkP (s:ByteArray) (w:World):Calls Tryz.prog 7 #[.string s] w (zhi s w):=by
 have hb:=(Below.refl w.heap.size w).alloc (Nat.le_refl _) (.cells #[.int .i64 0,.string ⟨#[]⟩,.int .i64 0,.int .i64 0,.slice none 0 0] 25);have hx:=zac.new w #[.int .i64 0,.string ⟨#[]⟩,.int .i64 0,.int .i64 0,.slice none 0 0] 25;obtain⟨w0,hw⟩:∃W,w.alloc (.cells #[.int .i64 0,.string ⟨#[]⟩,.int .i64 0,.int .i64 0,.slice none 0 0] 25)=W:=⟨_,rfl⟩;have hs:w0.heap.size=w.heap.size+1:=by rw[←hw];simp
 rw[hw] at hb hx;have KR:=zz (zro s w0);have Z0:=zz hb;have X0:=zz hx;clear hb hx;go_enter Tryz.func7,Tryz.ntmps7;go_wp2_with fail;clear hw;unfold zhi at KR;obtain⟨P,hP⟩:∃P,zdC s=P:=⟨_,rfl⟩;have HP:=zz hP;rw[hP] at KR;clear hP;cases P with
 |error p=>
  obtain⟨ce,ae⟩:=p;(with_reducible refine KR.out.mono ?_);rintro e w1 ⟨hb1,rfl⟩;have Z1:=zz (zab Z0.out hb1 (by omega));have X1:=zz (zaa hb1 X0.out);clear hb1 Z0 X0;obtain⟨x0,x1,x2,x3,x4⟩:=X1.out.c5;have z:=X1.out.fz;go_wp2_with fail;refine bodyPost_ret (zfj (p:=2) (q:=3) (s:=4) (by rfl) _ _ w.heap.size _ _ (0,0) _ rfl (zeP _ _ _ _ _ X1.out) Tryz.underlying25 rfl (by kernel_rfl)) rfl ⟨?_,?_⟩
  ·exact Z1.out.trans ((zdF w1 w.heap.size _ _ _ _ _).below Z1.out.size (λq hq=>by omega))
  ·rw[HP.out]
   rfl
 |ok n=>
  (with_reducible refine KR.out.mono ?_);rintro e w1 ⟨hb1,A,c,rfl,hr⟩;have Z1:=zz (zab Z0.out hb1 (by omega));have X1:=zz (zaa hb1 X0.out);have R1:=zz hr;clear hb1 Z0 X0 hr;obtain⟨x0,x1,x2,x3,x4⟩:=X1.out.c5;have z:=X1.out.fz;go_wp2_with fail;refine bodyPost_ret (zfj (p:=2) (q:=3) (s:=4) (by rfl) _ _ w.heap.size _ _ (0,0) _ rfl (zeP _ _ _ _ _ X1.out) Tryz.underlying25 rfl (by kernel_rfl)) rfl ⟨?_,?_⟩
  ·exact Z1.out.trans ((zdF w1 w.heap.size _ _ _ _ _).below Z1.out.size (λq hq=>by omega))
  ·rw[HP.out];refine⟨A,c,rfl,?_⟩;have hc:=zdF w1 w.heap.size (.int .i64 n.kind) (.string n.text) (.int .i64 n.n) (.int .i64 n.at') (.slice A n.kids.length c);exact(hc.rd (ok:=Bt w0.heap.size w1.heap.size) (λq hq=>⟨hq.2,by have:=hq.1;omega⟩) R1.out).weaken (λq hq=>⟨by have:=hq.1;omega,Nat.lt_of_lt_of_le hq.2 hc.size⟩)
end Go.Proofs.YtjdpocmlimkjjaaGreat
