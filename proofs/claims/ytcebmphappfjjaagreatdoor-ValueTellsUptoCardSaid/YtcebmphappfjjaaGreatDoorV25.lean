/- Conditions: those in each statement. -/
import Derived.Test.YtcebmphappfjjaaGreatDoorV10
import Derived.Test.YtcebmphappfjjaaGreatDoorV24
import Derived.Test.YtcebmphappfjjaaGreatDoorV05
import Derived.Deep.RegionHeld3
import Derived.RegionTactic
import Derived.Test.YtcebmphappfjjaaGreatDoorV01
import Derived.Laws.StructEq
import Derived.MapKept
import Derived.Carry
import Derived.WideKeyRuns
import Derived.Test.YtcebmphappfjjaaGreatDoorV00
import Derived.Test.YtcebmphappfjjaaGreatDoorV02
set_option maxHeartbeats 32000000
set_option maxRecDepth 100000
namespace Go.Proofs.YtcebmphappfjjaaGreatDoor
open Go.RowKit
def zCI (a b:ByteArray):Bool:=decide (a≠(⟨#[91]⟩:ByteArray))&&decide (a≠(⟨#[114,101,102]⟩:ByteArray))&&decide (a≠(⟨#[114,101,99,111,114,100]⟩:ByteArray))&&decide (a≠(⟨#[101,102,102,101,99,116]⟩:ByteArray))&&decide (a≠(⟨#[101,115,99,97,108,97,116,101]⟩:ByteArray))&&decide (a≠(⟨#[114,101,115,116,97,114,116]⟩:ByteArray))&&decide (a≠(⟨#[115,116,97,116,101]⟩:ByteArray))&&decide (a≠(⟨#[111,110]⟩:ByteArray))&&decide ((a=(⟨#[58]⟩:ByteArray)\/a=(⟨#[40]⟩:ByteArray)\/a=(⟨#[44]⟩:ByteArray))->b≠(⟨#[102,117,110]⟩:ByteArray))&&decide (a=(⟨#[61]⟩:ByteArray)->b=(⟨#[116,114,117,101]⟩:ByteArray))&&decide (a=(⟨#[116,114,117,101]⟩:ByteArray)->b=(⟨#[97,99,116,111,114]⟩:ByteArray))
def okT (T:List Tok):Bool:=(List.range T.length).all (λi=>zCI (zao T ⟨i,false⟩) (zao T ⟨i+1,false⟩))
theorem zEr {T:List Tok} (h:okT T=true) (st:Ps):zCI (zao T st) (zao T st.adv)=true:=by
 by_cases hl:st.next<T.length
 ·exact List.all_eq_true.1 h st.next (List.mem_range.2 hl)
 ·have h1:zao T st=⟨#[]⟩:=by unfold zao;rw[List.getElem?_eq_none zo]
  have h2:zao T st.adv=⟨#[]⟩:=by unfold zao;rw[List.getElem?_eq_none (by show T.length<=st.next+1;omega)]
  rw[h1,h2]
  decide
theorem zzK {T:List Tok} (h:okT T=true) (st:Ps):zao T st≠(⟨#[91]⟩:ByteArray)/\zao T st≠(⟨#[114,101,102]⟩:ByteArray)/\zao T st≠(⟨#[114,101,99,111,114,100]⟩:ByteArray)/\zao T st≠(⟨#[101,102,102,101,99,116]⟩:ByteArray)/\zao T st≠(⟨#[101,115,99,97,108,97,116,101]⟩:ByteArray)/\zao T st≠(⟨#[114,101,115,116,97,114,116]⟩:ByteArray)/\zao T st≠(⟨#[115,116,97,116,101]⟩:ByteArray)/\zao T st≠(⟨#[111,110]⟩:ByteArray)/\((zao T st=(⟨#[58]⟩:ByteArray)\/zao T st=(⟨#[40]⟩:ByteArray)\/zao T st=(⟨#[44]⟩:ByteArray))->zao T st.adv≠(⟨#[102,117,110]⟩:ByteArray))/\(zao T st=(⟨#[61]⟩:ByteArray)->zao T st.adv=(⟨#[116,114,117,101]⟩:ByteArray))/\(zao T st=(⟨#[116,114,117,101]⟩:ByteArray)->zao T st.adv=(⟨#[97,99,116,111,114]⟩:ByteArray)):=by
 have:=zEr h st;unfold zCI at this;simp only[Bool.and_eq_true,decide_eq_true_eq] at this;obtain⟨⟨⟨⟨⟨⟨⟨⟨⟨⟨h1,h2⟩,h3⟩,h4⟩,h5⟩,h6⟩,h7⟩,h8⟩,h9⟩,h10⟩,h11⟩:=this;exact⟨h1,h2,h3,h4,h5,h6,h7,h8,h9,h10,h11⟩
abbrev pgOf (T:List Tok) (A:Option Addr) (c:Nat) (en:Int) (m lim:Nat) (h:okT T=true):PG:=
 ⟨T,A,c,en,m,lim,λst=>(zzK h st).1,λst=>(zzK h st).2.1,λst=>(zzK h st).2.2.1,λst=>(zzK h st).2.2.2.1,λst=>(zzK h st).2.2.2.2.1,λst=>(zzK h st).2.2.2.2.2.1,λst=>(zzK h st).2.2.2.2.2.2.1,λst=>(zzK h st).2.2.2.2.2.2.2.1,λst=>(zzK h st).2.2.2.2.2.2.2.2.1,λst=>(zzK h st).2.2.2.2.2.2.2.2.2.1,λst=>(zzK h st).2.2.2.2.2.2.2.2.2.2⟩
def zDr (s:ByteArray):Prop:=(∃n,zhG s=.ok n)/\(∀T,zgX s=.ok T->okT T=true)/\s.size<=32768/\∀k,zcM (bt s k)=false/\bt s k≠34/\bt s k≠47
theorem zDZ {s:ByteArray} (h:zDr s):∃T,zgX s=.ok T:=by
 obtain⟨n,h⟩:=h.1;unfold zhG at h;cases hs:zgX s with
 |error e=>rw[hs] at h;cases h
 |ok T=>exact⟨T,rfl⟩
theorem zfv {P:Program} {fn:Func} {p q r:Tmp} {t1 t2 t3:TypeId} (h:fn.results=#[.cell p t1,.cell q t2,.cell r t3]) (tmps:Array Value) (w:World) (g0 g1 g2:Nat) (cs:Array Value) (v1 v2:Value) (d:TypeDesc)
 (hp:tmps.getD p undef=.pointer (some ⟨g0,0,none⟩)) (hq:tmps.getD q undef=.pointer (some ⟨g1,0,none⟩)) (hr:tmps.getD r undef=.pointer (some ⟨g2,0,none⟩))
 (H0:zab w g0 cs t1) (H1:∀W:World,W=w->(loadVar t2 ⟨g1,0,none⟩).run P W=.ok v1 W) (H2:∀W:World,W=w->(loadVar t3 ⟨g2,0,none⟩).run P W=.ok v2 W)
 (hu:P.underlying t1=some d) (hd:(match d with|.struct _|.array _ _=>true|_=>false)=true) (hi:(P.info? t1).map (·.size)=some cs.size) :
 (results fn tmps).run P w=.ok (.tuple #[.agg cs,v1,v2]) w:=by
 have hp':tmps[p]?.getD undef=.pointer (some ⟨g0,0,none⟩):=by simpa using hp
 have hq':tmps[q]?.getD undef=.pointer (some ⟨g1,0,none⟩):=by simpa using hq
 have hr':tmps[r]?.getD undef=.pointer (some ⟨g2,0,none⟩):=by simpa using hr
 simp[results,h,hp',hq',hr',asAddr,run_loadVar_row w g0 t1 t1 cs (0,0) d H0 hu hd hi,H1 w rfl,H2 w rfl]
def zhP (s:ByteArray) (w:World) (e:Ending) (w':World):Prop:=Below w.heap.size w w'/\match zhG s with
 |.error (c,a)=>e=.returned (.tuple #[.agg #[.int .i64 0,.string ⟨#[]⟩,.int .i64 0,.int .i64 0,.slice none 0 0],.int .i64 c,.int .i64 a])
 |.ok n=>∃A c,e=.returned (.tuple #[ndV n A c,.int .i64 0,.int .i64 0])/\Rd (Bt w.heap.size w'.heap.size) w' (ns n.kids) (.slice A n.kids.length c)
structure RB (w W:World) (cn:Array Value) (ev av:Value):Prop where
 low:Below w.heap.size w W
 n:zab W w.heap.size cn 49
 e:zab W (w.heap.size+1) #[ev] 50
 a:zab W (w.heap.size+1+1) #[av] 3
section
variable {w W W':World} {cn:Array Value} {ev av:Value}
theorem RB.below (h:RB w W cn ev av) (k:Below W.heap.size W W'):RB w W' cn ev av:=⟨zac h.low k h.low.size,zaa k h.n,zaa k h.e,zaa k h.a⟩
theorem RB.set1 (h:RB w W cn ev av) (u:Value):RB w (W.setCell ⟨w.heap.size+1,0,none⟩ u) cn u av:=by
 have hc:Chg (λk=>k=w.heap.size+1) W (W.setCell ⟨w.heap.size+1,0,none⟩ u):=(Chg.refl (λk=>k=w.heap.size+1) W).setCell (p:=⟨w.heap.size+1,0,none⟩) (.inl rfl) u;exact⟨h.low.setCell (p:=⟨w.heap.size+1,0,none⟩) (by show w.heap.size<=w.heap.size+1;omega) u,h.n.keep hc zo,by have:=h.e.set 0 u;simpa using this,h.a.keep hc zo⟩
theorem RB.set2 (h:RB w W cn ev av) (u:Value):RB w (W.setCell ⟨w.heap.size+1+1,0,none⟩ u) cn ev u:=by
 have hc:Chg (λk=>k=w.heap.size+1+1) W (W.setCell ⟨w.heap.size+1+1,0,none⟩ u):=(Chg.refl (λk=>k=w.heap.size+1+1) W).setCell (p:=⟨w.heap.size+1+1,0,none⟩) (.inl rfl) u;exact⟨h.low.setCell (p:=⟨w.heap.size+1+1,0,none⟩) (by show w.heap.size<=w.heap.size+1+1;omega) u,h.n.keep hc zo,h.e.keep hc zo,by have:=h.a.set 0 u;simpa using this⟩
theorem RB.set0 {a0 a1 a2 a3 a4:Value} (h:RB w W #[a0,a1,a2,a3,a4] ev av) (u0 u1 u2 u3 u4:Value) :
 RB w (((((W.setCell ⟨w.heap.size,0,none⟩ u0).setCell ⟨w.heap.size,1,none⟩ u1).setCell ⟨w.heap.size,2,none⟩ u2).setCell ⟨w.heap.size,3,none⟩ u3).setCell ⟨w.heap.size,4,none⟩ u4) #[u0,u1,u2,u3,u4] ev av:=by
 have hc:=zdg W w.heap.size u0 u1 u2 u3 u4;exact⟨h.low.trans (hc.below h.low.size (λq hq=>by omega)),zex u0 u1 u2 u3 u4 h.n,h.e.keep hc zo,h.a.keep hc zo⟩
theorem RB.lt (h:RB w W cn ev av):w.heap.size+1+1<W.heap.size:=h.a.lt
end
theorem RB.own {w W W':World} {cn:Array Value} {ev av:Value} {b:Nat} (h:RB w W cn ev av) (k:Own1 b W W') (hb:w.heap.size+1+1<b):RB w W' cn ev av:=
 ⟨h.low.trans (Chg.below k h.low.size (λq hq=>by omega)),h.n.keep k zo,h.e.keep k zo,h.a.keep k zo⟩
theorem zeC {P:Program} {fn:Func} {p q s:Tmp} {ty:TypeId} (h:fn.results=#[.cell p ty,.tmp q,.tmp s]) (tmps:Array Value) (w:World) (g:Nat) (t:TypeId) (cs:Array Value) (fr:Nat × Nat) (d:TypeDesc)
 (hp:tmps.getD p undef=.pointer (some ⟨g,0,none⟩)) (hg:w.heap[g]?=some (.cells cs t fr))
 (hu:P.underlying ty=some d) (hd:(match d with|.struct _|.array _ _=>true|_=>false)=true) (hi:(P.info? ty).map (·.size)=some cs.size) :
 (results fn tmps).run P w=.ok (.tuple #[.agg cs,tmps.getD q undef,tmps.getD s undef]) w:=by
 have hp':tmps[p]?.getD undef=.pointer (some ⟨g,0,none⟩):=by simpa using hp
 simp[results,h,hp',asAddr,run_loadVar_row w g t ty cs fr d hg hu hd hi]
theorem zjA {s:ByteArray} {w W:World} {cs:Array Value} {ev av:Int} {tmps:Array Value} (hcs:cs.size=5) (hp:tmps.getD 4 undef=.pointer (some ⟨w.heap.size,0,none⟩)) (hq:tmps.getD 5 undef=.pointer (some ⟨w.heap.size+1,0,none⟩)) (hr:tmps.getD 6 undef=.pointer (some ⟨w.heap.size+1+1,0,none⟩))
 (Z:RB w W cs ↑ev ↑av) (h:zhP s w (.returned (.tuple #[.agg cs,↑ev,↑av])) W) :
 bodyPostD Tryz.prog Tryz.f71 (zhP s w) Exit.ret {tmps:=tmps,defers:=[{target:=Target.fn (Fn.func 120) #[.pointer (some ⟨w.heap.size,0,none⟩),.pointer (some ⟨w.heap.size+1,0,none⟩),.pointer (some ⟨w.heap.size+1+1,0,none⟩)],args:=#[] }] } W:=by
 refine leaves_cons (f:=120) (args:=#[.pointer (some ⟨w.heap.size,0,none⟩),.pointer (some ⟨w.heap.size+1,0,none⟩),.pointer (some ⟨w.heap.size+1+1,0,none⟩)]) zs (by simp[go_sem]) ?_;refine(zsg _ _ _ _).mono ?_;rintro e u' w'' ⟨rfl,rfl,rfl⟩;have c1:=Z.e.a 0 rfl;have c2:=Z.a.a 0 rfl;exact⟨_,zfv zr _ _ w.heap.size (w.heap.size+1) (w.heap.size+1+1) cs _ _ _ hp hq hr Z.n (λW e=>by subst e;go_simp) (λW e=>by subst e;go_simp) Tryz.underlying49 rfl (by rw[hcs];kernel_rfl),h⟩
theorem ztn (s:ByteArray) (hok:zDr s) (w:World):Calls Tryz.prog 71 #[↑s,.bool false] w (zhP s w):=by
 have hmf:∀(fn:Fn) (first cap:Array Value) (w:World),(Instr.makeFunc fn first cap).run Tryz.prog w=.ok (.func fn first cap) w:=λ_ _ _ _=>rfl;obtain⟨W0,hW⟩:∃W,((w.alloc (.cells #[↑(),↑zj.a,↑(),↑(),.slice none 0 0] 49)).alloc (.cells #[↑()] 50)).alloc (.cells #[↑()] 3)=W:=⟨_,rfl⟩;have HW:=zz hW
 have Z0:Hid (RB w W0 #[↑(),↑zj.a,↑(),↑(),.slice none 0 0] ↑() ↑()):=zz (by
  rw[<-hW];have b1:=(Below.refl w.heap.size w).alloc (Nat.le_refl _) (.cells #[↑(),↑zj.a,↑(),↑(),.slice none 0 0] 49);have c1:=zab.new w #[↑(),↑zj.a,↑(),↑(),.slice none 0 0] 49;obtain⟨w1,h1⟩:∃W,w.alloc (.cells #[↑(),↑zj.a,↑(),↑(),.slice none 0 0] 49)=W:=⟨_,rfl⟩;have s1:w1.heap.size=w.heap.size+1:=by rw[<-h1];simp
  rw[h1] at b1 c1 ⊢;have b2:=(Below.refl w1.heap.size w1).alloc (Nat.le_refl _) (.cells #[↑()] 50);have c2:=zab.new w1 #[↑()] 50;obtain⟨w2,h2⟩:=zn (w1.alloc (.cells #[↑()] 50));have s2:w2.heap.size=w1.heap.size+1:=by rw[<-h2];simp
  rw[h2] at b2 c2 ⊢;have b3:=(Below.refl w2.heap.size w2).alloc (Nat.le_refl _) (.cells #[↑()] 3);have c3:=zab.new w2 #[↑()] 3;rw[s1] at c2;rw[s2,s1] at c3;exact⟨zac (zac b1 b2 zo) b3 zo,zaa b3 (zaa b2 c1),zaa b3 c2,c3⟩)
 have KS:=zz (zsl s hok.2.2.1 (zDZ hok) hok.2.2.2 W0);have HOK:=zz hok;clear hok;clear hW
 go_enter_defers Tryz.func71,Tryz.ntmps71
 go_wp2_with fail;rw[HW.out];clear HW;obtain⟨r,hr⟩:=zn (zgX s);have HR:=zz hr;rw[hr] at KS;cases r with
 |error p=>
  exact absurd HOK.out.1 (by rintro⟨n,h⟩;unfold zhG at h;rw[hr] at h;cases h)
 |ok T=>
  obtain⟨t1,t2,t3⟩:=zse hr;have hot:okT T=true:=HOK.out.2.1 T hr;refine zi KS ?_;rintro e w1 ⟨hb,A,c,rfl,hO⟩;have hlt0:=Z0.out.lt;have Z1:=zz (Z0.out.below hb);have y1:=Z1.out.e.a 0 rfl;have z1:=Z1.out.e.fz;have y2:=Z1.out.a.a 0 rfl;have z2:=Z1.out.a.fz;have O1:=zz hO;clear hb Z0 KS HR hO;go_wp2_with fail;have Z2:=zz ((Z1.out.set1 ↑()).set2 ↑());have O2:=zz ((O1.out.chg ((Chg.refl (λk=>k=w.heap.size+1) w1).setCell (p:=⟨w.heap.size+1,0,none⟩) (.inl rfl) ↑()) (λj hj=>by omega)).chg ((Chg.refl (λk=>k=w.heap.size+1+1) _).setCell (p:=⟨w.heap.size+1+1,0,none⟩) (.inl rfl) ↑()) (λj hj=>by omega));obtain⟨w2,hw2⟩:∃W,(w1.setCell ⟨w.heap.size+1,0,none⟩ ↑()).setCell ⟨w.heap.size+1+1,0,none⟩ ↑()=W:=⟨_,rfl⟩;rw[hw2] at Z2 O2 ⊢;clear hw2 Z1 O1 y1 y2 z1 z2;have KO:=zz (zep w2);have hlt2:=Z2.out.lt;refine zi KO ?_;rintro e w3 ⟨rfl,hm,hb3⟩;have Z3:=zz (Z2.out.below hb3);have O3:=zz (O2.out.below hb3);have hlt3:=Z3.out.lt;obtain⟨m,hm0⟩:=zn w2.heap.size;rw[hm0] at hm;have hms:m<w3.heap.size:=hm.lt;have M3:=zz hm;clear Z2 O2 KO hm hb3;obtain⟨w4,hw4⟩:=zn (w3.alloc (.cells #[.slice A T.length c,↑(),.int .i64 (s.size:Int),.bool false,.map (some m)] 152));have hb4:Below w3.heap.size w3 w4:=by rw[<-hw4];exact(Below.refl w3.heap.size w3).alloc (Nat.le_refl _) _
  have hn4:w4.heap[w3.heap.size]?=some (.cells #[.slice A T.length c,↑(),.int .i64 (s.size:Int),.bool false,.map (some m)] 152 (0,0)):=by rw[<-hw4];exact heap_alloc_new w3 _
  have hs4:w4.heap.size=w3.heap.size+1:=by rw[<-hw4];simp
  have P4:Hid (PsAt (pgOf T A c s.size m w3.heap.size hot) w3.heap.size w4 ⟨0,false⟩):=zz {
   box:=hn4
   le:=Nat.zero_le _
   len:=by show T.length<=32768;omega
   tk:=(O3.out.rd.below hb4 (λ_ hq=>hq.2)).weaken (λq hq=>⟨by have:=hq.2;show q≠w3.heap.size;omega,hq.2⟩)
   mp:=M3.out.keep (hb4.block m hms)
   mb:=⟨by show m≠w3.heap.size;omega,hms⟩
   lim:=by show w3.heap.size<=w4.heap.size;omega
   tx:=λt ht=>(t2 t ht).1
   nm:=λt ht=>⟨(t2 t ht).2.1,(t2 t ht).2.2⟩ }
  have Z4:=zz (Z3.out.below hb4);have KP:=zz (zmB (pgOf T A c s.size m w3.heap.size hot) w3.heap.size (64*(T.length+1)) (zgM T s.size (64*(T.length+1))) (zmT (pgOf T A c s.size m w3.heap.size hot) w3.heap.size (64*(T.length+1))) ⟨0,false⟩ (by show 16*(T.length-0)+1<64*(T.length+1)+1;omega) w4 P4.out)
  have HR:Hid (zhG s=match (zdJ T (zgM T s.size (64*(T.length+1))) (64*(T.length+1)) [] ⟨0,false⟩:R (List Nd)) with
   |.error a=>.error (2,a)
   |.ok (l,_)=>match zdH l 1 with
    |some a=>.error (10,a)
    |none=>.ok (.mk 1 ⟨#[]⟩ 0 0 l)):=zz (by unfold zhG;rw[hr];rfl)
  clear hr hb4 hn4 O3 M3 Z3 P4;unfold zhk at KP;obtain⟨pl,hpl⟩:∃pl,zdJ T (zgM T s.size (64*(T.length+1))) (64*(T.length+1)) [] ⟨0,false⟩=pl:=⟨_,rfl⟩;dsimp only[pgOf] at KP;rw[hpl] at KP HR;clear hpl t1 t2 t3;go_wp2_with fail;clear hw4;cases pl with
  |error a=>
   exact absurd HOK.out.1 (by rintro⟨n,h⟩;have h2:=HR.out.symm.trans h;cases h2)
  |ok p=>
   obtain⟨l,st'⟩:=p;refine zi KP ?_;rintro e w5 ⟨hc,hp,A5,c5,rfl,hr5⟩;have Z5:=zz (Z4.out.own hc hlt3);have hlt5:=Z5.out.lt;have R5:=zz hr5;clear hc hp hr5 Z4 KP;obtain⟨x0,x1,x2,x3,x4⟩:=Z5.out.n.c5;have z0:=Z5.out.n.fz;dsimp only[Nd.kind,Nd.text,Nd.n,Nd.at',Nd.kids] at R5 ⊢;go_wp2_with fail;have Z6:=zz (Z5.out.set0 (.int .i64 1) ↑zj.a ↑() ↑() (.slice A5 l.length c5));have R6:=zz ((zdg w5 w.heap.size (.int .i64 1) ↑zj.a ↑() ↑() (.slice A5 l.length c5)).rd (ok:=Bt w4.heap.size w5.heap.size) (λq hq=>⟨hq.2,by have:=hq.1;omega⟩) R5.out);have hs6:=(zdg w5 w.heap.size (.int .i64 1) ↑zj.a ↑() ↑() (.slice A5 l.length c5)).size;obtain⟨w6,hw6⟩:∃W,(((((w5.setCell ⟨w.heap.size,0,none⟩ (.int .i64 1)).setCell ⟨w.heap.size,1,none⟩ ↑zj.a).setCell ⟨w.heap.size,2,none⟩ ↑()).setCell ⟨w.heap.size,3,none⟩ ↑()).setCell ⟨w.heap.size,4,none⟩ (.slice A5 l.length c5))=W:=⟨_,rfl⟩;rw[hw6] at Z6 R6 hs6 ⊢;clear hw6 Z5 R5 x0 x1 x2 x3 x4 z0;have KD0:=zhr 41 0 zo zo (.mk 1 ⟨#[]⟩ 0 0 l) A5 c5 w6 (R6.out.weaken (λq hq=>Nat.lt_of_lt_of_le hq.2 hs6));rw[znb] at KD0;dsimp only[Nd.kids,Nd.at',Nd.kind,Nd.text,Nd.n] at KD0;rw[if_neg zo] at KD0;have HR2:zhG s=(match zdH l 1 with|some a=>.error (10,a)|none=>.ok (.mk 1 ⟨#[]⟩ 0 0 l)):=HR.out;clear HR;obtain⟨dd,hdd⟩:=zn (zdH l (0+1));rw[hdd] at KD0;have KD:Hid (Calls Tryz.prog 124 #[.agg #[.int .i64 1,↑zj.a,↑(),↑(),.slice A5 l.length c5],↑()] w6 _):=zz KD0;clear KD0;rw[show zdH l 1=dd from hdd] at HR2;have HR:=zz HR2;clear HR2 hdd;refine zi KD ?_;rintro e w7 ⟨rfl,hb7⟩;have Z7:=zz (Z6.out.below hb7);have R7:=zz (R6.out.below hb7 (λq hq=>Nat.lt_of_lt_of_le hq.2 hs6));have hs7:=hb7.size;clear hb7 Z6 R6 KD;obtain⟨x0,x1,x2,x3,x4⟩:=Z7.out.n.c5;have z0:=Z7.out.n.fz;have y1:=Z7.out.e.a 0 rfl;have z1:=Z7.out.e.fz;have y2:=Z7.out.a.a 0 rfl;have z2:=Z7.out.a.fz;cases dd with
   |some a=>
    exact absurd HOK.out.1 (by rintro⟨n,h⟩;have h2:=HR.out.symm.trans h;cases h2)
   |none=>
    dsimp only[Option.getD,Option.isSome];go_wp2_with fail;have Z8:=((Z7.out.set0 (.int .i64 1) ↑zj.a ↑() ↑() (.slice A5 l.length c5)).set1 ↑()).set2 ↑();refine zjA rfl rfl rfl rfl Z8 ⟨Z8.low,?_⟩;rw[HR.out];refine⟨A5,c5,rfl,?_⟩;have q0:=(zdg w7 w.heap.size (.int .i64 1) ↑zj.a ↑() ↑() (.slice A5 l.length c5)).rd (ok:=Bt w4.heap.size w5.heap.size) (λq hq=>⟨Nat.lt_of_lt_of_le hq.2 zo,by have:=hq.1;omega⟩) R7.out;have q1:=q0.setCell (p:=⟨w.heap.size+1,0,none⟩) (λq hq=>by have:=hq.1;show q≠w.heap.size+1;omega) ↑();have q2:=q1.setCell (p:=⟨w.heap.size+1+1,0,none⟩) (λq hq=>by have:=hq.1;show q≠w.heap.size+1+1;omega) ↑();refine q2.weaken (λq hq=>⟨by have:=hq.1;omega,Nat.lt_of_lt_of_le hq.2 ?_⟩);simp only[zbs];omega
theorem zuA (s:ByteArray) (hok:zDr s) (w:World):Calls Tryz.prog 38 #[↑s] w (zhP s w):=by
 have hb:=(Below.refl w.heap.size w).alloc (Nat.le_refl _) (.cells #[↑(),↑zj.a,↑(),↑(),.slice none 0 0] 49);have hx:=zab.new w #[↑(),↑zj.a,↑(),↑(),.slice none 0 0] 49;obtain⟨w0,hw⟩:∃W,w.alloc (.cells #[↑(),↑zj.a,↑(),↑(),.slice none 0 0] 49)=W:=⟨_,rfl⟩;have hs:w0.heap.size=w.heap.size+1:=by rw[<-hw];simp
 rw[hw] at hb hx;have KR:=zz (ztn s hok w0);have Z0:=zz hb;have X0:=zz hx;clear hb hx;go_in;go_wp2_with fail;clear hw;unfold zhP at KR;obtain⟨P,hP⟩:=zn (zhG s);have HP:=zz hP;rw[hP] at KR;clear hP;cases P with
 |error p=>
  exact absurd hok.1 (by rintro⟨n,h⟩;have h2:=HP.out.symm.trans h;cases h2)
 |ok n=>
  refine zi KR ?_;rintro e w1 ⟨hb1,A,c,rfl,hr⟩;have Z1:=zz (zac Z0.out hb1 zo);have X1:=zz (zaa hb1 X0.out);have R1:=zz hr;clear hb1 Z0 X0 hr;obtain⟨x0,x1,x2,x3,x4⟩:=X1.out.c5;have z:=X1.out.fz;go_wp2_with fail;refine bodyPost_ret (zeC (p:=2) (q:=3) (s:=4) zr _ _ w.heap.size _ _ (0,0) _ rfl (zex _ _ _ _ _ X1.out) Tryz.underlying49 rfl zk) rfl ⟨?_,?_⟩
  ·exact Z1.out.trans ((zdg w1 w.heap.size _ _ _ _ _).below Z1.out.size (λq hq=>by omega))
  ·rw[HP.out];refine⟨A,c,rfl,?_⟩;have hc:=zdg w1 w.heap.size ↑n.kind ↑n.text ↑n.n ↑n.at' (.slice A n.kids.length c);exact(hc.rd (ok:=Bt w0.heap.size w1.heap.size) (λq hq=>⟨hq.2,by have:=hq.1;omega⟩) R1.out).weaken (λq hq=>⟨by have:=hq.1;omega,Nat.lt_of_lt_of_le hq.2 hc.size⟩)
end Go.Proofs.YtcebmphappfjjaaGreatDoor
set_option maxHeartbeats 32000000
set_option maxRecDepth 100000
namespace Go.Proofs.YtcebmphappfjjaaGreatDoor
open Go.RowKit Go.MapKept
abbrev PlT:=Bool × Int × Int
def plK (c:PlT):Value:=.agg #[.bool c.1,.int .i64 c.2.1,.int .i64 c.2.2]
theorem zxg (xs:Array Value) (i:Nat) (v:Value) (h:xs[i]?=some v) (w:World):(part 3 xs i).run Tryz.prog w=.ok v w:=by
 simp[part,Tryz.isAgg3,Tryz.sizeOf3,h]
theorem zyx (xs:Array Value) (i:Nat) (v:Value) (h:xs[i]?=some v) (w:World):(part 4 xs i).run Tryz.prog w=.ok v w:=by
 simp[part,Tryz.isAgg4,Tryz.sizeOf4,h]
theorem zyN (a b:PlT) (w:World):(Op.equal 238 (plK a) (plK b)).run Tryz.prog w=.ok (decide (a=b)) w:=by
 have key:∀d,(Op.equalIn (d+2) 238 (plK a) (plK b)).run Tryz.prog w=.ok (decide (a=b)) w:=λd=>by
  have hu:=Tryz.underlying238;have hi:=Tryz.underlying3;have hb:=Tryz.underlying4;have ht:Tryz.prog.underlying 238=some (.struct (Tryz.prog.fieldsOf 238)):=by unfold Program.fieldsOf;rw[hu]
  unfold plK;rw[run_equalIn_struct w (d+1) 238 _ _ ht zk];unfold Program.fieldsOf;rw[hu];simp[go_sem,hi,hb,Op.eqFields];obtain⟨a1,a2,a3⟩:=a;obtain⟨b1,b2,b3⟩:=b;dsimp only
  by_cases h1:a1=b1
  ·by_cases h2:a2=b2
   ·by_cases h3:a3=b3
    ·simp[h1,h2,h3]
    ·simp[h1,h2,h3]
   ·simp[h1,h2]
  ·simp[h1]
 exact key 9998
theorem zwF (a:PlT) (em:Bool) (w:World):(Instr.checkKey em 10000 238 (plK a)).run Tryz.prog w=.ok () w:=by
 have key:∀d,(Instr.checkKey em (d+2) 238 (plK a)).run Tryz.prog w=.ok () w:=λd=>by
  unfold plK;have p0:=λW=>zyx #[.bool a.1,.int .i64 a.2.1,.int .i64 a.2.2] 0 _ rfl W;have p1:=λW=>zxg #[.bool a.1,.int .i64 a.2.1,.int .i64 a.2.2] 1 _ rfl W;have p2:=λW=>zxg #[.bool a.1,.int .i64 a.2.1,.int .i64 a.2.2] 2 _ rfl W;simp[Instr.checkKey,run_underlying Tryz.underlying238,run_underlying Tryz.underlying3,run_underlying Tryz.underlying4,p0,p1,p2]
 exact key 9998
theorem zxy {a b:PlT} (h:plK a=plK b):a=b:=by
 unfold plK at h;obtain⟨a1,a2,a3⟩:=a;obtain⟨b1,b2,b3⟩:=b;simp at h;rw[h.1,h.2.1,h.2.2]
theorem zvW (c:PlT) (w:World):∀(es:List MapEntry) (i:Nat),(∀e∈es,∃k,e.key=plK k)->
 ((Instr.findAsking 238 (plK c) es i).run Tryz.prog w=.ok none w/\∀e∈es,e.key≠plK c)\/∃j e,(Instr.findAsking 238 (plK c) es i).run Tryz.prog w=.ok (some (i+j,e.val)) w/\es[j]?=some e/\e.key=plK c
 |[],i,_=>.inl ⟨by simp[Instr.findAsking],λe h=>by cases h⟩
 |e::es,i,h=>by
  obtain⟨k,hk⟩:=h e List.mem_cons_self;have he:=zyN c k w
  by_cases hck:c=k
  ·subst hck;refine .inr ⟨0,e,?_,rfl,hk⟩;simp[Instr.findAsking,hk,he]
  ·rcases zvW c w es (i+1) (λx hx=>h x (List.mem_cons_of_mem _ hx)) with ⟨h1,h2⟩|⟨j,x,h1,h2,h3⟩
   ·refine .inl ⟨by simp[Instr.findAsking,hk,he,hck,h1],λx hx=>?_⟩;rcases List.mem_cons.1 hx with rfl|hx
    ·rw[hk];exact λe=>hck (zxy e).symm
    ·exact h2 x hx
   ·refine .inr ⟨j+1,x,?_,by simpa using h2,h3⟩;have e1:i+1+j=i+(j+1):=zo
    simp[Instr.findAsking,hk,he,hck,h1,e1]
def MapG (G:PlT->Bool) (w:World) (m:Nat):Prop:=∃es clock,w.heap[m]?=some (.map es clock)/\∀e∈es.toList,∃k,e.key=plK k/\e.val=.bool (G k)
section
variable {G:PlT->Bool} {w w':World} {m:Nat}
theorem MapG.lt (h:MapG G w m):m<w.heap.size:=by
 obtain⟨es,clock,h,_⟩:=h;exact(Array.getElem?_eq_some_iff.1 h).1
theorem MapG.keep (h:MapG G w m) (hk:w'.heap[m]?=w.heap[m]?):MapG G w' m:=by
 obtain⟨es,clock,h,h2⟩:=h;exact⟨es,clock,hk.trans h,h2⟩
theorem MapG.new (G:PlT->Bool) (w:World):MapG G (w.alloc (.map #[] 0)) w.heap.size:=⟨#[],0,heap_alloc_new w _,λe he=>by simp at he⟩
theorem zvh (c:PlT) (es:List MapEntry):(Instr.findKey 238 (plK c) es).run Tryz.prog w=(Instr.findAsking 238 (plK c) es).run Tryz.prog w:=
 run_findKey_eq w (by rw[Tryz.underlying238]) _ _
def zwy (G:PlT->Bool) (w:World) (m:Nat) (c:PlT):Prop:=∃es clock,w.heap[m]?=some (.map es clock)/\(∀e∈es.toList,∃k,e.key=plK k/\e.val=.bool (G k))/\∀e∈es.toList,e.key≠plK c
theorem zwy.keep {c:PlT} (h:zwy G w m c) (hk:w'.heap[m]?=w.heap[m]?):zwy G w' m c:=by
 obtain⟨es,clock,h,h2⟩:=h;exact⟨es,clock,hk.trans h,h2⟩
theorem zxe (h:MapG G w m) (c:PlT):(∀n,(Instr.lookup 122 (.map (some m)) (plK c) true).run Tryz.prog (w.drewN n)=.ok (.tuple #[.bool (G c),.bool true]) (w.drewN n))\/
 (∀n,(Instr.lookup 122 (.map (some m)) (plK c) true).run Tryz.prog (w.drewN n)=.ok (.tuple #[.bool false,.bool false]) (w.drewN n))/\zwy G w m c:=by
 obtain⟨es,clock,hb,h1⟩:=h;have hck:=λem W=>zwF c em W;have hz:=Tryz.zeroValue4;have hT:=Tryz.underlying122;have hb':∀n,(w.drewN n).heap[m]?=some (.map es clock):=λn=>hb
 by_cases hin:∃e∈es.toList,e.key=plK c
 ·refine .inl (λn=>?_);have hfk:=zvh (w:=w.drewN n) c es.toList;rcases zvW c (w.drewN n) es.toList 0 (λe he=>by obtain⟨k,hk,_⟩:=h1 e he;exact⟨k,hk⟩) with ⟨h3,h4⟩|⟨j,e,h3,h4,h5⟩
  ·obtain⟨e,he,hk⟩:=hin;exact absurd hk (h4 e he)
  ·obtain⟨k,hk2,hk3⟩:=h1 e (List.mem_of_getElem? h4);rw[<-zxy (h5.symm.trans hk2)] at hk3;simp[Instr.lookup,run_underlying hT,MapKept.run_getObj_map (hb' n),hck,hfk,h3,hk3]
 ·refine .inr ⟨λn=>?_,es,clock,hb,h1,λe he hk=>hin ⟨e,he,hk⟩⟩;have hfk:=zvh (w:=w.drewN n) c es.toList;rcases zvW c (w.drewN n) es.toList 0 (λe he=>by obtain⟨k,hk,_⟩:=h1 e he;exact⟨k,hk⟩) with ⟨h3,h4⟩|⟨j,e,h3,h4,h5⟩
  ·simp[Instr.lookup,run_underlying hT,MapKept.run_getObj_map (hb' n),hck,hfk,h3,hz]
  ·exact absurd ⟨e,List.mem_of_getElem? h4,h5⟩ hin
theorem zxt {c:PlT} (h:zwy G w m c):∃w',(Instr.mapUpdate 122 (.map (some m)) (plK c) (.bool (G c))).run Tryz.prog w=.ok () w'/\MapG G w' m/\w.grownBy w' (some m)/\w'.heap.size=w.heap.size:=by
 obtain⟨es,clock,hb,h1,hno⟩:=h;have hck:=λem=>zwF c em w;have hT:=Tryz.underlying122;have hfk:=zvh (w:=w) c es.toList
 have hgr:∀o:Obj,w.grownBy {w with heap:=w.heap.setIfInBounds m o} (some m):=λo=>
  ⟨rfl,rfl,rfl,by simp,λj _ hj=>(heap_set hb).2 j (λe=>hj (by rw[e]))⟩
 rcases zvW c w es.toList 0 (λe he=>by obtain⟨k,hk,_⟩:=h1 e he;exact⟨k,hk⟩) with ⟨h3,h4⟩|⟨j,e,h3,h4,h5⟩
 ·refine⟨{w with heap:=w.heap.setIfInBounds m (.map (es.push ⟨plK c,.bool (G c),clock⟩) (clock+1)) },?_,⟨_,_,(heap_set hb).1,?_⟩,hgr _,by simp⟩
  ·simp[Instr.mapUpdate,run_underlying hT,MapKept.run_getObj_map hb,hck,hfk,h3,MapKept.run_setObj_map _ hb]
  ·intro x hx;simp at hx;rcases hx with hx|rfl
   ·exact h1 x (by simpa using hx)
   ·exact⟨c,rfl,rfl⟩
 ·exact absurd h5 (hno e (List.mem_of_getElem? h4))
end
end Go.Proofs.YtcebmphappfjjaaGreatDoor
set_option maxHeartbeats 32000000
set_option maxRecDepth 100000
namespace Go.Proofs.YtcebmphappfjjaaGreatDoor
open Go.RowKit
inductive V where
 |mk (kind:Int) (t:ByteArray) (n m:Int) (s:ByteArray) (l:List V)
namespace V
def kind:V->Int|.mk k _ _ _ _ _=>k
def t:V->ByteArray|.mk _ t _ _ _ _=>t
def n:V->Int|.mk _ _ n _ _ _=>n
def m:V->Int|.mk _ _ _ m _ _=>m
def s:V->ByteArray|.mk _ _ _ _ s _=>s
def l:V->List V|.mk _ _ _ _ _ l=>l
end V
def fld6 (k:Int) (t:ByteArray) (n m:Int) (s:ByteArray) (d:D):Nat->D
 |0=>.num .i64 k
 |1=>.str t
 |2=>.num .i64 n
 |3=>.num .i64 m
 |4=>.str s
 |_=>d
mutual
def V.row:V->Nat->D
 |.mk k t n m s l=>fld6 k t n m s (.sl 6 l.length (zgZ l))
def zgZ:List V->Nat->Nat->D
 |[],_,_=>.bool false
 |v::r,i,j=>match i with
  |0=>v.row j
  |i+1=>zgZ r i j
end
def vs (l:List V):D:=.sl 6 l.length (zgZ l)
theorem zeU:∀(l:List V) (i:Nat) (v:V),l[i]?=some v->zgZ l i=v.row
 |[],i,v,h=>by simp at h
 |x::r,0,v,h=>by simp at h;subst h;funext j;rfl
 |x::r,i+1,v,h=>by
  have:=zeU r i v (by simpa using h)
  funext j
  show zgZ r i j=_
  rw[this]
mutual
def V.bulk:V->Nat
 |.mk _ t _ _ s l=>7+t.size+s.size+zcl l
def zcl:List V->Nat
 |[]=>0
 |v::r=>v.bulk+zcl r
end
theorem zbv (k:Int) (t:ByteArray) (n m:Int) (s:ByteArray) (l:List V):(V.mk k t n m s l).bulk=7+t.size+s.size+zcl l:=by rw[V.bulk]
theorem zbK (v:V) (r:List V):zcl (v::r)=v.bulk+zcl r:=by rw[zcl]
theorem zeK:∀(l:List V) (i:Nat) (v:V),l[i]?=some v->v.bulk<=zcl l
 |[],i,v,h=>by simp at h
 |x::r,0,v,h=>by simp at h;subst h;rw[zbK];omega
 |x::r,i+1,v,h=>by
  have:=zeK r i v (by simpa using h);rw[zbK];omega
theorem zdB:∀l:List V,7*l.length<=zcl l
 |[]=>by simp
 |.mk k t n m s l::r=>by
  have:=zdB r;rw[zbK,zbv,List.length_cons];omega
mutual
theorem zpz:∀(v:V) (j:Nat),ztk (v.row j)
 |.mk k t n m s l,0=>by rw[V.row];trivial
 |.mk k t n m s l,1=>by rw[V.row];trivial
 |.mk k t n m s l,2=>by rw[V.row];trivial
 |.mk k t n m s l,3=>by rw[V.row];trivial
 |.mk k t n m s l,4=>by rw[V.row];trivial
 |.mk k t n m s l,j+5=>by rw[V.row];exact⟨zo,λi _ j _=>ziJ l i j⟩
theorem ziJ:∀(l:List V) (i j:Nat),ztk (zgZ l i j)
 |[],i,j=>by rw[zgZ];trivial
 |v::r,0,j=>by rw[zgZ];exact zpz v j
 |v::r,i+1,j=>by rw[zgZ];exact ziJ r i j
end
section
variable {ok:Nat->Prop} {w:World}
def VAt (ok:Nat->Prop) (w:World) (b o:Nat) (k:Int) (t:ByteArray) (n m:Int) (s:ByteArray) (l:List V) (A:Option Addr) (c:Nat):Prop:=
 w.cell? ⟨b,o,none⟩=some (.int .i64 k)/\w.cell? ⟨b,o+1,none⟩=some (.string t)/\w.cell? ⟨b,o+2,none⟩=some (.int .i64 n)/\w.cell? ⟨b,o+3,none⟩=some (.int .i64 m)/\w.cell? ⟨b,o+4,none⟩=some (.string s)/\w.cell? ⟨b,o+5,none⟩=some (.slice A l.length c)/\Rd ok w (vs l) (.slice A l.length c)
theorem zoW {b o:Nat} {k n m:Int} {t s:ByteArray} {l:List V} (h:zcI ok w b o 6 (V.mk k t n m s l).row):∃A c,VAt ok w b o k t n m s l A c:=by
 rw[V.row] at h;obtain⟨u0,c0,r0⟩:=h 0 zo;obtain⟨u1,c1,r1⟩:=h 1 zo;obtain⟨u2,c2,r2⟩:=h 2 zo;obtain⟨u3,c3,r3⟩:=h 3 zo;obtain⟨u4,c4,r4⟩:=h 4 zo;obtain⟨u5,c5,r5⟩:=h 5 zo;have e0:u0=↑k:=r0;have e1:u1=↑t:=r1;have e2:u2=↑n:=r2;have e3:u3=↑m:=r3;have e4:u4=↑s:=r4;have r5':Rd ok w (vs l) u5:=r5;obtain⟨A,c,e5,_⟩:=r5'.sl_inv;subst e0 e1 e2 e3 e4 e5;exact⟨A,c,c0,c1,c2,c3,c4,c5,r5'⟩
theorem zpU {k n m:Int} {t s:ByteArray} {l:List V} {A:Option Addr} {c:Nat} (h:Rd ok w (vs l) (.slice A l.length c)) :
 ∀(j:Nat) (u:Value),[Value.int .i64 k,↑t,↑n,↑m,↑s,.slice A l.length c][j]?=some u->Rd ok w ((V.mk k t n m s l).row j) u:=by
 intro j u hj;rw[V.row]
 match j with
 |0=>simp at hj;subst hj;rfl
 |1=>simp at hj;subst hj;rfl
 |2=>simp at hj;subst hj;rfl
 |3=>simp at hj;subst hj;rfl
 |4=>simp at hj;subst hj;rfl
 |5=>simp at hj;subst hj;exact h
 |j+6=>simp at hj
theorem zrO {l:List V} {A:Option Addr} {n c:Nat} (h:Rd ok w (vs l) (.slice A n c)) {i:Nat} (hi:i<n) :
 ∃b off k t n' m s l' A' c',A=some ⟨b,off,none⟩/\ok b/\l[i]?=some (.mk k t n' m s l')/\VAt ok w b (off+i*6) k t n' m s l' A' c':=by
 obtain⟨A0,c0,e,_,_,h3⟩:=h.sl_inv;injection e with e1 e2 e3;subst e1 e2;obtain⟨b,off,rfl,hb,hr⟩:=h3 zo;have hv:l[i]?=some l[i]:=List.getElem?_eq_getElem hi;have h1:=hr i hi;rw[zeU l i _ hv] at h1;cases hx:l[i] with
 |mk k t n' m s l'=>
  rw[hx] at h1 hv;obtain⟨A',c',h2⟩:=zoW h1;exact⟨b,off,k,t,n',m,s,l',A',c',rfl,hb,hv,h2⟩
theorem zno {l:List V} {A:Option Addr} {n c:Nat} (h:Rd ok w (vs l) (.slice A n c)):n=l.length/\n<=c/\c<=9223372036854775807:=by
 obtain⟨A0,c0,e,h1,h2,_⟩:=h.sl_inv;injection e with e1 e2 e3;subst e1 e2 e3;exact⟨rfl,h1,h2⟩
end
mutual
def zcf:V->Nat
 |.mk _ _ _ _ _ l=>1+zbl l
def zbl:List V->Nat
 |[]=>0
 |v::r=>zcf v+zbl r
end
theorem zjd:∀l:List V,l.length<=zbl l
 |[]=>Nat.le_refl _
 |.mk k t n m s l::r=>by have:=zjd r;rw[zbl,zcf,List.length_cons];omega
theorem zcw (s:ByteArray) (k:Nat):(s.extract k s.size).data.toList=s.data.toList.drop k:=by
 rw[ByteArray.data_extract,Array.toList_extract,List.extract_eq_take_drop,List.take_of_length_le];rw[List.length_drop,zai];exact Nat.le_refl _
theorem zgO (s:ByteArray) (k:Nat):(s.extract 0 k).data.toList=s.data.toList.take k:=by
 rw[ByteArray.data_extract,Array.toList_extract,List.extract_eq_take_drop];simp
end Go.Proofs.YtcebmphappfjjaaGreatDoor
set_option maxHeartbeats 32000000
set_option maxRecDepth 100000
namespace Go.Proofs.YtcebmphappfjjaaGreatDoor
def elT (y:Ty):Ty:=y.args.headD Ty.zero
def zyr (pp:Prg) (k:Int) (t:ByteArray) (n:Int):Option (List Ty):=match zqM pp t with
 |none=>none
 |some i=>match pp.types[i]? with
  |none=>none
  |some d=>if k=(if d.record then 6 else 7) then (d.ctors[n.toNat]?).map (λc=>c.fields.map Fld.ty) else none
def zvx:List Ty->List Ty->Bool
 |[],_=>true
 |_::_,[]=>true
 |a::r,b::r'=>zuF a b&&zvx r r'
def fFun (pp:Prg) (n:Int) (cap:Nat) (y:Ty):Option (List Ty):=match pp.funs[n.toNat]? with
 |none=>none
 |some f=>if (decide (f.params.length+1=cap+y.args.length)&&(zuF f.result (y.args.getLastD Ty.zero)&&zvx ((f.params.drop cap).map Fld.ty) y.args))=true then some (f.params.map Fld.ty) else none
mutual
def fitV (pp:Prg):V->Ty->Bool
 |.mk k t n _ _ l,y=>
  if y.kind=1 then k == 1 else if y.kind=2 then k == 2 else if y.kind=3 then k == 3 || k == 10 else if y.kind=4 then k == 4
  else if y.kind=7 then k == 8&&decide (t=y.name)
  else if y.kind=6 then decide (t=y.name)&&(match zyr pp k t n with
   |none=>false
   |some ts=>decide (l.length=ts.length)&&zuP pp l ts)
  else if y.kind=8 then k == 9&&(match fFun pp n l.length y with
   |none=>false
   |some ts=>zuP pp l ts)
  else k == 5&&zuU pp l (elT y)
def zuP (pp:Prg):List V->List Ty->Bool
 |[],_=>true
 |_::_,[]=>false
 |v::r,t::ts=>fitV pp v t&&zuP pp r ts
def zuU (pp:Prg):List V->Ty->Bool
 |[],_=>true
 |v::r,t=>fitV pp v t&&zuU pp r t
end
theorem zvJ (pp:Prg):∀(l:List V) (ts:List Ty),ts.length<l.length->zuP pp l ts=false
 |[],ts,h=>by simp at h
 |v::r,[],_=>by rw[zuP]
 |v::r,t::ts,h=>by
  rw[zuP,zvJ pp r ts (by simpa using h)];simp
theorem zvG (pp:Prg) {l:List V} {ts:List Ty} {i:Nat} {v:V} {t:Ty} (hv:l[i]?=some v) (ht:ts[i]?=some t):zuP pp (l.drop i) (ts.drop i)=(fitV pp v t&&zuP pp (l.drop (i+1)) (ts.drop (i+1))):=by
 obtain⟨h1,rfl⟩:=List.getElem?_eq_some_iff.1 hv;obtain⟨h2,rfl⟩:=List.getElem?_eq_some_iff.1 ht;rw[List.drop_eq_getElem_cons h1,List.drop_eq_getElem_cons h2,zuP]
theorem zww (pp:Prg) {l:List V} {i:Nat} {v:V} {t:Ty} (hv:l[i]?=some v):zuU pp (l.drop i) t=(fitV pp v t&&zuU pp (l.drop (i+1)) t):=by
 obtain⟨h1,rfl⟩:=List.getElem?_eq_some_iff.1 hv;rw[List.drop_eq_getElem_cons h1,zuU]
theorem zwh (pp:Prg) (ts:List Ty):zuP pp [] ts=true:=by rw[zuP]
theorem zwU (pp:Prg) (t:Ty):zuU pp [] t=true:=by rw[zuU]
end Go.Proofs.YtcebmphappfjjaaGreatDoor
set_option maxHeartbeats 32000000
set_option maxRecDepth 100000
namespace Go.Proofs.YtcebmphappfjjaaGreatDoor
theorem zje (x:ByteArray) (r:List ByteArray) (s:ByteArray):zft (x::r) s=if x=s then some 0 else (zft r s).map (·+1):=by
 unfold zft;rw[List.findIdx?_cons]
 by_cases h:x=s<;>simp[h]
theorem ziI:∀{l:List ByteArray} {s:ByteArray},s∉l->zft l s=none
 |[],s,_=>rfl
 |x::r,s,h=>by
  rw[List.mem_cons,not_or] at h;rw[zje,if_neg (λe=>h.1 e.symm),ziI h.2];rfl
structure zul (n:Nd) (t:Ty):Prop where
 read:zjC n=some t
 formed:zdT t=true
 decl:∀(p:Prg) (ts acs:List ByteArray),(∀s,memB s ts=true->(zqM p s).isSome=true)->(∀s,memB s acs=true->(zkt p s).isSome=true)->zbA ts acs n=none->zch p t=true
structure zsH (l:List Nd) (t:List Ty):Prop where
 read:zgD l=some t
 len:t.length=l.length
 formed:zcp t=true
 decl:∀(p:Prg) (ts acs:List ByteArray),(∀s,memB s ts=true->(zqM p s).isSome=true)->(∀s,memB s acs=true->(zkt p s).isSome=true)->zbg ts acs l=none->zaT p t=true
theorem zul.cons {n:Nd} {l:List Nd} {t:Ty} {r:List Ty} (h:zul n t) (k:zsH l r):zsH (n::l) (t::r):=by
 refine⟨?_,by simp[k.len],?_,λp ts acs h1 h2 h3=>?_⟩
 ·rw[zgD,h.read];simp only;rw[k.read]
 ·rw[zcp,h.formed,k.formed];rfl
 ·rw[zbg] at h3;rw[zaT];cases hu:zbA ts acs n with
  |some a=>rw[hu] at h3;cases h3
  |none=>rw[hu] at h3;rw[h.decl p ts acs h1 h2 hu,k.decl p ts acs h1 h2 h3];rfl
section
variable {p:Prg} {ts acs:List ByteArray} (hts:∀s,memB s ts=true->(zqM p s).isSome=true) (has:∀s,memB s acs=true->(zkt p s).isSome=true)
include hts has
end
end Go.Proofs.YtcebmphappfjjaaGreatDoor
