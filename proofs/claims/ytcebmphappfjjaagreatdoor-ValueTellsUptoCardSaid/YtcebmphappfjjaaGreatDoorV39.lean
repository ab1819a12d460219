/- Conditions: those in each statement. -/
import Derived.Test.YtcebmphappfjjaaGreatDoorV36
import Derived.Test.YtcebmphappfjjaaGreatDoorV37
import Derived.Test.YtcebmphappfjjaaGreatDoorV38
import Derived.Test.YtcebmphappfjjaaGreatDoorV26
import Derived.Test.YtcebmphappfjjaaGreatDoorV35
import Derived.Test.YtcebmphappfjjaaGreatDoorV01
import Derived.Deep.RegionWith
import Derived.Test.YtcebmphappfjjaaGreatDoorV25
import Derived.Test.YtcebmphappfjjaaGreatDoorV06
import Derived.Test.YtcebmphappfjjaaGreatDoorV04
set_option maxHeartbeats 32000000
set_option maxRecDepth 100000
namespace Go.Proofs.YtcebmphappfjjaaGreatDoor
open Go.RowKit
abbrev agV (v:V) (A:Option Addr) (c:Nat):Value:=.agg #[.int .i64 v.kind,.string v.t,.int .i64 v.n,.int .i64 v.m,.string v.s,.slice A v.l.length c]
def zyP (o:Option (V × Nat × List UInt8)) (w:World) (e:Ending) (w':World):Prop:=Below w.heap.size w w'/\
 match o with
 |some (v,q,r)=>∃b A c,e=.returned (.tuple #[agV v A c,.func (.func 86) #[.pointer (some ⟨b,0,none⟩)] #[],.bool true])/\Vp w' b r q/\Rd (Bt w.heap.size w'.heap.size) w' (vs v.l) (.slice A v.l.length c)
 |none=>∃k t n m s A ln c x,e=.returned (.tuple #[.agg #[.int .i64 k,.string t,.int .i64 n,.int .i64 m,.string s,.slice A ln c],x,.bool false])
theorem zeh {P:Program} {fn:Func} {p q q2:Tmp} {ty:TypeId} (h:fn.results=#[.cell p ty,.tmp q,.tmp q2]) (tmps:Array Value) (w:World) (g:Nat) (t:TypeId) (cs:Array Value) (fr:Nat × Nat) (d:TypeDesc)
 (hp:tmps.getD p undef=.pointer (some ⟨g,0,none⟩)) (hg:w.heap[g]?=some (.cells cs t fr))
 (hu:P.underlying ty=some d) (hd:(match d with|.struct _|.array _ _=>true|_=>false)=true) (hi:(P.info? ty).map (·.size)=some cs.size) :
 (results fn tmps).run P w=.ok (.tuple #[.agg cs,tmps.getD q undef,tmps.getD q2 undef]) w:=by
 have hp':tmps[p]?.getD undef=.pointer (some ⟨g,0,none⟩):=by simpa using hp
 simp[results,h,hp',asAddr,run_loadVar_row w g t ty cs fr d hg hu hd hi]
theorem low6 {w W:World} (h:Below w.heap.size w W) (a0 a1 a2 a3 a4 a5:Value):Below w.heap.size w ((((((W.setCell ⟨w.heap.size,0,none⟩ (a0)).setCell ⟨w.heap.size,1,none⟩ (a1)).setCell ⟨w.heap.size,2,none⟩ (a2)).setCell ⟨w.heap.size,3,none⟩ (a3)).setCell ⟨w.heap.size,4,none⟩ (a4)).setCell ⟨w.heap.size,5,none⟩ (a5)):=
 (((((h.setCell (p:=⟨w.heap.size,0,none⟩) (Nat.le_refl _) a0).setCell (p:=⟨w.heap.size,1,none⟩) (Nat.le_refl _) a1).setCell (p:=⟨w.heap.size,2,none⟩) (Nat.le_refl _) a2).setCell (p:=⟨w.heap.size,3,none⟩) (Nat.le_refl _) a3).setCell (p:=⟨w.heap.size,4,none⟩) (Nat.le_refl _) a4).setCell (p:=⟨w.heap.size,5,none⟩) (Nat.le_refl _) a5
theorem zoP (s:ByteArray) (w:World) (hs:s.size<=2097152):Calls Tryz.prog 47 #[↑s] w (zyP (zmt (bl s)) w):=by
 obtain⟨w1,hw1⟩:∃W,w.alloc (.cells #[↑(),↑zj.a,↑(),↑(),↑zj.a,.slice none 0 0] 24)=W:=⟨_,rfl⟩;have b1:Below w.heap.size w w1:=hw1▸zag w _;have c1:zab w1 w.heap.size #[↑(),↑zj.a,↑(),↑(),↑zj.a,.slice none 0 0] 24:=hw1▸zab.new w _ _;have z1:w1.heap.size=w.heap.size+1:=by rw[<-hw1];simp
 obtain⟨w2,hw2⟩:=zn (w1.alloc (.cells #[↑s,↑(),.int .i64 16384] 129));have b2:Below w1.heap.size w1 w2:=hw2▸zag w1 _;have c2:zab w2 w1.heap.size #[↑s,↑(),.int .i64 16384] 129:=hw2▸zab.new w1 _ _;have hv:Vp w2 w1.heap.size (bl s) 16384:=by exact⟨s,0,List.drop_zero,c2,Nat.zero_le _,hs,Nat.le_refl _⟩
 have KV:=zz (zqD 100000 w1.heap.size w2 (bl s) 16384 zo hv);have HB2:=zz (zac b1 b2 b1.size);have HC:=zz (zaa b2 c1);have HZ:=zz z1;have HZ2:=zz c2.lt;have hsc:zmt (bl s)=valL intL 100000 16384 (bl s):=rfl;obtain⟨O,hO⟩:=zn (valL intL 100000 16384 (bl s));rw[hO] at hsc KV;rw[hsc];clear b1 c1 b2 c2 hv hO hsc z1;go_in;go_wp2_with fail
 with_reducible refine KV.out.mono ?_
 rintro e w3 ⟨hc,hq⟩;have hsz:=HZ.out;have hsz2:=HZ2.out;have hb3:Below w.heap.size w w3:=⟨hc.os.trans HB2.out.os,hc.tape.trans HB2.out.tape,hc.output.trans HB2.out.output,Nat.le_trans HB2.out.size hc.size,λk hk=>(hc.block k zo zo).trans (HB2.out.block k hk)⟩;have HB3:=zz hb3;have C3:=zz (HC.out.keep hc zo);have h3:w.heap.size+2<=w3.heap.size:=by have:=hc.size;omega
 clear hc hb3 hw1 hw2 hsz hsz2;cases O with
 |none=>
  obtain⟨k,t,n,m,s',A,ln,c,rfl⟩:=hq;have hA:=zag w3 (.cells #[↑k,↑t,↑n,↑m,↑s',.slice A ln c] 24);have HA:=zz (zac HB3.out hA HB3.out.size);have C4:=zaa hA C3.out;obtain⟨w4,hw4⟩:=zn (w3.alloc (.cells #[↑k,↑t,↑n,↑m,↑s',.slice A ln c] 24));rw[hw4] at HA C4;have y:=zab.new w3 #[↑k,↑t,↑n,↑m,↑s',.slice A ln c] 24;rw[hw4] at y;have y0:=y.a 0 rfl;have y1:=y.a 1 rfl;have y2:=y.a 2 rfl;have y3:=y.a 3 rfl;have y4:=y.a 4 rfl;have y5:=y.a 5 rfl;have z0:=C4.a 0 rfl;have z1:=C4.a 1 rfl;have z2:=C4.a 2 rfl;have z3:=C4.a 3 rfl;have z4:=C4.a 4 rfl;have z5:=C4.a 5 rfl;have zf:=C4.fz;have HC4:=zz C4;clear C4 y;go_wp2_with fail;refine bodyPost_ret (zeh (q:=3) (q2:=4) zr _ _ w.heap.size _ _ (0,0) _ rfl (zhz _ _ _ _ _ _ HC4.out) Tryz.underlying24 rfl zkU) rfl ⟨low6 HA.out _ _ _ _ _ _,_,_,_,_,_,_,_,_,_,rfl⟩
 |some p=>
  obtain⟨x,q,r⟩:=p;obtain⟨hv3,A,c,rfl,hrd⟩:=hq;have hA:=zag w3 (.cells #[↑x.kind,↑x.t,↑x.n,↑x.m,↑x.s,.slice A x.l.length c] 24);have HA:=zz (zac HB3.out hA HB3.out.size);have C4:=zaa hA C3.out;have HV4:=zz (hv3.chg (M:=λ_=>False) (Chg.of_below hA) (λh=>h));have HR4:=zz (hrd.below hA (λb hb=>hb.2));have hsz4:w3.heap.size<(w3.alloc (.cells #[↑x.kind,↑x.t,↑x.n,↑x.m,↑x.s,.slice A x.l.length c] 24)).heap.size:=by simp
  obtain⟨w4,hw4⟩:=zn (w3.alloc (.cells #[↑x.kind,↑x.t,↑x.n,↑x.m,↑x.s,.slice A x.l.length c] 24));rw[hw4] at HA C4 HV4 HR4 hsz4;have y:=zab.new w3 #[↑x.kind,↑x.t,↑x.n,↑x.m,↑x.s,.slice A x.l.length c] 24;rw[hw4] at y;have y0:=y.a 0 rfl;have y1:=y.a 1 rfl;have y2:=y.a 2 rfl;have y3:=y.a 3 rfl;have y4:=y.a 4 rfl;have y5:=y.a 5 rfl;have z0:=C4.a 0 rfl;have z1:=C4.a 1 rfl;have z2:=C4.a 2 rfl;have z3:=C4.a 3 rfl;have z4:=C4.a 4 rfl;have z5:=C4.a 5 rfl;have zf:=C4.fz;have HC4:=zz C4;have HS4:=zz hsz4;have HZ3:=zz HZ2.out;clear C4 y hv3 hrd hsz4;go_wp2_with fail;have hc1:=zlJ (w:=w4) (g:=w.heap.size) ↑x.kind ↑x.t ↑x.n ↑x.m ↑x.s (.slice A x.l.length c);have h9:=HZ3.out;have h10:=HS4.out;have h11:=HZ.out;refine bodyPost_ret (zeh (q:=3) (q2:=4) zr _ _ w.heap.size _ _ (0,0) _ rfl (zhz _ _ _ _ _ _ HC4.out) Tryz.underlying24 rfl zkU) rfl ⟨low6 HA.out _ _ _ _ _ _,_,A,c,rfl,HV4.out.chg hc1 zo,?_⟩;have hr:=hc1.rd (ok:=Bt w2.heap.size w3.heap.size) (λb hb=>⟨by have:=hb.2;omega,by have:=hb.1;have:=HZ.out;omega⟩) HR4.out;exact hr.weaken (λb hb=>⟨by have:=hb.1;have:=HZ.out;omega,by have:=hb.2;have:=hc1.size;omega⟩)
def zlv (o:V × Bool) (w:World) (e:Ending) (w':World):Prop:=Below w.heap.size w w'/\∃A c,e=.returned (.tuple #[agV o.1 A c,.bool o.2])/\Rd (Bt w.heap.size w'.heap.size) w' (vs o.1.l) (.slice A o.1.l.length c)
theorem zeO {w W:World} {v:V} {A:Option Addr} {c:Nat} {bo:Bool} (hB:Below w.heap.size w W) (hz:zab W w.heap.size #[↑(),↑zj.a,↑(),↑(),↑zj.a,.slice none 0 0] 24) (hrd:Rd (Bt (w.heap.size+1) W.heap.size) W (vs v.l) (.slice A v.l.length c)) {a:Act}
 (h4:a.tmps.getD 2 undef=.pointer (some ⟨w.heap.size,0,none⟩)) (h5:a.tmps.getD 3 undef=↑bo) (hd:a.defers=[]) :
 bodyPost Tryz.prog Tryz.f11 (zlv (v,bo) w) Exit.ret a ((((((W.setCell ⟨w.heap.size,0,none⟩ ↑v.kind).setCell ⟨w.heap.size,1,none⟩ ↑v.t).setCell ⟨w.heap.size,2,none⟩ ↑v.n).setCell ⟨w.heap.size,3,none⟩ ↑v.m).setCell ⟨w.heap.size,4,none⟩ ↑v.s).setCell ⟨w.heap.size,5,none⟩ (.slice A v.l.length c)):=by
 have:=zah Tryz.results11 a.tmps _ w.heap.size _ _ (0,0) _ h4 (zhz ↑v.kind ↑v.t ↑v.n ↑v.m ↑v.s (.slice A v.l.length c) hz) Tryz.underlying24 rfl zkU;rw[h5] at this;have hc1:=zlJ (w:=W) (g:=w.heap.size) ↑v.kind ↑v.t ↑v.n ↑v.m ↑v.s (.slice A v.l.length c);have h1:=hc1.rd (ok:=Bt (w.heap.size+1) W.heap.size) (λb hb=>⟨hb.2,by have:=hb.1;omega⟩) hrd;exact bodyPost_ret this hd ⟨low6 hB _ _ _ _ _ _,A,c,rfl,h1.weaken (λb hb=>⟨by have:=hb.1;omega,Nat.lt_of_lt_of_le hb.2 hc1.size⟩)⟩
theorem ztT (s:ByteArray) (w:World) (hs:s.size<=1048576) (hT:Tab w.heap.size w):Calls Tryz.prog 11 #[↑s] w (zlv (zeR s) w):=by
 obtain⟨w1,hw1⟩:∃W,w.alloc (.cells #[↑(),↑zj.a,↑(),↑(),↑zj.a,.slice none 0 0] 24)=W:=⟨_,rfl⟩;have b1:Below w.heap.size w w1:=hw1▸zag w _;have c1:zab w1 w.heap.size #[↑(),↑zj.a,↑(),↑(),↑zj.a,.slice none 0 0] 24:=hw1▸zab.new w _ _;have hl1:w.heap.size<w1.heap.size:=c1.lt;have KS:=zz (zoP s w1 zo);have HC:=zz c1;have HB1:=zz b1;have HT:=zz hT;obtain⟨O,hO⟩:=zn (zmt (bl s));rw[hO] at KS;have HO:=zz hO;clear b1 c1 hT hO;go_in;go_wp2_with fail
 with_reducible refine KS.out.mono ?_
 rintro e w3 ⟨hb3,hq⟩;have HB3:=zz (zac HB1.out hb3 HB1.out.size);have C3:=zz (zaa hb3 HC.out);have h3:w.heap.size<w3.heap.size:=Nat.lt_of_lt_of_le hl1 hb3.size;have hl3:=hb3.size;clear hb3 hw1;cases O with
 |none=>
  obtain⟨k,t,n,m,s',A,ln,c,x,rfl⟩:=hq;have HN:Hid (zeR s=(vZ,false)):=zz (zhI (λv q h=>by rw[HO.out] at h;cases h));have hA:=zag w3 (.cells #[↑k,↑t,↑n,↑m,↑s',.slice A ln c] 24);obtain⟨w4,hw4⟩:=zn (w3.alloc (.cells #[↑k,↑t,↑n,↑m,↑s',.slice A ln c] 24));rw[hw4] at hA;have HA:=zz (zac HB3.out hA HB3.out.size);have C4:=zaa hA C3.out;have z0:=C4.a 0 rfl;have z1:=C4.a 1 rfl;have z2:=C4.a 2 rfl;have z3:=C4.a 3 rfl;have z4:=C4.a 4 rfl;have z5:=C4.a 5 rfl;have zf:=C4.fz;have HC4:=zz C4;clear C4 hA;go_wp2_with fail;rw[HN.out];exact zeO (v:=vZ) HA.out HC4.out Rd.sl_nil rfl rfl rfl
 |some p=>
  obtain⟨x,q,r⟩:=p;obtain⟨b,A,c,rfl,hv3,hrd⟩:=hq;have hbk:=zqo HO.out;have hbs:(bl s).length=s.size:=zai s;have hbk:x.bulk<=2097152:=zo
  obtain⟨k,t,n,m,s',l⟩:=x;replace hrd:Rd (Bt w1.heap.size w3.heap.size) w3 (vs l) (.slice A l.length c):=hrd;obtain⟨w4,hw4,hA,hy⟩:=zaj w3 #[↑k,↑t,↑n,↑m,↑s',.slice A l.length c] 24;have HA:=zz (zac HB3.out hA HB3.out.size);have C4:=zz (zaa hA C3.out);have hv4:=hv3.chg (M:=λ_=>False) (Chg.of_below hA) (λh=>h);have KR:=zz (zsx b w4 r q hv4);have HR4:=zz (hrd.below hA (λb hb=>hb.2));have HY:=zz hy;have HW34:=zz hA.size;dsimp only[agV,V.kind,V.t,V.n,V.m,V.s,V.l];clear hA hv4 hv3 hrd hy hbs
  by_cases hr0:r=[]
  ·subst hr0;have HO2:Hid (zeR s=if (zfN (.mk k t n m s' l)&&(zoQ (.mk k t n m s' l)).toList == s.toList)=true then (.mk k t n m s' l,true) else (vZ,false)):=zz (zlL HO.out);go_wp2_with fail;refine KR.out.mono ?_;rintro e w5 ⟨rfl,hb5⟩;have HA5:=zz (zac HA.out hb5 HA.out.size);have C5:=zz (zaa hb5 C4.out);have hy5:=zaa hb5 HY.out;have HY5:=zz hy5;have HR5:=zz ((HR4.out.weaken (ok':=Bt w1.heap.size w4.heap.size) (λb hb=>⟨hb.1,Nat.lt_of_lt_of_le hb.2 HW34.out⟩)).below hb5 (λb hb=>hb.2));have HW45:=zz hb5.size;have KP:=zz (zhy k t n m s' l A c w5 hbk (HR5.out.weaken (λb hb=>Nat.lt_of_lt_of_le hb.2 HW45.out)));have u0:=HY5.out.a 0 rfl;have u1:=HY5.out.a 1 rfl;have u2:=HY5.out.a 2 rfl;have u3:=HY5.out.a 3 rfl;have u4:=HY5.out.a 4 rfl;have u5:=HY5.out.a 5 rfl;clear hb5 hy5;cases hp:zfN (.mk k t n m s' l) with
   |false=>
    rw[hp] at KP HO2;have HN:Hid (zeR s=(vZ,false)):=HO2;clear hp HO2;go_wp2_with fail;refine KP.out.mono ?_;rintro e w6 ⟨rfl,hb6⟩;have HA6:=zz (zac HA5.out hb6 HA5.out.size);have C6:=zaa hb6 C5.out;have HC6:=zz C6;have z0:=C6.a 0 rfl;have z1:=C6.a 1 rfl;have z2:=C6.a 2 rfl;have z3:=C6.a 3 rfl;have z4:=C6.a 4 rfl;have z5:=C6.a 5 rfl;have zf:=C6.fz;clear hb6 C6 HC C3 C4 C5;go_wp2_with fail;rw[HN.out];exact zeO (v:=vZ) HA6.out HC6.out Rd.sl_nil rfl rfl rfl
   |true=>
    rw[hp] at KP HO2;clear hp;go_wp2_with fail;refine KP.out.mono ?_;rintro e w6 ⟨rfl,hb6⟩;have HA6:=zz (zac HA5.out hb6 HA5.out.size);have C6:=zz (zaa hb6 C5.out);have HY6:=zz (zaa hb6 HY5.out);have HR6:=zz ((HR5.out.weaken (ok':=Bt w1.heap.size w5.heap.size) (λb hb=>⟨hb.1,Nat.lt_of_lt_of_le hb.2 HW45.out⟩)).below hb6 (λb hb=>hb.2));have HW56:=zz hb6.size;have KH:=zz (zqB k t n m s' l A c w6 hbk (λW hW=>HT.out W (HA6.out.trans (hW.mono HA6.out.size))) (HR6.out.weaken (λb hb=>Nat.lt_of_lt_of_le hb.2 HW56.out)));have v0:=HY6.out.a 0 rfl;have v1:=HY6.out.a 1 rfl;have v2:=HY6.out.a 2 rfl;have v3:=HY6.out.a 3 rfl;have v4:=HY6.out.a 4 rfl;have v5:=HY6.out.a 5 rfl;clear hb6 u0 u1 u2 u3 u4 u5;obtain⟨sh,hsh⟩:=zn (zoQ (.mk k t n m s' l));rw[hsh] at KH HO2;clear hsh;cases he:(sh.toList == s.toList) with
    |false=>
     rw[he] at HO2;have HN:Hid (zeR s=(vZ,false)):=HO2;clear HO2;go_wp2_with fail;refine KH.out.mono ?_;rintro e w7 ⟨rfl,hb7⟩;have HA7:=zz (zac HA6.out hb7 HA6.out.size);have C7:=zaa hb7 C6.out;have HC7:=zz C7;have z0:=C7.a 0 rfl;have z1:=C7.a 1 rfl;have z2:=C7.a 2 rfl;have z3:=C7.a 3 rfl;have z4:=C7.a 4 rfl;have z5:=C7.a 5 rfl;have zf:=C7.fz;clear hb7 C7 HC C3 C4 C5 C6;go_wp2_with fail;rw[HN.out];exact zeO (v:=vZ) HA7.out HC7.out Rd.sl_nil rfl rfl rfl
    |true=>
     rw[he] at HO2;have HN:Hid (zeR s=(.mk k t n m s' l,true)):=HO2;clear HO2;go_wp2_with fail;refine KH.out.mono ?_;rintro e w7 ⟨rfl,hb7⟩;have HA7:=zz (zac HA6.out hb7 HA6.out.size);have C7:=zaa hb7 C6.out;have HC7:=zz C7;have hy7:=zaa hb7 HY6.out;have HR7:=zz ((HR6.out.weaken (ok':=Bt w1.heap.size w6.heap.size) (λb hb=>⟨hb.1,Nat.lt_of_lt_of_le hb.2 HW56.out⟩)).below hb7 (λb hb=>hb.2));have HW67:=zz hb7.size;have t0:=hy7.a 0 rfl;have t1:=hy7.a 1 rfl;have t2:=hy7.a 2 rfl;have t3:=hy7.a 3 rfl;have t4:=hy7.a 4 rfl;have t5:=hy7.a 5 rfl;have z0:=C7.a 0 rfl;have z1:=C7.a 1 rfl;have z2:=C7.a 2 rfl;have z3:=C7.a 3 rfl;have z4:=C7.a 4 rfl;have z5:=C7.a 5 rfl;have zf:=C7.fz;clear hb7 C7 HC C3 C4 C5 C6 hy7 v0 v1 v2 v3 v4 v5;go_wp2_with fail;rw[HN.out];exact zeO (v:=.mk k t n m s' l) HA7.out HC7.out (HR7.out.weaken (λb hb=>⟨by have:=hb.1;omega,Nat.lt_of_lt_of_le hb.2 HW67.out⟩)) rfl rfl rfl
  ·have HN:Hid (zeR s=(vZ,false)):=zz (zhI (λv q' h=>by rw[HO.out] at h;injection h with h;injection h with h1 h2;injection h2 with h2 h3;exact hr0 h3))
   have hne:¬(lb r).toList=[]:=λh=>by
    rw[ByteArray.toList_eq] at h;simp at h;exact hr0 h
   have hemp:(lb r).toList.isEmpty=false:=by simpa using hne
   have hz4:=C4.out;have z0:=hz4.a 0 rfl;have z1:=hz4.a 1 rfl;have z2:=hz4.a 2 rfl;have z3:=hz4.a 3 rfl;have z4:=hz4.a 4 rfl;have z5:=hz4.a 5 rfl;have zf:=hz4.fz;clear hz4;go_wp2_with fail;refine KR.out.mono ?_;rintro e w5 ⟨rfl,hb5⟩;have HA5:=zz (zac HA.out hb5 HA.out.size);have C5:=zaa hb5 C4.out;have HC5:=zz C5;clear z0 z1 z2 z3 z4 z5 zf;have z0:=C5.a 0 rfl;have z1:=C5.a 1 rfl;have z2:=C5.a 2 rfl;have z3:=C5.a 3 rfl;have z4:=C5.a 4 rfl;have z5:=C5.a 5 rfl;have zf:=C5.fz;clear hb5 C5 HC C3 C4;go_wp2_with fail;rw[HN.out];exact zeO (v:=vZ) HA5.out HC5.out Rd.sl_nil rfl rfl rfl
end Go.Proofs.YtcebmphappfjjaaGreatDoor
set_option maxHeartbeats 32000000
set_option maxRecDepth 100000
namespace Go.Proofs.YtcebmphappfjjaaGreatDoor
open Go.RowKit Go.Op
theorem nanI (x:Int) (w:World):Calls Tryz.prog 118 #[↑x] w λe w'=>e=.returned (.bool false)/\w'=w:=by
 go_in;go_wp2;go_ret;exact⟨by simp,rfl⟩
theorem nanB (x:ByteArray) (w:World):Calls Tryz.prog 119 #[↑x] w λe w'=>e=.returned (.bool false)/\w'=w:=by
 go_in;go_wp2;go_ret;exact⟨by simp,rfl⟩
theorem zfZ (x y:Int) (w:World):Calls Tryz.prog 65 #[↑x,↑y] w λe w'=>e=.returned (.int .i64 (cmpI x y))/\w'=w:=by
 have KN:=zz nanI;unfold cmpI
 by_cases h1:x<y
 ·rw[if_pos h1];go_in;go_wp2_with fail;refine(KN.out _ _).mono ?_;rintro e w1 ⟨rfl,rfl⟩;go_wp2_with fail;refine(KN.out _ _).mono ?_;rintro e w1 ⟨rfl,rfl⟩;go_wp2;go_ret;exact⟨rfl,rfl⟩
 ·rw[if_neg h1]
  by_cases h2:y<x
  ·rw[if_pos h2];go_in;go_wp2_with fail;refine(KN.out _ _).mono ?_;rintro e w1 ⟨rfl,rfl⟩;go_wp2_with fail;refine(KN.out _ _).mono ?_;rintro e w1 ⟨rfl,rfl⟩;go_wp2;go_ret;exact⟨rfl,rfl⟩
  ·rw[if_neg h2];go_in;go_wp2_with fail;refine(KN.out _ _).mono ?_;rintro e w1 ⟨rfl,rfl⟩;go_wp2_with fail;refine(KN.out _ _).mono ?_;rintro e w1 ⟨rfl,rfl⟩;go_wp2;go_ret;exact⟨rfl,rfl⟩
theorem znt (x y:ByteArray) (w:World):Calls Tryz.prog 66 #[↑x,↑y] w λe w'=>e=.returned (.int .i64 (cmpB x y))/\w'=w:=by
 have KN:=zz nanB;unfold cmpB;cases h1:bytesLess x.toList y.toList with
 |true=>
  rw[if_pos rfl];go_in;go_wp2_with fail;refine(KN.out _ _).mono ?_;rintro e w1 ⟨rfl,rfl⟩;go_wp2_with fail;refine(KN.out _ _).mono ?_;rintro e w1 ⟨rfl,rfl⟩;go_wp2;go_ret;exact⟨rfl,rfl⟩
 |false=>
  rw[if_neg zs];cases h2:bytesLess y.toList x.toList with
  |true=>
   have h3:(x.toList == y.toList)=false:=by
    rw[beq_eq_false_iff_ne];intro e;rw[e,zqg] at h2;cases h2
   rw[if_pos rfl];go_in;go_wp2_with fail;refine(KN.out _ _).mono ?_;rintro e w1 ⟨rfl,rfl⟩;go_wp2_with fail;refine(KN.out _ _).mono ?_;rintro e w1 ⟨rfl,rfl⟩;go_wp2;go_ret;exact⟨rfl,rfl⟩
  |false=>
   have h3:(x.toList == y.toList)=true:=beq_iff_eq.2 (ztz _ _ h1 h2);rw[if_neg zs];go_in;go_wp2_with fail;refine(KN.out _ _).mono ?_;rintro e w1 ⟨rfl,rfl⟩;go_wp2_with fail;refine(KN.out _ _).mono ?_;rintro e w1 ⟨rfl,rfl⟩;go_wp2;go_ret;exact⟨rfl,rfl⟩
theorem znO {l l':List V} {i:Nat} {x y:V} (hx:l[i]?=some x) (hy:l'[i]?=some y):zbh (l.drop i) (l'.drop i)=thn (cmpV x y) (zbh (l.drop (i+1)) (l'.drop (i+1))):=by
 obtain⟨h1,rfl⟩:=List.getElem?_eq_some_iff.1 hx;obtain⟨h2,rfl⟩:=List.getElem?_eq_some_iff.1 hy;rw[List.drop_eq_getElem_cons h1,List.drop_eq_getElem_cons h2,zbh]
theorem zkH {l l':List V} {i:Nat} (h:i=l.length/\i<=l'.length\/i=l'.length/\i<=l.length):zbh (l.drop i) (l'.drop i)=cmpI l.length l'.length:=by
 have key:∀r r':List V,(r=[]\/r'=[])->zbh r r'=cmpI r.length r'.length:=by
  intro r r' h;cases r with
  |nil=>cases r' with
   |nil=>rw[zbh];rfl
   |cons x r'=>rw[zbh];unfold cmpI;rw[if_pos zs]
  |cons y r=>
   obtain rfl:r'=[]:=by simpa using h
   rw[zbh];unfold cmpI;rw[if_neg (by simp;omega),if_pos zs]
 have h2:l.drop i=[]\/l'.drop i=[]:=by
  rcases h with h|h
  ·exact .inl (List.drop_eq_nil_of_le zo)
  ·exact .inr (List.drop_eq_nil_of_le zo)
 rw[key _ _ h2,List.length_drop,List.length_drop];unfold cmpI;rcases h with h|h<;>(split<;>split<;>(try split)<;>(try split)<;>omega)
def ztF (l:List V):Prop:=∀(l':List V) (A A':Option Addr) (n n' c c':Nat) (w:World),zcl l'<=2097152->Rd (Lt w.heap.size) w (vs l) (.slice A n c)->Rd (Lt w.heap.size) w (vs l') (.slice A' n' c')->
 Calls Tryz.prog 67 #[.slice A n c,.slice A' n' c',.func (.func 33) #[] #[]] w λe w'=>e=.returned (.int .i64 (zbh l l'))/\Below w.heap.size w w'
theorem low2 (w:World) (x y:Obj):Below w.heap.size w ((w.alloc x).alloc y):=((Below.refl _ _).alloc (Nat.le_refl _) _).alloc zs _
theorem znS (k:Int) (t:ByteArray) (n m:Int) (s:ByteArray) (l:List V) (k':Int) (t':ByteArray) (n' m':Int) (s':ByteArray) (l':List V) (A A':Option Addr) (c c':Nat) (w:World) (hS:ztF l) (hb:zcl l'<=2097152)
 (hr:Rd (Lt w.heap.size) w (vs l) (.slice A l.length c)) (hr':Rd (Lt w.heap.size) w (vs l') (.slice A' l'.length c')) :
 Calls Tryz.prog 33 #[.agg #[↑k,↑t,↑n,↑m,↑s,.slice A l.length c],.agg #[↑k',↑t',↑n',↑m',↑s',.slice A' l'.length c']] w
  λe w'=>e=.returned (.int .i64 (cmpV (.mk k t n m s l) (.mk k' t' n' m' s' l')))/\Below w.heap.size w w':=by
 have HF:=zz (low2 w (.cells #[↑k,↑t,↑n,↑m,↑s,.slice A l.length c] 24) (.cells #[↑k',↑t',↑n',↑m',↑s',.slice A' l'.length c'] 24));have KS:=zz (hS l' A A' l.length l'.length c c' _ hb (hr.belows HF.out) (hr'.belows HF.out));have K1:=zz (zfZ k k');have K2:=zz (znt t t');have K3:=zz (zfZ n n');have K4:=zz (zfZ m m');have K5:=zz (znt s s');have HU:Hid (cmpV (.mk k t n m s l) (.mk k' t' n' m' s' l')=thn (cmpI k k') (thn (cmpB t t') (thn (cmpI n n') (thn (cmpI m m') (thn (cmpB s s') (zbh l l')))))):=zz (by rw[cmpV]);clear hr hr' hS hb;generalize cmpV (.mk k t n m s l) (.mk k' t' n' m' s' l')=R at *
 generalize cmpI k k'=x1 at *
 generalize cmpB t t'=x2 at *
 generalize cmpI n n'=x3 at *
 generalize cmpI m m'=x4 at *
 generalize cmpB s s'=x5 at *
 generalize zbh l l'=x6 at *
 go_in;go_wp2_with fail;refine(K1.out _).mono ?_;rintro e w1 ⟨rfl,rfl⟩
 by_cases h1:x1=0
 ·subst h1;go_wp2_with fail;refine(K2.out _).mono ?_;rintro e w1 ⟨rfl,rfl⟩
  by_cases h2:x2=0
  ·subst h2;go_wp2_with fail;refine(K3.out _).mono ?_;rintro e w1 ⟨rfl,rfl⟩
   by_cases h3:x3=0
   ·subst h3;go_wp2_with fail;refine(K4.out _).mono ?_;rintro e w1 ⟨rfl,rfl⟩
    by_cases h4:x4=0
    ·subst h4;go_wp2_with fail;refine(K5.out _).mono ?_;rintro e w1 ⟨rfl,rfl⟩
     by_cases h5:x5=0
     ·subst h5;go_wp2_with fail;refine KS.out.mono ?_;rintro e w1 ⟨rfl,hb1⟩;have HB:=zz hb1;clear hb1;go_wp2;go_ret;exact⟨by rw[HU.out];rfl,HF.out.trans (HB.out.mono HF.out.size)⟩
     ·have HE:Hid (R=x5):=zz (by rw[HU.out];unfold thn;simp[h5]);go_wp2;go_ret;exact⟨by rw[HE.out];rfl,HF.out⟩
    ·have HE:Hid (R=x4):=zz (by rw[HU.out];unfold thn;simp[h4]);go_wp2;go_ret;exact⟨by rw[HE.out];rfl,HF.out⟩
   ·have HE:Hid (R=x3):=zz (by rw[HU.out];unfold thn;simp[h3]);go_wp2;go_ret;exact⟨by rw[HE.out];rfl,HF.out⟩
  ·have HE:Hid (R=x2):=zz (by rw[HU.out];unfold thn;simp[h2]);go_wp2;go_ret;exact⟨by rw[HE.out];rfl,HF.out⟩
 ·have HE:Hid (R=x1):=zz (by rw[HU.out];unfold thn;simp[h1]);go_wp2;go_ret;exact⟨by rw[HE.out];rfl,HF.out⟩
theorem ztx:∀(N:Nat) (l:List V),zcl l<=N->N<=2097152->ztF l:=by
 intro N
 induction N with
 |zero=>
  intro l hb hN l' A A' n n' c c' w hb' hr hr';have hl:=zno hr;have hl':=zno hr';have hll:=zdB l';have hz:l=[]:=List.eq_nil_of_length_eq_zero (by have:=zdB l;omega);subst hz;have hn:n=0:=hl.1;subst hn;have K:=zz (zfZ 0 n');have HE:Hid (zbh [] l'=cmpI 0 n'):=zz (by have:=zkH (l:=[]) (l':=l') (i:=0) (.inl ⟨rfl,zo⟩);rw[List.drop_zero,List.drop_zero] at this;rw[this,hl'.1];rfl);have hmin:min (0:Int) (n':Int)=0:=zo
  clear hr hr' hb hl hl';go_in;go_wp2
  go_loop [14] (λi=>i=↑()) (λ_=>0)
  case atStart=>rfl
  case round=>
   subst hrel;go_wp2_with fail;refine(K.out _).mono ?_;rintro e w1 ⟨rfl,rfl⟩;go_wp2;go_ret;exact⟨by rw[HE.out];rfl,Below.refl _ _⟩
 |succ N ih=>
  intro l hb hN l' A A' n n' c c' w hb' hr hr';have hl:=zno hr;have hl':=zno hr';have hll:=zdB l;have hll':=zdB l';have HR:=zz hr;have HR':=zz hr';have IH:=zz ih;have HL:=zz hl.1;have HL':=zz hl'.1;have hn:n<=2097152:=zo
  have hn':n'<=2097152:=zo
  obtain⟨q,hq1,hq2⟩:∃q:Nat,(q<=n/\q<=n')/\(q=n\/q=n'):=⟨min n n',zo,zo⟩;have HQ:=zz hq2;have K:=zz (zfZ n n');clear hr hr' ih hl hl' hq2;rcases Int.lt_or_le (n':Int) n with hle|hle
  all_goals
   go_in;go_wp2
   go_loopw [14] (λs14 wr=>∃i:Nat,i<=q/\s14=↑i/\Hid (zbh l l'=zbh (l.drop i) (l'.drop i))/\Hid (Below w.heap.size w wr)) (λs14 _=>q-(intOf s14).toNat)
   case atStart=>exact⟨0,zo,rfl,zz rfl,zz (Below.refl _ _)⟩
   case round=>
    obtain⟨i,hi,rfl,HA,HB⟩:=hrel
    by_cases hlt:i<q
    ·obtain⟨b,off,kd,t1,n1,m1,s1,l1,A1,c1,e,hlb,hget,h2⟩:=zrO (HR.out.belows HB.out) (show i<n by omega);subst e;obtain⟨b',off',kd',t2,n2,m2,s2,l2,A2,c2,e,hlb',hget',h2'⟩:=zrO (HR'.out.belows HB.out) (show i<n' by omega);subst e;obtain⟨p0,p1,p2,p3,p4,p5,r5⟩:=h2;obtain⟨q0,q1,q2,q3,q4,q5,r5'⟩:=h2';have hbk:=zeK _ _ _ hget;have hbk':=zeK _ _ _ hget';rw[zbv] at hbk hbk';have HC:Hid (∀W,Rd (Lt W.heap.size) W (vs l1) (.slice A1 l1.length c1)->Rd (Lt W.heap.size) W (vs l2) (.slice A2 l2.length c2)->_):=zz (λW h1 h2=>znS kd t1 n1 m1 s1 l1 kd' t2 n2 m2 s2 l2 A1 A2 c1 c2 W (IH.out l1 zo zo) zo h1 h2);have R5:=zz r5;have R5':=zz r5';have hst:=HA.out.trans (znO hget hget');obtain⟨x,hx⟩:=zn (cmpV (.mk kd t1 n1 m1 s1 l1) (.mk kd' t2 n2 m2 s2 l2));rw[hx] at HC hst;have hlb1:b<wr.heap.size:=hlb;have hlb2:b'<wr.heap.size:=hlb';have hin:(i:Int)<q:=zo
     have hin1:(i:Int)<n:=zo
     have hin2:(i:Int)<n':=zo
     have HS:=zz hst;clear r5 r5' hget hget' hbk hbk' hlb hlb' hst hx HA
     by_cases hx0:x=0
     ·subst hx0;have HA2:Hid (zbh l l'=zbh (l.drop (i+1)) (l'.drop (i+1))):=zz HS.out;go_wp2
      go_region_with (first|(go_at_call 33;refine(HC.out _ R5.out.drew R5'.out.drew).mono ?_;rintro e w4 ⟨rfl,hb4⟩;have B4:=zz (HB.out.drew.trans (hb4.mono HB.out.size));clear hb4))
      all_goals (
       go_wp2;exact⟨⟨i+1,zo,by go_num,HA2,B4⟩,by simp[intOf];omega⟩)
     ·have HE:Hid (zbh l l'=x):=zz (by rw[HS.out];unfold thn;rw[if_neg hx0]);go_wp2
      go_region_with (first|(go_at_call 33;refine(HC.out _ R5.out.drew R5'.out.drew).mono ?_;rintro e w4 ⟨rfl,hb4⟩;have B4:=zz (HB.out.drew.trans (hb4.mono HB.out.size));clear hb4))
      all_goals (
       go_wp2;go_ret;exact⟨by rw[HE.out];rfl,B4.out⟩)
    ·obtain rfl:i=q:=zo
     have HE:Hid (zbh l l'=cmpI n n'):=zz (by rw[HA.out,zkH (by rw[<-HL.out,<-HL'.out];have:=HQ.out;omega),HL.out,HL'.out]);have hno:¬(i:Int)<n\/¬(i:Int)<n':=by have:=HQ.out;omega
     clear HA
     first
      |have hno2:¬(i:Int)<n:=zo
      |have hno2:¬(i:Int)<n':=zo
     clear hno;go_wp2_with fail;refine(K.out _).mono ?_;rintro e w1 ⟨rfl,rfl⟩;go_wp2;go_ret;exact⟨by rw[HE.out];rfl,HB.out⟩
theorem zuM {l:List V} (h:zcl l<=2097152):ztF l:=ztx _ l (Nat.le_refl _) h
end Go.Proofs.YtcebmphappfjjaaGreatDoor
set_option maxHeartbeats 32000000
set_option maxRecDepth 100000
namespace Go.Proofs.YtcebmphappfjjaaGreatDoor
open Go.RowKit
mutual
theorem zvO:∀v:V,zcf v<=v.bulk
 |.mk _ _ _ _ _ l=>by have:=zvy l;rw[zcf,V.bulk];omega
theorem zvy:∀l:List V,zbl l<=zcl l
 |[]=>Nat.le_refl _
 |v::r=>by have:=zvO v;have:=zvy r;rw[zbl,zcl];omega
end
def NvAt (v:V):Prop:=∀(A:Option Addr) (c:Nat) (w:World),v.bulk<=2097152->Rd (Lt w.heap.size) w (vs v.l) (.slice A v.l.length c)->
 Calls Tryz.prog 26 #[.agg #[.int .i64 v.kind,.string v.t,.int .i64 v.n,.int .i64 v.m,.string v.s,.slice A v.l.length c]] w λe w'=>e=.returned (.int .i64 (zcf v))/\Below w.heap.size w w'
theorem zyp (k:Int) (t:ByteArray) (n m:Int) (s:ByteArray) (l:List V) (IH:∀v∈l,NvAt v):NvAt (.mk k t n m s l):=by
 intro A c w hb h;replace h:Rd (Lt w.heap.size) w (vs l) (.slice A l.length c):=h
 show Calls Tryz.prog 26 #[.agg #[↑k,↑t,↑n,↑m,↑s,.slice A l.length c]] w _
 have hN:=zvO (.mk k t n m s l);rw[zcf] at hN ⊢;obtain⟨N,hNN⟩:=zn (1+zbl l);rw[hNN] at hN ⊢;have hN2:=Nat.le_trans hN hb;have HQ0:Hid (1+zbl (l.drop 0)=N):=zz hNN;have hl:=zno h;have hn:l.length<=9223372036854775807:=Nat.le_trans hl.2.1 hl.2.2;rw[zbv] at hb;obtain⟨w1,h1,b1,c1⟩:=zaj w #[↑k,↑t,↑n,↑m,↑s,.slice A l.length c] 24;have x5:=c1.a 5 rfl;have HB1:=zz b1;have HR:=zz h;have HI:=zz IH;have HBK:=zz hb;clear b1 c1 hl h IH hNN hN hb;go_in;go_wp2;clear h1 x5
 go_loopw [3,9] (λsv si wr=>∃(i x:Nat),i<=l.length/\sv=↑x/\si=↑i/\Hid (x+zbl (l.drop i)=N)/\Hid (Below w.heap.size w wr)) (λ_ si _=>l.length-(intOf si).toNat)
 case atStart=>exact⟨0,1,zo,rfl,rfl,HQ0,HB1⟩
 case round=>
  clear HQ0 HB1;obtain⟨i,x,hi,rfl,rfl,HQ,HB⟩:=hrel
  by_cases hlt:i<l.length
  ·have hin:(i:Int)<l.length:=zo
   obtain⟨b,off,k1,t1,n1,m1,s1,l1,A1,c1,e,hlb,hget,p0,p1,p2,p3,p4,p5,r5⟩:=zrO (HR.out.belows HB.out) hlt;subst e;have hy:=zeK _ _ _ hget;have q:=HQ.out;rw[zal hget,zbl] at q;have KI:=HI.out _ (List.mem_of_getElem? hget);have hbk:=HBK.out;obtain⟨y,hyy⟩:=zn (zcf (.mk k1 t1 n1 m1 s1 l1));rw[hyy] at q;obtain⟨w2,h2,b2,c2⟩:=zaj wr #[↑k1,↑t1,↑n1,↑m1,↑s1,.slice A1 l1.length c1] 24;obtain⟨z0,z1,z2,z3,z4,z5⟩:_/\_/\_/\_/\_/\_:=⟨c2.cell 0,c2.cell 1,c2.cell 2,c2.cell 3,c2.cell 4,c2.cell 5⟩;have KU:=KI A1 c1 w2 zo (r5.belows b2);rw[hyy] at KU;have KU:Hid (Calls _ _ #[.agg #[↑k1,↑t1,↑n1,↑m1,↑s1,.slice A1 l1.length c1]] w2 _):=zz KU;have HB2:=zz (zac HB.out b2 HB.out.size);have hwx:IntKind.i64.wrap ((x:Int)+(y:Int))=((x+y:Nat):Int):=by rw[IntWalk.i64_in _ zo];omega
   have HQ2:Hid (x+y+zbl (l.drop (i+1))=N):=zz zo;clear r5 hget hlb hy b2 c2 q KI hyy hbk HQ;go_wp2_with fail;refine KU.out.mono ?_;rintro e w4 ⟨rfl,hb4⟩;have HD2:=zz (zac HB2.out hb4 HB2.out.size);clear hb4 z0 z1 z2 z3 z4 z5 h2;go_wp2;exact⟨⟨i+1,x+y,zo,rfl,by go_num,HQ2,HD2⟩,by simp[intOf];omega⟩
  ·have q:=HQ.out;rw[List.drop_eq_nil_of_le zo,zbl,Nat.add_zero] at q;subst q;clear HQ;go_wp2;go_ret;exact⟨rfl,HB.out⟩
theorem zvN:∀v:V,NvAt v
 |.mk k t n m s l=>zyp k t n m s l (λx _=>zvN x)
end Go.Proofs.YtcebmphappfjjaaGreatDoor
