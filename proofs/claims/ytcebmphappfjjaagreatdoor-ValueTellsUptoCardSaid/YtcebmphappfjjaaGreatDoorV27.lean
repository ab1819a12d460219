/- Conditions: those in each statement. -/
import Derived.Test.YtcebmphappfjjaaGreatDoorV25
import Derived.Test.YtcebmphappfjjaaGreatDoorV26
import Derived.Deep.RegionWith
import Derived.Deep.RegionHeld3
set_option maxHeartbeats 32000000
set_option maxRecDepth 100000
namespace Go.Proofs.YtcebmphappfjjaaGreatDoor
open Go.RowKit
theorem zxX {ok:Nat->Prop} {w:World} {l:List Fld} {A:Option Addr} {n c:Nat} (h:Rd ok w (fls l) (.slice A n c)) {i:Nat} (hi:i<n) :
 ∃b off f A' c',A=some ⟨b,off,none⟩/\ok b/\l[i]?=some f/\w.cell? ⟨b,off+i*4,none⟩=some (.string f.name)/\w.cell? ⟨b,off+i*4+1,none⟩=some (.int .i64 f.ty.kind)/\w.cell? ⟨b,off+i*4+2,none⟩=some (.string f.ty.name)/\w.cell? ⟨b,off+i*4+3,none⟩=some (.slice A' f.ty.args.length c')/\Rd ok w (ys f.ty.args) (.slice A' f.ty.args.length c'):=by
 obtain⟨b,off,f,e,hb,hg,hr⟩:=zqT h hi;obtain⟨u0,c0,r0⟩:=hr 0 zo;obtain⟨u1,c1,r1⟩:=hr 1 zo;obtain⟨u2,c2,r2⟩:=hr 2 zo;obtain⟨u3,c3,r3⟩:=hr 3 zo;obtain rfl:u0=↑f.name:=r0;obtain rfl:u1=↑f.ty.kind:=r1;obtain rfl:u2=↑f.ty.name:=r2;have r3:Rd ok w (ys f.ty.args) u3:=r3;obtain⟨A',c',rfl,_⟩:=r3.sl_inv;exact⟨b,off,f,A',c',e,hb,hg,c0,c1,c2,c3,r3⟩
def AllR (pp:Prg):Prop:=(∀d∈pp.types,∀c∈d.ctors,∀x∈c.fields,zsM pp x.ty=true/\x.ty.fit=true)/\∀f∈pp.funs,(∀x∈f.params,zsM pp x.ty=true/\x.ty.fit=true)
abbrev GT:PlT->Bool:=λ_=>true
structure FtC (pp:Prg) (p:PgV) (fb m B:Nat) (w:World):Prop where
 cells:zab w fb #[.slice p.At p.nT p.ct,.slice p.Ae p.nE p.ce,.slice p.Af p.nF p.cf,.slice p.Aa p.nA p.ca,.map (some m)] 124
 map:MapG GT w m
 nT:p.nT=pp.types.length
 nF:p.nF=pp.funs.length
 types:Rd (Lt B) w (slG 3 zgj pp.types) (.slice p.At p.nT p.ct)
 funs:Rd (Lt B) w (slG 11 zme pp.funs) (.slice p.Af p.nF p.cf)
 actors:Rd (Lt B) w (slG 7 zjX pp.actors) (.slice p.Aa p.nA p.ca)
 lm:B<=m
 lf:B<=fb
 ne:fb≠m
 le:B<=w.heap.size
def zwq (m:Nat) (x:Bool) (w:World) (e:Ending) (w':World):Prop:=e=.returned (.bool x)/\Chg (λj=>j=m) w w'/\MapG GT w' m
section
variable {pp:Prg} {p:PgV} {fb m B:Nat} {w w':World}
theorem FtC.next (h:FtC pp p fb m B w) (hc:Chg (λj=>j=m) w w') (hm:MapG GT w' m):FtC pp p fb m B w':=by
 have hok:∀b,Lt B b->b<w.heap.size/\¬b=m:=λb hb=>⟨Nat.lt_of_lt_of_le hb h.le,λe=>by have:=h.lm;have hb':b<B:=hb;omega⟩;exact⟨h.cells.keep hc h.ne,hm,h.nT,h.nF,hc.rd hok h.types,hc.rd hok h.funs,hc.rd hok h.actors,h.lm,h.lf,h.ne,Nat.le_trans h.le hc.size⟩
theorem FtC.below (h:FtC pp p fb m B w) (hb:Below w.heap.size w w'):FtC pp p fb m B w':=h.next (Chg.of_below hb) (h.map.keep (hb.block m h.map.lt))
theorem FtC.drewN (h:FtC pp p fb m B w) (n:Nat):FtC pp p fb m B (w.drewN n):=h.below (zae (Below.refl _ _) n)
theorem FtC.lt (h:FtC pp p fb m B w):∀b,Lt B b->Lt w.heap.size b:=λ_ hb=>Nat.lt_of_lt_of_le hb h.le
theorem FtC.drew (h:FtC pp p fb m B w):FtC pp p fb m B w.drew:=h.below ⟨rfl,rfl,rfl,Nat.le_refl _,λ_ _=>rfl⟩
theorem FtC.rd (h:FtC pp p fb m B w) (hc:Chg (λj=>j=m) w w') {d:D} {v:Value} (hr:Rd (Lt B) w d v):Rd (Lt B) w' d v:=
 hc.rd (λb hb=>⟨h.lt b hb,λe=>by have:=h.lm;have hb':b<B:=hb;omega⟩) hr
theorem FtC.tn (h:FtC pp p fb m B w):zdE w 3 (pp.types.map Dcl.name) p.At p.nT p.ct:=zdE.of zo (λ_=>rfl) (h.types.weaken h.lt)
theorem FtC.an (h:FtC pp p fb m B w):zdE w 7 (pp.actors.map Actr.name) p.Aa p.nA p.ca:=zdE.of zo (λ_=>rfl) (h.actors.weaken h.lt)
theorem FtC.right (h:FtC pp p fb m B w) (t:Ty) (hf:t.fit=true) (A:Option Addr) (c:Nat) (hr:Rd (Lt B) w (ys t.args) (.slice A t.args.length c)) :
 Calls Tryz.prog 141 #[pgA p,.agg #[↑t.kind,↑t.name,.slice A t.args.length c]] w λe w'=>e=.returned (.bool (zsM pp t))/\Below w.heap.size w w':=ztU p pp t hf A c w h.tn h.an (hr.weaken h.lt)
end
theorem zuN {P:Program} {C:World->Prop} {id:Nat} {Q:Exit->Act->World->Prop} {a:Act} {w:World} {l:List Oper} (hm:P.follows .mixedOrders=true) (hB:Region.lexB .any l.toArray=true) (hC:C w.drew)
 (h:wpQuiet P l.toArray C (λa'=>∀w',C w'->Q .normal a' w') l a):(Code.region id l.toArray true).wp P Q a w:=wp_region_quiet (C:=C) hm hB hC (by simpa using h)
structure QW (pp:Prg) (p:PgV) (fb m B:Nat) (w0:World) where
 w:World
 f:FtC pp p fb m B w
 c:Chg (λj=>j=m) w0 w
section
variable {pp:Prg} {p:PgV} {fb m B:Nat} {w0:World}
theorem QW.cell (x:QW pp p fb m B w0) {b o:Nat} {v:Value} (h1:b<w0.heap.size) (h2:¬b=m) (h:w0.cell? ⟨b,o,none⟩=some v):x.w.cell? ⟨b,o,none⟩=some v:=(x.c.cell (p:=⟨b,o,none⟩) h1 h2).trans h
theorem QW.rd (x:QW pp p fb m B w0) (h:FtC pp p fb m B w0) {d:D} {v:Value} (hr:Rd (Lt B) w0 d v):Rd (Lt B) x.w d v:=h.rd x.c hr
theorem QW.calls (x:QW pp p fb m B w0) {f:Nat} {args:Array Value} {r:Bool} (h:Calls Tryz.prog f args x.w (zwq m r x.w)):Calls Tryz.prog f args x.w λe w'=>e=.returned ↑r/\∃y:QW pp p fb m B w0,w'=y.w:=
 h.mono λ_ w' h=>⟨h.1,⟨w',x.f.next h.2.1 h.2.2,x.c.next h.2.1⟩,rfl⟩
end
structure NW (pp:Prg) (p:PgV) (fb m B:Nat) (w0:World) where
 w:World
 f:FtC pp p fb m B w
 c:Below w0.heap.size w0 w
theorem NW.calls {pp:Prg} {p:PgV} {fb m B:Nat} {w0:World} (x:NW pp p fb m B w0) {f:Nat} {args:Array Value} {r:Value} (h:Calls Tryz.prog f args x.w λe w'=>e=.returned r/\Below x.w.heap.size x.w w'):Calls Tryz.prog f args x.w λe w'=>e=.returned r/\∃y:NW pp p fb m B w0,w'=y.w:=
 h.mono λ_ w' h=>⟨h.1,⟨w',x.f.below h.2,zac x.c h.2 x.c.size⟩,rfl⟩
def zwm (pp:Prg) (p:PgV) (fb m B:Nat) (v:V):Prop:=∀(y:Ty) (A A':Option Addr) (c c':Nat) (w:World),FtC pp p fb m B w->zsM pp y=true->y.fit=true->Rd (Lt B) w (vs v.l) (.slice A v.l.length c)->Rd (Lt B) w (ys y.args) (.slice A' y.args.length c')->
 Calls Tryz.prog 142 #[.pointer (some ⟨fb,0,none⟩),.agg #[.int .i64 v.kind,.string v.t,.int .i64 v.n,.int .i64 v.m,.string v.s,.slice A v.l.length c],.agg #[.int .i64 y.kind,.string y.name,.slice A' y.args.length c']] w (zwq m (fitV pp v y) w)
theorem zvB (pp:Prg) (p:PgV) (fb m B:Nat) (l:List V) (IH:∀v∈l,zwm pp p fb m B v) (pl:PlT) (fl:List Fld) (hfl:∀x∈fl,zsM pp x.ty=true/\x.ty.fit=true) (A A':Option Addr) (c c':Nat) (w:World) (h:FtC pp p fb m B w)
 (hr:Rd (Lt B) w (vs l) (.slice A l.length c)) (hr':Rd (Lt B) w (fls fl) (.slice A' fl.length c')) :
 Calls Tryz.prog 238 #[.pointer (some ⟨fb,0,none⟩),plK pl,.slice A l.length c,.slice A' fl.length c'] w (zwq m (zuP pp l (fl.map Fld.ty)) w):=by
 have hl:=zno hr;have hl':=ztO hr';have hn1:l.length<=9223372036854775807:=Nat.le_trans hl.2.1 hl.2.2;have hn2:fl.length<=9223372036854775807:=Nat.le_trans hl'.2.1 hl'.2.2;obtain⟨w1,h1,b1,c1⟩:=zaj w #[.bool pl.1,.int .i64 pl.2.1,.int .i64 pl.2.2] 238;have hF1:=h.below b1;have HF1:=zz hF1;have HC1:=zz c1;have HB1:=zz b1;have HI:=zz IH;have HFL:=zz hfl;have HR:=zz hr;have HR':=zz hr';have HL:=zz h;unfold plK;obtain⟨R,hR⟩:=zn (zuP pp l (fl.map Fld.ty));have HRR:=zz hR;rw[hR];clear hR hl hl' IH hfl hr hr' h
 by_cases hlt:fl.length<l.length
 ·have HN:Hid (R=false):=zz (by rw[<-HRR.out];exact zvJ pp l _ (by simpa using hlt));have hli:(fl.length:Int)<(l.length:Int):=zo
  clear b1 c1 hF1;go_in;go_wp2;go_ret;exact⟨by rw[HN.out];rfl,Chg.of_below HB1.out,HF1.out.map⟩
 ·have hli:¬(fl.length:Int)<(l.length:Int):=zo
  have x0:∀n,(w1.drewN n).cell? ⟨w.heap.size,0,none⟩=some (.bool pl.1):=λn=>c1.cell 0;have x1:∀n,(w1.drewN n).cell? ⟨w.heap.size,1,none⟩=some (.int .i64 pl.2.1):=λn=>c1.cell 1;have x2:∀n,(w1.drewN n).cell? ⟨w.heap.size,2,none⟩=some (.int .i64 pl.2.2):=λn=>c1.cell 2;have f4:∀n,(w1.drewN n).cell? ⟨fb,4,none⟩=some (.map (some m)):=λn=>hF1.cells.cell 4;rcases zxe hF1.map pl with hlk|⟨hlk,hno⟩
  ·unfold plK at hlk;replace hlk:∀n,(Instr.lookup 122 (.map (some m)) (.agg #[.bool pl.1,.int .i64 pl.2.1,.int .i64 pl.2.2]) true).run Tryz.prog (w1.drewN n)=.ok (.tuple #[.bool true,.bool true]) (w1.drewN n):=hlk;clear b1 c1 hF1;go_in;go_wp2
   go_quiet (fail)
   obtain⟨w2,hw2⟩:=zn (w1.drewN nq);have HF0:=zz (HF1.out.drewN nq);have HC0:Hid (Chg (λj=>j=m) w (w1.drewN nq)):=zz ((Chg.of_below HB1.out).drewN nq);rw[hw2] at HF0 HC0 ⊢;clear hw2 h1;go_wp2;clear hlk x0 x1 x2 f4
   go_loopw [56] (λs56 wr=>∃i:Nat,i<=l.length/\s56=↑i/\Hid (zuP pp (l.drop i) ((fl.map Fld.ty).drop i)=R)/\Hid (Chg (λj=>j=m) w wr)/\Hid (FtC pp p fb m B wr)) (λs56 _=>l.length-(intOf s56).toNat)
   case atStart=>exact⟨0,zo,rfl,HRR,HC0,HF0⟩
   case round=>
    clear HRR HC0 HF0;obtain⟨i,hi,rfl,HA,HC,HF⟩:=hrel
    by_cases hil:i<l.length
    ·have hin:(i:Int)<l.length:=zo
     have hin2:(i:Int)<fl.length:=zo
     obtain⟨b,off,k,t,n,m',s,l1,A1,c1,e,hlb,hget,p0,p1,p2,p3,p4,p5,r5⟩:=zrO (HL.out.rd HC.out HR.out) hil;subst e;obtain⟨b2,off2,f,A2,c2,e,hlb2,hget2,q0,q1,q2,q3,r6⟩:=zxX (HL.out.rd HC.out HR'.out) (show i<fl.length by omega);subst e;have hm:=List.mem_of_getElem? hget;have hf:=HFL.out f (List.mem_of_getElem? hget2);have hg3:(fl.map Fld.ty)[i]?=some f.ty:=by rw[List.getElem?_map,hget2];rfl
     have q:=HA.out;rw[zvG pp hget hg3] at q;obtain⟨w3,hw3,hbx,hcx⟩:=zaj wr #[↑k,↑t,↑n,↑m',↑s,.slice A1 l1.length c1] 24;have hb2:b2<wr.heap.size:=HF.out.lt _ hlb2;have y0:=hcx.a 0 rfl;have y1:=hcx.a 1 rfl;have y2:=hcx.a 2 rfl;have y3:=hcx.a 3 rfl;have y4:=hcx.a 4 rfl;have y5:=hcx.a 5 rfl;have q1:w3.cell? ⟨b2,off2+i*4+1,none⟩=some ↑f.ty.kind:=(hbx.cell (p:=⟨b2,_,none⟩) hb2).trans q1;have q2:w3.cell? ⟨b2,off2+i*4+2,none⟩=some ↑f.ty.name:=(hbx.cell (p:=⟨b2,_,none⟩) hb2).trans q2;have q3:w3.cell? ⟨b2,off2+i*4+3,none⟩=some (.slice A2 f.ty.args.length c2):=(hbx.cell (p:=⟨b2,_,none⟩) hb2).trans q3;have HF3:=zz (HF.out.below hbx);have HC3:=zz (HC.out.thenBelow hbx);have HX3:=zz hcx;have HNE:Hid (¬wr.heap.size=m):=zz (by have:=HF.out.map.lt;omega);have HB2:Hid (b2<w3.heap.size):=zz (Nat.lt_of_lt_of_le hb2 hbx.size);have HN2:Hid (¬b2=m):=zz (λe=>by have:=HF.out.lm;have h9:b2<B:=hlb2;omega);have HRV:=zz (Rd.below (ok:=Lt B) hbx (λ_ hh=>HF.out.lt _ hh) r5);have HRT:=zz (Rd.below (ok:=Lt B) hbx (λ_ hh=>HF.out.lt _ hh) r6);have KB:Hid (∀W,FtC pp p fb m B W->Rd (Lt B) W (vs l1) (.slice A1 l1.length c1)->Rd (Lt B) W (ys f.ty.args) (.slice A2 f.ty.args.length c2)->Calls _ _ #[.pointer (some ⟨fb,0,none⟩),.agg #[↑k,↑t,↑n,↑m',↑s,.slice A1 l1.length c1],.agg #[↑f.ty.kind,↑f.ty.name,.slice A2 f.ty.args.length c2]] W _):=zz (λW h1 h2 h3=>HI.out _ hm f.ty A1 A2 c1 c2 W h1 hf.1 hf.2 h2 h3);obtain⟨x,hx⟩:=zn (fitV pp (.mk k t n m' s l1) f.ty);rw[hx] at KB q;have HQ:=zz q;clear q0 r5 r6 hget hget2 hm hf hg3 q hbx hcx hx HA hlb hlb2;cases x with
     |false=>
      have HN:Hid (R=false):=zz (by rw[<-HQ.out];rfl);clear HQ;go_wp2;clear hw3 p0 p1 p2 p3 p4 p5;have z0:∀x:QW pp p fb m B w3,x.w.cell? ⟨wr.heap.size,0,none⟩=some ↑k:=λx=>x.cell HX3.out.lt HNE.out y0;have z1:∀x:QW pp p fb m B w3,x.w.cell? ⟨wr.heap.size,1,none⟩=some ↑t:=λx=>x.cell HX3.out.lt HNE.out y1;have z2:∀x:QW pp p fb m B w3,x.w.cell? ⟨wr.heap.size,2,none⟩=some ↑n:=λx=>x.cell HX3.out.lt HNE.out y2;have z3:∀x:QW pp p fb m B w3,x.w.cell? ⟨wr.heap.size,3,none⟩=some ↑m':=λx=>x.cell HX3.out.lt HNE.out y3;have z4:∀x:QW pp p fb m B w3,x.w.cell? ⟨wr.heap.size,4,none⟩=some ↑s:=λx=>x.cell HX3.out.lt HNE.out y4;have z5:∀x:QW pp p fb m B w3,x.w.cell? ⟨wr.heap.size,5,none⟩=some (.slice A1 l1.length c1):=λx=>x.cell HX3.out.lt HNE.out y5;have u1:∀x:QW pp p fb m B w3,x.w.cell? ⟨b2,off2+i*4+1,none⟩=some ↑f.ty.kind:=λx=>x.cell HB2.out HN2.out q1;have u2:∀x:QW pp p fb m B w3,x.w.cell? ⟨b2,off2+i*4+2,none⟩=some ↑f.ty.name:=λx=>x.cell HB2.out HN2.out q2;have u3:∀x:QW pp p fb m B w3,x.w.cell? ⟨b2,off2+i*4+3,none⟩=some (.slice A2 f.ty.args.length c2):=λx=>x.cell HB2.out HN2.out q3;have hne:Nonempty (QW pp p fb m B w3):=⟨⟨w3,HF3.out,Chg.refl _ _⟩⟩;have KQ:=zz (λx:QW pp p fb m B w3=>x.calls (KB.out x.w x.f (x.rd HF3.out HRV.out) (x.rd HF3.out HRT.out)));refine zuN (C:=λw'=>∃x:QW pp p fb m B w3,w'=x.w) zk zk ⟨⟨_,HF3.out.drew,⟨rfl,rfl,rfl,Nat.le_refl _,λ_ _ _=>rfl⟩⟩,rfl⟩ ?_
      repeat (go_big_quiet_step (first|with_reducible exact KQ.out _))
      refine wpQuiet_nil ?_;intro _ hw';obtain⟨x,hw''⟩:=hw';subst hw'';clear z0 z1 z2 z3 z4 z5 u1 u2 u3 KQ hne y0 y1 y2 y3 y4 y5 q1 q2 q3;have HC4:=zz (HC3.out.next x.c);have HF4:=zz x.f;generalize x.w=w4 at *
      go_wp2;go_ret;exact⟨by rw[HN.out];rfl,HC4.out,HF4.out.map⟩
     |true=>
      have HN:Hid (zuP pp (l.drop (i+1)) ((fl.map Fld.ty).drop (i+1))=R):=zz (by rw[<-HQ.out];rfl);clear HQ;go_wp2;clear hw3 p0 p1 p2 p3 p4 p5;have z0:∀x:QW pp p fb m B w3,x.w.cell? ⟨wr.heap.size,0,none⟩=some ↑k:=λx=>x.cell HX3.out.lt HNE.out y0;have z1:∀x:QW pp p fb m B w3,x.w.cell? ⟨wr.heap.size,1,none⟩=some ↑t:=λx=>x.cell HX3.out.lt HNE.out y1;have z2:∀x:QW pp p fb m B w3,x.w.cell? ⟨wr.heap.size,2,none⟩=some ↑n:=λx=>x.cell HX3.out.lt HNE.out y2;have z3:∀x:QW pp p fb m B w3,x.w.cell? ⟨wr.heap.size,3,none⟩=some ↑m':=λx=>x.cell HX3.out.lt HNE.out y3;have z4:∀x:QW pp p fb m B w3,x.w.cell? ⟨wr.heap.size,4,none⟩=some ↑s:=λx=>x.cell HX3.out.lt HNE.out y4;have z5:∀x:QW pp p fb m B w3,x.w.cell? ⟨wr.heap.size,5,none⟩=some (.slice A1 l1.length c1):=λx=>x.cell HX3.out.lt HNE.out y5;have u1:∀x:QW pp p fb m B w3,x.w.cell? ⟨b2,off2+i*4+1,none⟩=some ↑f.ty.kind:=λx=>x.cell HB2.out HN2.out q1;have u2:∀x:QW pp p fb m B w3,x.w.cell? ⟨b2,off2+i*4+2,none⟩=some ↑f.ty.name:=λx=>x.cell HB2.out HN2.out q2;have u3:∀x:QW pp p fb m B w3,x.w.cell? ⟨b2,off2+i*4+3,none⟩=some (.slice A2 f.ty.args.length c2):=λx=>x.cell HB2.out HN2.out q3;have hne:Nonempty (QW pp p fb m B w3):=⟨⟨w3,HF3.out,Chg.refl _ _⟩⟩;have KQ:=zz (λx:QW pp p fb m B w3=>x.calls (KB.out x.w x.f (x.rd HF3.out HRV.out) (x.rd HF3.out HRT.out)));refine zuN (C:=λw'=>∃x:QW pp p fb m B w3,w'=x.w) zk zk ⟨⟨_,HF3.out.drew,⟨rfl,rfl,rfl,Nat.le_refl _,λ_ _ _=>rfl⟩⟩,rfl⟩ ?_
      repeat (go_big_quiet_step (first|with_reducible exact KQ.out _))
      refine wpQuiet_nil ?_;intro _ hw';obtain⟨x,hw''⟩:=hw';subst hw'';clear z0 z1 z2 z3 z4 z5 u1 u2 u3 KQ hne y0 y1 y2 y3 y4 y5 q1 q2 q3;have HC4:=zz (HC3.out.next x.c);have HF4:=zz x.f;generalize x.w=w4 at *
      go_wp2;exact⟨⟨i+1,zo,by go_num,HN,HC4,HF4⟩,by simp[intOf];omega⟩
    ·obtain rfl:i=l.length:=zo
     have HN:Hid (R=true):=zz (by rw[<-HA.out,List.drop_eq_nil_of_le (Nat.le_refl _),zwh]);clear HA;go_wp2;go_ret;exact⟨by rw[HN.out];rfl,HC.out,HF.out.map⟩
  ·replace hlk:∀n,(Instr.lookup 122 (.map (some m)) (.agg #[.bool pl.1,.int .i64 pl.2.1,.int .i64 pl.2.2]) true).run Tryz.prog (w1.drewN n)=.ok (.tuple #[.bool false,.bool false]) (w1.drewN n):=hlk;clear b1 c1 hF1;go_in;go_wp2
   go_quiet (fail)
   obtain⟨w2,hw2⟩:=zn (w1.drewN nq);have HF0:=zz (HF1.out.drewN nq);have HC0:Hid (Chg (λj=>j=m) w (w1.drewN nq)):=zz ((Chg.of_below HB1.out).drewN nq);have HN0:Hid (zwy GT (w1.drewN nq) m pl):=zz hno;have HX0:Hid (zab (w1.drewN nq) w.heap.size #[.bool pl.1,.int .i64 pl.2.1,.int .i64 pl.2.2] 238):=HC1;rw[hw2] at HF0 HC0 HN0 HX0 ⊢;clear hw2 h1 hno hlk x0 x1 x2 f4;go_wp2
   go_loopw [9,33] (λs9 s33 wr=>∃i:Nat,i<=fl.length/\s9=.bool true/\s33=↑i/\Hid (Chg (λj=>j=m) w wr)/\Hid (FtC pp p fb m B wr)/\Hid (zwy GT wr m pl)/\Hid (zab wr w.heap.size #[.bool pl.1,.int .i64 pl.2.1,.int .i64 pl.2.2] 238)) (λ_ s33 _=>fl.length-(intOf s33).toNat)
   case atStart=>exact⟨0,zo,rfl,rfl,HC0,HF0,HN0,HX0⟩
   case round=>
    clear HC0 HF0 HN0 HX0;obtain⟨i,hi,rfl,rfl,HC,HF,HNO,HX⟩:=hrel
    by_cases hil:i<fl.length
    ·have hin:(i:Int)<fl.length:=zo
     obtain⟨b2,off2,f,A2,c2,e,hlb2,hget2,q0,q1,q2,q3,r6⟩:=zxX (HL.out.rd HC.out HR'.out) hil;subst e;have hf:=HFL.out f (List.mem_of_getElem? hget2);obtain⟨w3,hw3,hbx,hcx⟩:=zaj wr #[↑f.name,↑f.ty.kind,↑f.ty.name,.slice A2 f.ty.args.length c2] 74;have HX3:=zz hcx;have HNE:Hid (¬wr.heap.size=m):=zz (by have:=HF.out.map.lt;omega);have HF3:=zz (HF.out.below hbx);have HC3:=zz (HC.out.thenBelow hbx);have HNO3:=zz (HNO.out.keep (hbx.block m HF.out.map.lt));have HXX:=zz (zaa hbx HX.out);have HRT:=zz (Rd.below (ok:=Lt B) hbx (λ_ hh=>HF.out.lt _ hh) r6);have HFT:=zz hf;clear hbx hcx hget2 r6 hlb2 hf;go_wp2;clear hw3 q0 q1 q2 q3;have z1:∀x:NW pp p fb m B w3,x.w.cell? ⟨wr.heap.size,1,none⟩=some ↑f.ty.kind:=λx=>(x.c.cell (p:=⟨wr.heap.size,1,none⟩) HX3.out.lt).trans (HX3.out.cell 1);have z2:∀x:NW pp p fb m B w3,x.w.cell? ⟨wr.heap.size,2,none⟩=some ↑f.ty.name:=λx=>(x.c.cell (p:=⟨wr.heap.size,2,none⟩) HX3.out.lt).trans (HX3.out.cell 2);have z3:∀x:NW pp p fb m B w3,x.w.cell? ⟨wr.heap.size,3,none⟩=some (.slice A2 f.ty.args.length c2):=λx=>(x.c.cell (p:=⟨wr.heap.size,3,none⟩) HX3.out.lt).trans (HX3.out.cell 3);have g0:∀x:NW pp p fb m B w3,x.w.cell? ⟨fb,0,none⟩=some (.slice p.At p.nT p.ct):=λx=>x.f.cells.cell 0;have g1:∀x:NW pp p fb m B w3,x.w.cell? ⟨fb,1,none⟩=some (.slice p.Ae p.nE p.ce):=λx=>x.f.cells.cell 1;have g2:∀x:NW pp p fb m B w3,x.w.cell? ⟨fb,2,none⟩=some (.slice p.Af p.nF p.cf):=λx=>x.f.cells.cell 2;have g3:∀x:NW pp p fb m B w3,x.w.cell? ⟨fb,3,none⟩=some (.slice p.Aa p.nA p.ca):=λx=>x.f.cells.cell 3;have hne:Nonempty (NW pp p fb m B w3):=⟨⟨w3,HF3.out,Below.refl _ _⟩⟩;have KQ:=zz (λx:NW pp p fb m B w3=>x.calls (HFT.out.1▸x.f.right f.ty HFT.out.2 A2 c2 (Rd.below (ok:=Lt B) x.c (λ_ hh=>HF3.out.lt _ hh) HRT.out)));refine zuN (C:=λw'=>∃x:NW pp p fb m B w3,w'=x.w) zk zk ⟨⟨_,HF3.out.drew,⟨rfl,rfl,rfl,Nat.le_refl _,λ_ _=>rfl⟩⟩,rfl⟩ ?_
     repeat (go_big_quiet_step (first|with_reducible exact KQ.out _))
     refine wpQuiet_nil ?_;intro _ hw';obtain⟨x,hw''⟩:=hw';subst hw'';clear z1 z2 z3 g0 g1 g2 g3 KQ hne;have HC4:=zz (HC3.out.thenBelow x.c);have HF4:=zz x.f;have HNO4:=zz (HNO3.out.keep (x.c.block m HF3.out.map.lt));have HX4:=zz (zaa x.c HXX.out);generalize x.w=w4 at *
     go_wp2;exact⟨⟨i+1,zo,rfl,by go_num,HC4,HF4,HNO4,HX4⟩,by simp[intOf];omega⟩
    ·obtain rfl:i=fl.length:=zo
     have x0:=HX.out.a 0 rfl;have x1:=HX.out.a 1 rfl;have x2:=HX.out.a 2 rfl;have f4:=HF.out.cells.a 4 rfl;obtain⟨w9,hup,hmp,hgr,hsz⟩:=zxt (G:=GT) (w:=wr.drew) (m:=m) (c:=pl) HNO.out;replace hup:(Instr.mapUpdate 122 (.map (some m)) (.agg #[.bool pl.1,.int .i64 pl.2.1,.int .i64 pl.2.2]) (.bool true)).run Tryz.prog wr.drew=.ok () w9:=hup;have hch:Chg (λj=>j=m) wr w9:=(show Chg (λj=>j=m) wr wr.drew from ⟨rfl,rfl,rfl,Nat.le_refl _,λ_ _ _=>rfl⟩).next (Chg.of_grown hgr (λk hk=>(Option.some.inj hk).symm));have HC0:=zz (HC.out.next hch);have HF0:=zz (HF.out.next hch hmp);clear hmp hgr hsz hch HNO HX;go_wp2
     go_region
     go_wp2;clear hup x0 x1 x2 f4 HC HF hil
     go_loopw [56] (λs56 wr=>∃i:Nat,i<=l.length/\s56=↑i/\Hid (zuP pp (l.drop i) ((fl.map Fld.ty).drop i)=R)/\Hid (Chg (λj=>j=m) w wr)/\Hid (FtC pp p fb m B wr)) (λs56 _=>l.length-(intOf s56).toNat)
     case atStart=>exact⟨0,zo,rfl,HRR,HC0,HF0⟩
     case round=>
      clear HRR HC0 HF0;obtain⟨i,hi,rfl,HA,HC,HF⟩:=hrel
      by_cases hil:i<l.length
      ·have hin:(i:Int)<l.length:=zo
       have hin2:(i:Int)<fl.length:=zo
       obtain⟨b,off,k,t,n,m',s,l1,A1,c1,e,hlb,hget,p0,p1,p2,p3,p4,p5,r5⟩:=zrO (HL.out.rd HC.out HR.out) hil;subst e;obtain⟨b2,off2,f,A2,c2,e,hlb2,hget2,q0,q1,q2,q3,r6⟩:=zxX (HL.out.rd HC.out HR'.out) (show i<fl.length by omega);subst e;have hm:=List.mem_of_getElem? hget;have hf:=HFL.out f (List.mem_of_getElem? hget2);have hg3:(fl.map Fld.ty)[i]?=some f.ty:=by rw[List.getElem?_map,hget2];rfl
       have q:=HA.out;rw[zvG pp hget hg3] at q;obtain⟨w3,hw3,hbx,hcx⟩:=zaj wr #[↑k,↑t,↑n,↑m',↑s,.slice A1 l1.length c1] 24;have hb2:b2<wr.heap.size:=HF.out.lt _ hlb2;have y0:=hcx.a 0 rfl;have y1:=hcx.a 1 rfl;have y2:=hcx.a 2 rfl;have y3:=hcx.a 3 rfl;have y4:=hcx.a 4 rfl;have y5:=hcx.a 5 rfl;have q1:w3.cell? ⟨b2,off2+i*4+1,none⟩=some ↑f.ty.kind:=(hbx.cell (p:=⟨b2,_,none⟩) hb2).trans q1;have q2:w3.cell? ⟨b2,off2+i*4+2,none⟩=some ↑f.ty.name:=(hbx.cell (p:=⟨b2,_,none⟩) hb2).trans q2;have q3:w3.cell? ⟨b2,off2+i*4+3,none⟩=some (.slice A2 f.ty.args.length c2):=(hbx.cell (p:=⟨b2,_,none⟩) hb2).trans q3;have HF3:=zz (HF.out.below hbx);have HC3:=zz (HC.out.thenBelow hbx);have HX3:=zz hcx;have HNE:Hid (¬wr.heap.size=m):=zz (by have:=HF.out.map.lt;omega);have HB2:Hid (b2<w3.heap.size):=zz (Nat.lt_of_lt_of_le hb2 hbx.size);have HN2:Hid (¬b2=m):=zz (λe=>by have:=HF.out.lm;have h9:b2<B:=hlb2;omega);have HRV:=zz (Rd.below (ok:=Lt B) hbx (λ_ hh=>HF.out.lt _ hh) r5);have HRT:=zz (Rd.below (ok:=Lt B) hbx (λ_ hh=>HF.out.lt _ hh) r6);have KB:Hid (∀W,FtC pp p fb m B W->Rd (Lt B) W (vs l1) (.slice A1 l1.length c1)->Rd (Lt B) W (ys f.ty.args) (.slice A2 f.ty.args.length c2)->Calls _ _ #[.pointer (some ⟨fb,0,none⟩),.agg #[↑k,↑t,↑n,↑m',↑s,.slice A1 l1.length c1],.agg #[↑f.ty.kind,↑f.ty.name,.slice A2 f.ty.args.length c2]] W _):=zz (λW h1 h2 h3=>HI.out _ hm f.ty A1 A2 c1 c2 W h1 hf.1 hf.2 h2 h3);obtain⟨x,hx⟩:=zn (fitV pp (.mk k t n m' s l1) f.ty);rw[hx] at KB q;have HQ:=zz q;clear q0 r5 r6 hget hget2 hm hf hg3 q hbx hcx hx HA hlb hlb2;cases x with
       |false=>
        have HN:Hid (R=false):=zz (by rw[<-HQ.out];rfl);clear HQ;go_wp2;clear hw3 p0 p1 p2 p3 p4 p5;have z0:∀x:QW pp p fb m B w3,x.w.cell? ⟨wr.heap.size,0,none⟩=some ↑k:=λx=>x.cell HX3.out.lt HNE.out y0;have z1:∀x:QW pp p fb m B w3,x.w.cell? ⟨wr.heap.size,1,none⟩=some ↑t:=λx=>x.cell HX3.out.lt HNE.out y1;have z2:∀x:QW pp p fb m B w3,x.w.cell? ⟨wr.heap.size,2,none⟩=some ↑n:=λx=>x.cell HX3.out.lt HNE.out y2;have z3:∀x:QW pp p fb m B w3,x.w.cell? ⟨wr.heap.size,3,none⟩=some ↑m':=λx=>x.cell HX3.out.lt HNE.out y3;have z4:∀x:QW pp p fb m B w3,x.w.cell? ⟨wr.heap.size,4,none⟩=some ↑s:=λx=>x.cell HX3.out.lt HNE.out y4;have z5:∀x:QW pp p fb m B w3,x.w.cell? ⟨wr.heap.size,5,none⟩=some (.slice A1 l1.length c1):=λx=>x.cell HX3.out.lt HNE.out y5;have u1:∀x:QW pp p fb m B w3,x.w.cell? ⟨b2,off2+i*4+1,none⟩=some ↑f.ty.kind:=λx=>x.cell HB2.out HN2.out q1;have u2:∀x:QW pp p fb m B w3,x.w.cell? ⟨b2,off2+i*4+2,none⟩=some ↑f.ty.name:=λx=>x.cell HB2.out HN2.out q2;have u3:∀x:QW pp p fb m B w3,x.w.cell? ⟨b2,off2+i*4+3,none⟩=some (.slice A2 f.ty.args.length c2):=λx=>x.cell HB2.out HN2.out q3;have hne:Nonempty (QW pp p fb m B w3):=⟨⟨w3,HF3.out,Chg.refl _ _⟩⟩;have KQ:=zz (λx:QW pp p fb m B w3=>x.calls (KB.out x.w x.f (x.rd HF3.out HRV.out) (x.rd HF3.out HRT.out)));refine zuN (C:=λw'=>∃x:QW pp p fb m B w3,w'=x.w) zk zk ⟨⟨_,HF3.out.drew,⟨rfl,rfl,rfl,Nat.le_refl _,λ_ _ _=>rfl⟩⟩,rfl⟩ ?_
        repeat (go_big_quiet_step (first|with_reducible exact KQ.out _))
        refine wpQuiet_nil ?_;intro _ hw';obtain⟨x,hw''⟩:=hw';subst hw'';clear z0 z1 z2 z3 z4 z5 u1 u2 u3 KQ hne y0 y1 y2 y3 y4 y5 q1 q2 q3;have HC4:=zz (HC3.out.next x.c);have HF4:=zz x.f;generalize x.w=w4 at *
        go_wp2;go_ret;exact⟨by rw[HN.out];rfl,HC4.out,HF4.out.map⟩
       |true=>
        have HN:Hid (zuP pp (l.drop (i+1)) ((fl.map Fld.ty).drop (i+1))=R):=zz (by rw[<-HQ.out];rfl);clear HQ;go_wp2;clear hw3 p0 p1 p2 p3 p4 p5;have z0:∀x:QW pp p fb m B w3,x.w.cell? ⟨wr.heap.size,0,none⟩=some ↑k:=λx=>x.cell HX3.out.lt HNE.out y0;have z1:∀x:QW pp p fb m B w3,x.w.cell? ⟨wr.heap.size,1,none⟩=some ↑t:=λx=>x.cell HX3.out.lt HNE.out y1;have z2:∀x:QW pp p fb m B w3,x.w.cell? ⟨wr.heap.size,2,none⟩=some ↑n:=λx=>x.cell HX3.out.lt HNE.out y2;have z3:∀x:QW pp p fb m B w3,x.w.cell? ⟨wr.heap.size,3,none⟩=some ↑m':=λx=>x.cell HX3.out.lt HNE.out y3;have z4:∀x:QW pp p fb m B w3,x.w.cell? ⟨wr.heap.size,4,none⟩=some ↑s:=λx=>x.cell HX3.out.lt HNE.out y4;have z5:∀x:QW pp p fb m B w3,x.w.cell? ⟨wr.heap.size,5,none⟩=some (.slice A1 l1.length c1):=λx=>x.cell HX3.out.lt HNE.out y5;have u1:∀x:QW pp p fb m B w3,x.w.cell? ⟨b2,off2+i*4+1,none⟩=some ↑f.ty.kind:=λx=>x.cell HB2.out HN2.out q1;have u2:∀x:QW pp p fb m B w3,x.w.cell? ⟨b2,off2+i*4+2,none⟩=some ↑f.ty.name:=λx=>x.cell HB2.out HN2.out q2;have u3:∀x:QW pp p fb m B w3,x.w.cell? ⟨b2,off2+i*4+3,none⟩=some (.slice A2 f.ty.args.length c2):=λx=>x.cell HB2.out HN2.out q3;have hne:Nonempty (QW pp p fb m B w3):=⟨⟨w3,HF3.out,Chg.refl _ _⟩⟩;have KQ:=zz (λx:QW pp p fb m B w3=>x.calls (KB.out x.w x.f (x.rd HF3.out HRV.out) (x.rd HF3.out HRT.out)));refine zuN (C:=λw'=>∃x:QW pp p fb m B w3,w'=x.w) zk zk ⟨⟨_,HF3.out.drew,⟨rfl,rfl,rfl,Nat.le_refl _,λ_ _ _=>rfl⟩⟩,rfl⟩ ?_
        repeat (go_big_quiet_step (first|with_reducible exact KQ.out _))
        refine wpQuiet_nil ?_;intro _ hw';obtain⟨x,hw''⟩:=hw';subst hw'';clear z0 z1 z2 z3 z4 z5 u1 u2 u3 KQ hne y0 y1 y2 y3 y4 y5 q1 q2 q3;have HC4:=zz (HC3.out.next x.c);have HF4:=zz x.f;generalize x.w=w4 at *
        go_wp2;exact⟨⟨i+1,zo,by go_num,HN,HC4,HF4⟩,by simp[intOf];omega⟩
      ·obtain rfl:i=l.length:=zo
       have HN:Hid (R=true):=zz (by rw[<-HA.out,List.drop_eq_nil_of_le (Nat.le_refl _),zwh]);clear HA;go_wp2;go_ret;exact⟨by rw[HN.out];rfl,HC.out,HF.out.map⟩
end Go.Proofs.YtcebmphappfjjaaGreatDoor
