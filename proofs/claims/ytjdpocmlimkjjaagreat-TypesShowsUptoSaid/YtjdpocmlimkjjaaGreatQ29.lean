/- Conditions: those in each statement. -/
import Derived.Test.YtjdpocmlimkjjaaGreatQ20
import Derived.Test.YtjdpocmlimkjjaaGreatQ28
import Derived.Test.YtjdpocmlimkjjaaGreatQ22
set_option maxHeartbeats 32000000
set_option maxRecDepth 100000
namespace Go.Proofs.YtjdpocmlimkjjaaGreat
open Go.RowKit
mutual
def zdq:Ty→List UInt8
 |.mk k n a=>
  if k=1 then ((⟨#[117,110,105,116]⟩:ByteArray):ByteArray).data.toList else if k=2 then ((⟨#[98,111,111,108]⟩:ByteArray):ByteArray).data.toList else if k=3 then ((⟨#[105,110,116]⟩:ByteArray):ByteArray).data.toList else if k=4 then ((⟨#[116,101,120,116]⟩:ByteArray):ByteArray).data.toList
  else if k=6 then n.data.toList
  else if k=7 then (⟨#[114,101,102,32]⟩:ByteArray).data.toList++n.data.toList
  else if k=5 then ([91]++oneL a)++[93]
  else if k=8 then (⟨#[102,117,110,40]⟩:ByteArray).data.toList++funL a true
  else []
def oneL:List Ty→List UInt8
 |[]=>[]
 |t::_=>zdq t
def funL:List Ty→Bool→List UInt8
 |[],_=>[]
 |t::r,first=>if r.isEmpty then (⟨#[41,58,32]⟩:ByteArray).data.toList++zdq t else (if first then [] else (⟨#[44,32]⟩:ByteArray).data.toList)++(zdq t++funL r false)
end
def zqA (t:Ty):ByteArray:=if zbJ t=true then ⟨(zdq t).toArray⟩ else ⟨#[]⟩
theorem zoU (t:Ty) (r:List Ty):oneL (t::r)=zdq t:=by rw[oneL]
theorem zpd (t:Ty) (r:List Ty) (f:Bool):funL (t::r) f=if r.isEmpty then (⟨#[41,58,32]⟩:ByteArray).data.toList++zdq t else (if f then [] else (⟨#[44,32]⟩:ByteArray).data.toList)++(zdq t++funL r false):=by rw[funL]
theorem zgY:∀{l:List Ty} {t:Ty},zbZ l=true→t∈l→zbJ t=true
 |[],t,_,h=>by simp at h
 |x::r,t,h,ht=>by
  rw[zfv,Bool.and_eq_true] at h;rcases List.mem_cons.1 ht with rfl|h2
  ·exact h.1
  ·exact zgY h.2 h2
theorem zmI {B b:Nat} {w0 w:World} {bs:List UInt8} (h:BldE B b w0 w bs) (c:UInt8) (n:Int) (hn:(c.toNat:Int)=n) (hl:bs.length+1≤140737488355328) :
 Calls Tryz.prog 70 #[.pointer (some ⟨b,0,none⟩),.int .u8 n] w (λe w'=>e=.returned .nilIface∧BldE B b w0 w' (bs++[c])):=hn▸zou h c hl
def WrAt (t:Ty):Prop:=∀(B b:Nat) (w0 W:World) (bs:List UInt8) (A:Option Addr) (c:Nat),BldE B b w0 W bs→b<W.heap.size→Rd (Lt B) W (ys t.args) (.slice A t.args.length c)→zbJ t=true→bs.length+(zdq t).length≤140737488355328→
 Calls Tryz.prog 45 #[.pointer (some ⟨b,0,none⟩),.agg #[.int .i64 t.kind,.string t.name,.slice A t.args.length c]] W λe w'=>e=.returned (.tuple #[])∧BldE B b W w' (bs++zdq t)
theorem zqY (k:Int) (nm:ByteArray) (l:List Ty) (IH:∀t∈l,WrAt t):WrAt (.mk k nm l):=by
 intro B b w0 W bs A c hE hbW h hfm hlen;replace h:Rd (Lt B) W (ys l) (.slice A l.length c):=h
 show Calls Tryz.prog 45 #[.pointer (some ⟨b,0,none⟩),.agg #[.int .i64 k,.string nm,.slice A l.length c]] W λe w'=>e=.returned (.tuple #[])∧BldE B b W w' (bs++zdq (.mk k nm l))
 rw[zbJ] at hfm;rw[zdq] at hlen ⊢;have hl:=zmv h;have hc1:=hl.2.1;have hc2:=hl.2.2;obtain⟨w1,h1,b1,c1⟩:=zai W #[.int .i64 k,.string nm,.slice A l.length c] 55;have x0:w1.cell? ⟨W.heap.size,0,none⟩=some (.int .i64 k):=c1.cell 0;have x1:w1.cell? ⟨W.heap.size,1,none⟩=some (.string nm):=c1.cell 1;have x2:w1.cell? ⟨W.heap.size,2,none⟩=some (.slice A l.length c):=c1.cell 2;have E0:=zz (hE.self.below b1);have E1:=zz (hE.self.below b1).self;have HC:=zz c1;have hne:W.heap.size≠b:=by omega
 have h1:_=w1:=h1;have hB:=hE.le;have HR1:Hid (Rd (Lt B) w1 (ys l) (.slice A l.length c)):=zz (Rd.below (ok:=Lt B) b1 (λ_ hb=>Nat.lt_of_lt_of_le hb hB) h);have hb1:b<w1.heap.size:=Nat.lt_of_lt_of_le hbW b1.size;have HI:=zz IH;clear b1 c1 hl h IH hE;rcases (show k=1∨k=2∨k=3∨k=4∨k=6∨k=7∨k=5∨k=8∨(k≠1∧k≠2∧k≠3∧k≠4∧k≠6∧k≠7∧k≠5∧k≠8) by omega) with rfl|rfl|rfl|rfl|rfl|rfl|rfl|rfl|hz
 ·rw[if_pos rfl] at hlen ⊢;have KW:=zz (zbX E1.out (⟨#[117,110,105,116]⟩:ByteArray) hlen);clear hlen hfm;go_enter Tryz.func45,Tryz.ntmps45;go_wp2_with fail;(with_reducible refine KW.out.mono ?_);rintro e w2 ⟨rfl,hb⟩;have HE:=zz (E0.out.trans hb);clear hb x0 x1 x2 h1;go_wp2_with fail
  first|go_end0|refine bodyPost_ret (results_none rfl _ _ _) rfl ?_
  exact⟨rfl,HE.out⟩
 ·rw[if_neg (by omega),if_pos rfl] at hlen ⊢;have KW:=zz (zbX E1.out (⟨#[98,111,111,108]⟩:ByteArray) hlen);clear hlen hfm;go_enter Tryz.func45,Tryz.ntmps45;go_wp2_with fail;(with_reducible refine KW.out.mono ?_);rintro e w2 ⟨rfl,hb⟩;have HE:=zz (E0.out.trans hb);clear hb x0 x1 x2 h1;go_wp2_with fail
  first|go_end0|refine bodyPost_ret (results_none rfl _ _ _) rfl ?_
  exact⟨rfl,HE.out⟩
 ·rw[if_neg (by omega),if_neg (by omega),if_pos rfl] at hlen ⊢;have KW:=zz (zbX E1.out (⟨#[105,110,116]⟩:ByteArray) hlen);clear hlen hfm;go_enter Tryz.func45,Tryz.ntmps45;go_wp2_with fail;(with_reducible refine KW.out.mono ?_);rintro e w2 ⟨rfl,hb⟩;have HE:=zz (E0.out.trans hb);clear hb x0 x1 x2 h1;go_wp2_with fail
  first|go_end0|refine bodyPost_ret (results_none rfl _ _ _) rfl ?_
  exact⟨rfl,HE.out⟩
 ·rw[if_neg (by omega),if_neg (by omega),if_neg (by omega),if_pos rfl] at hlen ⊢;have KW:=zz (zbX E1.out (⟨#[116,101,120,116]⟩:ByteArray) hlen);clear hlen hfm;go_enter Tryz.func45,Tryz.ntmps45;go_wp2_with fail;(with_reducible refine KW.out.mono ?_);rintro e w2 ⟨rfl,hb⟩;have HE:=zz (E0.out.trans hb);clear hb x0 x1 x2 h1;go_wp2_with fail
  first|go_end0|refine bodyPost_ret (results_none rfl _ _ _) rfl ?_
  exact⟨rfl,HE.out⟩
 ·rw[if_neg (by omega),if_neg (by omega),if_neg (by omega),if_neg (by omega),if_pos rfl] at hlen ⊢;have KW:=zz (zbX E1.out nm hlen);clear hlen hfm;go_enter Tryz.func45,Tryz.ntmps45;go_wp2_with fail;(with_reducible refine KW.out.mono ?_);rintro e w2 ⟨rfl,hb⟩;have HE:=zz (E0.out.trans hb);clear hb x0 x1 x2 h1;go_wp2_with fail
  first|go_end0|refine bodyPost_ret (results_none rfl _ _ _) rfl ?_
  exact⟨rfl,HE.out⟩
 ·rw[if_neg (by omega),if_neg (by omega),if_neg (by omega),if_neg (by omega),if_neg (by omega),if_pos rfl] at hlen ⊢;have KW:=zz (zbX E1.out ⟨#[114,101,102,32]⟩ (by have:=hlen;simp at this;show bs.length+4≤_;omega));have hl2:(bs++(⟨#[114,101,102,32]⟩:ByteArray).data.toList).length+nm.size≤140737488355328:=by simp at hlen ⊢;omega
  have HQ:Hid ((bs++(⟨#[114,101,102,32]⟩:ByteArray).data.toList)++nm.data.toList=bs++((⟨#[114,101,102,32]⟩:ByteArray).data.toList++nm.data.toList)):=zz (by rw[List.append_assoc]);obtain⟨R,hR⟩:∃R,bs++((⟨#[114,101,102,32]⟩:ByteArray).data.toList++nm.data.toList)=R:=⟨_,rfl⟩;rw[hR] at HQ ⊢;clear hlen hfm hR;go_enter Tryz.func45,Tryz.ntmps45;go_wp2_with fail;(with_reducible refine KW.out.mono ?_);rintro e w2 ⟨rfl,hb⟩;have u1:w2.cell? ⟨W.heap.size,1,none⟩=some (.string nm):=(hb.cells HC.out hne (by decide)).cell 1;have KW2:=zz (zbX hb.self nm hl2);have HE2:=zz (E0.out.trans hb);clear hb x0 x1 x2 h1;go_wp2_with fail;(with_reducible refine KW2.out.mono ?_);rintro e w3 ⟨rfl,hb⟩;have HE:Hid (BldE B b W w3 R):=zz (by rw[←HQ.out];exact HE2.out.trans hb);clear hb u1;go_wp2_with fail
  first|go_end0|refine bodyPost_ret (results_none rfl _ _ _) rfl ?_
  exact⟨rfl,HE.out⟩
 ·rw[if_neg (by omega),if_neg (by omega),if_neg (by omega),if_neg (by omega),if_neg (by omega),if_neg (by omega),if_pos rfl] at hlen ⊢;rw[if_neg (by omega),if_neg (by omega),if_pos rfl] at hfm;simp only[Bool.and_eq_true,decide_eq_true_eq] at hfm;obtain⟨⟨hnm,hl1⟩,hfl⟩:=hfm;clear hnm;have KW:=zz (zmI E1.out 91 91 rfl (by have:=hlen;simp at this;simp;omega))
  obtain⟨t0,ht0⟩:∃t,l=[t]:=by
   match l,hl1 with
   |[t],_=>exact⟨t,rfl⟩
  have htm:t0∈l:=by rw[ht0];exact List.mem_singleton_self t0
  have hg0:l[0]?=some t0:=by rw[ht0];rfl
  rw[show oneL l=zdq t0 by rw[ht0,zoU]] at hlen ⊢;have hft:=zgY hfl htm;have HIt:=HI.out t0 htm;have hz0:(0:Int)<(l.length:Int):=by omega
  have hz1:0<l.length:=by omega
  have HG0:=zz hg0;obtain⟨R,hR⟩:∃R,bs++(([91]++zdq t0)++[93])=R:=⟨_,rfl⟩;have HQ:Hid (((bs++[91])++zdq t0)++[93]=R):=zz (by rw[←hR];simp);rw[hR];have hl2:(bs++[91]).length+(zdq t0).length≤140737488355328:=by simp at hlen ⊢;omega
  have hl3:((bs++[91])++zdq t0).length+1≤140737488355328:=by simp at hlen ⊢;omega
  have HIT:=zz HIt;clear hlen hR hl1 hfl HIt HI ht0 htm hg0;go_enter Tryz.func45,Tryz.ntmps45;go_wp2_with fail;(with_reducible refine KW.out.mono ?_);rintro e w2 ⟨rfl,hb⟩;have u2:w2.cell? ⟨W.heap.size,2,none⟩=some (.slice A l.length c):=(hb.cells HC.out hne (by decide)).cell 2;obtain⟨bb,off,y,e,hlb,hget,A',c',p0,p1,p2,r5⟩:=zjY (Rd.below (ok:=Lt B) hb.low (λ_ hh=>hh) HR1.out) (i:=0) hz1;subst e;obtain rfl:t0=y:=Option.some.inj (HG0.out.symm.trans hget);have p0:w2.cell? ⟨bb,off,none⟩=some (.int .i64 t0.kind):=by simpa using p0
  have p1:w2.cell? ⟨bb,off+1,none⟩=some (.string t0.name):=by simpa using p1
  have p2:w2.cell? ⟨bb,off+2,none⟩=some (.slice A' t0.args.length c'):=by simpa using p2
  have hbs2:b<w2.heap.size:=Nat.lt_of_lt_of_le hb1 hb.low.size;have KT:=zz (HIT.out B b _ w2 _ A' c' hb hbs2 r5 hft hl2);have HE2:=zz (E0.out.trans hb);have HC2:=zz (hb.cells HC.out hne (by decide));clear hb x0 x1 x2 h1 hget;go_wp2_with fail;(with_reducible refine KT.out.mono ?_);rintro e w3 ⟨rfl,hb⟩;have KW3:=zz (zmI hb.self 93 93 rfl hl3);have HE3:=zz (HE2.out.trans hb);clear hb u2 p0 p1 p2 hlb r5;go_wp2_with fail;(with_reducible refine KW3.out.mono ?_);rintro e w4 ⟨rfl,hb⟩;have HE:Hid (BldE B b W w4 R):=zz (by rw[←HQ.out];exact HE3.out.trans hb);clear hb;go_wp2_with fail
  first|go_end0|refine bodyPost_ret (results_none rfl _ _ _) rfl ?_
  exact⟨rfl,HE.out⟩
 ·rw[if_neg (by omega),if_neg (by omega),if_neg (by omega),if_neg (by omega),if_neg (by omega),if_neg (by omega),if_neg (by omega),if_pos rfl] at hlen ⊢;rw[if_neg (by omega),if_neg (by omega),if_neg (by omega),if_pos rfl] at hfm;simp only[Bool.and_eq_true,decide_eq_true_eq] at hfm;obtain⟨⟨hnm,hl1⟩,hfl⟩:=hfm;clear hnm
  obtain⟨n1,hn1⟩:∃n,l.length=n+1:=by
   cases l with
   |nil=>simp at hl1
   |cons x r=>exact⟨r.length,rfl⟩
  obtain⟨R,hR⟩:∃R,bs++((⟨#[102,117,110,40]⟩:ByteArray).data.toList++funL l true)=R:=⟨_,rfl⟩;have KW:=zz (zbX E1.out ⟨#[102,117,110,40]⟩ (by have:=hlen;simp at this;show bs.length+4≤_;omega));have hRl:R.length≤140737488355328:=by rw[←hR];simpa using hlen
  have HA0:Hid ((bs++(⟨#[102,117,110,40]⟩:ByteArray).data.toList)++funL (l.drop 0) (decide (0=0))=R):=zz (by rw[←hR];simp);rw[hR];have HFL:=zz hfl;have HN:=zz hn1;rw[hn1] at x2 hc1;clear hlen hR hl1 hfl hn1;go_enter Tryz.func45,Tryz.ntmps45;go_wp2_with fail;(with_reducible refine KW.out.mono ?_);rintro e w2 ⟨rfl,hb⟩;have u2:w2.cell? ⟨W.heap.size,2,none⟩=some (.slice A (n1+1) c):=by have:=(hb.cells HC.out hne (by decide)).cell 2;rw[←HN.out];exact this
  have HE2:=zz hb
  obtain⟨ba,off,hA⟩:∃ba off,A=some ⟨ba,off,none⟩:=by
   obtain⟨bb,off,_,e,_⟩:=zjY HR1.out (i:=0) (by rw[HN.out];omega);exact⟨bb,off,e⟩
  subst hA;clear hb x0 x1 x2;go_wp2_with fail;clear u2
  go_loopw [64] (λs64 wr=>∃(i:Nat) (cs:List UInt8),i≤n1∧s64=.int .i64 i∧Hid (cs++funL (l.drop i) (decide (i=0))=R)∧Hid (BldE B b w1 wr cs)) (λs64 _=>n1-(intOf s64).toNat)
  case atStart=>exact⟨0,_,by omega,rfl,HA0,HE2⟩
  case round=>
   clear HA0 HE2;obtain⟨i,cs,hi,rfl,HA,HB⟩:=hrel;have hil:i<l.length:=by rw[HN.out];omega
   obtain⟨bb,off2,y,e,hlb,hget,A',c',p0,p1,p2,r5⟩:=zjY (Rd.below (ok:=Lt B) HB.out.low (λ_ hh=>hh) HR1.out) hil;injection e with e;injection e with e1 e2;subst e1 e2;have hym:=List.mem_of_getElem? hget;have hft:=zgY HFL.out hym;have hbr:b<wr.heap.size:=Nat.lt_of_lt_of_le hb1 HB.out.low.size;have q:=HA.out;rw[zak hget,zpd] at q
   by_cases hlt:i<n1
   ·have hin:(i:Int)<n1:=by omega
    have hem:(l.drop (i+1)).isEmpty=false:=by
     rw[List.isEmpty_eq_false_iff];intro h0;have:=congrArg List.length h0;rw[List.length_drop,HN.out] at this;simp at this;omega
    rw[hem,if_neg (by simp)] at q;obtain⟨w3,hw3,hbx,hcx⟩:=zai wr #[.int .i64 y.kind,.string y.name,.slice A' y.args.length c'] 55;have y0:w3.cell? ⟨wr.heap.size,0,none⟩=some (.int .i64 y.kind):=hcx.cell 0;have y1:w3.cell? ⟨wr.heap.size,1,none⟩=some (.string y.name):=hcx.cell 1;have y2:w3.cell? ⟨wr.heap.size,2,none⟩=some (.slice A' y.args.length c'):=hcx.cell 2;have hEx:=HB.out.below hbx;have HE3:=zz hEx;have hne2:wr.heap.size≠b:=by omega
    have hb3:b<w3.heap.size:=Nat.lt_of_lt_of_le hbr hbx.size;have HR3:Hid (Rd (Lt B) w3 (ys y.args) (.slice A' y.args.length c')):=zz (Rd.below (ok:=Lt B) hbx (λ_ hh=>Nat.lt_of_lt_of_le hh HB.out.le) r5);have HX3:=zz hcx;have HIY:=zz (HI.out y hym)
    by_cases h0:i=0
    ·subst h0;rw[show decide ((0:Nat)=0)=true from rfl,if_pos rfl,List.nil_append] at q;have p0:wr.cell? ⟨ba,off,none⟩=some (.int .i64 y.kind):=by simpa using p0
     have p1:wr.cell? ⟨ba,off+1,none⟩=some (.string y.name):=by simpa using p1
     have p2:wr.cell? ⟨ba,off+2,none⟩=some (.slice A' y.args.length c'):=by simpa using p2
     have hl2:cs.length+(zdq y).length≤140737488355328:=by have:=congrArg List.length q;simp at this;omega
     have KT:=zz (HIY.out B b _ w3 _ A' c' hEx hb3 HR3.out hft hl2);have HQ2:Hid ((cs++zdq y)++funL (l.drop (0+1)) (decide (0+1=0))=R):=zz (by rw[←q];simp);clear q hbx hcx hEx hget hym HA hft hem r5 hlb;go_wp2_with fail;(with_reducible refine KT.out.mono ?_);rintro e w4 ⟨rfl,hb⟩;have HE4:=zz (HE3.out.trans hb);clear hb p0 p1 p2 y0 y1 y2 hw3;go_wp2_with fail;exact⟨⟨1,_,by omega,by go_num,HQ2,HE4⟩,by simp[intOf];omega⟩
    ·rw[decide_eq_false h0,if_neg (by simp)] at q;have hi0:(0:Int)<i:=by omega
     have hl1:cs.length+(⟨#[44,32]⟩:ByteArray).size≤140737488355328:=by have:=congrArg List.length q;simp at this;show cs.length+2≤_;omega
     have hl2:(cs++(⟨#[44,32]⟩:ByteArray).data.toList).length+(zdq y).length≤140737488355328:=by have:=congrArg List.length q;simp at this ⊢;omega
     have KW2:=zz (zbX hEx.self ⟨#[44,32]⟩ hl1);have HQ2:Hid (((cs++(⟨#[44,32]⟩:ByteArray).data.toList)++zdq y)++funL (l.drop (i+1)) (decide (i+1=0))=R):=zz (by rw[←q];simp);clear q hbx hcx hEx hget hym HA hem r5 hlb h0;go_wp2_with fail;(with_reducible refine KW2.out.mono ?_);rintro e w4 ⟨rfl,hb⟩;have hx4:=hb.cells HX3.out hne2 (by decide);have z0:w4.cell? ⟨wr.heap.size,0,none⟩=some (.int .i64 y.kind):=hx4.cell 0;have z1:w4.cell? ⟨wr.heap.size,1,none⟩=some (.string y.name):=hx4.cell 1;have z2:w4.cell? ⟨wr.heap.size,2,none⟩=some (.slice A' y.args.length c'):=hx4.cell 2;have hr4:=Rd.below (ok:=Lt B) hb.low (λ_ hh=>hh) HR3.out;have hb4:b<w4.heap.size:=Nat.lt_of_lt_of_le hb3 hb.low.size;have KT:=zz (HIY.out B b _ w4 _ A' c' hb hb4 hr4 hft hl2);have HE4:=zz (HE3.out.trans hb);clear hb hx4 hr4 p0 p1 p2 y0 y1 y2 hw3;go_wp2_with fail;(with_reducible refine KT.out.mono ?_);rintro e w5 ⟨rfl,hb⟩;have HE5:=zz (HE4.out.trans hb);clear hb z0 z1 z2;go_wp2_with fail;exact⟨⟨i+1,_,by omega,by go_num,HQ2,HE5⟩,by simp[intOf];omega⟩
   ·obtain rfl:i=n1:=by omega
    have hem:(l.drop (i+1)).isEmpty=true:=by
     rw[List.isEmpty_iff];exact List.drop_eq_nil_of_le (by rw[HN.out];omega)
    rw[hem,if_pos rfl] at q;have u2:wr.cell? ⟨W.heap.size,2,none⟩=some (.slice (some ⟨ba,off,none⟩) (i+1) c):=by have:=(HB.out.cells HC.out hne (by decide)).cell 2;rw[←HN.out];exact this
    have hl1:cs.length+(⟨#[41,58,32]⟩:ByteArray).size≤140737488355328:=by have:=congrArg List.length q;simp at this;show cs.length+3≤_;omega
    have hl2:(cs++(⟨#[41,58,32]⟩:ByteArray).data.toList).length+(zdq y).length≤140737488355328:=by have:=congrArg List.length q;simp at this ⊢;omega
    have KW2:=zz (zbX HB.out.self ⟨#[41,58,32]⟩ hl1);have HQ2:Hid ((cs++(⟨#[41,58,32]⟩:ByteArray).data.toList)++zdq y=R):=zz (by rw[←q];simp);have hix:(i:Int)<(i:Int)+1:=by omega
    have HR3:=zz r5;have HX3:=zz (HB.out.cells HC.out hne (by decide));have HIY:=zz (HI.out y hym);have HRr:=zz (Rd.below (ok:=Lt B) HB.out.low (λ_ hh=>hh) HR1.out);clear q hym HA hem r5;go_wp2_with fail;(with_reducible refine KW2.out.mono ?_);rintro e w4 ⟨rfl,hb⟩;have hx4:w4.cell? ⟨W.heap.size,2,none⟩=some (.slice (some ⟨ba,off,none⟩) (i+1) c):=by have:=(hb.cells HX3.out hne (by decide)).cell 2;rw[←HN.out];exact this
    have hlb2:ba<B:=hlb;have z0:=(hb.low.cell (p:=⟨ba,_,none⟩) hlb2).trans p0;have z1:=(hb.low.cell (p:=⟨ba,_,none⟩) hlb2).trans p1;have z2:=(hb.low.cell (p:=⟨ba,_,none⟩) hlb2).trans p2;have hr4:=Rd.below (ok:=Lt B) hb.low (λ_ hh=>hh) HR3.out;have hb4:b<w4.heap.size:=Nat.lt_of_lt_of_le hbr hb.low.size;have KT:=zz (HIY.out B b _ w4 _ A' c' hb hb4 hr4 hft hl2);have HE4:=zz (HB.out.trans hb);clear hb hr4 p0 p1 p2 hget;go_wp2_with fail;(with_reducible refine KT.out.mono ?_);rintro e w5 ⟨rfl,hb⟩;have HE:Hid (BldE B b W w5 R):=zz (by rw[←HQ2.out];exact E0.out.trans (HE4.out.trans hb));clear hb z0 z1 z2 hx4;go_wp2_with fail
    first|go_end0|refine bodyPost_ret (results_none rfl _ _ _) rfl ?_
    exact⟨rfl,HE.out⟩
 ·rw[if_neg (by omega),if_neg (by omega),if_neg (by omega),if_neg (by omega)] at hfm;cases hfm
theorem zmS:∀t:Ty,WrAt t
 |.mk k n a=>zqY k n a (λx _hx=>zmS x)
theorem zmm (t:Ty) (A:Option Addr) (c:Nat) (w:World) (hf:t.fit=true) (hlen:(zdq t).length≤140737488355328) (h:Rd (Lt w.heap.size) w (ys t.args) (.slice A t.args.length c)) :
 Calls Tryz.prog 17 #[.agg #[.int .i64 t.kind,.string t.name,.slice A t.args.length c]] w λe w'=>e=.returned (.string (zqA t))∧Below w.heap.size w w':=by
 obtain⟨w1,h1,b1,c1⟩:=zai w #[.int .i64 t.kind,.string t.name,.slice A t.args.length c] 55;have x0:w1.cell? ⟨w.heap.size,0,none⟩=some (.int .i64 t.kind):=c1.cell 0;have x1:w1.cell? ⟨w.heap.size,1,none⟩=some (.string t.name):=c1.cell 1;have x2:w1.cell? ⟨w.heap.size,2,none⟩=some (.slice A t.args.length c):=c1.cell 2;have KF:=zz (zhn t A c w1 hf (h.belows b1));have HC:=zz c1;have HB1:=zz b1;have HR:=zz h;unfold zqA;obtain⟨fm,hfm⟩:∃f,zbJ t=f:=⟨_,rfl⟩;rw[hfm] at KF ⊢;have HFM:=zz hfm;clear b1 c1 h hf hfm;cases fm with
 |false=>
  rw[if_neg (by simp)];go_enter Tryz.func17,Tryz.ntmps17;go_wp2_with fail;(with_reducible refine KF.out.mono ?_);rintro e w2 ⟨rfl,hb2⟩;have HB2:=zz (zab HB1.out hb2 HB1.out.size);clear hb2 x0 x1 x2 h1;go_wp2_with fail;go_ret;exact⟨rfl,HB2.out⟩
 |true=>
  rw[if_pos rfl];obtain⟨R,hR⟩:∃R,zdq t=R:=⟨_,rfl⟩;have HQ:=zz hR;rw[hR] at hlen ⊢;clear hR;go_enter Tryz.func17,Tryz.ntmps17;go_wp2_with fail;(with_reducible refine KF.out.mono ?_);rintro e w2 ⟨rfl,hb2⟩;have hb12:=zab HB1.out hb2 HB1.out.size;have c2:=zaa hb2 HC.out;have hE:=BldE.new w2;have ba:=zag w2 (.cells #[.pointer none,.slice none 0 0] 96);have hsz:(w2.alloc (.cells #[.pointer none,.slice none 0 0] 96)).heap.size=w2.heap.size+1:=by simp
  obtain⟨w3,h3⟩:∃V,w2.alloc (.cells #[.pointer none,.slice none 0 0] 96)=V:=⟨_,rfl⟩;rw[h3] at hE ba hsz;have c3:=zaa ba c2;have y0:w3.cell? ⟨w.heap.size,0,none⟩=some (.int .i64 t.kind):=c3.cell 0;have y1:w3.cell? ⟨w.heap.size,1,none⟩=some (.string t.name):=c3.cell 1;have y2:w3.cell? ⟨w.heap.size,2,none⟩=some (.slice A t.args.length c):=c3.cell 2;have hb13:=zab hb12 ba hb12.size;have hsw:=hb12.size;have hr3:Rd (Lt w2.heap.size) w3 (ys t.args) (.slice A t.args.length c):=(Rd.below (ok:=Lt w.heap.size) hb13 (λ_ hh=>hh) HR.out).weaken (λ_ hh=>Nat.lt_of_lt_of_le hh hsw);have KW:=zz (zmS t w2.heap.size w2.heap.size w2 w3 [] A c hE (by omega) hr3 HFM.out (by rw[HQ.out];simpa using hlen));have HE3:=zz hb13;have HS:=zz hsw;clear hb2 hb12 c2 c3 hE ba hr3 hb13 x0 x1 x2 h1 KF hsz hsw;go_wp2_with fail;(with_reducible refine KW.out.mono ?_);rintro e w4 ⟨rfl,hb4⟩;rw[HQ.out,List.nil_append] at hb4;have KS:=zz (zlH hb4.self);have HE4:Hid (Below w.heap.size w w4):=zz (HE3.out.trans (hb4.low.mono HS.out));have HS4:Hid (w.heap.size≤w2.heap.size):=HS;clear hb4 KW y0 y1 y2 h3;go_wp2_with fail;(with_reducible refine KS.out.mono ?_);rintro e w5 ⟨rfl,hb5⟩;have HE5:Hid (Below w.heap.size w w5):=zz (HE4.out.trans (hb5.mono HS4.out));clear hb5 KS;go_wp2_with fail;go_ret;exact⟨rfl,HE5.out⟩
theorem zjZ:(Tryz.prog.info? 41).map (λi=>(i.zero,i.size,i.bytes))=some (some (.agg #[.string ⟨#[]⟩,.bool false,.slice none 0 0]),3,48):=by kernel_rfl
theorem zrh:(Tryz.prog.info? 88).map (λi=>(i.zero,i.size,i.bytes))=some (some (.agg #[.string ⟨#[]⟩,.slice none 0 0,.int .i64 0,.string ⟨#[]⟩,.slice none 0 0]),5,88):=by kernel_rfl
theorem zpZ:(Tryz.prog.info? 71).map (λi=>(i.zero,i.size,i.bytes))=some (some (.agg #[.string ⟨#[]⟩,.slice none 0 0,.int .i64 0,.string ⟨#[]⟩,.slice none 0 0,.int .i64 0,.int .i64 0,.int .i64 0,.int .i64 0,.string ⟨#[]⟩,.slice none 0 0]),11,160):=by kernel_rfl
theorem zoZ:(Tryz.prog.info? 50).map (λi=>(i.zero,i.size,i.bytes))=some (some (.agg #[.string ⟨#[]⟩,.slice none 0 0,.int .i64 0,.slice none 0 0,.slice none 0 0,.int .i64 0,.int .i64 0]),7,112):=by kernel_rfl
theorem zjE:(Tryz.prog.info? 34).map (·.size)=some 4:=by kernel_rfl
structure PgSt (w W:World) (lb:Nat→Nat) (T:List Dcl) (At:Option Addr) (ct:Nat) (E:List Eff) (Ae:Option Addr) (ce:Nat) (F:List Fun') (Af:Option Addr) (cf:Nat) (K:List Actr) (Ak:Option Addr) (ck:Nat):Prop where
 low:Below w.heap.size w W
 res:zac W w.heap.size #[.slice none 0 0,.slice none 0 0,.slice none 0 0,.slice none 0 0] 34
 box:zac W (w.heap.size+1) #[.slice At T.length ct,.slice Ae E.length ce,.slice Af F.length cf,.slice Ak K.length ck] 34
 o0:OwnS (Lab w.heap.size (w.heap.size+1) lb 0) 41 3 T.length (zap zfq T) W (.slice At T.length ct)
 o1:OwnS (Lab w.heap.size (w.heap.size+1) lb 1) 88 5 E.length (zap zkH E) W (.slice Ae E.length ce)
 o2:OwnS (Lab w.heap.size (w.heap.size+1) lb 2) 71 11 F.length (zap ziR F) W (.slice Af F.length cf)
 o3:OwnS (Lab w.heap.size (w.heap.size+1) lb 3) 50 7 K.length (zap zhp K) W (.slice Ak K.length ck)
section
variable {w W W':World} {lb lb':Nat→Nat} {T:List Dcl} {At:Option Addr} {ct:Nat} {E:List Eff} {Ae:Option Addr} {ce:Nat} {F:List Fun'} {Af:Option Addr} {cf:Nat} {K:List Actr} {Ak:Option Addr} {ck:Nat}
theorem PgSt.below (h:PgSt w W lb T At ct E Ae ce F Af cf K Ak ck) (k:Below W.heap.size W W'):PgSt w W' lb T At ct E Ae ce F Af cf K Ak ck:=
 ⟨zab h.low k h.low.size,zaa k h.res,zaa k h.box,h.o0.below k,h.o1.below k,h.o2.below k,h.o3.below k⟩
theorem PgSt.drew (h:PgSt w W lb T At ct E Ae ce F Af cf K Ak ck):PgSt w W.drew lb T At ct E Ae ce F Af cf K Ak ck:=h.below (zae (Below.refl _ _) 1)
theorem PgSt.relab (h:PgSt w W lb T At ct E Ae ce F Af cf K Ak ck) (hl:∀q,q<W.heap.size→lb' q=lb q):PgSt w W lb' T At ct E Ae ce F Af cf K Ak ck:=
 ⟨h.low,h.res,h.box,h.o0.sub (λq hq hs=>⟨hs.1,hs.2.1,by rw[hl q hq];exact hs.2.2⟩),h.o1.sub (λq hq hs=>⟨hs.1,hs.2.1,by rw[hl q hq];exact hs.2.2⟩),h.o2.sub (λq hq hs=>⟨hs.1,hs.2.1,by rw[hl q hq];exact hs.2.2⟩),h.o3.sub (λq hq hs=>⟨hs.1,hs.2.1,by rw[hl q hq];exact hs.2.2⟩)⟩
theorem PgSt.grown0 {L:List Dcl} {A':Option Addr} {c':Nat} (h:PgSt w W lb T At ct E Ae ce F Af cf K Ak ck) (hO:OwnS (Lab w.heap.size (w.heap.size+1) lb 0) 41 3 L.length (zap zfq L) W' (.slice A' L.length c')) (hg:W.grownBy W' (Value.slice At T.length ct).ownBlock) :
 PgSt w (W'.setCell ⟨w.heap.size+1,0,none⟩ (.slice A' L.length c')) lb L A' c' E Ae ce F Af cf K Ak ck:=by
 have hch:Chg (Lab w.heap.size (w.heap.size+1) lb 0) W W':=Chg.of_grown hg (λq hq=>(h.o0.below_own q hq).1);have hc2:Chg (λq=>q=w.heap.size+1) W' (W'.setCell ⟨w.heap.size+1,0,none⟩ (.slice A' L.length c')):=(Chg.refl (λq=>q=w.heap.size+1) W').setCell (p:=⟨w.heap.size+1,0,none⟩) (.inl rfl) _;have hl:=h.low.trans (hch.below h.low.size (λq hq=>by have:=hq.1;omega));refine⟨hl.setCell (p:=⟨w.heap.size+1,0,none⟩) (by show w.heap.size≤w.heap.size+1;omega) _,(h.res.keep hch (λhq=>by have:=hq.1;omega)).keep hc2 (by omega),?_,hO.chg hc2 (λj hj _ hs=>hs.2.1 hj),(h.o1.chg hch (λj hj _ hs=>by have:=hj.2.2;have:=hs.2.2;omega)).chg hc2 (λj hj _ hs=>hs.2.1 hj),(h.o2.chg hch (λj hj _ hs=>by have:=hj.2.2;have:=hs.2.2;omega)).chg hc2 (λj hj _ hs=>hs.2.1 hj),(h.o3.chg hch (λj hj _ hs=>by have:=hj.2.2;have:=hs.2.2;omega)).chg hc2 (λj hj _ hs=>hs.2.1 hj)⟩;have:=(h.box.keep hch (λhq=>hq.2.1 rfl)).set 0 (.slice A' L.length c')
 simpa using this
theorem PgSt.grown1 {L:List Eff} {A':Option Addr} {c':Nat} (h:PgSt w W lb T At ct E Ae ce F Af cf K Ak ck) (hO:OwnS (Lab w.heap.size (w.heap.size+1) lb 1) 88 5 L.length (zap zkH L) W' (.slice A' L.length c')) (hg:W.grownBy W' (Value.slice Ae E.length ce).ownBlock) :
 PgSt w (W'.setCell ⟨w.heap.size+1,1,none⟩ (.slice A' L.length c')) lb T At ct L A' c' F Af cf K Ak ck:=by
 have hch:Chg (Lab w.heap.size (w.heap.size+1) lb 1) W W':=Chg.of_grown hg (λq hq=>(h.o1.below_own q hq).1);have hc2:Chg (λq=>q=w.heap.size+1) W' (W'.setCell ⟨w.heap.size+1,1,none⟩ (.slice A' L.length c')):=(Chg.refl (λq=>q=w.heap.size+1) W').setCell (p:=⟨w.heap.size+1,1,none⟩) (.inl rfl) _;have hl:=h.low.trans (hch.below h.low.size (λq hq=>by have:=hq.1;omega));refine⟨hl.setCell (p:=⟨w.heap.size+1,1,none⟩) (by show w.heap.size≤w.heap.size+1;omega) _,(h.res.keep hch (λhq=>by have:=hq.1;omega)).keep hc2 (by omega),?_,(h.o0.chg hch (λj hj _ hs=>by have:=hj.2.2;have:=hs.2.2;omega)).chg hc2 (λj hj _ hs=>hs.2.1 hj),hO.chg hc2 (λj hj _ hs=>hs.2.1 hj),(h.o2.chg hch (λj hj _ hs=>by have:=hj.2.2;have:=hs.2.2;omega)).chg hc2 (λj hj _ hs=>hs.2.1 hj),(h.o3.chg hch (λj hj _ hs=>by have:=hj.2.2;have:=hs.2.2;omega)).chg hc2 (λj hj _ hs=>hs.2.1 hj)⟩;have:=(h.box.keep hch (λhq=>hq.2.1 rfl)).set 1 (.slice A' L.length c')
 simpa using this
theorem PgSt.grown2 {L:List Fun'} {A':Option Addr} {c':Nat} (h:PgSt w W lb T At ct E Ae ce F Af cf K Ak ck) (hO:OwnS (Lab w.heap.size (w.heap.size+1) lb 2) 71 11 L.length (zap ziR L) W' (.slice A' L.length c')) (hg:W.grownBy W' (Value.slice Af F.length cf).ownBlock) :
 PgSt w (W'.setCell ⟨w.heap.size+1,2,none⟩ (.slice A' L.length c')) lb T At ct E Ae ce L A' c' K Ak ck:=by
 have hch:Chg (Lab w.heap.size (w.heap.size+1) lb 2) W W':=Chg.of_grown hg (λq hq=>(h.o2.below_own q hq).1);have hc2:Chg (λq=>q=w.heap.size+1) W' (W'.setCell ⟨w.heap.size+1,2,none⟩ (.slice A' L.length c')):=(Chg.refl (λq=>q=w.heap.size+1) W').setCell (p:=⟨w.heap.size+1,2,none⟩) (.inl rfl) _;have hl:=h.low.trans (hch.below h.low.size (λq hq=>by have:=hq.1;omega));refine⟨hl.setCell (p:=⟨w.heap.size+1,2,none⟩) (by show w.heap.size≤w.heap.size+1;omega) _,(h.res.keep hch (λhq=>by have:=hq.1;omega)).keep hc2 (by omega),?_,(h.o0.chg hch (λj hj _ hs=>by have:=hj.2.2;have:=hs.2.2;omega)).chg hc2 (λj hj _ hs=>hs.2.1 hj),(h.o1.chg hch (λj hj _ hs=>by have:=hj.2.2;have:=hs.2.2;omega)).chg hc2 (λj hj _ hs=>hs.2.1 hj),hO.chg hc2 (λj hj _ hs=>hs.2.1 hj),(h.o3.chg hch (λj hj _ hs=>by have:=hj.2.2;have:=hs.2.2;omega)).chg hc2 (λj hj _ hs=>hs.2.1 hj)⟩;have:=(h.box.keep hch (λhq=>hq.2.1 rfl)).set 2 (.slice A' L.length c')
 simpa using this
theorem PgSt.grown3 {L:List Actr} {A':Option Addr} {c':Nat} (h:PgSt w W lb T At ct E Ae ce F Af cf K Ak ck) (hO:OwnS (Lab w.heap.size (w.heap.size+1) lb 3) 50 7 L.length (zap zhp L) W' (.slice A' L.length c')) (hg:W.grownBy W' (Value.slice Ak K.length ck).ownBlock) :
 PgSt w (W'.setCell ⟨w.heap.size+1,3,none⟩ (.slice A' L.length c')) lb T At ct E Ae ce F Af cf L A' c':=by
 have hch:Chg (Lab w.heap.size (w.heap.size+1) lb 3) W W':=Chg.of_grown hg (λq hq=>(h.o3.below_own q hq).1);have hc2:Chg (λq=>q=w.heap.size+1) W' (W'.setCell ⟨w.heap.size+1,3,none⟩ (.slice A' L.length c')):=(Chg.refl (λq=>q=w.heap.size+1) W').setCell (p:=⟨w.heap.size+1,3,none⟩) (.inl rfl) _;have hl:=h.low.trans (hch.below h.low.size (λq hq=>by have:=hq.1;omega));refine⟨hl.setCell (p:=⟨w.heap.size+1,3,none⟩) (by show w.heap.size≤w.heap.size+1;omega) _,(h.res.keep hch (λhq=>by have:=hq.1;omega)).keep hc2 (by omega),?_,(h.o0.chg hch (λj hj _ hs=>by have:=hj.2.2;have:=hs.2.2;omega)).chg hc2 (λj hj _ hs=>hs.2.1 hj),(h.o1.chg hch (λj hj _ hs=>by have:=hj.2.2;have:=hs.2.2;omega)).chg hc2 (λj hj _ hs=>hs.2.1 hj),(h.o2.chg hch (λj hj _ hs=>by have:=hj.2.2;have:=hs.2.2;omega)).chg hc2 (λj hj _ hs=>hs.2.1 hj),hO.chg hc2 (λj hj _ hs=>hs.2.1 hj)⟩;have:=(h.box.keep hch (λhq=>hq.2.1 rfl)).set 3 (.slice A' L.length c')
 simpa using this
end
theorem zgF {w:World} {g:Nat} {e:TypeId} {cs:Array Value} (u0 u1 u2 u3:Value) (h:zac w g cs e) (hs:cs.size=4) :
 zac ((((w.setCell ⟨g,0,none⟩ u0).setCell ⟨g,1,none⟩ u1).setCell ⟨g,2,none⟩ u2).setCell ⟨g,3,none⟩ u3) g #[u0,u1,u2,u3] e:=by
 have:=(((h.set 0 u0).set 1 u1).set 2 u2).set 3 u3
 have e2:((((cs.setIfInBounds 0 u0).setIfInBounds 1 u1).setIfInBounds 2 u2).setIfInBounds 3 u3)=#[u0,u1,u2,u3]:=by
  apply Array.ext
  ·simp[hs]
  ·intro i h1 h2;simp at h2;rcases (show i=0∨i=1∨i=2∨i=3 by omega) with rfl|rfl|rfl|rfl<;>simp[hs]
 rw[e2] at this;exact this
theorem zhP {w:World} {g:Nat} (u0 u1 u2 u3:Value):Chg (λk=>k=g) w ((((w.setCell ⟨g,0,none⟩ u0).setCell ⟨g,1,none⟩ u1).setCell ⟨g,2,none⟩ u2).setCell ⟨g,3,none⟩ u3):=
 (((((Chg.refl (λk=>k=g) w).setCell (p:=⟨g,0,none⟩) (.inl rfl) u0).setCell (p:=⟨g,1,none⟩) (.inl rfl) u1).setCell (p:=⟨g,2,none⟩) (.inl rfl) u2).setCell (p:=⟨g,3,none⟩) (.inl rfl) u3)
theorem zod {α:Type} {ok:Nat→Prop} {W:World} {g k:Nat} (row:α→Nat→D) (x:α) (hg:ok g) (h:∀j,j<k→∃u,W.cell? ⟨g,j,none⟩=some u∧Rd ok W (row x j) u):Rd ok W (slG k row [x]) (.slice (some ⟨g,0,none⟩) 1 1):=
 Rd.sl_mk (by simp) (by omega) (λ_=>⟨g,0,rfl,hg,λi hi j hj=>by
  obtain rfl:i=0:=by simpa using hi
  obtain⟨u,hu,hd⟩:=h j hj;exact⟨u,by simpa using hu,hd⟩⟩)
end Go.Proofs.YtjdpocmlimkjjaaGreat
