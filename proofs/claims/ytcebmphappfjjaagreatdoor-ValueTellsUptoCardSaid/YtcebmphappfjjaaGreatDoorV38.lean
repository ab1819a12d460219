/- Conditions: those in each statement. -/
import Derived.Test.YtcebmphappfjjaaGreatDoorV37
import Derived.Test.YtcebmphappfjjaaGreatDoorV34
import Derived.Test.YtcebmphappfjjaaGreatDoorV06
import Derived.Test.YtcebmphappfjjaaGreatDoorV04
import Derived.Test.YtcebmphappfjjaaGreatDoorV35
import Derived.Test.YtcebmphappfjjaaGreatDoorV30
set_option maxHeartbeats 32000000
set_option maxRecDepth 100000
namespace Go.Proofs.YtcebmphappfjjaaGreatDoor
open Go.RowKit
theorem zqd:∀{l:List V} {v:V},Pls l->v∈l->Pl v
 |[],_,_,h=>by cases h
 |x::r,v,hp,h=>by
  rw[Pls] at hp;rcases List.mem_cons.1 h with rfl|h
  ·exact hp.1
  ·exact zqd hp.2 h
abbrev shv:=zfO Lib.itoa
abbrev shvs:=zbP Lib.itoa
theorem zlh (v:V) (r:List V) (f:Bool):shvs (v::r) f=(if f then [] else [44,32])++(shv v++shvs r false):=by unfold shvs;rw[zbP]
theorem zmL (f:Bool):shvs [] f=[]:=by unfold shvs;rw[zbP]
def WrV (v:V):Prop:=∀(B b:Nat) (w0 w:World) (bs:List UInt8) (A:Option Addr) (c:Nat),BldE B b w0 w bs->b<w.heap.size->Rd (Lt B) w (vs v.l) (.slice A v.l.length c)->Tab B w->Pl v->v.bulk<=2097152->bs.length+(shv v).length<=1099511627776->
 Calls Tryz.prog 59 #[.pointer (some ⟨b,0,none⟩),.agg #[.int .i64 v.kind,.string v.t,.int .i64 v.n,.int .i64 v.m,.string v.s,.slice A v.l.length c]] w λe w'=>e=.returned (.tuple #[])/\BldE B b w w' (bs++shv v)
theorem zkc (l:List V) (IH:∀v∈l,WrV v) (op en:ByteArray) {B b:Nat} {w0 w:World} {bs:List UInt8} {A:Option Addr} {c:Nat} (hE:BldE B b w0 w bs) (hbw:b<w.heap.size) (h:Rd (Lt B) w (vs l) (.slice A l.length c)) (hT:Tab B w) (hp:Pls l) (hbk:zcl l<=2097152)
 (hlen:bs.length+(op.data.toList++(shvs l true++en.data.toList)).length<=1099511627776) :
 Calls Tryz.prog 107 #[.pointer (some ⟨b,0,none⟩),↑op,.slice A l.length c,↑en] w λe w'=>e=.returned (.tuple #[])/\BldE B b w w' (bs++(op.data.toList++(shvs l true++en.data.toList))):=by
 obtain⟨R,hR⟩:=zn (bs++(op.data.toList++(shvs l true++en.data.toList)));have hRl:R.length<=1099511627776:=by rw[<-hR,List.length_append];exact hlen
 have HA0:Hid ((bs++op.data.toList)++(shvs (l.drop 0) (decide (0=0))++en.data.toList)=R):=zz (by rw[<-hR,List.drop_zero];simp);have KW:=zz (zbd hE.self op (by rw[List.length_append,zai] at hlen;omega));have hl:=zdB l;have hn:l.length<=2097152:=zo
 have HI:=zz IH;have HP:=zz hp;have HR:=zz h;have HT:=zz hT;have HBK:=zz hbk;have hBw:=hE.le;rw[hR];clear hE h hT hp hbk IH hlen hR hl;go_in;go_wp2_with fail;refine zi KW ?_;rintro e w2 ⟨rfl,hb⟩;have HB0:=zz hb;clear hb KW;go_wp2
 go_loopw [15] (λs15 wr=>∃(i:Nat) (cs:List UInt8),i<=l.length/\s15=↑i/\Hid (cs++(shvs (l.drop i) (decide (i=0))++en.data.toList)=R)/\Hid (BldE B b w wr cs)) (λs15 _=>l.length-(intOf s15).toNat)
 case atStart=>exact⟨0,_,zo,rfl,HA0,HB0⟩
 case round=>
  clear HA0 HB0;obtain⟨i,cs,hi,rfl,HA,HB⟩:=hrel
  by_cases hlt:i<l.length
  ·obtain⟨bb,off,k,t,n,m,s,l1,A1,c1,e,hlb,hget,p0,p1,p2,p3,p4,p5,r5⟩:=zrO (Rd.below (ok:=Lt B) HB.out.low (λ_ hh=>hh) HR.out) hlt;subst e;have hin:(i:Int)<l.length:=zo
   have hm:=List.mem_of_getElem? hget;have hbk1:=zeK _ _ _ hget;have hbr:b<wr.heap.size:=Nat.lt_of_lt_of_le hbw HB.out.low.size;have q:=HA.out;rw[show l.drop i=V.mk k t n m s l1::l.drop (i+1) by obtain⟨h1,h2⟩:=List.getElem?_eq_some_iff.1 hget;rw[<-h2];exact List.drop_eq_getElem_cons h1,zlh] at q;obtain⟨w3,hw3,hbx,hcx⟩:=zaj wr #[↑k,↑t,↑n,↑m,↑s,.slice A1 l1.length c1] 24;have hEx:=HB.out.below hbx;have HE3:=zz hEx;have hne2:wr.heap.size≠b:=zo
   have hb3:b<w3.heap.size:=Nat.lt_of_lt_of_le hbr hbx.size;have hr3:Rd (Lt B) w3 (vs l1) (.slice A1 l1.length c1):=Rd.below (ok:=Lt B) hbx (λ_ hh=>Nat.lt_of_lt_of_le hh HB.out.le) r5;have ht3:=HT.out.on hEx.low;have HIY:=zz (HI.out _ hm);have HPY:=zz (zqd HP.out hm);have hbk2:=HBK.out;have hbv:(V.mk k t n m s l1).bulk<=2097152:=zo
   by_cases h0:i=0
   ·subst h0;rw[show decide ((0:Nat)=0)=true from rfl,if_pos rfl,List.nil_append] at q;have p0:wr.cell? ⟨bb,off,none⟩=some ↑k:=by simpa using p0
    have p1:wr.cell? ⟨bb,off+1,none⟩=some ↑t:=by simpa using p1
    have p2:wr.cell? ⟨bb,off+2,none⟩=some ↑n:=by simpa using p2
    have p3:wr.cell? ⟨bb,off+3,none⟩=some ↑m:=by simpa using p3
    have p4:wr.cell? ⟨bb,off+4,none⟩=some ↑s:=by simpa using p4
    have p5:wr.cell? ⟨bb,off+5,none⟩=some (.slice A1 l1.length c1):=by simpa using p5
    have hl2:cs.length+(shv (V.mk k t n m s l1)).length<=1099511627776:=by have:=congrArg List.length q;rw[List.length_append,List.length_append,List.length_append] at this;omega
    have KT:=zz (HIY.out B b _ w3 _ A1 c1 hEx hb3 hr3 ht3 HPY.out hbv hl2);have HQ2:Hid ((cs++shv (V.mk k t n m s l1))++(shvs (l.drop (0+1)) (decide (0+1=0))++en.data.toList)=R):=zz (by rw[<-q];simp);have y0:=hcx.a 0 rfl;have y1:=hcx.a 1 rfl;have y2:=hcx.a 2 rfl;have y3:=hcx.a 3 rfl;have y4:=hcx.a 4 rfl;have y5:=hcx.a 5 rfl;clear q hbx hcx hEx hget hm HA r5 hlb hr3 ht3 hbk1 hbk2 hl2 hbv;go_wp2_with fail;refine KT.out.mono ?_;rintro e w4 ⟨rfl,hb⟩;have HE4:=zz (HE3.out.trans hb);clear hb p0 p1 p2 p3 p4 p5 y0 y1 y2 y3 y4 y5 hw3;go_wp2;exact⟨⟨1,_,zo,by go_num,HQ2,HE4⟩,by simp[intOf];omega⟩
   ·rw[decide_eq_false h0,if_neg zs] at q;have hi0:(0:Int)<i:=zo
    have hl0:=congrArg List.length q;rw[List.length_append,List.length_append,List.length_append,List.length_append] at hl0;have hl1:cs.length+(⟨#[44,32]⟩:ByteArray).size<=140737488355328:=by show cs.length+2<=_;omega
    have KW2:=zz (zbd hEx.self ⟨#[44,32]⟩ hl1);have HQ2:Hid (((cs++(⟨#[44,32]⟩:ByteArray).data.toList)++shv (V.mk k t n m s l1))++(shvs (l.drop (i+1)) (decide (i+1=0))++en.data.toList)=R):=zz (by rw[<-q];simp);have hl2:(cs++(⟨#[44,32]⟩:ByteArray).data.toList).length+(shv (V.mk k t n m s l1)).length<=1099511627776:=by simp at hl0 ⊢;omega
    have HX3:=zz hcx;have HR3:=zz hr3;have HT3:=zz ht3;clear q hbx hcx hEx hget hm HA r5 hlb h0 hr3 ht3 hbk1 hbk2 hl0 hl1;go_wp2_with fail;refine zi KW2 ?_;rintro e w4 ⟨rfl,hb⟩;have hx4:=hb.cells HX3.out hne2 zd;have z0:=hx4.a 0 rfl;have z1:=hx4.a 1 rfl;have z2:=hx4.a 2 rfl;have z3:=hx4.a 3 rfl;have z4:=hx4.a 4 rfl;have z5:=hx4.a 5 rfl;have hb4:b<w4.heap.size:=Nat.lt_of_lt_of_le hb3 hb.low.size;have KT:=zz (HIY.out B b _ w4 _ A1 c1 hb hb4 (Rd.below (ok:=Lt B) hb.low (λ_ hh=>hh) HR3.out) (HT3.out.on hb.low) HPY.out hbv hl2);have HE4:=zz (HE3.out.trans hb);clear hb hx4 p0 p1 p2 p3 p4 p5 hw3 hl2 hbv;go_wp2_with fail;refine KT.out.mono ?_;rintro e w5 ⟨rfl,hb⟩;have HE5:=zz (HE4.out.trans hb);clear hb z0 z1 z2 z3 z4 z5;go_wp2;exact⟨⟨i+1,_,zo,by go_num,HQ2,HE5⟩,by simp[intOf];omega⟩
  ·obtain rfl:i=l.length:=zo
   have q:=HA.out;rw[List.drop_eq_nil_of_le (Nat.le_refl _),zmL,List.nil_append] at q;have hl:=congrArg List.length q;rw[List.length_append,zai] at hl;have KW:=zz (zbd HB.out en zo);have HQ:=zz q;clear HA q hl;go_wp2_with fail;refine zi KW ?_;rintro e w4 ⟨rfl,hb⟩;rw[HQ.out] at hb;have HB2:=zz hb;clear hb;go_wp2
   first|go_end0|refine bodyPost_ret (results_none rfl _ _ _) rfl ?_
   exact⟨rfl,HB2.out⟩
theorem zrv (k:Int) (t:ByteArray) (n m:Int) (s:ByteArray) (l:List V) (IH:∀v∈l,WrV v):WrV (.mk k t n m s l):=by
 intro B b w0 w bs A c hE hbW h hT hP hbk hlen;replace h:Rd (Lt B) w (vs l) (.slice A l.length c):=h
 show Calls Tryz.prog 59 #[.pointer (some ⟨b,0,none⟩),.agg #[↑k,↑t,↑n,↑m,↑s,.slice A l.length c]] w λe w'=>e=.returned (.tuple #[])/\BldE B b w w' (bs++shv (.mk k t n m s l))
 rw[Pl] at hP;unfold shv at hlen ⊢;rw[zfO] at hlen ⊢;rw[zbv] at hbk;obtain⟨rfl,hP⟩:=hP;obtain⟨w1,h1,b1,c1⟩:=zaj w #[↑k,↑t,↑n,↑(),↑s,.slice A l.length c] 24;have x0:=c1.a 0 rfl;have x1:=c1.a 1 rfl;have x2:=c1.a 2 rfl;have x4:=c1.a 4 rfl;have x5:=c1.a 5 rfl;have E0:=zz (hE.self.below b1);have E1:=zz (hE.self.below b1).self;have HC:=zz c1;have hne:w.heap.size≠b:=zo
 have h1:_=w1:=h1;have hB:=hE.le;have HR1:Hid (Rd (Lt B) w1 (vs l) (.slice A l.length c)):=zz (Rd.below (ok:=Lt B) b1 (λ_ hb=>Nat.lt_of_lt_of_le hb hB) h);have HT:=zz (hT.on (hE.self.below b1).low);have hb1:b<w1.heap.size:=Nat.lt_of_lt_of_le hbW b1.size;have HI:=zz IH;clear b1 c1 h IH hE hT;rcases hP with ⟨rfl,rfl,rfl,rfl,rfl⟩|⟨rfl,rfl,hn,rfl,rfl⟩|⟨rfl,rfl,hn,rfl,rfl⟩|⟨rfl,rfl,rfl,rfl⟩|⟨rfl,rfl,rfl,rfl,hl⟩|⟨rfl,ht,rfl,rfl,hl⟩|⟨rfl,ht,hn,rfl,hl⟩|⟨rfl,ht,rfl,hs,rfl⟩
 ·rw[List.length_nil] at h1;rw[if_pos rfl] at hlen ⊢;have KW:=zz (zbd E1.out ⟨#[40,41]⟩ (by simp at hlen;show bs.length+2<=_;omega));clear hlen;go_in;go_wp2_with fail;refine zi KW ?_;rintro e w2 ⟨rfl,hb⟩;have HE2:=zz (E0.out.trans hb);clear hb;clear x0 x1 x2 x4 x5 h1;go_wp2
  first|go_end0|refine bodyPost_ret (results_none rfl _ _ _) rfl ?_
  exact⟨rfl,HE2.out⟩
 ·rw[List.length_nil] at h1;rw[if_neg zo,if_pos rfl] at hlen ⊢;rcases hn with rfl|rfl
  ·rw[if_neg zo] at hlen ⊢;have KW:=zz (zbd E1.out ⟨#[102,97,108,115,101]⟩ (by simp at hlen;show bs.length+5<=_;omega));clear hlen;go_in;go_wp2_with fail;refine zi KW ?_;rintro e w2 ⟨rfl,hb⟩;have HE2:=zz (E0.out.trans hb);clear hb;clear x0 x1 x2 x4 x5 h1;go_wp2
   first|go_end0|refine bodyPost_ret (results_none rfl _ _ _) rfl ?_
   exact⟨rfl,HE2.out⟩
  ·rw[if_pos rfl] at hlen ⊢;have KW:=zz (zbd E1.out ⟨#[116,114,117,101]⟩ (by simp at hlen;show bs.length+4<=_;omega));clear hlen;go_in;go_wp2_with fail;refine zi KW ?_;rintro e w2 ⟨rfl,hb⟩;have HE2:=zz (E0.out.trans hb);clear hb;clear x0 x1 x2 x4 x5 h1;go_wp2
   first|go_end0|refine bodyPost_ret (results_none rfl _ _ _) rfl ?_
   exact⟨rfl,HE2.out⟩
 ·rw[List.length_nil] at h1;rw[if_neg zo,if_neg zo,if_pos rfl] at hlen ⊢;have KN:=zz (zkJ n (by have:=hn.1;omega) (by have:=hn.2;omega) B w1 HT.out);have hln:(Lib.itoa n).length=(⟨(Lib.itoa n).toArray⟩:ByteArray).size:=by simp[ByteArray.size]
  have hl2:bs.length+(⟨(Lib.itoa n).toArray⟩:ByteArray).size<=140737488355328:=zo
  clear hlen hln hn;go_in;go_wp2_with fail;refine zi KN ?_;rintro e w2 ⟨rfl,hb⟩;have hEn:=E0.out.below hb;have KM:=zz (zbd hEn.self ⟨(Lib.itoa n).toArray⟩ (hl2));have HEn:=zz hEn;have HCn:=zz (zaa hb HC.out);clear hb hEn;go_wp2_with fail;refine zi KM ?_;rintro e w3 ⟨rfl,hb⟩;have HE3:=zz (HEn.out.trans hb);have HE:Hid (BldE B b w w3 (bs++Lib.itoa n)):=zz (by have:=HE3.out;simpa using this);clear hb x0 x1 x2 x4 x5 h1;go_wp2
  first|go_end0|refine bodyPost_ret (results_none rfl _ _ _) rfl ?_
  exact⟨rfl,HE.out⟩
 ·rw[List.length_nil] at h1;rw[if_neg zo,if_neg zo,if_neg zo,if_pos rfl] at hlen ⊢;have KW:=zz (zpc E1.out s zo zo);clear hlen;go_in;go_wp2_with fail;refine zi KW ?_;rintro e w2 ⟨rfl,hb⟩;have HE2:=zz (E0.out.trans hb);clear hb;clear x0 x1 x2 x4 x5 h1;go_wp2
  first|go_end0|refine bodyPost_ret (results_none rfl _ _ _) rfl ?_
  exact⟨rfl,HE2.out⟩
 ·rw[if_neg zo,if_neg zo,if_neg zo,if_neg zo,if_pos rfl] at hlen ⊢;have hsh:(91::(zbP Lib.itoa l true++[93]))=(⟨#[91]⟩:ByteArray).data.toList++(shvs l true++(⟨#[93]⟩:ByteArray).data.toList):=rfl;rw[hsh] at hlen ⊢;have KW:=zz (zkc l HI.out ⟨#[91]⟩ ⟨#[93]⟩ E1.out hb1 HR1.out HT.out hl zo hlen);clear hlen hl hsh;go_in;go_wp2_with fail;refine zi KW ?_;rintro e w2 ⟨rfl,hb⟩;have HE2:=zz (E0.out.trans hb);clear hb;clear x0 x1 x2 x4 x5 h1;go_wp2
  first|go_end0|refine bodyPost_ret (results_none rfl _ _ _) rfl ?_
  exact⟨rfl,HE2.out⟩
 ·rw[if_neg zo,if_neg zo,if_neg zo,if_neg zo,if_neg zo,if_pos rfl] at hlen ⊢;have hsh:bl t++123::(zbP Lib.itoa l true++[125])=bl t++((⟨#[123]⟩:ByteArray).data.toList++(shvs l true++(⟨#[125]⟩:ByteArray).data.toList)):=rfl;rw[hsh,<-List.append_assoc];rw[hsh,List.length_append] at hlen;have hts:=zai t;have KW:=zz (zbd E1.out t zo);have hl2:(bs++bl t).length+((⟨#[123]⟩:ByteArray).data.toList++(shvs l true++(⟨#[125]⟩:ByteArray).data.toList)).length<=1099511627776:=by rw[List.length_append];omega
  have HL:=zz hl;have hbl:zcl l<=2097152:=zo
  clear hlen hl hsh ht hts;go_in;go_wp2_with fail;refine zi KW ?_;rintro e w2 ⟨rfl,hb⟩;have HE2:=zz (E0.out.trans hb);have u5:=(hb.cells HC.out hne zd).a 5 rfl;have KA:=zz (zkc l HI.out ⟨#[123]⟩ ⟨#[125]⟩ hb.self (Nat.lt_of_lt_of_le hb1 hb.low.size) (Rd.below (ok:=Lt B) hb.low (λ_ hh=>hh) HR1.out) (HT.out.on hb.low) HL.out hbl hl2);clear hb x0 x1 x2 x4 x5 h1 hl2;go_wp2_with fail;refine zi KA ?_;rintro e w3 ⟨rfl,hb⟩;have HE:=zz (HE2.out.trans hb);clear hb u5;go_wp2
  first|go_end0|refine bodyPost_ret (results_none rfl _ _ _) rfl ?_
  exact⟨rfl,HE.out⟩
 ·rw[if_neg zo,if_neg zo,if_neg zo,if_neg zo,if_neg zo,if_neg zo,if_pos rfl] at hlen ⊢;have hsh:bl t++35::(Lib.itoa n++40::(zbP Lib.itoa l true++[41]))=(bl t++[35])++(Lib.itoa n++((⟨#[40]⟩:ByteArray).data.toList++(shvs l true++(⟨#[41]⟩:ByteArray).data.toList))):=by simp
  rw[hsh,<-List.append_assoc,<-List.append_assoc bs,<-List.append_assoc];rw[hsh] at hlen;simp only[List.length_append,List.length_cons,List.length_nil] at hlen;have hts:=zai t;have KW:=zz (zbd E1.out t zo);have hln:(Lib.itoa n).length=(⟨(Lib.itoa n).toArray⟩:ByteArray).size:=by simp[ByteArray.size]
  have hl2:(((bs++bl t)++[35])++Lib.itoa n).length+((⟨#[40]⟩:ByteArray).data.toList++(shvs l true++(⟨#[41]⟩:ByteArray).data.toList)).length<=1099511627776:=by simp only[List.length_append,List.length_cons,List.length_nil] at hlen ⊢;omega
  have hl3:((bs++bl t)++[35]).length+(⟨(Lib.itoa n).toArray⟩:ByteArray).size<=140737488355328:=by simp only[List.length_append,List.length_cons,List.length_nil] at hlen ⊢;omega
  have hl4:(bs++bl t).length+1<=140737488355328:=by rw[List.length_append];omega
  have HL:=zz hl;have HN:=zz hn;have hbl:zcl l<=2097152:=zo
  clear hlen hl hsh ht hts hn hln;go_in;go_wp2_with fail;refine zi KW ?_;rintro e w2 ⟨rfl,hb⟩;have HE2:=zz (E0.out.trans hb);have KB:=zz (zew hb.self 35 35 rfl hl4);have HC2:=zz (hb.cells HC.out hne zd);have HL2:=zz hb.low;clear hb x0 x1 x2 x4 x5 h1;go_wp2_with fail;refine zi KB ?_;rintro e w3 ⟨rfl,hb⟩;have HE3:=zz (HE2.out.trans hb);have HC3:=zz (hb.cells HC2.out hne zd);have HL3:=zz (HL2.out.trans hb.low);have u2:=HC3.out.a 2 rfl;have KN:=zz (zkJ n (by have:=HN.out.1;omega) (by have:=HN.out.2;omega) B w3 (HT.out.on HL3.out));clear hb;go_wp2_with fail;refine zi KN ?_;rintro e w4 ⟨rfl,hb⟩;have hEn:=HE3.out.below hb;have KM:=zz (zbd hEn.self ⟨(Lib.itoa n).toArray⟩ hl3);have HC4:=zz (zaa hb HC3.out);have HL4:=zz (HL3.out.trans (hb.mono HE3.out.le));have HE4:=zz hEn;clear hb hEn u2;go_wp2_with fail;refine zi KM ?_;rintro e w5 ⟨rfl,hb⟩;replace hb:BldE B b w4 w5 ((((bs++bl t)++[35]))++Lib.itoa n):=by simpa using hb
  have HE5:=zz (HE4.out.trans hb);have u5:=(hb.cells HC4.out hne zd).a 5 rfl;have KA:=zz (zkc l HI.out ⟨#[40]⟩ ⟨#[41]⟩ hb.self (Nat.lt_of_lt_of_le hb1 (HL4.out.trans hb.low).size) (Rd.below (ok:=Lt B) (HL4.out.trans hb.low) (λ_ hh=>hh) HR1.out) (HT.out.on (HL4.out.trans hb.low)) HL.out hbl hl2);clear hb hl2 hl3 hl4;go_wp2_with fail;refine zi KA ?_;rintro e w6 ⟨rfl,hb⟩;have HE:=zz (HE5.out.trans hb);clear hb u5;go_wp2
  first|go_end0|refine bodyPost_ret (results_none rfl _ _ _) rfl ?_
  exact⟨rfl,HE.out⟩
 ·rw[List.length_nil] at h1;rw[if_neg zo,if_neg zo,if_neg zo,if_neg zo,if_neg zo,if_neg zo,if_neg zo] at hlen ⊢;have hsh:bs++(bl t++64::bl s)=((bs++bl t)++[64])++bl s:=by simp
  rw[hsh];have hts:=zai t;have hss:=zai s;rw[List.length_append,List.length_cons] at hlen;have KW:=zz (zbd E1.out t zo);have hl4:(bs++bl t).length+1<=140737488355328:=by rw[List.length_append];omega
  have hl5:((bs++bl t)++[64]).length+s.size<=140737488355328:=by simp only[List.length_append,List.length_cons,List.length_nil];omega
  clear hlen hsh ht hs hts hss;go_in;go_wp2_with fail;refine zi KW ?_;rintro e w2 ⟨rfl,hb⟩;have HE2:=zz (E0.out.trans hb);have KB:=zz (zew hb.self 64 64 rfl hl4);have HC2:=zz (hb.cells HC.out hne zd);clear hb x0 x1 x2 x4 x5 h1;go_wp2_with fail;refine zi KB ?_;rintro e w3 ⟨rfl,hb⟩;have HE3:=zz (HE2.out.trans hb);have u4:=(hb.cells HC2.out hne zd).a 4 rfl;have KM:=zz (zbd hb.self s hl5);clear hb;go_wp2_with fail;refine zi KM ?_;rintro e w4 ⟨rfl,hb⟩;have HE:=zz (HE3.out.trans hb);clear hb u4;go_wp2
  first|go_end0|refine bodyPost_ret (results_none rfl _ _ _) rfl ?_
  exact⟨rfl,HE.out⟩
theorem zqW:∀v:V,WrV v
 |.mk k t n m s l=>zrv k t n m s l (λx _=>zqW x)
theorem zoy (k:Int) (t:ByteArray) (n m:Int) (s:ByteArray) (l:List V) (A:Option Addr) (c:Nat) (w:World) (ht:t.size<=2097152) (hs:s.size<=2097152) :
 Calls Tryz.prog 87 #[.agg #[↑k,↑t,↑n,↑m,↑s,.slice A l.length c]] w λe w'=>e=.returned (.bool (zdZ (.mk k t n m s l)))/\Below w.heap.size w w':=by
 have K:=zz (λW=>zkB k t n m s l A c W ht hs);have HB:=zz ((Below.refl w.heap.size w).alloc (Nat.le_refl _) (.cells #[↑k,↑t,↑n,↑m,↑s,.slice A l.length c] 24));have HU:Hid (zdZ (.mk k t n m s l)=((k != 9)&&(k != 10)&&zbL (.mk k t n m s l))):=zz rfl;generalize zdZ (.mk k t n m s l)=R at *
 clear ht hs
 by_cases h9:k=9
 ·subst h9;go_in;go_wp2;go_ret;exact⟨by rw[HU.out];rfl,HB.out⟩
 ·by_cases h10:k=10
  ·subst h10;go_in;go_wp2;go_ret;exact⟨by rw[HU.out];rfl,HB.out⟩
  ·go_in;go_wp2_with fail;refine(K.out _).mono ?_;rintro e w2 ⟨rfl,hb⟩;have HB2:=zz (HB.out.trans (hb.mono HB.out.size));clear hb;go_wp2;go_ret;exact⟨by rw[HU.out];rfl,HB2.out⟩
mutual
theorem zhw:∀(v:V),v.bulk<=2097152->v.All (zli 87 zdZ)
 |.mk k t n m s l,h=>by
  rw[zbv] at h;rw[V.All];refine⟨λk' t' n' m' s' l' e W A c _=>?_,zgT l zo⟩;injection e with e1 e2 e3 e4 e5 e6;subst e1 e2 e3 e4 e5 e6;exact zoy k t n m s l A c W zo zo
theorem zgT:∀(l:List V),zcl l<=2097152->AllV (zli 87 zdZ) l
 |[],_=>by rw[AllV];trivial
 |v::r,h=>by
  rw[zbK] at h;rw[AllV];exact⟨zhw v zo,zgT r zo⟩
end
theorem zhy (k:Int) (t:ByteArray) (n m:Int) (s:ByteArray) (l:List V) (A:Option Addr) (c:Nat) (w:World) (hb:(V.mk k t n m s l).bulk<=2097152) (hr:Rd (Lt w.heap.size) w (vs l) (.slice A l.length c)) :
 Calls Tryz.prog 48 #[.agg #[↑k,↑t,↑n,↑m,↑s,.slice A l.length c]] w λe w'=>e=.returned (.bool (zfN (.mk k t n m s l)))/\Below w.heap.size w w':=by
 have HC:=zz (λW hG hRd=>zpr 87 (λ_ _=>by kernel_rfl) zdZ (w.heap.size+1) w.heap.size _ k t n m s l 16384 A c W (Nat.le_refl _) hb zo (zhw _ hb) hG zo hRd);have HR:=zz hr;clear hr hb;go_in;go_wp2_with fail;(with_reducible refine(HC.out _ ?_ ?_).mono ?_)
 ·exact heap_alloc2_new _ _ _
 ·exact HR.out.below (((Below.refl _ _).alloc (Nat.le_refl _) _).alloc zs _) (λ_ h=>h)
 rintro e w1 ⟨rfl,_,hg⟩;have HG:=zz hg;clear hg;go_wp2;go_ret;refine⟨rfl,?_⟩;have hb2:Below w.heap.size w ((w.alloc (.cells #[↑k,↑t,↑n,↑m,↑s,.slice A l.length c] 24)).alloc (.cells #[.int .i64 16384] 3)):=((Below.refl _ _).alloc (Nat.le_refl _) _).alloc zs _;exact hb2.grown HG.out (by simp;omega) (λq hq=>by injection hq with hq;omega)
theorem zmo:∀(k u:Nat),u<10 ^ (k+1)->(Lib.decDigits u).length<=k+1
 |k,u,h=>by
  rw[Lib.decDigits]
  split
  ·simp
  ·cases k with
   |zero=>omega
   |succ k=>
    have:=zmo k (u / 10) (by rw[Nat.pow_succ] at h;omega);rw[List.length_append,List.length_singleton];omega
theorem zst (n:Int) (h:inRg n):(Lib.itoa n).length<=20:=by
 obtain⟨h1,h2⟩:=h;unfold Lib.itoa
 split
 ·have:=zmo 16 n.natAbs zo;rw[List.length_cons];omega
 ·have:=zmo 16 n.toNat zo;omega
mutual
theorem zpC:∀v:V,Pl v->(shv v).length+2<=32*v.bulk
 |.mk k t n m s l,h=>by
  have ht:(bl t).length=t.size:=zai t;have hs:(bl s).length=s.size:=zai s;have hq:(List.flatMap escL (bl s)).length<=2*(bl s).length:=zqy (bl s);rw[Pl] at h;rw[zbv];unfold shv;rw[zfO];obtain⟨_,h⟩:=h;have hI:∀n:Int,inRg n->(Lib.itoa n).length<=20:=λn hn=>zst n hn;rcases h with ⟨rfl,_⟩|⟨rfl,_⟩|⟨rfl,_,hn,_⟩|⟨rfl,_⟩|⟨rfl,_,_,_,hl⟩|⟨rfl,_,_,_,hl⟩|⟨rfl,_,hn,_,hl⟩|⟨rfl,_⟩
  ·simp;omega
  ·rw[if_neg zo,if_pos rfl];split<;>(simp;omega)
  ·have:=hI n hn;rw[if_neg zo,if_neg zo,if_pos rfl];omega
  ·rw[if_neg zo,if_neg zo,if_neg zo,if_pos rfl];unfold zoS;simp only[List.length_cons,List.length_append,List.length_nil];omega
  ·have:=zhi l true hl;rw[if_neg zo,if_neg zo,if_neg zo,if_neg zo,if_pos rfl];simp only[List.length_cons,List.length_append,List.length_nil];unfold shvs at this;omega
  ·have:=zhi l true hl;rw[if_neg zo,if_neg zo,if_neg zo,if_neg zo,if_neg zo,if_pos rfl];simp only[List.length_cons,List.length_append,List.length_nil];unfold shvs at this;omega
  ·have h9:=hI n hn;have:=zhi l true hl;rw[if_neg zo,if_neg zo,if_neg zo,if_neg zo,if_neg zo,if_neg zo,if_pos rfl];simp only[List.length_cons,List.length_append,List.length_nil];unfold shvs at this;omega
  ·rw[if_neg zo,if_neg zo,if_neg zo,if_neg zo,if_neg zo,if_neg zo,if_neg zo];simp only[List.length_cons,List.length_append];omega
theorem zhi:∀(l:List V) (f:Bool),Pls l->(shvs l f).length<=32*zcl l
 |[],f,_=>by rw[zmL];simp
 |v::r,f,h=>by
  rw[Pls] at h;have h1:=zpC v h.1;have h2:=zhi r false h.2;have h3:7<=v.bulk:=by cases v;rw[zbv];omega
  rw[zlh,zbK,List.length_append,List.length_append];have:(if f=true then ([]:List UInt8) else [44,32]).length<=2:=by split<;>simp
  omega
end
theorem zqB (k:Int) (t:ByteArray) (n m:Int) (s:ByteArray) (l:List V) (A:Option Addr) (c:Nat) (w:World) (hb:(V.mk k t n m s l).bulk<=2097152) (hT:Tab w.heap.size w) (hr:Rd (Lt w.heap.size) w (vs l) (.slice A l.length c)) :
 Calls Tryz.prog 28 #[.agg #[↑k,↑t,↑n,↑m,↑s,.slice A l.length c]] w λe w'=>e=.returned (.string (zoQ (.mk k t n m s l)))/\Below w.heap.size w w':=by
 obtain⟨w1,h1,b1,c1⟩:=zaj w #[↑k,↑t,↑n,↑m,↑s,.slice A l.length c] 24;have x0:=c1.a 0 rfl;have x1:=c1.a 1 rfl;have x2:=c1.a 2 rfl;have x3:=c1.a 3 rfl;have x4:=c1.a 4 rfl;have x5:=c1.a 5 rfl;have KP:=zz (zhy k t n m s l A c w1 hb (hr.belows b1));have HC:=zz c1;have HB1:=zz b1;have HR:=zz hr;have HT:=zz hT;have HBK:=zz hb;unfold zoQ;obtain⟨pl,hpl⟩:=zn (zfN (.mk k t n m s l));rw[hpl] at KP ⊢;have HP:=zz hpl;clear b1 c1 hr hb hpl hT;cases pl with
 |false=>
  rw[if_neg zs];go_in;go_wp2_with fail;refine zi KP ?_;rintro e w2 ⟨rfl,hb2⟩;have HB2:=zz (zac HB1.out hb2 HB1.out.size);clear hb2 x0 x1 x2 x3 x4 x5 h1;go_wp2;go_ret;exact⟨rfl,HB2.out⟩
 |true=>
  rw[if_pos rfl];obtain⟨R,hR⟩:=zn (zfO Lib.itoa (.mk k t n m s l));have HQ:=zz hR;rw[hR];clear hR;go_in;go_wp2_with fail;refine zi KP ?_;rintro e w2 ⟨rfl,hb2⟩;have hb12:=zac HB1.out hb2 HB1.out.size;have c2:=zaa hb2 HC.out;have hE:=BldE.new w2;have ba:=zag w2 (.cells #[.pointer none,.slice none 0 0] 101);have hsz:(w2.alloc (.cells #[.pointer none,.slice none 0 0] 101)).heap.size=w2.heap.size+1:=by simp
  obtain⟨w3,h3⟩:=zn (w2.alloc (.cells #[.pointer none,.slice none 0 0] 101));rw[h3] at hE ba hsz;have c3:=zaa ba c2;have y0:=c3.a 0 rfl;have y1:=c3.a 1 rfl;have y2:=c3.a 2 rfl;have y3:=c3.a 3 rfl;have y4:=c3.a 4 rfl;have y5:=c3.a 5 rfl;have hb13:=zac hb12 ba hb12.size;have hsw:=hb12.size;have hr3:Rd (Lt w2.heap.size) w3 (vs l) (.slice A l.length c):=(Rd.below (ok:=Lt w.heap.size) hb13 (λ_ hh=>hh) HR.out).weaken (λ_ hh=>Nat.lt_of_lt_of_le hh hsw);have hP:=zrm HP.out;have hbk:=HBK.out;have hln:=zpC _ hP.1;have ht3:Tab w2.heap.size w3:=λW hW=>HT.out W (hb13.trans (hW.mono hsw));have KW:Hid (Calls _ _ _ _ _):=zz (zqW (.mk k t n m s l) w2.heap.size w2.heap.size w2 w3 [] A c hE zo hr3 ht3 hP.1 hbk (by rw[List.length_nil];omega));have HE3:=zz hb13;have HS:=zz hsw;clear hb2 hb12 c2 c3 hE ba hr3 hb13 x0 x1 x2 x3 x4 x5 h1 KP hsz hsw hP hbk hln ht3;go_wp2_with fail;refine KW.out.mono ?_;rintro e w4 ⟨rfl,hb4⟩;unfold shv at hb4;rw[HQ.out,List.nil_append] at hb4;have KS:=zz (zmj hb4.self);have HE4:Hid (Below w.heap.size w w4):=zz (HE3.out.trans (hb4.low.mono HS.out));have HS4:Hid (w.heap.size<=w2.heap.size):=HS;clear hb4 KW y0 y1 y2 y3 y4 y5 h3;go_wp2_with fail;refine zi KS ?_;rintro e w5 ⟨rfl,hb5⟩;have HE5:Hid (Below w.heap.size w w5):=zz (HE4.out.trans (hb5.mono HS4.out));clear hb5 KS;go_wp2;go_ret;exact⟨rfl,HE5.out⟩
end Go.Proofs.YtcebmphappfjjaaGreatDoor
