/- Conditions: those in each statement. -/
import Derived.Test.YtcebmphappfjjaaGreatDoorV19
import Derived.Test.YtcebmphappfjjaaGreatDoorV06
import Derived.Test.YtcebmphappfjjaaGreatDoorV18
import Derived.Test.YtcebmphappfjjaaGreatDoorV20
set_option maxHeartbeats 32000000
set_option maxRecDepth 100000
namespace Go.Proofs.YtcebmphappfjjaaGreatDoor
open Go.RowKit Go.MapKept
def acP (k:ByteArray) (n:Nd):Bool:=decide (n.kind=6/\n.text=k)
theorem zkd (k:ByteArray):∀(l:List Nd) (i q:Nat),(∃j n x,l[j]?=some n/\l.find? (acP k)=some n/\fnd k (acM l i) q=some (x,.int .i64 ((i+j:Nat):Int)))\/(l.find? (acP k)=none/\fnd k (acM l i) q=none)
 |[],i,q=>.inr ⟨rfl,rfl⟩
 |n::r,i,q=>by
  rw[acM,List.find?_cons]
  by_cases h6:n.kind=6
  ·rw[if_pos h6,fnd]
   by_cases hk:k=n.text
   ·have hp:acP k n=true:=decide_eq_true ⟨h6,hk.symm⟩;rw[if_pos hk,hp];exact .inl ⟨0,n,q,rfl,rfl,rfl⟩
   ·have hp:acP k n=false:=decide_eq_false (λh=>hk h.2.symm);rw[if_neg hk,hp];rcases zkd k r (i+1) (q+1) with ⟨j,m,x,h1,h2,h3⟩|h
    ·exact .inl ⟨j+1,m,x,by simpa using h1,h2,by rw[h3];congr 4;omega⟩
    ·exact .inr h
  ·have hp:acP k n=false:=decide_eq_false (λh=>h6 h.1);rw[if_neg h6,hp];rcases zkd k r (i+1) q with ⟨j,m,x,h1,h2,h3⟩|h
   ·exact .inl ⟨j+1,m,x,by simpa using h1,h2,by rw[h3];congr 4;omega⟩
   ·exact .inr h
theorem zoz {l:List Nd} {n:Nd} (h:l.find? (acP (⟨#[77,97,105,110]⟩:ByteArray))=some n):zhY l=if 0<(zaL n.kids).length then some (7,n.at') else none:=by
 have:zhY l=match l.find? (acP (⟨#[77,97,105,110]⟩:ByteArray)) with
  |none=>some (5,0)
  |some n=>if 0<(zaL n.kids).length then some (7,n.at') else none:=rfl
 rw[this,h]
theorem zoN {l:List Nd} (h:l.find? (acP (⟨#[77,97,105,110]⟩:ByteArray))=none):zhY l=some (5,0):=by
 have:zhY l=match l.find? (acP (⟨#[77,97,105,110]⟩:ByteArray)) with
  |none=>some (5,0)
  |some n=>if 0<(zaL n.kids).length then some (7,n.at') else none:=rfl
 rw[this,h]
theorem zrU (db:Nat) (l:List Nd) (A:Option Addr) (c mt ma:Nat) (LT:List (ByteArray × Value)) (w:World) (hd:DdAt w db A l.length c mt ma LT (acM l 0)) (h:Rd (Lt w.heap.size) w (ns l) (.slice A l.length c)) :
 Calls Tryz.prog 79 #[.pointer (some ⟨db,0,none⟩)] w (FtB w (zhY l)):=by
 have z1:=FbSt.first w
 obtain⟨w1,h1⟩:=zn (w.alloc (.cells #[↑(),↑()] 117));rw[h1] at z1;have d1:=hd.below z1.low;have x0:=d1.box.a 0 rfl;have x2:=d1.box.a 2 rfl;have hlk:=zfT (P:=Tryz.prog) (T:=111) Tryz.underlying111 Tryz.underlying9 d1.am (z:=↑()) zk (⟨#[77,97,105,110]⟩:ByteArray);have HZ:=zz z1;rcases zkd (⟨#[77,97,105,110]⟩:ByteArray) l 0 0 with ⟨j,n,x,h2,h3,h4⟩|⟨h3,h4⟩
 ·rw[zoz h3];have hm:mget ↑() (acM l 0) (⟨#[77,97,105,110]⟩:ByteArray)=.int .i64 (j:Int):=by unfold mget;rw[h4];simp
  rw[hm,h4] at hlk;have hj:j<l.length:=(List.getElem?_eq_some_iff.1 h2).1;obtain⟨b,off,y,e,hlb,hget,A',c',p0,p1,p2,p3,p4,r5⟩:=zbC (h.belows z1.low) hj;subst e;rw[hget] at h2;obtain rfl:=Option.some.inj h2;have hin:(j:Int)<l.length:=zo
  have hl:=zaS r5;have hy1:=hl.2.1;have hy2:=hl.2.2;obtain⟨w3,hw3,hb3,hx3⟩:=zaj w1 #[↑y.kind,↑y.text,↑y.n,↑y.at',.slice A' y.kids.length c'] 49;have q4:=hx3.a 4 rfl;have HZ3:=zz (z1.below hb3);have HX3:=zz hx3;have KL:=zz (zcj y.kids A' c' w3 (r5.belows hb3));have hle:=zgw y.kids;obtain⟨m,hm2⟩:=zn ((zaL y.kids).length);rw[hm2] at KL hle ⊢;obtain⟨p,hp⟩:∃p:Option (Int × Int),(if 0<m then some (7,y.at') else none)=p:=⟨_,rfl⟩;rw[hp];have HP:=zz hp;clear hp;clear z1 d1 hd h hl hb3 hx3 r5 h2 h3 h4 hm hm2 hget hlb;go_in;go_wp2_with fail;refine zi KL ?_;rintro e w4 ⟨rfl,hb4⟩;have Z4:=zz (HZ3.out.below hb4);have v3:=(zaa hb4 HX3.out).a 3 rfl;have y0:=Z4.out.res.cell 0;have y1:=Z4.out.res.cell 1;have yz:=Z4.out.res.fz;clear hb4 q4 hw3 h1 x0 x2 hlk
  by_cases hm0:0<m
  ·have g1:decide (0<m)=true:=decide_eq_true hm0;have HP2:Hid (some (7,y.at')=p):=zz (by rw[<-HP.out,if_pos hm0]);clear HP hm0;go_wp2;exact ziR zr 7 y.at' Z4.out HP2.out zr zr rfl
  ·have g1:decide (0<m)=false:=decide_eq_false hm0;have HP2:Hid (none=p):=zz (by rw[<-HP.out,if_neg hm0]);clear HP hm0;go_wp2
   first
    |exact zhx zr Z4.out HP2.out zr zr rfl
    |exact zfS zr Z4.out HP2.out zr zr rfl
 ·rw[zoN h3];rw[h4] at hlk;obtain⟨g,hg⟩:∃g,mget ↑() (acM l 0) (⟨#[77,97,105,110]⟩:ByteArray)=g:=⟨_,rfl⟩;rw[hg] at hlk;have y0:=z1.res.cell 0;have y1:=z1.res.cell 1;have yz:=z1.res.fz;clear z1 d1 hd h h3 h4 hg;go_in;go_wp2;exact ziR zr 5 0 HZ.out rfl zr zr rfl
end Go.Proofs.YtcebmphappfjjaaGreatDoor
set_option maxHeartbeats 32000000
set_option maxRecDepth 100000
namespace Go.Proofs.YtcebmphappfjjaaGreatDoor
open Go.RowKit
theorem zwZ {tx:ByteArray} {nn:Int} (hq:zaw tx=true) (h1:-1<=nn) (h2:nn<=9007199254740993) (ht:tx.size<=32768) (at':Int) (A:Option Addr) (c:Nat) {w:World} (h:Rd (Lt w.heap.size) w (ns []) (.slice A 0 c)) :
 Calls Tryz.prog 126 #[.agg #[.int .i64 6,↑tx,↑nn,↑at',.slice A 0 c],.int .i64 1] w λe w'=>e=.returned (.bool true)/\Below w.heap.size w w':=by
 obtain⟨w0,hw,b0,k0⟩:=zaj w #[.int .i64 6,↑tx,↑nn,↑at',.slice A 0 c] 49;obtain⟨x0,x1,x2,x3,x4⟩:=k0.c5;have K:=zbq.run tx w0 ht;rw[hq] at K;have K:=zz K;have HB:=zz b0;have HX:=zz k0;have HR:=zz (h.belows b0);clear hq ht b0 k0 h;go_in;go_wp2;clear hw
 go_loopw [6] (λs wr=>s=↑()/\wr=w0) (λs _=>0)
 case atStart=>exact⟨rfl,rfl⟩
 case round=>
  obtain⟨rfl,rfl⟩:=hrel;go_wp2_with fail;refine zi K ?_;rintro e w1 ⟨rfl,hb⟩;have HB1:=zz (zac HB.out hb HB.out.size);have HX1:=zz (zaa hb HX.out);have HR1:=zz (HR.out.belows hb);clear hb x0 x1 x2 x3 x4 K HB HX HR;obtain⟨x0,x1,x2,x3,x4⟩:=HX1.out.c5;have KA:Hid (Calls _ _ #[.slice A 0 c,.int .i64 2,.func (.func 173) #[] #[]] w1 _):=zz (zvt (K:=173) (d:=2) (l:=[]) (λ_ h=>by cases h) A c w1 HR1.out);go_wp2_with fail;refine zi KA ?_;rintro e w2 ⟨rfl,hb⟩;have HB2:=zz (zac HB1.out hb HB1.out.size);have HX2:=zz (zaa hb HX1.out);have HR2:=zz (HR1.out.belows hb);clear hb x0 x1 x2 x3 x4 KA HB1 HX1 HR1;obtain⟨x0,x1,x2,x3,x4⟩:=HX2.out.c5;have KA:Hid (Calls _ _ #[.slice A 0 c,.int .i64 2,.func (.func 179) #[] #[]] w2 _):=zz (zvt (K:=179) (d:=2) (l:=[]) (λ_ h=>by cases h) A c w2 HR2.out);go_wp2_with fail;refine zi KA ?_;rintro e w3 ⟨rfl,hb⟩;have HB3:=zz (zac HB2.out hb HB2.out.size);clear hb x0 x1 x2 x3 x4 KA;go_wp2;go_ret;exact⟨rfl,HB3.out⟩
theorem zxF {n:Nd} (h:gD n=true):zvn 126 1 n:=by
 obtain⟨kd,tx,nn,at',l⟩:=n;refine⟨λ_ _ _=>by kernel_rfl,λA c w hr=>?_⟩
 show Calls Tryz.prog 126 #[nd5 kd tx nn at' l A c,.int .i64 1] w _
 obtain⟨w0,hw,B0,x0,x1,x2,x3,x4,hn⟩:=BxN.start (kd:=kd) (tx:=tx) (nn:=nn) (at':=at') (l:=l) hr;unfold gD at h
 split at h
 ·rename_i hk;obtain rfl:kd=3:=hk;simp only[szN,Bool.and_eq_true,decide_eq_true_eq] at h;obtain⟨⟨⟨⟨hq,rfl⟩,hl0⟩,hl⟩,ht⟩:=h;replace hl:l.all gC=true:=hl;have e1:(0:Int)<(l.length:Int):=by have h:0<l.length:=hl0;omega
  have K:=zz (zuR zbq (tx:=tx) hq 3 at' l A c ht w0);have HL:Hid (∀y∈l,zvn 174 2 y):=zz λy hy=>zxO zo zo (List.all_eq_true.1 hl y hy);clear hq hl hl0 ht hr;go_in;go_wp2_with fail;refine BxN.yes B0 K.out ?_;clear B0 x0 x1 x2 x3 x4 hw K;intro w1_ B1_ x0 x1 x2 x3 x4;have KC:=zz (zvt HL.out A c w1_ B1_.out.rd);go_wp2_with fail;refine BxN.yes B1_ KC.out ?_;clear B1_ x0 x1 x2 x3 x4 KC;intro w3_ B3_ x0 x1 x2 x3 x4;go_wp2;go_ret;exact⟨rfl,B3_.out.low⟩
 ·split at h
  ·rename_i hk;obtain rfl:kd=5:=hk;simp only[szN,Bool.and_eq_true,decide_eq_true_eq] at h;obtain⟨⟨⟨hq,rfl⟩,hl⟩,ht⟩:=h;obtain⟨x,y,t,e,he,hl⟩:=zxW (l:=l) hl;have hl4:l.length=2+2:=by rw[he];rfl
   have K:=zz (zuR zbZ (tx:=tx) hq 5 at' l A c ht w0);have HL:=zz hl;have HE:=zz he;have HL4:=zz hl4;clear hq hl ht he hl4 hr;go_in;go_wp2_with fail;refine BxN.yes B0 K.out ?_;clear B0 x0 x1 x2 x3 x4 hw K;intro w1_ B1_ x0 x1 x2 x3 x4;obtain⟨w2_,hw2_,b2,k2⟩:=zaj w1_ #[.func (.func 177) #[] #[],.func (.func 178) #[] #[]] 208;have B2_:=zz (B1_.out.below b2)
   have KC:=zz (zxk (K:=173) (d:=2) (l:=l) (b:=w1_.heap.size) (k:=2) (m:=2) HL4.out zo k2.lt (λz hz=>by
    rcases (show z=x\/z=y by rw[HE.out] at hz;simpa using hz) with rfl|rfl
    ·exact zwf zo zo HL.out.1.1.1
    ·exact zwf zo zo HL.out.1.1.2) (λi z hz=>match i,hz with
    |0,hz=>⟨_,k2.cell 0,by
     obtain rfl:t=z:=by rw[HE.out] at hz;simpa using hz
     exact zvR zo zo HL.out.1.2⟩
    |1,hz=>⟨_,k2.cell 1,by
     obtain rfl:e=z:=by rw[HE.out] at hz;simpa using hz
     exact zxE zo zo HL.out.2⟩
    |i+2,hz=>by rw[HE.out] at hz;simp at hz) A c B2_.out.rd)
   clear B1_ b2 k2;go_wp2_with fail;refine BxN.yes B2_ KC.out ?_;clear B2_ x0 x1 x2 x3 x4 hw2_ KC;intro w3_ B3_ x0 x1 x2 x3 x4;go_wp2;go_ret;exact⟨rfl,B3_.out.low⟩
  ·simp only[szN,Bool.and_eq_true,decide_eq_true_eq] at h;obtain⟨⟨⟨⟨⟨hk,hq⟩,h1⟩,h2⟩,hl⟩,ht⟩:=h;obtain rfl:kd=6:=hk;obtain rfl:l=[]:=List.isEmpty_iff.1 hl;exact zwZ hq h1 h2 ht at' A c hr
theorem zxa (at':Int) (l:List Nd) (hg:l.all gD=true) (A:Option Addr) (c:Nat) (w:World) (h:Rd (Lt w.heap.size) w (ns l) (.slice A l.length c)) :
 Calls Tryz.prog 72 #[nd5 1 ⟨#[]⟩ 0 at' l A c] w λe w'=>e=.returned (.bool true)/\Below w.heap.size w w':=by
 obtain⟨w0,hw,B0,x0,x1,x2,x3,x4,hn⟩:=BxN.start (kd:=1) (tx:=⟨#[]⟩) (nn:=0) (at':=at') h;have K:=zz (zxG 1 at' l A c w0);have HG:Hid (∀y∈l,zvn 126 1 y):=zz λy hy=>zxF (List.all_eq_true.1 hg y hy);clear h hg;go_in;go_wp2_with fail;refine BxN.yes B0 K.out ?_;clear B0 x0 x1 x2 x3 x4 hw K;intro w1 B1 x0 x1 x2 x3 x4;go_wp2;clear x0 x1 x2 x3 x4
 go_loopw [16] (λs wr=>∃i:Nat,i<=l.length/\s=↑i/\Hid (BxN w 1 ⟨#[]⟩ 0 at' l A c wr)) (λs _=>l.length-(intOf s).toNat)
 case atStart=>exact⟨0,zo,rfl,B1⟩
 case round=>
  clear B1;obtain⟨i,hi,rfl,HB⟩:=hrel
  by_cases hlt:i<l.length
  ·obtain⟨b,off,y,e,_,hget,A',c',p0,p1,p2,p3,p4,r5⟩:=zbC HB.out.rd hlt;have hin:(i:Int)<l.length:=zo
   obtain⟨w2,hw2,hb1,hx1⟩:=zaj wr #[↑y.kind,↑y.text,↑y.n,↑y.at',.slice A' y.kids.length c'] 49;obtain⟨q0,q1,q2,q3,q4⟩:=hx1.c5;have HB2:=zz (HB.out.below hb1);have KY:=zz ((HG.out y (List.mem_of_getElem? hget)).run A' c' w2 (r5.belows hb1));subst e;clear r5 hb1 hx1 hget;go_wp2_with fail;refine zi KY ?_;rintro e w3 ⟨rfl,hb2⟩;have HB3:=zz (HB2.out.below hb2);clear hb2 q0 q1 q2 q3 q4 hw2;go_wp2;exact⟨⟨i+1,zo,by go_num,HB3⟩,by simp[intOf];omega⟩
  ·go_wp2;go_ret;exact⟨rfl,HB.out.low⟩
end Go.Proofs.YtcebmphappfjjaaGreatDoor
set_option maxHeartbeats 32000000
set_option maxRecDepth 100000
namespace Go.Proofs.YtcebmphappfjjaaGreatDoor
open Go.RowKit Go.MapKept
theorem zjj:∀(us:List Value) {w:World} {g i:Nat} {cs:Array Value} {e:TypeId},zab w g cs e->i+us.length<=cs.size->∃ds,zab (zeI us w g i) g ds e/\ds.size=cs.size/\(∀j,j<us.length->ds[i+j]?=us[j]?)/\(∀p,p<i\/i+us.length<=p->ds[p]?=cs[p]?)
 |[],_,_,i,cs,_,h,_=>⟨cs,h,rfl,λj hj=>by simp at hj,λ_ _=>rfl⟩
 |u::r,w,g,i,cs,e,h,hs=>by
  rw[List.length_cons] at hs;obtain⟨ds,h1,h2,h3,h4⟩:=zjj r (i:=i+1) (h.set i u) (by simp;omega);refine⟨ds,h1,by rw[h2];simp,λj hj=>?_,λp hp=>?_⟩
  ·cases j with
   |zero=>
    rw[Nat.add_zero,h4 i (.inl zo),Array.getElem?_setIfInBounds_self_of_lt zo]
    rfl
   |succ j=>
    have:=h3 j (by simpa using hj);rw[show i+(j+1)=i+1+j by omega,this]
    rfl
  ·rw[List.length_cons] at hp;rw[h4 p zo,Array.getElem?_setIfInBounds_ne zo]
theorem OwnS.putRow {S:Nat->Prop} {e:TypeId} {k n:Nat} {f f':Nat->Nat->D} {w:World} {g c i:Nat} {us:List Value} (h:OwnS S e k n f w (.slice (some ⟨g,0,none⟩) n c)) (hi:i<n) (hk:us.length=k) (hf:∀a,a<n->a≠i->f' a=f a)
 (hu:∀j u,us[j]?=some u->Rd (λb=>(S b/\b<w.heap.size)/\b≠g) w (f' i j) u):OwnS S e k n f' (zeI us w g (i*k)) (.slice (some ⟨g,0,none⟩) n c):=by
 rcases h with ⟨h1,h2⟩|⟨g',c',h1,h2,h3,h4,h5,h6⟩
 ·cases h1
 injection h1 with e1 e2 e3;injection e1 with e1;injection e1 with e1;subst e1 e3;have hc:=zcv us w g (i*k);obtain⟨cs,h5a,h5b⟩:=h5;have h5c:zab w g cs e:=h5a;have hik:i*k+k<=n*k:=by have:=Nat.mul_le_mul_right k (show i+1<=n from hi);rw[Nat.succ_mul] at this;exact this
 have hnk:n*k<=c*k:=Nat.mul_le_mul_right k h3;obtain⟨ds,q1,q2,q3,q4⟩:=zjj us (i:=i*k) h5c zo;refine .inr ⟨g,c,rfl,h2,h3,h4,⟨_,q1,zo⟩,λa ha b hb=>?_⟩
 have up:∀{d:D} {v:Value},Rd (λb=>(S b/\b<w.heap.size)/\b≠g) w d v->Rd (λb=>(S b/\b<(zeI us w g (i*k)).heap.size)/\b≠g) (zeI us w g (i*k)) d v:=λhd=>
  (hc.rd (λq hq=>⟨hq.1.2,hq.2⟩) hd).weaken (λq hq=>⟨⟨hq.1.1,Nat.lt_of_lt_of_le hq.1.2 hc.size⟩,hq.2⟩)
 by_cases hai:a=i
 ·subst hai;have hub:us[b]?=some (us[b]'(zo)):=List.getElem?_eq_getElem zo;exact⟨us[b]'(zo),by rw[q1.cell,q3 b zo];exact hub,up (hu b _ hub)⟩
 ·obtain⟨x,hx,hd⟩:=h6 a ha b hb;refine⟨x,?_,by rw[hf a ha hai];exact up hd⟩;rw[q1.cell,q4 _ ?_,<-h5c.cell]
  ·exact hx
  ·rcases Nat.lt_or_gt_of_ne hai with h7|h7
   ·have:=Nat.mul_le_mul_right k h7;rw[Nat.succ_mul] at this
    left;omega
   ·have:=Nat.mul_le_mul_right k h7;rw[Nat.succ_mul] at this
    right;omega
theorem OwnS.some {S:Nat->Prop} {e:TypeId} {k n:Nat} {f:Nat->Nat->D} {w:World} {v:Value} (h:OwnS S e k n f w v) (hn:0<n):∃g c,v=.slice (some ⟨g,0,none⟩) n c/\S g/\n<=c/\c<=9223372036854775807/\Blk w g e (c*k):=by
 rcases h with ⟨_,h2⟩|⟨g,c,h1,h2,h3,h4,h5,_⟩
 ·omega
 ·exact⟨g,c,h1,h2,h3,h4,h5⟩
theorem zdS {S:Nat->Prop} {e:TypeId} {k n:Nat} {f:Nat->Nat->D} {w:World} {g c:Nat} (h:OwnS S e k (n+1) f w (.slice (Option.some ⟨g,0,none⟩) (n+1) c)) (j:Nat) (hj:j<k):∃u,w.cell? ⟨g,n*k+j,none⟩=Option.some u/\True:=by
 rcases h with ⟨h1,h2⟩|⟨g',c',h1,h2,h3,h4,h5,h6⟩
 ·omega
 ·injection h1 with e1 e2 e3;injection e1 with e1;injection e1 with e1;subst e1;obtain⟨u,hu,_⟩:=h6 n (Nat.lt_succ_self _) j hj;exact⟨u,hu,trivial⟩
structure DlSt (w W5 W:World) (db mt ma:Nat) (acc:List Nd) (A:Option Addr) (c:Nat):Prop where
 low:Below w.heap.size w W
 chg:Chg (λq=>q=db\/W5.heap.size<=q) W5 W
 box:DcAt W db A acc.length c mt ma
 own:OwnS (Sg (λb=>b<w.heap.size) W5.heap.size) 49 5 acc.length (zan Nd.row acc) W (.slice A acc.length c)
 bg:∀q,(Value.slice A acc.length c).ownBlock=some q->W5.heap.size<=q
section
variable {w W5 W W' W8 W9:World} {db mt ma:Nat} {acc:List Nd} {A:Option Addr} {c:Nat}
theorem DlSt.below (h:DlSt w W5 W db mt ma acc A c) (k:Below W.heap.size W W'):DlSt w W5 W' db mt ma acc A c:=⟨zac h.low k h.low.size,h.chg.thenBelow k,zaa k h.box,h.own.below k,h.bg⟩
def zNd:Nd:=.mk 0 ⟨#[]⟩ 0 0 []
theorem DlSt.push {g cp:Nat} {y:Nd} {A':Option Addr} {c':Nat} (h:DlSt w W5 W8 db mt ma acc A c) (hbig:∀q,(Value.slice A acc.length c).ownBlock=Option.some q->W5.heap.size<=q) (hdb:w.heap.size<=db) (hdb5:db<W5.heap.size) (h5:W5.heap.size<=W8.heap.size)
 (hO:OwnS (Sg (λb=>b<w.heap.size) W5.heap.size) 49 5 (acc.length+1) (zan Nd.row (acc++[zNd])) W9 (.slice (Option.some ⟨g,0,none⟩) (acc.length+1) cp)) (hg:W8.grownBy W9 (Value.slice A acc.length c).ownBlock)
 (hat:(Value.slice A acc.length c).ownBlock=Option.some g\/g=W8.heap.size) (hy:Rd (Lt w.heap.size) w (ns y.kids) (.slice A' y.kids.length c')) :
 DlSt w W5 ((zeI [↑y.kind,↑y.text,↑y.n,↑y.at',.slice A' y.kids.length c'] W9 g (acc.length*5)).setCell ⟨db,0,none⟩ (.slice (Option.some ⟨g,0,none⟩) (acc.length+1) cp)) db mt ma (acc++[y]) (Option.some ⟨g,0,none⟩) cp/\
 DlSt w W5 (zeI [↑y.kind,↑y.text,↑y.n,↑y.at',.slice A' y.kids.length c'] (W9.setCell ⟨db,0,none⟩ (.slice (Option.some ⟨g,0,none⟩) (acc.length+1) cp)) g (acc.length*5)) db mt ma (acc++[y]) (Option.some ⟨g,0,none⟩) cp:=by
 have hg5:W5.heap.size<=g:=by
  rcases hat with h1|h1
  ·exact hbig g h1
  ·omega
 have hch:Chg (λq=>q=db\/W5.heap.size<=q) W8 W9:=Chg.of_grown hg (λq hq=>.inr (hbig q hq));have hl9:Below w.heap.size w W9:=h.low.trans (hch.below h.low.size (λq hq=>by omega));have hb9:DcAt W9 db A acc.length c mt ma:=h.box.keep (Chg.of_grown (M:=λq=>W5.heap.size<=q) hg (λq hq=>hbig q hq)) zo;have hlen:(acc++[y]).length=acc.length+1:=by simp
 have hcell:∀X:World,DcAt X db A acc.length c mt ma->DcAt (X.setCell ⟨db,0,none⟩ (.slice (Option.some ⟨g,0,none⟩) (acc.length+1) cp)) db (Option.some ⟨g,0,none⟩) (acc++[y]).length cp mt ma:=λX hX=>by
  have:=zab.set hX 0 (.slice (Option.some ⟨g,0,none⟩) (acc.length+1) cp);rw[hlen];unfold DcAt
  simpa using this
 have hsd:∀X:World,Chg (λq=>q=db) X (X.setCell ⟨db,0,none⟩ (.slice (Option.some ⟨g,0,none⟩) (acc.length+1) cp)):=λX=>(Chg.refl (λq=>q=db) X).setCell (p:=⟨db,0,none⟩) (.inl rfl) _
 have hS:∀q,q=db->¬Sg (λb=>b<w.heap.size) W5.heap.size q:=λq hq hs=>by
  rcases hs with h1|h1
  ·have:q<w.heap.size:=h1;omega
  ·omega
 have put:∀X:World,Below w.heap.size w X->OwnS (Sg (λb=>b<w.heap.size) W5.heap.size) 49 5 (acc.length+1) (zan Nd.row (acc++[zNd])) X (.slice (Option.some ⟨g,0,none⟩) (acc.length+1) cp)->
  OwnS (Sg (λb=>b<w.heap.size) W5.heap.size) 49 5 (acc++[y]).length (zan Nd.row (acc++[y])) (zeI [↑y.kind,↑y.text,↑y.n,↑y.at',.slice A' y.kids.length c'] X g (acc.length*5)) (.slice (Option.some ⟨g,0,none⟩) (acc++[y]).length cp):=λX hX hOX=>by
  rw[hlen];refine hOX.putRow (i:=acc.length) (Nat.lt_succ_self _) rfl (λa ha hai=>?_) (λj u hj=>?_)
  ·have hx:acc[a]?=Option.some (acc[a]'(zo)):=List.getElem?_eq_getElem zo;rw[zas (l:=acc++[y]) (i:=a) (by rw[List.getElem?_append_left zo];exact hx),zas (l:=acc++[zNd]) (i:=a) (by rw[List.getElem?_append_left zo];exact hx)]
  ·rw[zas (l:=acc++[y]) (i:=acc.length) (x:=y) zs];refine zby (Rd.weaken (λb hb=>?_) (Rd.below (ok:=Lt w.heap.size) hX (λ_ hb=>hb) hy)) j u hj;have hb:b<w.heap.size:=hb;have:=hX.size;exact⟨⟨.inl hb,zo⟩,zo⟩
 have hgb:∀q,(Value.slice (Option.some ⟨g,0,none⟩) (acc++[y]).length cp).ownBlock=Option.some q->W5.heap.size<=q:=λq hq=>by
  have:g=q:=Option.some.inj hq;omega
 have low2:∀{M:Nat->Prop} {X Y:World},Below w.heap.size w X->Chg M X Y->(∀q,M q->w.heap.size<=q)->Below w.heap.size w Y:=λhX hc hm=>hX.trans (hc.below hX.size hm);have c1:=zcv [↑y.kind,↑y.text,↑y.n,↑y.at',.slice A' y.kids.length c'] W9 g (acc.length*5);have c2:=zcv [↑y.kind,↑y.text,↑y.n,↑y.at',.slice A' y.kids.length c'] (W9.setCell ⟨db,0,none⟩ (.slice (Option.some ⟨g,0,none⟩) (acc.length+1) cp)) g (acc.length*5);have m1:∀q,q=g->(q=db\/W5.heap.size<=q):=λq hq=>.inr zo;have m2:∀q,q=db->(q=db\/W5.heap.size<=q):=λq hq=>.inl hq;have l1:=low2 hl9 c1 (λq hq=>by omega);have l2:=low2 hl9 (hsd W9) (λq hq=>by omega);refine⟨⟨low2 l1 (hsd _) (λq hq=>by omega),((h.chg.next hch).next (c1.mono m1)).next ((hsd _).mono m2),hcell _ (zab.keep hb9 c1 zo),?_,hgb⟩,⟨low2 l2 c2 (λq hq=>by omega),((h.chg.next hch).next ((hsd W9).mono m2)).next (c2.mono m1),zab.keep (hcell _ hb9) c2 zo,?_,hgb⟩⟩
 ·have:=(put W9 hl9 hO).chg (hsd _) (λj hj _=>hS j hj);rw[hlen] at this ⊢;exact this
 ·have:=put _ l2 (hO.chg (hsd W9) (λj hj _=>hS j hj));rw[hlen] at this ⊢;exact this
end
def ckFs (db:Nat):Array Value:=#[.func (.func 74) #[.pointer (some ⟨db,0,none⟩)] #[],.func (.func 75) #[.pointer (some ⟨db,0,none⟩)] #[],.func (.func 76) #[.pointer (some ⟨db,0,none⟩)] #[],.func (.func 77) #[.pointer (some ⟨db,0,none⟩)] #[],.func (.func 78) #[.pointer (some ⟨db,0,none⟩)] #[],.func (.func 79) #[.pointer (some ⟨db,0,none⟩)] #[]]
structure CkSt (w W:World) (db mt ma fb:Nat) (ds:List Nd) (A:Option Addr) (c:Nat) (LT LA:List (ByteArray × Value)):Prop where
 low:Below w.heap.size w W
 res:zab W (w.heap.size+1) #[.slice none 0 0,.slice none 0 0,.slice none 0 0,.slice none 0 0] 58
 fbx:zab W fb (ckFs db) 114
 box:DcAt W db A ds.length c mt ma
 tm:MapS W mt LT
 am:MapS W ma LA
 nd:Rd (Lt W.heap.size) W (ns ds) (.slice A ds.length c)
section
variable {w W W':World} {db mt ma fb:Nat} {ds:List Nd} {A:Option Addr} {c:Nat} {LT LA:List (ByteArray × Value)}
theorem CkSt.below (h:CkSt w W db mt ma fb ds A c LT LA) (k:Below W.heap.size W W'):CkSt w W' db mt ma fb ds A c LT LA:=
 ⟨zac h.low k h.low.size,zaa k h.res,zaa k h.fbx,zaa k h.box,zaD h.tm (Chg.of_below (M:=λ_=>False) k) (λh=>h),zaD h.am (Chg.of_below (M:=λ_=>False) k) (λh=>h),h.nd.belows k⟩
theorem CkSt.dd (h:CkSt w W db mt ma fb ds A c LT LA):DdAt W db A ds.length c mt ma LT LA:=⟨h.box,h.tm.is,h.am.is⟩
theorem CkSt.filled {LT' LA':List (ByteArray × Value)} (h:CkSt w W db mt ma fb ds A c LT LA) (hmt:w.heap.size<=mt) (hma:w.heap.size<=ma) (k:∃X,Kept (λq=>q=mt\/q=ma) W X/\Chg (λq=>q=W.heap.size) X W'/\W.heap.size<X.heap.size) (h1:MapS W' mt LT') (h2:MapS W' ma LA'):CkSt w W' db mt ma fb ds A c LT' LA':=by
 obtain⟨X,k1,k2,k3⟩:=k;have hc:Chg (λq=>q=mt\/q=ma\/W.heap.size<=q) W W':=(k1.chg.mono (λq hq=>hq.elim .inl (λh=>.inr (.inl h)))).next (k2.mono (λq hq=>.inr (.inr zo)));have hw:=h.low.size
 have nm:∀{b:Nat} {cs:Array Value} {e:TypeId},zab W b cs e->zab W' b cs e:=λhb=>hb.keep hc (λhq=>by
  have n1:=zct hb h.tm.is;have n2:=zct hb h.am.is;have:=hb.lt;omega)
 refine⟨h.low.trans (hc.below hw (λq hq=>by omega)),nm h.res,nm h.fbx,nm h.box,h1,h2,?_⟩;have r1:Rd (Lt W.heap.size) X (ns ds) (.slice A ds.length c):=h.nd.keep (λb o hb=>k1.cell b o hb);exact(k2.rd (λb hb=>⟨Nat.lt_trans hb k3,λe=>by have:b<W.heap.size:=hb;omega⟩) r1).weaken (λb hb=>Nat.lt_of_lt_of_le hb hc.size)
end
def cksN (l:List Nd):List (Option (Int × Int)):=[(zcL l .start).map (λa=>(4,a)),(zgV l).map (λa=>(8,a)),(zeN l).map (λa=>(7,a)),(zeX l).map (λa=>(6,a)),(zfW l).map (λa=>(11,a)),zhY l]
theorem zja:∀(l:List Nd) (i:Nat),(typM l i).map Prod.fst=zpj l
 |[],_=>rfl
 |n::r,i=>by
  have ih:=zja r (i+1);unfold zpj at ih ⊢;rw[typM]
  by_cases h:n.kind=2\/n.kind=3
  ·rw[if_pos h,List.filter_cons_of_pos (by simpa using h),List.map_cons,List.map_cons,ih]
  ·rw[if_neg h,List.filter_cons_of_neg (by simpa using h),ih]
theorem zld:∀(l:List Nd) (i:Nat),(acM l i).map Prod.fst=zmh l
 |[],_=>rfl
 |n::r,i=>by
  have ih:=zld r (i+1);unfold zmh at ih ⊢;rw[acM]
  by_cases h:n.kind=6
  ·rw[if_pos h,List.filter_cons_of_pos (by simpa using h),List.map_cons,List.map_cons,ih]
  ·rw[if_neg h,List.filter_cons_of_neg (by simpa using h),ih]
theorem zoF (l:List Nd):zkh ((typM l 0).map Prod.fst) ((acM l 0).map Prod.fst) l=zgV l:=by
 unfold zkh zgV;rw[zja,zld]
def zte (w:World) (r:Prg × Int × Int) (e:Ending) (w':World):Prop:=Below w.heap.size w w'/\∃At ct Ae ce Af cf Ak ck,e=.returned (.tuple #[.agg #[.slice At r.1.types.length ct,.slice Ae r.1.effects.length ce,.slice Af r.1.funs.length cf,.slice Ak r.1.actors.length ck],.int .i64 r.2.1,.int .i64 r.2.2])/\
 Rd (Bt w.heap.size w'.heap.size) w' (slG 3 zgj r.1.types) (.slice At r.1.types.length ct)/\Rd (Bt w.heap.size w'.heap.size) w' (slG 5 zlM r.1.effects) (.slice Ae r.1.effects.length ce)/\Rd (Bt w.heap.size w'.heap.size) w' (slG 11 zme r.1.funs) (.slice Af r.1.funs.length cf)/\Rd (Bt w.heap.size w'.heap.size) w' (slG 7 zjX r.1.actors) (.slice Ak r.1.actors.length ck)
theorem zet {P:Program} {fn:Func} {p q r:Tmp} {ty:TypeId} (h:fn.results=#[.cell p ty,.tmp q,.tmp r]) (tmps:Array Value) (w:World) (g:Nat) (t:TypeId) (cs:Array Value) (fr:Nat × Nat) (d:TypeDesc)
 (hp:tmps.getD p undef=.pointer (some ⟨g,0,none⟩)) (hg:w.heap[g]?=some (.cells cs t fr))
 (hu:P.underlying ty=some d) (hd:(match d with|.struct _|.array _ _=>true|_=>false)=true) (hi:(P.info? ty).map (·.size)=some cs.size) :
 (results fn tmps).run P w=.ok (.tuple #[.agg cs,tmps.getD q undef,tmps.getD r undef]) w:=by
 have hp':tmps[p]?.getD undef=.pointer (some ⟨g,0,none⟩):=by simpa using hp
 simp[results,h,hp',asAddr,run_loadVar_row w g t ty cs fr d hg hu hd hi]
end Go.Proofs.YtcebmphappfjjaaGreatDoor
