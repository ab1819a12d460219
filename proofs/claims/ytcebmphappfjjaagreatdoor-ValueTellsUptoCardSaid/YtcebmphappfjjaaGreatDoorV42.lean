/- Conditions: those in each statement. -/
import Derived.Test.YtcebmphappfjjaaGreatDoorV41
import Derived.Test.YtcebmphappfjjaaGreatDoorV31
import Derived.Test.YtcebmphappfjjaaGreatDoorRows
import Derived.Test.YtcebmphappfjjaaGreatDoorV29
import Derived.ChangeArms
set_option maxHeartbeats 32000000
set_option maxRecDepth 100000
namespace Go.Proofs.YtcebmphappfjjaaGreatDoor
open Go.RowKit
theorem zCg:∀(a b:List UInt8) (n:Int),digs (a++b) n=(digs a n).bind (digs b)
 |[],b,n=>rfl
 |c::a,b,n=>by
  rw[List.cons_append,digs,digs];cases zcm n (c.toNat:Int) with
  |none=>rfl
  |some m=>exact zCg a b m
theorem zAw {n c m:Int} (h:zcm n c=some m):48<=c/\c<=57/\m=n*10-(c-48)/\¬n<(-9223372036854775808+(c-48)).tdiv 10:=by
 unfold zcm at h
 split at h
 ·cases h
 ·split at h
  ·cases h
  ·rename_i h1 h2;exact⟨zo,zo,(Option.some.inj h).symm,h2⟩
theorem zBv {n c m:Int} (h:zcm n c=some m) (hn:n<=0):-9223372036854775807<=m+1/\m<=0:=by
 obtain⟨h1,h2,h3,h4⟩:=zAw h;rw[zpy zo] at h4;omega
theorem zAb:∀(t:List UInt8) (n m:Int),digs t n=some m->-9223372036854775807<=n+1->n<=0->-9223372036854775807<=m+1/\m<=0
 |[],n,m,h,h1,h2=>by rw[digs] at h;rw[<-Option.some.inj h];exact⟨h1,h2⟩
 |c::t,n,m,h,h1,h2=>by
  rw[digs] at h;cases hd:zcm n (c.toNat:Int) with
  |none=>rw[hd] at h;cases h
  |some k=>
   rw[hd] at h;have:=zBv hd h2;exact zAb t k m h this.1 this.2
theorem zAY {t:List UInt8} {c:UInt8} {n:Int} (h:digs (t++[c]) 0=some n):∃k,digs t 0=some k/\48<=(c.toNat:Int)/\(c.toNat:Int)<=57/\n=k*10-((c.toNat:Int)-48)/\k<=0:=by
 rw[zCg] at h;cases hk:digs t 0 with
 |none=>rw[hk] at h;cases h
 |some k=>
  rw[hk] at h;have h':(zcm k (c.toNat:Int)).bind (digs [])=some n:=h;cases hd:zcm k (c.toNat:Int) with
  |none=>rw[hd] at h';cases h'
  |some j=>
   rw[hd] at h';have e:j=n:=Option.some.inj h';obtain⟨h1,h2,h3,_⟩:=zAw hd;exact⟨k,rfl,h1,h2,zo,(zAb t 0 k hk zo zo).2⟩
theorem zAz {α:Type} (l:List α):l=[]\/∃t c,l=t++[c]:=by
 rcases List.eq_nil_or_concat l with h|⟨t,c,h⟩
 ·exact .inl h
 ·exact .inr ⟨t,c,by rw[h];simp⟩
theorem zAB:∀(N:Nat) (t:List UInt8) (n:Int),t.length<=N->digs t 0=some n->t≠[]->¬t.getD 0 0=48->n<0
 |0,t,n,hN,_,hne,_=>absurd (List.eq_nil_of_length_eq_zero zo) hne
 |N+1,t,n,hN,hd,hne,hz=>by
  rcases zAz t with rfl|⟨q,c,rfl⟩
  ·exact absurd rfl hne
  ·obtain⟨k,hk,h1,h2,h3,h4⟩:=zAY hd;cases q with
   |nil=>
    have e:some 0=some k:=hk;have e2:=Option.some.inj e
    have hc:¬(c.toNat:Int)=48:=λh=>hz (UInt8.toNat_inj.1 (by
     show c.toNat=48
     omega))
    omega
   |cons a q=>
    have:=zAB N (a::q) k (by simp at hN ⊢;omega) hk zs hz;omega
theorem zAH:∀(f:Nat) (t:List UInt8) (n:Int),digs t 0=some n->t≠[]->¬t.getD 0 0=48->(-n).toNat<10 ^ f->decU f (-n).toNat=t
 |0,t,n,hd,hne,hz,hf=>by
  have:=zAB _ t n (Nat.le_refl _) hd hne hz;rw[Nat.pow_zero] at hf;omega
 |f+1,t,n,hd,hne,hz,hf=>by
  rcases zAz t with rfl|⟨q,c,rfl⟩
  ·exact absurd rfl hne
  ·obtain⟨k,hk,h1,h2,h3,h4⟩:=zAY hd
   have hc:UInt8.ofNat (48+((c.toNat:Int)-48).toNat)=c:=by
    apply UInt8.toNat_inj.1;rw[UInt8.toNat_ofNat'];have:=c.toNat_lt;omega
   cases q with
   |nil=>
    have e:some 0=some k:=hk;have e2:=Option.some.inj e;rw[decU,if_pos zo];have:48+(-n).toNat=48+((c.toNat:Int)-48).toNat:=zo
    rw[this,hc];rfl
   |cons a q=>
    have hp:=zAB _ (a::q) k (Nat.le_refl _) hk zs hz;have hv:(-n).toNat / 10=(-k).toNat:=zo
    have hr:(-n).toNat % 10=((c.toNat:Int)-48).toNat:=zo
    have hf2:(-k).toNat<10 ^ f:=by
     rw[<-hv];rw[Nat.pow_succ] at hf;exact Nat.div_lt_of_lt_mul (by rw[Nat.mul_comm];exact hf)
    rw[decU,if_neg zo,hv,hr,hc,zAH f (a::q) k hk zs hz hf2]
theorem zDM {a b:List UInt8} (h:a≠[]):(a++b).getD 0 0=a.getD 0 0:=by
 cases a with
 |nil=>exact absurd rfl h
 |cons x a=>rfl
theorem zAm:∀(f m:Nat),0<m->m<10 ^ f->decU f m≠[]/\¬(decU f m).getD 0 0=48
 |0,m,h,h1=>by rw[Nat.pow_zero] at h1;omega
 |f+1,m,h,h1=>by
  rw[decU]
  by_cases h10:m<10
  ·rw[if_pos h10];refine⟨by simp,λe=>?_⟩;have e2:(UInt8.ofNat (48+m)).toNat=(48:UInt8).toNat:=congrArg UInt8.toNat e;rw[UInt8.toNat_ofNat'] at e2;have e3:(48:UInt8).toNat=48:=rfl;omega
  ·have h2:m / 10<10 ^ f:=by
    rw[Nat.pow_succ] at h1;exact Nat.div_lt_of_lt_mul (by rw[Nat.mul_comm];exact h1)
   obtain⟨h3,h4⟩:=zAm f (m / 10) zo h2;rw[if_neg h10,zDM h3];exact⟨by simp,h4⟩
theorem zDc (f:Nat):decU (f+1) 0=[48]:=rfl
theorem zDo {m:Nat} {t:List UInt8} (hm:m<10 ^ 20) (h2:2<=t.length) (h0:t.getD 0 0=48):decU 20 m≠t:=by
 intro h;rcases Nat.eq_zero_or_pos m with rfl|hp
 ·rw[zDc] at h;rw[<-h] at h2;simp at h2
 ·have:=(zAm 20 m hp hm).2;rw[h] at this;exact this h0
theorem zEp:10 ^ 20=100000000000000000000:=by decide
theorem zBK (l:List UInt8):(ByteArray.mk l.toArray).toList=l:=by rw[ByteArray.toList_eq]
theorem zAU {s:ByteArray} {i:Nat}:zak s i=48↔s.data.toList.getD i 0=48:=by
 unfold zak
 constructor
 ·intro h;apply UInt8.toNat_inj.1;have e3:(48:UInt8).toNat=48:=rfl;omega
 ·intro h;rw[h];rfl
theorem zBR {k low high:Int} {s:ByteArray} (h:zzH k≠s.data.toList):finR k low high s=(0,false):=by
 unfold finR;rw[zBK,ByteArray.toList_eq];exact if_pos (.inl h)
theorem zCi {k low high:Int} {s:ByteArray} (h:zzH k=s.data.toList):finR k low high s=if k<low\/high<k then (0,false) else (k,true):=by
 unfold finR;rw[zBK,ByteArray.toList_eq]
 by_cases hk:k<low\/high<k
 ·rw[if_pos (.inr hk),if_pos hk]
 ·rw[if_neg (λh2=>h2.elim (λh3=>h3 h) hk),if_neg hk]
theorem zBV (s:ByteArray) (low high:Int) (h0:s.size=0):zzU false low high s (digs s.data.toList 0)=zbD s low high:=by
 have he:s.data.toList=[]:=List.eq_nil_of_length_eq_zero (by rw[zai];exact h0);unfold zbD;rw[if_pos h0,he,digs]
 show (if (0:Int) < -9223372036854775807 then ((0:Int),false) else finR (-0) low high s)=(0,false)
 rw[if_neg zd];exact zBR (by rw[he];decide)
theorem zCp (s:ByteArray) (low high:Int) (h0:0<s.size) (hm:¬zak s 0=45):zzU false low high s (digs s.data.toList 0)=zbD s low high:=by
 have hl:=zai s;have hne:s.data.toList≠[]:=λh=>by rw[h] at hl;simp at hl;omega
 unfold zbD;rw[if_neg zo,if_neg hm];cases hd:digs s.data.toList 0 with
 |none=>split<;>rfl
 |some n=>
  have hr:=zAb _ _ _ hd zo zo;have e20:=zEp
  show (if n < -9223372036854775807 then ((0:Int),false) else finR (-n) low high s)=_
  have ht:zzH (-n)=decU 20 (-n).toNat:=by unfold zzH;rw[if_neg zo]
  by_cases hz:zak s 0=48/\¬s.size=1
  ·rw[if_pos hz]
   have:=zBR (k:=-n) (low:=low) (high:=high) (s:=s) (by
    rw[ht];exact zDo zo zo (zAU.1 hz.1))
   rw[this]
   split<;>rfl
  ·rw[if_neg hz]
   show _=(if n < -9223372036854775807 then ((0:Int),false) else if -n<low\/high < -n then (0,false) else (-n,true))
   rw[zCi];rw[ht]
   by_cases h48:zak s 0=48
   ·have h1:s.size=1:=Classical.byContradiction λh=>hz ⟨h48,h⟩;obtain rfl:=zsZ h1 h48;have e:digs (ByteArray.mk #[48]).data.toList 0=some 0:=by decide
    rw[e] at hd;obtain rfl:=Option.some.inj hd
    rfl
   ·exact zAH 20 _ n hd hne (λh=>h48 (zAU.2 h)) zo
theorem ext1 {s:ByteArray} (h0:0<s.size) (hm:zak s 0=45):s.data.toList=45::(s.extract 1 s.size).data.toList:=by
 have h1:(s.extract 1 s.size).data.toList=s.data.toList.drop 1:=by
  rw[ByteArray.data_extract,Array.toList_extract,List.extract_eq_take_drop,List.take_of_length_le];rw[List.length_drop,zai];omega
 rw[h1];have hl:=zai s;unfold zak at hm
 revert hl hm
 generalize s.data.toList=l;intro hm hl;cases l with
 |nil=>simp at hl;omega
 |cons x r=>
  have:x=45:=by
   apply UInt8.toNat_inj.1;have e3:(45:UInt8).toNat=45:=rfl;have hm2:(x.toNat:Int)=45:=hm;omega
  rw[this];rfl
theorem zCu (s:ByteArray) (low high:Int) (h0:0<s.size) (hm:zak s 0=45):zzU true low high s (digs (s.extract 1 s.size).data.toList 0)=zbD s low high:=by
 have hl:=zai s;have hx:=ext1 h0 hm;unfold zbD;rw[if_neg zo,if_pos hm]
 have h48:zak s 1=48↔(s.extract 1 s.size).data.toList.getD 0 0=48:=by
  rw[zAU,hx];rfl
 have hlen:s.size=(s.extract 1 s.size).data.toList.length+1:=by
  have:=congrArg List.length hx;rw[List.length_cons] at this;omega
 have hlen1:s.size=1↔(s.extract 1 s.size).data.toList=[]:=by
  constructor
  ·intro h;exact List.eq_nil_of_length_eq_zero zo
  ·intro h;rw[h] at hlen;simpa using hlen
 have hcond:(s.size=1\/zak s 1=48)↔((s.extract 1 s.size).data.toList=[]\/(s.extract 1 s.size).data.toList.getD 0 0=48):=by rw[h48,hlen1]
 clear h48 hlen1;generalize (s.extract 1 s.size).data.toList=t at *
 cases hd:digs t 0 with
 |none=>split<;>rfl
 |some n=>
  have hr:=zAb _ _ _ hd zo zo;have e20:=zEp
  show finR n low high s=_
  by_cases hz:t=[]\/t.getD 0 0=48
  ·rw[if_pos (hcond.2 hz)];refine zBR ?_;rw[hx];unfold zzH
   by_cases hn:n<0
   ·rw[if_pos hn];intro h;injection h with _ h;rcases hz with rfl|hz
    ·have:=(zAm 20 (-n).toNat zo zo).1;exact this h
    ·have:=(zAm 20 (-n).toNat zo zo).2;rw[h] at this;exact this hz
   ·obtain rfl:n=0:=zo
    rw[if_neg hn];intro h;injection h with h _;exact absurd h zd
  ·rw[if_neg (λh=>hz (hcond.1 h))];have hne:t≠[]:=λh=>hz (.inl h);have hh:¬t.getD 0 0=48:=λh=>hz (.inr h);have hn:=zAB _ t n (Nat.le_refl _) hd hne hh;rw[zCi]
   ·rfl
   ·rw[hx];unfold zzH;rw[if_pos hn,zAH 20 t n hd hne hh zo]
theorem zAq (s:ByteArray) (low high:Int) (w:World) (hs:s.size<=2097152) :
 Calls Tryz.prog 55 #[↑s,↑low,↑high] w (zAa (zbD s low high) w):=by
 rcases Nat.eq_zero_or_pos s.size with h0|h0
 ·rw[<-zBV s low high h0];exact zBW s low high w h0
 ·by_cases hm:zak s 0=45
  ·rw[<-zCu s low high h0 hm];exact zCx s low high w hs h0 hm
  ·rw[<-zCp s low high h0 hm];exact zCn s low high w hs h0 hm
def zEb (l:List V) (w:World) (e:Ending) (w':World):Prop:=(∃b,e=.returned (.bool b)/\(b=true->zcl l<=11000))/\Below w.heap.size w w'
theorem zCb (l:List V) (A:Option Addr) (c:Nat) (w:World) (hb:zcl l<=2097152) (h:Rd (Lt w.heap.size) w (vs l) (.slice A l.length c)) :
 Calls Tryz.prog 10 #[.slice A l.length c] w (zEb l w):=by
 have hl:=zno h;have hn:l.length<=9223372036854775807:=Nat.le_trans hl.2.1 hl.2.2;have HR:=zz h;have HB0:Hid (Below w.heap.size w w):=zz (Below.refl _ _);clear hl h;go_in;go_wp2
 go_loopw [3] (λs3 wr=>∃i:Nat,i<=l.length/\i<=20/\s3=↑i/\Hid (zcl (l.take i)<=1100*i)/\Hid (Below w.heap.size w wr)) (λs3 _=>20-(intOf s3).toNat)
 case atStart=>exact⟨0,zo,zo,rfl,zz (by rw[List.take_zero,zcl];omega),HB0⟩
 case round=>
  clear HB0;obtain⟨i,hi,h20,rfl,HX,HD⟩:=hrel
  by_cases hlt:i<l.length
  ·have hin:(i:Int)<l.length:=zo
   by_cases h2:i<20
   ·have hi2:(i:Int)<20:=zo
    obtain⟨b,off,k1,t1,n1,m1,s1,l1,A1,c1,e,hlb,hget,p0,p1,p2,p3,p4,p5,r5⟩:=zrO (HR.out.belows HD.out) hlt;subst e;have hy:=zeK _ _ _ hget;have KU:=zz (zzp k1 t1 n1 m1 s1 l1 A1 c1 wr zo r5);have HTK:=zz (zzj hget);clear r5 hget hlb hy;go_wp2_with fail;refine KU.out.mono ?_;rintro e w4 ⟨⟨q,rfl,hq⟩,hb4⟩;have HD2:=zz (zac HD.out hb4 HD.out.size);clear hb4 p0 p1 p2 p3 p4 p5;cases q with
    |false=>
     clear hq;go_wp2;go_ret;exact⟨⟨false,rfl,λh=>by cases h⟩,HD2.out⟩
    |true=>
     have HX2:Hid (zcl (l.take (i+1))<=1100*(i+1)):=zz (by
      have:=hq rfl;have:=HX.out;rw[HTK.out];omega)
     clear hq HX HTK;go_wp2;exact⟨⟨i+1,zo,zo,by go_num,HX2,HD2⟩,by simp[intOf];omega⟩
   ·have hi2:¬(i:Int)<20:=zo
    have h10:¬(l.length:Int)<=10:=zo
    go_wp2;go_ret;exact⟨⟨false,rfl,λh=>by cases h⟩,HD.out⟩
  ·have hin:¬(i:Int)<l.length:=zo
   have HXX:Hid (l.length<=10->zcl l<=11000):=zz (λh=>by
    have q:=HX.out;rw[List.take_of_length_le zo] at q;omega)
   go_wp2;go_ret;exact⟨⟨_,rfl,λh=>HXX.out (by have:=of_decide_eq_true h;omega)⟩,HD.out⟩
def zzL:List UInt8->Nat
 |[]=>0
 |c::t=>c.toNat % 128+128*zzL t
theorem zAN:∀(at':Nat) (l:List UInt8) (i n:Nat),at'<l.length->(∀j,j<at'->128<=(l.getD j 0).toNat)->(l.getD at' 0).toNat<128->i+at'<=8->((l.getD at' 0).toNat≠0\/i+at'=0)->
 zlH i n l=some (n+128 ^ i*zzL (l.take (at'+1)),i+at'+1)
 |_,[],_,_,h,_,_,_,_=>absurd h zs
 |0,c::t,i,n,_,_,h1,h2,h3=>by
  have h1':c.toNat<128:=h1;have h3':c.toNat≠0\/i+0=0:=h3;rw[zlH,if_neg zo,if_neg zo,if_neg zo];have e:zzL (List.take (0+1) (c::t))=c.toNat % 128:=by simp[zzL]
  rw[e,Nat.mul_comm]
 |at'+1,c::t,i,n,h,h0,h1,h2,h3=>by
  have hc:128<=c.toNat:=h0 0 zo
  have hr:=zAN at' t (i+1) (n+c.toNat % 128*128 ^ i) (by rw[List.length_cons] at h;omega) (λj hj=>by have:=h0 (j+1) zo;simpa using this) (by simpa using h1) zo (by
   rcases h3 with h3|h3
   ·exact .inl (by simpa using h3)
   ·omega)
  rw[zlH,if_neg zo,if_pos hc,hr];have e:zzL (List.take (at'+1+1) (c::t))=c.toNat % 128+128*zzL (t.take (at'+1)):=by rw[List.take_succ_cons];rfl
  rw[e,Nat.pow_succ,Nat.mul_add,Nat.mul_assoc,Nat.mul_comm (c.toNat % 128)];simp only[Option.some.injEq,Prod.mk.injEq]
  constructor<;>omega
theorem zAc:∀(at':Nat) (l:List UInt8) (i n:Nat),(∀j,j<at'->128<=(l.getD j 0).toNat)->at'<=l.length->(at'=l.length\/8<i+at'\/(l.getD at' 0).toNat=0/\0<i+at')->zlH i n l=none
 |_,[],_,_,_,_,_=>by rw[zlH]
 |0,c::t,i,n,_,_,h=>by
  rw[zlH]
  by_cases h9:9<=i
  ·rw[if_pos h9]
  ·rcases h with h|h|⟨h,h'⟩
   ·simp at h
   ·omega
   ·have hz:c.toNat=0:=h;rw[if_neg h9,if_neg zo,if_pos ⟨hz,zo⟩]
 |at'+1,c::t,i,n,h0,hl,h=>by
  have hc:128<=c.toNat:=h0 0 zo;rw[zlH]
  by_cases h9:9<=i
  ·rw[if_pos h9]
  ·rw[if_neg h9,if_pos hc];refine zAc at' t (i+1) _ (λj hj=>by have:=h0 (j+1) zo;simpa using this) (by rw[List.length_cons] at hl;omega) ?_;rcases h with h|h|⟨h,h'⟩
   ·left;rw[List.length_cons] at h;omega
   ·right;left;omega
   ·right;right;exact⟨by simpa using h,zo⟩
theorem zBB (l:List UInt8) (i:Nat) (hi:i<l.length):zzL (l.drop i)=(l.getD i 0).toNat % 128+128*zzL (l.drop (i+1)):=by
 rw[List.drop_eq_getElem_cons hi,zzL,List.getD_eq_getElem?_getD,List.getElem?_eq_getElem hi];rfl
theorem zDp:∀l:List UInt8,zzL l<128 ^ l.length
 |[]=>by simp[zzL]
 |c::t=>by
  have:=zDp t;rw[zzL,List.length_cons,Nat.pow_succ];have:=Nat.mod_lt c.toNat (show 0<128 by omega);omega
theorem zDl (l:List UInt8) (h:l.length<=9):zzL l<=9223372036854775807:=by
 have h1:=zDp l;have h2:(128:Nat) ^ l.length<=128 ^ 9:=Nat.pow_le_pow_right zo h;have h3:(128:Nat) ^ 9=9223372036854775808:=rfl;omega
def R2At (w:World) (b:Nat) (r:RS):Prop:=w.heap[b]?=some (.cells #[.string r.s,.bool r.f] 88 (0,0))
section
variable {w w1:World} {b:Nat} {r:RS}
theorem R2At.lt (h:R2At w b r):b<w.heap.size:=(Array.getElem?_eq_some_iff.1 h).1
theorem R2At.c0 (h:R2At w b r):w.cell? ⟨b,0,none⟩=some (.string r.s):=by rw[Lib.cell_of_heap h];rfl
theorem R2At.c1 (h:R2At w b r):w.cell? ⟨b,1,none⟩=some (.bool r.f):=by rw[Lib.cell_of_heap h];rfl
theorem R2At.fz (h:R2At w b r) (j:Nat):w.frozen? ⟨b,j,none⟩=false:=by simp[World.frozen?,show w.heap[b]?=_ from h]
theorem R2At.set0 (h:R2At w b r) (s:ByteArray):R2At (w.setCell ⟨b,0,none⟩ ↑s) b ⟨s,r.f⟩:=by
 unfold R2At at h ⊢;simp[World.setCell,Array.getElem?_modify,h]
theorem R2At.set1 (h:R2At w b r) (f:Bool):R2At (w.setCell ⟨b,1,none⟩ ↑f) b ⟨r.s,f⟩:=by
 unfold R2At at h ⊢;simp[World.setCell,Array.getElem?_modify,h]
theorem R2At.keep {M:Nat->Prop} (h:R2At w b r) (hc:Chg M w w1) (hb:¬M b):R2At w1 b r:=(hc.block b h.lt hb).trans h
theorem R2At.below (h:R2At w b r) (hc:Below w.heap.size w w1):R2At w1 b r:=(hc.block b h.lt).trans h
end
theorem zCz (s:ByteArray):((s.size:Int) == 0)=s.toList.isEmpty:=by
 rw[ByteArray.toList_eq];have h0:=zai s;cases h:s.data.toList with
 |nil=>
  have h1:s.size=0:=by rw[<-h0,h];rfl
  rw[h1];rfl
 |cons a t=>
  have h1:(s.size:Int)≠0:=by rw[<-h0,h,List.length_cons];omega
  rw[beq_eq_false_iff_ne.2 h1];rfl
def zzS (b:Nat) (r:RS) (v:Value) (w:World) (e:Ending) (w':World):Prop:=e=.returned v/\Chg (λk=>k=b) w w'/\R2At w' b r
theorem zCt (s:ByteArray) (w:World):Calls Tryz.prog 14 #[↑s] w λe w'=>e=.returned (.pointer (some ⟨w.heap.size,0,none⟩))/\Below w.heap.size w w'/\R2At w' w.heap.size ⟨s,false⟩:=by
 go_in;go_wp2;go_ret;exact⟨rfl,(Below.refl _ _).alloc (Nat.le_refl _) _,heap_alloc_new w _⟩
theorem zzY (b:Nat) (r:RS) (w:World) (h:R2At w b r):Calls Tryz.prog 98 #[.pointer (some ⟨b,0,none⟩)] w (zzS b RS.bad (.tuple #[]) w):=by
 have c0:=h.c0;have c1:=h.c1;have f0:=h.fz;have H:=zz h;clear h;go_in;go_wp2;exact bodyPost_ret (v:=.tuple #[]) (by simp[results,Tryz.results98,go_sem]) rfl ⟨rfl,((Chg.refl (λk=>k=b) w).setCell (p:=⟨b,0,none⟩) (.inl rfl) _).setCell (p:=⟨b,1,none⟩) (.inl rfl) _,(H.out.set0 ⟨#[]⟩).set1 true⟩
theorem zzE (b:Nat) (r:RS) (w:World) (h:R2At w b r):Calls Tryz.prog 19 #[.pointer (some ⟨b,0,none⟩)] w λe w'=>e=.returned ↑r.s.size/\w=w':=by
 have c0:=h.c0;clear h;go_in;go_wp2;go_ret;exact⟨rfl,rfl⟩
theorem zzW (b:Nat) (r:RS) (w:World) (h:R2At w b r):Calls Tryz.prog 21 #[.pointer (some ⟨b,0,none⟩)] w λe w'=>e=.returned (.bool (zti r))/\w=w':=by
 have c0:=h.c0;have c1:=h.c1;clear h;obtain⟨s,f⟩:=r;unfold zti;cases f with
 |true=>
  go_in;go_wp2;go_ret;exact⟨rfl,rfl⟩
 |false=>
  go_in;go_wp2;go_ret;exact⟨by simpa using zCz s,rfl⟩
theorem zzB (b:Nat) (r:RS) (n:Int) (w:World) (h:R2At w b r) (hs:r.s.size<=4294967296):Calls Tryz.prog 52 #[.pointer (some ⟨b,0,none⟩),↑n] w (zzS b (zuh r n) (.string (ztZ r n)) w):=by
 have c0:=h.c0;have c1:=h.c1;have f0:=h.fz;have HF:=zz (zzY b r w h);have H:=zz h;clear h;obtain⟨s,f⟩:=r;cases f with
 |true=>
  have HT:Hid (zuh ⟨s,true⟩ n=RS.bad/\ztZ ⟨s,true⟩ n=⟨#[]⟩):=zz (by unfold zuh ztZ;simp);go_in;go_wp2_with fail;refine zi HF ?_;rintro e w1 ⟨rfl,hc,hr⟩;have HC:=zz hc;have HR:=zz hr;clear hc hr;go_wp2;go_ret;rw[HT.out.1,HT.out.2];exact⟨rfl,HC.out,HR.out⟩
 |false=>
  by_cases h0:n<0
  ·have HT:Hid (zuh ⟨s,false⟩ n=RS.bad/\ztZ ⟨s,false⟩ n=⟨#[]⟩):=zz (by unfold zuh ztZ;simp[h0]);go_in;go_wp2_with fail;refine zi HF ?_;rintro e w1 ⟨rfl,hc,hr⟩;have HC:=zz hc;have HR:=zz hr;clear hc hr;go_wp2;go_ret;rw[HT.out.1,HT.out.2];exact⟨rfl,HC.out,HR.out⟩
  ·by_cases h1:(s.size:Int)<n
   ·have HT:Hid (zuh ⟨s,false⟩ n=RS.bad/\ztZ ⟨s,false⟩ n=⟨#[]⟩):=zz (by unfold zuh ztZ;simp[h0,h1]);have hd:decide ((s.size:Int)<n)=true:=by simpa using h1
    go_in;go_wp2_with fail;refine zi HF ?_;rintro e w1 ⟨rfl,hc,hr⟩;have HC:=zz hc;have HR:=zz hr;clear hc hr;go_wp2;go_ret;rw[HT.out.1,HT.out.2];exact⟨rfl,HC.out,HR.out⟩
   ·obtain⟨k,rfl⟩:∃k:Nat,n=(k:Int):=⟨n.toNat,zo⟩;have hk:k<=s.size:=zo
    have HT:Hid (zuh ⟨s,false⟩ (k:Int)=⟨s.extract k s.size,false⟩/\ztZ ⟨s,false⟩ (k:Int)=s.extract 0 k):=zz (by unfold zuh ztZ;simp[h0,h1]);have hd:decide ((s.size:Int)<(k:Int))=false:=by simpa using h1
    clear HF;go_in;go_wp2;go_ret;rw[HT.out.1,HT.out.2];exact⟨rfl,(Chg.refl (λk=>k=b) w).setCell (p:=⟨b,0,none⟩) (.inl rfl) _,H.out.set0 _⟩
theorem zAr (s:ByteArray) (i:Nat):zak s i=(((s.data.toList.getD i 0).toNat:Nat):Int):=rfl
theorem zAn (b:Nat) (r:RS) (w:World) (h:R2At w b r) (hs:r.s.size<=4294967296):Calls Tryz.prog 95 #[.pointer (some ⟨b,0,none⟩)] w (zzS b (numR r) (.int .i64 (numV r)) w):=by
 have c0:=h.c0;have f0:=h.fz;have HF:=zz (zzY b r w h);have H:=zz h;clear h;obtain⟨s,f⟩:=r;obtain⟨R,hR⟩:∃R,numR ⟨s,f⟩=R:=⟨_,rfl⟩;obtain⟨V,hV⟩:∃V,numV ⟨s,f⟩=V:=⟨_,rfl⟩
 have HY:Hid (∀v k,zlH 0 0 s.data.toList=some (v,k)->R=⟨s.extract k s.size,f⟩/\V=v):=zz (λv k h=>by
  rw[<-hR,<-hV];unfold numR numV numO;rw[h];exact⟨rfl,rfl⟩)
 have HN:Hid (zlH 0 0 s.data.toList=none->R=RS.bad/\V=0):=zz (λh=>by
  rw[<-hR,<-hV];unfold numR numV numO;rw[h];exact⟨rfl,rfl⟩)
 rw[hR,hV];clear hR hV;go_in;go_wp2
 go_loopw [3] (λs3 wr=>∃(i:Nat),i<=s.size/\s3=↑i/\wr=w/\Hid (∀j,j<i->128<=(s.data.toList.getD j 0).toNat)) (λs3 _=>s.size-(intOf s3).toNat)
 case atStart=>exact⟨0,zo,rfl,rfl,zz (λj hj=>by omega)⟩
 case round=>
  obtain⟨i,his,rfl,rfl,HG⟩:=hrel
  by_cases hlt:i<s.size
  ·have hix:=zaP s i hlt wr;have hr:=zbt s i;have HBN:=zz (zAr s i);obtain⟨x,hx⟩:=zn (zak s i);rw[hx] at hix hr HBN;obtain⟨hx0,hx1⟩:=hr;clear hx
   by_cases h128:(128:Int)<=x
   ·have HG2:Hid (∀j,j<i+1->128<=(s.data.toList.getD j 0).toNat):=zz (λj hj=>by
     by_cases h:j<i
     ·exact HG.out j h
     ·obtain rfl:j=i:=zo
      have:=HBN.out;omega)
    have hd1:decide ((128:Int)<=x)=true:=by simpa using h128
    have hd2:¬x<128:=zo
    go_wp2;exact⟨⟨i+1,zo,by go_num,by trivial,HG2⟩,by simp[intOf];omega⟩
   ·have hd1:decide ((128:Int)<=x)=false:=by simpa using h128
    have hd2:x<128:=zo
    by_cases h8:(8:Int)<i
    ·have HRV:=zz (HN.out (zAc i _ 0 0 HG.out (by rw[zai];exact his) (.inr (.inl zo))));go_wp2_with fail;refine zi HF ?_;rintro e w1 ⟨rfl,hc1,hr1⟩;have HC:=zz hc1;have HR:=zz hr1;clear hc1 hr1;go_wp2;go_ret;rw[HRV.out.1,HRV.out.2];exact⟨rfl,HC.out,HR.out⟩
    ·by_cases hi0:(0:Int)<i
     ·by_cases hz:x=0
      ·have HRV:=zz (HN.out (zAc i _ 0 0 HG.out (by rw[zai];exact his) (.inr (.inr ⟨by have:=HBN.out;omega,zo⟩))));have hzb:(x == 0)=true:=by simpa using hz
       clear hz;go_wp2_with fail;refine zi HF ?_;rintro e w1 ⟨rfl,hc1,hr1⟩;have HC:=zz hc1;have HR:=zz hr1;clear hc1 hr1;go_wp2;go_ret;rw[HRV.out.1,HRV.out.2];exact⟨rfl,HC.out,HR.out⟩
      ·have hzb:(x == 0)=false:=by simpa using hz
       have HLE:Hid ((s.data.toList.take (i+1)).drop (i+1)=[]):=zz (List.drop_eq_nil_of_le (by rw[List.length_take];omega));have HVAL:=zz (zAN i s.data.toList 0 0 (by rw[zai];exact hlt) HG.out (by have:=HBN.out;omega) zo (by have:=HBN.out;omega));clear hz;clear HF;obtain⟨wo,hwo⟩:∃wo,wo=wr:=⟨_,rfl⟩;subst hwo;go_wp2
       go_loopw [4,5] (λs4 s5 wr=>∃(k:Nat) (z:Int),s5=↑z/\Hid (z=(k:Int)-1)/\-1<=z/\z<=i/\s4=.int .i64 (zzL ((s.data.toList.take (i+1)).drop k):Nat)/\wr=wo) (λ_ s5 _=>(intOf s5+1).toNat)
       case atStart=>exact⟨i+1,(i:Int),rfl,zz zo,zo,zo,by rw[HLE.out];rfl,rfl⟩
       case round=>
        obtain⟨k,z,rfl,HZ,hz0,hz1,rfl,rfl⟩:=hrel
        by_cases hk:0<=z
        ·obtain⟨q,rfl⟩:∃q:Nat,z=q:=⟨z.toNat,zo⟩;obtain rfl:k=q+1:=by have:=HZ.out;omega
         have hqs:q<s.size:=zo
         have hixq:=zaP s q hqs wr;have hrq:=zbt s q;have hu:=zyn (s.data.toList.getD q 0).toNat (by have:=(s.data.toList.getD q 0).toNat_lt;omega);rw[<-zAr] at hu;have hvd:=zBB (s.data.toList.take (i+1)) q (by rw[List.length_take,zai];omega);have hge:(s.data.toList.take (i+1)).getD q 0=s.data.toList.getD q 0:=by rw[List.getD_eq_getElem?_getD,List.getD_eq_getElem?_getD,List.getElem?_take,if_pos zo]
         rw[hge] at hvd;have hvl:=zDl ((s.data.toList.take (i+1)).drop q) (by rw[List.length_drop,List.length_take,zai];omega);obtain⟨d,hd⟩:=zn ((s.data.toList.getD q 0).toNat % 128);rw[hd] at hu hvd;have hd7:d<=127:=zo
         obtain⟨n,hn⟩:=zn (zzL ((s.data.toList.take (i+1)).drop (q+1)));rw[hn] at hvd ⊢;obtain⟨m,hm⟩:=zn (zzL ((s.data.toList.take (i+1)).drop q));rw[hm] at hvd hvl;have HM:=zz hm;have HVD:=zz hvd;have hb1:(n:Int)*128+d<=9223372036854775807:=zo
         have hb2:(n:Int)*128<=9223372036854775807:=zo
         have h0w:wrap64 (d:Int)=d:=IntWalk.wrap64_in _ ⟨zo,zo⟩;obtain⟨y,hy⟩:=zn (zak s q);rw[hy] at hixq hrq hu;obtain⟨hy0,hy1⟩:=hrq;clear hvd hm hn hd hge hvl hy;go_wp2;exact⟨⟨q,(q:Int)-1,by go_num,zz rfl,zo,zo,by rw[HM.out,HVD.out];exact congrArg _ zo,by trivial⟩,by simp[intOf]⟩
        ·obtain rfl:k=0:=by have:=HZ.out;omega
         have hrv:=HY.out _ _ HVAL.out;have HRV:Hid (R=⟨s.extract (i+1) s.size,f⟩/\V=zzL ((s.data.toList.take (i+1)).drop 0)):=zz ⟨by rw[hrv.1];simp,by rw[hrv.2];simp⟩;clear hrv;generalize zzL ((s.data.toList.take (i+1)).drop 0)=v at *
         go_wp2;go_ret;rw[HRV.out.1,HRV.out.2];exact⟨rfl,(Chg.refl (λk=>k=b) wr).setCell (p:=⟨b,0,none⟩) (.inl rfl) _,H.out.set0 _⟩
     ·have hi00:i=0:=zo
      have HLE:Hid ((s.data.toList.take (i+1)).drop (i+1)=[]):=zz (List.drop_eq_nil_of_le (by rw[List.length_take];omega));have HVAL:=zz (zAN i s.data.toList 0 0 (by rw[zai];exact hlt) HG.out (by have:=HBN.out;omega) zo (by have:=HBN.out;omega));clear hi00;clear HF;obtain⟨wo,hwo⟩:∃wo,wo=wr:=⟨_,rfl⟩;subst hwo;go_wp2
      go_loopw [4,5] (λs4 s5 wr=>∃(k:Nat) (z:Int),s5=↑z/\Hid (z=(k:Int)-1)/\-1<=z/\z<=i/\s4=.int .i64 (zzL ((s.data.toList.take (i+1)).drop k):Nat)/\wr=wo) (λ_ s5 _=>(intOf s5+1).toNat)
      case atStart=>exact⟨i+1,(i:Int),rfl,zz zo,zo,zo,by rw[HLE.out];rfl,rfl⟩
      case round=>
       obtain⟨k,z,rfl,HZ,hz0,hz1,rfl,rfl⟩:=hrel
       by_cases hk:0<=z
       ·obtain⟨q,rfl⟩:∃q:Nat,z=q:=⟨z.toNat,zo⟩;obtain rfl:k=q+1:=by have:=HZ.out;omega
        have hqs:q<s.size:=zo
        have hixq:=zaP s q hqs wr;have hrq:=zbt s q;have hu:=zyn (s.data.toList.getD q 0).toNat (by have:=(s.data.toList.getD q 0).toNat_lt;omega);rw[<-zAr] at hu;have hvd:=zBB (s.data.toList.take (i+1)) q (by rw[List.length_take,zai];omega);have hge:(s.data.toList.take (i+1)).getD q 0=s.data.toList.getD q 0:=by rw[List.getD_eq_getElem?_getD,List.getD_eq_getElem?_getD,List.getElem?_take,if_pos zo]
        rw[hge] at hvd;have hvl:=zDl ((s.data.toList.take (i+1)).drop q) (by rw[List.length_drop,List.length_take,zai];omega);obtain⟨d,hd⟩:=zn ((s.data.toList.getD q 0).toNat % 128);rw[hd] at hu hvd;have hd7:d<=127:=zo
        obtain⟨n,hn⟩:=zn (zzL ((s.data.toList.take (i+1)).drop (q+1)));rw[hn] at hvd ⊢;obtain⟨m,hm⟩:=zn (zzL ((s.data.toList.take (i+1)).drop q));rw[hm] at hvd hvl;have HM:=zz hm;have HVD:=zz hvd;have hb1:(n:Int)*128+d<=9223372036854775807:=zo
        have hb2:(n:Int)*128<=9223372036854775807:=zo
        have h0w:wrap64 (d:Int)=d:=IntWalk.wrap64_in _ ⟨zo,zo⟩;obtain⟨y,hy⟩:=zn (zak s q);rw[hy] at hixq hrq hu;obtain⟨hy0,hy1⟩:=hrq;clear hvd hm hn hd hge hvl hy;go_wp2;exact⟨⟨q,(q:Int)-1,by go_num,zz rfl,zo,zo,by rw[HM.out,HVD.out];exact congrArg _ zo,by trivial⟩,by simp[intOf]⟩
       ·obtain rfl:k=0:=by have:=HZ.out;omega
        have hrv:=HY.out _ _ HVAL.out;have HRV:Hid (R=⟨s.extract (i+1) s.size,f⟩/\V=zzL ((s.data.toList.take (i+1)).drop 0)):=zz ⟨by rw[hrv.1];simp,by rw[hrv.2];simp⟩;clear hrv;generalize zzL ((s.data.toList.take (i+1)).drop 0)=v at *
        go_wp2;go_ret;rw[HRV.out.1,HRV.out.2];exact⟨rfl,(Chg.refl (λk=>k=b) wr).setCell (p:=⟨b,0,none⟩) (.inl rfl) _,H.out.set0 _⟩
  ·have HRV:=zz (HN.out (zAc i _ 0 0 HG.out (by rw[zai];exact his) (.inl (by rw[zai];omega))));have hlt2:¬(i:Int)<s.size:=zo
   have hle2:(s.size:Int)<=i:=zo
   go_wp2_with fail;refine zi HF ?_;rintro e w1 ⟨rfl,hc1,hr1⟩;have HC:=zz hc1;have HR:=zz hr1;clear hc1 hr1;go_wp2;go_ret;rw[HRV.out.1,HRV.out.2];exact⟨rfl,HC.out,HR.out⟩
theorem zxr {α:Type} {p:Nat->α->Prop}:∀n:Nat,(∀i,i<n->∃a,p i a)->∃l:List α,l.length=n/\∀i a,l[i]?=some a->p i a
 |0,_=>⟨[],rfl,λi a h=>by simp at h⟩
 |n+1,h=>by
  obtain⟨l,h1,h2⟩:=zxr n (λi hi=>h i zo);obtain⟨a,ha⟩:=h n zo;refine⟨l++[a],by simp[h1],λi b hb=>?_⟩;rcases Nat.lt_or_ge i n with hi|hi
  ·rw[List.getElem?_append_left zo] at hb;exact h2 i b hb
  ·rw[List.getElem?_append_right zo] at hb;have hl:=(List.getElem?_eq_some_iff.1 hb).1;simp at hl;obtain rfl:i=n:=zo
   rw[h1,Nat.sub_self] at hb;simp at hb;rw[<-hb];exact ha
theorem zxZ {α β:Type} (f:α->Nat) (g:β->Nat):∀(l:List α) (m:List β),l.length=m.length->(∀(i:Nat) (a:α) (b:β),l[i]?=some a->m[i]?=some b->f a<=g b)->(l.map f).sum<=(m.map g).sum
 |[],m,h,_=>by simp
 |a::l,[],h,_=>by simp at h
 |a::l,b::m,h,hf=>by
  have h1:=hf 0 a b rfl rfl;have h2:=zxZ f g l m (by simpa using h) (λi x y hx hy=>hf (i+1) x y (by simpa using hx) (by simpa using hy));simp only[List.map_cons,List.sum_cons];omega
theorem zvw {H:Type}:∀l:List (DataW H),Rows.uptoBulkAll l=(l.map Rows.uptoBulk).sum
 |[]=>by simp[Rows.uptoBulkAll]
 |d::r=>by simp[Rows.uptoBulkAll,zvw r]
section
variable {H:Type} {enc:TypeId × Value->H} {W:World}
theorem zxJ {a:Addr} {n:Nat} {cs:List Value} (h:W.cells? 0 a n=some cs):cs.length=n/\∀j u,cs[j]?=some u->W.cell? (a.add j)=some u:=by
 obtain⟨_,h1,h2⟩:=World.cells?_some h;refine⟨h1,λj u hj=>?_⟩;have hl:j<cs.length:=(List.getElem?_eq_some_iff.1 hj).1;rw[h2 j zo];exact hj
theorem zxv {t e:TypeId} {k n:Nat} {cs:List Value} {x:DataW H × List MemPlace} (ht:Tryz.prog.underlying t=some (.slice e)) (hc:Tryz.prog.cellsOf e=k) (hk:0<k) {α:Type} (row:α->Nat->D) (rows:List α->Nat->Nat->D) (hrows:∀l i a,l[i]?=some a->rows l i=row a) (bulk:α->Nat) (Q:α->Prop)
 (helem:∀cs x,DataW.trod enc Tryz.prog W 0 (λ_=>true) true n e cs=some x->∃a:α,(∀j u,cs[j]?=some u->Rd (Lt W.heap.size) W (row a j) u)/\bulk a<=Rows.uptoBulk x.1/\Q a)
 (h:DataW.trod enc Tryz.prog W 0 (λ_=>true) true (n+1) t cs=some x) :
 ∃A c,∃l:List α,cs=[.slice A l.length c]/\Rd (Lt W.heap.size) W (.sl k l.length (rows l)) (.slice A l.length c)/\(l.map bulk).sum+1<=Rows.uptoBulk x.1/\∀a∈l,Q a:=by
 rcases DataW.trod_slice ht h with ⟨rfl,rfl⟩|⟨a,len,cap,elems,rest,m,hm,rfl,rfl,_,hl,hcm,hel,hat,_,_⟩
 ·exact⟨none,0,[],rfl,Rd.sl_nil,by simp[Rows.uptoBulk],λa ha=>absurd ha zs⟩
 ·obtain rfl:n=m:=zo
  rw[hc] at hat
  have each:∀i,i<len->∃b:α,(∀j,j<k->∃u,W.cell? ((a.add (i*k)).add j)=some u/\Rd (Lt W.heap.size) W (row b j) u)/\(∀y,elems[i]?=some y->bulk b<=Rows.uptoBulk y.1)/\Q b:=λi hi=>by
   have h1:=hat i hi;have hi2:elems[i]?=some elems[i]:=List.getElem?_eq_getElem zo;rw[hi2] at h1;obtain⟨cs',h2,h3⟩:=Option.bind_eq_some_iff.1 h1;obtain⟨hl2,hce⟩:=zxJ h2;obtain⟨b,hb1,hb2,hb3⟩:=helem cs' _ h3;refine⟨b,λj hj=>?_,λy hy=>?_,hb3⟩
   ·have hu:cs'[j]?=some (cs'[j]'(zo)):=List.getElem?_eq_getElem zo;exact⟨_,hce j _ hu,hb1 j _ hu⟩
   ·rw[hi2] at hy;rw[<-Option.some.inj hy];exact hb2
  obtain⟨l,hll,hlp⟩:=zxr len each;subst hll;refine⟨some a,cap,l,rfl,?_,?_,λb hb=>?_⟩
  ·refine Rd.sl_mk hl (by unfold maxLen at hcm;exact hcm) λhpos=>?_;have h0:l[0]?=some l[0]:=List.getElem?_eq_getElem hpos;obtain⟨u,hu,_⟩:=(hlp 0 _ h0).1 0 hk;have ha0:(a.add (0*k)).add 0=a:=by simp[Addr.add]
   rw[ha0] at hu
   have hsp:a.spot=none:=by
    unfold World.cell? at hu
    split at hu
    ·split at hu
     ·cases hu
     ·rename_i h;simpa using h
    ·cases hu
   obtain⟨ab,ao,asp⟩:=a;have hsp:asp=none:=hsp;subst hsp;refine⟨ab,ao,rfl,World.block_lt_of_cell? W _ hu,λi hi j hj=>?_⟩;have hi2:l[i]?=some l[i]:=List.getElem?_eq_getElem hi;obtain⟨u,hu,hd⟩:=(hlp i _ hi2).1 j hj;rw[Addr.add_lit,Addr.add_lit] at hu;exact⟨u,hu,by rw[hrows l i _ hi2];exact hd⟩
  ·have:=zxZ bulk (λy:DataW H × List MemPlace=>Rows.uptoBulk y.1) l elems zo (λi b y hb hy=>(hlp i b hb).2.1 y hy);simp only[Rows.uptoBulk,zvw,List.map_map];have h2:(elems.map (Rows.uptoBulk ∘ λy=>y.1)).sum=(elems.map λy:DataW H × List MemPlace=>Rows.uptoBulk y.1).sum:=rfl;rw[h2];omega
  ·obtain⟨i,hi⟩:=List.mem_iff_getElem?.1 hb;exact(hlp i b hi).2.2
theorem zuW {n:Int} (h:(Lit.int .i64 n).wf=true):-9223372036854775808<=n/\n<=9223372036854775807:=by
 simp[Lit.wf,IntKind.min,IntKind.max,IntKind.signed,IntKind.bits] at h;omega
theorem zwi:∀l:List V,zcl l=(l.map V.bulk).sum
 |[]=>rfl
 |v::r=>by rw[zbK,zwi r];rfl
theorem zya:∀l:List V,(∀v∈l,v.Wf)->WfV l
 |[],_=>by rw[WfV];trivial
 |v::r,h=>by rw[WfV];exact⟨h v List.mem_cons_self,zya r (λv hv=>h v (List.mem_cons_of_mem _ hv))⟩
theorem zvm {l:List Value} {k:Nat} {v:Value} (h:(l.drop k).take 1=[v]):l[k]?=some v:=by
 have:=congrArg (λm=>m[0]?) h
 simpa [List.getElem?_take,List.getElem?_drop] using this
theorem zwx:∀(N fuel:Nat),fuel<=N->∀(cs:List Value) (x:DataW H × List MemPlace),DataW.trod enc Tryz.prog W 0 (λ_=>true) true fuel 22 cs=some x->
 ∃A c,∃l:List V,cs=[.slice A l.length c]/\Rd (Lt W.heap.size) W (vs l) (.slice A l.length c)/\zcl l+1<=Rows.uptoBulk x.1/\WfV l:=by
 intro N
 induction N with
 |zero=>
  intro fuel hf cs x h;obtain rfl:fuel=0:=zo
  simp[DataW.trod] at h
 |succ N ih=>
  intro fuel hf cs x h;cases fuel with
  |zero=>simp[DataW.trod] at h
  |succ n=>
   obtain⟨A,c,l,h1,h2,h3,h4⟩:=zxv (k:=6) Tryz.underlying22 zk zo V.row zgZ zeU V.bulk V.Wf (λcs x hx=>by
    obtain⟨xs,m,hm,rfl,hlen,hxs,hfl⟩:=DataW.trod_struct Tryz.underlying24 hx;have g0:DataW.trod enc Tryz.prog W 0 (λ_=>true) true m 3 ((cs.drop 0).take (Tryz.prog.cellsOf 3))=xs[0]?:=hfl 0 _ rfl;have g1:DataW.trod enc Tryz.prog W 0 (λ_=>true) true m 9 ((cs.drop 1).take (Tryz.prog.cellsOf 9))=xs[1]?:=hfl 1 _ rfl;have g2:DataW.trod enc Tryz.prog W 0 (λ_=>true) true m 3 ((cs.drop 2).take (Tryz.prog.cellsOf 3))=xs[2]?:=hfl 2 _ rfl;have g3:DataW.trod enc Tryz.prog W 0 (λ_=>true) true m 3 ((cs.drop 3).take (Tryz.prog.cellsOf 3))=xs[3]?:=hfl 3 _ rfl;have g4:DataW.trod enc Tryz.prog W 0 (λ_=>true) true m 9 ((cs.drop 4).take (Tryz.prog.cellsOf 9))=xs[4]?:=hfl 4 _ rfl;have g5:DataW.trod enc Tryz.prog W 0 (λ_=>true) true m 22 ((cs.drop 5).take (Tryz.prog.cellsOf 22))=xs[5]?:=hfl 5 _ rfl;have hs:xs.length=6:=hxs
    obtain⟨x0,x1,x2,x3,x4,x5,rfl⟩:∃x0 x1 x2 x3 x4 x5,xs=[x0,x1,x2,x3,x4,x5]:=by
     match xs,hs with
     |[x0,x1,x2,x3,x4,x5],_=>exact⟨_,_,_,_,_,_,rfl⟩
    have cc3:Tryz.prog.cellsOf 3=1:=by kernel_rfl
    have cc9:Tryz.prog.cellsOf 9=1:=by kernel_rfl
    have cc30:Tryz.prog.cellsOf 22=1:=by kernel_rfl
    obtain⟨kd,e0,f0,w0⟩:=DataW.trod_int Tryz.underlying3 g0;obtain⟨t,e1,f1,_⟩:=DataW.trod_string Tryz.underlying9 g1;obtain⟨n',e2,f2,w2⟩:=DataW.trod_int Tryz.underlying3 g2;obtain⟨m',e3,f3,w3⟩:=DataW.trod_int Tryz.underlying3 g3;obtain⟨s,e4,f4,_⟩:=DataW.trod_string Tryz.underlying9 g4;obtain⟨A',c',l',e5,r5,b5,wf5⟩:=ih m zo _ _ g5;rw[cc3] at e0 e2 e3;rw[cc9] at e1 e4;rw[cc30] at e5;have hlen:cs.length=6:=hlen.trans zk;refine⟨.mk kd t n' m' s l',λj u hj=>?_,?_,?_⟩
    ·refine zpU r5 j u ?_;rw[<-hj]
     match j with
     |0=>exact(zvm e0).symm
     |1=>exact(zvm e1).symm
     |2=>exact(zvm e2).symm
     |3=>exact(zvm e3).symm
     |4=>exact(zvm e4).symm
     |5=>exact(zvm e5).symm
     |j+6=>rw[List.getElem?_eq_none zs,List.getElem?_eq_none zo]
    ·rw[zbv];subst f0 f1 f2 f3 f4;simp only[List.map_cons,List.map_nil,Rows.uptoBulk,Rows.uptoBulkAll];simp only[zai];omega
    ·rw[V.Wf];exact⟨zuW w0,zuW w2,zuW w3,wf5⟩) h
   exact⟨A,c,l,h1,h2,by rw[zwi];exact h3,zya l h4⟩
theorem zvi (fuel:Nat) (cs:List Value) (x:DataW H × List MemPlace) (hx:DataW.trod enc Tryz.prog W 0 (λ_=>true) true fuel 24 cs=some x) :
 ∃v:V,∃A c,cs=[.int .i64 v.kind,.string v.t,.int .i64 v.n,.int .i64 v.m,.string v.s,.slice A v.l.length c]/\Rd (Lt W.heap.size) W (vs v.l) (.slice A v.l.length c)/\v.bulk<=Rows.uptoBulk x.1/\v.Wf:=by
 obtain⟨xs,m,hm,rfl,hlen,hxs,hfl⟩:=DataW.trod_struct Tryz.underlying24 hx;have g0:DataW.trod enc Tryz.prog W 0 (λ_=>true) true m 3 ((cs.drop 0).take (Tryz.prog.cellsOf 3))=xs[0]?:=hfl 0 _ rfl;have g1:DataW.trod enc Tryz.prog W 0 (λ_=>true) true m 9 ((cs.drop 1).take (Tryz.prog.cellsOf 9))=xs[1]?:=hfl 1 _ rfl;have g2:DataW.trod enc Tryz.prog W 0 (λ_=>true) true m 3 ((cs.drop 2).take (Tryz.prog.cellsOf 3))=xs[2]?:=hfl 2 _ rfl;have g3:DataW.trod enc Tryz.prog W 0 (λ_=>true) true m 3 ((cs.drop 3).take (Tryz.prog.cellsOf 3))=xs[3]?:=hfl 3 _ rfl;have g4:DataW.trod enc Tryz.prog W 0 (λ_=>true) true m 9 ((cs.drop 4).take (Tryz.prog.cellsOf 9))=xs[4]?:=hfl 4 _ rfl;have g5:DataW.trod enc Tryz.prog W 0 (λ_=>true) true m 22 ((cs.drop 5).take (Tryz.prog.cellsOf 22))=xs[5]?:=hfl 5 _ rfl;have hs:xs.length=6:=hxs
 obtain⟨x0,x1,x2,x3,x4,x5,rfl⟩:∃x0 x1 x2 x3 x4 x5,xs=[x0,x1,x2,x3,x4,x5]:=by
  match xs,hs with
  |[x0,x1,x2,x3,x4,x5],_=>exact⟨_,_,_,_,_,_,rfl⟩
 have cc3:Tryz.prog.cellsOf 3=1:=by kernel_rfl
 have cc9:Tryz.prog.cellsOf 9=1:=by kernel_rfl
 have cc30:Tryz.prog.cellsOf 22=1:=by kernel_rfl
 obtain⟨kd,e0,f0,w0⟩:=DataW.trod_int Tryz.underlying3 g0;obtain⟨t,e1,f1,_⟩:=DataW.trod_string Tryz.underlying9 g1;obtain⟨n',e2,f2,w2⟩:=DataW.trod_int Tryz.underlying3 g2;obtain⟨m',e3,f3,w3⟩:=DataW.trod_int Tryz.underlying3 g3;obtain⟨s,e4,f4,_⟩:=DataW.trod_string Tryz.underlying9 g4;obtain⟨A',c',l',e5,r5,b5,wf5⟩:=zwx m m (Nat.le_refl _) _ _ g5;rw[cc3] at e0 e2 e3;rw[cc9] at e1 e4;rw[cc30] at e5;have hlen:cs.length=6:=hlen.trans zk;refine⟨.mk kd t n' m' s l',A',c',?_,r5,?_,?_⟩
 ·apply List.ext_getElem?;intro j
  match j with
  |0=>exact zvm e0
  |1=>exact zvm e1
  |2=>exact zvm e2
  |3=>exact zvm e3
  |4=>exact zvm e4
  |5=>exact zvm e5
  |j+6=>rw[List.getElem?_eq_none zo,List.getElem?_eq_none zs]
 ·rw[zbv];subst f0 f1 f2 f3 f4;simp only[List.map_cons,List.map_nil,Rows.uptoBulk,Rows.uptoBulkAll];simp only[zai];omega
 ·rw[V.Wf];exact⟨zuW w0,zuW w2,zuW w3,wf5⟩
end
end Go.Proofs.YtcebmphappfjjaaGreatDoor
