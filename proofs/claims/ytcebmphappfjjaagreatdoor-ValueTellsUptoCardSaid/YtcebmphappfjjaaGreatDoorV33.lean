/- Conditions: those in each statement. -/
import Derived.Test.YtcebmphappfjjaaGreatDoorV31
import Derived.Test.YtcebmphappfjjaaGreatDoorV29
import Derived.Test.YtcebmphappfjjaaGreatDoorV32
import Derived.Test.YtcebmphappfjjaaGreatDoorV30
import Derived.Test.YtcebmphappfjjaaGreatDoorV25
set_option maxHeartbeats 32000000
set_option maxRecDepth 100000
namespace Go.Proofs.YtcebmphappfjjaaGreatDoor
def zey (r:RS) (l:List UInt8):Prop:=r.f=false/\r.s.data.toList=l
theorem zrY {s t:ByteArray} (h:s.data.toList=t.data.toList):s=t:=by
 cases s;cases t;simp at h;rw[h]
theorem zuq (m:Nat) (h:m<256):(UInt8.ofNat m).toNat=m:=by rw[UInt8.toNat_ofNat'];omega
theorem zlu:∀(f m i acc:Nat) (rest:List UInt8),i+f=9->m<128 ^ f->(0<i->0<m)->zlH i acc ((numI f m).map (λn=>UInt8.ofNat n.toNat)++rest)=some (acc+m*128 ^ i,i+(numI f m).length)
 |0,m,i,acc,rest,_,hm,hz=>by simp at hm;omega
 |f+1,m,i,acc,rest,hi,hm,hz=>by
  rw[numI]
  by_cases h:m<128
  ·rw[if_pos h]
   show zlH i acc (UInt8.ofNat ((m:Int)).toNat::rest)=_
   have e:(UInt8.ofNat ((m:Int)).toNat).toNat=m:=by rw[Int.toNat_natCast];exact zuq m zo
   rw[zlH,if_neg zo,e,if_neg zo,if_neg zo,Nat.mod_eq_of_lt h];rfl
  ·rw[if_neg h]
   show zlH i acc (UInt8.ofNat ((m:Int) % 128+128).toNat::((numI f (m / 128)).map (λn=>UInt8.ofNat n.toNat)++rest))=_
   have e:(UInt8.ofNat ((m:Int) % 128+128).toNat).toNat=m % 128+128:=by
    rw[show ((m:Int) % 128+128).toNat=m % 128+128 by omega];exact zuq _ zo
   have hf:0<f:=by
    rcases Nat.eq_zero_or_pos f with h0|h0
    ·subst h0;simp at hm;omega
    ·exact h0
   rw[zlH,if_neg zo,e,if_pos zo,zlu f (m / 128) (i+1) _ rest zo (by rw[Nat.pow_succ] at hm;omega) zo]
   have e2:acc+(m % 128+128) % 128*128 ^ i+m / 128*128 ^ (i+1)=acc+m*128 ^ i:=by
    rw[show (m % 128+128) % 128=m % 128 by omega,Nat.pow_succ,Nat.add_assoc]
    congr 1
    have e3:m / 128*(128 ^ i*128)=m / 128*128*128 ^ i:=by rw[Nat.mul_assoc,Nat.mul_comm (128 ^ i)]
    rw[e3,<-Nat.add_mul]
    congr 1
    omega
   rw[e2,List.length_cons]
   congr 2
   omega
theorem zhg {r:RS} {n:Nat} {rest:List UInt8} (hn:n<=9223372036854775807) (h:zey r ((numB n).data.toList++rest)):numV r=n/\zey (numR r) rest:=by
 obtain⟨h1,h2⟩:=h
 have hg:numO r=some (n,(numI 9 n).length):=by
  unfold numO;rw[h2];have:=zlu 9 n 0 0 rest rfl (by have:(128:Nat) ^ 9=9223372036854775808:=rfl;omega) zo;rw[Nat.pow_zero,Nat.mul_one,Nat.zero_add,Nat.zero_add] at this;exact this
 refine⟨by unfold numV;rw[hg],?_⟩;unfold numR;rw[hg];refine⟨h1,?_⟩
 show (r.s.extract _ r.s.size).data.toList=_
 rw[zcw,h2,List.drop_append_of_le_length (by unfold numB;rw[strOfNums_data,List.length_map];exact Nat.le_refl _),List.drop_eq_nil_of_le (by unfold numB;rw[strOfNums_data,List.length_map];exact Nat.le_refl _),List.nil_append]
theorem zjl {r:RS} {t:ByteArray} {rest:List UInt8} (ht:t.size<=9223372036854775807) (h:zey r ((zoI t).data.toList++rest)):zoJ r=t/\zey (zmM r) rest:=by
 unfold zoI at h;rw[ByteArray.data_append,Array.toList_append,List.append_assoc] at h;obtain⟨e1,e2,e3⟩:=zhg ht h
 have hl:¬((numR r).f=true\/((t.size:Nat):Int)<0\/((numR r).s.size:Int)<((t.size:Nat):Int)):=by
  rw[e2];have:(numR r).s.size=(t.data.toList++rest).length:=by rw[<-e3,zai]
  rw[List.length_append,zai] at this;simp;omega
 refine⟨?_,?_⟩
 ·unfold zoJ ztZ;rw[e1,if_neg hl];apply zrY;rw[Int.toNat_natCast,zgO,e3,List.take_append_of_le_length (by rw[zai];exact Nat.le_refl _),List.take_of_length_le (by rw[zai];exact Nat.le_refl _)]
 ·unfold zmM zuh;rw[e1,if_neg hl];refine⟨rfl,?_⟩
  show ((numR r).s.extract _ (numR r).s.size).data.toList=_
  rw[Int.toNat_natCast,zcw,e3,List.drop_append_of_le_length (by rw[zai];exact Nat.le_refl _),List.drop_eq_nil_of_le (by rw[zai];exact Nat.le_refl _),List.nil_append]
theorem zmJ {r:RS} {n:Int} {rest:List UInt8} (h0:-1152921504606846976<=n) (h1:n<=1152921504606846976) (h:zey r ((intB n).data.toList++rest)):intV r=n/\zey (intR r) rest:=by
 unfold intB at h;rw[if_neg zo] at h
 have key:∀z:Nat,z<=9223372036854775807->zig z=n->zey r ((numB z).data.toList++rest)->intV r=n/\zey (intR r) rest:=λz hz e hh=>by
  obtain⟨e1,e2⟩:=zhg hz hh;have hb:zmW (numV r)=false:=by unfold zmW;rw[e1,e];simp;omega
  unfold intV intR;rw[hb,e1,e];exact⟨rfl,e2⟩
 by_cases hn:n<0
 ·rw[if_pos hn] at h;exact key _ zo (by unfold zig;rw[if_pos zo];omega) h
 ·rw[if_neg hn] at h;exact key _ zo (by unfold zig;rw[if_neg zo];omega) h
def zmw (v:V):Prop:=(0<=v.kind/\v.kind<=9223372036854775807)/\(-1152921504606846976<=v.n/\v.n<=1152921504606846976)/\(-1152921504606846976<=v.m/\v.m<=1152921504606846976)/\v.t.size<=9223372036854775807/\v.s.size<=9223372036854775807
theorem zhQ {F:Nat} (ih:∀(v:V) (left:Nat) (r:RS) (rest:List UInt8),v.All zmw->zcf v<=left->left<F->left<=16384->zey r (zgJ v++rest)->∃r',decS F r left=some (v,r',left-zcf v)/\zey r' rest) :
 ∀(l:List V) (left:Nat) (r:RS) (rest:List UInt8),AllV zmw l->zbl l<=left->left<F->left<=16384->zey r (zeP l++rest)->∃r',zcn (decS F) l.length r left=some (l,r',left-zbl l)/\zey r' rest
 |[],left,r,rest,_,_,_,_,h=>⟨r,by rw[List.length_nil,zcn,zbl,Nat.sub_zero],h⟩
 |v::l,left,r,rest,ha,hn,hF,hL,h=>by
  rw[AllV] at ha;rw[zbl] at hn;rw[zeP,List.append_assoc] at h;obtain⟨r1,e1,h1⟩:=ih v left r _ ha.1 zo hF hL h;obtain⟨r2,e2,h2⟩:=zhQ ih l (left-zcf v) r1 rest ha.2 zo zo zo h1;refine⟨r2,?_,h2⟩;rw[List.length_cons,zcn,e1,Option.bind_some,e2,zbl,Option.map_some,Nat.sub_sub]
theorem zsn {F:Nat} {k:Int} {t:ByteArray} {n m:Int} {s:ByteArray} {l:List V} {left:Nat} {r:RS} {rest:List UInt8} (hk:0<=k/\k<=9223372036854775807) (hin:-1152921504606846976<=n/\n<=1152921504606846976) (him:-1152921504606846976<=m/\m<=1152921504606846976)
 (hts:t.size<=9223372036854775807) (hss:s.size<=9223372036854775807) (hl:l.length+1<=left) (hL:left<=16384) (h:zey r (zgJ (.mk k t n m s l)++rest)) :
 ∃r6,zey r6 (zeP l++rest)/\decS (F+1) r left=(zcn (decS F) l.length r6 (left-1)).map λp=>(V.mk k t n m s p.1,p.2.1,p.2.2):=by
 have hnz:numZ k=numB k.toNat:=by unfold numZ;rw[if_neg zo]
 rw[zgJ,hnz] at h;simp only[List.append_assoc] at h
 have hlen:r.s.size≠0:=by
  obtain⟨_,h2⟩:=h;have:=congrArg List.length h2;rw[zai] at this
  have h9:0<(numB k.toNat).data.toList.length:=by
   unfold numB;rw[strOfNums_data,List.length_map,numI];split<;>simp
  rw[List.length_append] at this;omega
 obtain⟨v1,q1⟩:=zhg zo h;obtain⟨v2,q2⟩:=zjl hts q1;obtain⟨v3,q3⟩:=zmJ hin.1 hin.2 q2;obtain⟨v4,q4⟩:=zmJ him.1 him.2 q3;obtain⟨v5,q5⟩:=zjl hss q4;obtain⟨v6,q6⟩:=zhg (n:=l.length) zo q5;refine⟨hd6 r,q6,?_⟩
 have hh:zqK r (left-1)=false:=by
  unfold zqK;have e1:numV (hd5 r)=l.length:=v6;have e2:(hd6 r).f=false:=q6.1
  have e3:((hd6 r).s.size == 0&&!zti (hd6 r))=false:=by
   cases h0:((hd6 r).s.size == 0) with
   |false=>rfl
   |true=>
    have h1:(hd6 r).s.size=0:=by simpa only[beq_iff_eq] using h0
    have h2:(hd6 r).s.toList=[]:=by
     rw[ByteArray.toList_eq];exact List.eq_nil_of_length_eq_zero (by rw[zai];exact h1)
    unfold zti;rw[e2,h2];rfl
  rw[e3,e1];simp only[Bool.false_or,decide_eq_false_iff_not];omega
 rw[decS,if_neg zo,hh];have e5:numV (hd5 r)=l.length:=v6;rw[e5];have u1:zoJ (hd1 r)=t:=v2;have u2:intV (hd2 r)=n:=v3;have u3:intV (hd3 r)=m:=v4;have u4:zoJ (hd4 r)=s:=v5;have u0:((numV r:Nat):Int)=k:=by rw[v1];omega
 rw[u0,u1,u2,u3,u4]
 rfl
theorem zpp:∀(F:Nat) (v:V) (left:Nat) (r:RS) (rest:List UInt8),v.All zmw->zcf v<=left->left<F->left<=16384->zey r (zgJ v++rest)->∃r',decS F r left=some (v,r',left-zcf v)/\zey r' rest
 |0,_,_,_,_,_,_,h,_,_=>absurd h zo
 |F+1,.mk k t n m s l,left,r,rest,ha,hn,hF,hL,h=>by
  rw[V.All] at ha;obtain⟨⟨hk,hin,him,hts,hss⟩,hal⟩:=ha;rw[zcf] at hn;have hll:=zjd l;obtain⟨r6,q6,e6⟩:=zsn (F:=F) hk hin him hts hss zo hL h;obtain⟨r7,e7,q7⟩:=zhQ (zpp F) l (left-1) r6 rest hal zo zo zo q6;refine⟨r7,?_,q7⟩;rw[e6,e7,Option.map_some,zcf,show left-1-zbl l=left-(1+zbl l) by omega];rfl
end Go.Proofs.YtcebmphappfjjaaGreatDoor
set_option maxHeartbeats 32000000
set_option maxRecDepth 100000
namespace Go.Proofs.YtcebmphappfjjaaGreatDoor
theorem zvc:numR RS.bad=RS.bad:=rfl
theorem zuS:zmM RS.bad=RS.bad:=rfl
theorem zvd:intR RS.bad=RS.bad:=by
 unfold intR;have h:numV RS.bad=0:=rfl;rw[h];have:zmW 0=false:=by decide
 rw[this];rfl
def Took (r r':RS) (n:Nat):Prop:=r'=RS.bad\/(r'.f=false/\r'.s.size+n<=r.s.size)
theorem zuZ {r:RS} (h:r.f=false):Took r (numR r) 1:=by
 unfold Took numR;cases hn:numO r with
 |none=>exact .inl rfl
 |some p=>
  obtain⟨v,k⟩:=p;have:=zvU _ 0 0 v k zo zo hn;rw[zai] at this;refine .inr ⟨h,?_⟩
  show (r.s.extract k r.s.size).size+1<=r.s.size
  rw[ByteArray.size_extract];omega
theorem zwV {r:RS} {n:Int}:Took r (zuh r n) (ztZ r n).size:=by
 unfold Took zuh ztZ
 by_cases hc:r.f=true\/n<0\/(r.s.size:Int)<n
 ·rw[if_pos hc];exact .inl rfl
 ·rw[if_neg hc,if_neg hc];refine .inr ⟨rfl,?_⟩
  show (r.s.extract n.toNat r.s.size).size+(r.s.extract 0 n.toNat).size<=r.s.size
  rw[ByteArray.size_extract,ByteArray.size_extract];omega
theorem zvF {r:RS} (h:r.f=false):Took r (zmM r) ((zoJ r).size+1):=by
 unfold zmM zoJ;rcases zuZ h with h1|⟨h1,h2⟩
 ·rw[h1];exact .inl rfl
 ·rcases zwV (r:=numR r) (n:=(numV r:Int)) with h3|⟨h3,h4⟩
  ·exact .inl h3
  ·exact .inr ⟨h3,zo⟩
theorem zwl {r:RS} (h:r.f=false):Took r (intR r) 1:=by
 unfold intR
 split
 ·exact .inl rfl
 ·exact zuZ h
theorem zxA:zti RS.bad=false:=rfl
theorem zxl {r:RS} {left:Nat} (h:r.f=false) (hn:zqK r left=false):(hd6 r).f=false/\(hd6 r).s.size+6+(zoJ (hd1 r)).size+(zoJ (hd4 r)).size<=r.s.size:=by
 have no:hd6 r≠RS.bad:=λhb=>by
  unfold zqK at hn;rw[hb,zxA] at hn;have e:(RS.bad.s.size == 0&&!false)=true:=rfl;rw[e] at hn;simp at hn
 rcases zuZ h with e1|⟨e1,s1⟩
 ·exact absurd (show hd6 r=RS.bad by unfold hd6 hd5 hd4 hd3 hd2 hd1;rw[e1,zuS,zvd,zvd,zuS,zvc]) no
 have e1:(hd1 r).f=false:=e1;have s1:(hd1 r).s.size+1<=r.s.size:=s1;rcases zvF e1 with e2|⟨e2,s2⟩
 ·exact absurd (show hd6 r=RS.bad by unfold hd6 hd5 hd4 hd3 hd2;rw[e2,zvd,zvd,zuS,zvc]) no
 have e2:(hd2 r).f=false:=e2;have s2:(hd2 r).s.size+((zoJ (hd1 r)).size+1)<=(hd1 r).s.size:=s2;rcases zwl e2 with e3|⟨e3,s3⟩
 ·exact absurd (show hd6 r=RS.bad by unfold hd6 hd5 hd4 hd3;rw[e3,zvd,zuS,zvc]) no
 have e3:(hd3 r).f=false:=e3;have s3:(hd3 r).s.size+1<=(hd2 r).s.size:=s3;rcases zwl e3 with e4|⟨e4,s4⟩
 ·exact absurd (show hd6 r=RS.bad by unfold hd6 hd5 hd4;rw[e4,zuS,zvc]) no
 have e4:(hd4 r).f=false:=e4;have s4:(hd4 r).s.size+1<=(hd3 r).s.size:=s4;rcases zvF e4 with e5|⟨e5,s5⟩
 ·exact absurd (show hd6 r=RS.bad by unfold hd6 hd5;rw[e5,zvc]) no
 have e5:(hd5 r).f=false:=e5;have s5:(hd5 r).s.size+((zoJ (hd4 r)).size+1)<=(hd4 r).s.size:=s5;rcases zuZ e5 with e6|⟨e6,s6⟩
 ·exact absurd (show hd6 r=RS.bad by unfold hd6;rw[e6]) no
 have s6:(hd6 r).s.size+1<=(hd5 r).s.size:=s6;exact⟨e6,zo⟩
theorem zvD (r:RS):-1152921504606846976<=intV r/\intV r<=1152921504606846976:=by
 unfold intV;cases h:zmW (numV r) with
 |true=>simp
 |false=>
  unfold zmW at h;simp only[decide_eq_false_iff_not] at h;simp only[Bool.false_eq_true,if_false];omega
def zwo (r:RS) (v:V) (r':RS):Prop:=r'.f=false/\v.bulk+2*r'.s.size<=2*r.s.size/\v.Wf/\v.All zmw
def zxC (r:RS) (l:List V) (r':RS):Prop:=r'.f=false/\zcl l+2*r'.s.size<=2*r.s.size/\WfV l/\AllV zmw l
theorem zvl {d:RS->Nat->Option (V × RS × Nat)} (hd:∀r left v r' l',r.f=false->r.s.size<=4294967296->d r left=some (v,r',l')->zwo r v r'):∀(c:Nat) (r:RS) (left:Nat) (l:List V) (r':RS) (l':Nat),r.f=false->r.s.size<=4294967296->zcn d c r left=some (l,r',l')->zxC r l r'
 |0,r,left,l,r',l',hf,_,h=>by
  rw[zcn] at h;cases h;exact⟨hf,by rw[zcl];omega,by rw[WfV];trivial,by rw[AllV];trivial⟩
 |c+1,r,left,l,r',l',hf,hz,h=>by
  rw[zcn] at h;cases h1:d r left with
  |none=>rw[h1] at h;cases h
  |some p=>
   obtain⟨v,r1,l1⟩:=p;rw[h1,Option.bind_some] at h;cases h2:zcn d c r1 l1 with
   |none=>rw[h2] at h;cases h
   |some q=>
    obtain⟨l2,r2,k2⟩:=q;rw[h2] at h;cases h;obtain⟨a1,a2,a3,a4⟩:=hd _ _ _ _ _ hf hz h1;obtain⟨b1,b2,b3,b4⟩:=zvl hd c r1 l1 _ _ _ a1 zo h2;refine⟨b1,?_,?_,?_⟩
    ·show zcl (v::l2)+2*r2.s.size<=2*r.s.size
     rw[zbK];omega
    ·show WfV (v::l2)
     rw[WfV];exact⟨a3,b3⟩
    ·show AllV zmw (v::l2)
     rw[AllV];exact⟨a4,b4⟩
theorem zvM (r:RS):(zoJ r).size<=r.s.size:=by
 unfold zoJ ztZ
 split
 ·exact Nat.zero_le _
 ·have:=zuO r;rw[ByteArray.size_extract];omega
theorem zwd:∀(F:Nat) (r:RS) (left:Nat) (v:V) (r':RS) (l':Nat),r.f=false->r.s.size<=4294967296->decS F r left=some (v,r',l')->zwo r v r'
 |0,_,_,_,_,_,_,_,h=>by rw[decS] at h;cases h
 |F+1,r,left,v,r',l',hf,hz,h=>by
  rw[decS] at h
  split at h
  ·cases h
  ·cases hh:zqK r (left-1) with
   |true=>rw[hh] at h;cases h
   |false=>
    rw[hh] at h;simp only[Bool.false_eq_true,if_false] at h;obtain⟨e1,e2⟩:=zxl hf hh;cases h2:zcn (decS F) (numV (hd5 r)) (hd6 r) (left-1) with
    |none=>rw[h2] at h;cases h
    |some q=>
     obtain⟨l2,r2,k2⟩:=q;rw[h2] at h;cases h;obtain⟨b1,b2,b3,b4⟩:=zvl (zwd F) _ _ _ _ _ _ e1 zo h2;have n1:=zwz r;have n2:=zvD (hd2 r);have n3:=zvD (hd3 r);have z1:=zvM (hd1 r);have z2:=zvM (hd4 r);have n0:(0:Int)<=(numV r:Int)/\(numV r:Int)<=9223372036854775807:=zo
     have t1:(zoJ (hd1 r)).size<=9223372036854775807:=zo
     have t2:(zoJ (hd4 r)).size<=9223372036854775807:=zo
     refine⟨b1,?_,?_,?_⟩
     ·show (V.mk _ (zoJ (hd1 r)) _ _ (zoJ (hd4 r)) l2).bulk+2*r2.s.size<=2*r.s.size
      rw[zbv];omega
     ·show (V.mk (numV r) _ (intV (hd2 r)) (intV (hd3 r)) _ l2).Wf
      rw[V.Wf];exact⟨zo,zo,zo,b3⟩
     ·show (V.mk (numV r) (zoJ (hd1 r)) (intV (hd2 r)) (intV (hd3 r)) (zoJ (hd4 r)) l2).All zmw
      rw[V.All];exact⟨⟨n0,n2,n3,t1,t2⟩,b4⟩
end Go.Proofs.YtcebmphappfjjaaGreatDoor
set_option maxHeartbeats 32000000
set_option maxRecDepth 100000
namespace Go.Proofs.YtcebmphappfjjaaGreatDoor
open Go.RowKit
def zub (r:RS):Option (V × RS):=(decS 16385 r 16384).bind λp=>if zkS zbL p.1 then some (p.1,p.2.1) else none
def zvZ (b:Nat) (o:Option (V × RS)) (w:World) (e:Ending) (w':World):Prop:=
 Chg (λk=>k=b) w w'/\
 match o with
 |none=>e=.returned (.tuple #[.agg #[.int .i64 0,.string ⟨#[]⟩,.int .i64 0,.int .i64 0,.string ⟨#[]⟩,.slice none 0 0],.bool false])/\zdd w' b RS.bad
 |some (v,r')=>∃A c,e=.returned (.tuple #[.agg #[.int .i64 v.kind,.string v.t,.int .i64 v.n,.int .i64 v.m,.string v.s,.slice A v.l.length c],.bool true])/\Rd (Bt w.heap.size w'.heap.size) w' (vs v.l) (.slice A v.l.length c)/\zdd w' b r'
def Sane (r:RS):Prop:=r.f=false\/r.s.size=0
theorem zwe (r:RS):zuh r (-1)=RS.bad:=by unfold zuh;rw[if_pos (.inr (.inl zo))]
theorem zyX {r:RS} {v:V} {r':RS} (hf:r.f=false) (hz:r.s.size<=4294967296) (h:zub r=some (v,r')):zwo r v r'/\zkS zbL v=true:=by
 unfold zub at h;cases h1:decS 16385 r 16384 with
 |none=>rw[h1] at h;cases h
 |some p=>
  obtain⟨x,r1,l1⟩:=p;rw[h1,Option.bind_some] at h;cases h2:zkS zbL x with
  |false=>rw[h2] at h;cases h
  |true=>
   rw[h2] at h;cases h;exact⟨zwd _ _ _ _ _ _ hf hz h1,h2⟩
theorem zvP {b:Nat} {w0 W:World} (hb:b<w0.heap.size) (hc:Chg (λk=>k=b) w0 W) (hr:zdd W b RS.bad) (hz:zab W w0.heap.size #[↑(),↑zj.a,↑(),↑(),↑zj.a,.slice none 0 0] 24) {a:Act}
 (h4:a.tmps.getD 2 undef=.pointer (some ⟨w0.heap.size,0,none⟩)) (h5:a.tmps.getD 3 undef=.bool false) (hd:a.defers=[]) :
 bodyPost Tryz.prog Tryz.f15 (zvZ b none w0) Exit.ret a ((((((W.setCell ⟨w0.heap.size,0,none⟩ ↑()).setCell ⟨w0.heap.size,1,none⟩ ↑zj.a).setCell ⟨w0.heap.size,2,none⟩ ↑()).setCell ⟨w0.heap.size,3,none⟩ ↑()).setCell ⟨w0.heap.size,4,none⟩ ↑zj.a).setCell ⟨w0.heap.size,5,none⟩ (.slice none 0 0)):=by
 refine bodyPost_ret (v:=ZT) ?_ hd ⟨zlG hc (.inr (Nat.le_refl _)) _ _ _ _ _ _,rfl,hr.keep (zlJ _ _ _ _ _ _) zo⟩;have:=zah Tryz.results15 a.tmps _ w0.heap.size _ _ (0,0) _ h4 (zhz ↑() ↑zj.a ↑() ↑() ↑zj.a (.slice none 0 0) hz) Tryz.underlying24 rfl zkU;rw[h5] at this;exact this
theorem zxd {b:Nat} {w0 W:World} {v:V} {r':RS} {A:Option Addr} {c:Nat} (hb:b<w0.heap.size) (hc:Chg (λk=>k=b) w0 W) (hr:zdd W b r') (hz:zab W w0.heap.size #[↑(),↑zj.a,↑(),↑(),↑zj.a,.slice none 0 0] 24) (hrd:Rd (Bt (w0.heap.size+1) W.heap.size) W (vs v.l) (.slice A v.l.length c)) {a:Act}
 (h4:a.tmps.getD 2 undef=.pointer (some ⟨w0.heap.size,0,none⟩)) (h5:a.tmps.getD 3 undef=.bool true) (hd:a.defers=[]) :
 bodyPost Tryz.prog Tryz.f15 (zvZ b (some (v,r')) w0) Exit.ret a ((((((W.setCell ⟨w0.heap.size,0,none⟩ ↑v.kind).setCell ⟨w0.heap.size,1,none⟩ ↑v.t).setCell ⟨w0.heap.size,2,none⟩ ↑v.n).setCell ⟨w0.heap.size,3,none⟩ ↑v.m).setCell ⟨w0.heap.size,4,none⟩ ↑v.s).setCell ⟨w0.heap.size,5,none⟩ (.slice A v.l.length c)):=by
 have:=zah Tryz.results15 a.tmps _ w0.heap.size _ _ (0,0) _ h4 (zhz ↑v.kind ↑v.t ↑v.n ↑v.m ↑v.s (.slice A v.l.length c) hz) Tryz.underlying24 rfl zkU;rw[h5] at this;have hc1:=zlJ (w:=W) (g:=w0.heap.size) ↑v.kind ↑v.t ↑v.n ↑v.m ↑v.s (.slice A v.l.length c);have h1:=hc1.rd (ok:=Bt (w0.heap.size+1) W.heap.size) (λb hb=>⟨hb.2,by have:=hb.1;omega⟩) hrd;exact bodyPost_ret this hd ⟨zlG hc (.inr (Nat.le_refl _)) _ _ _ _ _ _,A,c,rfl,h1.weaken (λb hb=>⟨by have:=hb.1;omega,Nat.lt_of_lt_of_le hb.2 hc1.size⟩),hr.keep (zlJ _ _ _ _ _ _) zo⟩
theorem zxh (b:Nat) (r:RS) (w:World) (hr:zdd w b r) (hf:Sane r) (hs:r.s.size<=1048576):Calls Tryz.prog 15 #[.pointer (some ⟨b,0,none⟩)] w (zvZ b (zub r) w):=by
 have hb:=hr.lt;obtain⟨W,hW⟩:∃W,(w.alloc (.cells #[↑(),↑zj.a,↑(),↑(),↑zj.a,.slice none 0 0] 24)).alloc (.cells #[.int .i64 16384] 3)=W:=⟨_,rfl⟩;have hA:Below w.heap.size w W:=by rw[<-hW];exact((Below.refl _ _).alloc (Nat.le_refl _) _).alloc zs _
 have HSZ:Hid (W.heap.size=w.heap.size+2):=zz (by rw[<-hW];simp)
 have hZ:zab W w.heap.size #[↑(),↑zj.a,↑(),↑(),↑zj.a,.slice none 0 0] 24:=by
  rw[<-hW];exact(zab.new w _ _).keep ((Chg.refl (λ_=>False) _).alloc _) (λh=>h)
 have hL:zab W (w.heap.size+1) #[.int .i64 ((16384:Nat):Int)] 3:=by
  have:=zab.new (w.alloc (.cells #[↑(),↑zj.a,↑(),↑(),↑zj.a,.slice none 0 0] 24)) #[.int .i64 16384] 3;rw[World.size_alloc,hW] at this;exact this
 have HZ:=zz hZ;have HD:=zz (zvH 16385 b (w.heap.size+1) r 16384 W zo zo zo zo (hr.below hA) hL);have HA:=zz hA
 have HDF:Hid (∀v r' l',decS 16385 r 16384=some (v,r',l')->zwo r v r'):=zz (λv r' l' h=>by
  rcases hf with hf|hf
  ·exact zwd _ _ _ _ _ _ hf zo h
  ·rw[decS,if_pos (.inr hf)] at h;cases h)
 have HO:Hid (zub r=(decS 16385 r 16384).bind λp=>if zkS zbL p.1 then some (p.1,p.2.1) else none):=zz rfl;generalize zub r=O at *
 generalize decS 16385 r 16384=d at *
 clear hA hZ hL hr;go_in;go_wp2_with fail;clear hW;refine zi HD ?_;rintro e w3 ⟨hc3,hp3⟩
 have HC3:Hid (Chg (λk=>k=b) w w3):=zz ((Chg.of_below HA.out).trans hc3 (λk hk=>by
  rcases hk with rfl|rfl
  ·exact .inl rfl
  ·exact .inr zo))
 have Z3:=zz (HZ.out.keep hc3 zo);have hsz:=hc3.size;have hsz2:=HSZ.out;have hb3:w.heap.size+2<=w3.heap.size:=zo
 clear HD HZ hc3 hsz hsz2;cases d with
 |none=>
  obtain⟨rfl,⟨r3,hr3,hrs⟩,n3,hl3⟩:=hp3;have HN:Hid (O=none):=zz (by rw[HO.out];rfl);have R3:=zz hr3;clear hr3 hl3 HO;have hal:Below w3.heap.size w3 (w3.alloc (.cells #[↑(),↑zj.a,↑(),↑(),↑zj.a,.slice none 0 0] 24)):=(Below.refl _ _).alloc (Nat.le_refl _) _;have HAL:=zz hal;clear hal;go_wp2_with fail;(with_reducible refine(zvS b r3 (-1) _ (R3.out.below HAL.out) hrs).mono ?_);rintro e w4 ⟨rfl,hc4,hr4⟩;rw[zwe] at hr4;have R4:=zz hr4;have Z4:Hid (zab w4 w.heap.size #[↑(),↑zj.a,↑(),↑(),↑zj.a,.slice none 0 0] 24):=zz ((Z3.out.keep (M:=λk=>k=b) (Chg.of_below HAL.out) zo).keep hc4 zo);have HC4:=zz ((HC3.out.thenBelow HAL.out).next hc4);clear hc4 hr4;have z0:w4.cell? ⟨w.heap.size,0,none⟩=some ↑():=by rw[Z4.out.cell];rfl
  have z1:w4.cell? ⟨w.heap.size,1,none⟩=some ↑zj.a:=by rw[Z4.out.cell];rfl
  have z2:w4.cell? ⟨w.heap.size,2,none⟩=some ↑():=by rw[Z4.out.cell];rfl
  have z3:w4.cell? ⟨w.heap.size,3,none⟩=some ↑():=by rw[Z4.out.cell];rfl
  have z4:w4.cell? ⟨w.heap.size,4,none⟩=some ↑zj.a:=by rw[Z4.out.cell];rfl
  have z5:w4.cell? ⟨w.heap.size,5,none⟩=some (.slice none 0 0):=by rw[Z4.out.cell];rfl
  have zf:=Z4.out.fz;go_wp2_with fail;rw[HN.out];exact zvP hb HC4.out R4.out Z4.out rfl rfl rfl
 |some p=>
  obtain⟨x,r3,l3⟩:=p;obtain⟨A,c,rfl,hx,hr3,hl3⟩:=hp3;obtain⟨f1,f2,f3,f4⟩:=HDF.out _ _ _ rfl;have hal:Below w3.heap.size w3 (w3.alloc (.cells #[↑x.kind,↑x.t,↑x.n,↑x.m,↑x.s,.slice A x.l.length c] 24)):=(Below.refl _ _).alloc (Nat.le_refl _) _;have HAL:=zz hal;have R3:=zz hr3;have hbk:x.bulk<=2097152:=zo
  have HX:=zz (hx.weaken (ok':=Bt (w.heap.size+1) w3.heap.size) (λq hq=>⟨by have:=hq.1;have:=HSZ.out;omega,hq.2⟩));obtain⟨g,hg⟩:=zn (zkS zbL x)
  have HR:Hid (∀W,Rd (Lt W.heap.size) W (vs x.l) (.slice A x.l.length c)->Calls Tryz.prog 24 #[.agg #[↑x.kind,↑x.t,↑x.n,↑x.m,↑x.s,.slice A x.l.length c]] W λe w'=>e=.returned ↑g/\Below W.heap.size W w'):=zz (λW h=>by
   rw[<-hg];obtain⟨k,t,n,m,s,l⟩:=x;exact zuQ zbL k t n m s l A c W hbk (znD _ hbk) h)
  have HO2:Hid (O=if g then some (x,r3) else none):=zz (by rw[HO.out,Option.bind_some,hg]);have hr3s:r3.s.size<=4294967296:=zo
  clear hal hr3 hl3 hx f1 f2 f3 f4 HO HDF hg;go_wp2_with fail;(with_reducible refine(HR.out _ ?_).mono ?_)
  ·exact(HX.out.below HAL.out (λq hq=>hq.2)).weaken (λq hq=>Nat.lt_of_lt_of_le hq.2 HAL.out.size)
  rintro e w4 ⟨rfl,hb4⟩;have B4:=zz (HAL.out.trans (hb4.mono HAL.out.size));have X4:Hid (zab w4 w3.heap.size #[↑x.kind,↑x.t,↑x.n,↑x.m,↑x.s,.slice A x.l.length c] 24):=zz ((hb4.block w3.heap.size zs).trans (zab.new w3 _ _));clear hb4 HR;cases g with
  |false=>
   have HN:Hid (O=none):=zz (by rw[HO2.out];rfl);go_wp2_with fail;(with_reducible refine(zvS b r3 (-1) _ (R3.out.below B4.out) hr3s).mono ?_);rintro e w5 ⟨rfl,hc4,hr4⟩;rw[zwe] at hr4;have R4:=zz hr4;have Z4:Hid (zab w5 w.heap.size #[↑(),↑zj.a,↑(),↑(),↑zj.a,.slice none 0 0] 24):=zz ((Z3.out.keep (M:=λk=>k=b) (Chg.of_below B4.out) zo).keep hc4 zo);have HC4:=zz ((HC3.out.thenBelow B4.out).next hc4);clear hc4 hr4;have z0:w5.cell? ⟨w.heap.size,0,none⟩=some ↑():=by rw[Z4.out.cell];rfl
   have z1:w5.cell? ⟨w.heap.size,1,none⟩=some ↑zj.a:=by rw[Z4.out.cell];rfl
   have z2:w5.cell? ⟨w.heap.size,2,none⟩=some ↑():=by rw[Z4.out.cell];rfl
   have z3:w5.cell? ⟨w.heap.size,3,none⟩=some ↑():=by rw[Z4.out.cell];rfl
   have z4:w5.cell? ⟨w.heap.size,4,none⟩=some ↑zj.a:=by rw[Z4.out.cell];rfl
   have z5:w5.cell? ⟨w.heap.size,5,none⟩=some (.slice none 0 0):=by rw[Z4.out.cell];rfl
   have zf:=Z4.out.fz;go_wp2_with fail;rw[HN.out];exact zvP hb HC4.out R4.out Z4.out rfl rfl rfl
  |true=>
   have HN:Hid (O=some (x,r3)):=zz (by rw[HO2.out];rfl);have R4:=zz (R3.out.below B4.out);have Z4:Hid (zab w4 w.heap.size #[↑(),↑zj.a,↑(),↑(),↑zj.a,.slice none 0 0] 24):=zz (Z3.out.keep (M:=λk=>k=b) (Chg.of_below B4.out) zo);have HC4:=zz (HC3.out.thenBelow B4.out);have HX4:=zz ((HX.out.below B4.out (λq hq=>hq.2)).weaken (ok':=Bt (w.heap.size+1) w4.heap.size) (λq hq=>⟨hq.1,Nat.lt_of_lt_of_le hq.2 B4.out.size⟩));have z0:w4.cell? ⟨w.heap.size,0,none⟩=some ↑():=by rw[Z4.out.cell];rfl
   have z1:w4.cell? ⟨w.heap.size,1,none⟩=some ↑zj.a:=by rw[Z4.out.cell];rfl
   have z2:w4.cell? ⟨w.heap.size,2,none⟩=some ↑():=by rw[Z4.out.cell];rfl
   have z3:w4.cell? ⟨w.heap.size,3,none⟩=some ↑():=by rw[Z4.out.cell];rfl
   have z4:w4.cell? ⟨w.heap.size,4,none⟩=some ↑zj.a:=by rw[Z4.out.cell];rfl
   have z5:w4.cell? ⟨w.heap.size,5,none⟩=some (.slice none 0 0):=by rw[Z4.out.cell];rfl
   have zf:=Z4.out.fz;have x0:w4.cell? ⟨w3.heap.size,0,none⟩=some ↑x.kind:=by rw[X4.out.cell];rfl
   have x1:w4.cell? ⟨w3.heap.size,1,none⟩=some ↑x.t:=by rw[X4.out.cell];rfl
   have x2:w4.cell? ⟨w3.heap.size,2,none⟩=some ↑x.n:=by rw[X4.out.cell];rfl
   have x3:w4.cell? ⟨w3.heap.size,3,none⟩=some ↑x.m:=by rw[X4.out.cell];rfl
   have x4:w4.cell? ⟨w3.heap.size,4,none⟩=some ↑x.s:=by rw[X4.out.cell];rfl
   have x5:w4.cell? ⟨w3.heap.size,5,none⟩=some (.slice A x.l.length c):=by rw[X4.out.cell];rfl
   go_wp2_with fail;rw[HN.out];exact zxd hb HC4.out R4.out Z4.out HX4.out rfl rfl rfl
end Go.Proofs.YtcebmphappfjjaaGreatDoor
set_option maxHeartbeats 32000000
set_option maxRecDepth 100000
namespace Go.Proofs.YtcebmphappfjjaaGreatDoor
theorem zqO (v:V) (h:zbL v=true) (hb:v.bulk<=2097152):zmw v:=by
 obtain⟨k,t,n,m,s,l⟩:=v;rw[zbv] at hb;have ht:t.size<=9223372036854775807:=zo
 have hs:s.size<=9223372036854775807:=zo
 have key:(0<=k/\k<=10)->(-1152921504606846976<=n/\n<=1152921504606846976)->(-1152921504606846976<=m/\m<=1152921504606846976)->zmw (.mk k t n m s l):=λa b c=>⟨⟨a.1,Int.le_trans a.2 zo⟩,b,c,ht,hs⟩;rw[zbL] at h
 split at h
 ·subst_vars
  unfold zmu at h;simp only[Bool.and_eq_true,beq_iff_eq] at h;exact key zo zo zo
 split at h
 ·subst_vars
  unfold zlV at h;simp only[Bool.and_eq_true,Bool.or_eq_true,beq_iff_eq] at h;exact key zo zo zo
 split at h
 ·subst_vars
  unfold zmb inR at h;simp only[Bool.and_eq_true,beq_iff_eq,decide_eq_true_eq] at h;exact key zo zo zo
 split at h
 ·subst_vars
  unfold zmE at h;simp only[Bool.and_eq_true,beq_iff_eq] at h;exact key zo zo zo
 split at h
 ·subst_vars
  unfold zmv at h;simp only[Bool.and_eq_true,beq_iff_eq] at h;exact key zo zo zo
 split at h
 ·subst_vars
  unfold zmx at h;simp only[Bool.and_eq_true,beq_iff_eq] at h;exact key zo zo zo
 split at h
 ·subst_vars
  unfold zlY at h;simp only[Bool.and_eq_true,beq_iff_eq,decide_eq_true_eq] at h;exact key zo zo zo
 split at h
 ·subst_vars
  unfold zmm at h;simp only[Bool.and_eq_true,beq_iff_eq] at h;exact key zo zo zo
 split at h
 ·subst_vars
  unfold zoj at h;simp only[Bool.and_eq_true,beq_iff_eq,decide_eq_true_eq] at h;exact key zo zo zo
 split at h
 ·subst_vars
  unfold zjg inR at h;simp only[Bool.and_eq_true,beq_iff_eq,decide_eq_true_eq] at h;exact key zo zo zo
 ·cases h
mutual
theorem zjk:∀(v:V) (a:Nat),(zbk zbL v a).1=true->v.bulk<=2097152->v.All zmw/\(zbk zbL v a).2+zcf v=a
 |.mk k t n m s l,a,h,hb=>by
  rw[zbk] at h ⊢
  by_cases hc:a=0\/zbL (.mk k t n m s l)=false
  ·rw[if_pos hc] at h;cases h
  ·rw[if_neg hc] at h ⊢
   have h1:zbL (.mk k t n m s l)=true:=by
    cases hx:zbL (.mk k t n m s l) with
    |true=>rfl
    |false=>exact absurd (.inr hx) hc
   have h0:a≠0:=λe=>hc (.inl e);have hl:zcl l<=2097152:=by rw[zbv] at hb;omega
   obtain⟨e1,e2⟩:=zjr l (a-1) h hl;rw[V.All,zcf];exact⟨⟨zqO _ h1 hb,e1⟩,zo⟩
theorem zjr:∀(l:List V) (a:Nat),(zbm zbL l a).1=true->zcl l<=2097152->AllV zmw l/\(zbm zbL l a).2+zbl l=a
 |[],a,_,_=>by rw[zbm,AllV,zbl];exact⟨trivial,rfl⟩
 |v::r,a,h,hb=>by
  rw[zbK] at hb;rw[zbm] at h ⊢
  by_cases hc:(zbk zbL v a).1=true
  ·rw[if_pos hc] at h ⊢;obtain⟨e1,e2⟩:=zjk v a hc zo;obtain⟨e3,e4⟩:=zjr r _ h zo;rw[AllV,zbl];exact⟨⟨e1,e3⟩,zo⟩
  ·rw[if_neg hc] at h;cases h
end
theorem zir {v:V} {r:RS} {rest:List UInt8} (hr:zkS zbL v=true) (hb:v.bulk<=2097152) (h:zey r ((zjt zbL v).data.toList++rest)):∃r',zub r=some (v,r')/\zey r' rest:=by
 obtain⟨e1,e2⟩:=zjk v 16384 hr hb;unfold zjt at h;rw[if_pos hr] at h;obtain⟨r',e3,h'⟩:=zpp 16385 v 16384 r rest e1 zo zo zo h;refine⟨r',?_,h'⟩;unfold zub;rw[e3,Option.bind_some,if_pos hr]
end Go.Proofs.YtcebmphappfjjaaGreatDoor
set_option maxHeartbeats 32000000
set_option maxRecDepth 100000
namespace Go.Proofs.YtcebmphappfjjaaGreatDoor
open Go.RowKit
def escL (c:UInt8):List UInt8:=if c=10 then [92,110] else if c=9 then [92,116] else if c=34\/c=92 then [92,c] else [c]
def zoS (s:List UInt8):List UInt8:=s.flatMap escL++[34]
def zho (d:UInt8):UInt8:=if d=110 then 10 else if d=116 then 9 else d
def zbO:List UInt8->Option (List UInt8 × List UInt8)
 |[]=>none
 |[c]=>if c=34 then some ([],[]) else none
 |c::d::r=>if c=34 then some ([],d::r) else if c=92 then (zbO r).map (λp=>(zho d::p.1,p.2)) else (zbO (d::r)).map (λp=>(c::p.1,p.2))
theorem zqA (r:List UInt8):zbO (34::r)=some ([],r):=by
 cases r<;>simp[zbO]
theorem zjK (d:UInt8) (r:List UInt8):zbO (92::d::r)=(zbO r).map (λp=>(zho d::p.1,p.2)):=by
 rw[zbO,if_neg zd,if_pos rfl]
theorem zpl (c:UInt8) (r:List UInt8) (h1:c≠34) (h2:c≠92):zbO (c::r)=(zbO r).map (λp=>(c::p.1,p.2)):=by
 cases r with
 |nil=>simp[zbO,h1]
 |cons d r=>rw[zbO,if_neg h1,if_neg h2]
theorem zlt:∀(s rest:List UInt8),zbO (s.flatMap escL++34::rest)=some (s,rest)
 |[],rest=>by rw[List.flatMap_nil,List.nil_append,zqA]
 |c::s,rest=>by
  rw[List.flatMap_cons,List.append_assoc];have ih:=zlt s rest;generalize List.flatMap escL s++34::rest=tl at ih ⊢;unfold escL
  split
  ·rename_i h;subst h;rw[List.cons_append,List.cons_append,List.nil_append,zjK,ih]
   rfl
  ·split
   ·rename_i h;subst h;rw[List.cons_append,List.cons_append,List.nil_append,zjK,ih]
    rfl
   ·split
    ·rename_i h;rw[List.cons_append,List.cons_append,List.nil_append,zjK,ih];rcases h with rfl|rfl<;>rfl
    ·rename_i h1 h2 h;rw[List.cons_append,List.nil_append,zpl _ _ (λe=>h (.inl e)) (λe=>h (.inr e)),ih]
     rfl
end Go.Proofs.YtcebmphappfjjaaGreatDoor
