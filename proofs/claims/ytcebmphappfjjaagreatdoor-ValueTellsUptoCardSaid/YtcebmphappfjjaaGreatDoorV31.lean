/- Conditions: those in each statement. -/
import Derived.Test.YtcebmphappfjjaaGreatDoorV30
import Derived.Test.YtcebmphappfjjaaGreatDoorV00
import Derived.Test.YtcebmphappfjjaaGreatDoorV01
import Derived.Test.YtcebmphappfjjaaGreatDoorV25
set_option maxHeartbeats 32000000
set_option maxRecDepth 100000
namespace Go.Proofs.YtcebmphappfjjaaGreatDoor
open Go.RowKit
def zlH:Nat->Nat->List UInt8->Option (Nat × Nat)
 |_,_,[]=>none
 |i,n,c::t=>if 9<=i then none else if 128<=c.toNat then zlH (i+1) (n+c.toNat % 128*128 ^ i) t else if c.toNat=0/\0<i then none else some (n+c.toNat % 128*128 ^ i,i+1)
def numO (r:RS):Option (Nat × Nat):=zlH 0 0 r.s.data.toList
def numR (r:RS):RS:=match numO r with|some (_,k)=>⟨r.s.extract k r.s.size,r.f⟩|none=>RS.bad
def numV (r:RS):Nat:=match numO r with|some (v,_)=>v|none=>0
theorem zed (s:ByteArray) (i:Nat) (hi:i<s.size):∃c:UInt8,s.data.toList.drop i=c::s.data.toList.drop (i+1)/\zak s i=(c.toNat:Int):=by
 have hl:i<s.data.toList.length:=by rw[zai];exact hi
 refine⟨s.data.toList[i],List.drop_eq_getElem_cons hl,?_⟩;unfold zak;rw[List.getD_eq_getElem?_getD,List.getElem?_eq_getElem hl];rfl
theorem zyn (c:Nat) (hc:c<=255):bits .and .u8 (c:Int) 127=((c % 128:Nat):Int):=by
 show IntKind.u8.wrap ((BitVec.ofInt 8 (c:Int)&&& BitVec.ofInt 8 ((127:Nat):Int)).toNat:Int)=_
 rw[BitVec.toNat_and,BitVec.ofInt_natCast,BitVec.ofInt_natCast,BitVec.toNat_ofNat,BitVec.toNat_ofNat,IntKind.wrap_u8'];have e1:c % 2 ^ 8=c:=Nat.mod_eq_of_lt zo;have e2:127 % 2 ^ 8=127:=rfl;have e3:c&&& 127=c % 128:=Nat.and_two_pow_sub_one_eq_mod c 7;rw[e1,e2,e3];omega
theorem zwH (n d i:Nat) (hi:i<9) (hn:n<128 ^ i) (hd:d<128):d*128 ^ i<=9223372036854775807/\n+d*128 ^ i<128 ^ (i+1)/\bits .or .i64 (n:Int) ((d*128 ^ i:Nat):Int)=((n+d*128 ^ i:Nat):Int):=by
 have e:(128:Nat) ^ i=2 ^ (7*i):=by rw[show (128:Nat)=2 ^ 7 from rfl,<-Nat.pow_mul]
 have h1:(128:Nat) ^ i<=128 ^ 8:=Nat.pow_le_pow_right zo zo;have h8:(128:Nat) ^ 8=72057594037927936:=rfl;have h2:d*128 ^ i<=127*128 ^ i:=Nat.mul_le_mul_right _ zo;have h3:n+d*128 ^ i<128 ^ (i+1):=by rw[Nat.pow_succ];omega
 refine⟨zo,h3,?_⟩;rw[zvI n _ zo zo];have:=Nat.two_pow_add_eq_or_of_lt (i:=7*i) (b:=n) (by rw[<-e];exact hn) d;rw[e,Nat.mul_comm d,Nat.or_comm,<-this,Nat.add_comm]
theorem zvp (b:Nat) (r:RS) (w:World) (h:zdd w b r) (hs:r.s.size<=4294967296):Calls Tryz.prog 92 #[.pointer (some ⟨b,0,none⟩)] w (zvr b (numR r) (.int .i64 (numV r)) w):=by
 have c0:=h.c0;have f0:=h.fz;have HF:=zz (zvb b r w h);have H:=zz h;clear h;obtain⟨s,f⟩:=r;obtain⟨R,hR⟩:∃R,numR ⟨s,f⟩=R:=⟨_,rfl⟩;obtain⟨V,hV⟩:∃V,numV ⟨s,f⟩=V:=⟨_,rfl⟩
 have HY:Hid (∀v k,zlH 0 0 s.data.toList=some (v,k)->R=⟨s.extract k s.size,f⟩/\V=v):=zz (λv k h=>by
  rw[<-hR,<-hV];unfold numR numV numO;rw[h];exact⟨rfl,rfl⟩)
 have HN:Hid (zlH 0 0 s.data.toList=none->R=RS.bad/\V=0):=zz (λh=>by
  rw[<-hR,<-hV];unfold numR numV numO;rw[h];exact⟨rfl,rfl⟩)
 rw[hR,hV];clear hR hV;go_in;go_wp2
 go_loopw [3,4] (λs3 s4 wr=>∃(n i:Nat),i<=9/\i<=s.size/\Hid (n<128 ^ i)/\s4=↑i/\s3=↑n/\wr=w/\Hid (zlH 0 0 s.data.toList=zlH i n (s.data.toList.drop i))) (λ_ s4 _=>s.size-(intOf s4).toNat)
 case atStart=>exact⟨0,0,zo,zo,zz zo,rfl,rfl,rfl,zz rfl⟩
 case round=>
  obtain⟨n,i,hi9,his,hni,rfl,rfl,rfl,HG⟩:=hrel
  by_cases hlt:i<s.size
  ·by_cases h9:i<9
   ·obtain⟨c,hdr,hby⟩:=zed s i hlt;have hix:=zaP s i hlt wr;rw[hby] at hix;have hc:c.toNat<=255:=by have:=c.toNat_lt;omega
    obtain⟨k1,k2,k3⟩:=zwH n (c.toNat % 128) i h9 hni.out zo;have hgo:zlH i n (s.data.toList.drop i)=if 9<=i then none else if 128<=c.toNat then zlH (i+1) (n+c.toNat % 128*128 ^ i) (s.data.toList.drop (i+1)) else if c.toNat=0/\0<i then none else some (n+c.toNat % 128*128 ^ i,i+1):=by rw[hdr,zlH]
    rw[if_neg zo] at hgo;have hd7:c.toNat % 128<=127:=zo
    have h1:=zyn c.toNat hc
    have h2:wrap64 (((c.toNat % 128:Nat):Int)*2 ^ (7*i))=((c.toNat % 128*128 ^ i:Nat):Int):=by
     have e:(((c.toNat % 128:Nat):Int)*2 ^ (7*i))=((c.toNat % 128*128 ^ i:Nat):Int):=by
      rw[show (128:Nat)=2 ^ 7 from rfl,<-Nat.pow_mul];simp
     rw[e];exact IntWalk.wrap64_in _ ⟨zo,zo⟩
    have h0:wrap64 ((c.toNat % 128:Nat):Int)=((c.toNat % 128:Nat):Int):=IntWalk.wrap64_in _ ⟨zo,zo⟩;obtain⟨d,hd⟩:=zn (c.toNat % 128);rw[hd] at k1 k2 k3 hgo h1 h2 h0 hd7;obtain⟨p,hp⟩:=zn (d*128 ^ i);rw[hp] at k1 k2 k3 hgo h2;obtain⟨q,hq⟩:=zn (n+p);rw[hq] at k2 k3 hgo;have hGO:=zz hgo;have K2:=zz k2;have hx0:(0:Int)<=c.toNat:=zo
    have hx1:(c.toNat:Int)<=255:=zo
    clear hgo k2 hdr hby hd hp hq
    by_cases h128:128<=c.toNat
    ·have HG2:Hid (zlH 0 0 s.data.toList=zlH (i+1) q (s.data.toList.drop (i+1))):=zz (by rw[HG.out,hGO.out,if_pos h128]);have hd1:decide ((128:Int)<=(c.toNat:Int))=true:=by simp;omega
     have hd2:¬(c.toNat:Int)<128:=zo
     obtain⟨X,hX⟩:=zn ((c.toNat:Int));rw[hX] at hix h1 hx0 hx1 hd1 hd2;clear hX hGO h128 hc;go_wp2;exact⟨⟨q,i+1,zo,zo,K2,by go_num,rfl,by trivial,HG2⟩,by simp[intOf];omega⟩
    ·have hd1:decide ((128:Int)<=(c.toNat:Int))=false:=by simp;omega
     have hd2:(c.toNat:Int)<128:=zo
     by_cases hz:c.toNat=0
     ·by_cases hi0:0<i
      ·have HRV:=zz (HN.out (by rw[HG.out,hGO.out,if_neg h128,if_pos ⟨hz,hi0⟩]));have hx:((c.toNat:Int) == 0)=true:=by simp[hz]
       obtain⟨X,hX⟩:=zn ((c.toNat:Int));rw[hX] at hix h1 hx0 hx1 hd1 hd2 hx;clear hX hGO h128 hc hz;go_wp2_with fail;refine zi HF ?_;rintro e w1 ⟨rfl,hc1,hr1⟩;have HC:=zz hc1;have HR:=zz hr1;clear hc1 hr1;go_wp2;go_ret;rw[HRV.out.1,HRV.out.2];exact⟨rfl,HC.out,HR.out⟩
      ·have hi00:i=0:=zo
       have HRV:=zz (HY.out q (i+1) (by rw[HG.out,hGO.out,if_neg h128,if_neg zo]));have hx:((c.toNat:Int) == 0)=true:=by simp[hz]
       have hi1:decide (0<i)=false:=by simpa using hi0
       obtain⟨X,hX⟩:=zn ((c.toNat:Int));rw[hX] at hix h1 hx0 hx1 hd1 hd2 hx;clear hX hGO h128 hc hz hi00;go_wp2;go_ret;rw[HRV.out.1,HRV.out.2];exact⟨rfl,(Chg.refl (λk=>k=b) wr).setCell (p:=⟨b,0,none⟩) (.inl rfl) _,H.out.set0 _⟩
     ·have HRV:=zz (HY.out q (i+1) (by rw[HG.out,hGO.out,if_neg h128,if_neg zo]));have hx:((c.toNat:Int) == 0)=false:=by simp;omega
      obtain⟨X,hX⟩:=zn ((c.toNat:Int));rw[hX] at hix h1 hx0 hx1 hd1 hd2 hx;clear hX hGO h128 hc hz;go_wp2;go_ret;rw[HRV.out.1,HRV.out.2];exact⟨rfl,(Chg.refl (λk=>k=b) wr).setCell (p:=⟨b,0,none⟩) (.inl rfl) _,H.out.set0 _⟩
   ·obtain rfl:i=9:=zo
    have HRV:=zz (HN.out (by
     obtain⟨c,hdr,_⟩:=zed s 9 hlt;rw[HG.out,hdr,zlH,if_pos zo]))
    go_wp2_with fail;refine zi HF ?_;rintro e w1 ⟨rfl,hc1,hr1⟩;have HC:=zz hc1;have HR:=zz hr1;clear hc1 hr1;go_wp2;go_ret;rw[HRV.out.1,HRV.out.2];exact⟨rfl,HC.out,HR.out⟩
  ·have HRV:=zz (HN.out (by rw[HG.out,List.drop_eq_nil_of_le (by rw[zai];omega),zlH]));have hlt2:¬(i:Int)<s.size:=zo
   go_wp2_with fail;refine zi HF ?_;rintro e w1 ⟨rfl,hc1,hr1⟩;have HC:=zz hc1;have HR:=zz hr1;clear hc1 hr1;go_wp2;go_ret;rw[HRV.out.1,HRV.out.2];exact⟨rfl,HC.out,HR.out⟩
theorem zvU:∀(l:List UInt8) (i n v k:Nat),i<=9->n<128 ^ i->zlH i n l=some (v,k)->v<=9223372036854775807/\i<k/\k<=i+l.length
 |[],i,n,v,k,_,_,h=>by rw[zlH] at h;cases h
 |c::t,i,n,v,k,hi,hn,h=>by
  rw[zlH] at h
  by_cases h9:9<=i
  ·rw[if_pos h9] at h;cases h
  ·rw[if_neg h9] at h;obtain⟨k1,k2,_⟩:=zwH n (c.toNat % 128) i zo hn zo
   by_cases h1:128<=c.toNat
   ·rw[if_pos h1] at h;have:=zvU t (i+1) _ v k zo k2 h;rw[List.length_cons];omega
   ·rw[if_neg h1] at h
    by_cases h2:c.toNat=0/\0<i
    ·rw[if_pos h2] at h;cases h
    ·rw[if_neg h2] at h;have e:=Option.some.inj h;injection e with e1 e2;have h3:(128:Nat) ^ (i+1)<=128 ^ 9:=Nat.pow_le_pow_right zo zo;have h9:(128:Nat) ^ 9=9223372036854775808:=rfl;rw[List.length_cons];omega
theorem zwz (r:RS):numV r<=9223372036854775807:=by
 unfold numV;cases h:numO r with
 |none=>simp
 |some p=>obtain⟨v,k⟩:=p;exact(zvU _ 0 0 v k zo zo h).1
theorem zuO (r:RS):(numR r).s.size<=r.s.size:=by
 unfold numR;cases h:numO r with
 |none=>exact Nat.zero_le _
 |some p=>obtain⟨v,k⟩:=p;show (r.s.extract k r.s.size).size<=_;rw[ByteArray.size_extract];omega
theorem zwS (r:RS) (n:Int):(zuh r n).s.size<=r.s.size:=by
 unfold zuh
 split
 ·exact Nat.zero_le _
 ·show (r.s.extract _ r.s.size).size<=_;rw[ByteArray.size_extract];omega
def zoJ (r:RS):ByteArray:=ztZ (numR r) (numV r)
def zmM (r:RS):RS:=zuh (numR r) (numV r)
theorem zuV (r:RS):(zmM r).s.size<=r.s.size:=Nat.le_trans (zwS _ _) (zuO r)
theorem zwj (b:Nat) (r:RS) (w:World) (h:zdd w b r) (hs:r.s.size<=4294967296):Calls Tryz.prog 93 #[.pointer (some ⟨b,0,none⟩)] w (zvr b (zmM r) (.string (zoJ r)) w):=by
 have HN:=zz (zvp b r w h hs);have hz:=zuO r;clear h;unfold zmM zoJ;obtain⟨R,hR⟩:=zn (numR r);obtain⟨V,hV⟩:=zn (numV r);rw[hR,hV] at HN;rw[hR] at hz;rw[hR,hV];clear hR hV;go_in;go_wp2_with fail;refine zi HN ?_;rintro e w1 ⟨rfl,hc1,hr1⟩;have HC:=zz hc1;have HT:=zz (zvS b R (V:Int) w1 hr1 zo);clear hc1 hr1;go_wp2_with fail;refine zi HT ?_;rintro e w2 ⟨rfl,hc2,hr2⟩;have HC2:=zz (HC.out.next hc2);have HR2:=zz hr2;clear hc2 hr2;go_wp2;go_ret;exact⟨rfl,HC2.out,HR2.out⟩
def zig (z:Nat):Int:=if z % 2=1 then -((z / 2:Nat):Int)-1 else ((z / 2:Nat):Int)
def zmW (z:Nat):Bool:=decide (zig z < -1152921504606846976\/1152921504606846976<zig z)
def intV (r:RS):Int:=if zmW (numV r) then 0 else zig (numV r)
def intR (r:RS):RS:=if zmW (numV r) then RS.bad else numR r
theorem zve (r:RS):(intR r).s.size<=r.s.size:=by
 unfold intR
 split
 ·exact Nat.zero_le _
 ·exact zuO r
theorem zwI (b:Nat) (r:RS) (w:World) (h:zdd w b r) (hs:r.s.size<=4294967296):Calls Tryz.prog 94 #[.pointer (some ⟨b,0,none⟩)] w (zvr b (intR r) (.int .i64 (intV r)) w):=by
 have HN:=zz (zvp b r w h hs);have hv:=zwz r;clear h;unfold intR intV;obtain⟨R,hR⟩:=zn (numR r);obtain⟨z,hV⟩:=zn (numV r);rw[hR,hV] at HN;rw[hV] at hv;rw[hR,hV];clear hR hV;have hz0:(0:Int)<=z:=zo
 have hz1:(z:Int)<=9223372036854775807:=zo
 obtain⟨q,hq0⟩:=zn (z / 2);have hq:(z:Int) / 2=(q:Int):=zo
 have hq1:(q:Int)<=4611686018427387904:=zo
 by_cases h2:z % 2=1
 ·have hm:((z:Int) % 2 == 1)=true:=by simp;omega
  by_cases h3:(1152921504606846976:Int)<=(q:Int)
  ·have HB:Hid ((if zmW z then RS.bad else R)=RS.bad/\(if zmW z then 0 else zig z)=0):=zz (by
    have hz:zig z=-(q:Int)-1:=by unfold zig;rw[if_pos h2,hq0]
    have hi:zmW z=true:=by unfold zmW;rw[hz];simp;omega
    rw[hi];exact⟨rfl,rfl⟩)
   rw[HB.out.1,HB.out.2];clear hq0 h2 HB;go_in;go_wp2_with fail;refine zi HN ?_;rintro e w1 ⟨rfl,hc1,hr1⟩;have HC:=zz hc1;have HR:=zz hr1;clear hc1 hr1;have HF:=zz (zvb b R w1 HR.out);go_wp2_with fail;refine zi HF ?_;rintro e w2 ⟨rfl,hc2,hr2⟩;have HC2:=zz (HC.out.next hc2);have HR2:=zz hr2;clear hc2 hr2;go_wp2;go_ret;exact⟨rfl,HC2.out,HR2.out⟩
  ·have HB:Hid ((if zmW z then RS.bad else R)=R/\(if zmW z then 0 else zig z)=-(q:Int)-1):=zz (by
    have hz:zig z=-(q:Int)-1:=by unfold zig;rw[if_pos h2,hq0]
    have hi:zmW z=false:=by unfold zmW;rw[hz];simp;omega
    rw[hi];exact⟨rfl,hz⟩)
   rw[HB.out.1,HB.out.2];have h4:(q:Int)<=1152921504606846975:=zo
   clear hq0 h2 HB h3;go_in;go_wp2_with fail;refine zi HN ?_;rintro e w1 ⟨rfl,hc1,hr1⟩;have HC:=zz hc1;have HR:=zz hr1;clear hc1 hr1;go_wp2;go_ret;exact⟨rfl,HC.out,HR.out⟩
 ·have hm:((z:Int) % 2 == 1)=false:=by simp;omega
  by_cases h3:(1152921504606846976:Int)<(q:Int)
  ·have HB:Hid ((if zmW z then RS.bad else R)=RS.bad/\(if zmW z then 0 else zig z)=0):=zz (by
    have hz:zig z=(q:Int):=by unfold zig;rw[if_neg h2,hq0]
    have hi:zmW z=true:=by unfold zmW;rw[hz];simp;omega
    rw[hi];exact⟨rfl,rfl⟩)
   rw[HB.out.1,HB.out.2];clear hq0 h2 HB;go_in;go_wp2_with fail;refine zi HN ?_;rintro e w1 ⟨rfl,hc1,hr1⟩;have HC:=zz hc1;have HR:=zz hr1;clear hc1 hr1;have HF:=zz (zvb b R w1 HR.out);go_wp2_with fail;refine zi HF ?_;rintro e w2 ⟨rfl,hc2,hr2⟩;have HC2:=zz (HC.out.next hc2);have HR2:=zz hr2;clear hc2 hr2;go_wp2;go_ret;exact⟨rfl,HC2.out,HR2.out⟩
  ·have HB:Hid ((if zmW z then RS.bad else R)=R/\(if zmW z then 0 else zig z)=(q:Int)):=zz (by
    have hz:zig z=(q:Int):=by unfold zig;rw[if_neg h2,hq0]
    have hi:zmW z=false:=by unfold zmW;rw[hz];simp;omega
    rw[hi];exact⟨rfl,hz⟩)
   rw[HB.out.1,HB.out.2];clear hq0 h2 HB;go_in;go_wp2_with fail;refine zi HN ?_;rintro e w1 ⟨rfl,hc1,hr1⟩;have HC:=zz hc1;have HR:=zz hr1;clear hc1 hr1;go_wp2;go_ret;exact⟨rfl,HC.out,HR.out⟩
def zcn (d:RS->Nat->Option (V × RS × Nat)):Nat->RS->Nat->Option (List V × RS × Nat)
 |0,r,left=>some ([],r,left)
 |c+1,r,left=>(d r left).bind λp=>(zcn d c p.2.1 p.2.2).map λq=>(p.1::q.1,q.2.1,q.2.2)
def hd1 (r:RS):RS:=numR r
def hd2 (r:RS):RS:=zmM (hd1 r)
def hd3 (r:RS):RS:=intR (hd2 r)
def hd4 (r:RS):RS:=intR (hd3 r)
def hd5 (r:RS):RS:=zmM (hd4 r)
def hd6 (r:RS):RS:=numR (hd5 r)
def zqK (r:RS) (left:Nat):Bool:=((hd6 r).s.size == 0&&!zti (hd6 r)) || decide (left<numV (hd5 r))
def decS:Nat->RS->Nat->Option (V × RS × Nat)
 |0,_,_=>none
 |F+1,r,left=>if left=0\/r.s.size=0 then none else if zqK r (left-1) then none else
  (zcn (decS F) (numV (hd5 r)) (hd6 r) (left-1)).map λp=>(.mk (numV r) (zoJ (hd1 r)) (intV (hd2 r)) (intV (hd3 r)) (zoJ (hd4 r)) p.1,p.2.1,p.2.2)
def zei (d:RS->Nat->Option (V × RS × Nat)) (c:Nat) (r0:RS) (l0:Nat) (i:Nat) (acc:List V) (r:RS) (left:Nat):Prop:=
 zcn d c r0 l0=(zcn d (c-i) r left).map λp=>(acc++p.1,p.2.1,p.2.2)
section
variable {d:RS->Nat->Option (V × RS × Nat)} {c:Nat} {r0:RS} {l0 i:Nat} {acc:List V} {r:RS} {left:Nat}
theorem zei.start (d:RS->Nat->Option (V × RS × Nat)) (c:Nat) (r0:RS) (l0:Nat):zei d c r0 l0 0 [] r0 l0:=by
 unfold zei;rw[Nat.sub_zero];cases zcn d c r0 l0 with
 |none=>rfl
 |some p=>rfl
theorem zei.step (h:zei d c r0 l0 i acc r left) (hi:i<c) {v:V} {r1:RS} {l1:Nat} (hd:d r left=some (v,r1,l1)):zei d c r0 l0 (i+1) (acc++[v]) r1 l1:=by
 unfold zei at *
 rw[h,show c-i=(c-(i+1))+1 by omega,zcn,hd];rw[Option.bind_some];cases zcn d (c-(i+1)) r1 l1<;>simp
theorem zei.stop (h:zei d c r0 l0 i acc r left) (hi:i<c) (hd:d r left=none):zcn d c r0 l0=none:=by
 unfold zei at h;rw[h,show c-i=(c-(i+1))+1 by omega,zcn,hd];rfl
theorem zei.done (h:zei d c r0 l0 c acc r left):zcn d c r0 l0=some (acc,r,left):=by
 unfold zei at h;rw[h,Nat.sub_self,zcn];simp
end
theorem zvE {d:RS->Nat->Option (V × RS × Nat)} (hd:∀r left v r' l',d r left=some (v,r',l')->l'<=left/\r'.s.size<=r.s.size):∀(c:Nat) (r:RS) (left:Nat) (l:List V) (r':RS) (l':Nat),zcn d c r left=some (l,r',l')->l'<=left/\r'.s.size<=r.s.size
 |0,r,left,l,r',l',h=>by rw[zcn] at h;cases h;exact⟨Nat.le_refl _,Nat.le_refl _⟩
 |c+1,r,left,l,r',l',h=>by
  rw[zcn] at h;cases h1:d r left with
  |none=>rw[h1] at h;cases h
  |some p=>
   obtain⟨v,r1,l1⟩:=p;rw[h1,Option.bind_some] at h;cases h2:zcn d c r1 l1 with
   |none=>rw[h2] at h;cases h
   |some q=>
    obtain⟨l2,r2,k2⟩:=q;rw[h2] at h;cases h;have e1:=hd _ _ _ _ _ h1;have e2:=zvE hd c r1 l1 _ _ _ h2
    show k2<=left/\r2.s.size<=r.s.size
    omega
theorem zxP (r:RS):(hd6 r).s.size<=r.s.size:=
 Nat.le_trans (zuO _) (Nat.le_trans (zuV _) (Nat.le_trans (zve _) (Nat.le_trans (zve _) (Nat.le_trans (zuV _) (zuO r)))))
theorem zwp:∀(F:Nat) (r:RS) (left:Nat) (v:V) (r':RS) (l':Nat),decS F r left=some (v,r',l')->l'<=left/\r'.s.size<=r.s.size
 |0,_,_,_,_,_,h=>by rw[decS] at h;cases h
 |F+1,r,left,v,r',l',h=>by
  rw[decS] at h
  split at h
  ·cases h
  ·split at h
   ·cases h
   ·cases h2:zcn (decS F) (numV (hd5 r)) (hd6 r) (left-1) with
    |none=>rw[h2] at h;cases h
    |some q=>
     obtain⟨l2,r2,k2⟩:=q;rw[h2] at h;cases h;have e1:=zvE (zwp F) _ _ _ _ _ _ h2;have e2:=zxP r
     show k2<=left/\r2.s.size<=r.s.size
     omega
def zvQ (b lb:Nat) (o:Option (V × RS × Nat)) (w:World) (e:Ending) (w':World):Prop:=
 Chg (λk=>k=b\/k=lb) w w'/\
 match o with
 |none=>e=.returned (.tuple #[.agg #[.int .i64 0,.string ⟨#[]⟩,.int .i64 0,.int .i64 0,.string ⟨#[]⟩,.slice none 0 0],.bool false])/\(∃r',zdd w' b r'/\r'.s.size<=4294967296)/\∃n:Int,zab w' lb #[.int .i64 n] 3
 |some (v,r',left')=>∃A c,e=.returned (.tuple #[.agg #[.int .i64 v.kind,.string v.t,.int .i64 v.n,.int .i64 v.m,.string v.s,.slice A v.l.length c],.bool true])/\Rd (Bt w.heap.size w'.heap.size) w' (vs v.l) (.slice A v.l.length c)/\zdd w' b r'/\zab w' lb #[.int .i64 left'] 3
theorem zhz {w:World} {g:Nat} {e:TypeId} {a0 a1 a2 a3 a4 a5:Value} (u0 u1 u2 u3 u4 u5:Value) (h:zab w g #[a0,a1,a2,a3,a4,a5] e) :
 zab ((((((w.setCell ⟨g,0,none⟩ u0).setCell ⟨g,1,none⟩ u1).setCell ⟨g,2,none⟩ u2).setCell ⟨g,3,none⟩ u3).setCell ⟨g,4,none⟩ u4).setCell ⟨g,5,none⟩ u5) g #[u0,u1,u2,u3,u4,u5] e:=by
 have:=(((((h.set 0 u0).set 1 u1).set 2 u2).set 3 u3).set 4 u4).set 5 u5
 simpa using this
theorem zlG {M:Nat->Prop} {w0 w:World} {g:Nat} (h:Chg M w0 w) (hp:M g\/w0.heap.size<=g) (u0 u1 u2 u3 u4 u5:Value) :
 Chg M w0 ((((((w.setCell ⟨g,0,none⟩ u0).setCell ⟨g,1,none⟩ u1).setCell ⟨g,2,none⟩ u2).setCell ⟨g,3,none⟩ u3).setCell ⟨g,4,none⟩ u4).setCell ⟨g,5,none⟩ u5):=
 (((((h.setCell (p:=⟨g,0,none⟩) hp u0).setCell (p:=⟨g,1,none⟩) hp u1).setCell (p:=⟨g,2,none⟩) hp u2).setCell (p:=⟨g,3,none⟩) hp u3).setCell (p:=⟨g,4,none⟩) hp u4).setCell (p:=⟨g,5,none⟩) hp u5
theorem zlJ {w:World} {g:Nat} (u0 u1 u2 u3 u4 u5:Value):Chg (λk=>k=g) w ((((((w.setCell ⟨g,0,none⟩ u0).setCell ⟨g,1,none⟩ u1).setCell ⟨g,2,none⟩ u2).setCell ⟨g,3,none⟩ u3).setCell ⟨g,4,none⟩ u4).setCell ⟨g,5,none⟩ u5):=
 zlG (Chg.refl (λk=>k=g) w) (.inl rfl) u0 u1 u2 u3 u4 u5
theorem zuB:(Tryz.prog.info? 24).map (λi=>(i.zero,i.size,i.bytes))=some (some (.agg #[↑(),↑zj.a,↑(),↑(),↑zj.a,.slice none 0 0]),6,80):=by kernel_rfl
def znw (y:V) (A:Option Addr) (c:Nat):List Value:=[.int .i64 y.kind,.string y.t,.int .i64 y.n,.int .i64 y.m,.string y.s,.slice A y.l.length c]
theorem zon (y:V) (A:Option Addr) (c:Nat):∀u∈znw y A c,u.oneCell'=true:=by
 intro u hu;unfold znw at hu;simp only[List.mem_cons,List.not_mem_nil,or_false] at hu;rcases hu with rfl|rfl|rfl|rfl|rfl|rfl<;>rfl
theorem zjM {w:World} {ops:Array Oper} {rest:List Oper} {o:Oper} {a:Act} {Q:Exit->Act->World->Prop} (hgd:o.guard=none) (s x:Operand)
 (ho:o.op=.call {callee:=.builtin .append,args:=#[s,x],argTypes:=#[22,22] })
 (B:Nat) (hB:B<=w.heap.size) (v:Value) (acc:List V) (hs:a.eval s=v) (hO:zaz B 24 6 acc.length (zgZ acc) w v)
 (ad:Addr) (c:Nat) (y:V) (A':Option Addr) (c':Nat) (hx:a.eval x=.slice (some ad) 1 c) (hcells:∀(j:Nat) (u:Value),(znw y A' c')[j]?=some u->w.cell? (ad.add j)=some u)
 (hrd:Rd (λb=>Bt B w.heap.size b/\some b≠v.ownBlock) w (vs y.l) (.slice A' y.l.length c')) (hlen:acc.length<=2097152)
 (h:∀v' w',zaz B 24 6 (acc++[y]).length (zgZ (acc++[y])) w' v'->w.grownBy w' v.ownBlock->wpList Tryz.prog ops Q rest (a.put o.dst v') w'):wpList Tryz.prog ops Q (o::rest) a w:=by
 obtain⟨i0,hi0,hz0,hz1,hz2⟩:=info_parts zuB;obtain⟨xs,hown⟩:=hO.own;refine wpList_append_lies w hgd s x 22 ho B 24 i0 _ 6 80 Tryz.underlying22 hi0 hz0 hz1 hz2 rfl zo v acc.length xs hs hown ad 1 c (znw y A' c') hx rfl hcells (zon y A' c') zo (by unfold maxLen;omega) zo hB w.heap.size rfl ?_;intro g cap w' h2 h3 h4 _;refine h _ w' ?_ h3;have hl:(acc++[y]).length=acc.length+1:=by simp
 rw[hl];refine hO.append hown h2 h3 h4 rfl (λk hk=>?_) (λj u hj=>?_)
 ·have hx:acc[k]?=some acc[k]:=List.getElem?_eq_getElem hk;rw[zeU acc k _ hx,zeU (acc++[y]) k _ (by rw[List.getElem?_append_left hk];exact hx)]
 ·rw[zeU (acc++[y]) acc.length y (by rw[List.getElem?_append_right (Nat.le_refl _)];simp)];obtain⟨k,t,n,m,s,l⟩:=y;exact zpU hrd j u hj
theorem zkU:(Tryz.prog.info? 24).map (·.size)=some 6:=by kernel_rfl
end Go.Proofs.YtcebmphappfjjaaGreatDoor
