/- Conditions: those in each statement. -/
import Derived.Test.YtcebmphappfjjaaGreatDoorV42
import Derived.Test.YtcebmphappfjjaaGreatDoorV08
import Derived.Test.YtcebmphappfjjaaGreatDoorV30
import Derived.Test.YtcebmphappfjjaaGreatDoorV46
import Derived.Test.YtcebmphappfjjaaGreatDoorV33
set_option maxHeartbeats 32000000
set_option maxRecDepth 100000
namespace Go.Proofs.YtcebmphappfjjaaGreatDoor
open Go.RowKit
theorem zzV:∀(l:List UInt8) (c:UInt8) (o:Nat),l[o]?=some c->(∀k,k<o->l[k]?≠some c)->Lib.indexByte l c=o
 |[],c,o,h,_=>by simp at h
 |b::l,c,0,h,_=>by
  simp at h;unfold Lib.indexByte;simp[h]
 |b::l,c,o+1,h,hn=>by
  have hb:¬b=c:=λe=>hn 0 zo (by simp[e]);have ih:=zzV l c o (by simpa using h) (λk hk=>by have:=hn (k+1) zo;simpa using this);unfold Lib.indexByte;rw[if_neg (by simpa using hb),ih,if_neg (by simp<;>omega)]
  push_cast;rfl
theorem zzI:∀(l:List UInt8) (c:UInt8),(∀k:Nat,l[k]?≠some c)->Lib.indexByte l c=-1
 |[],c,_=>rfl
 |b::l,c,hn=>by
  have hb:¬b=c:=λe=>hn 0 (by simp[e]);have ih:=zzI l c (λk=>by have:=hn (k+1);simpa using this);unfold Lib.indexByte;rw[if_neg (by simpa using hb),ih];rfl
theorem zzG {s:ByteArray} {i:Nat} {c:UInt8} (hi:i<s.size):zak s i=(c.toNat:Int)↔s.data.toList[i]?=some c:=by
 have h1:i<s.data.toList.length:=by rw[zai];exact hi
 unfold zak;rw[List.getD_eq_getElem?_getD,List.getElem?_eq_getElem h1,Option.getD_some]
 constructor
 ·intro h;rw[UInt8.toNat_inj.1 (Int.ofNat.inj h)]
 ·intro h;rw[Option.some.inj h]
theorem zzA {s:ByteArray} {a b k:Nat} (_hb:b<=s.size) (hk:a+k<b):(s.extract a b).data.toList[k]?=s.data.toList[a+k]?:=by
 rw[ByteArray.data_extract,Array.toList_extract,List.extract_eq_take_drop,List.getElem?_take_of_lt zo,List.getElem?_drop]
theorem zAe {s:ByteArray} {a b:Nat} (hb:b<=s.size):(s.extract a b).data.toList.length=b-a:=by
 rw[zai,ByteArray.size_extract];omega
theorem zDn {s:ByteArray} {a i:Nat} (ha:a<=i) (hi:i<s.size) (hno:∀j,a<=j->j<i->zak s j≠46) (hd:zak s i=46):ziA (s.extract a s.size)=((i-a:Nat):Int):=by
 refine zzV _ _ _ ?_ (λk hk=>?_)
 ·rw[zzA (Nat.le_refl _) zo,show a+(i-a)=i by omega];exact(zzG hi).1 hd
 ·rw[zzA (Nat.le_refl _) zo];exact λh=>hno (a+k) zo zo ((zzG zo).2 h)
theorem zAX {s:ByteArray} {a:Nat} (hno:∀j,a<=j->j<s.size->zak s j≠46):ziA (s.extract a s.size)=-1:=by
 refine zzI _ _ (λk h=>?_)
 have hl:k<s.size-a:=by
  have:=(List.getElem?_eq_some_iff.1 h).1
  rwa [zAe (Nat.le_refl _)] at this
 rw[zzA (Nat.le_refl _) zo] at h;exact hno (a+k) zo zo ((zzG zo).2 h)
theorem zzQ {s:ByteArray} {a b c:Nat} (hc:a+c<=s.size):(s.extract a s.size).extract b c=s.extract (a+b) (a+c):=by
 apply zbX;rw[ByteArray.toList_eq,ByteArray.toList_eq];refine List.ext_getElem? (λk=>?_);have hsz:(s.extract a s.size).size=s.size-a:=by rw[ByteArray.size_extract];omega
 rcases Nat.lt_or_ge (b+k) c with h|h
 ·rw[zzA (by rw[hsz];omega) h,zzA (Nat.le_refl _) zo,zzA zo zo,Nat.add_assoc]
 ·rw[List.getElem?_eq_none (by rw[zAe (by rw[hsz];omega)];omega),List.getElem?_eq_none (by rw[zAe zo];omega)]
theorem zCL {s:ByteArray} {a i:Nat} (ha:a<=i) (hi:i<s.size) (hno:∀j,a<=j->j<i->zak s j≠46) (hd:zak s i=46) :
 cutA (s.extract a s.size)=s.extract a i/\cutR (s.extract a s.size)=s.extract (i+1) s.size/\cutF (s.extract a s.size)=true:=by
 have h:=zDn ha hi hno hd;have hsz:(s.extract a s.size).size=s.size-a:=by rw[ByteArray.size_extract];omega
 unfold cutA cutR cutF;rw[h,if_neg zo,if_neg zo,Int.toNat_natCast,hsz];refine⟨?_,?_,decide_eq_true zo⟩
 ·rw[zzQ zo,Nat.add_zero,show a+(i-a)=i by omega]
 ·rw[zzQ zo,show a+(i-a+1)=i+1 by omega,show a+(s.size-a)=s.size by omega]
theorem zEk {s:ByteArray} {a:Nat} (hno:∀j,a<=j->j<s.size->zak s j≠46) :
 cutA (s.extract a s.size)=s.extract a s.size/\cutF (s.extract a s.size)=false:=by
 have h:=zAX hno;unfold cutA cutF;rw[h];exact⟨rfl,rfl⟩
theorem zBN (s:ByteArray):s.extract 0 s.size=s:=by
 apply zbX;rw[ByteArray.toList_eq,ByteArray.toList_eq,ByteArray.data_extract,Array.toList_extract,List.extract_eq_take_drop,List.drop_zero,List.take_of_length_le (by rw[zai];omega)]
def PI (s:ByteArray) (i a:Nat):Prop:=zak s 1=46->2<=i->(i=s.size+1/\znX s=true)\/(i<=s.size/\(∀j,a<=j->j<i->zak s j≠46)/\∃f,s.size-a<f/\znX s=zfB f (s.extract a s.size) true)
section
variable {s:ByteArray} {i a:Nat}
theorem zEj (h0:zak s 0=48) (h1:0<s.size):s.extract 0 1=⟨#[48]⟩:=by
 refine zsZ (by rw[ByteArray.size_extract];omega) ?_
 exact(zzG (c:=48) (by rw[ByteArray.size_extract];omega)).2 (by
  rw[zzA zo zo];exact(zzG (c:=48) h1).1 h0)
theorem PI.two (hs:s.size<=200) (h0:zak s 0=48):PI s 2 2:=λh1 _=>by
 have hsz:1<s.size:=Classical.byContradiction λh=>by
  unfold zak at h1;rw[List.getD_eq_getElem?_getD,List.getElem?_eq_none (by rw[zai];omega)] at h1;exact absurd h1 zd
 obtain⟨c1,c2,c3⟩:=zCL (s:=s) (a:=0) (i:=1) zo hsz (λj _ hj=>by
  obtain rfl:j=0:=zo
  rw[h0];decide) h1
 rw[zBN] at c1 c2 c3;refine .inr ⟨zo,λj h2 h3=>by omega,s.size+1,zo,?_⟩;unfold znX;rw[c1,c2,c3,zEj h0 zo,decide_eq_true hs];simp
theorem PI.skip (h:PI s i a) (h2:2<=i) (hi:i<s.size) (hd:zak s i≠46):PI s (i+1) a:=λh1 _=>by
 rcases h h1 h2 with ⟨h3,_⟩|⟨_,h4,h5⟩
 ·omega
 ·refine .inr ⟨zo,λj ha hj=>?_,h5⟩;rcases Nat.lt_or_eq_of_le (Nat.lt_succ_iff.1 hj) with h6|h6
  ·exact h4 j ha h6
  ·rw[h6];exact hd
theorem PI.part (h:PI s i a) (h2:2<=i) (ha:a<=i) (hi:i<=s.size) (hd:i=s.size\/zak s i=46):zak s 1=46->∃R,znX s=((zbD (s.extract a i) 0 9007199254740992).2&&R)/\(R=true->i=s.size->True)/\((i=s.size/\R=true)\/(i<s.size/\∃f,s.size-(i+1)<f/\R=zfB f (s.extract (i+1) s.size) true)):=λh1=>by
 rcases h h1 h2 with ⟨h3,_⟩|⟨_,h4,f,h5,h6⟩
 ·omega
 ·obtain⟨f',rfl⟩:∃f',f=f'+1:=⟨f-1,zo⟩;rcases Nat.lt_or_ge i s.size with hlt|hge
  ·have hd2:zak s i=46:=hd.resolve_left zo;obtain⟨c1,c2,c3⟩:=zCL ha hlt h4 hd2;refine⟨zfB f' (s.extract (i+1) s.size) true,?_,λ_ _=>trivial,.inr ⟨hlt,f',zo,rfl⟩⟩;rw[h6,zfB,c1,c2,c3]
  ·obtain rfl:i=s.size:=zo
   obtain⟨c1,c3⟩:=zEk h4;refine⟨true,?_,λ_ _=>trivial,.inl ⟨rfl,rfl⟩⟩;rw[h6,zfB,c1,c3];cases f'<;>rfl
theorem PI.ok (h:PI s i a) (h2:2<=i) (ha:a<=i) (hi:i<=s.size) (hd:i=s.size\/zak s i=46) (hp:(zbD (s.extract a i) 0 9007199254740992).2=true):PI s (i+1) (i+1):=λh1 _=>by
 obtain⟨R,h3,_,h4⟩:=h.part h2 ha hi hd h1;rw[hp,Bool.true_and] at h3;rcases h4 with ⟨rfl,h5⟩|⟨h5,f,h6,h7⟩
 ·exact .inl ⟨rfl,by rw[h3,h5]⟩
 ·exact .inr ⟨zo,λj h8 h9=>by omega,f,h6,by rw[h3,h7]⟩
theorem zCc (_h0:zak s 0=48) (hsz:1<s.size) (h1:zak s 1≠46):znX s=false:=by
 unfold znX
 have:cutA s≠⟨#[48]⟩:=λh=>by
  have hl:(cutA s).size=1:=by rw[h];rfl
  rcases zfD s with hd|⟨i,hd,hi⟩
  ·unfold cutA at hl;rw[hd,if_pos zd] at hl;omega
  ·unfold cutA at hl;rw[hd,if_neg zo,ByteArray.size_extract,Int.toNat_natCast] at hl;obtain rfl:i=1:=zo
   have:=(Lib.indexByte_some (l:=s.data.toList) (c:=46) (o:=1) hd).1;exact h1 ((zzG (c:=46) hi).2 this)
 rw[decide_eq_false this];simp
theorem PI.bad (h:PI s i a) (h0:zak s 0=48) (h2:2<=i) (ha:a<=i) (hi:i<=s.size) (hd:i=s.size\/zak s i=46) (hp:(zbD (s.extract a i) 0 9007199254740992).2=false):znX s=false:=by
 by_cases h1:zak s 1=46
 ·obtain⟨R,h3,_,_⟩:=h.part h2 ha hi hd h1;rw[h3,hp];rfl
 ·exact zCc h0 zo h1
theorem zDz (h0:zak s 0=48) (h1:s.size=1):znX s=true:=by
 obtain rfl:=zsZ h1 h0
 decide
theorem zCd (h0:zak s 0≠48):znX s=false:=by
 unfold znX
 have:cutA s≠⟨#[48]⟩:=λh=>by
  have hg:(cutA s).data.toList[0]?=some 48:=by rw[h];rfl
  have hl:0<(cutA s).size:=by rw[h];decide
  rcases zfD s with hd|⟨i,hd,hi⟩
  ·unfold cutA at hg hl;rw[hd,if_pos zd] at hg hl;exact h0 ((zzG (c:=48) hl).2 hg)
  ·unfold cutA at hg hl;rw[hd,if_neg zo,Int.toNat_natCast] at hg hl;rw[ByteArray.size_extract] at hl;rw[zzA zo zo] at hg;exact h0 ((zzG (c:=48) zo).2 hg)
 rw[decide_eq_false this];simp
theorem zBD (h:s.size=0) (i:Nat):zak s i=0:=by
 unfold zak;rw[List.getD_eq_getElem?_getD,List.getElem?_eq_none (by rw[zai];omega)];rfl
end
theorem zCw (s:ByteArray) (w:World) (hs:s.size<=200) (hp:0<s.size) (h0:zak s 0=48):Calls Tryz.prog 23 #[↑s] w λe w'=>e=.returned (.bool (znX s))/\Below w.heap.size w w':=by
 have hs':¬(200:Int)<s.size:=zo
 have hp':((s.size:Int) == 0)=false:=beq_eq_false_iff_ne.2 zo;have hi0:(Instr.index 9 ↑s ↑()).run Tryz.prog w=.ok (.int .u8 (zak s 0)) w:=by simpa using zaP s 0 hp w
 rw[h0] at hi0;have HI:=zz (zaP s);have H0:=zz h0;have HP2:=zz (PI.two hs h0);clear h0;go_in;go_wp2
 go_loopw [3,4] (λs3 s4 wr=>∃(i a:Nat),1<=i/\i<=s.size+1/\2<=a/\(a<=i\/i=1/\a=2)/\s4=↑i/\s3=↑a/\Hid (PI s i a)/\Hid (Below w.heap.size w wr)) (λ_ s4 _=>s.size+1-(intOf s4).toNat)
 case atStart=>exact⟨1,2,zo,zo,zo,.inr ⟨rfl,rfl⟩,rfl,rfl,zz (λ_ h=>absurd h zo),zz (Below.refl _ _)⟩
 case round=>
  clear hi0;obtain⟨i,a,h1i,hile1,h2a,hai,rfl,rfl,HP,HB⟩:=hrel;rcases Nat.lt_or_ge i s.size with hlt|hge
  ·have hix:=HI.out i hlt wr;have hile:i<=s.size:=zo
   cases hd:(zak s i == 46) with
   |false=>
    have hdn:(zak s i != 46)=true:=by simp[bne,hd]
    have hdd:zak s i≠46:=by simpa using hd
    have HT:Hid (PI s (i+1) a):=zz (by
     rcases Nat.lt_or_ge i 2 with h|h
     ·obtain rfl:i=1:=zo
      obtain rfl:a=2:=zo
      exact HP2.out
     ·exact HP.out.skip h hlt hdd)
    obtain⟨X,hX⟩:=zn (zak s i);rw[hX] at hix hd hdn;clear hX hdd HP;go_wp2;exact⟨⟨i+1,a,zo,zo,zo,zo,by go_num,rfl,HT,HB⟩,by simp[intOf]<;>omega⟩
   |true=>
    have hdn:(zak s i != 46)=false:=by simp[bne,hd]
    have hdd:i=s.size\/zak s i=46:=.inr (by simpa using hd);obtain⟨X,hX⟩:=zn (zak s i);have HX:=zz hX;rw[hX] at hix hd hdn;clear hX;rcases Nat.lt_or_ge i 2 with h2i|h2i
    ·obtain rfl:i=1:=zo
     obtain rfl:a=2:=zo
     have hix:(Instr.index 9 ↑s (.int .i64 1)).run Tryz.prog wr=.ok (.int .u8 X) wr:=by simpa using hix
     clear HP hdd;go_wp2;exact⟨⟨2,2,zo,zo,zo,zo,rfl,rfl,HP2,HB⟩,by simp[intOf]<;>omega⟩
    ·have hai:a<=i:=zo
     have hfi:(a:Int)<=i:=zo
     have his:(i:Int)<=s.size:=zo
     have hi1:(1:Int)<i:=zo
     have hxs:(s.extract a i).size<=2097152:=by rw[ByteArray.size_extract];omega
     have HC:=zz (λW=>zAq (s.extract a i) 0 9007199254740992 W hxs);have HOK:=zz (HP.out.ok h2i hai hile hdd);have HBAD:=zz (HP.out.bad H0.out h2i hai hile hdd);obtain⟨P,hP⟩:=zn (zbD (s.extract a i) 0 9007199254740992);rw[hP] at HC HOK HBAD;obtain⟨pn,pb⟩:=P;clear hP HP hdd;cases pb with
     |false=>
      have HT:=zz (HBAD.out rfl);clear HOK HBAD;go_wp2_with fail;(with_reducible refine(HC.out _).mono ?_);rintro e w3 ⟨rfl,hb3⟩;have HB3:=zz (HB.out.trans (hb3.mono HB.out.size));clear hb3;go_wp2;go_ret;exact⟨by rw[HT.out];rfl,HB3.out⟩
     |true=>
      have HT:=zz (HOK.out rfl);clear HOK HBAD;go_wp2_with fail;(with_reducible refine(HC.out _).mono ?_);rintro e w3 ⟨rfl,hb3⟩;have HB3:=zz (HB.out.trans (hb3.mono HB.out.size));clear hb3;go_wp2;exact⟨⟨i+1,i+1,zo,zo,zo,zo,by go_num,by go_num,HT,HB3⟩,by simp[intOf]<;>omega⟩
  ·rcases Nat.lt_or_ge s.size i with hgt|hle2
   ·obtain rfl:i=s.size+1:=zo
    have hex:¬(s.size:Int)+1<=s.size:=zo
    by_cases h1:s.size=1
    ·have HT:=zz (zDz H0.out h1);have h1b:((s.size:Int) == 1)=true:=beq_iff_eq.2 zo;clear HP h1;go_wp2;go_ret;exact⟨by rw[HT.out];rfl,HB.out⟩
    ·have h1b:((s.size:Int) == 1)=false:=beq_eq_false_iff_ne.2 zo;have hix:(Instr.index 9 ↑s (.int .i64 1)).run Tryz.prog wr=.ok (.int .u8 (zak s 1)) wr:=by simpa using HI.out 1 zo wr
     have HT:Hid (znX s=(zak s 1 == 46)):=zz (by
      cases hd:(zak s 1 == 46) with
      |false=>exact zCc H0.out zo (by simpa using hd)
      |true=>
       rcases HP.out (by simpa using hd) zo with ⟨_,h⟩|⟨h,_⟩
       ·exact h
       ·omega)
     obtain⟨X,hX⟩:=zn (zak s 1);rw[hX] at hix HT;clear hX HP;go_wp2;go_ret;exact⟨by rw[HT.out];first|rfl|simp,HB.out⟩
   ·obtain rfl:i=s.size:=zo
    have hile:s.size<=s.size:=zo
    have hdd:s.size=s.size\/zak s s.size=46:=.inl rfl;have hnl:decide (s.size<s.size)=false:=decide_eq_false zo;rcases Nat.lt_or_ge s.size 2 with h2i|h2i
    ·have h1:s.size=1:=zo
     obtain rfl:a=2:=zo
     have HT:Hid (PI s (s.size+1) 2):=zz (by rw[h1];exact HP2.out);have hn1:¬(1:Int)<s.size:=zo
     clear HP hdd h1;go_wp2;exact⟨⟨s.size+1,2,zo,zo,zo,zo,by go_num,rfl,HT,HB⟩,by simp[intOf]<;>omega⟩
    ·have hai:a<=s.size:=zo
     have hfi:(a:Int)<=s.size:=zo
     have hi1:(1:Int)<s.size:=zo
     have hxs:(s.extract a s.size).size<=2097152:=by rw[ByteArray.size_extract];omega
     have HC:=zz (λW=>zAq (s.extract a s.size) 0 9007199254740992 W hxs);have HOK:=zz (HP.out.ok h2i hai hile hdd);have HBAD:=zz (HP.out.bad H0.out h2i hai hile hdd);obtain⟨P,hP⟩:=zn (zbD (s.extract a s.size) 0 9007199254740992);rw[hP] at HC HOK HBAD;obtain⟨pn,pb⟩:=P;clear hP HP hdd;cases pb with
     |false=>
      have HT:=zz (HBAD.out rfl);clear HOK HBAD;go_wp2_with fail;(with_reducible refine(HC.out _).mono ?_);rintro e w3 ⟨rfl,hb3⟩;have HB3:=zz (HB.out.trans (hb3.mono HB.out.size));clear hb3;go_wp2;go_ret;exact⟨by rw[HT.out];rfl,HB3.out⟩
     |true=>
      have HT:=zz (HOK.out rfl);clear HOK HBAD;go_wp2_with fail;(with_reducible refine(HC.out _).mono ?_);rintro e w3 ⟨rfl,hb3⟩;have HB3:=zz (HB.out.trans (hb3.mono HB.out.size));clear hb3;go_wp2;exact⟨⟨s.size+1,s.size+1,zo,zo,zo,zo,by go_num,by go_num,HT,HB3⟩,by simp[intOf]<;>omega⟩
theorem zBJ (s:ByteArray) (w:World) (hs:s.size<=2097152):Calls Tryz.prog 23 #[↑s] w λe w'=>e=.returned (.bool (znX s))/\Below w.heap.size w w':=by
 by_cases h2:s.size<=200
 ·by_cases hz:s.size=0
  ·have HE:Hid (znX s=false):=zz (zCd (by rw[zBD hz];decide));have h2':¬(200:Int)<s.size:=zo
   have hp':((s.size:Int) == 0)=true:=beq_iff_eq.2 zo;clear hz;go_in;go_wp2;go_ret;exact⟨by rw[HE.out];rfl,Below.refl _ _⟩
  ·by_cases h0:zak s 0=48
   ·exact zCw s w h2 zo h0
   ·have HE:Hid (znX s=false):=zz (zCd h0);have h2':¬(200:Int)<s.size:=zo
    have hp':((s.size:Int) == 0)=false:=beq_eq_false_iff_ne.2 zo;have hi0:(Instr.index 9 ↑s ↑()).run Tryz.prog w=.ok (.int .u8 (zak s 0)) w:=by simpa using zaP s 0 zo w
    have hb:(zak s 0 != 48)=true:=by simpa using h0
    have hpos:0<s.size:=zo
    obtain⟨X,hX⟩:=zn (zak s 0);rw[hX] at hi0 hb;clear hX hz h0;go_in;go_wp2;go_ret;exact⟨by rw[HE.out];rfl,Below.refl _ _⟩
 ·have h2':(200:Int)<s.size:=zo
  have HE:Hid (znX s=false):=zz (by unfold znX;rw[decide_eq_false h2];rfl);go_in;go_wp2;go_ret;exact⟨by rw[HE.out];rfl,Below.refl _ _⟩
def zBc (t:ByteArray) (n m:Int) (s:ByteArray) (l:List V):Bool:=decide ((l.length:Int)<=16384)&&zmx t n m s
def zBf (t:ByteArray) (n m:Int) (s:ByteArray) (l:List V):Bool:=decide ((l.length:Int)<=16384)&&zlY t n m s
def zBa (t:ByteArray) (n m:Int) (s:ByteArray) (l:List V):Bool:=decide ((l.length:Int)<=16384)&&zoj t n m s
def zzw:V->Bool
 |.mk k t n m s l=>
  if k=1 then zmu t n m s l
  else if k=2 then zlV t n m s l
  else if k=3 then zmb t n m s l
  else if k=4 then zmE t n m s l
  else if k=5 then zmv t n m s l
  else if k=6 then zBc t n m s l
  else if k=7 then zBf t n m s l
  else if k=8 then zmm t n m s l
  else if k=9 then zBa t n m s l
  else if k=10 then zjg t n m s l
  else false
theorem zDD (t:ByteArray) (n m:Int) (s:ByteArray) (l:List V) (A:Option Addr) (c:Nat) (w:World) :
 Calls Tryz.prog 103 #[.agg #[.int .i64 1,↑t,↑n,↑m,↑s,.slice A l.length c]] w λe w'=>e=.returned (.bool (zmu t n m s l))/\Below w.heap.size w w':=by
 have FIN:Hid (∀x y:Obj,Below w.heap.size w ((w.alloc x).alloc y)):=zz (λx y=>((Below.refl _ _).alloc (Nat.le_refl _) _).alloc zs _);go_in;go_wp2
 all_goals
  go_ret;refine⟨?_,by repeat (first|exact FIN.out _ _|refine zzt _ zs _ _ ?_|refine Below.setCell ?_ zs _)⟩
  go_light
  first
   |(simp[zmu, *];done)
   |(simp[zmu, *];intros;omega)
theorem zDG (t:ByteArray) (n m:Int) (s:ByteArray) (l:List V) (A:Option Addr) (c:Nat) (w:World) :
 Calls Tryz.prog 103 #[.agg #[.int .i64 2,↑t,↑n,↑m,↑s,.slice A l.length c]] w λe w'=>e=.returned (.bool (zlV t n m s l))/\Below w.heap.size w w':=by
 have FIN:Hid (∀x y:Obj,Below w.heap.size w ((w.alloc x).alloc y)):=zz (λx y=>((Below.refl _ _).alloc (Nat.le_refl _) _).alloc zs _);go_in;go_wp2
 all_goals
  go_ret;refine⟨?_,by repeat (first|exact FIN.out _ _|refine zzt _ zs _ _ ?_|refine Below.setCell ?_ zs _)⟩
  go_light
  first
   |(simp[zlV, *];done)
   |(simp[zlV, *];intros;omega)
theorem zDN (t:ByteArray) (n m:Int) (s:ByteArray) (l:List V) (A:Option Addr) (c:Nat) (w:World) :
 Calls Tryz.prog 103 #[.agg #[.int .i64 3,↑t,↑n,↑m,↑s,.slice A l.length c]] w λe w'=>e=.returned (.bool (zmb t n m s l))/\Below w.heap.size w w':=by
 have FIN:Hid (∀x y:Obj,Below w.heap.size w ((w.alloc x).alloc y)):=zz (λx y=>((Below.refl _ _).alloc (Nat.le_refl _) _).alloc zs _);have HI:=zz zDk;go_in;go_wp2_with (first|(go_at_call 154;(with_reducible refine(HI.out _ _).mono ?_);rintro e w1 ⟨rfl,rfl⟩))
 all_goals
  go_ret;refine⟨?_,by repeat (first|exact FIN.out _ _|refine zzt _ zs _ _ ?_|refine Below.setCell ?_ zs _)⟩
  go_light
  first
   |(simp[zmb, *];done)
   |(simp[zmb, *];intros;omega)
theorem zDw (t:ByteArray) (n m:Int) (s:ByteArray) (l:List V) (A:Option Addr) (c:Nat) (w:World) :
 Calls Tryz.prog 103 #[.agg #[.int .i64 4,↑t,↑n,↑m,↑s,.slice A l.length c]] w λe w'=>e=.returned (.bool (zmE t n m s l))/\Below w.heap.size w w':=by
 have FIN:Hid (∀x y:Obj,Below w.heap.size w ((w.alloc x).alloc y)):=zz (λx y=>((Below.refl _ _).alloc (Nat.le_refl _) _).alloc zs _);go_in;go_wp2
 all_goals
  go_ret;refine⟨?_,by repeat (first|exact FIN.out _ _|refine zzt _ zs _ _ ?_|refine Below.setCell ?_ zs _)⟩
  go_light
  first
   |(simp[zmE, *];done)
   |(simp[zmE, *];intros;omega)
theorem zDE (t:ByteArray) (n m:Int) (s:ByteArray) (l:List V) (A:Option Addr) (c:Nat) (w:World) :
 Calls Tryz.prog 103 #[.agg #[.int .i64 5,↑t,↑n,↑m,↑s,.slice A l.length c]] w λe w'=>e=.returned (.bool (zmv t n m s l))/\Below w.heap.size w w':=by
 have FIN:Hid (∀x y:Obj,Below w.heap.size w ((w.alloc x).alloc y)):=zz (λx y=>((Below.refl _ _).alloc (Nat.le_refl _) _).alloc zs _);go_in;go_wp2
 all_goals
  go_ret;refine⟨?_,by repeat (first|exact FIN.out _ _|refine zzt _ zs _ _ ?_|refine Below.setCell ?_ zs _)⟩
  go_light
  first
   |(simp[zmv, *];done)
   |(simp[zmv, *];intros;omega)
theorem zDy (t:ByteArray) (n m:Int) (s:ByteArray) (l:List V) (A:Option Addr) (c:Nat) (w:World) :
 Calls Tryz.prog 103 #[.agg #[.int .i64 9,↑t,↑n,↑m,↑s,.slice A l.length c]] w λe w'=>e=.returned (.bool (zBa t n m s l))/\Below w.heap.size w w':=by
 have FIN:Hid (∀x y:Obj,Below w.heap.size w ((w.alloc x).alloc y)):=zz (λx y=>((Below.refl _ _).alloc (Nat.le_refl _) _).alloc zs _);go_in;go_wp2
 all_goals
  go_ret;refine⟨?_,by repeat (first|exact FIN.out _ _|refine zzt _ zs _ _ ?_|refine Below.setCell ?_ zs _)⟩
  go_light
  first
   |(simp[zBa,zoj, *];done)
   |(simp[zBa,zoj, *];intros;omega)
theorem zDe (t:ByteArray) (n m:Int) (s:ByteArray) (l:List V) (A:Option Addr) (c:Nat) (w:World) :
 Calls Tryz.prog 103 #[.agg #[.int .i64 10,↑t,↑n,↑m,↑s,.slice A l.length c]] w λe w'=>e=.returned (.bool (zjg t n m s l))/\Below w.heap.size w w':=by
 have FIN:Hid (∀x y:Obj,Below w.heap.size w ((w.alloc x).alloc y)):=zz (λx y=>((Below.refl _ _).alloc (Nat.le_refl _) _).alloc zs _);have HI:=zz zDk;go_in;go_wp2_with (first|(go_at_call 154;(with_reducible refine(HI.out _ _).mono ?_);rintro e w1 ⟨rfl,rfl⟩))
 all_goals
  go_ret;refine⟨?_,by repeat (first|exact FIN.out _ _|refine zzt _ zs _ _ ?_|refine Below.setCell ?_ zs _)⟩
  go_light
  first
   |(simp[zjg, *];done)
   |(simp[zjg, *];intros;omega)
theorem zDt (k:Int) (t:ByteArray) (n m:Int) (s:ByteArray) (l:List V) (A:Option Addr) (c:Nat) (w:World) (hk:∀j:Int,1<=j->j<=10->(k == j)=false) :
 Calls Tryz.prog 103 #[.agg #[↑k,↑t,↑n,↑m,↑s,.slice A l.length c]] w λe w'=>e=.returned (.bool (false))/\Below w.heap.size w w':=by
 have FIN:Hid (∀x y:Obj,Below w.heap.size w ((w.alloc x).alloc y)):=zz (λx y=>((Below.refl _ _).alloc (Nat.le_refl _) _).alloc zs _);have k1:=hk 1 zo zo;have k2:=hk 2 zo zo;have k3:=hk 3 zo zo;have k4:=hk 4 zo zo;have k5:=hk 5 zo zo;have k6:=hk 6 zo zo;have k7:=hk 7 zo zo;have k8:=hk 8 zo zo;have k9:=hk 9 zo zo;have k10:=hk 10 zo zo;clear hk;go_in;go_wp2
 all_goals
  go_ret;refine⟨?_,by repeat (first|exact FIN.out _ _|refine zzt _ zs _ _ ?_|refine Below.setCell ?_ zs _)⟩
  go_light
  first
   |(simp[*];done)
   |(simp[*];intros;omega)
theorem zDB (t:ByteArray) (n m:Int) (s:ByteArray) (l:List V) (A:Option Addr) (c:Nat) (w:World) (ht:t.size<=2097152) :
 Calls Tryz.prog 103 #[.agg #[.int .i64 6,↑t,↑n,↑m,↑s,.slice A l.length c]] w λe w'=>e=.returned (.bool (zBc t n m s l))/\Below w.heap.size w w':=by
 have FIN:Hid (∀x y:Obj,Below w.heap.size w ((w.alloc x).alloc y)):=zz (λx y=>((Below.refl _ _).alloc (Nat.le_refl _) _).alloc zs _);have HT:=zz (λW=>zBr t W ht);go_in;go_wp2_with (first|(go_at_call 155;(with_reducible refine(HT.out _).mono ?_);rintro e w1 ⟨rfl,hb1⟩;obtain⟨hc1,hf1⟩:=zCv hb1;have hz0:w.heap.size<w1.heap.size:=Nat.lt_of_lt_of_le (by simp;omega) hb1.size;have hz1:w.heap.size+1<w1.heap.size:=Nat.lt_of_lt_of_le zs hb1.size;have HBU:Hid (Below w.heap.size w w1):=zz (Below.trans (by repeat (first|exact FIN.out _ _|refine zzt _ zs _ _ ?_|refine Below.setCell ?_ zs _)) (hb1.mono (by simp;omega)));clear hb1))
 all_goals
  go_ret;refine⟨?_,HBU.out⟩
  go_light
  first
   |(simp[zBc,zmx, *];done)
   |(simp[zBc,zmx, *];intros;omega)
theorem zDI (t:ByteArray) (n m:Int) (s:ByteArray) (l:List V) (A:Option Addr) (c:Nat) (w:World) (ht:t.size<=2097152) :
 Calls Tryz.prog 103 #[.agg #[.int .i64 7,↑t,↑n,↑m,↑s,.slice A l.length c]] w λe w'=>e=.returned (.bool (zBf t n m s l))/\Below w.heap.size w w':=by
 have FIN:Hid (∀x y:Obj,Below w.heap.size w ((w.alloc x).alloc y)):=zz (λx y=>((Below.refl _ _).alloc (Nat.le_refl _) _).alloc zs _);have HT:=zz (λW=>zBr t W ht);go_in;go_wp2_with (first|(go_at_call 155;(with_reducible refine(HT.out _).mono ?_);rintro e w1 ⟨rfl,hb1⟩;obtain⟨hc1,hf1⟩:=zCv hb1;have hz0:w.heap.size<w1.heap.size:=Nat.lt_of_lt_of_le (by simp;omega) hb1.size;have hz1:w.heap.size+1<w1.heap.size:=Nat.lt_of_lt_of_le zs hb1.size;have HBU:Hid (Below w.heap.size w w1):=zz (Below.trans (by repeat (first|exact FIN.out _ _|refine zzt _ zs _ _ ?_|refine Below.setCell ?_ zs _)) (hb1.mono (by simp;omega)));clear hb1))
 all_goals
  go_ret;refine⟨?_,HBU.out⟩
  go_light
  first
   |(simp[zBf,zlY, *];done)
   |(simp[zBf,zlY, *];intros;omega)
theorem zDs (t:ByteArray) (n m:Int) (s:ByteArray) (l:List V) (A:Option Addr) (c:Nat) (w:World) (ht:t.size<=2097152) (hs:s.size<=2097152) :
 Calls Tryz.prog 103 #[.agg #[.int .i64 8,↑t,↑n,↑m,↑s,.slice A l.length c]] w λe w'=>e=.returned (.bool (zmm t n m s l))/\Below w.heap.size w w':=by
 have FIN:Hid (∀x y:Obj,Below w.heap.size w ((w.alloc x).alloc y)):=zz (λx y=>((Below.refl _ _).alloc (Nat.le_refl _) _).alloc zs _);have HT:=zz (λW=>zBr t W ht);have HP:=zz (λW=>zBJ s W hs);go_in;go_wp2_with (first|(go_at_call 155;(with_reducible refine(HT.out _).mono ?_);rintro e w1 ⟨rfl,hb1⟩;obtain⟨hc1,hf1⟩:=zCv hb1;have hz0:w.heap.size<w1.heap.size:=Nat.lt_of_lt_of_le (by simp;omega) hb1.size;have hz1:w.heap.size+1<w1.heap.size:=Nat.lt_of_lt_of_le zs hb1.size;have HBU:Hid (Below w.heap.size w w1):=zz (Below.trans (by repeat (first|exact FIN.out _ _|refine zzt _ zs _ _ ?_|refine Below.setCell ?_ zs _)) (hb1.mono (by simp;omega)));clear hb1)|(go_at_call 23;(with_reducible refine(HP.out _).mono ?_);rintro e w2 ⟨rfl,hb2⟩;obtain⟨hc2,hf2⟩:=zCv hb2;have HBP:Hid (Below w.heap.size w w2):=zz (HBU.out.trans (hb2.mono HBU.out.size));clear hb2))
 all_goals
  go_ret;refine⟨?_,by first|exact HBP.out|exact HBU.out⟩
  go_light
  first
   |(simp[zmm, *];done)
   |(simp[zmm, *];intros;omega)
theorem zDm (k:Int) (t:ByteArray) (n m:Int) (s:ByteArray) (l:List V) (A:Option Addr) (c:Nat) (w:World) (ht:t.size<=2097152) (hs:s.size<=2097152) :
 Calls Tryz.prog 103 #[.agg #[↑k,↑t,↑n,↑m,↑s,.slice A l.length c]] w λe w'=>e=.returned (.bool (zzw (.mk k t n m s l)))/\Below w.heap.size w w':=by
 by_cases h1:k=1
 ·subst h1;rw[show zzw (.mk 1 t n m s l)=zmu t n m s l from rfl];exact zDD t n m s l A c w
 by_cases h2:k=2
 ·subst h2;rw[show zzw (.mk 2 t n m s l)=zlV t n m s l from rfl];exact zDG t n m s l A c w
 by_cases h3:k=3
 ·subst h3;rw[show zzw (.mk 3 t n m s l)=zmb t n m s l from rfl];exact zDN t n m s l A c w
 by_cases h4:k=4
 ·subst h4;rw[show zzw (.mk 4 t n m s l)=zmE t n m s l from rfl];exact zDw t n m s l A c w
 by_cases h5:k=5
 ·subst h5;rw[show zzw (.mk 5 t n m s l)=zmv t n m s l from rfl];exact zDE t n m s l A c w
 by_cases h6:k=6
 ·subst h6;rw[show zzw (.mk 6 t n m s l)=zBc t n m s l from rfl];exact zDB t n m s l A c w ht
 by_cases h7:k=7
 ·subst h7;rw[show zzw (.mk 7 t n m s l)=zBf t n m s l from rfl];exact zDI t n m s l A c w ht
 by_cases h8:k=8
 ·subst h8;rw[show zzw (.mk 8 t n m s l)=zmm t n m s l from rfl];exact zDs t n m s l A c w ht hs
 by_cases h9:k=9
 ·subst h9;rw[show zzw (.mk 9 t n m s l)=zBa t n m s l from rfl];exact zDy t n m s l A c w
 by_cases h10:k=10
 ·subst h10;rw[show zzw (.mk 10 t n m s l)=zjg t n m s l from rfl];exact zDe t n m s l A c w
 rw[show zzw (.mk k t n m s l)=false by simp[zzw,h1,h2,h3,h4,h5,h6,h7,h8,h9,h10]];refine zDt k t n m s l A c w λj h1 h2=>?_;simp only[beq_eq_false_iff_ne];omega
mutual
def V.count:V->Nat
 |.mk _ _ _ _ _ l=>1+zzx l
def zzx:List V->Nat
 |[]=>0
 |v::r=>v.count+zzx r
end
mutual
def allN (p:V->Bool):V->Bool
 |.mk k t n m s l=>zzM p l&&p (.mk k t n m s l)
def zzM (p:V->Bool):List V->Bool
 |[]=>true
 |v::r=>allN p v&&zzM p r
end
mutual
theorem zBj:∀v:V,7*v.count<=v.bulk
 |.mk k t n m s l=>by have:=zAg l;rw[V.count,zbv];omega
theorem zAg:∀l:List V,7*zzx l<=zcl l
 |[]=>by simp[zzx]
 |v::r=>by have:=zBj v;have:=zAg r;rw[zzx,zbK];omega
end
theorem zAL:∀(l:List V) (k:Nat) (v:V),l[k]?=some v->zzx (l.take (k+1))=zzx (l.take k)+v.count
 |[],k,v,h=>by simp at h
 |x::r,0,v,h=>by simp at h;subst h;simp[zzx]
 |x::r,k+1,v,h=>by
  have:=zAL r k v (by simpa using h);rw[List.take_succ_cons,zzx,this,List.take_succ_cons,zzx];omega
theorem zAO:∀(l:List V) (k:Nat),zzx (l.take k)<=zzx l
 |[],k=>by simp
 |x::r,0=>by simp[zzx]
 |x::r,k+1=>by have:=zAO r k;rw[List.take_succ_cons,zzx,zzx];omega
theorem zBd:∀(l:List V) (i:Nat) (v:V),l[i]?=some v->v.count<=zzx l
 |[],i,v,h=>by simp at h
 |x::r,0,v,h=>by simp at h;subst h;rw[zzx];omega
 |x::r,i+1,v,h=>by have:=zBd r i v (by simpa using h);rw[zzx];omega
theorem zAZ:∀l:List V,l.length<=zzx l
 |[]=>by simp
 |.mk k t n m s l::r=>by have:=zAZ r;rw[zzx,V.count,List.length_cons];omega
theorem zAD (p:V->Bool):∀l:List V,zzM p l=true↔∀(i:Nat) (v:V),l[i]?=some v->allN p v=true
 |[]=>by simp[zzM]
 |x::r=>by
  rw[zzM,Bool.and_eq_true,zAD p r]
  constructor
  ·rintro⟨h1,h2⟩ i v hv;cases i with
   |zero=>simp at hv;subst hv;exact h1
   |succ i=>exact h2 i v (by simpa using hv)
  ·intro h;exact⟨h 0 x rfl,λi v hv=>h (i+1) v (by simpa using hv)⟩
mutual
theorem zzX (p:V->Bool):∀(v:V) (a:Nat),((zbk p v a).1=true↔v.count<=a/\allN p v=true)/\((zbk p v a).1=true->(zbk p v a).2=a-v.count)
 |.mk k t n m s l,a=>by
  have ih:=zBk p l (a-1);rw[zbk,V.count,allN]
  by_cases hc:a=0\/p (.mk k t n m s l)=false
  ·rw[if_pos hc];refine⟨⟨λh=>(by cases h),λ⟨h1,h2⟩=>?_⟩,λh=>(by cases h)⟩;rcases hc with rfl|hc
   ·omega
   ·rw[hc,Bool.and_false] at h2;cases h2
  ·rw[if_neg hc];have ha:¬a=0:=λh=>hc (.inl h)
   have hp:p (.mk k t n m s l)=true:=by
    cases h:p (.mk k t n m s l) with
    |true=>rfl
    |false=>exact absurd (.inr h) hc
   rw[hp,Bool.and_true];refine⟨⟨λh=>?_,λ⟨h1,h2⟩=>ih.1.2 ⟨zo,h2⟩⟩,λh=>?_⟩
   ·obtain⟨h1,h2⟩:=ih.1.1 h;exact⟨zo,h2⟩
   ·rw[ih.2 h];omega
theorem zBk (p:V->Bool):∀(l:List V) (a:Nat),((zbm p l a).1=true↔zzx l<=a/\zzM p l=true)/\((zbm p l a).1=true->(zbm p l a).2=a-zzx l)
 |[],a=>by rw[zbm,zzx,zzM];exact⟨⟨λ_=>⟨zo,rfl⟩,λ_=>rfl⟩,λ_=>rfl⟩
 |v::r,a=>by
  have ih:=zzX p v a;rw[zbm,zzx,zzM]
  by_cases hc:(zbk p v a).1=true
  ·have ih2:=zBk p r (zbk p v a).2;have h2:=ih.2 hc;obtain⟨h3,h4⟩:=ih.1.1 hc;rw[if_pos hc,h4,Bool.true_and];refine⟨⟨λh=>?_,λ⟨h5,h6⟩=>ih2.1.2 ⟨zo,h6⟩⟩,λh=>?_⟩
   ·obtain⟨h5,h6⟩:=ih2.1.1 h;exact⟨zo,h6⟩
   ·rw[ih2.2 h,h2];omega
  ·rw[if_neg hc];refine⟨⟨λh=>(by cases h),λ⟨h5,h6⟩=>?_⟩,λh=>(by cases h)⟩;rw[Bool.and_eq_true] at h6;exact absurd (ih.1.2 ⟨zo,h6.1⟩) hc
end
theorem zDf (v:V) (h:v.count<=16384):zzw v=zbL v:=by
 cases v with
 |mk k t n m s l=>
  rw[V.count] at h;have hl:=zAZ l;have hd:decide ((l.length:Int)<=16384)=true:=decide_eq_true zo;unfold zzw zbL zBc zBf zBa;simp only[hd,Bool.true_and]
mutual
theorem zCT:∀v:V,v.count<=16384->allN zzw v=allN zbL v
 |.mk k t n m s l,h=>by
  have h2:=zDf _ h;rw[V.count] at h;rw[allN,allN,h2,zBZ l zo]
theorem zBZ:∀l:List V,zzx l<=16384->zzM zzw l=zzM zbL l
 |[],_=>rfl
 |v::r,h=>by
  rw[zzx] at h;rw[zzM,zzM,zCT v zo,zBZ r zo]
end
theorem zDd (v:V):(decide (v.count<=16384)&&allN zzw v)=zkS zbL v:=by
 unfold zkS;have h:=(zzX zbL v 16384).1
 by_cases hc:v.count<=16384
 ·rw[decide_eq_true hc,Bool.true_and,zCT v hc,Bool.eq_iff_iff];exact⟨λh2=>h.2 ⟨hc,h2⟩,λh2=>(h.1 h2).2⟩
 ·rw[decide_eq_false hc,Bool.false_and];cases hv:(zbk zbL v 16384).1 with
  |false=>rfl
  |true=>exact absurd (h.1 hv).1 hc
theorem zBi:∀(N:Nat) (k:Int) (t:ByteArray) (n m:Int) (s:ByteArray) (l:List V) (A:Option Addr) (c:Nat) (w:World),(V.mk k t n m s l).bulk<=N->N<=2097152->Rd (Lt w.heap.size) w (vs l) (.slice A l.length c)->
 Calls Tryz.prog 27 #[.agg #[↑k,↑t,↑n,↑m,↑s,.slice A l.length c]] w λe w'=>e=.returned (.int .i64 ((V.mk k t n m s l).count:Int))/\Below w.heap.size w w':=by
 intro N
 induction N with
 |zero=>
  intro k t n m s l A c w hb;rw[zbv] at hb;omega
 |succ N ih=>
  intro k t n m s l A c w hb hN hr;rw[zbv] at hb;have hll:=zdB l;have hcb:=zAg l;have HR:=zz hr;have IH:=zz ih;clear hr ih;go_in;go_wp2
  go_loopw [3,4] (λs3 s4 wr=>∃(i q:Nat),i<=l.length/\s4=↑i/\s3=↑q/\q<=2097152/\Hid (q=1+zzx (l.take i))/\Hid (Below (w.heap.size+1) (w.alloc (.cells #[↑k,↑t,↑n,↑m,↑s,.slice A l.length c] 24)) wr)) (λ_ s4 _=>l.length-(intOf s4).toNat)
  case atStart=>exact⟨0,1,zo,rfl,rfl,zo,zz (by simp[zzx]),zz (Below.refl _ _)⟩
  case round=>
   obtain⟨i,q,hi,rfl,rfl,hq,HQ,HB⟩:=hrel;have hbx:wr.heap[w.heap.size]?=some (.cells #[↑k,↑t,↑n,↑m,↑s,.slice A l.length c] 24 (0,0)):=(HB.out.block w.heap.size zo).trans (heap_alloc_new w _);have hc5:wr.cell? ⟨w.heap.size,5,none⟩=some (.slice A l.length c):=by rw[Lib.cell_of_heap hbx];rfl
   clear hbx;have hbw:Below w.heap.size w wr:=((Below.refl w.heap.size w).alloc (Nat.le_refl _) _).trans (HB.out.mono zo)
   by_cases hlt:i<l.length
   ·obtain⟨b,off,kd,t',n',m',s',l',A',c',e,hlb,hget,h2⟩:=zrO (HR.out.belows hbw) hlt;subst e;obtain⟨c0,c1,c2,c3,c4,c5,r5⟩:=h2;have hbk:=zeK _ _ _ hget;have hct:=zBd _ _ _ hget;have hck:=zAO l (i+1);have HS:=zz (zAL _ _ _ hget);have HC:=zz (IH.out kd t' n' m' s' l' A' c' wr zo zo r5);have hqn:q+(V.mk kd t' n' m' s' l').count<=2097152:=by rw[HQ.out];have:=HS.out;omega
    have HQ2:Hid (q+(V.mk kd t' n' m' s' l').count=1+zzx (l.take (i+1))):=zz (by rw[HQ.out,HS.out];omega);obtain⟨x,hx⟩:=zn ((V.mk kd t' n' m' s' l').count);rw[hx] at HC hqn HQ2;have hwz:w.heap.size+1<=wr.heap.size:=by have:=HB.out.size;simpa using this
    clear r5 hget hx HQ HS hct hck hbw;go_wp2_with fail;refine zi HC ?_;rintro e w4 ⟨rfl,hb4⟩;have B4:=zz (HB.out.trans (hb4.mono hwz));clear hb4;go_wp2;exact⟨⟨i+1,q+x,zo,by go_num,by go_num,zo,HQ2,B4⟩,by simp[intOf];omega⟩
   ·obtain rfl:i=l.length:=zo
    have HE:Hid ((V.mk k t n m s l).count=q):=zz (by rw[V.count,HQ.out,List.take_length]);have HBW:=zz hbw;clear hbw HQ;go_wp2;go_ret;exact⟨by rw[HE.out];rfl,HBW.out⟩
theorem zCB:∀(N:Nat) (k:Int) (t:ByteArray) (n m:Int) (s:ByteArray) (l:List V) (A:Option Addr) (c:Nat) (w:World),(V.mk k t n m s l).bulk<=N->N<=2097152->Rd (Lt w.heap.size) w (vs l) (.slice A l.length c)->
 Calls Tryz.prog 58 #[.agg #[↑k,↑t,↑n,↑m,↑s,.slice A l.length c]] w λe w'=>e=.returned (.bool (allN zzw (.mk k t n m s l)))/\Below w.heap.size w w':=by
 intro N
 induction N with
 |zero=>
  intro k t n m s l A c w hb;rw[zbv] at hb;omega
 |succ N ih=>
  intro k t n m s l A c w hb hN hr;rw[zbv] at hb;have hll:=zdB l;have HR:=zz hr;have IH:=zz ih;have HU:Hid (allN zzw (.mk k t n m s l)=(zzM zzw l&&zzw (.mk k t n m s l))):=zz (by rw[allN]);have HND:=zz (λW=>zDm k t n m s l A c W zo zo);generalize allN zzw (.mk k t n m s l)=R at *
  generalize zzw (.mk k t n m s l)=RN at *
  clear hr ih;go_in;go_wp2
  go_loopw [3] (λs3 wr=>∃(i:Nat),i<=l.length/\s3=↑i/\Hid (∀(j:Nat) (v:V),j<i->l[j]?=some v->allN zzw v=true)/\Hid (Below (w.heap.size+1) (w.alloc (.cells #[↑k,↑t,↑n,↑m,↑s,.slice A l.length c] 24)) wr)) (λs3 _=>l.length-(intOf s3).toNat)
  case atStart=>exact⟨0,zo,rfl,zz (λj v h=>absurd h zo),zz (Below.refl _ _)⟩
  case round=>
   obtain⟨i,hi,rfl,HQ,HB⟩:=hrel;have hbx:wr.heap[w.heap.size]?=some (.cells #[↑k,↑t,↑n,↑m,↑s,.slice A l.length c] 24 (0,0)):=(HB.out.block w.heap.size zo).trans (heap_alloc_new w _);have hc5:wr.cell? ⟨w.heap.size,5,none⟩=some (.slice A l.length c):=by rw[Lib.cell_of_heap hbx];rfl
   have hbw:Below w.heap.size w wr:=((Below.refl w.heap.size w).alloc (Nat.le_refl _) _).trans (HB.out.mono zo);have hwz:w.heap.size+1<=wr.heap.size:=by have:=HB.out.size;simpa using this
   by_cases hlt:i<l.length
   ·clear hbx;obtain⟨b,off,kd,t',n',m',s',l',A',c',e,hlb,hget,h2⟩:=zrO (HR.out.belows hbw) hlt;subst e;obtain⟨c0,c1,c2,c3,c4,c5,r5⟩:=h2;have hbk:=zeK _ _ _ hget;have HC:=zz (IH.out kd t' n' m' s' l' A' c' wr zo zo r5);have HG:=zz hget;have HBW:=zz hbw;clear r5 hget hbw;cases hq:allN zzw (.mk kd t' n' m' s' l') with
    |false=>
     have HE:Hid (R=false):=zz (by
      rw[HU.out];cases hA:zzM zzw l with
      |false=>rfl
      |true=>
       have:=(zAD zzw l).1 hA i _ HG.out;rw[hq] at this;cases this)
     rw[hq] at HC;clear hq;go_wp2_with fail;refine zi HC ?_;rintro e w4 ⟨rfl,hb4⟩;have B4:=zz (HBW.out.trans (hb4.mono HBW.out.size));clear hb4;go_wp2;go_ret;exact⟨by rw[HE.out];rfl,B4.out⟩
    |true=>
     have HQ2:Hid (∀(j:Nat) (v:V),j<i+1->l[j]?=some v->allN zzw v=true):=zz (λj v hj hv=>by
      rcases Nat.lt_or_eq_of_le (Nat.lt_succ_iff.1 hj) with h|h
      ·exact HQ.out j v h hv
      ·subst h;rw[HG.out] at hv;rw[<-Option.some.inj hv];exact hq)
     rw[hq] at HC;clear hq HBW;go_wp2_with fail;refine zi HC ?_;rintro e w4 ⟨rfl,hb4⟩;have B4:=zz (HB.out.trans (hb4.mono hwz));clear hb4;go_wp2;exact⟨⟨i+1,zo,by go_num,HQ2,B4⟩,by simp[intOf];omega⟩
   ·obtain rfl:i=l.length:=zo
    have HE:Hid (R=RN):=zz (by
     have hA:zzM zzw l=true:=(zAD zzw l).2 (λj v hv=>HQ.out j v (List.getElem?_eq_some_iff.1 hv).1 hv);rw[HU.out,hA,Bool.true_and])
    have HBW:=zz hbw;have q0:wr.cell? ⟨w.heap.size,0,none⟩=some ↑k:=by rw[Lib.cell_of_heap hbx];rfl
    have q1:wr.cell? ⟨w.heap.size,1,none⟩=some ↑t:=by rw[Lib.cell_of_heap hbx];rfl
    have q2:wr.cell? ⟨w.heap.size,2,none⟩=some ↑n:=by rw[Lib.cell_of_heap hbx];rfl
    have q3:wr.cell? ⟨w.heap.size,3,none⟩=some ↑m:=by rw[Lib.cell_of_heap hbx];rfl
    have q4:wr.cell? ⟨w.heap.size,4,none⟩=some ↑s:=by rw[Lib.cell_of_heap hbx];rfl
    clear hbw HQ hbx;go_wp2_with fail;(with_reducible refine(HND.out _).mono ?_);rintro e w4 ⟨rfl,hb4⟩;have B4:=zz (HBW.out.trans (hb4.mono HBW.out.size));clear hb4;go_wp2;go_ret;exact⟨by rw[HE.out];rfl,B4.out⟩
def tkS:Nat->RS->Nat->Option (V × RS × Nat)
 |0,_,_=>none
 |F+1,r,left=>if left=0\/r.s.size=0 then none else
  (zcn (tkS F) (numV (hd5 r)) (hd6 r) (left-1)).map λp=>(.mk (numV r) (zoJ (hd1 r)) (intV (hd2 r)) (intV (hd3 r)) (zoJ (hd4 r)) p.1,p.2.1,p.2.2)
theorem zCh:∀(F:Nat) (r:RS) (left:Nat) (v:V) (r':RS) (l':Nat),tkS F r left=some (v,r',l')->l'<=left/\r'.s.size<=r.s.size
 |0,_,_,_,_,_,h=>by rw[tkS] at h;cases h
 |F+1,r,left,v,r',l',h=>by
  rw[tkS] at h
  split at h
  ·cases h
  ·cases h2:zcn (tkS F) (numV (hd5 r)) (hd6 r) (left-1) with
   |none=>rw[h2] at h;cases h
   |some q=>
    obtain⟨l2,r2,k2⟩:=q;rw[h2] at h;cases h;have e1:=zvE (zCh F) _ _ _ _ _ _ h2;have e2:=zxP r
    show k2<=left/\r2.s.size<=r.s.size
    omega
theorem zDT {F:Nat} {r:RS} {left:Nat} {v:V} {r':RS} {l':Nat} (h:tkS F r left=some (v,r',l')):l'<left:=by
 cases F with
 |zero=>rw[tkS] at h;cases h
 |succ F=>
  rw[tkS] at h
  split at h
  ·cases h
  ·rename_i hn;cases h2:zcn (tkS F) (numV (hd5 r)) (hd6 r) (left-1) with
   |none=>rw[h2] at h;cases h
   |some q=>
    obtain⟨l2,r2,k2⟩:=q;rw[h2] at h;cases h;have e1:=zvE (zCh F) _ _ _ _ _ _ h2;have e0:left≠0:=λh=>hn (.inl h)
    show k2<left
    omega
def Gone (r:RS):Prop:=r.f=true/\r.s.size=0
def zDQ (d t:RS->Nat->Option (V × RS × Nat)):Prop:=∀r left,t r left=d r left\/d r left=none/\∃v r' l',t r left=some (v,r',l')/\Gone r'
theorem zAh {d t:RS->Nat->Option (V × RS × Nat)} (h:zDQ d t) (ht:∀r left,r.s.size=0->t r left=none):∀(c:Nat) (r:RS) (left:Nat),
 zcn t c r left=zcn d c r left\/zcn d c r left=none/\∃l r' l',zcn t c r left=some (l,r',l')/\Gone r'
 |0,r,left=>.inl rfl
 |c+1,r,left=>by
  rw[zcn,zcn];rcases h r left with e|⟨e,v,r',l',e',hg⟩
  ·rw[e];cases h1:d r left with
   |none=>exact .inl rfl
   |some p=>
    obtain⟨v,r1,l1⟩:=p;rw[Option.bind_some,Option.bind_some];rcases zAh h ht c r1 l1 with e2|⟨e2,l,r',l',e3,hg⟩
    ·left;show Option.map _ (zcn t c r1 l1)=Option.map _ (zcn d c r1 l1);rw[e2]
    ·right
     refine⟨?_,v::l,r',l',?_,hg⟩
     ·show Option.map _ (zcn d c r1 l1)=none;rw[e2];rfl
     ·show Option.map _ (zcn t c r1 l1)=_;rw[e3];rfl
  ·rw[e,e',Option.bind_some];cases c with
   |zero=>exact .inr ⟨rfl,[v],r',l',rfl,hg⟩
   |succ c=>
    left
    show Option.map _ (zcn t (c+1) r' l')=_
    rw[zcn,ht _ _ hg.2];rfl
theorem zAv {d:RS->Nat->Option (V × RS × Nat)} (hd:∀r left v r' l',d r left=some (v,r',l')->l'<left):∀(c:Nat) (r:RS) (left:Nat),left<c->zcn d c r left=none
 |0,_,_,h=>absurd h (Nat.not_lt_zero _)
 |c+1,r,left,h=>by
  rw[zcn];cases h1:d r left with
  |none=>rfl
  |some p=>
   obtain⟨v,r1,l1⟩:=p;rw[Option.bind_some];have h2:=hd _ _ _ _ _ h1
   show Option.map _ (zcn d c r1 l1)=none
   rw[zAv hd c r1 l1 zo];rfl
theorem zzP {r:RS} (h0:r.s.size=0) (h:zti r=false):Gone r:=by
 refine⟨?_,h0⟩;unfold zti at h;cases hf:r.f with
 |true=>rfl
 |false=>
  rw[hf,ByteArray.toList_eq] at h;have h1:=zai r.s;rw[h0] at h1;rw[List.eq_nil_of_length_eq_zero h1] at h;cases h
theorem zAQ (F:Nat) (r:RS) (left:Nat) (h:r.s.size=0):tkS F r left=none:=by
 cases F with
 |zero=>rfl
 |succ F=>rw[tkS,if_pos (.inr h)]
theorem zAW:∀F:Nat,zDQ (decS F) (tkS F)
 |0=>λ_ _=>.inl rfl
 |F+1=>λr left=>by
  rw[tkS,decS]
  by_cases h0:left=0\/r.s.size=0
  ·rw[if_pos h0,if_pos h0];exact .inl rfl
  ·rw[if_neg h0,if_neg h0];cases hh:zqK r (left-1) with
   |false=>
    rw[if_neg zs];rcases zAh (zAW F) (zAQ F) (numV (hd5 r)) (hd6 r) (left-1) with e|⟨e,l,r',l',e',hg⟩
    ·rw[e];exact .inl rfl
    ·rw[e,e'];exact .inr ⟨rfl,_,_,_,rfl,hg⟩
   |true=>
    rw[if_pos rfl];unfold zqK at hh;rw[Bool.or_eq_true,Bool.and_eq_true] at hh;rcases hh with ⟨h1,h2⟩|h1
    ·have hg:Gone (hd6 r):=zzP (by simpa using h1) (by simpa using h2);cases hc:numV (hd5 r) with
     |zero=>rw[zcn];exact .inr ⟨rfl,_,_,_,rfl,hg⟩
     |succ c=>left;rw[zcn,zAQ _ _ _ hg.2];rfl
    ·left
     rw[zAv (λ_ _ _ _ _ h=>zDT h) _ _ _ (of_decide_eq_true h1)];rfl
def zDP (r:RS):Option (V × RS):=(tkS 16385 r 16384).bind λp=>if p.2.1.s.size=0/\zti p.2.1=false then none else if zkS zbL p.1 then some (p.1,p.2.1) else none
theorem zAi {r:RS} (h:Gone r):r.s.size=0/\zti r=false:=⟨h.2,by unfold zti;rw[h.1];rfl⟩
theorem zDq {r:RS} (hf:Sane r) (hz:r.s.size<=4294967296):zDP r=zub r:=by
 unfold zDP zub;rcases zAW 16385 r 16384 with e|⟨e,v,r',l',e',hg⟩
 ·rw[e];cases h:decS 16385 r 16384 with
  |none=>rfl
  |some p=>
   obtain⟨v,r',l'⟩:=p;rw[Option.bind_some,Option.bind_some]
   have hf0:r.f=false:=by
    rcases hf with hf|hf
    ·exact hf
    ·rw[decS,if_pos (.inr hf)] at h;cases h
   have hfine:=zwd _ _ _ _ _ _ hf0 hz h
   have hn:¬(r'.s.size=0/\zti r'=false):=λhg=>by
    have:=(zzP hg.1 hg.2).1;rw[hfine.1] at this;cases this
   show (if r'.s.size=0/\zti r'=false then none else _)=_
   rw[if_neg hn]
 ·rw[e,e',Option.bind_some,if_pos (zAi hg)];rfl
end Go.Proofs.YtcebmphappfjjaaGreatDoor
