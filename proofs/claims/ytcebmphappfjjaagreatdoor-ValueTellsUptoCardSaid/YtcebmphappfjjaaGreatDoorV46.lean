/- Conditions: those in each statement. -/
import Derived.Test.YtcebmphappfjjaaGreatDoorV30
import Derived.Test.YtcebmphappfjjaaGreatDoorV42
import Derived.Test.YtcebmphappfjjaaGreatDoorV26
set_option maxHeartbeats 32000000
set_option maxRecDepth 100000
namespace Go.Proofs.YtcebmphappfjjaaGreatDoor
open Go.RowKit
theorem zCF (s:ByteArray) (w:World) (hs:s.size<=2097152):Calls Tryz.prog 191 #[↑s] w λe w'=>e=.returned (.bool (zdV s))/\w=w':=by
 rcases Nat.eq_zero_or_pos s.size with h0|h0
 ·have HE:Hid (zdV s=false):=zz (by unfold zdV;simp;omega);have he:s.toList=[]:=by rw[ByteArray.toList_eq];exact List.eq_nil_of_length_eq_zero (by rw[zai];exact h0)
  have hemp:s.toList.isEmpty=true:=by simpa using he
  go_in;go_wp2
  go_loopw [3] (λs3 wr=>s3=↑()/\wr=w) (λ_ _=>0)
  case atStart=>exact⟨rfl,rfl⟩
  case round=>
   obtain⟨rfl,rfl⟩:=hrel;have hz:¬(0:Int)<s.size:=zo
   go_wp2;go_ret;exact⟨by rw[HE.out];first|rfl|simp[he],rfl⟩
 ·have hne:¬s.toList=[]:=λh=>by
   rw[ByteArray.toList_eq] at h;have:=zai s;rw[h] at this;simp at this;omega
  have hemp:s.toList.isEmpty=false:=by simpa using hne
  have hi0:(Instr.index 9 ↑s ↑()).run Tryz.prog w=.ok (.int .u8 (zak s 0)) w:=by simpa using zaP s 0 h0 w
  have hr0:=zbt s 0;have HI:=zz (zaP s);have HT:Hid (zdV s=decide (0<s.size/\65<=zak s 0/\zak s 0<=90/\∀i,i<s.size->zdj (zak s i)=true)):=zz rfl;generalize zdV s=R at *
  go_in;go_wp2
  go_loopw [3] (λs3 wr=>∃(i:Nat),i<=s.size/\s3=↑i/\Hid ((∀j,j<i->zdj (zak s j)=true)/\(0<i->65<=zak s 0/\zak s 0<=90\/97<=zak s 0/\zak s 0<=122))/\wr=w) (λs3 _=>s.size-(intOf s3).toNat)
  case atStart=>exact⟨0,zo,rfl,zz ⟨λj hj=>absurd hj zo,λh=>absurd h zo⟩,rfl⟩
  case round=>
   obtain⟨i,hi,rfl,HN,rfl⟩:=hrel
   by_cases hlt:i<s.size
   ·have hix:=HI.out i hlt wr;have hr:=zbt s i
    have HS:Hid (zdj (zak s i)=true->(i=0->65<=zak s i/\zak s i<=90\/97<=zak s i/\zak s i<=122)->(∀j,j<i+1->zdj (zak s j)=true)/\(0<i+1->65<=zak s 0/\zak s 0<=90\/97<=zak s 0/\zak s 0<=122)):=zz (λh hl=>⟨λj hj=>by
     rcases Nat.lt_or_eq_of_le (Nat.lt_succ_iff.1 hj) with h2|h2
     ·exact HN.out.1 j h2
     ·subst h2;exact h,λ_=>by
     rcases Nat.eq_zero_or_pos i with h2|h2
     ·have:=hl h2;rwa [h2] at this
     ·exact HN.out.2 h2⟩)
    have HF:Hid ((zdj (zak s i)=false\/i=0/\¬(65<=zak s i/\zak s i<=90\/97<=zak s i/\zak s i<=122))->R=false):=zz (λh=>by
     rw[HT.out];rw[decide_eq_false];rintro⟨_,h3,h4,h2⟩;rcases h with h|⟨rfl,h⟩
     ·rw[h2 i hlt] at h;cases h
     ·exact h (.inl ⟨h3,h4⟩))
    obtain⟨X,hX⟩:=zn (zak s i);rw[hX] at hix hr HS HF;have HC:Hid (zdj X=decide (97<=X/\X<=122\/65<=X/\X<=90\/48<=X/\X<=57\/X=95)):=zz rfl;have HF:Hid (¬(97<=X/\X<=122\/65<=X/\X<=90\/48<=X/\X<=57\/X=95)\/i=0/\¬(65<=X/\X<=90\/97<=X/\X<=122)->R=false):=zz (λh=>HF.out (h.elim (λh=>.inl (by rw[HC.out];exact decide_eq_false h)) .inr));clear hX HN hi0;rcases Nat.eq_zero_or_pos i with hz|hz
    ·subst hz;have hix:(Instr.index 9 ↑s ↑()).run Tryz.prog wr=.ok (.int .u8 X) wr:=by simpa using hix
     rcases (show X<48\/(48<=X/\X<=57)\/(58<=X/\X<=64)\/(65<=X/\X<=90)\/(91<=X/\X<=94)\/(95<=X/\X<=95)\/(96<=X/\X<=96)\/(97<=X/\X<=122)\/122<X by omega) with h|⟨h,h'⟩|⟨h,h'⟩|⟨h,h'⟩|⟨h,h'⟩|⟨h,h'⟩|⟨h,h'⟩|⟨h,h'⟩|h
     ·have k97:¬97<=X:=zo
      have k65:¬65<=X:=zo
      have k48:¬48<=X:=zo
      have k122:X<=122:=zo
      have k90:X<=90:=zo
      have k57:X<=57:=zo
      have h95:(X == 95)=false:=by simp;omega
      have n95:(X != 95)=true:=by simp;omega
      have j48:X<48:=zo
      have j57:¬57<X:=zo
      have HY:=zz (HF.out zo);clear HS HF HC;go_wp2
      all_goals first
       |(exfalso;omega)
       |(go_ret;exact⟨by rw[HY.out];rfl,rfl⟩)
     ·have k97:¬97<=X:=zo
      have k65:¬65<=X:=zo
      have k48:48<=X:=zo
      have k122:X<=122:=zo
      have k90:X<=90:=zo
      have k57:X<=57:=zo
      have h95:(X == 95)=false:=by simp;omega
      have n95:(X != 95)=true:=by simp;omega
      have j48:¬X<48:=zo
      have j57:¬57<X:=zo
      have HY:=zz (HF.out zo);clear HS HF HC;go_wp2
      all_goals first
       |(exfalso;omega)
       |(go_ret;exact⟨by rw[HY.out];rfl,rfl⟩)
     ·have k97:¬97<=X:=zo
      have k65:¬65<=X:=zo
      have k48:48<=X:=zo
      have k122:X<=122:=zo
      have k90:X<=90:=zo
      have k57:¬X<=57:=zo
      have h95:(X == 95)=false:=by simp;omega
      have n95:(X != 95)=true:=by simp;omega
      have j48:¬X<48:=zo
      have j57:57<X:=zo
      have HY:=zz (HF.out zo);clear HS HF HC;go_wp2
      all_goals first
       |(exfalso;omega)
       |(go_ret;exact⟨by rw[HY.out];rfl,rfl⟩)
     ·have k97:¬97<=X:=zo
      have k65:65<=X:=zo
      have k48:48<=X:=zo
      have k122:X<=122:=zo
      have k90:X<=90:=zo
      have k57:¬X<=57:=zo
      have h95:(X == 95)=false:=by simp;omega
      have n95:(X != 95)=true:=by simp;omega
      have j48:¬X<48:=zo
      have j57:57<X:=zo
      have HY:=zz (HS.out (by rw[HC.out];exact decide_eq_true zo) (λ_=>by omega));clear HS HF HC;go_wp2
      all_goals first
       |(exfalso;omega)
       |exact⟨⟨1,zo,by first|rfl|go_num,HY,trivial⟩,by simp[intOf];omega⟩
     ·have k97:¬97<=X:=zo
      have k65:65<=X:=zo
      have k48:48<=X:=zo
      have k122:X<=122:=zo
      have k90:¬X<=90:=zo
      have k57:¬X<=57:=zo
      have h95:(X == 95)=false:=by simp;omega
      have n95:(X != 95)=true:=by simp;omega
      have j48:¬X<48:=zo
      have j57:57<X:=zo
      have HY:=zz (HF.out zo);clear HS HF HC;go_wp2
      all_goals first
       |(exfalso;omega)
       |(go_ret;exact⟨by rw[HY.out];rfl,rfl⟩)
     ·have k97:¬97<=X:=zo
      have k65:65<=X:=zo
      have k48:48<=X:=zo
      have k122:X<=122:=zo
      have k90:¬X<=90:=zo
      have k57:¬X<=57:=zo
      have h95:(X == 95)=true:=by simp;omega
      have n95:(X != 95)=false:=by simp;omega
      have j48:¬X<48:=zo
      have j57:57<X:=zo
      have HY:=zz (HF.out zo);clear HS HF HC;go_wp2
      all_goals first
       |(exfalso;omega)
       |(go_ret;exact⟨by rw[HY.out];rfl,rfl⟩)
     ·have k97:¬97<=X:=zo
      have k65:65<=X:=zo
      have k48:48<=X:=zo
      have k122:X<=122:=zo
      have k90:¬X<=90:=zo
      have k57:¬X<=57:=zo
      have h95:(X == 95)=false:=by simp;omega
      have n95:(X != 95)=true:=by simp;omega
      have j48:¬X<48:=zo
      have j57:57<X:=zo
      have HY:=zz (HF.out zo);clear HS HF HC;go_wp2
      all_goals first
       |(exfalso;omega)
       |(go_ret;exact⟨by rw[HY.out];rfl,rfl⟩)
     ·have k97:97<=X:=zo
      have k65:65<=X:=zo
      have k48:48<=X:=zo
      have k122:X<=122:=zo
      have k90:¬X<=90:=zo
      have k57:¬X<=57:=zo
      have h95:(X == 95)=false:=by simp;omega
      have n95:(X != 95)=true:=by simp;omega
      have j48:¬X<48:=zo
      have j57:57<X:=zo
      have HY:=zz (HS.out (by rw[HC.out];exact decide_eq_true zo) (λ_=>by omega));clear HS HF HC;go_wp2
      all_goals first
       |(exfalso;omega)
       |exact⟨⟨1,zo,by first|rfl|go_num,HY,trivial⟩,by simp[intOf];omega⟩
     ·have k97:97<=X:=zo
      have k65:65<=X:=zo
      have k48:48<=X:=zo
      have k122:¬X<=122:=zo
      have k90:¬X<=90:=zo
      have k57:¬X<=57:=zo
      have h95:(X == 95)=false:=by simp;omega
      have n95:(X != 95)=true:=by simp;omega
      have j48:¬X<48:=zo
      have j57:57<X:=zo
      have HY:=zz (HF.out zo);clear HS HF HC;go_wp2
      all_goals first
       |(exfalso;omega)
       |(go_ret;exact⟨by rw[HY.out];rfl,rfl⟩)
    ·have hzb:((i:Int) == 0)=false:=by simp;omega
     rcases (show X<48\/(48<=X/\X<=57)\/(58<=X/\X<=64)\/(65<=X/\X<=90)\/(91<=X/\X<=94)\/(95<=X/\X<=95)\/(96<=X/\X<=96)\/(97<=X/\X<=122)\/122<X by omega) with h|⟨h,h'⟩|⟨h,h'⟩|⟨h,h'⟩|⟨h,h'⟩|⟨h,h'⟩|⟨h,h'⟩|⟨h,h'⟩|h
     ·have k97:¬97<=X:=zo
      have k65:¬65<=X:=zo
      have k48:¬48<=X:=zo
      have k122:X<=122:=zo
      have k90:X<=90:=zo
      have k57:X<=57:=zo
      have h95:(X == 95)=false:=by simp;omega
      have n95:(X != 95)=true:=by simp;omega
      have j48:X<48:=zo
      have j57:¬57<X:=zo
      have HY:=zz (HF.out zo);clear HS HF HC;go_wp2
      all_goals first
       |(exfalso;omega)
       |(go_ret;exact⟨by rw[HY.out];rfl,rfl⟩)
     ·have k97:¬97<=X:=zo
      have k65:¬65<=X:=zo
      have k48:48<=X:=zo
      have k122:X<=122:=zo
      have k90:X<=90:=zo
      have k57:X<=57:=zo
      have h95:(X == 95)=false:=by simp;omega
      have n95:(X != 95)=true:=by simp;omega
      have j48:¬X<48:=zo
      have j57:¬57<X:=zo
      have HY:=zz (HS.out (by rw[HC.out];exact decide_eq_true zo) (λh=>absurd h zo));clear HS HF HC;go_wp2
      all_goals first
       |(exfalso;omega)
       |exact⟨⟨i+1,zo,by first|rfl|go_num,HY,trivial⟩,by simp[intOf];omega⟩
     ·have k97:¬97<=X:=zo
      have k65:¬65<=X:=zo
      have k48:48<=X:=zo
      have k122:X<=122:=zo
      have k90:X<=90:=zo
      have k57:¬X<=57:=zo
      have h95:(X == 95)=false:=by simp;omega
      have n95:(X != 95)=true:=by simp;omega
      have j48:¬X<48:=zo
      have j57:57<X:=zo
      have HY:=zz (HF.out zo);clear HS HF HC;go_wp2
      all_goals first
       |(exfalso;omega)
       |(go_ret;exact⟨by rw[HY.out];rfl,rfl⟩)
     ·have k97:¬97<=X:=zo
      have k65:65<=X:=zo
      have k48:48<=X:=zo
      have k122:X<=122:=zo
      have k90:X<=90:=zo
      have k57:¬X<=57:=zo
      have h95:(X == 95)=false:=by simp;omega
      have n95:(X != 95)=true:=by simp;omega
      have j48:¬X<48:=zo
      have j57:57<X:=zo
      have HY:=zz (HS.out (by rw[HC.out];exact decide_eq_true zo) (λh=>absurd h zo));clear HS HF HC;go_wp2
      all_goals first
       |(exfalso;omega)
       |exact⟨⟨i+1,zo,by first|rfl|go_num,HY,trivial⟩,by simp[intOf];omega⟩
     ·have k97:¬97<=X:=zo
      have k65:65<=X:=zo
      have k48:48<=X:=zo
      have k122:X<=122:=zo
      have k90:¬X<=90:=zo
      have k57:¬X<=57:=zo
      have h95:(X == 95)=false:=by simp;omega
      have n95:(X != 95)=true:=by simp;omega
      have j48:¬X<48:=zo
      have j57:57<X:=zo
      have HY:=zz (HF.out zo);clear HS HF HC;go_wp2
      all_goals first
       |(exfalso;omega)
       |(go_ret;exact⟨by rw[HY.out];rfl,rfl⟩)
     ·have k97:¬97<=X:=zo
      have k65:65<=X:=zo
      have k48:48<=X:=zo
      have k122:X<=122:=zo
      have k90:¬X<=90:=zo
      have k57:¬X<=57:=zo
      have h95:(X == 95)=true:=by simp;omega
      have n95:(X != 95)=false:=by simp;omega
      have j48:¬X<48:=zo
      have j57:57<X:=zo
      have HY:=zz (HS.out (by rw[HC.out];exact decide_eq_true zo) (λh=>absurd h zo));clear HS HF HC;go_wp2
      all_goals first
       |(exfalso;omega)
       |exact⟨⟨i+1,zo,by first|rfl|go_num,HY,trivial⟩,by simp[intOf];omega⟩
     ·have k97:¬97<=X:=zo
      have k65:65<=X:=zo
      have k48:48<=X:=zo
      have k122:X<=122:=zo
      have k90:¬X<=90:=zo
      have k57:¬X<=57:=zo
      have h95:(X == 95)=false:=by simp;omega
      have n95:(X != 95)=true:=by simp;omega
      have j48:¬X<48:=zo
      have j57:57<X:=zo
      have HY:=zz (HF.out zo);clear HS HF HC;go_wp2
      all_goals first
       |(exfalso;omega)
       |(go_ret;exact⟨by rw[HY.out];rfl,rfl⟩)
     ·have k97:97<=X:=zo
      have k65:65<=X:=zo
      have k48:48<=X:=zo
      have k122:X<=122:=zo
      have k90:¬X<=90:=zo
      have k57:¬X<=57:=zo
      have h95:(X == 95)=false:=by simp;omega
      have n95:(X != 95)=true:=by simp;omega
      have j48:¬X<48:=zo
      have j57:57<X:=zo
      have HY:=zz (HS.out (by rw[HC.out];exact decide_eq_true zo) (λh=>absurd h zo));clear HS HF HC;go_wp2
      all_goals first
       |(exfalso;omega)
       |exact⟨⟨i+1,zo,by first|rfl|go_num,HY,trivial⟩,by simp[intOf];omega⟩
     ·have k97:97<=X:=zo
      have k65:65<=X:=zo
      have k48:48<=X:=zo
      have k122:¬X<=122:=zo
      have k90:¬X<=90:=zo
      have k57:¬X<=57:=zo
      have h95:(X == 95)=false:=by simp;omega
      have n95:(X != 95)=true:=by simp;omega
      have j48:¬X<48:=zo
      have j57:57<X:=zo
      have HY:=zz (HF.out zo);clear HS HF HC;go_wp2
      all_goals first
       |(exfalso;omega)
       |(go_ret;exact⟨by rw[HY.out];rfl,rfl⟩)
   ·obtain rfl:i=s.size:=zo
    obtain⟨X0,hX0⟩:=zn (zak s 0);rw[hX0] at hi0 hr0
    have HY:Hid (R=decide (X0<=90)):=zz (by
     rw[HT.out,hX0,decide_eq_decide];have h2:=HN.out.2 h0;rw[hX0] at h2
     constructor
     ·rintro⟨_,_,h4,_⟩;exact h4
     ·intro h4;exact⟨h0,zo,h4,HN.out.1⟩)
    clear hX0 HN;go_wp2;go_ret;exact⟨by rw[HY.out];first|rfl|simp[hne],rfl⟩
theorem zBx (s:ByteArray) (w:World) (hs:s.size<=2097152):Calls Tryz.prog 143 #[.agg #[.int .i64 6,↑s,.slice none 0 0]] w λe w'=>e=.returned (.bool (zdV s))/\Below w.heap.size w w':=by
 have HC:=zz (λW=>zCF s W hs);generalize zdV s=R at *
 go_in;go_wp2
 go_loopw [3] (λs3 wr=>s3=↑()/\wr=w.alloc (.cells #[.int .i64 6,↑s,.slice none 0 0] 70)) (λ_ _=>0)
 case atStart=>exact⟨rfl,rfl⟩
 case round=>
  obtain⟨rfl,rfl⟩:=hrel;cases R with
  |false=>
   go_wp2_with (go_at_call 191;(with_reducible refine(HC.out _).mono ?_);rintro e w1 ⟨rfl,rfl⟩);go_ret;exact⟨rfl,(Below.refl _ _).alloc (Nat.le_refl _) _⟩
  |true=>
   go_wp2_with (go_at_call 191;(with_reducible refine(HC.out _).mono ?_);rintro e w1 ⟨rfl,rfl⟩);go_ret;exact⟨rfl,(Below.refl _ _).alloc (Nat.le_refl _) _⟩
theorem zBr (s:ByteArray) (w:World) (hs:s.size<=2097152):Calls Tryz.prog 155 #[↑s] w λe w'=>e=.returned (.bool (zdV s))/\Below w.heap.size w w':=by
 have HC:=zz (zBx s w hs);go_in;go_wp2_with fail;refine zi HC ?_;rintro e w1 ⟨rfl,hb⟩;have HB:=zz hb;clear hb;go_wp2;go_ret;exact⟨rfl,HB.out⟩
theorem zDk (n:Int) (w:World):Calls Tryz.prog 154 #[↑n] w λe w'=>e=.returned (.bool (inR n))/\w=w':=by
 by_cases h:-9007199254740992<=n/\n<=9007199254740992
 ·have HE:Hid (inR n=true):=zz (decide_eq_true h);obtain⟨h0,h1⟩:=h;go_in;go_wp2;go_ret;exact⟨by rw[HE.out];rfl,rfl⟩
 ·have HE:Hid (inR n=false):=zz (decide_eq_false h);rcases (show n < -9007199254740992\/9007199254740992<n by omega) with hx|hx
  all_goals
   clear h;go_in;go_wp2;go_ret;exact⟨by rw[HE.out];first|rfl|(simp;omega),rfl⟩
theorem zBg (b:Nat) (r:RS) (w:World) (h:R2At w b r) (hs:r.s.size<=4294967296):Calls Tryz.prog 96 #[.pointer (some ⟨b,0,none⟩)] w (zzS b (zmM r) (.string (zoJ r)) w):=by
 have HN:=zz (zAn b r w h hs);have hz:=zuO r;clear h;unfold zmM zoJ;obtain⟨R,hR⟩:=zn (numR r);obtain⟨V,hV⟩:=zn (numV r);rw[hR,hV] at HN;rw[hR] at hz;rw[hR,hV];clear hR hV;go_in;go_wp2_with fail;refine zi HN ?_;rintro e w1 ⟨rfl,hc1,hr1⟩;have HC:=zz hc1;have HT:=zz (zzB b R (V:Int) w1 hr1 zo);clear hc1 hr1;go_wp2_with fail;refine zi HT ?_;rintro e w2 ⟨rfl,hc2,hr2⟩;have HC2:=zz (HC.out.next hc2);have HR2:=zz hr2;clear hc2 hr2;go_wp2;go_ret;exact⟨rfl,HC2.out,HR2.out⟩
theorem zBG (b:Nat) (r:RS) (w:World) (h:R2At w b r) (hs:r.s.size<=4294967296):Calls Tryz.prog 97 #[.pointer (some ⟨b,0,none⟩)] w (zzS b (intR r) (.int .i64 (intV r)) w):=by
 have HN:=zz (zAn b r w h hs);have hv:=zwz r;clear h;unfold intR intV;obtain⟨R,hR⟩:=zn (numR r);obtain⟨z,hV⟩:=zn (numV r);rw[hR,hV] at HN;rw[hV] at hv;rw[hR,hV];clear hR hV;have hz0:(0:Int)<=z:=zo
 have hz1:(z:Int)<=9223372036854775807:=zo
 obtain⟨q,hq0⟩:=zn (z / 2);have hq:(z:Int) / 2=(q:Int):=zo
 have hq1:(q:Int)<=4611686018427387904:=zo
 by_cases h2:z % 2=1
 ·have hm:((z:Int) % 2 == 1)=true:=by simp;omega
  by_cases h3:(1152921504606846976:Int)<=(q:Int)
  ·have HB:Hid ((if zmW z then RS.bad else R)=RS.bad/\(if zmW z then 0 else zig z)=0):=zz (by
    have hz:zig z=-(q:Int)-1:=by unfold zig;rw[if_pos h2,hq0]
    have hi:zmW z=true:=by unfold zmW;rw[hz];simp;omega
    rw[hi];exact⟨rfl,rfl⟩)
   rw[HB.out.1,HB.out.2];clear hq0 h2 HB;go_in;go_wp2_with fail;refine zi HN ?_;rintro e w1 ⟨rfl,hc1,hr1⟩;have HC:=zz hc1;have HR:=zz hr1;clear hc1 hr1;have HF:=zz (zzY b R w1 HR.out);go_wp2_with fail;refine zi HF ?_;rintro e w2 ⟨rfl,hc2,hr2⟩;have HC2:=zz (HC.out.next hc2);have HR2:=zz hr2;clear hc2 hr2;go_wp2;go_ret;exact⟨rfl,HC2.out,HR2.out⟩
  ·have HB:Hid ((if zmW z then RS.bad else R)=R/\(if zmW z then 0 else zig z)=-(q:Int)-1):=zz (by
    have hz:zig z=-(q:Int)-1:=by unfold zig;rw[if_pos h2,hq0]
    have hi:zmW z=false:=by unfold zmW;rw[hz];simp;omega
    rw[hi];exact⟨rfl,hz⟩)
   rw[HB.out.1,HB.out.2];have h4:(q:Int)<=1152921504606846975:=zo
   clear hq0 h2 HB h3;go_in;go_wp2_with fail;refine zi HN ?_;rintro e w1 ⟨rfl,hc1,hr1⟩;have HC:=zz hc1;have HR:=zz hr1;clear hc1 hr1;go_wp2;go_ret;exact⟨rfl,HC.out,HR.out⟩
 ·have hm:((z:Int) % 2 == 1)=false:=by simp;omega
  by_cases h3:(1152921504606846976:Int)<(q:Int)
  ·have HB:Hid ((if zmW z then RS.bad else R)=RS.bad/\(if zmW z then 0 else zig z)=0):=zz (by
    have hz:zig z=(q:Int):=by unfold zig;rw[if_neg h2,hq0]
    have hi:zmW z=true:=by unfold zmW;rw[hz];simp;omega
    rw[hi];exact⟨rfl,rfl⟩)
   rw[HB.out.1,HB.out.2];clear hq0 h2 HB;go_in;go_wp2_with fail;refine zi HN ?_;rintro e w1 ⟨rfl,hc1,hr1⟩;have HC:=zz hc1;have HR:=zz hr1;clear hc1 hr1;have HF:=zz (zzY b R w1 HR.out);go_wp2_with fail;refine zi HF ?_;rintro e w2 ⟨rfl,hc2,hr2⟩;have HC2:=zz (HC.out.next hc2);have HR2:=zz hr2;clear hc2 hr2;go_wp2;go_ret;exact⟨rfl,HC2.out,HR2.out⟩
  ·have HB:Hid ((if zmW z then RS.bad else R)=R/\(if zmW z then 0 else zig z)=(q:Int)):=zz (by
    have hz:zig z=(q:Int):=by unfold zig;rw[if_neg h2,hq0]
    have hi:zmW z=false:=by unfold zmW;rw[hz];simp;omega
    rw[hi];exact⟨rfl,hz⟩)
   rw[HB.out.1,HB.out.2];clear hq0 h2 HB;go_in;go_wp2_with fail;refine zi HN ?_;rintro e w1 ⟨rfl,hc1,hr1⟩;have HC:=zz hc1;have HR:=zz hr1;clear hc1 hr1;go_wp2;go_ret;exact⟨rfl,HC.out,HR.out⟩
def zBw (l:List V):Prop:=∀(l':List V) (A A':Option Addr) (n n' c c':Nat) (w:World),zcl l'<=2097152->Rd (Lt w.heap.size) w (vs l) (.slice A n c)->Rd (Lt w.heap.size) w (vs l') (.slice A' n' c')->
 Calls Tryz.prog 36 #[.slice A n c,.slice A' n' c'] w λe w'=>e=.returned (.bool (eqVs l l'))/\Below w.heap.size w w'
theorem zAk (k:Int) (t:ByteArray) (n m:Int) (s:ByteArray) (l:List V) (k':Int) (t':ByteArray) (n' m':Int) (s':ByteArray) (l':List V) (A A':Option Addr) (c c':Nat) (w:World) (hS:zBw l) (hb:zcl l'<=2097152)
 (hr:Rd (Lt w.heap.size) w (vs l) (.slice A l.length c)) (hr':Rd (Lt w.heap.size) w (vs l') (.slice A' l'.length c')) :
 Calls Tryz.prog 17 #[.agg #[↑k,↑t,↑n,↑m,↑s,.slice A l.length c],.agg #[↑k',↑t',↑n',↑m',↑s',.slice A' l'.length c']] w
  λe w'=>e=.returned (.bool (eqV (.mk k t n m s l) (.mk k' t' n' m' s' l')))/\Below w.heap.size w w':=by
 have HR:=zz hr;have HR':=zz hr';unfold zBw at hS;have HS:=zz hS;clear hr hr' hS;have HU:Hid (eqV (.mk k t n m s l) (.mk k' t' n' m' s' l')=((k == k')&&((t.toList == t'.toList)&&((n == n')&&((m == m')&&((s.toList == s'.toList)&&eqVs l l')))))):=zz (by rw[eqV];cases (k == k')<;>cases (n == n')<;>cases (m == m')<;>cases (t.toList == t'.toList)<;>rfl);generalize eqV (.mk k t n m s l) (.mk k' t' n' m' s' l')=R at *
 have fin:∀x y:Obj,Below w.heap.size w ((w.alloc x).alloc y):=λx y=>((Below.refl _ _).alloc (Nat.le_refl _) _).alloc zs _;have FIN:=zz fin;clear fin;cases h1:(k == k') with
 |false=>
  rw[h1] at HU;go_in;go_wp2;go_ret;exact⟨by rw[HU.out];rfl,FIN.out _ _⟩
 |true=>
  rw[h1] at HU;cases h2:(t.toList == t'.toList) with
  |false=>
   rw[h2] at HU;go_in;go_wp2;go_ret;exact⟨by rw[HU.out];rfl,FIN.out _ _⟩
  |true=>
   rw[h2] at HU;cases h3:(n == n') with
   |false=>
    rw[h3] at HU;go_in;go_wp2;go_ret;exact⟨by rw[HU.out];rfl,FIN.out _ _⟩
   |true=>
    rw[h3] at HU;cases h4:(m == m') with
    |false=>
     rw[h4] at HU;go_in;go_wp2;go_ret;exact⟨by rw[HU.out];rfl,FIN.out _ _⟩
    |true=>
     rw[h4] at HU;cases h5:(s.toList == s'.toList) with
     |false=>
      rw[h5] at HU;go_in;go_wp2;go_ret;exact⟨by rw[HU.out];rfl,FIN.out _ _⟩
     |true=>
      rw[h5] at HU;go_in;go_wp2_with fail;(with_reducible refine(HS.out l' A A' _ _ c c' _ hb ?_ ?_).mono ?_)
      ·exact(HR.out.allocs _).allocs _
      ·exact(HR'.out.allocs _).allocs _
      rintro e w1 ⟨rfl,hb1⟩;have HB1:=zz hb1;clear hb1;go_wp2;go_ret;exact⟨by rw[HU.out];simp,(FIN.out _ _).trans (HB1.out.mono (by simp;omega))⟩
theorem zCH:∀(N:Nat) (l:List V),zcl l<=N->N<=2097152->zBw l:=by
 intro N
 induction N with
 |zero=>
  intro l hb hN l' A A' n n' c c' w hb' hr hr';have hl:=zno hr;have hl':=zno hr';have hll:=zdB l';have hz:l=[]:=List.eq_nil_of_length_eq_zero (by have:=zdB l;omega);subst hz;have hn:n=0:=hl.1;subst hn;clear hr hr' hb
  by_cases hz':n'=0
  ·subst hz';have hz:l'=[]:=List.eq_nil_of_length_eq_zero hl'.1.symm;subst hz;clear hl hl';go_in;go_wp2
   go_loop [5] (λi=>i=↑()) (λ_=>0)
   case atStart=>rfl
   case round=>
    subst hrel;go_wp2;go_ret;exact⟨rfl,Below.refl _ _⟩
  ·have HE:Hid (eqVs [] l'=false):=zz (zwL (by simp only[List.length_nil];omega));have hne:((0:Int) != (n':Int))=true:=by simp;omega
   have hp:0<n':=zo
   clear hz' hl hl';go_in;go_wp2;go_ret;exact⟨by rw[HE.out];rfl,Below.refl _ _⟩
 |succ N ih=>
  intro l hb hN l' A A' n n' c c' w hb' hr hr';have hl:=zno hr;have hl':=zno hr';have hll:=zdB l;have hll':=zdB l';have HR:=zz hr;have HR':=zz hr';have IH:=zz ih;have HL:=zz hl.1;have HL':=zz hl'.1;have hn:n<=2097152:=zo
  have hn':n'<=2097152:=zo
  clear hr hr' ih hl hl'
  by_cases hnn:n=n'
  ·subst hnn;go_in;go_wp2
   go_loopw [5] (λs5 wr=>∃i:Nat,i<=n/\s5=↑i/\Hid (∀(j:Nat) (x y:V),j<i->l[j]?=some x->l'[j]?=some y->eqV x y=true)/\Hid (Below w.heap.size w wr)) (λs5 _=>n-(intOf s5).toNat)
   case atStart=>exact⟨0,zo,rfl,zz (λj _ _ hj=>absurd hj zo),zz (Below.refl _ _)⟩
   case round=>
    obtain⟨i,hi,rfl,HA,HB⟩:=hrel
    by_cases hlt:i<n
    ·obtain⟨b,off,kd,t1,n1,m1,s1,l1,A1,c1,e,hlb,hget,h2⟩:=zrO (HR.out.belows HB.out) hlt;subst e;obtain⟨b',off',kd',t2,n2,m2,s2,l2,A2,c2,e,hlb',hget',h2'⟩:=zrO (HR'.out.belows HB.out) hlt;subst e;obtain⟨p0,p1,p2,p3,p4,p5,r5⟩:=h2;obtain⟨q0,q1,q2,q3,q4,q5,r5'⟩:=h2';have hbk:=zeK _ _ _ hget;have hbk':=zeK _ _ _ hget';rw[zbv] at hbk hbk';have HC:Hid (∀W,Rd (Lt W.heap.size) W (vs l1) (.slice A1 l1.length c1)->Rd (Lt W.heap.size) W (vs l2) (.slice A2 l2.length c2)->_):=zz (λW h1 h2=>zAk kd t1 n1 m1 s1 l1 kd' t2 n2 m2 s2 l2 A1 A2 c1 c2 W (IH.out l1 zo zo) zo h1 h2);have R5:=zz r5;have R5':=zz r5';have HG:=zz hget;have HG':=zz hget';have hlb1:b<wr.heap.size:=hlb;have hlb2:b'<wr.heap.size:=hlb';have hin:(i:Int)<n:=zo
     clear r5 r5' hget hget' hbk hbk' hlb hlb';cases hq:eqV (.mk kd t1 n1 m1 s1 l1) (.mk kd' t2 n2 m2 s2 l2) with
     |false=>
      have HE:=zz (zyz HG.out HG'.out hq);rw[hq] at HC;clear hq;go_wp2
      go_region_with (first|(go_at_call 17;refine(HC.out _ R5.out.drew R5'.out.drew).mono ?_;rintro e w4 ⟨rfl,hb4⟩;have B4:=zz hb4;clear hb4))
      all_goals (
       go_wp2;go_ret;exact⟨by rw[HE.out];rfl,HB.out.drew.trans (B4.out.mono HB.out.size)⟩)
     |true=>
      have HA2:Hid (∀(j:Nat) (x y:V),j<i+1->l[j]?=some x->l'[j]?=some y->eqV x y=true):=zz (λj x y hj hx hy=>by
       rcases Nat.lt_or_ge j i with hji|hji
       ·exact HA.out j x y hji hx hy
       ·obtain rfl:j=i:=zo
        rw[HG.out] at hx;rw[HG'.out] at hy;rw[<-Option.some.inj hx,<-Option.some.inj hy];exact hq)
      rw[hq] at HC;clear hq;go_wp2
      go_region_with (first|(go_at_call 17;refine(HC.out _ R5.out.drew R5'.out.drew).mono ?_;rintro e w4 ⟨rfl,hb4⟩;have B4:=zz (HB.out.drew.trans (hb4.mono HB.out.size));clear hb4))
      all_goals (
       go_wp2;exact⟨⟨i+1,zo,by go_num,HA2,B4⟩,by simp[intOf];omega⟩)
    ·have HE:Hid (eqVs l l'=true):=zz (zxz (by rw[<-HL.out,<-HL'.out]) (λj x y hx hy=>HA.out j x y (by
      have:=(List.getElem?_eq_some_iff.1 hx).1;have:=HL.out;omega) hx hy))
     go_wp2;go_ret;exact⟨by rw[HE.out];rfl,HB.out⟩
  ·have HE:Hid (eqVs l l'=false):=zz (zwL (by rw[<-HL.out,<-HL'.out];exact hnn));have hne:((n:Int) != (n':Int))=true:=by simp;omega
   go_in;go_wp2;go_ret;exact⟨by rw[HE.out];rfl,Below.refl _ _⟩
theorem zBp {l:List V} (h:zcl l<=2097152):zBw l:=zCH _ l (Nat.le_refl _) h
end Go.Proofs.YtcebmphappfjjaaGreatDoor
