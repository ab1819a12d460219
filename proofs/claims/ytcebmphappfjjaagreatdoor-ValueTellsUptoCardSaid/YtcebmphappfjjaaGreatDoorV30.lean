/- Conditions: those in each statement. -/
import Derived.Test.YtcebmphappfjjaaGreatDoorV29
import Derived.Test.YtcebmphappfjjaaGreatDoorV01
import Derived.Test.YtcebmphappfjjaaGreatDoorV08
import Derived.Deep.Light
import Derived.Test.YtcebmphappfjjaaGreatDoorV28
import Derived.Test.YtcebmphappfjjaaGreatDoorV00
set_option maxHeartbeats 32000000
set_option maxRecDepth 100000
namespace Go.Proofs.YtcebmphappfjjaaGreatDoor
open Go.RowKit
def zdV (s:ByteArray):Bool:=decide (0<s.size/\65<=zak s 0/\zak s 0<=90/\∀i,i<s.size->zdj (zak s i)=true)
theorem zbB (s:ByteArray) (w:World) (hs:s.size<=2097152):Calls Tryz.prog 101 #[↑s] w λe w'=>e=.returned (.bool (zdV s))/\w=w':=by
 rcases Nat.eq_zero_or_pos s.size with h0|h0
 ·have HE:Hid (zdV s=false):=zz (by unfold zdV;simp;omega);have he:s.toList=[]:=by rw[ByteArray.toList_eq];exact List.eq_nil_of_length_eq_zero (by rw[zai];exact h0)
  go_in;go_wp2;go_ret;exact⟨by rw[HE.out];rfl,rfl⟩
 ·have hne:¬s.toList=[]:=λh=>by
   rw[ByteArray.toList_eq] at h;have:=zai s;rw[h] at this;simp at this;omega
  have hemp:s.toList.isEmpty=false:=by simpa using hne
  have hi0:(Instr.index 9 ↑s ↑()).run Tryz.prog w=.ok (.int .u8 (zak s 0)) w:=by simpa using zaP s 0 h0 w
  have hr0:=zbt s 0;have HI:=zz (zaP s);have HT:Hid (zdV s=decide (0<s.size/\65<=zak s 0/\zak s 0<=90/\∀i,i<s.size->zdj (zak s i)=true)):=zz rfl;obtain⟨X0,hX0⟩:=zn (zak s 0);rw[hX0] at hi0 hr0 HT;clear hX0;generalize zdV s=R at *
  by_cases hu:65<=X0/\X0<=90
  ·obtain⟨hu1,hu2⟩:=hu;go_in;go_wp2
   go_loopw [19] (λs19 wr=>∃(i:Nat),i<=s.size/\s19=↑i/\Hid (∀j,j<i->zdj (zak s j)=true)/\wr=w) (λs19 _=>s.size-(intOf s19).toNat)
   case atStart=>exact⟨0,zo,rfl,zz (λj hj=>absurd hj zo),rfl⟩
   case round=>
    obtain⟨i,hi,rfl,HN,rfl⟩:=hrel
    by_cases hlt:i<s.size
    ·have hix:=HI.out i hlt wr;have hr:=zbt s i
     have HS:Hid (zdj (zak s i)=true->∀j,j<i+1->zdj (zak s j)=true):=zz (λh j hj=>by
      rcases Nat.lt_or_eq_of_le (Nat.lt_succ_iff.1 hj) with h2|h2
      ·exact HN.out j h2
      ·subst h2;exact h)
     have HF:Hid (zdj (zak s i)=false->R=false):=zz (λh=>by
      rw[HT.out];rw[decide_eq_false];rintro⟨_,_,_,h2⟩;rw[h2 i hlt] at h;cases h)
     obtain⟨X,hX⟩:=zn (zak s i);rw[hX] at hix hr HS HF;have HC:Hid (zdj X=decide (97<=X/\X<=122\/65<=X/\X<=90\/48<=X/\X<=57\/X=95)):=zz rfl;clear hX HN hi0;rcases (show X<48\/(48<=X/\X<=57)\/(58<=X/\X<=64)\/(65<=X/\X<=90)\/(91<=X/\X<=94)\/(95<=X/\X<=95)\/(96<=X/\X<=96)\/(97<=X/\X<=122)\/122<X by omega) with h|⟨h,h'⟩|⟨h,h'⟩|⟨h,h'⟩|⟨h,h'⟩|⟨h,h'⟩|⟨h,h'⟩|⟨h,h'⟩|h
     ·have k97:¬97<=X:=zo
      have k122:X<=122:=zo
      have k65:¬65<=X:=zo
      have k90:X<=90:=zo
      have k48:¬48<=X:=zo
      have k57:X<=57:=zo
      have h95:(X == 95)=false:=by simp;omega
      have HY:=zz (HF.out (by rw[HC.out];exact decide_eq_false zo));clear HS HF HC;go_wp2
      all_goals first
       |(exfalso;omega)
       |(go_ret;exact⟨by rw[HY.out];rfl,rfl⟩)
     ·have k97:¬97<=X:=zo
      have k122:X<=122:=zo
      have k65:¬65<=X:=zo
      have k90:X<=90:=zo
      have k48:48<=X:=zo
      have k57:X<=57:=zo
      have h95:(X == 95)=false:=by simp;omega
      have HY:=zz (HS.out (by rw[HC.out];exact decide_eq_true zo));clear HS HF HC;go_wp2
      all_goals first
       |(exfalso;omega)
       |exact⟨⟨i+1,zo,by go_num,HY,trivial⟩,by simp[intOf];omega⟩
     ·have k97:¬97<=X:=zo
      have k122:X<=122:=zo
      have k65:¬65<=X:=zo
      have k90:X<=90:=zo
      have k48:48<=X:=zo
      have k57:¬X<=57:=zo
      have h95:(X == 95)=false:=by simp;omega
      have HY:=zz (HF.out (by rw[HC.out];exact decide_eq_false zo));clear HS HF HC;go_wp2
      all_goals first
       |(exfalso;omega)
       |(go_ret;exact⟨by rw[HY.out];rfl,rfl⟩)
     ·have k97:¬97<=X:=zo
      have k122:X<=122:=zo
      have k65:65<=X:=zo
      have k90:X<=90:=zo
      have k48:48<=X:=zo
      have k57:¬X<=57:=zo
      have h95:(X == 95)=false:=by simp;omega
      have HY:=zz (HS.out (by rw[HC.out];exact decide_eq_true zo));clear HS HF HC;go_wp2
      all_goals first
       |(exfalso;omega)
       |exact⟨⟨i+1,zo,by go_num,HY,trivial⟩,by simp[intOf];omega⟩
     ·have k97:¬97<=X:=zo
      have k122:X<=122:=zo
      have k65:65<=X:=zo
      have k90:¬X<=90:=zo
      have k48:48<=X:=zo
      have k57:¬X<=57:=zo
      have h95:(X == 95)=false:=by simp;omega
      have HY:=zz (HF.out (by rw[HC.out];exact decide_eq_false zo));clear HS HF HC;go_wp2
      all_goals first
       |(exfalso;omega)
       |(go_ret;exact⟨by rw[HY.out];rfl,rfl⟩)
     ·have k97:¬97<=X:=zo
      have k122:X<=122:=zo
      have k65:65<=X:=zo
      have k90:¬X<=90:=zo
      have k48:48<=X:=zo
      have k57:¬X<=57:=zo
      have h95:(X == 95)=true:=by simp;omega
      have HY:=zz (HS.out (by rw[HC.out];exact decide_eq_true zo));clear HS HF HC;go_wp2
      all_goals first
       |(exfalso;omega)
       |exact⟨⟨i+1,zo,by go_num,HY,trivial⟩,by simp[intOf];omega⟩
     ·have k97:¬97<=X:=zo
      have k122:X<=122:=zo
      have k65:65<=X:=zo
      have k90:¬X<=90:=zo
      have k48:48<=X:=zo
      have k57:¬X<=57:=zo
      have h95:(X == 95)=false:=by simp;omega
      have HY:=zz (HF.out (by rw[HC.out];exact decide_eq_false zo));clear HS HF HC;go_wp2
      all_goals first
       |(exfalso;omega)
       |(go_ret;exact⟨by rw[HY.out];rfl,rfl⟩)
     ·have k97:97<=X:=zo
      have k122:X<=122:=zo
      have k65:65<=X:=zo
      have k90:¬X<=90:=zo
      have k48:48<=X:=zo
      have k57:¬X<=57:=zo
      have h95:(X == 95)=false:=by simp;omega
      have HY:=zz (HS.out (by rw[HC.out];exact decide_eq_true zo));clear HS HF HC;go_wp2
      all_goals first
       |(exfalso;omega)
       |exact⟨⟨i+1,zo,by go_num,HY,trivial⟩,by simp[intOf];omega⟩
     ·have k97:97<=X:=zo
      have k122:¬X<=122:=zo
      have k65:65<=X:=zo
      have k90:¬X<=90:=zo
      have k48:48<=X:=zo
      have k57:¬X<=57:=zo
      have h95:(X == 95)=false:=by simp;omega
      have HY:=zz (HF.out (by rw[HC.out];exact decide_eq_false zo));clear HS HF HC;go_wp2
      all_goals first
       |(exfalso;omega)
       |(go_ret;exact⟨by rw[HY.out];rfl,rfl⟩)
    ·obtain rfl:i=s.size:=zo
     have HY:Hid (R=true):=zz (by rw[HT.out];exact decide_eq_true ⟨h0,hu1,hu2,HN.out⟩);clear hi0;go_wp2;go_ret;exact⟨by rw[HY.out];rfl,rfl⟩
  ·have HE:Hid (R=false):=zz (by rw[HT.out];simp;intro _ h1 h2;exact absurd ⟨h1,h2⟩ hu);rcases (show X0<65\/90<X0 by omega) with hx|hx
   all_goals
    clear hu;go_in;go_wp2;go_ret;exact⟨by rw[HE.out];rfl,rfl⟩
def inR (n:Int):Bool:=decide (-9007199254740992<=n/\n<=9007199254740992)
theorem zic (n:Int) (w:World):Calls Tryz.prog 102 #[↑n] w λe w'=>e=.returned (.bool (inR n))/\w=w':=by
 by_cases h:-9007199254740992<=n/\n<=9007199254740992
 ·have HE:Hid (inR n=true):=zz (decide_eq_true h);obtain⟨h0,h1⟩:=h;go_in;go_wp2;go_ret;exact⟨by rw[HE.out];rfl,rfl⟩
 ·have HE:Hid (inR n=false):=zz (decide_eq_false h);rcases (show n < -9007199254740992\/9007199254740992<n by omega) with hx|hx
  all_goals
   clear h;go_in;go_wp2;go_ret;exact⟨by rw[HE.out];first|rfl|(simp;omega),rfl⟩
def zmu (t:ByteArray) (n:Int) (m:Int) (s:ByteArray) (l:List V):Bool:=t.toList.isEmpty&&(n == 0)&&((m == 0)&&s.toList.isEmpty)&&((l.length:Int) == 0)
def zlV (t:ByteArray) (n:Int) (m:Int) (s:ByteArray) (l:List V):Bool:=t.toList.isEmpty&&((n == 0) || (n == 1))&&((m == 0)&&s.toList.isEmpty)&&((l.length:Int) == 0)
def zmb (t:ByteArray) (n:Int) (m:Int) (s:ByteArray) (l:List V):Bool:=t.toList.isEmpty&&inR n&&((m == 0)&&s.toList.isEmpty)&&((l.length:Int) == 0)
def zmE (t:ByteArray) (n:Int) (m:Int) (s:ByteArray) (l:List V):Bool:=t.toList.isEmpty&&(n == 0)&&(m == 0)&&decide ((s.size:Int)<=4096)&&((l.length:Int) == 0)
def zmv (t:ByteArray) (n:Int) (m:Int) (s:ByteArray) (l:List V):Bool:=t.toList.isEmpty&&(n == 0)&&((m == 0)&&s.toList.isEmpty)&&decide ((l.length:Int)<=4096)
def zmx (t:ByteArray) (n:Int) (m:Int) (s:ByteArray):Bool:=zdV t&&(n == 0)&&((m == 0)&&s.toList.isEmpty)
def zlY (t:ByteArray) (n:Int) (m:Int) (s:ByteArray):Bool:=zdV t&&decide (0<=n)&&decide (n<=4096)&&((m == 0)&&s.toList.isEmpty)
def zmm (t:ByteArray) (n:Int) (m:Int) (s:ByteArray) (l:List V):Bool:=zdV t&&(n == 0)&&(m == 0)&&znX s&&((l.length:Int) == 0)
def zoj (t:ByteArray) (n:Int) (m:Int) (s:ByteArray):Bool:=t.toList.isEmpty&&decide (0<=n)&&decide (n<=9007199254740992)&&((m == 0)&&s.toList.isEmpty)
def zjg (t:ByteArray) (n:Int) (m:Int) (s:ByteArray) (l:List V):Bool:=t.toList.isEmpty&&inR n&&inR m&&decide (n<m)&&s.toList.isEmpty&&((l.length:Int) == 0)
def zbL:V->Bool
 |.mk k t n m s l=>
  if k=1 then zmu t n m s l
  else if k=2 then zlV t n m s l
  else if k=3 then zmb t n m s l
  else if k=4 then zmE t n m s l
  else if k=5 then zmv t n m s l
  else if k=6 then zmx t n m s
  else if k=7 then zlY t n m s
  else if k=8 then zmm t n m s l
  else if k=9 then zoj t n m s
  else if k=10 then zjg t n m s l
  else false
theorem ztu (t:ByteArray) (n m:Int) (s:ByteArray) (l:List V) (A:Option Addr) (c:Nat) (w:World) (ht:t.size<=2097152) :
 Calls Tryz.prog 57 #[.agg #[.int .i64 1,↑t,↑n,↑m,↑s,.slice A l.length c]] w λe w'=>e=.returned (.bool (zmu t n m s l))/\Below w.heap.size w w':=by
 have HT:=zz (λW=>zbB t W ht);go_in;go_wp2_with (first|(go_at_call 101;(with_reducible refine(HT.out _).mono ?_);rintro e w1 ⟨rfl,rfl⟩))
 all_goals
  go_ret;refine⟨?_,(Below.refl _ _).alloc (Nat.le_refl _) _⟩
  go_light
  first
   |(simp[zmu, *];done)
   |(simp[zmu, *];intros;omega)
theorem ztQ (t:ByteArray) (n m:Int) (s:ByteArray) (l:List V) (A:Option Addr) (c:Nat) (w:World) (ht:t.size<=2097152) :
 Calls Tryz.prog 57 #[.agg #[.int .i64 2,↑t,↑n,↑m,↑s,.slice A l.length c]] w λe w'=>e=.returned (.bool (zlV t n m s l))/\Below w.heap.size w w':=by
 have HT:=zz (λW=>zbB t W ht);go_in;go_wp2_with (first|(go_at_call 101;(with_reducible refine(HT.out _).mono ?_);rintro e w1 ⟨rfl,rfl⟩))
 all_goals
  go_ret;refine⟨?_,(Below.refl _ _).alloc (Nat.le_refl _) _⟩
  go_light
  first
   |(simp[zlV, *];done)
   |(simp[zlV, *];intros;omega)
theorem zth (t:ByteArray) (n m:Int) (s:ByteArray) (l:List V) (A:Option Addr) (c:Nat) (w:World) (ht:t.size<=2097152) :
 Calls Tryz.prog 57 #[.agg #[.int .i64 3,↑t,↑n,↑m,↑s,.slice A l.length c]] w λe w'=>e=.returned (.bool (zmb t n m s l))/\Below w.heap.size w w':=by
 have HT:=zz (λW=>zbB t W ht);have HI:=zz zic;go_in;go_wp2_with (first|(go_at_call 101;(with_reducible refine(HT.out _).mono ?_);rintro e w1 ⟨rfl,rfl⟩)|(go_at_call 102;(with_reducible refine(HI.out _ _).mono ?_);rintro e w1 ⟨rfl,rfl⟩))
 all_goals
  go_ret;refine⟨?_,(Below.refl _ _).alloc (Nat.le_refl _) _⟩
  go_light
  first
   |(simp[zmb, *];done)
   |(simp[zmb, *];intros;omega)
theorem ztt (t:ByteArray) (n m:Int) (s:ByteArray) (l:List V) (A:Option Addr) (c:Nat) (w:World) (ht:t.size<=2097152) :
 Calls Tryz.prog 57 #[.agg #[.int .i64 4,↑t,↑n,↑m,↑s,.slice A l.length c]] w λe w'=>e=.returned (.bool (zmE t n m s l))/\Below w.heap.size w w':=by
 have HT:=zz (λW=>zbB t W ht);go_in;go_wp2_with (first|(go_at_call 101;(with_reducible refine(HT.out _).mono ?_);rintro e w1 ⟨rfl,rfl⟩))
 all_goals
  go_ret;refine⟨?_,(Below.refl _ _).alloc (Nat.le_refl _) _⟩
  go_light
  first
   |(simp[zmE, *];done)
   |(simp[zmE, *];intros;omega)
theorem ztw (t:ByteArray) (n m:Int) (s:ByteArray) (l:List V) (A:Option Addr) (c:Nat) (w:World) (ht:t.size<=2097152) :
 Calls Tryz.prog 57 #[.agg #[.int .i64 5,↑t,↑n,↑m,↑s,.slice A l.length c]] w λe w'=>e=.returned (.bool (zmv t n m s l))/\Below w.heap.size w w':=by
 have HT:=zz (λW=>zbB t W ht);go_in;go_wp2_with (first|(go_at_call 101;(with_reducible refine(HT.out _).mono ?_);rintro e w1 ⟨rfl,rfl⟩))
 all_goals
  go_ret;refine⟨?_,(Below.refl _ _).alloc (Nat.le_refl _) _⟩
  go_light
  first
   |(simp[zmv, *];done)
   |(simp[zmv, *];intros;omega)
theorem ztN (t:ByteArray) (n m:Int) (s:ByteArray) (l:List V) (A:Option Addr) (c:Nat) (w:World) (ht:t.size<=2097152) :
 Calls Tryz.prog 57 #[.agg #[.int .i64 6,↑t,↑n,↑m,↑s,.slice A l.length c]] w λe w'=>e=.returned (.bool (zmx t n m s))/\Below w.heap.size w w':=by
 have HT:=zz (λW=>zbB t W ht);go_in;go_wp2_with (first|(go_at_call 101;(with_reducible refine(HT.out _).mono ?_);rintro e w1 ⟨rfl,rfl⟩))
 all_goals
  go_ret;refine⟨?_,(Below.refl _ _).alloc (Nat.le_refl _) _⟩
  go_light
  first
   |(simp[zmx, *];done)
   |(simp[zmx, *];intros;omega)
theorem ztf (t:ByteArray) (n m:Int) (s:ByteArray) (l:List V) (A:Option Addr) (c:Nat) (w:World) (ht:t.size<=2097152) :
 Calls Tryz.prog 57 #[.agg #[.int .i64 7,↑t,↑n,↑m,↑s,.slice A l.length c]] w λe w'=>e=.returned (.bool (zlY t n m s))/\Below w.heap.size w w':=by
 have HT:=zz (λW=>zbB t W ht);go_in;go_wp2_with (first|(go_at_call 101;(with_reducible refine(HT.out _).mono ?_);rintro e w1 ⟨rfl,rfl⟩))
 all_goals
  go_ret;refine⟨?_,(Below.refl _ _).alloc (Nat.le_refl _) _⟩
  go_light
  first
   |(simp[zlY, *];done)
   |(simp[zlY, *];intros;omega)
theorem zta (t:ByteArray) (n m:Int) (s:ByteArray) (l:List V) (A:Option Addr) (c:Nat) (w:World) (ht:t.size<=2097152) (hs:s.size<=2097152) :
 Calls Tryz.prog 57 #[.agg #[.int .i64 8,↑t,↑n,↑m,↑s,.slice A l.length c]] w λe w'=>e=.returned (.bool (zmm t n m s l))/\Below w.heap.size w w':=by
 have HT:=zz (λW=>zbB t W ht);have HP:=zz (λW=>zrD s W hs);go_in;go_wp2_with (first|(go_at_call 101;(with_reducible refine(HT.out _).mono ?_);rintro e w1 ⟨rfl,rfl⟩)|(go_at_call 22;(with_reducible refine(HP.out _).mono ?_);rintro e w2 ⟨rfl,hb2⟩;have HB2:=zz hb2;clear hb2))
 all_goals
  go_ret;refine⟨?_,by first|exact(Below.refl _ _).alloc (Nat.le_refl _) _|exact((Below.refl _ _).alloc (Nat.le_refl _) _).trans (HB2.out.mono zs)⟩
  go_light
  first
   |(simp[zmm, *];done)
   |(simp[zmm, *];intros;omega)
theorem ztE (t:ByteArray) (n m:Int) (s:ByteArray) (l:List V) (A:Option Addr) (c:Nat) (w:World) (ht:t.size<=2097152) :
 Calls Tryz.prog 57 #[.agg #[.int .i64 9,↑t,↑n,↑m,↑s,.slice A l.length c]] w λe w'=>e=.returned (.bool (zoj t n m s))/\Below w.heap.size w w':=by
 have HT:=zz (λW=>zbB t W ht);go_in;go_wp2_with (first|(go_at_call 101;(with_reducible refine(HT.out _).mono ?_);rintro e w1 ⟨rfl,rfl⟩))
 all_goals
  go_ret;refine⟨?_,(Below.refl _ _).alloc (Nat.le_refl _) _⟩
  go_light
  first
   |(simp[zoj, *];done)
   |(simp[zoj, *];intros;omega)
theorem zrW (t:ByteArray) (n m:Int) (s:ByteArray) (l:List V) (A:Option Addr) (c:Nat) (w:World) (ht:t.size<=2097152) :
 Calls Tryz.prog 57 #[.agg #[.int .i64 10,↑t,↑n,↑m,↑s,.slice A l.length c]] w λe w'=>e=.returned (.bool (zjg t n m s l))/\Below w.heap.size w w':=by
 have HT:=zz (λW=>zbB t W ht);have HI:=zz zic;go_in;go_wp2_with (first|(go_at_call 101;(with_reducible refine(HT.out _).mono ?_);rintro e w1 ⟨rfl,rfl⟩)|(go_at_call 102;(with_reducible refine(HI.out _ _).mono ?_);rintro e w1 ⟨rfl,rfl⟩))
 all_goals
  go_ret;refine⟨?_,(Below.refl _ _).alloc (Nat.le_refl _) _⟩
  go_light
  first
   |(simp[zjg, *];done)
   |(simp[zjg, *];intros;omega)
theorem ztH (k:Int) (t:ByteArray) (n m:Int) (s:ByteArray) (l:List V) (A:Option Addr) (c:Nat) (w:World) (ht:t.size<=2097152) (hk:∀j:Int,1<=j->j<=10->(k == j)=false) :
 Calls Tryz.prog 57 #[.agg #[↑k,↑t,↑n,↑m,↑s,.slice A l.length c]] w λe w'=>e=.returned (.bool false)/\Below w.heap.size w w':=by
 have HT:=zz (λW=>zbB t W ht);have k1:=hk 1 zo zo;have k2:=hk 2 zo zo;have k3:=hk 3 zo zo;have k4:=hk 4 zo zo;have k5:=hk 5 zo zo;have k6:=hk 6 zo zo;have k7:=hk 7 zo zo;have k8:=hk 8 zo zo;have k9:=hk 9 zo zo;have k10:=hk 10 zo zo;clear hk;go_in;go_wp2_with (first|(go_at_call 101;(with_reducible refine(HT.out _).mono ?_);rintro e w1 ⟨rfl,rfl⟩))
 all_goals
  go_ret;refine⟨?_,(Below.refl _ _).alloc (Nat.le_refl _) _⟩
  go_light
  first
   |(simp[*];done)
   |(simp[*];intros;omega)
theorem zkB (k:Int) (t:ByteArray) (n m:Int) (s:ByteArray) (l:List V) (A:Option Addr) (c:Nat) (w:World) (ht:t.size<=2097152) (hs:s.size<=2097152) :
 Calls Tryz.prog 57 #[.agg #[↑k,↑t,↑n,↑m,↑s,.slice A l.length c]] w λe w'=>e=.returned (.bool (zbL (.mk k t n m s l)))/\Below w.heap.size w w':=by
 by_cases h1:k=1
 ·subst h1;rw[show zbL (.mk 1 t n m s l)=zmu t n m s l from rfl];exact ztu t n m s l A c w ht
 by_cases h2:k=2
 ·subst h2;rw[show zbL (.mk 2 t n m s l)=zlV t n m s l from rfl];exact ztQ t n m s l A c w ht
 by_cases h3:k=3
 ·subst h3;rw[show zbL (.mk 3 t n m s l)=zmb t n m s l from rfl];exact zth t n m s l A c w ht
 by_cases h4:k=4
 ·subst h4;rw[show zbL (.mk 4 t n m s l)=zmE t n m s l from rfl];exact ztt t n m s l A c w ht
 by_cases h5:k=5
 ·subst h5;rw[show zbL (.mk 5 t n m s l)=zmv t n m s l from rfl];exact ztw t n m s l A c w ht
 by_cases h6:k=6
 ·subst h6;rw[show zbL (.mk 6 t n m s l)=zmx t n m s from rfl];exact ztN t n m s l A c w ht
 by_cases h7:k=7
 ·subst h7;rw[show zbL (.mk 7 t n m s l)=zlY t n m s from rfl];exact ztf t n m s l A c w ht
 by_cases h8:k=8
 ·subst h8;rw[show zbL (.mk 8 t n m s l)=zmm t n m s l from rfl];exact zta t n m s l A c w ht hs
 by_cases h9:k=9
 ·subst h9;rw[show zbL (.mk 9 t n m s l)=zoj t n m s from rfl];exact ztE t n m s l A c w ht
 by_cases h10:k=10
 ·subst h10;rw[show zbL (.mk 10 t n m s l)=zjg t n m s l from rfl];exact zrW t n m s l A c w ht
 rw[show zbL (.mk k t n m s l)=false by simp[zbL,h1,h2,h3,h4,h5,h6,h7,h8,h9,h10]];refine ztH k t n m s l A c w ht λj h1 h2=>?_;simp only[beq_eq_false_iff_ne];omega
mutual
theorem znD:∀(v:V),v.bulk<=2097152->v.All (zli 57 zbL)
 |.mk k t n m s l,h=>by
  rw[zbv] at h;rw[V.All];refine⟨λk' t' n' m' s' l' e W A c _=>?_,ziu l zo⟩;injection e with e1 e2 e3 e4 e5 e6;subst e1 e2 e3 e4 e5 e6;exact zkB k t n m s l A c W zo zo
theorem ziu:∀(l:List V),zcl l<=2097152->AllV (zli 57 zbL) l
 |[],_=>by rw[AllV];trivial
 |v::r,h=>by
  rw[zbK] at h;rw[AllV];exact⟨znD v zo,ziu r zo⟩
end
theorem QW.calls2 {pp:Prg} {p:PgV} {fb m B:Nat} {w0:World} (x:QW pp p fb m B w0) {f:Nat} {args:Array Value} {r:Bool} (h:Calls Tryz.prog f args x.w λe w'=>e=.returned ↑r/\Below x.w.heap.size x.w w'):Calls Tryz.prog f args x.w λe w'=>e=.returned ↑r/\∃y:QW pp p fb m B w0,w'=y.w:=
 h.mono λ_ w' h=>⟨h.1,⟨w',x.f.below h.2,x.c.thenBelow h.2⟩,rfl⟩
def zuX (pp:Prg) (v:V) (y:Ty):Bool:=zkS zbL v&&(zsM pp y&&fitV pp v y)
theorem zyH (pp:Prg) (p:PgV) (fb m B:Nat) (k:Int) (t:ByteArray) (n m':Int) (s:ByteArray) (l:List V) (hbk:(V.mk k t n m' s l).bulk<=2097152) (HB:zkS zbL (.mk k t n m' s l)=true->zwm pp p fb m B (.mk k t n m' s l)) (y:Ty) (hyf:y.fit=true) (A A':Option Addr) (c c':Nat) (w:World) (h:FtC pp p fb m B w)
 (hr:Rd (Lt B) w (vs l) (.slice A l.length c)) (hr':Rd (Lt B) w (ys y.args) (.slice A' y.args.length c')) :
 Calls Tryz.prog 82 #[.pointer (some ⟨fb,0,none⟩),.agg #[↑k,↑t,↑n,↑m',↑s,.slice A l.length c],.agg #[↑y.kind,↑y.name,.slice A' y.args.length c']] w (zwq m (zuX pp (.mk k t n m' s l) y) w):=by
 obtain⟨w1,h1,b1,c1⟩:=zaj w #[↑k,↑t,↑n,↑m',↑s,.slice A l.length c] 24;obtain⟨w2,h2,b2,c2⟩:=zaj w1 #[↑y.kind,↑y.name,.slice A' y.args.length c'] 70;have c1':=zaa b2 c1;have b12:=zac b1 b2 b1.size;have HB2:=zz b12;have HF2:=zz (h.below b12);have HX2:=zz c1';have HY2:=zz c2;have HR2:=zz (h.rd (Chg.of_below b12) hr);have HT2:=zz (h.rd (Chg.of_below b12) hr');have HN1:Hid (¬w1.heap.size=m):=zz (by have:=h.map.lt;have:=b1.size;omega);have HN0:Hid (¬w.heap.size=m):=zz (by have:=h.map.lt;omega);have v0:∀x:QW pp p fb m B w2,x.w.cell? ⟨w.heap.size,0,none⟩=some ↑k:=λx=>x.cell HX2.out.lt HN0.out (HX2.out.cell 0);have v1:∀x:QW pp p fb m B w2,x.w.cell? ⟨w.heap.size,1,none⟩=some ↑t:=λx=>x.cell HX2.out.lt HN0.out (HX2.out.cell 1);have v2:∀x:QW pp p fb m B w2,x.w.cell? ⟨w.heap.size,2,none⟩=some ↑n:=λx=>x.cell HX2.out.lt HN0.out (HX2.out.cell 2);have v3:∀x:QW pp p fb m B w2,x.w.cell? ⟨w.heap.size,3,none⟩=some ↑m':=λx=>x.cell HX2.out.lt HN0.out (HX2.out.cell 3);have v4:∀x:QW pp p fb m B w2,x.w.cell? ⟨w.heap.size,4,none⟩=some ↑s:=λx=>x.cell HX2.out.lt HN0.out (HX2.out.cell 4);have v5:∀x:QW pp p fb m B w2,x.w.cell? ⟨w.heap.size,5,none⟩=some (.slice A l.length c):=λx=>x.cell HX2.out.lt HN0.out (HX2.out.cell 5);have y0:∀x:QW pp p fb m B w2,x.w.cell? ⟨w1.heap.size,0,none⟩=some ↑y.kind:=λx=>x.cell HY2.out.lt HN1.out (HY2.out.cell 0);have y1:∀x:QW pp p fb m B w2,x.w.cell? ⟨w1.heap.size,1,none⟩=some ↑y.name:=λx=>x.cell HY2.out.lt HN1.out (HY2.out.cell 1);have y2:∀x:QW pp p fb m B w2,x.w.cell? ⟨w1.heap.size,2,none⟩=some (.slice A' y.args.length c'):=λx=>x.cell HY2.out.lt HN1.out (HY2.out.cell 2);have g0:∀x:QW pp p fb m B w2,x.w.cell? ⟨fb,0,none⟩=some (.slice p.At p.nT p.ct):=λx=>x.f.cells.cell 0;have g1:∀x:QW pp p fb m B w2,x.w.cell? ⟨fb,1,none⟩=some (.slice p.Ae p.nE p.ce):=λx=>x.f.cells.cell 1;have g2:∀x:QW pp p fb m B w2,x.w.cell? ⟨fb,2,none⟩=some (.slice p.Af p.nF p.cf):=λx=>x.f.cells.cell 2;have g3:∀x:QW pp p fb m B w2,x.w.cell? ⟨fb,3,none⟩=some (.slice p.Aa p.nA p.ca):=λx=>x.f.cells.cell 3;have hne:Nonempty (QW pp p fb m B w2):=⟨⟨w2,HF2.out,Chg.refl _ _⟩⟩;have K1:=zz (λx:QW pp p fb m B w2=>x.calls2 (zuQ zbL k t n m' s l A c x.w hbk (znD _ hbk) ((x.rd HF2.out HR2.out).weaken x.f.lt)));have K2:=zz (λx:QW pp p fb m B w2=>x.calls2 (x.f.right y hyf A' c' (x.rd HF2.out HT2.out)));have K3:=zz (λ(x:QW pp p fb m B w2) (h1:zkS zbL (.mk k t n m' s l)=true) (h2:zsM pp y=true)=>x.calls (f:=142) (args:=#[.pointer (some ⟨fb,0,none⟩),.agg #[↑k,↑t,↑n,↑m',↑s,.slice A l.length c],.agg #[↑y.kind,↑y.name,.slice A' y.args.length c']]) (r:=fitV pp (.mk k t n m' s l) y) (HB h1 y A A' c c' x.w x.f h2 hyf (x.rd HF2.out HR2.out) (x.rd HF2.out HT2.out)));unfold zuX;clear b1 c1 b2 c2 c1' b12 h hr hr' hbk HB hyf;cases hv:zkS zbL (.mk k t n m' s l) with
 |false=>
  rw[hv] at K1;clear K2 K3 hv;rw[Bool.false_and];go_in;go_wp2_with fail;refine zuN (C:=λw'=>∃x:QW pp p fb m B w2,w'=x.w) zk zk ⟨⟨_,HF2.out.drew,⟨rfl,rfl,rfl,Nat.le_refl _,λ_ _ _=>rfl⟩⟩,rfl⟩ ?_
  repeat (go_big_quiet_step (first|with_reducible exact K1.out _))
  refine wpQuiet_nil ?_;intro _ hw';obtain⟨x,hw''⟩:=hw';subst hw'';have HC4:=zz ((Chg.of_below HB2.out).next x.c);have HF4:=zz x.f;go_wp2;go_ret;exact⟨rfl,HC4.out,HF4.out.map⟩
 |true=>
  rw[hv] at K1;cases hy:zsM pp y with
  |false=>
   rw[hy] at K2;clear K3 hv hy;rw[Bool.true_and,Bool.false_and];go_in;go_wp2_with fail;refine zuN (C:=λw'=>∃x:QW pp p fb m B w2,w'=x.w) zk zk ⟨⟨_,HF2.out.drew,⟨rfl,rfl,rfl,Nat.le_refl _,λ_ _ _=>rfl⟩⟩,rfl⟩ ?_
   repeat (go_big_quiet_step (first|with_reducible exact K1.out _|with_reducible exact K2.out _))
   refine wpQuiet_nil ?_;intro _ hw';obtain⟨x,hw''⟩:=hw';subst hw'';have HC4:=zz ((Chg.of_below HB2.out).next x.c);have HF4:=zz x.f;go_wp2;go_ret;exact⟨rfl,HC4.out,HF4.out.map⟩
  |true=>
   rw[hy] at K2;have K3:=zz (λx=>K3.out x hv hy);clear hv hy;rw[Bool.true_and,Bool.true_and];obtain⟨R,hR⟩:=zn (fitV pp (.mk k t n m' s l) y);rw[hR] at K3 ⊢;clear hR;go_in;go_wp2_with fail;refine zuN (C:=λw'=>∃x:QW pp p fb m B w2,w'=x.w) zk zk ⟨⟨_,HF2.out.drew,⟨rfl,rfl,rfl,Nat.le_refl _,λ_ _ _=>rfl⟩⟩,rfl⟩ ?_
   repeat (go_big_quiet_step (first|with_reducible exact K1.out _|with_reducible exact K2.out _|with_reducible exact K3.out _))
   refine wpQuiet_nil ?_;intro _ hw';obtain⟨x,hw''⟩:=hw';subst hw'';have HC4:=zz ((Chg.of_below HB2.out).next x.c);have HF4:=zz x.f;go_wp2;go_ret;exact⟨rfl,HC4.out,HF4.out.map⟩
end Go.Proofs.YtcebmphappfjjaaGreatDoor
set_option maxHeartbeats 32000000
set_option maxRecDepth 100000
namespace Go.Proofs.YtcebmphappfjjaaGreatDoor
theorem zvC (p:V->Bool):∀(l:List V) (a:Nat),(zbm p l a).1=true->∀v∈l,∃b,(zbk p v b).1=true
 |[],_,_,v,hv=>by cases hv
 |x::r,a,h,v,hv=>by
  rw[zbm] at h
  split at h
  ·rename_i hx;rcases List.mem_cons.1 hv with rfl|hv
   ·exact⟨a,hx⟩
   ·exact zvC p r _ h v hv
  ·cases h
theorem zyu {k:Int} {t:ByteArray} {n m:Int} {s:ByteArray} {l:List V} (h:zbL (.mk k t n m s l)=true):(t.size≠0->0<=n)/\(k=9->0<=n):=by
 have he:t.size≠0->t.toList.isEmpty=false:=λhs=>by
  cases hx:t.toList.isEmpty with
  |false=>rfl
  |true=>
   have h2:t.toList.length=0:=by rw[List.isEmpty_iff.1 hx];rfl
   rw[ByteArray.toList_eq] at h2;exact absurd (by simpa using h2) hs
 refine⟨λhs=>?_,λhk=>?_⟩
 ·have ht:=he hs;unfold zbL at h;simp only[zmu,zlV,zmb,zmE,zmv,zoj,zjg,ht,Bool.false_and] at h;simp only[zmx,zlY,zmm] at h
  repeat' split at h
  all_goals first
   |(cases h;done)
   |(simp only[Bool.and_eq_true,beq_iff_eq,decide_eq_true_eq] at h;omega)
 ·subst hk;have h:zoj t n m s=true:=h;simp only[zoj,Bool.and_eq_true,decide_eq_true_eq] at h;omega
theorem zxb (pp:Prg) (p:PgV) (fb m B:Nat) (hR:AllR pp):∀(v:V) (a:Nat),(zbk zbL v a).1=true->zwm pp p fb m B v
 |.mk k t n m' s l,a,h=>by
  rw[zbk] at h
  split at h
  ·cases h
  ·rename_i hc;rw[not_or] at hc;have hn:=zyu (k:=k) (t:=t) (n:=n) (m:=m') (s:=s) (l:=l) (by simpa using hc.2)
   have IH:∀v∈l,zwm pp p fb m B v:=λv hv=>by
    obtain⟨b,hb⟩:=zvC zbL l _ h v hv;exact zxb pp p fb m B hR v b hb
   exact zwc pp p fb m B k t n m' s l IH (zwv pp p fb m B l IH hR) hR hn.1 hn.2
end Go.Proofs.YtcebmphappfjjaaGreatDoor
set_option maxHeartbeats 32000000
set_option maxRecDepth 100000
namespace Go.Proofs.YtcebmphappfjjaaGreatDoor
open Go.RowKit
structure PgA (w:World) (p:PgV) (pp:Prg):Prop where
 nT:p.nT=pp.types.length
 nF:p.nF=pp.funs.length
 types:Rd (Lt w.heap.size) w (slG 3 zgj pp.types) (.slice p.At p.nT p.ct)
 funs:Rd (Lt w.heap.size) w (slG 11 zme pp.funs) (.slice p.Af p.nF p.cf)
 actors:Rd (Lt w.heap.size) w (slG 7 zjX pp.actors) (.slice p.Aa p.nA p.ca)
theorem PgA.below {w w':World} {p:PgV} {pp:Prg} (h:PgA w p pp) (k:Below w.heap.size w w'):PgA w' p pp:=⟨h.nT,h.nF,h.types.belows k,h.funs.belows k,h.actors.belows k⟩
theorem zvq (pp:Prg) (p:PgV) (hR:AllR pp) (k:Int) (t:ByteArray) (n m':Int) (s:ByteArray) (l:List V) (hbk:(V.mk k t n m' s l).bulk<=2097152) (y:Ty) (hyf:y.fit=true) (A A':Option Addr) (c c':Nat) (w:World) (h:PgA w p pp)
 (hr:Rd (Lt w.heap.size) w (vs l) (.slice A l.length c)) (hr':Rd (Lt w.heap.size) w (ys y.args) (.slice A' y.args.length c')) :
 Calls Tryz.prog 41 #[pgA p,.agg #[↑k,↑t,↑n,↑m',↑s,.slice A l.length c],.agg #[↑y.kind,↑y.name,.slice A' y.args.length c']] w λe w'=>e=.returned (.bool (zuX pp (.mk k t n m' s l) y))/\Below w.heap.size w w':=by
 have hmm:=@run_makeMap Tryz.prog;obtain⟨w1,h1,b1,c1⟩:=zaj w #[.slice p.At p.nT p.ct,.slice p.Ae p.nE p.ce,.slice p.Af p.nF p.cf,.slice p.Aa p.nA p.ca] 58;obtain⟨w2,h2,b2,c2⟩:=zaj w1 #[↑k,↑t,↑n,↑m',↑s,.slice A l.length c] 24;obtain⟨w3,h3,b3,c3⟩:=zaj w2 #[↑y.kind,↑y.name,.slice A' y.args.length c'] 70;have b4:=zag w3 (.map #[] 0);have m4:=MapG.new GT w3;obtain⟨w4,h4⟩:=zn (w3.alloc (.map #[] 0));rw[h4] at b4 m4;obtain⟨w5,h5,b5,c5⟩:=zaj w4 #[.slice p.At p.nT p.ct,.slice p.Ae p.nE p.ce,.slice p.Af p.nF p.cf,.slice p.Aa p.nA p.ca,.map (some w3.heap.size)] 124;have e3:=zac (zac b1 b2 b1.size) b3 (zac b1 b2 b1.size).size;have e5:=zac (zac e3 b4 e3.size) b5 (zac e3 b4 e3.size).size;have c1':=zaa b3 (zaa b2 c1);have c1w:=zaa b4 c1';have c2w:=zaa b5 (zaa b4 (zaa b3 c2));have c3w:=zaa b5 (zaa b4 c3);obtain⟨p0,p1,p2,p3⟩:_/\_/\_/\_:=⟨c1'.cell 0,c1'.cell 1,c1'.cell 2,c1'.cell 3⟩;obtain⟨q0,q1,q2,q3⟩:_/\_/\_/\_:=⟨c1w.cell 0,c1w.cell 1,c1w.cell 2,c1w.cell 3⟩;obtain⟨v0,v1,v2,v3,v4,v5⟩:_/\_/\_/\_/\_/\_:=⟨c2w.cell 0,c2w.cell 1,c2w.cell 2,c2w.cell 3,c2w.cell 4,c2w.cell 5⟩;obtain⟨y0,y1,y2⟩:_/\_/\_:=⟨c3w.cell 0,c3w.cell 1,c3w.cell 2⟩;have up:∀{d:D} {v:Value},Rd (Lt w.heap.size) w d v->Rd (Lt w.heap.size) w5 d v:=λhd=>Rd.below (ok:=Lt w.heap.size) e5 (λ_ hb=>hb) hd;have F:FtC pp p w4.heap.size w3.heap.size w.heap.size w5:=⟨c5,m4.keep (b5.block _ m4.lt),h.nT,h.nF,up h.types,up h.funs,up h.actors,e3.size,(zac e3 b4 e3.size).size,by have:=m4.lt;omega,e5.size⟩;have K:=zz (zyH pp p w4.heap.size w3.heap.size w.heap.size k t n m' s l hbk (λhv=>zxb pp p w4.heap.size w3.heap.size w.heap.size hR _ 16384 hv) y hyf A A' c c' w5 F (up hr) (up hr'));have E5:=zz e5;have E3:=zz e3.size;obtain⟨R,hRR⟩:=zn (zuX pp (.mk k t n m' s l) y);rw[hRR] at K ⊢;clear b1 b2 b3 b4 b5 c1 c2 c3 c1' c1w c2w c3w m4 e3 e5 up F h hr hr' hR hbk hyf hRR
 show Calls Tryz.prog 41 #[.agg #[.slice p.At p.nT p.ct,.slice p.Ae p.nE p.ce,.slice p.Af p.nF p.cf,.slice p.Aa p.nA p.ca],.agg #[↑k,↑t,↑n,↑m',↑s,.slice A l.length c],.agg #[↑y.kind,↑y.name,.slice A' y.args.length c']] w _
 go_in;go_wp2_with fail;refine zi K ?_;rintro e w6 ⟨rfl,hc,_⟩;have HB6:=zz (E5.out.trans (hc.below E5.out.size (λq hq=>by have:=E3.out;omega)));clear hc;go_wp2;go_ret;exact⟨rfl,HB6.out⟩
structure RS where
 s:ByteArray
 f:Bool
def RS.bad:RS:=⟨⟨#[]⟩,true⟩
def zdd (w:World) (b:Nat) (r:RS):Prop:=w.heap[b]?=some (.cells #[.string r.s,.bool r.f] 86 (0,0))
section
variable {w w1:World} {b:Nat} {r:RS}
theorem zdd.lt (h:zdd w b r):b<w.heap.size:=(Array.getElem?_eq_some_iff.1 h).1
theorem zdd.c0 (h:zdd w b r):w.cell? ⟨b,0,none⟩=some (.string r.s):=by rw[Lib.cell_of_heap h];rfl
theorem zdd.c1 (h:zdd w b r):w.cell? ⟨b,1,none⟩=some (.bool r.f):=by rw[Lib.cell_of_heap h];rfl
theorem zdd.fz (h:zdd w b r) (j:Nat):w.frozen? ⟨b,j,none⟩=false:=by simp[World.frozen?,show w.heap[b]?=_ from h]
theorem zdd.set0 (h:zdd w b r) (s:ByteArray):zdd (w.setCell ⟨b,0,none⟩ ↑s) b ⟨s,r.f⟩:=by
 unfold zdd at h ⊢;simp[World.setCell,Array.getElem?_modify,h]
theorem zdd.set1 (h:zdd w b r) (f:Bool):zdd (w.setCell ⟨b,1,none⟩ ↑f) b ⟨r.s,f⟩:=by
 unfold zdd at h ⊢;simp[World.setCell,Array.getElem?_modify,h]
theorem zdd.keep {M:Nat->Prop} (h:zdd w b r) (hc:Chg M w w1) (hb:¬M b):zdd w1 b r:=(hc.block b h.lt hb).trans h
theorem zdd.below (h:zdd w b r) (hc:Below w.heap.size w w1):zdd w1 b r:=(hc.block b h.lt).trans h
end
def zvr (b:Nat) (r:RS) (v:Value) (w:World) (e:Ending) (w':World):Prop:=e=.returned v/\Chg (λk=>k=b) w w'/\zdd w' b r
theorem zxQ (s:ByteArray) (w:World):Calls Tryz.prog 13 #[↑s] w λe w'=>e=.returned (.pointer (some ⟨w.heap.size,0,none⟩))/\Below w.heap.size w w'/\zdd w' w.heap.size ⟨s,false⟩:=by
 go_in;go_wp2;go_ret;exact⟨rfl,(Below.refl _ _).alloc (Nat.le_refl _) _,heap_alloc_new w _⟩
theorem zvb (b:Nat) (r:RS) (w:World) (h:zdd w b r):Calls Tryz.prog 70 #[.pointer (some ⟨b,0,none⟩)] w (zvr b RS.bad (.tuple #[]) w):=by
 have c0:=h.c0;have c1:=h.c1;have f0:=h.fz;have H:=zz h;clear h;go_in;go_wp2;exact bodyPost_ret (v:=.tuple #[]) (by simp[results,Tryz.results70,go_sem]) rfl ⟨rfl,((Chg.refl (λk=>k=b) w).setCell (p:=⟨b,0,none⟩) (.inl rfl) _).setCell (p:=⟨b,1,none⟩) (.inl rfl) _,(H.out.set0 ⟨#[]⟩).set1 true⟩
theorem zva (b:Nat) (r:RS) (w:World) (h:zdd w b r):Calls Tryz.prog 18 #[.pointer (some ⟨b,0,none⟩)] w λe w'=>e=.returned ↑r.s.size/\w=w':=by
 have c0:=h.c0;clear h;go_in;go_wp2;go_ret;exact⟨rfl,rfl⟩
def zti (r:RS):Bool:=!r.f&&r.s.toList.isEmpty
theorem zxw (b:Nat) (r:RS) (w:World) (h:zdd w b r):Calls Tryz.prog 20 #[.pointer (some ⟨b,0,none⟩)] w λe w'=>e=.returned (.bool (zti r))/\w=w':=by
 have c0:=h.c0;have c1:=h.c1;clear h;obtain⟨s,f⟩:=r;unfold zti;cases f with
 |true=>
  go_in;go_wp2;go_ret;exact⟨rfl,rfl⟩
 |false=>
  go_in;go_wp2;go_ret;exact⟨by simp,rfl⟩
def ztZ (r:RS) (n:Int):ByteArray:=if r.f=true\/n<0\/(r.s.size:Int)<n then ⟨#[]⟩ else r.s.extract 0 n.toNat
def zuh (r:RS) (n:Int):RS:=if r.f=true\/n<0\/(r.s.size:Int)<n then RS.bad else ⟨r.s.extract n.toNat r.s.size,false⟩
theorem zvS (b:Nat) (r:RS) (n:Int) (w:World) (h:zdd w b r) (hs:r.s.size<=4294967296):Calls Tryz.prog 37 #[.pointer (some ⟨b,0,none⟩),↑n] w (zvr b (zuh r n) (.string (ztZ r n)) w):=by
 have c0:=h.c0;have c1:=h.c1;have f0:=h.fz;have HF:=zz (zvb b r w h);have H:=zz h;clear h;obtain⟨s,f⟩:=r;cases f with
 |true=>
  have HT:Hid (zuh ⟨s,true⟩ n=RS.bad/\ztZ ⟨s,true⟩ n=⟨#[]⟩):=zz (by unfold zuh ztZ;simp);go_in;go_wp2_with fail;refine zi HF ?_;rintro e w1 ⟨rfl,hc,hr⟩;have HC:=zz hc;have HR:=zz hr;clear hc hr;go_wp2;go_ret;rw[HT.out.1,HT.out.2];exact⟨rfl,HC.out,HR.out⟩
 |false=>
  by_cases h0:n<0
  ·have HT:Hid (zuh ⟨s,false⟩ n=RS.bad/\ztZ ⟨s,false⟩ n=⟨#[]⟩):=zz (by unfold zuh ztZ;simp[h0]);go_in;go_wp2_with fail;refine zi HF ?_;rintro e w1 ⟨rfl,hc,hr⟩;have HC:=zz hc;have HR:=zz hr;clear hc hr;go_wp2;go_ret;rw[HT.out.1,HT.out.2];exact⟨rfl,HC.out,HR.out⟩
  ·by_cases h1:(s.size:Int)<n
   ·have HT:Hid (zuh ⟨s,false⟩ n=RS.bad/\ztZ ⟨s,false⟩ n=⟨#[]⟩):=zz (by unfold zuh ztZ;simp[h0,h1]);have hd:decide ((s.size:Int)<n)=true:=by simpa using h1
    go_in;go_wp2_with fail;refine zi HF ?_;rintro e w1 ⟨rfl,hc,hr⟩;have HC:=zz hc;have HR:=zz hr;clear hc hr;go_wp2;go_ret;rw[HT.out.1,HT.out.2];exact⟨rfl,HC.out,HR.out⟩
   ·obtain⟨k,rfl⟩:∃k:Nat,n=(k:Int):=⟨n.toNat,zo⟩;have hk:k<=s.size:=zo
    have HT:Hid (zuh ⟨s,false⟩ (k:Int)=⟨s.extract k s.size,false⟩/\ztZ ⟨s,false⟩ (k:Int)=s.extract 0 k):=zz (by unfold zuh ztZ;simp[h0,h1]);have hd:decide ((s.size:Int)<(k:Int))=false:=by simpa using h1
    clear HF;go_in;go_wp2;go_ret;rw[HT.out.1,HT.out.2];exact⟨rfl,(Chg.refl (λk=>k=b) w).setCell (p:=⟨b,0,none⟩) (.inl rfl) _,H.out.set0 _⟩
end Go.Proofs.YtcebmphappfjjaaGreatDoor
