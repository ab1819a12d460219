/- ref01.Parse, walked (printed by wip/tools/gen_r01p.py). Conditions: those in each statement. ref01.Parse comes to what num.Parse comes to. Conditions: those in each statement. -/
import Derived.Test.YtlbmfgiepcemdaaGreatYR02R01
namespace Go.Proofs.YtlbmfgiepcemdaaGreat
open Go.RowKit

/-- what the number k comes to in ref01.Parse -/
def finR (k low high : Int) (s : ByteArray) : Int × Bool := if (ByteArray.mk (textL k).toArray).toList ≠ s.toList ∨ (k < low ∨ high < k) then (0, false) else (k, true)
def parseR (neg : Bool) (low high : Int) (s : ByteArray) : Option Int → Int × Bool
  | none => (0, false)
  | some n => match neg with
    | true => finR n low high s
    | false => if n < -9223372036854775807 then (0, false) else finR (-n) low high s
theorem finR_cases (k low high : Int) (s : ByteArray) : (((ByteArray.mk (textL k).toArray).toList == s.toList) = false → finR k low high s = (0, false)) ∧ ((k < low ∨ high < k) → finR k low high s = (0, false)) ∧ (((ByteArray.mk (textL k).toArray).toList == s.toList) = true → ¬ (k < low ∨ high < k) → finR k low high s = (k, true)) := by
  unfold finR
  refine ⟨fun h => if_pos (.inl (by simpa using h)), fun h => if_pos (.inr h), fun h h' => if_neg ?_⟩
  rintro (h1 | h1)
  · exact h1 (by simpa using h)
  · exact h' h1
def ParsePost (r : Int × Bool) (w : World) (e : Ending) (w' : World) : Prop := e = .returned (.tuple #[.int .i64 r.1, .bool r.2]) ∧ Below w.heap.size w w'

set_option maxHeartbeats 2000000 in
set_option maxRecDepth 100000 in
theorem rparse_none (s : ByteArray) (low high : Int) (w : World) (h0 : s.size = 0) :
    Calls Tryz.prog 76 #[.string s, .int .i64 low, .int .i64 high] w (ParsePost (parseR false low high s (digs s.data.toList 0)) w) := by
  have HI := Lib.hid (index_str s)
  have HTX := Lib.hid rtxt_any
  have hle : ¬ (0 : Int) < s.size := by omega
  have hld : decide (0 < s.size) = false := decide_eq_false (by omega)
  go_enter Tryz.func76, Tryz.ntmps76
  go_wp2_with fail
  go_loopw [11, 12] (fun s11 s12 wr => ∃ (i : Nat) (n : Int), s12 = .int .i64 i ∧ s11 = .int .i64 n ∧ -9223372036854775807 ≤ n + 1 ∧ n ≤ 0 ∧ i ≤ s.size ∧ wr = w ∧ Hid (digs s.data.toList 0 = digs (s.data.toList.drop i) n)) (fun _ s12 _ => s.size - (intOf s12).toNat)
  case atStart => exact ⟨0, 0, rfl, rfl, by omega, by omega, by omega, rfl, Lib.hid (by rw [List.drop_zero])⟩
  case round =>
    obtain ⟨i, n, rfl, rfl, hn1, hn0, hp, rfl, HD⟩ := hrel
    first | clear hi0 | skip
    by_cases hlt : i < s.size
    · exact absurd hlt (by omega)
    · have HE := Lib.hid (HD.out.trans (digs_end (by rw [size_toList]; exact hlt) n))
      clear HD HI
      by_cases hmin : n < -9223372036854775807
      · have HP : Hid (parseR false low high s (some n) = (0, false)) := Lib.hid (if_pos hmin)
        obtain rfl : n = -9223372036854775808 := by omega
        go_wp2_with fail
        go_ret2
        exact ⟨by rw [HE.out, HP.out]; rfl, Below.refl _ _⟩
      · have HP : Hid (parseR false low high s (some n) = finR (-n) low high s) := Lib.hid (if_neg hmin)
        have hmb : (n == -9223372036854775808) = false := by simp; omega
        have HC := Lib.hid (HTX.out (-n) wr (by omega) (by omega))
        have HQ := Lib.hid (finR_cases (-n) low high s)
        obtain ⟨V, hV⟩ : ∃ V : ByteArray, ⟨(textL (-n)).toArray⟩ = V := ⟨_, rfl⟩
        rw [hV] at HC HQ
        clear hV
        cases hq : (V.toList == s.toList) with
        | false =>
          have hq' : (V.toList != s.toList) = true := by simp [bne, hq]
          have HR := Lib.hid (HQ.out.1 hq)
          clear HQ
          go_wp2_with fail
          (with_reducible refine HC.out.mono ?_)
          rintro e w1 ⟨rfl, hb⟩
          have HB := Lib.hid hb
          clear hb
          go_wp2_with fail
          go_ret2
          exact ⟨by rw [HE.out, HP.out, HR.out]; rfl, HB.out⟩
        | true =>
          have hq' : (V.toList != s.toList) = false := by simp [bne, hq]
          by_cases ho : -n < low ∨ high < -n
          · have HR := Lib.hid (HQ.out.2.1 ho)
            clear HQ
            rcases (show -n < low ∨ (¬ -n < low ∧ high < -n) by omega) with h | ⟨h, h'⟩
            all_goals
              clear ho
              go_wp2_with fail
              (with_reducible refine HC.out.mono ?_)
              rintro e w1 ⟨rfl, hb⟩
              have HB := Lib.hid hb
              clear hb
              go_wp2_with fail
              go_ret2
              exact ⟨by rw [HE.out, HP.out, HR.out]; rfl, HB.out⟩
          · have HR := Lib.hid (HQ.out.2.2 hq ho)
            have h1 : ¬ -n < low := fun h => ho (.inl h)
            have h2 : ¬ high < -n := fun h => ho (.inr h)
            clear HQ ho
            go_wp2_with fail
            (with_reducible refine HC.out.mono ?_)
            rintro e w1 ⟨rfl, hb⟩
            have HB := Lib.hid hb
            clear hb
            go_wp2_with fail
            go_ret2
            exact ⟨by rw [HE.out, HP.out, HR.out]; rfl, HB.out⟩

set_option maxHeartbeats 2000000 in
set_option maxRecDepth 100000 in
theorem rparse_pos (s : ByteArray) (low high : Int) (w : World) (hs : s.size ≤ 2097152) (h0 : 0 < s.size) (hm : ¬ byteAt s 0 = 45) :
    Calls Tryz.prog 76 #[.string s, .int .i64 low, .int .i64 high] w (ParsePost (parseR false low high s (digs s.data.toList 0)) w) := by
  have HI := Lib.hid (index_str s)
  have HTX := Lib.hid rtxt_any
  have hne : ¬ s.toList = [] := fun h => by
    rw [ByteArray.toList_eq] at h
    have := size_toList s
    rw [h] at this
    simp at this; omega
  have hemp : s.toList.isEmpty = false := by simpa using hne
  have hi0 : (Instr.index 9 (.string s) (.int .i64 0)).run Tryz.prog w = .ok (.int .u8 (byteAt s 0)) w := by simpa using index_str s 0 h0 w
  have e45 : (byteAt s 0 == 45) = false := by simpa using hm
  obtain ⟨X0, hX0⟩ : ∃ X, byteAt s 0 = X := ⟨_, rfl⟩
  rw [hX0] at hi0 e45
  have hgt : (0 : Int) < s.size := by omega
  clear hX0 hm
  go_enter Tryz.func76, Tryz.ntmps76
  go_wp2_with fail
  go_loopw [11, 12] (fun s11 s12 wr => ∃ (i : Nat) (n : Int), s12 = .int .i64 i ∧ s11 = .int .i64 n ∧ -9223372036854775807 ≤ n + 1 ∧ n ≤ 0 ∧ i ≤ s.size ∧ wr = w ∧ Hid (digs s.data.toList 0 = digs (s.data.toList.drop i) n)) (fun _ s12 _ => s.size - (intOf s12).toNat)
  case atStart => exact ⟨0, 0, rfl, rfl, by omega, by omega, by omega, rfl, Lib.hid (by rw [List.drop_zero])⟩
  case round =>
    obtain ⟨i, n, rfl, rfl, hn1, hn0, hp, rfl, HD⟩ := hrel
    first | clear hi0 | skip
    by_cases hlt : i < s.size
    · have hix := HI.out i hlt wr
      have HS := Lib.hid (HD.out.trans (digs_step (by rw [size_toList]; exact hlt) n))
      rw [show ((s.data.toList.getD i 0).toNat : Int) = byteAt s i from rfl] at HS
      have hbr := byteAt_range s i
      obtain ⟨X, hX⟩ : ∃ X, byteAt s i = X := ⟨_, rfl⟩
      rw [hX] at hix HS hbr
      clear hX HI
      obtain ⟨hb0, hb1⟩ := hbr
      by_cases hd : 48 ≤ X ∧ X ≤ 57
      · obtain ⟨d1, d2⟩ := hd
        have k1 : ¬ X - 48 < 0 := by omega
        have k2 : ¬ 9 < X - 48 := by omega
        by_cases ht : n < (-9223372036854775808 + (X - 48)).tdiv 10
        · have HE : Hid (digs s.data.toList 0 = none) := Lib.hid (by
            rw [HS.out]; unfold digStep; rw [if_neg (by omega), if_pos ht]; rfl)
          clear HS HD
          go_wp2_with fail
          go_ret2
          exact ⟨by rw [HE.out]; rfl, Below.refl _ _⟩
        · have hq : -9223372036854775807 ≤ n * 10 - (X - 48) + 1 ∧ n * 10 - (X - 48) ≤ 0 := by
            rw [tdiv10 (by omega)] at ht
            omega
          have HE : Hid (digs s.data.toList 0 = digs (s.data.toList.drop (i + 1)) (10 * n - (X - 48))) := Lib.hid (by
            rw [HS.out]; unfold digStep; rw [if_neg (by omega), if_neg ht, Int.mul_comm n 10]; rfl)
          clear HS HD
          go_wp2_with fail
          exact ⟨⟨i + 1, _, by go_num, rfl, by omega, by omega, by omega, trivial, HE⟩, by simp [intOf]; omega⟩
      · have HE : Hid (digs s.data.toList 0 = none) := Lib.hid (by
          rw [HS.out]; unfold digStep; rw [if_pos (by omega)]; rfl)
        clear HS HD
        rcases (show X - 48 < 0 ∨ (¬ X - 48 < 0 ∧ 9 < X - 48) by omega) with h | ⟨h, h'⟩
        all_goals
          clear hd
          go_wp2_with fail
          go_ret2
          exact ⟨by rw [HE.out]; rfl, Below.refl _ _⟩
    · have HE := Lib.hid (HD.out.trans (digs_end (by rw [size_toList]; exact hlt) n))
      clear HD HI
      by_cases hmin : n < -9223372036854775807
      · have HP : Hid (parseR false low high s (some n) = (0, false)) := Lib.hid (if_pos hmin)
        obtain rfl : n = -9223372036854775808 := by omega
        go_wp2_with fail
        go_ret2
        exact ⟨by rw [HE.out, HP.out]; rfl, Below.refl _ _⟩
      · have HP : Hid (parseR false low high s (some n) = finR (-n) low high s) := Lib.hid (if_neg hmin)
        have hmb : (n == -9223372036854775808) = false := by simp; omega
        have HC := Lib.hid (HTX.out (-n) wr (by omega) (by omega))
        have HQ := Lib.hid (finR_cases (-n) low high s)
        obtain ⟨V, hV⟩ : ∃ V : ByteArray, ⟨(textL (-n)).toArray⟩ = V := ⟨_, rfl⟩
        rw [hV] at HC HQ
        clear hV
        cases hq : (V.toList == s.toList) with
        | false =>
          have hq' : (V.toList != s.toList) = true := by simp [bne, hq]
          have HR := Lib.hid (HQ.out.1 hq)
          clear HQ
          go_wp2_with fail
          (with_reducible refine HC.out.mono ?_)
          rintro e w1 ⟨rfl, hb⟩
          have HB := Lib.hid hb
          clear hb
          go_wp2_with fail
          go_ret2
          exact ⟨by rw [HE.out, HP.out, HR.out]; rfl, HB.out⟩
        | true =>
          have hq' : (V.toList != s.toList) = false := by simp [bne, hq]
          by_cases ho : -n < low ∨ high < -n
          · have HR := Lib.hid (HQ.out.2.1 ho)
            clear HQ
            rcases (show -n < low ∨ (¬ -n < low ∧ high < -n) by omega) with h | ⟨h, h'⟩
            all_goals
              clear ho
              go_wp2_with fail
              (with_reducible refine HC.out.mono ?_)
              rintro e w1 ⟨rfl, hb⟩
              have HB := Lib.hid hb
              clear hb
              go_wp2_with fail
              go_ret2
              exact ⟨by rw [HE.out, HP.out, HR.out]; rfl, HB.out⟩
          · have HR := Lib.hid (HQ.out.2.2 hq ho)
            have h1 : ¬ -n < low := fun h => ho (.inl h)
            have h2 : ¬ high < -n := fun h => ho (.inr h)
            clear HQ ho
            go_wp2_with fail
            (with_reducible refine HC.out.mono ?_)
            rintro e w1 ⟨rfl, hb⟩
            have HB := Lib.hid hb
            clear hb
            go_wp2_with fail
            go_ret2
            exact ⟨by rw [HE.out, HP.out, HR.out]; rfl, HB.out⟩

set_option maxHeartbeats 2000000 in
set_option maxRecDepth 100000 in
theorem rparse_neg (s : ByteArray) (low high : Int) (w : World) (hs : s.size ≤ 2097152) (h0 : 0 < s.size) (hm : byteAt s 0 = 45) :
    Calls Tryz.prog 76 #[.string s, .int .i64 low, .int .i64 high] w (ParsePost (parseR true low high s (digs (s.extract 1 s.size).data.toList 0)) w) := by
  have HI := Lib.hid (index_str (s.extract 1 s.size))
  have HTX := Lib.hid rtxt_any
  have hne : ¬ s.toList = [] := fun h => by
    rw [ByteArray.toList_eq] at h
    have := size_toList s
    rw [h] at this
    simp at this; omega
  have hemp : s.toList.isEmpty = false := by simpa using hne
  have hi0 : (Instr.index 9 (.string s) (.int .i64 0)).run Tryz.prog w = .ok (.int .u8 (byteAt s 0)) w := by simpa using index_str s 0 h0 w
  have e45 : (byteAt s 0 == 45) = true := by simpa using hm
  obtain ⟨X0, hX0⟩ : ∃ X, byteAt s 0 = X := ⟨_, rfl⟩
  rw [hX0] at hi0 e45
  have hgt : (0 : Int) < s.size := by omega
  have hge : (1 : Int) ≤ s.size := by omega
  have hTs : (s.extract 1 s.size).size ≤ 2097152 := by rw [ByteArray.size_extract]; omega
  obtain ⟨T, hT⟩ : ∃ T, s.extract 1 s.size = T := ⟨_, rfl⟩
  rw [hT] at hTs HI ⊢
  clear hX0 hm
  go_enter Tryz.func76, Tryz.ntmps76
  go_wp2_with fail
  clear hT
  go_loopw [11, 12] (fun s11 s12 wr => ∃ (i : Nat) (n : Int), s12 = .int .i64 i ∧ s11 = .int .i64 n ∧ -9223372036854775807 ≤ n + 1 ∧ n ≤ 0 ∧ i ≤ T.size ∧ wr = w ∧ Hid (digs T.data.toList 0 = digs (T.data.toList.drop i) n)) (fun _ s12 _ => T.size - (intOf s12).toNat)
  case atStart => exact ⟨0, 0, rfl, rfl, by omega, by omega, by omega, rfl, Lib.hid (by rw [List.drop_zero])⟩
  case round =>
    obtain ⟨i, n, rfl, rfl, hn1, hn0, hp, rfl, HD⟩ := hrel
    first | clear hi0 | skip
    by_cases hlt : i < T.size
    · have hix := HI.out i hlt wr
      have HS := Lib.hid (HD.out.trans (digs_step (by rw [size_toList]; exact hlt) n))
      rw [show ((T.data.toList.getD i 0).toNat : Int) = byteAt T i from rfl] at HS
      have hbr := byteAt_range T i
      obtain ⟨X, hX⟩ : ∃ X, byteAt T i = X := ⟨_, rfl⟩
      rw [hX] at hix HS hbr
      clear hX HI
      obtain ⟨hb0, hb1⟩ := hbr
      by_cases hd : 48 ≤ X ∧ X ≤ 57
      · obtain ⟨d1, d2⟩ := hd
        have k1 : ¬ X - 48 < 0 := by omega
        have k2 : ¬ 9 < X - 48 := by omega
        by_cases ht : n < (-9223372036854775808 + (X - 48)).tdiv 10
        · have HE : Hid (digs T.data.toList 0 = none) := Lib.hid (by
            rw [HS.out]; unfold digStep; rw [if_neg (by omega), if_pos ht]; rfl)
          clear HS HD
          go_wp2_with fail
          go_ret2
          exact ⟨by rw [HE.out]; rfl, Below.refl _ _⟩
        · have hq : -9223372036854775807 ≤ n * 10 - (X - 48) + 1 ∧ n * 10 - (X - 48) ≤ 0 := by
            rw [tdiv10 (by omega)] at ht
            omega
          have HE : Hid (digs T.data.toList 0 = digs (T.data.toList.drop (i + 1)) (10 * n - (X - 48))) := Lib.hid (by
            rw [HS.out]; unfold digStep; rw [if_neg (by omega), if_neg ht, Int.mul_comm n 10]; rfl)
          clear HS HD
          go_wp2_with fail
          exact ⟨⟨i + 1, _, by go_num, rfl, by omega, by omega, by omega, trivial, HE⟩, by simp [intOf]; omega⟩
      · have HE : Hid (digs T.data.toList 0 = none) := Lib.hid (by
          rw [HS.out]; unfold digStep; rw [if_pos (by omega)]; rfl)
        clear HS HD
        rcases (show X - 48 < 0 ∨ (¬ X - 48 < 0 ∧ 9 < X - 48) by omega) with h | ⟨h, h'⟩
        all_goals
          clear hd
          go_wp2_with fail
          go_ret2
          exact ⟨by rw [HE.out]; rfl, Below.refl _ _⟩
    · have HE := Lib.hid (HD.out.trans (digs_end (by rw [size_toList]; exact hlt) n))
      clear HD HI
      have HP : Hid (parseR true low high s (some n) = finR n low high s) := Lib.hid rfl
      have HC := Lib.hid (HTX.out (n) wr (by omega) (by omega))
      have HQ := Lib.hid (finR_cases (n) low high s)
      obtain ⟨V, hV⟩ : ∃ V : ByteArray, ⟨(textL (n)).toArray⟩ = V := ⟨_, rfl⟩
      rw [hV] at HC HQ
      clear hV
      cases hq : (V.toList == s.toList) with
      | false =>
        have hq' : (V.toList != s.toList) = true := by simp [bne, hq]
        have HR := Lib.hid (HQ.out.1 hq)
        clear HQ
        go_wp2_with fail
        (with_reducible refine HC.out.mono ?_)
        rintro e w1 ⟨rfl, hb⟩
        have HB := Lib.hid hb
        clear hb
        go_wp2_with fail
        go_ret2
        exact ⟨by rw [HE.out, HP.out, HR.out]; rfl, HB.out⟩
      | true =>
        have hq' : (V.toList != s.toList) = false := by simp [bne, hq]
        by_cases ho : n < low ∨ high < n
        · have HR := Lib.hid (HQ.out.2.1 ho)
          clear HQ
          rcases (show n < low ∨ (¬ n < low ∧ high < n) by omega) with h | ⟨h, h'⟩
          all_goals
            clear ho
            go_wp2_with fail
            (with_reducible refine HC.out.mono ?_)
            rintro e w1 ⟨rfl, hb⟩
            have HB := Lib.hid hb
            clear hb
            go_wp2_with fail
            go_ret2
            exact ⟨by rw [HE.out, HP.out, HR.out]; rfl, HB.out⟩
        · have HR := Lib.hid (HQ.out.2.2 hq ho)
          have h1 : ¬ n < low := fun h => ho (.inl h)
          have h2 : ¬ high < n := fun h => ho (.inr h)
          clear HQ ho
          go_wp2_with fail
          (with_reducible refine HC.out.mono ?_)
          rintro e w1 ⟨rfl, hb⟩
          have HB := Lib.hid hb
          clear hb
          go_wp2_with fail
          go_ret2
          exact ⟨by rw [HE.out, HP.out, HR.out]; rfl, HB.out⟩

end Go.Proofs.YtlbmfgiepcemdaaGreat
namespace Go.Proofs.YtlbmfgiepcemdaaGreat
open Go.RowKit

theorem digs_app : ∀ (a b : List UInt8) (n : Int), digs (a ++ b) n = (digs a n).bind (digs b)
  | [], b, n => rfl
  | c :: a, b, n => by
    rw [List.cons_append, digs, digs]
    cases digStep n (c.toNat : Int) with
    | none => rfl
    | some m => exact digs_app a b m
theorem digStep_some {n c m : Int} (h : digStep n c = some m) : 48 ≤ c ∧ c ≤ 57 ∧ m = n * 10 - (c - 48) ∧ ¬ n < (-9223372036854775808 + (c - 48)).tdiv 10 := by
  unfold digStep at h
  split at h
  · cases h
  · split at h
    · cases h
    · rename_i h1 h2
      exact ⟨by omega, by omega, (Option.some.inj h).symm, h2⟩
theorem digStep_range {n c m : Int} (h : digStep n c = some m) (hn : n ≤ 0) : -9223372036854775807 ≤ m + 1 ∧ m ≤ 0 := by
  obtain ⟨h1, h2, h3, h4⟩ := digStep_some h
  rw [tdiv10 (by omega)] at h4
  omega
theorem digs_range : ∀ (t : List UInt8) (n m : Int), digs t n = some m → -9223372036854775807 ≤ n + 1 → n ≤ 0 → -9223372036854775807 ≤ m + 1 ∧ m ≤ 0
  | [], n, m, h, h1, h2 => by rw [digs] at h; rw [← Option.some.inj h]; exact ⟨h1, h2⟩
  | c :: t, n, m, h, h1, h2 => by
    rw [digs] at h
    cases hd : digStep n (c.toNat : Int) with
    | none => rw [hd] at h; cases h
    | some k =>
      rw [hd] at h
      have := digStep_range hd h2
      exact digs_range t k m h this.1 this.2
theorem digs_snoc {t : List UInt8} {c : UInt8} {n : Int} (h : digs (t ++ [c]) 0 = some n) : ∃ k, digs t 0 = some k ∧ 48 ≤ (c.toNat : Int) ∧ (c.toNat : Int) ≤ 57 ∧ n = k * 10 - ((c.toNat : Int) - 48) ∧ k ≤ 0 := by
  rw [digs_app] at h
  cases hk : digs t 0 with
  | none => rw [hk] at h; cases h
  | some k =>
    rw [hk] at h
    have h' : (digStep k (c.toNat : Int)).bind (digs []) = some n := h
    cases hd : digStep k (c.toNat : Int) with
    | none => rw [hd] at h'; cases h'
    | some j =>
      rw [hd] at h'
      have e : j = n := Option.some.inj h'
      obtain ⟨h1, h2, h3, _⟩ := digStep_some hd
      exact ⟨k, rfl, h1, h2, by omega, (digs_range t 0 k hk (by omega) (by omega)).2⟩
theorem concat_cases {α : Type} (l : List α) : l = [] ∨ ∃ t c, l = t ++ [c] := by
  rcases List.eq_nil_or_concat l with h | ⟨t, c, h⟩
  · exact .inl h
  · exact .inr ⟨t, c, by rw [h]; simp⟩
/-- digits that do not begin with a zero are not all zero -/
theorem digs_pos : ∀ (N : Nat) (t : List UInt8) (n : Int), t.length ≤ N → digs t 0 = some n → t ≠ [] → ¬ t.getD 0 0 = 48 → n < 0
  | 0, t, n, hN, _, hne, _ => absurd (List.eq_nil_of_length_eq_zero (by omega)) hne
  | N + 1, t, n, hN, hd, hne, hz => by
    rcases concat_cases t with rfl | ⟨q, c, rfl⟩
    · exact absurd rfl hne
    · obtain ⟨k, hk, h1, h2, h3, h4⟩ := digs_snoc hd
      cases q with
      | nil =>
        have e : some 0 = some k := hk
        have e2 := Option.some.inj e
        have hc : ¬ (c.toNat : Int) = 48 := fun h => hz (UInt8.toNat_inj.1 (by
          show c.toNat = 48
          omega))
        omega
      | cons a q =>
        have := digs_pos N (a :: q) k (by simp at hN ⊢; omega) hk (by simp) hz
        omega
theorem decU_digs : ∀ (f : Nat) (t : List UInt8) (n : Int), digs t 0 = some n → t ≠ [] → ¬ t.getD 0 0 = 48 → (-n).toNat < 10 ^ f → decU f (-n).toNat = t
  | 0, t, n, hd, hne, hz, hf => by
    have := digs_pos _ t n (Nat.le_refl _) hd hne hz
    rw [Nat.pow_zero] at hf
    omega
  | f + 1, t, n, hd, hne, hz, hf => by
    rcases concat_cases t with rfl | ⟨q, c, rfl⟩
    · exact absurd rfl hne
    · obtain ⟨k, hk, h1, h2, h3, h4⟩ := digs_snoc hd
      have hc : UInt8.ofNat (48 + ((c.toNat : Int) - 48).toNat) = c := by
        apply UInt8.toNat_inj.1
        rw [UInt8.toNat_ofNat']
        have := c.toNat_lt
        omega
      cases q with
      | nil =>
        have e : some 0 = some k := hk
        have e2 := Option.some.inj e
        rw [decU, if_pos (by omega)]
        have : 48 + (-n).toNat = 48 + ((c.toNat : Int) - 48).toNat := by omega
        rw [this, hc]; rfl
      | cons a q =>
        have hp := digs_pos _ (a :: q) k (Nat.le_refl _) hk (by simp) hz
        have hv : (-n).toNat / 10 = (-k).toNat := by omega
        have hr : (-n).toNat % 10 = ((c.toNat : Int) - 48).toNat := by omega
        have hf2 : (-k).toNat < 10 ^ f := by
          rw [← hv]
          rw [Nat.pow_succ] at hf
          exact Nat.div_lt_of_lt_mul (by rw [Nat.mul_comm]; exact hf)
        rw [decU, if_neg (by omega), hv, hr, hc, decU_digs f (a :: q) k hk (by simp) hz hf2]
theorem getD_app {a b : List UInt8} (h : a ≠ []) : (a ++ b).getD 0 0 = a.getD 0 0 := by
  cases a with
  | nil => exact absurd rfl h
  | cons x a => rfl
/-- no number but 0 begins with a zero -/
theorem decU_head : ∀ (f m : Nat), 0 < m → m < 10 ^ f → decU f m ≠ [] ∧ ¬ (decU f m).getD 0 0 = 48
  | 0, m, h, h1 => by rw [Nat.pow_zero] at h1; omega
  | f + 1, m, h, h1 => by
    rw [decU]
    by_cases h10 : m < 10
    · rw [if_pos h10]
      refine ⟨by simp, fun e => ?_⟩
      have e2 : (UInt8.ofNat (48 + m)).toNat = (48 : UInt8).toNat := congrArg UInt8.toNat e
      rw [UInt8.toNat_ofNat'] at e2
      have e3 : (48 : UInt8).toNat = 48 := rfl
      omega
    · have h2 : m / 10 < 10 ^ f := by
        rw [Nat.pow_succ] at h1
        exact Nat.div_lt_of_lt_mul (by rw [Nat.mul_comm]; exact h1)
      obtain ⟨h3, h4⟩ := decU_head f (m / 10) (by omega) h2
      rw [if_neg h10, getD_app h3]
      exact ⟨by simp, h4⟩
theorem decU_zero (f : Nat) : decU (f + 1) 0 = [48] := rfl
/-- digits that begin with a zero, and are more than that, are no number's form -/
theorem decU_lead {m : Nat} {t : List UInt8} (hm : m < 10 ^ 20) (h2 : 2 ≤ t.length) (h0 : t.getD 0 0 = 48) : decU 20 m ≠ t := by
  intro h
  rcases Nat.eq_zero_or_pos m with rfl | hp
  · rw [decU_zero] at h
    rw [← h] at h2
    simp at h2
  · have := (decU_head 20 m hp hm).2
    rw [h] at this
    exact this h0
theorem pow20 : 10 ^ 20 = 100000000000000000000 := by decide
theorem mk_toList (l : List UInt8) : (ByteArray.mk l.toArray).toList = l := by rw [ByteArray.toList_eq]
theorem byteAt_48 {s : ByteArray} {i : Nat} : byteAt s i = 48 ↔ s.data.toList.getD i 0 = 48 := by
  unfold byteAt
  constructor
  · intro h
    apply UInt8.toNat_inj.1
    have e3 : (48 : UInt8).toNat = 48 := rfl
    omega
  · intro h; rw [h]; rfl
theorem finR_no {k low high : Int} {s : ByteArray} (h : textL k ≠ s.data.toList) : finR k low high s = (0, false) := by
  unfold finR
  rw [mk_toList, ByteArray.toList_eq]
  exact if_pos (.inl h)
theorem finR_yes {k low high : Int} {s : ByteArray} (h : textL k = s.data.toList) : finR k low high s = if k < low ∨ high < k then (0, false) else (k, true) := by
  unfold finR
  rw [mk_toList, ByteArray.toList_eq]
  by_cases hk : k < low ∨ high < k
  · rw [if_pos (.inr hk), if_pos hk]
  · rw [if_neg (fun h2 => h2.elim (fun h3 => h3 h) hk), if_neg hk]
theorem parseR_none (s : ByteArray) (low high : Int) (h0 : s.size = 0) : parseR false low high s (digs s.data.toList 0) = parseS s low high := by
  have he : s.data.toList = [] := List.eq_nil_of_length_eq_zero (by rw [size_toList]; exact h0)
  unfold parseS
  rw [if_pos h0, he, digs]
  show (if (0 : Int) < -9223372036854775807 then ((0 : Int), false) else finR (-0) low high s) = (0, false)
  rw [if_neg (by decide)]
  exact finR_no (by rw [he]; decide)
theorem parseR_pos (s : ByteArray) (low high : Int) (h0 : 0 < s.size) (hm : ¬ byteAt s 0 = 45) : parseR false low high s (digs s.data.toList 0) = parseS s low high := by
  have hl := size_toList s
  have hne : s.data.toList ≠ [] := fun h => by rw [h] at hl; simp at hl; omega
  unfold parseS
  rw [if_neg (by omega), if_neg hm]
  cases hd : digs s.data.toList 0 with
  | none => split <;> rfl
  | some n =>
    have hr := digs_range _ _ _ hd (by omega) (by omega)
    have e20 := pow20
    show (if n < -9223372036854775807 then ((0 : Int), false) else finR (-n) low high s) = _
    have ht : textL (-n) = decU 20 (-n).toNat := by unfold textL; rw [if_neg (by omega)]
    by_cases hz : byteAt s 0 = 48 ∧ ¬ s.size = 1
    · rw [if_pos hz]
      have := finR_no (k := -n) (low := low) (high := high) (s := s) (by
        rw [ht]
        exact decU_lead (by omega) (by omega) (byteAt_48.1 hz.1))
      rw [this]
      split <;> rfl
    · rw [if_neg hz]
      show _ = (if n < -9223372036854775807 then ((0 : Int), false) else if -n < low ∨ high < -n then (0, false) else (-n, true))
      rw [finR_yes]
      rw [ht]
      by_cases h48 : byteAt s 0 = 48
      · have h1 : s.size = 1 := Classical.byContradiction fun h => hz ⟨h48, h⟩
        obtain rfl := str_one h1 h48
        have e : digs (ByteArray.mk #[48]).data.toList 0 = some 0 := by decide
        rw [e] at hd
        obtain rfl := Option.some.inj hd
        rfl
      · exact decU_digs 20 _ n hd hne (fun h => h48 (byteAt_48.2 h)) (by omega)
theorem ext1 {s : ByteArray} (h0 : 0 < s.size) (hm : byteAt s 0 = 45) : s.data.toList = 45 :: (s.extract 1 s.size).data.toList := by
  have h1 : (s.extract 1 s.size).data.toList = s.data.toList.drop 1 := by
    rw [ByteArray.data_extract, Array.toList_extract, List.extract_eq_take_drop, List.take_of_length_le]
    rw [List.length_drop, size_toList]; omega
  rw [h1]
  have hl := size_toList s
  unfold byteAt at hm
  revert hl hm
  generalize s.data.toList = l
  intro hm hl
  cases l with
  | nil => simp at hl; omega
  | cons x r =>
    have : x = 45 := by
      apply UInt8.toNat_inj.1
      have e3 : (45 : UInt8).toNat = 45 := rfl
      have hm2 : (x.toNat : Int) = 45 := hm
      omega
    rw [this]; rfl
theorem parseR_neg (s : ByteArray) (low high : Int) (h0 : 0 < s.size) (hm : byteAt s 0 = 45) : parseR true low high s (digs (s.extract 1 s.size).data.toList 0) = parseS s low high := by
  have hl := size_toList s
  have hx := ext1 h0 hm
  unfold parseS
  rw [if_neg (by omega), if_pos hm]
  have h48 : byteAt s 1 = 48 ↔ (s.extract 1 s.size).data.toList.getD 0 0 = 48 := by
    rw [byteAt_48, hx]; rfl
  have hlen : s.size = (s.extract 1 s.size).data.toList.length + 1 := by
    have := congrArg List.length hx
    rw [List.length_cons] at this
    omega
  have hlen1 : s.size = 1 ↔ (s.extract 1 s.size).data.toList = [] := by
    constructor
    · intro h; exact List.eq_nil_of_length_eq_zero (by omega)
    · intro h; rw [h] at hlen; simpa using hlen
  have hcond : (s.size = 1 ∨ byteAt s 1 = 48) ↔ ((s.extract 1 s.size).data.toList = [] ∨ (s.extract 1 s.size).data.toList.getD 0 0 = 48) := by rw [h48, hlen1]
  clear h48 hlen1
  generalize (s.extract 1 s.size).data.toList = t at *
  cases hd : digs t 0 with
  | none => split <;> rfl
  | some n =>
    have hr := digs_range _ _ _ hd (by omega) (by omega)
    have e20 := pow20
    show finR n low high s = _
    by_cases hz : t = [] ∨ t.getD 0 0 = 48
    · rw [if_pos (hcond.2 hz)]
      refine finR_no ?_
      rw [hx]
      unfold textL
      by_cases hn : n < 0
      · rw [if_pos hn]
        intro h
        injection h with _ h
        rcases hz with rfl | hz
        · have := (decU_head 20 (-n).toNat (by omega) (by omega)).1
          exact this h
        · have := (decU_head 20 (-n).toNat (by omega) (by omega)).2
          rw [h] at this
          exact this hz
      · obtain rfl : n = 0 := by omega
        rw [if_neg hn]
        intro h
        injection h with h _
        exact absurd h (by decide)
    · rw [if_neg (fun h => hz (hcond.1 h))]
      have hne : t ≠ [] := fun h => hz (.inl h)
      have hh : ¬ t.getD 0 0 = 48 := fun h => hz (.inr h)
      have hn := digs_pos _ t n (Nat.le_refl _) hd hne hh
      rw [finR_yes]
      · rfl
      · rw [hx]
        unfold textL
        rw [if_pos hn, decU_digs 20 t n hd hne hh (by omega)]
/-- ref01.Parse -/
theorem rparse_any (s : ByteArray) (low high : Int) (w : World) (hs : s.size ≤ 2097152) :
    Calls Tryz.prog 76 #[.string s, .int .i64 low, .int .i64 high] w (ParsePost (parseS s low high) w) := by
  rcases Nat.eq_zero_or_pos s.size with h0 | h0
  · rw [← parseR_none s low high h0]; exact rparse_none s low high w h0
  · by_cases hm : byteAt s 0 = 45
    · rw [← parseR_neg s low high h0 hm]; exact rparse_neg s low high w hs h0 hm
    · rw [← parseR_pos s low high h0 hm]; exact rparse_pos s low high w hs h0 hm
end Go.Proofs.YtlbmfgiepcemdaaGreat
