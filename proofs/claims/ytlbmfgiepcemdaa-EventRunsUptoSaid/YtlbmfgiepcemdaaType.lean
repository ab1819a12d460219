/- value.isType, value.inRange. Conditions: those in each statement. -/
import Derived.Test.YtlbmfgiepcemdaaValid
namespace Go.Proofs.Ytlbmfgiepcemdaa
open Go.RowKit

/-- a byte of a string, as a number -/
def byteAt (s : ByteArray) (i : Nat) : Int := ((s.data.toList.getD i 0).toNat : Int)
theorem byteAt_range (s : ByteArray) (i : Nat) : 0 ≤ byteAt s i ∧ byteAt s i ≤ 255 := by
  unfold byteAt
  have := (s.data.toList.getD i 0).toNat_lt
  omega
theorem index_str (s : ByteArray) (i : Nat) (hi : i < s.size) (w : World) : (Instr.index 9 (.string s) (.int .i64 (i : Int))).run Try.prog w = .ok (.int .u8 (byteAt s i)) w := by
  rw [run_index_string w _ s _ _ Try.underlying9]
  have h : (0 : Int) ≤ (i : Int) ∧ (i : Int) < s.size := by omega
  rw [dif_pos h]
  have e : s.data.toList.getD i 0 = s[i]'hi := by
    rw [List.getD_eq_getElem?_getD, Array.getElem?_toList]
    have h2 : i < s.data.size := hi
    rw [Array.getElem?_eq_getElem h2]; rfl
  unfold byteAt
  rw [e]; rfl

/-- a byte of a name -/
def nameC (X : Int) : Bool := decide (97 ≤ X ∧ X ≤ 122 ∨ 65 ≤ X ∧ X ≤ 90 ∨ 48 ≤ X ∧ X ≤ 57 ∨ X = 95)
/-- value.isType -/
def isTypeS (s : ByteArray) : Bool := decide (0 < s.size ∧ 65 ≤ byteAt s 0 ∧ byteAt s 0 ≤ 90 ∧ ∀ i, i < s.size → nameC (byteAt s i) = true)

set_option maxHeartbeats 1000000 in
set_option maxRecDepth 100000 in
theorem isType_any (s : ByteArray) (w : World) (hs : s.size ≤ 2097152) : Calls Try.prog 65 #[.string s] w fun e w' => e = .returned (.bool (isTypeS s)) ∧ w = w' := by
  rcases Nat.eq_zero_or_pos s.size with h0 | h0
  · have HE : Hid (isTypeS s = false) := Lib.hid (by unfold isTypeS; simp; omega)
    have he : s.toList = [] := by rw [ByteArray.toList_eq]; exact List.eq_nil_of_length_eq_zero (by rw [size_toList]; exact h0)
    go_enter Try.func65, Try.ntmps65
    go_wp2_with fail
    go_ret
    exact ⟨by rw [HE.out]; rfl, rfl⟩
  · have hne : ¬ s.toList = [] := fun h => by
      rw [ByteArray.toList_eq] at h
      have := size_toList s
      rw [h] at this
      simp at this; omega
    have hemp : s.toList.isEmpty = false := by simpa using hne
    have hi0 : (Instr.index 9 (.string s) (.int .i64 0)).run Try.prog w = .ok (.int .u8 (byteAt s 0)) w := by simpa using index_str s 0 h0 w
    have hr0 := byteAt_range s 0
    have HI := Lib.hid (index_str s)
    have HT : Hid (isTypeS s = decide (0 < s.size ∧ 65 ≤ byteAt s 0 ∧ byteAt s 0 ≤ 90 ∧ ∀ i, i < s.size → nameC (byteAt s i) = true)) := Lib.hid rfl
    obtain ⟨X0, hX0⟩ : ∃ X, byteAt s 0 = X := ⟨_, rfl⟩
    rw [hX0] at hi0 hr0 HT
    clear hX0
    generalize isTypeS s = R at *
    by_cases hu : 65 ≤ X0 ∧ X0 ≤ 90
    · obtain ⟨hu1, hu2⟩ := hu
      go_enter Try.func65, Try.ntmps65
      go_wp2_with fail
      go_loopw [19] (fun s19 wr => ∃ (i : Nat), i ≤ s.size ∧ s19 = .int .i64 i ∧ Hid (∀ j, j < i → nameC (byteAt s j) = true) ∧ wr = w) (fun s19 _ => s.size - (intOf s19).toNat)
      case atStart => exact ⟨0, by omega, rfl, Lib.hid (fun j hj => absurd hj (by omega)), rfl⟩
      case round =>
        obtain ⟨i, hi, rfl, HN, rfl⟩ := hrel
        by_cases hlt : i < s.size
        · have hix := HI.out i hlt wr
          have hr := byteAt_range s i
          have HS : Hid (nameC (byteAt s i) = true → ∀ j, j < i + 1 → nameC (byteAt s j) = true) := Lib.hid (fun h j hj => by
            rcases Nat.lt_or_eq_of_le (Nat.lt_succ_iff.1 hj) with h2 | h2
            · exact HN.out j h2
            · subst h2; exact h)
          have HF : Hid (nameC (byteAt s i) = false → R = false) := Lib.hid (fun h => by
            rw [HT.out]
            rw [decide_eq_false]
            rintro ⟨_, _, _, h2⟩
            rw [h2 i hlt] at h; cases h)
          obtain ⟨X, hX⟩ : ∃ X, byteAt s i = X := ⟨_, rfl⟩
          rw [hX] at hix hr HS HF
          have HC : Hid (nameC X = decide (97 ≤ X ∧ X ≤ 122 ∨ 65 ≤ X ∧ X ≤ 90 ∨ 48 ≤ X ∧ X ≤ 57 ∨ X = 95)) := Lib.hid rfl
          clear hX HN hi0
          rcases (show X < 48 ∨ (48 ≤ X ∧ X ≤ 57) ∨ (58 ≤ X ∧ X ≤ 64) ∨ (65 ≤ X ∧ X ≤ 90) ∨ (91 ≤ X ∧ X ≤ 94) ∨ (95 ≤ X ∧ X ≤ 95) ∨ (96 ≤ X ∧ X ≤ 96) ∨ (97 ≤ X ∧ X ≤ 122) ∨ 122 < X by omega) with h | ⟨h, h'⟩ | ⟨h, h'⟩ | ⟨h, h'⟩ | ⟨h, h'⟩ | ⟨h, h'⟩ | ⟨h, h'⟩ | ⟨h, h'⟩ | h
          · have k97 : ¬ 97 ≤ X := by omega
            have k122 : X ≤ 122 := by omega
            have k65 : ¬ 65 ≤ X := by omega
            have k90 : X ≤ 90 := by omega
            have k48 : ¬ 48 ≤ X := by omega
            have k57 : X ≤ 57 := by omega
            have h95 : (X == 95) = false := by simp; omega
            have HY := Lib.hid (HF.out (by rw [HC.out]; exact decide_eq_false (by omega)))
            clear HS HF HC
            go_wp2_with fail
            all_goals first
              | (exfalso; omega)
              | (go_ret; exact ⟨by rw [HY.out]; rfl, rfl⟩)
          · have k97 : ¬ 97 ≤ X := by omega
            have k122 : X ≤ 122 := by omega
            have k65 : ¬ 65 ≤ X := by omega
            have k90 : X ≤ 90 := by omega
            have k48 : 48 ≤ X := by omega
            have k57 : X ≤ 57 := by omega
            have h95 : (X == 95) = false := by simp; omega
            have HY := Lib.hid (HS.out (by rw [HC.out]; exact decide_eq_true (by omega)))
            clear HS HF HC
            go_wp2_with fail
            all_goals first
              | (exfalso; omega)
              | exact ⟨⟨i + 1, by omega, by go_num, HY, trivial⟩, by simp [intOf]; omega⟩
          · have k97 : ¬ 97 ≤ X := by omega
            have k122 : X ≤ 122 := by omega
            have k65 : ¬ 65 ≤ X := by omega
            have k90 : X ≤ 90 := by omega
            have k48 : 48 ≤ X := by omega
            have k57 : ¬ X ≤ 57 := by omega
            have h95 : (X == 95) = false := by simp; omega
            have HY := Lib.hid (HF.out (by rw [HC.out]; exact decide_eq_false (by omega)))
            clear HS HF HC
            go_wp2_with fail
            all_goals first
              | (exfalso; omega)
              | (go_ret; exact ⟨by rw [HY.out]; rfl, rfl⟩)
          · have k97 : ¬ 97 ≤ X := by omega
            have k122 : X ≤ 122 := by omega
            have k65 : 65 ≤ X := by omega
            have k90 : X ≤ 90 := by omega
            have k48 : 48 ≤ X := by omega
            have k57 : ¬ X ≤ 57 := by omega
            have h95 : (X == 95) = false := by simp; omega
            have HY := Lib.hid (HS.out (by rw [HC.out]; exact decide_eq_true (by omega)))
            clear HS HF HC
            go_wp2_with fail
            all_goals first
              | (exfalso; omega)
              | exact ⟨⟨i + 1, by omega, by go_num, HY, trivial⟩, by simp [intOf]; omega⟩
          · have k97 : ¬ 97 ≤ X := by omega
            have k122 : X ≤ 122 := by omega
            have k65 : 65 ≤ X := by omega
            have k90 : ¬ X ≤ 90 := by omega
            have k48 : 48 ≤ X := by omega
            have k57 : ¬ X ≤ 57 := by omega
            have h95 : (X == 95) = false := by simp; omega
            have HY := Lib.hid (HF.out (by rw [HC.out]; exact decide_eq_false (by omega)))
            clear HS HF HC
            go_wp2_with fail
            all_goals first
              | (exfalso; omega)
              | (go_ret; exact ⟨by rw [HY.out]; rfl, rfl⟩)
          · have k97 : ¬ 97 ≤ X := by omega
            have k122 : X ≤ 122 := by omega
            have k65 : 65 ≤ X := by omega
            have k90 : ¬ X ≤ 90 := by omega
            have k48 : 48 ≤ X := by omega
            have k57 : ¬ X ≤ 57 := by omega
            have h95 : (X == 95) = true := by simp; omega
            have HY := Lib.hid (HS.out (by rw [HC.out]; exact decide_eq_true (by omega)))
            clear HS HF HC
            go_wp2_with fail
            all_goals first
              | (exfalso; omega)
              | exact ⟨⟨i + 1, by omega, by go_num, HY, trivial⟩, by simp [intOf]; omega⟩
          · have k97 : ¬ 97 ≤ X := by omega
            have k122 : X ≤ 122 := by omega
            have k65 : 65 ≤ X := by omega
            have k90 : ¬ X ≤ 90 := by omega
            have k48 : 48 ≤ X := by omega
            have k57 : ¬ X ≤ 57 := by omega
            have h95 : (X == 95) = false := by simp; omega
            have HY := Lib.hid (HF.out (by rw [HC.out]; exact decide_eq_false (by omega)))
            clear HS HF HC
            go_wp2_with fail
            all_goals first
              | (exfalso; omega)
              | (go_ret; exact ⟨by rw [HY.out]; rfl, rfl⟩)
          · have k97 : 97 ≤ X := by omega
            have k122 : X ≤ 122 := by omega
            have k65 : 65 ≤ X := by omega
            have k90 : ¬ X ≤ 90 := by omega
            have k48 : 48 ≤ X := by omega
            have k57 : ¬ X ≤ 57 := by omega
            have h95 : (X == 95) = false := by simp; omega
            have HY := Lib.hid (HS.out (by rw [HC.out]; exact decide_eq_true (by omega)))
            clear HS HF HC
            go_wp2_with fail
            all_goals first
              | (exfalso; omega)
              | exact ⟨⟨i + 1, by omega, by go_num, HY, trivial⟩, by simp [intOf]; omega⟩
          · have k97 : 97 ≤ X := by omega
            have k122 : ¬ X ≤ 122 := by omega
            have k65 : 65 ≤ X := by omega
            have k90 : ¬ X ≤ 90 := by omega
            have k48 : 48 ≤ X := by omega
            have k57 : ¬ X ≤ 57 := by omega
            have h95 : (X == 95) = false := by simp; omega
            have HY := Lib.hid (HF.out (by rw [HC.out]; exact decide_eq_false (by omega)))
            clear HS HF HC
            go_wp2_with fail
            all_goals first
              | (exfalso; omega)
              | (go_ret; exact ⟨by rw [HY.out]; rfl, rfl⟩)
        · obtain rfl : i = s.size := by omega
          have HY : Hid (R = true) := Lib.hid (by rw [HT.out]; exact decide_eq_true ⟨h0, hu1, hu2, HN.out⟩)
          clear hi0
          go_wp2_with fail
          go_ret
          exact ⟨by rw [HY.out]; rfl, rfl⟩
    · have HE : Hid (R = false) := Lib.hid (by rw [HT.out]; simp; intro _ h1 h2; exact absurd ⟨h1, h2⟩ hu)
      rcases (show X0 < 65 ∨ 90 < X0 by omega) with hx | hx
      all_goals
        clear hu
        go_enter Try.func65, Try.ntmps65
        go_wp2_with fail
        go_ret
        exact ⟨by rw [HE.out]; rfl, rfl⟩
/-- value.inRange -/
def inR (n : Int) : Bool := decide (-9007199254740992 ≤ n ∧ n ≤ 9007199254740992)
set_option maxHeartbeats 400000 in
theorem inRange_any (n : Int) (w : World) : Calls Try.prog 66 #[.int .i64 n] w fun e w' => e = .returned (.bool (inR n)) ∧ w = w' := by
  by_cases h : -9007199254740992 ≤ n ∧ n ≤ 9007199254740992
  · have HE : Hid (inR n = true) := Lib.hid (decide_eq_true h)
    obtain ⟨h0, h1⟩ := h
    go_enter Try.func66, Try.ntmps66
    go_wp2_with fail
    go_ret
    exact ⟨by rw [HE.out]; rfl, rfl⟩
  · have HE : Hid (inR n = false) := Lib.hid (decide_eq_false h)
    rcases (show n < -9007199254740992 ∨ 9007199254740992 < n by omega) with hx | hx
    all_goals
      clear h
      go_enter Try.func66, Try.ntmps66
      go_wp2_with fail
      go_ret
      exact ⟨by rw [HE.out]; first | rfl | (simp; omega), rfl⟩
end Go.Proofs.Ytlbmfgiepcemdaa
