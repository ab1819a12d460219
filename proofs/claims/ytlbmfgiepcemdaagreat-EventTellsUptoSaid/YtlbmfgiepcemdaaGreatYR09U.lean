/- ref09.upper, ref09.Formed at a named type, ref12.upper and ref12.in (printed by wip/tools/gen_r09u.py). Conditions: those in each statement. -/
import Derived.Test.YtlbmfgiepcemdaaGreatYTypeCloneSame
namespace Go.Proofs.YtlbmfgiepcemdaaGreat
open Go.RowKit

set_option maxHeartbeats 2000000 in
set_option maxRecDepth 100000 in
theorem rupper_any (s : ByteArray) (w : World) (hs : s.size ≤ 2097152) : Calls Tryz.prog 125 #[.string s] w fun e w' => e = .returned (.bool (isTypeS s)) ∧ w = w' := by
  rcases Nat.eq_zero_or_pos s.size with h0 | h0
  · have HE : Hid (isTypeS s = false) := Lib.hid (by unfold isTypeS; simp; omega)
    have he : s.toList = [] := by rw [ByteArray.toList_eq]; exact List.eq_nil_of_length_eq_zero (by rw [size_toList]; exact h0)
    have hemp : s.toList.isEmpty = true := by simpa using he
    go_enter Tryz.func125, Tryz.ntmps125
    go_wp2_with fail
    go_loopw [3] (fun s3 wr => s3 = .int .i64 0 ∧ wr = w) (fun _ _ => 0)
    case atStart => exact ⟨rfl, rfl⟩
    case round =>
      obtain ⟨rfl, rfl⟩ := hrel
      have hz : ¬ (0 : Int) < s.size := by omega
      go_wp2_with fail
      go_ret
      exact ⟨by rw [HE.out]; first | rfl | simp [he], rfl⟩
  · have hne : ¬ s.toList = [] := fun h => by
      rw [ByteArray.toList_eq] at h
      have := size_toList s
      rw [h] at this
      simp at this; omega
    have hemp : s.toList.isEmpty = false := by simpa using hne
    have hi0 : (Instr.index 9 (.string s) (.int .i64 0)).run Tryz.prog w = .ok (.int .u8 (byteAt s 0)) w := by simpa using index_str s 0 h0 w
    have hr0 := byteAt_range s 0
    have HI := Lib.hid (index_str s)
    have HT : Hid (isTypeS s = decide (0 < s.size ∧ 65 ≤ byteAt s 0 ∧ byteAt s 0 ≤ 90 ∧ ∀ i, i < s.size → nameC (byteAt s i) = true)) := Lib.hid rfl
    generalize isTypeS s = R at *
    go_enter Tryz.func125, Tryz.ntmps125
    go_wp2_with fail
    go_loopw [3] (fun s3 wr => ∃ (i : Nat), i ≤ s.size ∧ s3 = .int .i64 i ∧ Hid ((∀ j, j < i → nameC (byteAt s j) = true) ∧ (0 < i → 65 ≤ byteAt s 0 ∧ byteAt s 0 ≤ 90 ∨ 97 ≤ byteAt s 0 ∧ byteAt s 0 ≤ 122)) ∧ wr = w) (fun s3 _ => s.size - (intOf s3).toNat)
    case atStart => exact ⟨0, by omega, rfl, Lib.hid ⟨fun j hj => absurd hj (by omega), fun h => absurd h (by omega)⟩, rfl⟩
    case round =>
      obtain ⟨i, hi, rfl, HN, rfl⟩ := hrel
      by_cases hlt : i < s.size
      · have hix := HI.out i hlt wr
        have hr := byteAt_range s i
        have HS : Hid (nameC (byteAt s i) = true → (i = 0 → 65 ≤ byteAt s i ∧ byteAt s i ≤ 90 ∨ 97 ≤ byteAt s i ∧ byteAt s i ≤ 122) → (∀ j, j < i + 1 → nameC (byteAt s j) = true) ∧ (0 < i + 1 → 65 ≤ byteAt s 0 ∧ byteAt s 0 ≤ 90 ∨ 97 ≤ byteAt s 0 ∧ byteAt s 0 ≤ 122)) := Lib.hid (fun h hl => ⟨fun j hj => by
          rcases Nat.lt_or_eq_of_le (Nat.lt_succ_iff.1 hj) with h2 | h2
          · exact HN.out.1 j h2
          · subst h2; exact h, fun _ => by
          rcases Nat.eq_zero_or_pos i with h2 | h2
          · have := hl h2; rwa [h2] at this
          · exact HN.out.2 h2⟩)
        have HF : Hid ((nameC (byteAt s i) = false ∨ i = 0 ∧ ¬ (65 ≤ byteAt s i ∧ byteAt s i ≤ 90 ∨ 97 ≤ byteAt s i ∧ byteAt s i ≤ 122)) → R = false) := Lib.hid (fun h => by
          rw [HT.out]
          rw [decide_eq_false]
          rintro ⟨_, h3, h4, h2⟩
          rcases h with h | ⟨rfl, h⟩
          · rw [h2 i hlt] at h; cases h
          · exact h (.inl ⟨h3, h4⟩))
        obtain ⟨X, hX⟩ : ∃ X, byteAt s i = X := ⟨_, rfl⟩
        rw [hX] at hix hr HS HF
        have HC : Hid (nameC X = decide (97 ≤ X ∧ X ≤ 122 ∨ 65 ≤ X ∧ X ≤ 90 ∨ 48 ≤ X ∧ X ≤ 57 ∨ X = 95)) := Lib.hid rfl
        have HF : Hid (¬ (97 ≤ X ∧ X ≤ 122 ∨ 65 ≤ X ∧ X ≤ 90 ∨ 48 ≤ X ∧ X ≤ 57 ∨ X = 95) ∨ i = 0 ∧ ¬ (65 ≤ X ∧ X ≤ 90 ∨ 97 ≤ X ∧ X ≤ 122) → R = false) := Lib.hid (fun h => HF.out (h.elim (fun h => .inl (by rw [HC.out]; exact decide_eq_false h)) .inr))
        clear hX HN hi0
        rcases Nat.eq_zero_or_pos i with hz | hz
        · subst hz
          have hix : (Instr.index 9 (.string s) (.int .i64 0)).run Tryz.prog wr = .ok (.int .u8 X) wr := by simpa using hix
          rcases (show X < 48 ∨ (48 ≤ X ∧ X ≤ 57) ∨ (58 ≤ X ∧ X ≤ 64) ∨ (65 ≤ X ∧ X ≤ 90) ∨ (91 ≤ X ∧ X ≤ 94) ∨ (95 ≤ X ∧ X ≤ 95) ∨ (96 ≤ X ∧ X ≤ 96) ∨ (97 ≤ X ∧ X ≤ 122) ∨ 122 < X by omega) with h | ⟨h, h'⟩ | ⟨h, h'⟩ | ⟨h, h'⟩ | ⟨h, h'⟩ | ⟨h, h'⟩ | ⟨h, h'⟩ | ⟨h, h'⟩ | h
          · have k97 : ¬ 97 ≤ X := by omega
            have k65 : ¬ 65 ≤ X := by omega
            have k48 : ¬ 48 ≤ X := by omega
            have k122 : X ≤ 122 := by omega
            have k90 : X ≤ 90 := by omega
            have k57 : X ≤ 57 := by omega
            have h95 : (X == 95) = false := by simp; omega
            have n95 : (X != 95) = true := by simp; omega
            have j48 : X < 48 := by omega
            have j57 : ¬ 57 < X := by omega
            have HY := Lib.hid (HF.out (by omega))
            clear HS HF HC
            go_wp2_with fail
            all_goals first
              | (exfalso; omega)
              | (go_ret; exact ⟨by rw [HY.out]; rfl, rfl⟩)
          · have k97 : ¬ 97 ≤ X := by omega
            have k65 : ¬ 65 ≤ X := by omega
            have k48 : 48 ≤ X := by omega
            have k122 : X ≤ 122 := by omega
            have k90 : X ≤ 90 := by omega
            have k57 : X ≤ 57 := by omega
            have h95 : (X == 95) = false := by simp; omega
            have n95 : (X != 95) = true := by simp; omega
            have j48 : ¬ X < 48 := by omega
            have j57 : ¬ 57 < X := by omega
            have HY := Lib.hid (HF.out (by omega))
            clear HS HF HC
            go_wp2_with fail
            all_goals first
              | (exfalso; omega)
              | (go_ret; exact ⟨by rw [HY.out]; rfl, rfl⟩)
          · have k97 : ¬ 97 ≤ X := by omega
            have k65 : ¬ 65 ≤ X := by omega
            have k48 : 48 ≤ X := by omega
            have k122 : X ≤ 122 := by omega
            have k90 : X ≤ 90 := by omega
            have k57 : ¬ X ≤ 57 := by omega
            have h95 : (X == 95) = false := by simp; omega
            have n95 : (X != 95) = true := by simp; omega
            have j48 : ¬ X < 48 := by omega
            have j57 : 57 < X := by omega
            have HY := Lib.hid (HF.out (by omega))
            clear HS HF HC
            go_wp2_with fail
            all_goals first
              | (exfalso; omega)
              | (go_ret; exact ⟨by rw [HY.out]; rfl, rfl⟩)
          · have k97 : ¬ 97 ≤ X := by omega
            have k65 : 65 ≤ X := by omega
            have k48 : 48 ≤ X := by omega
            have k122 : X ≤ 122 := by omega
            have k90 : X ≤ 90 := by omega
            have k57 : ¬ X ≤ 57 := by omega
            have h95 : (X == 95) = false := by simp; omega
            have n95 : (X != 95) = true := by simp; omega
            have j48 : ¬ X < 48 := by omega
            have j57 : 57 < X := by omega
            have HY := Lib.hid (HS.out (by rw [HC.out]; exact decide_eq_true (by omega)) (fun _ => by omega))
            clear HS HF HC
            go_wp2_with fail
            all_goals first
              | (exfalso; omega)
              | exact ⟨⟨1, by omega, by first | rfl | go_num, HY, trivial⟩, by simp [intOf]; omega⟩
          · have k97 : ¬ 97 ≤ X := by omega
            have k65 : 65 ≤ X := by omega
            have k48 : 48 ≤ X := by omega
            have k122 : X ≤ 122 := by omega
            have k90 : ¬ X ≤ 90 := by omega
            have k57 : ¬ X ≤ 57 := by omega
            have h95 : (X == 95) = false := by simp; omega
            have n95 : (X != 95) = true := by simp; omega
            have j48 : ¬ X < 48 := by omega
            have j57 : 57 < X := by omega
            have HY := Lib.hid (HF.out (by omega))
            clear HS HF HC
            go_wp2_with fail
            all_goals first
              | (exfalso; omega)
              | (go_ret; exact ⟨by rw [HY.out]; rfl, rfl⟩)
          · have k97 : ¬ 97 ≤ X := by omega
            have k65 : 65 ≤ X := by omega
            have k48 : 48 ≤ X := by omega
            have k122 : X ≤ 122 := by omega
            have k90 : ¬ X ≤ 90 := by omega
            have k57 : ¬ X ≤ 57 := by omega
            have h95 : (X == 95) = true := by simp; omega
            have n95 : (X != 95) = false := by simp; omega
            have j48 : ¬ X < 48 := by omega
            have j57 : 57 < X := by omega
            have HY := Lib.hid (HF.out (by omega))
            clear HS HF HC
            go_wp2_with fail
            all_goals first
              | (exfalso; omega)
              | (go_ret; exact ⟨by rw [HY.out]; rfl, rfl⟩)
          · have k97 : ¬ 97 ≤ X := by omega
            have k65 : 65 ≤ X := by omega
            have k48 : 48 ≤ X := by omega
            have k122 : X ≤ 122 := by omega
            have k90 : ¬ X ≤ 90 := by omega
            have k57 : ¬ X ≤ 57 := by omega
            have h95 : (X == 95) = false := by simp; omega
            have n95 : (X != 95) = true := by simp; omega
            have j48 : ¬ X < 48 := by omega
            have j57 : 57 < X := by omega
            have HY := Lib.hid (HF.out (by omega))
            clear HS HF HC
            go_wp2_with fail
            all_goals first
              | (exfalso; omega)
              | (go_ret; exact ⟨by rw [HY.out]; rfl, rfl⟩)
          · have k97 : 97 ≤ X := by omega
            have k65 : 65 ≤ X := by omega
            have k48 : 48 ≤ X := by omega
            have k122 : X ≤ 122 := by omega
            have k90 : ¬ X ≤ 90 := by omega
            have k57 : ¬ X ≤ 57 := by omega
            have h95 : (X == 95) = false := by simp; omega
            have n95 : (X != 95) = true := by simp; omega
            have j48 : ¬ X < 48 := by omega
            have j57 : 57 < X := by omega
            have HY := Lib.hid (HS.out (by rw [HC.out]; exact decide_eq_true (by omega)) (fun _ => by omega))
            clear HS HF HC
            go_wp2_with fail
            all_goals first
              | (exfalso; omega)
              | exact ⟨⟨1, by omega, by first | rfl | go_num, HY, trivial⟩, by simp [intOf]; omega⟩
          · have k97 : 97 ≤ X := by omega
            have k65 : 65 ≤ X := by omega
            have k48 : 48 ≤ X := by omega
            have k122 : ¬ X ≤ 122 := by omega
            have k90 : ¬ X ≤ 90 := by omega
            have k57 : ¬ X ≤ 57 := by omega
            have h95 : (X == 95) = false := by simp; omega
            have n95 : (X != 95) = true := by simp; omega
            have j48 : ¬ X < 48 := by omega
            have j57 : 57 < X := by omega
            have HY := Lib.hid (HF.out (by omega))
            clear HS HF HC
            go_wp2_with fail
            all_goals first
              | (exfalso; omega)
              | (go_ret; exact ⟨by rw [HY.out]; rfl, rfl⟩)
        · have hzb : ((i : Int) == 0) = false := by simp; omega
          rcases (show X < 48 ∨ (48 ≤ X ∧ X ≤ 57) ∨ (58 ≤ X ∧ X ≤ 64) ∨ (65 ≤ X ∧ X ≤ 90) ∨ (91 ≤ X ∧ X ≤ 94) ∨ (95 ≤ X ∧ X ≤ 95) ∨ (96 ≤ X ∧ X ≤ 96) ∨ (97 ≤ X ∧ X ≤ 122) ∨ 122 < X by omega) with h | ⟨h, h'⟩ | ⟨h, h'⟩ | ⟨h, h'⟩ | ⟨h, h'⟩ | ⟨h, h'⟩ | ⟨h, h'⟩ | ⟨h, h'⟩ | h
          · have k97 : ¬ 97 ≤ X := by omega
            have k65 : ¬ 65 ≤ X := by omega
            have k48 : ¬ 48 ≤ X := by omega
            have k122 : X ≤ 122 := by omega
            have k90 : X ≤ 90 := by omega
            have k57 : X ≤ 57 := by omega
            have h95 : (X == 95) = false := by simp; omega
            have n95 : (X != 95) = true := by simp; omega
            have j48 : X < 48 := by omega
            have j57 : ¬ 57 < X := by omega
            have HY := Lib.hid (HF.out (by omega))
            clear HS HF HC
            go_wp2_with fail
            all_goals first
              | (exfalso; omega)
              | (go_ret; exact ⟨by rw [HY.out]; rfl, rfl⟩)
          · have k97 : ¬ 97 ≤ X := by omega
            have k65 : ¬ 65 ≤ X := by omega
            have k48 : 48 ≤ X := by omega
            have k122 : X ≤ 122 := by omega
            have k90 : X ≤ 90 := by omega
            have k57 : X ≤ 57 := by omega
            have h95 : (X == 95) = false := by simp; omega
            have n95 : (X != 95) = true := by simp; omega
            have j48 : ¬ X < 48 := by omega
            have j57 : ¬ 57 < X := by omega
            have HY := Lib.hid (HS.out (by rw [HC.out]; exact decide_eq_true (by omega)) (fun h => absurd h (by omega)))
            clear HS HF HC
            go_wp2_with fail
            all_goals first
              | (exfalso; omega)
              | exact ⟨⟨i + 1, by omega, by first | rfl | go_num, HY, trivial⟩, by simp [intOf]; omega⟩
          · have k97 : ¬ 97 ≤ X := by omega
            have k65 : ¬ 65 ≤ X := by omega
            have k48 : 48 ≤ X := by omega
            have k122 : X ≤ 122 := by omega
            have k90 : X ≤ 90 := by omega
            have k57 : ¬ X ≤ 57 := by omega
            have h95 : (X == 95) = false := by simp; omega
            have n95 : (X != 95) = true := by simp; omega
            have j48 : ¬ X < 48 := by omega
            have j57 : 57 < X := by omega
            have HY := Lib.hid (HF.out (by omega))
            clear HS HF HC
            go_wp2_with fail
            all_goals first
              | (exfalso; omega)
              | (go_ret; exact ⟨by rw [HY.out]; rfl, rfl⟩)
          · have k97 : ¬ 97 ≤ X := by omega
            have k65 : 65 ≤ X := by omega
            have k48 : 48 ≤ X := by omega
            have k122 : X ≤ 122 := by omega
            have k90 : X ≤ 90 := by omega
            have k57 : ¬ X ≤ 57 := by omega
            have h95 : (X == 95) = false := by simp; omega
            have n95 : (X != 95) = true := by simp; omega
            have j48 : ¬ X < 48 := by omega
            have j57 : 57 < X := by omega
            have HY := Lib.hid (HS.out (by rw [HC.out]; exact decide_eq_true (by omega)) (fun h => absurd h (by omega)))
            clear HS HF HC
            go_wp2_with fail
            all_goals first
              | (exfalso; omega)
              | exact ⟨⟨i + 1, by omega, by first | rfl | go_num, HY, trivial⟩, by simp [intOf]; omega⟩
          · have k97 : ¬ 97 ≤ X := by omega
            have k65 : 65 ≤ X := by omega
            have k48 : 48 ≤ X := by omega
            have k122 : X ≤ 122 := by omega
            have k90 : ¬ X ≤ 90 := by omega
            have k57 : ¬ X ≤ 57 := by omega
            have h95 : (X == 95) = false := by simp; omega
            have n95 : (X != 95) = true := by simp; omega
            have j48 : ¬ X < 48 := by omega
            have j57 : 57 < X := by omega
            have HY := Lib.hid (HF.out (by omega))
            clear HS HF HC
            go_wp2_with fail
            all_goals first
              | (exfalso; omega)
              | (go_ret; exact ⟨by rw [HY.out]; rfl, rfl⟩)
          · have k97 : ¬ 97 ≤ X := by omega
            have k65 : 65 ≤ X := by omega
            have k48 : 48 ≤ X := by omega
            have k122 : X ≤ 122 := by omega
            have k90 : ¬ X ≤ 90 := by omega
            have k57 : ¬ X ≤ 57 := by omega
            have h95 : (X == 95) = true := by simp; omega
            have n95 : (X != 95) = false := by simp; omega
            have j48 : ¬ X < 48 := by omega
            have j57 : 57 < X := by omega
            have HY := Lib.hid (HS.out (by rw [HC.out]; exact decide_eq_true (by omega)) (fun h => absurd h (by omega)))
            clear HS HF HC
            go_wp2_with fail
            all_goals first
              | (exfalso; omega)
              | exact ⟨⟨i + 1, by omega, by first | rfl | go_num, HY, trivial⟩, by simp [intOf]; omega⟩
          · have k97 : ¬ 97 ≤ X := by omega
            have k65 : 65 ≤ X := by omega
            have k48 : 48 ≤ X := by omega
            have k122 : X ≤ 122 := by omega
            have k90 : ¬ X ≤ 90 := by omega
            have k57 : ¬ X ≤ 57 := by omega
            have h95 : (X == 95) = false := by simp; omega
            have n95 : (X != 95) = true := by simp; omega
            have j48 : ¬ X < 48 := by omega
            have j57 : 57 < X := by omega
            have HY := Lib.hid (HF.out (by omega))
            clear HS HF HC
            go_wp2_with fail
            all_goals first
              | (exfalso; omega)
              | (go_ret; exact ⟨by rw [HY.out]; rfl, rfl⟩)
          · have k97 : 97 ≤ X := by omega
            have k65 : 65 ≤ X := by omega
            have k48 : 48 ≤ X := by omega
            have k122 : X ≤ 122 := by omega
            have k90 : ¬ X ≤ 90 := by omega
            have k57 : ¬ X ≤ 57 := by omega
            have h95 : (X == 95) = false := by simp; omega
            have n95 : (X != 95) = true := by simp; omega
            have j48 : ¬ X < 48 := by omega
            have j57 : 57 < X := by omega
            have HY := Lib.hid (HS.out (by rw [HC.out]; exact decide_eq_true (by omega)) (fun h => absurd h (by omega)))
            clear HS HF HC
            go_wp2_with fail
            all_goals first
              | (exfalso; omega)
              | exact ⟨⟨i + 1, by omega, by first | rfl | go_num, HY, trivial⟩, by simp [intOf]; omega⟩
          · have k97 : 97 ≤ X := by omega
            have k65 : 65 ≤ X := by omega
            have k48 : 48 ≤ X := by omega
            have k122 : ¬ X ≤ 122 := by omega
            have k90 : ¬ X ≤ 90 := by omega
            have k57 : ¬ X ≤ 57 := by omega
            have h95 : (X == 95) = false := by simp; omega
            have n95 : (X != 95) = true := by simp; omega
            have j48 : ¬ X < 48 := by omega
            have j57 : 57 < X := by omega
            have HY := Lib.hid (HF.out (by omega))
            clear HS HF HC
            go_wp2_with fail
            all_goals first
              | (exfalso; omega)
              | (go_ret; exact ⟨by rw [HY.out]; rfl, rfl⟩)
      · obtain rfl : i = s.size := by omega
        obtain ⟨X0, hX0⟩ : ∃ X, byteAt s 0 = X := ⟨_, rfl⟩
        rw [hX0] at hi0 hr0
        have HY : Hid (R = decide (X0 ≤ 90)) := Lib.hid (by
          rw [HT.out, hX0, decide_eq_decide]
          have h2 := HN.out.2 h0
          rw [hX0] at h2
          constructor
          · rintro ⟨_, _, h4, _⟩; exact h4
          · intro h4; exact ⟨h0, by omega, h4, HN.out.1⟩)
        clear hX0 HN
        go_wp2_with fail
        go_ret
        exact ⟨by rw [HY.out]; first | rfl | simp [hne], rfl⟩
set_option maxHeartbeats 1000000 in
set_option maxRecDepth 100000 in
theorem rformed_named (s : ByteArray) (w : World) (hs : s.size ≤ 2097152) : Calls Tryz.prog 119 #[.agg #[.int .i64 6, .string s, .slice none 0 0]] w fun e w' => e = .returned (.bool (isTypeS s)) ∧ Below w.heap.size w w' := by
  have HC := Lib.hid (fun W => rupper_any s W hs)
  generalize isTypeS s = R at *
  go_enter Tryz.func119, Tryz.ntmps119
  go_wp2_with fail
  go_loopw [3] (fun s3 wr => s3 = .int .i64 0 ∧ wr = w.alloc (.cells #[.int .i64 6, .string s, .slice none 0 0] 148)) (fun _ _ => 0)
  case atStart => exact ⟨rfl, rfl⟩
  case round =>
    obtain ⟨rfl, rfl⟩ := hrel
    cases R with
    | false =>
      go_wp2_with (go_at_call 125; (with_reducible refine (HC.out _).mono ?_); rintro e w1 ⟨rfl, rfl⟩)
      go_ret
      exact ⟨rfl, (Below.refl _ _).alloc (Nat.le_refl _) _⟩
    | true =>
      go_wp2_with (go_at_call 125; (with_reducible refine (HC.out _).mono ?_); rintro e w1 ⟨rfl, rfl⟩)
      go_ret
      exact ⟨rfl, (Below.refl _ _).alloc (Nat.le_refl _) _⟩
set_option maxHeartbeats 400000 in
theorem rupper12 (s : ByteArray) (w : World) (hs : s.size ≤ 2097152) : Calls Tryz.prog 106 #[.string s] w fun e w' => e = .returned (.bool (isTypeS s)) ∧ Below w.heap.size w w' := by
  have HC := Lib.hid (rformed_named s w hs)
  go_enter Tryz.func106, Tryz.ntmps106
  go_wp2_with fail
  (with_reducible refine HC.out.mono ?_)
  rintro e w1 ⟨rfl, hb⟩
  have HB := Lib.hid hb
  clear hb
  go_wp2_with fail
  go_ret
  exact ⟨rfl, HB.out⟩
set_option maxHeartbeats 400000 in
theorem rin_any (n : Int) (w : World) : Calls Tryz.prog 105 #[.int .i64 n] w fun e w' => e = .returned (.bool (inR n)) ∧ w = w' := by
  by_cases h : -9007199254740992 ≤ n ∧ n ≤ 9007199254740992
  · have HE : Hid (inR n = true) := Lib.hid (decide_eq_true h)
    obtain ⟨h0, h1⟩ := h
    go_enter Tryz.func105, Tryz.ntmps105
    go_wp2_with fail
    go_ret
    exact ⟨by rw [HE.out]; rfl, rfl⟩
  · have HE : Hid (inR n = false) := Lib.hid (decide_eq_false h)
    rcases (show n < -9007199254740992 ∨ 9007199254740992 < n by omega) with hx | hx
    all_goals
      clear h
      go_enter Tryz.func105, Tryz.ntmps105
      go_wp2_with fail
      go_ret
      exact ⟨by rw [HE.out]; first | rfl | (simp; omega), rfl⟩
end Go.Proofs.YtlbmfgiepcemdaaGreat
