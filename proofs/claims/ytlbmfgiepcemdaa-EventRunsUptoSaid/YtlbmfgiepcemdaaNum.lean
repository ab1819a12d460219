/- code.Num: the varint of a number. Conditions: those in each statement. -/
import Derived.Test.YtlbmfgiepcemdaaProg
import Derived.Test.YtlbmfgiepcemdaaMem
import Derived.Laws.BytesArg
import Derived.Laws.BitsAllLaws
import Derived.Laws.BitsLemmas
namespace Go.Proofs.Ytlbmfgiepcemdaa
open Go.RowKit

theorem ofInt_i64 (a : Nat) (ha : a < 9223372036854775808) : (BitVec.ofInt 64 (a : Int)).toNat = a := by
  rw [BitVec.ofInt_natCast, BitVec.toNat_ofNat]; exact Nat.mod_eq_of_lt (by omega)
theorem i64_and_nat (a b : Nat) (ha : a < 9223372036854775808) (hb : b < 9223372036854775808) : bits .and .i64 (a : Int) (b : Int) = ((a &&& b : Nat) : Int) := by
  have hx : a &&& b < 2 ^ 63 := Nat.and_lt_two_pow _ (by omega)
  show IntKind.i64.wrap ((BitVec.ofInt 64 (a : Int) &&& BitVec.ofInt 64 (b : Int)).toNat : Int) = _
  rw [BitVec.toNat_and, ofInt_i64 a ha, ofInt_i64 b hb, IntKind.wrap_i64]
  omega
theorem i64_or_nat (a b : Nat) (ha : a < 9223372036854775808) (hb : b < 9223372036854775808) : bits .or .i64 (a : Int) (b : Int) = ((a ||| b : Nat) : Int) := by
  have hx : a ||| b < 2 ^ 63 := Nat.or_lt_two_pow (by omega) (by omega)
  show IntKind.i64.wrap ((BitVec.ofInt 64 (a : Int) ||| BitVec.ofInt 64 (b : Int)).toNat : Int) = _
  rw [BitVec.toNat_or, ofInt_i64 a ha, ofInt_i64 b hb, IntKind.wrap_i64]
  omega
theorem low7 (n : Nat) (hn : n < 9223372036854775808) : bits .and .i64 (n : Int) 127 = ((n % 128 : Nat) : Int) := by
  have h := i64_and_nat n 127 hn (by omega)
  have e : n &&& 127 = n % 128 := Nat.and_two_pow_sub_one_eq_mod n 7
  rw [e] at h; exact h
theorem top7 (m : Nat) (hm : m < 128) : bits .or .i64 (m : Int) 128 = ((m + 128 : Nat) : Int) := by
  have h := i64_or_nat m 128 (by omega) (by omega)
  have e : m ||| 128 = m + 128 := by
    have := Nat.two_pow_add_eq_or_of_lt (i := 7) hm 1
    rw [Nat.or_comm]
    have e2 : 2 ^ 7 * 1 = 128 := rfl
    rw [e2] at this
    omega
  rw [e] at h; exact h

/-- the bytes of a varint, with fuel -/
def numI : Nat → Nat → List Int
  | 0, _ => []
  | f + 1, n => if n < 128 then [(n : Int)] else ((n : Int) % 128 + 128) :: numI f (n / 128)
/-- the varint of a number below 2^63 -/
def numB (n : Nat) : ByteArray := strOfNums (numI 9 n)

theorem low7' (m : Nat) (hm : m ≤ 9223372036854775807) : bits .and .i64 (m : Int) 127 = (m : Int) % 128 := by
  have := low7 m (by omega); rw [this]; omega
theorem top7' (m : Nat) : bits .or .i64 ((m : Int) % 128) 128 = (m : Int) % 128 + 128 := by
  have := top7 (m % 128) (by omega)
  have e : ((m % 128 : Nat) : Int) = (m : Int) % 128 := by omega
  rw [e] at this; rw [this]; omega

/-- how far the loop has come: xs are the bytes so far, m is the rest -/
def NumTo (n k m : Nat) (xs : List Int) (g : Nat) (wr : World) : Prop :=
  m = n / 128 ^ k ∧ xs.length = k ∧ numI 9 n = xs ++ numI (9 - k) m ∧ ∀ j, j < k → wr.cell? ⟨g, j, none⟩ = some (.int .u8 (xs.getD j 0))
theorem NumTo.step {n k m : Nat} {xs : List Int} {g : Nat} {wr : World} (h : NumTo n k m xs g wr) (hk : k ≤ 8) (hm : 128 ≤ m) {u : Value} (hu : wr.cell? ⟨g, k, none⟩ = some u) :
    NumTo n (k + 1) (m / 128) (xs ++ [(m : Int) % 128 + 128]) g (wr.setCell ⟨g, k, none⟩ (.int .u8 ((m : Int) % 128 + 128))) := by
  obtain ⟨h1, h2, h3, h4⟩ := h
  refine ⟨by rw [h1, Nat.div_div_eq_div_mul, Nat.pow_succ], by simp [h2], ?_, fun j hj => ?_⟩
  · rw [h3, show 9 - k = (9 - (k + 1)) + 1 by omega, numI, if_neg (by omega)]; simp
  · by_cases hjk : j = k
    · subst hjk
      rw [World.cell?_setCell_same _ _ _ hu, List.getD_eq_getElem?_getD, List.getElem?_append_right (by omega)]; simp [h2]
    · rw [World.cell?_setCell_other _ _ _ _ (by simp <;> omega), h4 j (by omega), List.getD_eq_getElem?_getD, List.getD_eq_getElem?_getD, List.getElem?_append_left (by omega)]
theorem NumTo.fin {n k m : Nat} {xs : List Int} {g : Nat} {wr : World} (h : NumTo n k m xs g wr) (hk : k ≤ 8) (hm : m < 128) {u : Value} (hu : wr.cell? ⟨g, k, none⟩ = some u) :
    numI 9 n = xs ++ [(m : Int)] ∧ ∀ j, j < k + 1 → (wr.setCell ⟨g, k, none⟩ (.int .u8 (m : Int))).cell? ⟨g, 0 + j, none⟩ = some (.int .u8 ((xs ++ [(m : Int)]).getD j 0)) := by
  obtain ⟨h1, h2, h3, h4⟩ := h
  refine ⟨?_, fun j hj => ?_⟩
  · rw [h3, show 9 - k = (8 - k) + 1 by omega, numI, if_pos hm]
  · rw [Nat.zero_add]
    by_cases hjk : j = k
    · subst hjk
      rw [World.cell?_setCell_same _ _ _ hu, List.getD_eq_getElem?_getD, List.getElem?_append_right (by omega)]; simp [h2]
    · rw [World.cell?_setCell_other _ _ _ _ (by simp <;> omega), h4 j (by omega), List.getD_eq_getElem?_getD, List.getD_eq_getElem?_getD, List.getElem?_append_left (by omega)]

set_option maxHeartbeats 400000 in
set_option maxRecDepth 100000 in
theorem num_any (n : Nat) (hn : n ≤ 9223372036854775807) (w : World) : Calls Try.prog 21 #[.int .i64 (n : Int)] w fun e w' => e = .returned (.string (numB n)) ∧ Below w.heap.size w w' := by
  go_enter Try.func21, Try.ntmps21
  go_wp2_with fail
  go_loopw [0, 4] (fun s0 s4 wr => ∃ (k m : Nat) (xs : List Int), k ≤ 8 ∧ s4 = .int .i64 k ∧ m ≤ 9223372036854775807 ∧ s0 = .int .i64 m ∧ Hid (NumTo n k m xs w.heap.size wr) ∧ Hid (Blk wr w.heap.size 97 9) ∧ Hid (Below w.heap.size w wr)) (fun s0 _ _ => (intOf s0).toNat)
  case atStart => exact ⟨0, n, [], by omega, rfl, hn, rfl, Lib.hid ⟨by simp, rfl, rfl, fun j hj => absurd hj (by omega)⟩, Lib.hid (Blk.new _ _ _), Lib.hid ((Below.refl _ _).alloc (Nat.le_refl _) _)⟩
  case round =>
    obtain ⟨k, m, xs, hk, rfl, hm, rfl, HN, HK, HB⟩ := hrel
    obtain ⟨u, hu⟩ := Option.isSome_iff_exists.1 (HK.out.some (j := k) (by omega))
    have hf := HK.out.frozen k
    have hk9 : (k : Int) < 9 := by omega
    by_cases h : 128 ≤ m
    · have hl := low7' m hm
      have ht := top7' m
      have hx : ((m : Int) % 128 + 128) % 256 = (m : Int) % 128 + 128 := by omega
      have hk7 : k ≤ 7 := by
        rcases Nat.lt_or_ge k 8 with h8 | h8
        · omega
        · obtain rfl : k = 8 := by omega
          have := HN.out.1
          have e : 128 ^ 8 = 72057594037927936 := by decide
          rw [e] at this; omega
      have HS := Lib.hid (HN.out.step hk h hu)
      have HK2 : Hid (Blk (wr.setCell ⟨w.heap.size, k, none⟩ (.int .u8 ((m : Int) % 128 + 128))) w.heap.size 97 9) := Lib.hid (HK.out.setCells w.heap.size k [.int .u8 ((m : Int) % 128 + 128)])
      have HB2 := Lib.hid (HB.out.setCell (p := ⟨w.heap.size, k, none⟩) (Nat.le_refl _) (.int .u8 ((m : Int) % 128 + 128)))
      go_wp2_with fail
      exact ⟨⟨k + 1, m / 128, _, by omega, by go_num, by omega, by go_num, HS, HK2, HB2⟩, by simp [intOf]; omega⟩
    · obtain ⟨e1, e2⟩ := HN.out.fin hk (by omega) hu
      have hcv := run_convert_bytes_arg (P := Try.prog) (wr.setCell ⟨w.heap.size, k, none⟩ (.int .u8 (m : Int))) 62 5 Try.underlying62 Try.underlying5 w.heap.size 0 (k + 1) 9 (xs ++ [(m : Int)]) (by have := HN.out.2.1; simp [this]) e2 9 Try.underlying9
      have E1 := Lib.hid e1
      have HB2 := Lib.hid (HB.out.setCell (p := ⟨w.heap.size, k, none⟩) (Nat.le_refl _) (.int .u8 (m : Int)))
      have g1 : (0 : Int) ≤ (k : Int) + 1 := by omega
      have g2 : (k : Int) + 1 ≤ 9 := by omega
      clear e1 e2
      go_wp2_with fail
      go_ret
      exact ⟨by unfold numB; rw [E1.out]; rfl, HB2.out⟩

set_option maxHeartbeats 400000 in
theorem num_neg (n : Int) (hn : n < 0) (w : World) : Calls Try.prog 21 #[.int .i64 n] w fun e w' => e = .returned (.string ⟨#[]⟩) ∧ w = w' := by
  go_enter Try.func21, Try.ntmps21
  go_wp2_with fail
  go_ret
  exact ⟨rfl, rfl⟩

/-- the varint of an int, empty below 0 -/
def numZ (n : Int) : ByteArray := if n < 0 then ⟨#[]⟩ else numB n.toNat
theorem num_int (n : Int) (hn : n ≤ 9223372036854775807) (w : World) : Calls Try.prog 21 #[.int .i64 n] w fun e w' => e = .returned (.string (numZ n)) ∧ Below w.heap.size w w' := by
  by_cases h : n < 0
  · refine (num_neg n h w).mono ?_
    rintro e w' ⟨rfl, rfl⟩
    exact ⟨by unfold numZ; rw [if_pos h], Below.refl _ _⟩
  · obtain ⟨m, rfl⟩ := Int.eq_ofNat_of_zero_le (show 0 ≤ n by omega)
    refine (num_any m (by omega) w).mono ?_
    rintro e w' ⟨rfl, hb⟩
    exact ⟨by unfold numZ; rw [if_neg h, Int.toNat_natCast], hb⟩

/-- the zigzag varint -/
def intB (n : Int) : ByteArray := if n < -1152921504606846976 ∨ 1152921504606846976 < n then ⟨#[]⟩ else if n < 0 then numB (-2 * n - 1).toNat else numB (2 * n).toNat

set_option maxHeartbeats 400000 in
theorem int_any (n : Int) (w : World) : Calls Try.prog 67 #[.int .i64 n] w fun e w' => e = .returned (.string (intB n)) ∧ Below w.heap.size w w' := by
  by_cases h1 : n < -1152921504606846976
  · have HE : Hid (intB n = ⟨#[]⟩) := Lib.hid (by unfold intB; rw [if_pos (.inl h1)])
    go_enter Try.func67, Try.ntmps67
    go_wp2_with fail
    go_ret
    exact ⟨by rw [HE.out]; rfl, Below.refl _ _⟩
  by_cases h2 : 1152921504606846976 < n
  · have HE : Hid (intB n = ⟨#[]⟩) := Lib.hid (by unfold intB; rw [if_pos (.inr h2)])
    go_enter Try.func67, Try.ntmps67
    go_wp2_with fail
    go_ret
    exact ⟨by rw [HE.out]; rfl, Below.refl _ _⟩
  by_cases h3 : n < 0
  · have HE : Hid (intB n = numZ (-2 * n - 1)) := Lib.hid (by
      unfold intB numZ; rw [if_neg (fun h => by omega), if_pos h3, if_neg (by omega)])
    have HC := Lib.hid (num_int (-2 * n - 1) (by omega) w)
    go_enter Try.func67, Try.ntmps67
    go_wp2_with fail
    (with_reducible refine HC.out.mono ?_)
    rintro e w1 ⟨rfl, hb⟩
    have HB := Lib.hid hb
    clear hb
    go_wp2_with fail
    go_ret
    exact ⟨by rw [HE.out]; rfl, HB.out⟩
  · have HE : Hid (intB n = numZ (2 * n)) := Lib.hid (by
      unfold intB numZ; rw [if_neg (fun h => by omega), if_neg h3, if_neg (by omega)])
    have HC := Lib.hid (num_int (2 * n) (by omega) w)
    go_enter Try.func67, Try.ntmps67
    go_wp2_with fail
    (with_reducible refine HC.out.mono ?_)
    rintro e w1 ⟨rfl, hb⟩
    have HB := Lib.hid hb
    clear hb
    go_wp2_with fail
    go_ret
    exact ⟨by rw [HE.out]; rfl, HB.out⟩

theorem numI_len : ∀ f n, (numI f n).length ≤ f
  | 0, _ => by simp [numI]
  | f + 1, n => by
    rw [numI]
    split
    · simp
    · have := numI_len f (n / 128); simp; omega
theorem numB_size (n : Nat) : (numB n).size ≤ 9 := by unfold numB; rw [strOfNums_size]; exact numI_len 9 n
theorem intB_size (n : Int) : (intB n).size ≤ 9 := by
  unfold intB
  split
  · simp [ByteArray.size]
  · split <;> exact numB_size _
/-- a string's encoding -/
def textB (s : ByteArray) : ByteArray := numB s.size ++ s
set_option maxHeartbeats 400000 in
theorem text_any (s : ByteArray) (hs : s.size ≤ 4294967296) (w : World) : Calls Try.prog 44 #[.string s] w fun e w' => e = .returned (.string (textB s)) ∧ Below w.heap.size w w' := by
  go_enter Try.func44, Try.ntmps44
  go_wp2_with fail
  (with_reducible refine (num_any s.size (by omega) w).mono ?_)
  rintro e w1 ⟨rfl, hb⟩
  have HB := Lib.hid hb
  clear hb
  have h9 := numB_size s.size
  go_wp2_with fail
  go_ret
  exact ⟨rfl, HB.out⟩
end Go.Proofs.Ytlbmfgiepcemdaa
