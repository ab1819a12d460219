/- code.Reader.Int and Text. Conditions: those in each statement. -/
import Derived.Test.YtlbmfgiepcemdaaRdrN
namespace Go.Proofs.Ytlbmfgiepcemdaa
open Go.RowKit

theorem numGo_lt : ∀ (l : List UInt8) (i n v k : Nat), i ≤ 9 → n < 128 ^ i → numGo i n l = some (v, k) → v ≤ 9223372036854775807 ∧ i < k ∧ k ≤ i + l.length
  | [], i, n, v, k, _, _, h => by rw [numGo] at h; cases h
  | c :: t, i, n, v, k, hi, hn, h => by
    rw [numGo] at h
    by_cases h9 : 9 ≤ i
    · rw [if_pos h9] at h; cases h
    · rw [if_neg h9] at h
      obtain ⟨k1, k2, _⟩ := or_shift n (c.toNat % 128) i (by omega) hn (by omega)
      by_cases h1 : 128 ≤ c.toNat
      · rw [if_pos h1] at h
        have := numGo_lt t (i + 1) _ v k (by omega) k2 h
        rw [List.length_cons]; omega
      · rw [if_neg h1] at h
        by_cases h2 : c.toNat = 0 ∧ 0 < i
        · rw [if_pos h2] at h; cases h
        · rw [if_neg h2] at h
          have e := Option.some.inj h
          injection e with e1 e2
          have h3 : (128 : Nat) ^ (i + 1) ≤ 128 ^ 9 := Nat.pow_le_pow_right (by omega) (by omega)
          have h9 : (128 : Nat) ^ 9 = 9223372036854775808 := rfl
          rw [List.length_cons]; omega
theorem numV_le (r : RS) : numV r ≤ 9223372036854775807 := by
  unfold numV
  cases h : numO r with
  | none => simp
  | some p => obtain ⟨v, k⟩ := p; exact (numGo_lt _ 0 0 v k (by omega) (by omega) h).1
theorem numR_size (r : RS) : (numR r).s.size ≤ r.s.size := by
  unfold numR
  cases h : numO r with
  | none => exact Nat.zero_le _
  | some p => obtain ⟨v, k⟩ := p; show (r.s.extract k r.s.size).size ≤ _; rw [ByteArray.size_extract]; omega
theorem takeR_size (r : RS) (n : Int) : (takeR r n).s.size ≤ r.s.size := by
  unfold takeR
  split
  · exact Nat.zero_le _
  · show (r.s.extract _ r.s.size).size ≤ _; rw [ByteArray.size_extract]; omega
def textS (r : RS) : ByteArray := takeS (numR r) (numV r)
def textR (r : RS) : RS := takeR (numR r) (numV r)
theorem textR_size (r : RS) : (textR r).s.size ≤ r.s.size := Nat.le_trans (takeR_size _ _) (numR_size r)
theorem rtext_any (b : Nat) (r : RS) (w : World) (h : RdrAt w b r) (hs : r.s.size ≤ 4294967296) : Calls Try.prog 47 #[.pointer (some ⟨b, 0, none⟩)] w (RPost b (textR r) (.string (textS r)) w) := by
  have HN := Lib.hid (rnum_any b r w h hs)
  have hz := numR_size r
  clear h
  unfold textR textS
  obtain ⟨R, hR⟩ : ∃ R, numR r = R := ⟨_, rfl⟩
  obtain ⟨V, hV⟩ : ∃ V, numV r = V := ⟨_, rfl⟩
  rw [hR, hV] at HN
  rw [hR] at hz
  rw [hR, hV]
  clear hR hV
  go_enter Try.func47, Try.ntmps47
  go_wp2_with fail
  (with_reducible refine HN.out.mono ?_)
  rintro e w1 ⟨rfl, hc1, hr1⟩
  have HC := Lib.hid hc1
  have HT := Lib.hid (take_any b R (V : Int) w1 hr1 (by omega))
  clear hc1 hr1
  go_wp2_with fail
  (with_reducible refine HT.out.mono ?_)
  rintro e w2 ⟨rfl, hc2, hr2⟩
  have HC2 := Lib.hid (HC.out.next hc2)
  have HR2 := Lib.hid hr2
  clear hc2 hr2
  go_wp2_with fail
  go_ret
  exact ⟨rfl, HC2.out, HR2.out⟩
def zig (z : Nat) : Int := if z % 2 = 1 then -((z / 2 : Nat) : Int) - 1 else ((z / 2 : Nat) : Int)
def intBad (z : Nat) : Bool := decide (zig z < -1152921504606846976 ∨ 1152921504606846976 < zig z)
def intV (r : RS) : Int := if intBad (numV r) then 0 else zig (numV r)
def intR (r : RS) : RS := if intBad (numV r) then RS.bad else numR r
theorem intR_size (r : RS) : (intR r).s.size ≤ r.s.size := by
  unfold intR
  split
  · exact Nat.zero_le _
  · exact numR_size r
set_option maxHeartbeats 1000000 in
set_option maxRecDepth 20000 in
theorem rint_any (b : Nat) (r : RS) (w : World) (h : RdrAt w b r) (hs : r.s.size ≤ 4294967296) : Calls Try.prog 68 #[.pointer (some ⟨b, 0, none⟩)] w (RPost b (intR r) (.int .i64 (intV r)) w) := by
  have HN := Lib.hid (rnum_any b r w h hs)
  have hv := numV_le r
  clear h
  unfold intR intV
  obtain ⟨R, hR⟩ : ∃ R, numR r = R := ⟨_, rfl⟩
  obtain ⟨z, hV⟩ : ∃ V, numV r = V := ⟨_, rfl⟩
  rw [hR, hV] at HN
  rw [hV] at hv
  rw [hR, hV]
  clear hR hV
  have hz0 : (0 : Int) ≤ z := by omega
  have hz1 : (z : Int) ≤ 9223372036854775807 := by omega
  obtain ⟨q, hq0⟩ : ∃ q, z / 2 = q := ⟨_, rfl⟩
  have hq : (z : Int) / 2 = (q : Int) := by omega
  have hq1 : (q : Int) ≤ 4611686018427387904 := by omega
  by_cases h2 : z % 2 = 1
  · have hm : ((z : Int) % 2 == 1) = true := by simp; omega
    by_cases h3 : (1152921504606846976 : Int) ≤ (q : Int)
    · have HB : Hid ((if intBad z then RS.bad else R) = RS.bad ∧ (if intBad z then 0 else zig z) = 0) := Lib.hid (by
        have hz : zig z = -(q : Int) - 1 := by unfold zig; rw [if_pos h2, hq0]
        have hi : intBad z = true := by unfold intBad; rw [hz]; simp; omega
        rw [hi]; exact ⟨rfl, rfl⟩)
      rw [HB.out.1, HB.out.2]
      clear hq0 h2 HB
      go_enter Try.func68, Try.ntmps68
      go_wp2_with fail
      (with_reducible refine HN.out.mono ?_)
      rintro e w1 ⟨rfl, hc1, hr1⟩
      have HC := Lib.hid hc1
      have HR := Lib.hid hr1
      clear hc1 hr1
      have HF := Lib.hid (fail_any b R w1 HR.out)
      go_wp2_with fail
      (with_reducible refine HF.out.mono ?_)
      rintro e w2 ⟨rfl, hc2, hr2⟩
      have HC2 := Lib.hid (HC.out.next hc2)
      have HR2 := Lib.hid hr2
      clear hc2 hr2
      go_wp2_with fail
      go_ret
      exact ⟨rfl, HC2.out, HR2.out⟩
    · have HB : Hid ((if intBad z then RS.bad else R) = R ∧ (if intBad z then 0 else zig z) = -(q : Int) - 1) := Lib.hid (by
        have hz : zig z = -(q : Int) - 1 := by unfold zig; rw [if_pos h2, hq0]
        have hi : intBad z = false := by unfold intBad; rw [hz]; simp; omega
        rw [hi]; exact ⟨rfl, hz⟩)
      rw [HB.out.1, HB.out.2]
      have h4 : (q : Int) ≤ 1152921504606846975 := by omega
      clear hq0 h2 HB h3
      go_enter Try.func68, Try.ntmps68
      go_wp2_with fail
      (with_reducible refine HN.out.mono ?_)
      rintro e w1 ⟨rfl, hc1, hr1⟩
      have HC := Lib.hid hc1
      have HR := Lib.hid hr1
      clear hc1 hr1
      go_wp2_with fail
      go_ret
      exact ⟨rfl, HC.out, HR.out⟩
  · have hm : ((z : Int) % 2 == 1) = false := by simp; omega
    by_cases h3 : (1152921504606846976 : Int) < (q : Int)
    · have HB : Hid ((if intBad z then RS.bad else R) = RS.bad ∧ (if intBad z then 0 else zig z) = 0) := Lib.hid (by
        have hz : zig z = (q : Int) := by unfold zig; rw [if_neg h2, hq0]
        have hi : intBad z = true := by unfold intBad; rw [hz]; simp; omega
        rw [hi]; exact ⟨rfl, rfl⟩)
      rw [HB.out.1, HB.out.2]
      clear hq0 h2 HB
      go_enter Try.func68, Try.ntmps68
      go_wp2_with fail
      (with_reducible refine HN.out.mono ?_)
      rintro e w1 ⟨rfl, hc1, hr1⟩
      have HC := Lib.hid hc1
      have HR := Lib.hid hr1
      clear hc1 hr1
      have HF := Lib.hid (fail_any b R w1 HR.out)
      go_wp2_with fail
      (with_reducible refine HF.out.mono ?_)
      rintro e w2 ⟨rfl, hc2, hr2⟩
      have HC2 := Lib.hid (HC.out.next hc2)
      have HR2 := Lib.hid hr2
      clear hc2 hr2
      go_wp2_with fail
      go_ret
      exact ⟨rfl, HC2.out, HR2.out⟩
    · have HB : Hid ((if intBad z then RS.bad else R) = R ∧ (if intBad z then 0 else zig z) = (q : Int)) := Lib.hid (by
        have hz : zig z = (q : Int) := by unfold zig; rw [if_neg h2, hq0]
        have hi : intBad z = false := by unfold intBad; rw [hz]; simp; omega
        rw [hi]; exact ⟨rfl, hz⟩)
      rw [HB.out.1, HB.out.2]
      clear hq0 h2 HB
      go_enter Try.func68, Try.ntmps68
      go_wp2_with fail
      (with_reducible refine HN.out.mono ?_)
      rintro e w1 ⟨rfl, hc1, hr1⟩
      have HC := Lib.hid hc1
      have HR := Lib.hid hr1
      clear hc1 hr1
      go_wp2_with fail
      go_ret
      exact ⟨rfl, HC.out, HR.out⟩
end Go.Proofs.Ytlbmfgiepcemdaa
