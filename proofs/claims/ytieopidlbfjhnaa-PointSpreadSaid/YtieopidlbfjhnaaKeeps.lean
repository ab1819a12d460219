/- The walk of PointKeeps: it returns true at every slice and moment, and writes nothing that was there. -/
import Derived.Test.YtieopidlbfjhnaaSmall
import Derived.BigRegion
namespace Go.Proofs.Ytieopidlbfjhnaa
open Go.RowKit

theorem row_ints {w : World} {a : Option Addr} {len cap : Nat} {zs : List Int}
    (h : (a = none ∧ len = 0 ∧ cap = 0 ∧ zs = []) ∨ ∃ x, a = some x ∧ len ≤ cap ∧ cap ≤ maxLen ∧ zs.length = cap ∧ (∀ i, i < zs.length → w.cell? (x.add i) = some (.int .i64 (zs.getD i 0))) ∧ ∀ n ∈ zs, (Lit.int .i64 n).wf = true) :
    Ints w a len (zs.take len) ∧ len ≤ 9223372036854775807 := by
  rcases h with ⟨rfl, rfl, rfl, rfl⟩ | ⟨x, rfl, h1, h2, h3, h4, _⟩
  · exact ⟨⟨rfl, fun h => absurd h (by omega)⟩, by omega⟩
  · unfold maxLen at h2
    refine ⟨⟨by rw [List.length_take]; omega, fun hn => ?_⟩, by omega⟩
    obtain ⟨b, off, spot⟩ := x
    have hc := h4 0 (by omega)
    have hspot : spot = none := by simpa [Addr.add] using World.cell?_spot hc
    subst hspot
    refine ⟨b, off, rfl, fun j hj => ?_⟩
    have := h4 j (by omega)
    rw [Addr.add_lit] at this
    rw [this]
    simp [el, List.getD_eq_getElem?_getD, List.getElem?_take_of_lt hj]

set_option maxHeartbeats 1000000 in
theorem keeps_out (A : Option Addr) (n c : Nat) (zs : List Int) (t : Int) (w : World) (h : Ints w A n zs) (hn : n ≤ 9223372036854775807)
    (ho : ¬ (Valid zs ∧ 0 ≤ t ∧ t ≤ 1125899906842624)) : Calls Try.prog 3 #[.slice A n c, .int .i64 t] w (TruePost w) := by
  by_cases h64 : n ≤ 64
  · by_cases hv : Valid zs
    · have HV := Lib.hid hv
      have HI := Lib.hid h
      have hl : 0 ≤ t → 1125899906842624 < t := fun h0 => by
        by_cases h : 1125899906842624 < t
        · exact h
        · exact absurd ⟨hv, h0, by omega⟩ ho
      clear hv h ho
      by_cases ht : t < 0
      · go_enter Try.func3, Try.ntmps3
        go_wp2_with fail
        (with_reducible refine (small_any w).mono ?_)
        rintro e w1 ⟨rfl, hb⟩
        have B1 := Lib.hid hb
        have H1 := Lib.hid (HI.out.below hb)
        clear hb
        go_wp2_with fail
        (with_reducible refine (right_yes A n c zs w1 H1.out HV.out).mono ?_)
        rintro e w' ⟨rfl, rfl⟩
        go_wp2_with fail
        go_ret
        exact ⟨rfl, B1.out⟩
      · have ht2 := hl (by omega)
        clear hl
        go_enter Try.func3, Try.ntmps3
        go_wp2_with fail
        (with_reducible refine (small_any w).mono ?_)
        rintro e w1 ⟨rfl, hb⟩
        have B1 := Lib.hid hb
        have H1 := Lib.hid (HI.out.below hb)
        clear hb
        go_wp2_with fail
        (with_reducible refine (right_yes A n c zs w1 H1.out HV.out).mono ?_)
        rintro e w' ⟨rfl, rfl⟩
        go_wp2_with fail
        go_ret
        exact ⟨rfl, B1.out⟩
    · have HV := Lib.hid hv
      have HI := Lib.hid h
      clear hv h ho
      go_enter Try.func3, Try.ntmps3
      go_wp2_with fail
      (with_reducible refine (small_any w).mono ?_)
      rintro e w1 ⟨rfl, hb⟩
      have B1 := Lib.hid hb
      have H1 := Lib.hid (HI.out.below hb)
      clear hb
      go_wp2_with fail
      (with_reducible refine (right_no A n c zs w1 H1.out hn HV.out).mono ?_)
      rintro e w' ⟨rfl, rfl⟩
      go_wp2_with fail
      go_ret
      exact ⟨rfl, B1.out⟩
  · clear ho h
    go_enter Try.func3, Try.ntmps3
    go_wp2_with fail
    (with_reducible refine (small_any w).mono ?_)
    rintro e w1 ⟨rfl, hb⟩
    have B1 := Lib.hid hb
    clear hb
    go_wp2_with fail
    go_ret
    exact ⟨rfl, B1.out⟩

set_option maxHeartbeats 2000000 in
set_option maxRecDepth 100000 in
theorem keeps_in (A : Option Addr) (n c : Nat) (zs : List Int) (t : Int) (w : World) (h : Ints w A n zs) (hv : Valid zs) (h0 : 0 ≤ t) (h1 : t ≤ 1125899906842624) :
    Calls Try.prog 3 #[.slice A n c, .int .i64 t] w (TruePost w) := by
  have hl := h.1
  have hn : n ≤ 64 := by have := hv.1; omega
  have hN : zs.length ≤ n ∧ n ≤ zs.length := by omega
  have HV := Lib.hid hv
  have HI := Lib.hid h
  clear hv h hl
  go_enter Try.func3, Try.ntmps3
  go_wp2_with fail
  (with_reducible refine (small_any w).mono ?_)
  rintro e w1 ⟨rfl, hb⟩
  have B1 := Lib.hid hb
  have H1 := Lib.hid (HI.out.below hb)
  clear hb HI
  go_wp2_with fail
  (with_reducible refine (right_yes A n c zs w1 H1.out HV.out).mono ?_)
  rintro e w' ⟨rfl, rfl⟩
  go_wp2_with fail
  (with_reducible refine (add_any A n c zs t w1 H1.out HV.out h0 h1).mono ?_)
  rintro e w2 ⟨A2, n2, c2, ms, rfl, ha, hi, hn2, hb⟩
  have B2 : Hid (Below w.heap.size w w2) := Lib.hid (B1.out.trans (hb.mono B1.out.size))
  have H2 := Lib.hid (H1.out.below hb)
  have M2 := Lib.hid hi
  obtain ⟨r, hr1, hr2, hr3, hr4⟩ := add_miss HV.out h0 h1 ha
  have R1 := Lib.hid hr1
  have R2 := Lib.hid hr2
  have R3 := Lib.hid hr3
  have R4 := Lib.hid hr4
  have HM := Lib.hid (add_valid HV.out h0 h1 ha)
  have HE := Lib.hid (add_ends HV.out ha)
  have HL := add_length ha
  have hM : ms.length ≤ n2 ∧ n2 ≤ ms.length := by have := hi.1; omega
  clear hb hi hr1 hr2 hr3 hr4 ha B1 H1
  go_wp2_with fail
  go_loop [7, 8] (fun m i => ∃ k : Nat, k ≤ n ∧ i = .int .i64 k ∧ m = .int .i64 (if r < k then 1 else 0)) (fun _ i => n - (intOf i).toNat)
  case atStart => exact ⟨0, by omega, rfl, by rw [if_neg (by omega)]⟩
  case round =>
    obtain ⟨k, hk, rfl, rfl⟩ := hrel
    by_cases hlt : k < n
    · obtain ⟨b, off, rfl, hcell⟩ := H2.out.2 (by omega)
      have c0 := hcell k hlt
      clear hcell
      by_cases hkr : k = r
      · have hir : ¬ r < k := by omega
        rw [if_neg hir]
        have hno := (R2.out (by omega)).1
        rw [← hkr] at hno
        have HNO := Lib.hid hno
        have HKR := Lib.hid hkr
        clear hno hkr
        go_wp2_with fail
        (with_reducible refine (has_no A2 n2 c2 ms (el zs k) w2 M2.out (by omega) HNO.out).mono ?_)
        rintro e w' ⟨rfl, rfl⟩
        go_wp2_with fail
        go_round
        case rel => exact ⟨k + 1, by omega, by go_num, by rw [if_pos (by have := HKR.out; omega)]⟩
        case measure => simp [intOf]; omega
      · have hyes : ∃ i, i < ms.length ∧ el ms i = el zs k := R1.out k (by omega) hkr
        have HY := Lib.hid hyes
        clear hyes
        have e1 : (if r < k then (1 : Int) else 0) = if r < k + 1 then 1 else 0 := by
          by_cases h : r < k
          · rw [if_pos h, if_pos (by omega)]
          · rw [if_neg h, if_neg (by omega)]
        have E1 := Lib.hid e1
        clear e1 hkr
        generalize (if r < k then (1 : Int) else 0) = mk at E1
        go_wp2_with fail
        (with_reducible refine (has_yes A2 n2 c2 ms (el zs k) w2 M2.out (by omega) HY.out).mono ?_)
        rintro e w' ⟨rfl, rfl⟩
        go_wp2_with fail
        go_round
        case rel => exact ⟨k + 1, by omega, by go_num, by rw [E1.out]⟩
        case measure => simp [intOf]; omega
    · obtain rfl : k = n := by omega
      by_cases hk0 : k = 0
      · subst hk0
        have hir : ¬ r < 0 := by omega
        rw [if_neg hir]
        have hyes : ∃ i, i < ms.length ∧ el ms i = t := R4.out (by omega)
        have HY := Lib.hid hyes
        clear hyes
        go_wp2_with fail
        (with_reducible refine (has_yes A2 n2 c2 ms t w2 M2.out (by omega) HY.out).mono ?_)
        rintro e w' ⟨rfl, rfl⟩
        go_wp2_with fail
        (with_reducible refine (right_yes A2 n2 c2 ms w2 M2.out HM.out).mono ?_)
        rintro e w' ⟨rfl, rfl⟩
        have hd0 : decide ((0 : Int) < ((0 : Nat) : Int)) = false := by decide
        go_wp2_with fail
        go_quiet (fail)
        go_wp2_with fail
        (with_reducible refine (near_any A2 n2 c2 ms t _ (M2.out.drewN _) (by omega)).mono ?_)
        rintro e w' ⟨rr, ok, rfl, hr, rfl⟩
        obtain ⟨rfl, rfl⟩ := near_mem HM.out HY.out hr
        clear hr
        have b1 : (rr == rr) = true := by simp
        go_wp2_with fail
        go_ret
        exact ⟨rfl, below_drewN' B2.out _⟩
      · obtain ⟨m0, m1⟩ := HE.out (by omega)
        obtain ⟨b, off, rfl, hcell⟩ := H2.out.2 (by omega)
        obtain ⟨b2, off2, rfl, hcell2⟩ := M2.out.2 (by omega)
        obtain ⟨k, rfl⟩ : ∃ k', k = k' + 1 := ⟨k - 1, by omega⟩
        obtain ⟨n2, rfl⟩ : ∃ k', n2 = k' + 1 := ⟨n2 - 1, by omega⟩
        have z0 := hcell 0 (by omega)
        have z1 := hcell k (by omega)
        have y0 := hcell2 0 (by omega)
        have y1 := hcell2 n2 (by omega)
        rw [Nat.add_zero] at z0 y0
        rw [show ms.length - 1 = n2 by omega, show zs.length - 1 = k by omega] at m1
        have N0 : Hid (el ms 0 = if el zs 0 < t then el zs 0 else t) := Lib.hid m0
        have N1 := Lib.hid m1
        clear hcell hcell2 m0 m1
        have g1 : ((0 : Int) < (k : Int) + 1) := by omega
        have g2 : ((0 : Int) < (n2 : Int) + 1) := by omega
        have g3 : ((n2 : Int) < (n2 : Int) + 1) := by omega
        have g4 : ((k : Int) < (k : Int) + 1) := by omega
        have g5 : (0 : Int) ≤ (k : Int) := by omega
        have g6 : (0 : Int) ≤ (n2 : Int) := by omega
        have q1 : (el ms 0 != min t (el zs 0)) = false := by
          have : el ms 0 = min t (el zs 0) := by rw [N0.out]; split <;> omega
          rw [this]; simp
        have q2 : (el ms n2 != max t (el zs k)) = false := by
          have : el ms n2 = max t (el zs k) := by rw [N1.out]; split <;> omega
          rw [this]; simp
        clear N0 N1
        by_cases hmt : ∃ i, i < ms.length ∧ el ms i = t
        · have HY := Lib.hid hmt
          clear hmt
          by_cases hrk : r < k + 1
          · rw [if_pos hrk]
            obtain rfl : n2 = 63 := by have := (R2.out (by omega)).2.2; omega
            go_wp2_with fail
            (with_reducible refine (has_yes _ _ c2 ms t w2 M2.out (by omega) HY.out).mono ?_)
            rintro e w' ⟨rfl, rfl⟩
            go_wp2_with fail
            (with_reducible refine (right_yes _ _ c2 ms w2 M2.out HM.out).mono ?_)
            rintro e w' ⟨rfl, rfl⟩
            go_wp2_with fail
            go_quiet (fail)
            go_wp2_with fail
            (with_reducible refine (near_any _ _ c2 ms t _ (M2.out.drewN _) (by omega)).mono ?_)
            rintro e w' ⟨rr, ok, rfl, hr, rfl⟩
            obtain ⟨rfl, rfl⟩ := near_mem HM.out HY.out hr
            clear hr
            have b1 : (rr == rr) = true := by simp
            go_wp2_with fail
            all_goals
              go_ret
              exact ⟨rfl, below_drewN' B2.out _⟩
          · rw [if_neg hrk]
            go_wp2_with fail
            (with_reducible refine (has_yes _ _ c2 ms t w2 M2.out (by omega) HY.out).mono ?_)
            rintro e w' ⟨rfl, rfl⟩
            go_wp2_with fail
            (with_reducible refine (right_yes _ _ c2 ms w2 M2.out HM.out).mono ?_)
            rintro e w' ⟨rfl, rfl⟩
            go_wp2_with fail
            go_quiet (fail)
            go_wp2_with fail
            (with_reducible refine (near_any _ _ c2 ms t _ (M2.out.drewN _) (by omega)).mono ?_)
            rintro e w' ⟨rr, ok, rfl, hr, rfl⟩
            obtain ⟨rfl, rfl⟩ := near_mem HM.out HY.out hr
            clear hr
            have b1 : (rr == rr) = true := by simp
            go_wp2_with fail
            all_goals
              go_ret
              exact ⟨rfl, below_drewN' B2.out _⟩
        · obtain ⟨no, h64, hr⟩ := R3.out hmt
          have HNO := Lib.hid no
          have hk63 : k = 63 := by
            by_cases hh : zs.length < 64
            · exact absurd (R4.out hh) hmt
            · omega
          clear no hmt
          rw [if_neg (by omega)]
          obtain rfl : n2 = 63 := by omega
          subst hk63
          go_wp2_with fail
          (with_reducible refine (has_no _ _ c2 ms t w2 M2.out (by omega) HNO.out).mono ?_)
          rintro e w' ⟨rfl, rfl⟩
          go_wp2_with fail
          (with_reducible refine (right_yes _ _ c2 ms w2 M2.out HM.out).mono ?_)
          rintro e w' ⟨rfl, rfl⟩
          go_wp2_with fail
          go_quiet (fail)
          go_wp2_with fail
          (with_reducible refine (near_any _ _ c2 ms t _ (M2.out.drewN _) (by omega)).mono ?_)
          rintro e w' ⟨rr, ok, rfl, hr2, rfl⟩
          clear hr2
          go_wp2_with fail
          all_goals
            go_ret
            exact ⟨rfl, below_drewN' B2.out _⟩

theorem keeps_any (A : Option Addr) (n c : Nat) (zs : List Int) (t : Int) (w : World) (h : Ints w A n zs) (hn : n ≤ 9223372036854775807) :
    Calls Try.prog 3 #[.slice A n c, .int .i64 t] w (TruePost w) := by
  by_cases ho : Valid zs ∧ 0 ≤ t ∧ t ≤ 1125899906842624
  · exact keeps_in A n c zs t w h ho.1 ho.2.1 ho.2.2
  · exact keeps_out A n c zs t w h hn ho
end Go.Proofs.Ytieopidlbfjhnaa
