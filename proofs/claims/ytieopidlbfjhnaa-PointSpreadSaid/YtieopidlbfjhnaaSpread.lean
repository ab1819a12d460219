/- The walk of PointSpread: it returns true at every sequence of steps and every moment, and writes nothing that was there. -/
import Derived.Test.YtieopidlbfjhnaaOrder
namespace Go.Proofs.Ytieopidlbfjhnaa
open Go.RowKit

/-- after k steps: l are the checkpoints, a the last moment, m the largest step -/
def Spread (l : List Int) (k : Nat) (a m : Int) : Prop :=
  Valid l ∧ 0 < l.length ∧ l.length = min (k + 1) 64 ∧ el l 0 = 0 ∧ el l (l.length - 1) = a ∧ 0 ≤ a ∧ a ≤ k * 1099511627776 ∧ 1 ≤ m ∧ m ≤ 1099511627776 ∧ ∀ i, 0 < i → i < l.length → el l i - el l (i - 1) ≤ max m (2 * a / 63)

theorem sum_gaps (X : List Int) (g : Int) : ∀ k : Nat, (∀ j, j < k → g ≤ el X (j + 2) - el X j) → k * g ≤ el X (k + 1) + el X k - el X 1 - el X 0
  | 0, _ => by rw [Nat.zero_add]; simp only [Int.natCast_zero, Int.zero_mul]; omega
  | k + 1, h => by
    have ih := sum_gaps X g k (fun j hj => h j (by omega))
    have h1 := h k (by omega)
    have e : ((k + 1 : Nat) : Int) * g = k * g + g := by rw [Int.natCast_add, Int.add_mul]; simp
    rw [e]
    have e2 : k + 1 + 1 = k + 2 := rfl
    rw [e2]; omega

theorem cnt_all {l : List Int} {t : Int} (hv : Valid l) (h : ∀ i, i < l.length → el l i < t) : l.countP (· < t) = l.length := by
  obtain ⟨a, b⟩ := cnt_spec t l (valid_sorted hv)
  have hle := cnt_le l t
  rcases Nat.lt_or_ge (l.countP (· < t)) l.length with h1 | h1
  · have := b _ (Nat.le_refl _) h1
    have := h _ h1; omega
  · omega

theorem spread_step {l ms : List Int} {k : Nat} {a m s : Int} (h : Spread l k a m) (h1 : 1 ≤ s) (h2 : s ≤ 1099511627776) (hk : k < 400) (ha : AddIs l (a + s) ms) : Spread ms (k + 1) (a + s) (max m s) := by
  obtain ⟨hv, hp, hl, z, e, a0, ak, m0, m1, hg⟩ := h
  have hlast : ∀ i, i < l.length → el l i < a + s := by
    intro i hi
    have := asc_le hv.2 i (l.length - 1) (by omega) (by omega); omega
  have hcnt := cnt_all hv hlast
  have hr1 : 0 ≤ a + s := by omega
  have hr2 : a + s ≤ 1125899906842624 := by omega
  have hval := add_valid hv hr1 hr2 ha
  have hX : ∀ j, j < l.length → el (ins l l.length (a + s)) j = el l j := fun j hj => ins_lt _ _ _ _ (Nat.le_refl _) hj
  have hXl : el (ins l l.length (a + s)) l.length = a + s := ins_eq _ _ _ (Nat.le_refl _)
  have hXn : (ins l l.length (a + s)).length = l.length + 1 := ins_length _ _ _ (Nat.le_refl _)
  have gX : ∀ i, 0 < i → i < l.length + 1 → el (ins l l.length (a + s)) i - el (ins l l.length (a + s)) (i - 1) ≤ max (max m s) (2 * (a + s) / 63) := by
    intro i i0 i1
    rcases Nat.lt_or_ge i l.length with h | h
    · rw [hX i h, hX (i - 1) (by omega)]
      have := hg i i0 h; omega
    · obtain rfl : i = l.length := by omega
      rw [hXl, hX _ (by omega), e]; omega
  have ak' : a + s ≤ ((k + 1 : Nat) : Int) * 1099511627776 := by
    rw [Int.natCast_add, Int.add_mul]; simp; omega
  rcases ha with ⟨hc, _⟩ | ⟨hc, hlen, rfl⟩ | ⟨hc, hlen, b, hb, rfl⟩
  · obtain ⟨p, hp', he⟩ := (mem_iff _ _).2 hc
    have := hlast p hp'; omega
  · rw [hcnt] at hval ⊢
    refine ⟨hval, by omega, by rw [hXn]; omega, by rw [hX 0 hp]; exact z, by rw [hXn, Nat.add_sub_cancel]; exact hXl, hr1, ak', by omega, by omega, fun i i0 i1 => gX i i0 (by omega)⟩
  · rw [hcnt] at hval hb ⊢
    obtain ⟨b1, b2, b3⟩ := hb
    have hel := er_len (ins l l.length (a + s)) b (by omega)
    have hsum := sum_gaps (ins l l.length (a + s)) _ 63 b3
    have x0 : el (ins l l.length (a + s)) 0 = 0 := by rw [hX 0 hp]; exact z
    have x1 : 0 ≤ el (ins l l.length (a + s)) 1 := by rw [hX 1 (by omega)]; exact (hv.2 1 (by omega)).1
    have x63 : el (ins l l.length (a + s)) 63 ≤ a + s := by rw [hX 63 (by omega)]; exact Int.le_of_lt (hlast 63 (by omega))
    have x64 : el (ins l l.length (a + s)) (63 + 1) = a + s := by rw [show 63 + 1 = l.length by omega]; exact hXl
    have hgap : el (ins l l.length (a + s)) (b + 1) - el (ins l l.length (a + s)) (b - 1) ≤ 2 * (a + s) / 63 := by
      rw [x64, x0] at hsum
      omega
    generalize ins l l.length (a + s) = X at *
    refine ⟨hval, by omega, by omega, by rw [er_lt _ _ _ (by omega)]; exact x0, ?_, hr1, ak', by omega, by omega, fun i i0 i1 => ?_⟩
    · rw [er_ge _ _ _ (by omega), show (X.eraseIdx b).length - 1 + 1 = 64 by omega]
      exact x64
    · rcases Nat.lt_trichotomy i b with h | h | h
      · rw [er_lt _ _ _ h, er_lt _ _ _ (by omega)]
        exact gX i i0 (by omega)
      · subst h
        rw [er_ge _ _ _ (Nat.le_refl _), er_lt _ _ _ (by omega)]
        omega
      · rw [er_ge _ _ _ (by omega), er_ge _ _ _ (by omega), show i - 1 + 1 = i by omega]
        have := gX (i + 1) (by omega) (by omega)
        rwa [Nat.add_sub_cancel] at this

theorem spread_start {ms : List Int} (h : AddIs [] 0 ms) : Spread ms 0 0 1 := by
  have : ms = [0] := by
    rcases h with ⟨hc, _⟩ | ⟨_, _, rfl⟩ | ⟨_, hl, _⟩
    · exact absurd hc (by decide)
    · decide
    · exact absurd hl (by decide)
  subst this
  refine ⟨by decide, by decide, by decide, by decide, by decide, by omega, by omega, by omega, by omega, fun i i0 i1 => ?_⟩
  simp at i1; omega

theorem spread_gap {l : List Int} {k : Nat} {a m g : Int} (h : Spread l k a m) (hg : GapTo l l.length g) : g ≤ max m (2 * a / 63) := by
  obtain ⟨_, _, _, _, _, _, _, _, _, hh⟩ := h
  rcases hg.2.2.2 with rfl | ⟨i, i0, i1, rfl⟩
  · omega
  · exact hh i i0 i1

theorem spread_near {l : List Int} {k : Nat} {a m t r : Int} {ok : Bool} (h : Spread l k a m) (hn : NearIs l t r ok) (h0 : 0 ≤ t) (h1 : t ≤ a) : ok = true ∧ t - r ≤ max m (2 * a / 63) ∧ r ≤ t ∧ 0 ≤ r := by
  obtain ⟨hv, hp, _, z, e, a0, _, m0, _, hh⟩ := h
  rcases hn with ⟨rfl, i, hi, rfl, hr, hj⟩ | ⟨_, _, hj⟩
  · refine ⟨rfl, ?_, hr, (hv.2 i hi).1⟩
    rcases Nat.lt_or_ge (i + 1) l.length with h | h
    · have g1 := hj (i + 1) (by omega) h
      have g2 := hh (i + 1) (by omega) h
      rw [Nat.add_sub_cancel] at g2; omega
    · obtain rfl : i = l.length - 1 := by omega
      rw [e]; omega
  · have := hj 0 hp; omega

set_option maxHeartbeats 2000000 in
set_option maxRecDepth 100000 in
theorem spread_any (A : Option Addr) (n c : Nat) (zs : List Int) (t : Int) (w : World) (h : Ints w A n zs) (hn : n ≤ 9223372036854775807) (ht : -9223372036854775808 ≤ t ∧ t ≤ 9223372036854775807) :
    Calls Try.prog 4 #[.slice A n c, .int .i64 t] w (TruePost w) := by
  have HI := Lib.hid h
  have hN : zs.length ≤ n ∧ n ≤ zs.length := by have := h.1; omega
  clear h
  by_cases h400 : n ≤ 400
  · go_enter Try.func4, Try.ntmps4
    go_wp2_with fail
    (with_reducible refine (small_any w).mono ?_)
    rintro e w1 ⟨rfl, hb⟩
    have B1 := Lib.hid hb
    have H1 := Lib.hid (HI.out.below hb)
    clear hb
    go_wp2_with fail
    have hnil : Ints w1 none 0 [] := ints_nil _
    (with_reducible refine (add_any none 0 0 [] 0 w1 hnil (by decide) (by omega) (by omega)).mono ?_)
    clear hnil
    rintro e w2 ⟨A2, n2, c2, ms, rfl, ha, hi, hn2, hb⟩
    have B2 : Hid (Below w.heap.size w w2) := Lib.hid (B1.out.trans (hb.mono B1.out.size))
    have H2 := Lib.hid (H1.out.below hb)
    have S2 := Lib.hid (spread_start ha)
    have I2 := Lib.hid hi
    clear hb hi ha B1 H1 HI
    go_wp2_with fail
    go_loopw [6, 7, 8, 9] (fun s6 s7 s8 s9 wr => ∃ (k n' c' : Nat) (A' : Option Addr) (l : List Int) (a m : Int), k ≤ n ∧ n' ≤ 64 ∧ 0 ≤ a ∧ a ≤ 439804651110400 ∧ 1 ≤ m ∧ m ≤ 1099511627776 ∧ s9 = .int .i64 k ∧ s6 = .slice A' n' c' ∧ s7 = .int .i64 a ∧ s8 = .int .i64 m ∧ Hid (Spread l k a m) ∧ Hid (Ints wr A' n' l) ∧ Hid (Ints wr A n zs) ∧ Hid (Below w.heap.size w wr)) (fun _ _ _ i _ => n - (intOf i).toNat)
    case atStart => exact ⟨0, n2, c2, A2, ms, 0, 1, by omega, by omega, by omega, by omega, by omega, by omega, rfl, rfl, rfl, rfl, S2, I2, H2, B2⟩
    case round =>
      obtain ⟨k, n', c', A', l, a, m, hk, hn', a0, a1, m0, m1, rfl, rfl, rfl, rfl, HS, HL, HZ, HB⟩ := hrel
      by_cases hlt : k < n
      · obtain ⟨b, off, rfl, hcell⟩ := HZ.out.2 (by omega)
        have c0 := hcell k hlt
        clear hcell
        by_cases h1 : el zs k < 1
        · go_wp2_with fail
          go_ret
          exact ⟨rfl, HB.out⟩
        · by_cases h2 : 1099511627776 < el zs k
          · go_wp2_with fail
            go_ret
            exact ⟨rfl, HB.out⟩
          · have ak : a ≤ k * 1099511627776 := HS.out.2.2.2.2.2.2.1
            have ak2 : a + el zs k ≤ 439804651110400 := by omega
            have HV := Lib.hid HS.out.1
            clear ak
            have HST := Lib.hid (fun ms (hh : AddIs l (a + el zs k) ms) => spread_step HS.out (by omega) (by omega) (by omega) hh)
            go_wp2_with fail
            (with_reducible refine (add_any A' n' c' l (a + el zs k) wr HL.out HV.out (by omega) (by omega)).mono ?_)
            rintro e w3 ⟨A3, n3, c3, ms3, rfl, ha, hi, hn3, hb⟩
            have S3 := Lib.hid (HST.out _ ha)
            have I3 := Lib.hid hi
            have B3 : Hid (Below w.heap.size w w3) := Lib.hid (HB.out.trans (hb.mono HB.out.size))
            have Z3 := Lib.hid (HZ.out.below hb)
            clear ha hi hb HST HL HZ HB HS
            go_wp2_with fail
            go_roundw
            case rel => exact ⟨k + 1, n3, c3, A3, ms3, _, _, by omega, hn3, by omega, ak2, by omega, by omega, by go_num, rfl, rfl, rfl, S3, I3, Z3, B3⟩
            case measure => simp [intOf]; omega
      · obtain rfl : k = n := by omega
        have HV := Lib.hid HS.out.1
        have HLN := Lib.hid (HL.out.1.symm.trans HS.out.2.2.1)
        go_wp2_with fail
        (with_reducible refine (gap_any A' n' c' l wr HL.out HV.out).mono ?_)
        rintro e w' ⟨g, rfl, hg, q, rfl⟩
        have hgl := spread_gap HS.out hg
        have hd1 : decide (max m (2 * a / 63) < g) = false := by simp; omega
        have hd2 : ((n' : Int) != min ((k : Int) + 1) 64) = false := by
          have := HLN.out
          have : (n' : Int) = min ((k : Int) + 1) 64 := by omega
          rw [this]; simp
        have HNR := Lib.hid (fun r ok (hh : NearIs l t r ok) (x0 : 0 ≤ t) (x1 : t ≤ a) => spread_near HS.out hh x0 x1)
        clear hg hgl
        generalize max m (2 * a / 63) = bd at hd1 HNR
        have hn64 : n' ≤ 9223372036854775807 := by omega
        go_wp2_with fail
        have HL2 := HL.out.drewN q
        (with_reducible refine (near_any A' n' c' l t (wr.drewN q) HL2 hn64).mono ?_)
        rintro e w' ⟨r, ok, rfl, hr, rfl⟩
        have HR := Lib.hid hr
        clear hr HL2
        by_cases t0 : t < 0
        · go_wp2_with fail
          all_goals
            go_ret
            exact ⟨rfl, below_drewN' HB.out _⟩
        · by_cases t1 : a < t
          · go_wp2_with fail
            all_goals
              go_ret
              exact ⟨rfl, below_drewN' HB.out _⟩
          · obtain ⟨rfl, r1, r2, r3⟩ := HNR.out r ok HR.out (by omega) (by omega)
            go_wp2_with fail
            all_goals
              go_ret
              exact ⟨rfl, below_drewN' HB.out _⟩
  · go_enter Try.func4, Try.ntmps4
    go_wp2_with fail
    (with_reducible refine (small_any w).mono ?_)
    rintro e w1 ⟨rfl, hb⟩
    have B1 := Lib.hid hb
    clear hb
    go_wp2_with fail
    go_ret
    exact ⟨rfl, B1.out⟩
end Go.Proofs.Ytieopidlbfjhnaa
