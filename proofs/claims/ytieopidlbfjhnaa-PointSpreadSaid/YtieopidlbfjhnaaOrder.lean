/- The walk of PointOrder: it returns true at every slice and two moments, and writes nothing that was there. -/
import Derived.Test.YtieopidlbfjhnaaKeeps
namespace Go.Proofs.Ytieopidlbfjhnaa
open Go.RowKit

theorem asc_eq : ∀ xs ys : List Int, xs.Pairwise (· < ·) → ys.Pairwise (· < ·) → (∀ x, x ∈ xs ↔ x ∈ ys) → xs = ys
  | [], [], _, _, _ => rfl
  | [], y :: r, _, _, h => absurd ((h y).2 (by simp)) (by simp)
  | x :: r, [], _, _, h => absurd ((h x).1 (by simp)) (by simp)
  | x :: r, y :: s, hx, hy, h => by
    have px := List.pairwise_cons.1 hx
    have py := List.pairwise_cons.1 hy
    have e : x = y := by
      have h1 := (h x).1 (by simp)
      have h2 := (h y).2 (by simp)
      rcases List.mem_cons.1 h1 with h1 | h1
      · exact h1
      · rcases List.mem_cons.1 h2 with h2 | h2
        · exact h2.symm
        · have := py.1 x h1; have := px.1 y h2; omega
    subst e
    rw [asc_eq r s px.2 py.2 (fun z => ?_)]
    constructor
    · intro hz
      rcases List.mem_cons.1 ((h z).1 (by simp [hz])) with e | e
      · have := px.1 z hz; omega
      · exact e
    · intro hz
      rcases List.mem_cons.1 ((h z).2 (by simp [hz])) with e | e
      · have := py.1 z hz; omega
      · exact e

theorem asc_pairwise {zs : List Int} (h : Asc zs) : zs.Pairwise (· < ·) := by
  rw [List.pairwise_iff_getElem]
  intro i j hi hj hij
  have := asc_strict h i j hij hj
  simp only [el, List.getD_eq_getElem?_getD, List.getElem?_eq_getElem hi, List.getElem?_eq_getElem hj, Option.getD_some] at this
  omega
theorem mem_list (zs : List Int) (x : Int) : Mem zs x ↔ x ∈ zs := by rw [mem_iff, List.contains_iff_mem]

theorem valid_eq {xs ys : List Int} (hx : Valid xs) (hy : Valid ys) (h : ∀ x, Mem xs x ↔ Mem ys x) : xs = ys :=
  asc_eq xs ys (asc_pairwise hx.2) (asc_pairwise hy.2) fun x => by rw [← mem_list, ← mem_list]; exact h x

section
variable {zs ms : List Int} {t : Int}
theorem add_mem (hn : zs.length < 64) (h : AddIs zs t ms) (x : Int) : Mem ms x ↔ Mem zs x ∨ x = t := by
  rcases h with ⟨hc, rfl⟩ | ⟨hc, hl, rfl⟩ | ⟨hc, hl, _⟩
  · have := (mem_iff _ t).2 hc
    constructor
    · exact .inl
    · rintro (h | rfl)
      · exact h
      · exact this
  · rw [mem_list, mem_list]
    unfold ins
    rw [List.mem_append, List.mem_cons]
    conv => rhs; rw [← List.take_append_drop (zs.countP (· < t)) zs, List.mem_append]
    constructor
    · rintro (h | h | h)
      · exact .inl (.inl h)
      · exact .inr h
      · exact .inl (.inr h)
    · rintro ((h | h) | h)
      · exact .inl h
      · exact .inr (.inr h)
      · exact .inr (.inl h)
  · omega
theorem add_len_le (h : AddIs zs t ms) (hn : zs.length < 64) : ms.length ≤ zs.length + 1 := by
  rcases h with ⟨hc, rfl⟩ | ⟨hc, hl, rfl⟩ | ⟨hc, hl, _⟩
  · omega
  · rw [ins_length _ _ _ (cnt_le _ _)]; omega
  · omega

/-- one more moment: the largest gap is at most the one before, or the moment, or the first -/
theorem gap_grows {u g g1 : Int} (hv : Valid zs) (ht : Mem zs t) (h0 : 0 ≤ u) (hn : zs.length < 64) (h : AddIs zs u ms) (hg : GapTo ms ms.length g) (hg1 : GapTo zs zs.length g1) : g ≤ max (max g1 u) t := by
  obtain ⟨_, _, _, hx⟩ := hg
  obtain ⟨z0, _, hz, _⟩ := hg1
  rcases hx with rfl | ⟨i, i0, i1, rfl⟩
  · omega
  rcases h with ⟨hc, rfl⟩ | ⟨hc, hl, rfl⟩ | ⟨hc, hl, _⟩
  · have := hz i i0 i1; omega
  · obtain ⟨a, b⟩ := cnt_spec u zs (valid_sorted hv)
    have hle := cnt_le zs u
    rw [ins_length _ _ _ hle] at i1
    generalize zs.countP (· < u) = k at a b hle
    obtain ⟨j, rfl⟩ : ∃ j, i = j + 1 := ⟨i - 1, by omega⟩
    rw [Nat.add_sub_cancel]
    rcases Nat.lt_trichotomy (j + 1) k with h | h | h
    · rw [ins_lt _ _ _ _ hle h, ins_lt _ _ _ _ hle (by omega)]
      have := hz (j + 1) (by omega) (by omega)
      rw [Nat.add_sub_cancel] at this; omega
    · subst h
      rw [ins_eq _ _ _ hle, ins_lt _ _ _ _ hle (by omega)]
      have := (hv.2 j (by omega)).1; omega
    · rw [ins_gt _ _ _ _ hle (by omega)]
      by_cases hjk : j = k
      · subst hjk
        rw [ins_eq _ _ _ hle]
        rcases Nat.eq_zero_or_pos j with h' | h'
        · subst h'
          obtain ⟨p, hp, he⟩ := ht
          have := asc_le hv.2 0 p (by omega) hp; omega
        · have h1 := a (j - 1) (by omega)
          have h2 := hz j h' (by omega)
          omega
      · obtain ⟨m, rfl⟩ : ∃ m, j = m + 1 := ⟨j - 1, by omega⟩
        rw [ins_gt _ _ _ _ hle (by omega)]
        have := hz (m + 1) (by omega) (by omega)
        rw [Nat.add_sub_cancel] at this; omega
  · omega
end

set_option maxHeartbeats 1000000 in
theorem order_out (A : Option Addr) (n c : Nat) (zs : List Int) (t u : Int) (w : World) (h : Ints w A n zs) (hn : n ≤ 9223372036854775807)
    (ho : ¬ (n ≤ 62 ∧ Valid zs ∧ 0 ≤ t ∧ t ≤ 1125899906842624 ∧ 0 ≤ u ∧ u ≤ 1125899906842624)) : Calls Try.prog 5 #[.slice A n c, .int .i64 t, .int .i64 u] w (TruePost w) := by
  by_cases h62 : n ≤ 62
  · by_cases hv : Valid zs
    · have hcase : t < 0 ∨ (0 ≤ t ∧ u < 0) ∨ (0 ≤ t ∧ 0 ≤ u ∧ 1125899906842624 < t) ∨ (0 ≤ t ∧ 0 ≤ u ∧ t ≤ 1125899906842624 ∧ 1125899906842624 < u) := by
        by_cases h1 : t < 0
        · exact .inl h1
        · by_cases h2 : u < 0
          · exact .inr (.inl ⟨by omega, h2⟩)
          · by_cases h3 : 1125899906842624 < t
            · exact .inr (.inr (.inl ⟨by omega, by omega, h3⟩))
            · by_cases h4 : 1125899906842624 < u
              · exact .inr (.inr (.inr ⟨by omega, by omega, by omega, h4⟩))
              · exact absurd ⟨h62, hv, by omega, by omega, by omega, by omega⟩ ho
      have HV := Lib.hid hv
      have HI := Lib.hid h
      clear hv h ho
      rcases hcase with h1 | ⟨h1, h2⟩ | ⟨h1, h2, h3⟩ | ⟨h1, h2, h3, h4⟩
      all_goals
        go_enter Try.func5, Try.ntmps5
        go_wp2_with fail
        (with_reducible refine (small_any w).mono ?_)
        rintro e w1 ⟨rfl, hb⟩
        have B1 := Lib.hid hb
        have H1 := Lib.hid (HI.out.below hb)
        clear hb
        go_wp2_with fail
        (with_reducible refine (right_yes A n c zs w1 H1.out HV.out).mono ?_)
        rintro e w' ⟨rfl, rfl⟩
        go_wp2_with fail
        go_ret
        exact ⟨rfl, B1.out⟩
    · have HV := Lib.hid hv
      have HI := Lib.hid h
      clear hv h ho
      go_enter Try.func5, Try.ntmps5
      go_wp2_with fail
      (with_reducible refine (small_any w).mono ?_)
      rintro e w1 ⟨rfl, hb⟩
      have B1 := Lib.hid hb
      have H1 := Lib.hid (HI.out.below hb)
      clear hb
      go_wp2_with fail
      (with_reducible refine (right_no A n c zs w1 H1.out hn HV.out).mono ?_)
      rintro e w' ⟨rfl, rfl⟩
      go_wp2_with fail
      go_ret
      exact ⟨rfl, B1.out⟩
  · clear ho h
    go_enter Try.func5, Try.ntmps5
    go_wp2_with fail
    (with_reducible refine (small_any w).mono ?_)
    rintro e w1 ⟨rfl, hb⟩
    have B1 := Lib.hid hb
    clear hb
    go_wp2_with fail
    go_ret
    exact ⟨rfl, B1.out⟩

theorem fin {g : Int} (x : Int) (h : g ≤ x) : Ending.returned (Value.bool (decide (g ≤ x))) = Ending.returned (.bool true) := by simp [h]

set_option maxHeartbeats 2000000 in
set_option maxRecDepth 100000 in
theorem order_in (A : Option Addr) (n c : Nat) (zs : List Int) (t u : Int) (w : World) (h : Ints w A n zs) (hn : n ≤ 62) (hv : Valid zs) (h0 : 0 ≤ t) (h1 : t ≤ 1125899906842624) (k0 : 0 ≤ u) (k1 : u ≤ 1125899906842624) :
    Calls Try.prog 5 #[.slice A n c, .int .i64 t, .int .i64 u] w (TruePost w) := by
  have hl := h.1
  have hN : zs.length ≤ 62 := by omega
  have HV := Lib.hid hv
  have HI := Lib.hid h
  clear hv h hl
  go_enter Try.func5, Try.ntmps5
  go_wp2_with fail
  (with_reducible refine (small_any w).mono ?_)
  rintro e w1 ⟨rfl, hb⟩
  have B1 := Lib.hid hb
  have H1 := Lib.hid (HI.out.below hb)
  clear hb HI
  go_wp2_with fail
  (with_reducible refine (right_yes A n c zs w1 H1.out HV.out).mono ?_)
  rintro e w' ⟨rfl, rfl⟩
  -- Add(l, t)
  go_wp2_with fail
  (with_reducible refine (add_any A n c zs t w1 H1.out HV.out h0 h1).mono ?_)
  rintro e w2 ⟨A2, n2, c2, m1, rfl, ha, hi, hn2, hb⟩
  have B2 : Hid (Below w.heap.size w w2) := Lib.hid (B1.out.trans (hb.mono B1.out.size))
  have H2 := Lib.hid (H1.out.below hb)
  have P2 := Lib.hid hi
  have V2 := Lib.hid (add_valid HV.out h0 h1 ha)
  have A1 := Lib.hid ha
  have L1 := Lib.hid (add_len_le ha (by omega))
  clear hb hi ha B1 H1
  -- Add(.., u)
  go_wp2_with fail
  (with_reducible refine (add_any A2 n2 c2 m1 u w2 P2.out V2.out k0 k1).mono ?_)
  rintro e w3 ⟨A3, n3, c3, a, rfl, ha, hi, hn3, hb⟩
  have B3 : Hid (Below w.heap.size w w3) := Lib.hid (B2.out.trans (hb.mono B2.out.size))
  have H3 := Lib.hid (H2.out.below hb)
  have P3 := Lib.hid hi
  have V3 := Lib.hid (add_valid V2.out k0 k1 ha)
  have A2' := Lib.hid ha
  clear hb hi ha B2 H2 P2
  -- Add(l, u)
  go_wp2_with fail
  (with_reducible refine (add_any A n c zs u w3 H3.out HV.out k0 k1).mono ?_)
  rintro e w4 ⟨A4, n4, c4, m2, rfl, ha, hi, hn4, hb⟩
  have B4 : Hid (Below w.heap.size w w4) := Lib.hid (B3.out.trans (hb.mono B3.out.size))
  have H4 := Lib.hid (H3.out.below hb)
  have P4 := Lib.hid (P3.out.below hb)
  have Q4 := Lib.hid hi
  have V4 := Lib.hid (add_valid HV.out k0 k1 ha)
  have A3' := Lib.hid ha
  have L4 := Lib.hid (add_len_le ha (by omega))
  clear hb hi ha B3 H3 P3
  -- Add(.., t)
  go_wp2_with fail
  (with_reducible refine (add_any A4 n4 c4 m2 t w4 Q4.out V4.out h0 h1).mono ?_)
  rintro e w5 ⟨A5, n5, c5, b, rfl, ha, hi, hn5, hb⟩
  have B5 : Hid (Below w.heap.size w w5) := Lib.hid (B4.out.trans (hb.mono B4.out.size))
  have H5 := Lib.hid (H4.out.below hb)
  have P5 := Lib.hid (P4.out.below hb)
  have V5 := add_valid V4.out h0 h1 ha
  have hab : a = b := valid_eq V3.out V5 (fun x => by
    rw [add_mem (by have := L1.out; omega) A2'.out x, add_mem (by omega) A1.out x, add_mem (by have := L4.out; omega) ha x, add_mem (by omega) A3'.out x, or_assoc, or_assoc, Or.comm (a := x = t)])
  subst hab
  have hnn : n3 = n5 := P5.out.1.symm.trans hi.1
  subst hnn
  have Q5 := Lib.hid hi
  clear hb hi ha B4 H4 P4 Q4 V5
  -- Same(a, b)
  go_wp2_with fail
  (with_reducible refine (same_yes A3 A5 n3 c3 c5 a w5 P5.out Q5.out (by omega)).mono ?_)
  rintro e w' ⟨rfl, q, rfl⟩
  clear Q5
  -- Add(a, t)
  go_wp2_with fail
  have P6 := P5.out.drewN q
  (with_reducible refine (add_any A3 n3 c3 a t (w5.drewN q) P6 V3.out h0 h1).mono ?_)
  clear P6
  rintro e w6 ⟨A6, n6, c6, a', rfl, ha, hi, hn6, hb⟩
  have ma : Mem a t := (add_mem (by have := L1.out; omega) A2'.out t).2 (.inl ((add_mem (by omega) A1.out t).2 (.inr rfl)))
  have haa : a' = a := by
    rcases ha with ⟨_, h⟩ | ⟨hc, _⟩ | ⟨hc, _⟩
    · exact h
    · rw [(mem_iff a t).1 ma] at hc; cases hc
    · rw [(mem_iff a t).1 ma] at hc; cases hc
  subst haa
  have hnn : n3 = n6 := P5.out.1.symm.trans hi.1
  subst hnn
  have B6 : Hid (Below w.heap.size w w6) := Lib.hid ((below_drewN' B5.out q).trans (hb.mono (below_drewN' B5.out q).size))
  have H6 := Lib.hid ((H5.out.drewN q).below hb)
  have P6 := Lib.hid ((P5.out.drewN q).below hb)
  have Q6 := Lib.hid hi
  clear hb hi ha B5 H5 P5 ma
  go_wp2_with fail
  (with_reducible refine (same_yes A6 A3 n3 c6 c3 a' w6 Q6.out P6.out (by omega)).mono ?_)
  rintro e w' ⟨rfl, q2, rfl⟩
  clear Q6
  go_wp2_with fail
  have P7 := P6.out.drewN q2
  (with_reducible refine (gap_any A3 n3 c3 a' (w6.drewN q2) P7 V3.out).mono ?_)
  clear P7
  rintro e w' ⟨g, rfl, hg, q3, rfl⟩
  have G1 := Lib.hid hg
  clear hg
  go_wp2_with fail
  have P8 := H6.out.drewN (q2 + q3)
  (with_reducible refine (add_any A n c zs t _ P8 HV.out h0 h1).mono ?_)
  clear P8
  rintro e w8 ⟨A8, n8, c8, m1', rfl, ha, hi, hn8, hb⟩
  have hm : m1' = m1 := valid_eq (add_valid HV.out h0 h1 ha) V2.out (fun x => by rw [add_mem (by omega) ha x, add_mem (by omega) A1.out x])
  subst hm
  have B8 : Hid (Below w.heap.size w w8) := Lib.hid ((below_drewN' B6.out (q2 + q3)).trans (hb.mono (below_drewN' B6.out (q2 + q3)).size))
  have P9 := Lib.hid hi
  clear hb hi ha B6 H6 P6
  go_wp2_with fail
  (with_reducible refine (gap_any A8 n8 c8 m1' w8 P9.out V2.out).mono ?_)
  rintro e w' ⟨g1, rfl, hg, q4, rfl⟩
  have hle := gap_grows V2.out ((add_mem (by omega) A1.out t).2 (.inr rfl)) k0 (by have := L1.out; omega) A2'.out G1.out hg
  have HLE := Lib.hid hle
  clear hg hle
  go_wp2_with fail
  all_goals
    go_ret
    refine ⟨?_, below_drewN' B8.out _⟩
    have hle := HLE.out
    exact fin _ (by omega)

theorem order_any (A : Option Addr) (n c : Nat) (zs : List Int) (t u : Int) (w : World) (h : Ints w A n zs) (hn : n ≤ 9223372036854775807) :
    Calls Try.prog 5 #[.slice A n c, .int .i64 t, .int .i64 u] w (TruePost w) := by
  by_cases ho : n ≤ 62 ∧ Valid zs ∧ 0 ≤ t ∧ t ≤ 1125899906842624 ∧ 0 ≤ u ∧ u ≤ 1125899906842624
  · exact order_in A n c zs t u w h ho.1 ho.2.1 ho.2.2.1 ho.2.2.2.1 ho.2.2.2.2.1 ho.2.2.2.2.2
  · exact order_out A n c zs t u w h hn ho
end Go.Proofs.Ytieopidlbfjhnaa
