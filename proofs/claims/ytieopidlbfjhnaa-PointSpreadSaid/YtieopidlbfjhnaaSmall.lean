/- The fixed example at the head of each statement: it holds in every world, and writes nothing that was there. -/
import Derived.Test.YtieopidlbfjhnaaPlain
namespace Go.Proofs.Ytieopidlbfjhnaa
open Go.RowKit

theorem add_053 {ms : List Int} (h : AddIs [0, 5] 3 ms) : ms = [0, 3, 5] := by
  rcases h with ⟨hc, _⟩ | ⟨_, _, rfl⟩ | ⟨_, hl, _⟩
  · exact absurd hc (by decide)
  · decide
  · exact absurd hl (by decide)
theorem add_7 {ms : List Int} (h : AddIs [] 7 ms) : ms = [7] := by
  rcases h with ⟨hc, _⟩ | ⟨_, _, rfl⟩ | ⟨_, hl, _⟩
  · exact absurd hc (by decide)
  · decide
  · exact absurd hl (by decide)

theorem valid_of (zs : List Int) (h : zs.length ≤ 64 ∧ ∀ i, i < zs.length → 0 ≤ el zs i ∧ el zs i ≤ 1125899906842624 ∧ (0 < i → el zs (i - 1) < el zs i)) : Valid zs := h
instance (zs : List Int) (i : Nat) : Decidable (OkAt zs i) := by unfold OkAt; infer_instance
instance (zs : List Int) : Decidable (Valid zs) := by unfold Valid; infer_instance

theorem near_4 {r : Int} {ok : Bool} (h : NearIs [0, 3, 5] 4 r ok) : r = 3 ∧ ok = true := by
  rcases h with ⟨rfl, i, hi, h1, h2, h3⟩ | ⟨_, _, h3⟩
  · simp at hi
    have h4 := h3 2
    have h5 := h3 1
    obtain rfl | rfl | rfl : i = 0 ∨ i = 1 ∨ i = 2 := by omega
    · have := h5 (by omega) (by decide); exact absurd this (by decide)
    · exact ⟨h1.symm, rfl⟩
    · rw [← h1] at h2; exact absurd h2 (by decide)
  · exact absurd (h3 0 (by decide)) (by decide)
theorem near_1 {r : Int} {ok : Bool} (h : NearIs [2] 1 r ok) : r = 0 ∧ ok = false := by
  rcases h with ⟨rfl, i, hi, h1, h2, h3⟩ | ⟨h1, h2, h3⟩
  · simp at hi
    subst hi
    rw [← h1] at h2; exact absurd h2 (by decide)
  · exact ⟨h2, h1⟩
theorem gap_3 {g : Int} (h : GapTo [0, 3, 5] 3 g) : g = 3 := by
  obtain ⟨_, _, h1, h2⟩ := h
  have a := h1 1 (by omega) (by omega)
  have e1 : el [0, 3, 5] 1 - el [0, 3, 5] (1 - 1) = 3 := by decide
  rw [e1] at a
  rcases h2 with rfl | ⟨i, i1, i2, h⟩
  · omega
  · obtain rfl | rfl : i = 1 ∨ i = 2 := by omega
    · rw [h]; exact e1
    · have e2 : el [0, 3, 5] 2 - el [0, 3, 5] (2 - 1) = 2 := by decide
      rw [e2] at h; omega

theorem ints_new (w : World) (zs : List Int) (arr : Array Value) (h : arr = (zs.map (Value.int .i64)).toArray) : Ints (w.alloc (.cells arr 3)) (some ⟨w.heap.size, 0, none⟩) zs.length zs :=
  ⟨rfl, fun _ => ⟨_, _, rfl, fun j hj => by rw [Nat.zero_add, cell_new, h, List.getElem?_toArray]; exact el_map zs j hj⟩⟩

theorem ints_nil (w : World) : Ints w none 0 [] := ⟨rfl, fun h => absurd h (by omega)⟩

def TruePost (w : World) (e : Ending) (w' : World) : Prop := e = .returned (.bool true) ∧ Below w.heap.size w w'

set_option maxHeartbeats 400000 in
theorem small_any (w : World) : Calls Try.prog 6 #[] w (TruePost w) := by
  go_enter Try.func6, Try.ntmps6
  go_wp2_with fail
  (with_reducible refine (add_any (some ⟨w.heap.size, 0, none⟩) 2 2 [0, 5] 3 _ (ints_new w [0, 5] _ rfl) (by decide) (by omega) (by omega)).mono ?_)
  rintro e w1 ⟨A1, n1, c1, ms, rfl, ha, hi, hn, hb⟩
  have hms := add_053 ha
  subst hms
  have hn1 : n1 = 3 := hi.1.symm
  subst hn1
  have hb0 : Below w.heap.size w w1 := ((Below.refl _ _).alloc (Nat.le_refl _) _).trans (hb.mono (by simp))
  have H1 := Lib.hid hi
  have B1 := Lib.hid hb0
  clear ha hi hb hb0 hn
  go_wp2_with fail
  (with_reducible refine (near_any A1 3 c1 [0, 3, 5] 4 w1 H1.out (by omega)).mono ?_)
  rintro e w' ⟨r, ok, rfl, hr, rfl⟩
  obtain ⟨rfl, rfl⟩ := near_4 hr
  clear hr
  go_wp2_with fail
  (with_reducible refine (near_any _ 1 1 [2] 1 _ (ints_new w1 [2] _ rfl) (by omega)).mono ?_)
  rintro e w' ⟨r, ok, rfl, hr, rfl⟩
  obtain ⟨rfl, rfl⟩ := near_1 hr
  clear hr
  have H2 := Lib.hid (H1.out.below ((Below.refl w1.heap.size w1).alloc (Nat.le_refl _) (.cells #[.int .i64 2] 3)))
  have B2 := Lib.hid (B1.out.alloc B1.out.size (.cells #[.int .i64 2] 3))
  clear H1 B1
  generalize w1.alloc (.cells #[.int .i64 2] 3) = w2 at H2 B2
  go_wp2_with fail
  have B3 := Lib.hid (B2.out.alloc B2.out.size (.cells #[.int .i64 0, .int .i64 3, .int .i64 5] 3))
  have H3 := Lib.hid (H2.out.below ((Below.refl w2.heap.size w2).alloc (Nat.le_refl _) (.cells #[.int .i64 0, .int .i64 3, .int .i64 5] 3)))
  have hN3 : Ints (w2.alloc (.cells #[.int .i64 0, .int .i64 3, .int .i64 5] 3)) (some ⟨w2.heap.size, 0, none⟩) 3 [0, 3, 5] := ints_new w2 [0, 3, 5] _ rfl
  (with_reducible refine (same_yes A1 _ 3 c1 3 [0, 3, 5] _ H3.out hN3 (by omega)).mono ?_)
  rintro e w' ⟨rfl, q, rfl⟩
  clear H2 B2 hN3
  generalize w2.alloc (.cells #[.int .i64 0, .int .i64 3, .int .i64 5] 3) = w3 at H3 B3
  have b3 : ((3 : Int) == 3) = true := rfl
  go_wp2_with fail
  have H4 := H3.out.drewN q
  (with_reducible refine (gap_any A1 3 c1 [0, 3, 5] (w3.drewN q) H4 (by decide)).mono ?_)
  clear H4
  rintro e w' ⟨g, rfl, hg, q2, rfl⟩
  have hg3 := gap_3 hg
  subst hg3
  clear hg
  go_wp2_with fail
  have H5 := H3.out.drewN (q + q2)
  (with_reducible refine (right_yes A1 3 c1 [0, 3, 5] (w3.drewN (q + q2)) H5 (by decide)).mono ?_)
  clear H5
  rintro e w' ⟨rfl, rfl⟩
  go_wp2_with fail
  have hN4 : Ints ((w3.drewN (q + q2)).alloc (.cells #[.int .i64 1, .int .i64 1] 3)) (some ⟨w3.heap.size, 0, none⟩) 2 [1, 1] := ints_new (w3.drewN (q + q2)) [1, 1] _ rfl
  (with_reducible refine (right_no _ 2 2 [1, 1] _ hN4 (by omega) (by decide)).mono ?_)
  clear hN4
  rintro e w' ⟨rfl, rfl⟩
  have B5 := Lib.hid ((below_drewN' B3.out (q + q2)).alloc (below_drewN' B3.out (q + q2)).size (.cells #[.int .i64 1, .int .i64 1] 3))
  clear B3 H3
  generalize (w3.drewN (q + q2)).alloc (.cells #[.int .i64 1, .int .i64 1] 3) = w5 at B5
  go_wp2_with fail
  have hN5 : Ints w5 none 0 [] := ints_nil _
  (with_reducible refine (add_any none 0 0 [] 7 w5 hN5 (by decide) (by omega) (by omega)).mono ?_)
  rintro e w6 ⟨A6, n6, c6, ms, rfl, ha, hi, hn, hb⟩
  have hms := add_7 ha
  subst hms
  have hn1 : n6 = 1 := hi.1.symm
  subst hn1
  have B6 : Hid (Below w.heap.size w w6) := Lib.hid (B5.out.trans (hb.mono B5.out.size))
  clear ha hi hb hn B5
  go_wp2_with fail
  go_ret
  exact ⟨rfl, B6.out⟩
end Go.Proofs.Ytieopidlbfjhnaa
