/- point.Add at valid slices and moments from 0 to 2^50: what it returns. Conditions: those in each statement. -/
import Derived.Test.YtieopidlbfjhnaaIns
namespace Go.Proofs.Ytieopidlbfjhnaa
open Go.RowKit

theorem valid_lt {zs : List Int} (h : Valid zs) : ∀ d i, i + d + 1 < zs.length → el zs i < el zs (i + d + 1)
  | 0, i, hj => by
    have := (h.2 (i + 1) (by omega)).2.2 (by omega)
    simpa using this
  | d + 1, i, hj => by
    have h1 := valid_lt h d i (by omega)
    have := (h.2 (i + d + 1 + 1) (by omega)).2.2 (by omega)
    simp only [Nat.add_sub_cancel] at this
    have e : i + (d + 1) + 1 = i + d + 1 + 1 := by omega
    rw [e]; omega
theorem valid_strict {zs : List Int} (h : Valid zs) (i j : Nat) (hij : i < j) (hj : j < zs.length) : el zs i < el zs j := by
  have := valid_lt h (j - i - 1) i (by omega)
  rwa [show i + (j - i - 1) + 1 = j by omega] at this

theorem valid_sorted {zs : List Int} (h : Valid zs) : zs.Pairwise (· ≤ ·) := by
  rw [List.pairwise_iff_getElem]
  intro i j hi hj hij
  have := valid_strict h i j hij hj
  simp only [el, List.getD_eq_getElem?_getD, List.getElem?_eq_getElem hi, List.getElem?_eq_getElem hj, Option.getD_some] at this
  omega

def DelPost (base b n c i : Nat) (zs : List Int) (w : World) (e : Ending) (w' : World) : Prop :=
  e = .returned (.slice (some ⟨b, 0, none⟩) (n - 1) c) ∧ Ints w' (some ⟨b, 0, none⟩) (n - 1) (zs.eraseIdx i) ∧ Below base w w'

theorem below_drewN' {B : Nat} {a w : World} (h : Below B a w) (n : Nat) : Below B a (w.drewN n) := ⟨h.os, h.tape, h.output, h.size, h.block⟩

theorem del_any (base b n c i : Nat) (zs : List Int) (w : World) (h : Own w base b n c zs) (hi : i < n) :
    Calls Try.prog 17 #[.slice (some ⟨b, 0, none⟩) n c, .int .i64 (i : Int), .int .i64 ((i : Int) + 1)] w (DelPost base b n c i zs w) := by
  obtain ⟨hl, hb, hnc, hcm, hcell, hfz⟩ := h
  have ht : zs.take n = zs := List.take_of_length_le (by omega)
  have hd := Try.slices_Delete_int_cells b 0 n c i (i + 1) zs w (by omega) hnc hcm (by omega) (by omega) (fun j hj => by rw [Nat.zero_add]; exact hcell j (by omega)) (fun j hj => by rw [Nat.zero_add]; exact hfz j)
  rw [ht, show i + 1 - i = 1 by omega] at hd
  have e1 : ((i + 1 : Nat) : Int) = (i : Int) + 1 := by omega
  rw [e1] at hd
  refine hd.mono ?_
  rintro e w' ⟨rfl, q, rfl⟩
  have hel : (zs.eraseIdx i).length = n - 1 := by rw [List.length_eraseIdx_of_lt (by omega)]; omega
  refine ⟨rfl, ⟨hel, fun _ => ⟨b, 0, rfl, fun j hj => ?_⟩⟩, below_cells b hb _ _ (below_drewN' (Below.refl _ _) q)⟩
  have hel' : (zs.take i ++ zs.drop (i + 1) ++ List.replicate 1 (0 : Int)).length = n := by simp; omega
  rw [cell_in (w := w.drewN q) (o := 0) (vs := (zs.take i ++ zs.drop (i + 1) ++ List.replicate 1 (0 : Int)).map (Value.int .i64)) (fun k hk => by
    rw [Nat.zero_add]
    have := hcell k (by rw [List.length_map, hel'] at hk; exact hk)
    show (w.cell? ⟨b, k, none⟩).isSome = true
    rw [this]; rfl) (0 + j) (by omega) (by rw [List.length_map, hel']; omega)]
  rw [show 0 + j - 0 = j by omega, ← List.eraseIdx_eq_take_drop_succ, List.map_append, List.getElem?_append_left (by rw [List.length_map, hel]; exact hj)]
  exact el_map _ j (by omega)

/-- what Add comes to at a valid slice and a moment in the range -/
def AddIs (zs : List Int) (t : Int) (ms : List Int) : Prop :=
  (zs.contains t = true ∧ ms = zs) ∨
  (zs.contains t = false ∧ zs.length < 64 ∧ ms = ins zs (zs.countP (· < t)) t) ∨
  (zs.contains t = false ∧ zs.length = 64 ∧ ∃ b, InnerTo (ins zs (zs.countP (· < t)) t) 63 b ∧ ms = (ins zs (zs.countP (· < t)) t).eraseIdx b)

def AddPost (zs : List Int) (t : Int) (w : World) (e : Ending) (w' : World) : Prop :=
  ∃ A n c ms, e = .returned (.slice A n c) ∧ AddIs zs t ms ∧ Ints w' A n ms ∧ n ≤ 64 ∧ Below w.heap.size w w'

theorem ins_range {zs : List Int} (hv : Valid zs) {i : Nat} {t : Int} (hi : i ≤ zs.length) (h0 : 0 ≤ t) (h1 : t ≤ 1125899906842624) : ∀ j, j < (ins zs i t).length → 0 ≤ el (ins zs i t) j ∧ el (ins zs i t) j ≤ 1125899906842624 := by
  intro j hj
  rw [ins_length _ _ _ hi] at hj
  rcases Nat.lt_or_ge j i with h | h
  · rw [ins_lt _ _ _ _ hi h]; exact ⟨(hv.2 j (by omega)).1, (hv.2 j (by omega)).2.1⟩
  · by_cases he : j = i
    · subst he; rw [ins_eq _ _ _ hi]; exact ⟨h0, h1⟩
    · obtain ⟨k, rfl⟩ : ∃ k, j = k + 1 := ⟨j - 1, by omega⟩
      rw [ins_gt _ _ _ _ hi (by omega)]; exact ⟨(hv.2 k (by omega)).1, (hv.2 k (by omega)).2.1⟩

set_option maxHeartbeats 1000000 in
theorem add_any (A : Option Addr) (n c : Nat) (zs : List Int) (t : Int) (w : World) (h : Ints w A n zs) (hv : Valid zs) (h0 : 0 ≤ t) (h1 : t ≤ 1125899906842624) :
    Calls Try.prog 8 #[.slice A n c, .int .i64 t] w (AddPost zs t w) := by
  have hl := h.1
  have hn : n ≤ 64 := by have := hv.1; omega
  have HC := Lib.hid (clone_any A n c zs w h hn)
  have HL := Lib.hid hl
  have HV := Lib.hid hv
  clear h hl hv
  go_enter Try.func8, Try.ntmps8
  go_wp2_with fail
  refine HC.out.mono ?_
  rintro e w1 ⟨A1, c1, rfl, hown, hb⟩
  clear HC
  have HW := Lib.hid hown
  have HB := Lib.hid hb
  clear hown hb
  go_wp2_with fail
  refine (right_yes A1 n c1 zs w1 (ints_of_own HW.out) HV.out).mono ?_
  rintro e w' ⟨rfl, rfl⟩
  go_wp2_with fail
  refine (search_any A1 n c1 zs t w1 (ints_of_own HW.out) hn (valid_sorted HV.out)).mono ?_
  rintro e w' ⟨rfl, q, rfl⟩
  have hi : zs.countP (· < t) ≤ n := by have := HL.out; rw [← this]; exact List.countP_le_length
  generalize HIX : zs.countP (· < t) = ix at hi
  have HX := Lib.hid HIX
  clear HIX
  cases hcon : zs.contains t with
  | true =>
    have HK := Lib.hid hcon
    clear hcon
    go_wp2_with fail
    go_ret
    exact ⟨A1, n, c1, zs, rfl, .inl ⟨HK.out, rfl⟩, ints_of_own HW.out, hn, below_drewN' HB.out q⟩
  | false =>
    have HK := Lib.hid hcon
    clear hcon
    go_wp2_with fail
    have hsz := HB.out.size
    refine (insert_any w.heap.size A1 n c1 ix w1.heap.size zs t ((w1.drewN q).alloc (.cells #[.int .i64 t] 3)) ?_ hi hn (heap_alloc_new (w1.drewN q) _) ?_ (by simp; omega)).mono ?_
    · exact World.ownsRow.alloc (w := w1.drewN q) HW.out _
    · intro a ha
      subst ha
      exact (HW.out.lt a.block (by
        rcases HW.out.2 with ⟨hh, _⟩ | ⟨g, cap, cur, hh, _⟩
        · injection hh with hh; cases hh
        · injection hh with hh; injection hh with hh; subst hh; rfl)).2
    rintro e w2 ⟨b2, c2, rfl, hown2, hb2⟩
    have HB2 : Hid (Below w.heap.size w w2) := Lib.hid (((below_drewN' HB.out q).alloc (by simpa using hsz) _).trans hb2)
    have HO2 := Lib.hid hown2
    clear hown2 hb2
    by_cases hfull : n < 64
    · have hd : decide (64 < n + 1) = false := by simp; omega
      have hd2 : decide ((64 : Int) < (n : Int) + 1) = false := by simp; omega
      go_wp2_with fail
      go_ret
      exact ⟨some ⟨b2, 0, none⟩, n + 1, c2, ins zs ix t, rfl, .inr (.inl ⟨HK.out, by have := HL.out; omega, by rw [HX.out]⟩), HO2.out.ints, by omega, HB2.out⟩
    · obtain rfl : n = 64 := by omega
      go_wp2_with fail
      refine (inner_any (some ⟨b2, 0, none⟩) (64 + 1) c2 (ins zs ix t) w2 HO2.out.ints (by omega) (by omega) (ins_range HV.out (by have := HL.out; omega) h0 h1)).mono ?_
      rintro e w' ⟨bi, rfl, hin, q2, rfl⟩
      have hil : (ins zs ix t).length = 65 := by rw [ins_length _ _ _ (by have := HL.out; omega), HL.out]
      have hb1 : bi < 65 := by have := hin.2.1; omega
      have HI : Hid (InnerTo (ins zs ix t) 63 bi) := Lib.hid (by have := hin; rwa [hil] at this)
      clear hin hil
      have e1 : IntKind.i64.wrap ((bi : Int) + 1) = (bi : Int) + 1 := IntWalk.i64_in _ (by omega)
      go_wp2_with fail
      refine (del_any w.heap.size b2 65 c2 bi (ins zs ix t) (w2.drewN q2) HO2.out hb1).mono ?_
      rintro e w3 ⟨rfl, hin3, hb3⟩
      have HI3 := Lib.hid hin3
      have HB3 := Lib.hid hb3
      clear hin3 hb3
      go_wp2_with fail
      go_ret
      exact ⟨some ⟨b2, 0, none⟩, 64, c2, _, rfl, .inr (.inr ⟨HK.out, HL.out, bi, by rw [HX.out]; exact HI.out, by rw [HX.out]⟩), HI3.out, by omega, (below_drewN' HB2.out q2).trans HB3.out⟩
end Go.Proofs.Ytieopidlbfjhnaa
