/- Clone, BinarySearch and Insert at slices of ints in one contract each. Conditions: those in each statement. -/
import Derived.Test.YtieopidlbfjhnaaReads
import Derived.Test.YtieopidlbfjhnaaShelf
import Derived.Laws.Rows
namespace Go.Proofs.Ytieopidlbfjhnaa
open Go.RowKit

theorem el_map (zs : List Int) (j : Nat) (h : j < zs.length) : (zs.map (Value.int .i64))[j]? = some (.int .i64 (el zs j)) := by
  rw [List.getElem?_map, List.getElem?_eq_getElem h]
  simp [el, List.getD_eq_getElem?_getD, List.getElem?_eq_getElem h]

/-- a row of the call's own: the cells hold zs, none is frozen, the block is new -/
def Own (w : World) (base b n c : Nat) (zs : List Int) : Prop :=
  zs.length = n ∧ base ≤ b ∧ n ≤ c ∧ c ≤ 9223372036854775807 ∧ (∀ j, j < n → w.cell? ⟨b, j, none⟩ = some (.int .i64 (el zs j))) ∧ ∀ j, w.frozen? ⟨b, j, none⟩ = false

theorem Own.ints {w : World} {base b n c : Nat} {zs : List Int} (h : Own w base b n c zs) : Ints w (some ⟨b, 0, none⟩) n zs :=
  ⟨h.1, fun _ => ⟨b, 0, rfl, fun j hj => by rw [Nat.zero_add]; exact h.2.2.2.2.1 j hj⟩⟩

def ClonePost (zs : List Int) (n : Nat) (w : World) (e : Ending) (w' : World) : Prop :=
  ∃ A c, e = .returned (.slice A n c) ∧ w'.ownsRow w.heap.size 3 1 (.slice A n c) n (zs.map (Value.int .i64)) ∧ Below w.heap.size w w'

theorem own_slice {w : World} {base n : Nat} {v : Value} {xs : List Value} (h : w.ownsRow base 3 1 v n xs) : ∃ A c, v = .slice A n c := by
  rcases h.2 with ⟨rfl, rfl⟩ | ⟨g, cap, cur, rfl, _⟩
  · exact ⟨_, _, rfl⟩
  · exact ⟨_, _, rfl⟩

theorem clone_any (A : Option Addr) (n c : Nat) (zs : List Int) (w : World) (h : Ints w A n zs) (hn : n ≤ 64) :
    Calls Try.prog 13 #[.slice A n c] w (ClonePost zs n w) := by
  obtain ⟨hl, hc⟩ := h
  rcases Nat.eq_zero_or_pos n with h0 | h0
  · subst h0
    have hz : zs = [] := List.eq_nil_of_length_eq_zero hl
    subst hz
    cases A with
    | none =>
      refine (Try.slices_Clone_int_nil 0 c w).mono ?_
      rintro e w' ⟨rfl, rfl⟩
      exact ⟨none, 0, rfl, World.ownsRow_nil _ _ _ _, Below.refl _ _⟩
    | some a =>
      refine (Try.slices_Clone_int_zero a c w).mono ?_
      rintro e w' ⟨v', rfl, hown, _, hb⟩
      obtain ⟨A, d, rfl⟩ := own_slice hown
      exact ⟨A, d, rfl, hown, hb⟩
  · obtain ⟨b, off, rfl, hcell⟩ := hc h0
    refine (Try.slices_Clone_int b off n c zs w (by omega) (by omega) (fun j hj => hcell j (by omega))).mono ?_
    rintro e w' ⟨v', rfl, hown, _, hb⟩
    obtain ⟨A, d, rfl⟩ := own_slice hown
    rw [List.take_of_length_le (by omega)] at hown
    exact ⟨A, d, rfl, hown, hb⟩

theorem ints_of_own {w : World} {base n c : Nat} {A : Option Addr} {zs : List Int} (h : w.ownsRow base 3 1 (.slice A n c) n (zs.map (Value.int .i64))) : Ints w A n zs := by
  have hl : zs.length = n := by have := h.1; simpa using this
  refine ⟨hl, fun hn => ?_⟩
  rcases h.2 with ⟨_, h0⟩ | ⟨g, cap, cur, hv, _⟩
  · omega
  · injection hv with hA _ _
    subst hA
    refine ⟨g, 0, rfl, fun j hj => ?_⟩
    have := h.cells (g := g) rfl j _ (el_map zs j (by omega))
    rw [Addr.add_lit] at this
    exact this

def SearchPost (zs : List Int) (t : Int) (w : World) (e : Ending) (w' : World) : Prop :=
  e = .returned (.tuple #[.int .i64 (zs.countP (· < t) : Nat), .bool (zs.contains t)]) ∧ ∃ q, w' = w.drewN q

theorem search_any (A : Option Addr) (n c : Nat) (zs : List Int) (t : Int) (w : World) (h : Ints w A n zs) (hn : n ≤ 64) (hs : zs.Pairwise (· ≤ ·)) :
    Calls Try.prog 14 #[.slice A n c, .int .i64 t] w (SearchPost zs t w) := by
  obtain ⟨hl, hc⟩ := h
  rcases Nat.eq_zero_or_pos n with h0 | h0
  · subst h0
    have hz : zs = [] := List.eq_nil_of_length_eq_zero hl
    subst hz
    refine (Try.slices_BinarySearch_int_empty A c t w).mono ?_
    rintro e w' ⟨rfl, rfl⟩
    exact ⟨by simp, 0, rfl⟩
  · obtain ⟨b, off, rfl, hcell⟩ := hc h0
    have ht : zs.take n = zs := List.take_of_length_le (by omega)
    refine (Try.slices_BinarySearch_int b off n c zs t w (by omega) (by omega) (fun j hj => hcell j (by omega)) (by rw [ht]; exact hs)).mono ?_
    rintro e w' ⟨rfl, q, rfl⟩
    rw [ht]
    exact ⟨rfl, q, rfl⟩

/-- zs with t put in at i -/
def ins (zs : List Int) (i : Nat) (t : Int) : List Int := zs.take i ++ t :: zs.drop i

theorem ins_length (zs : List Int) (i : Nat) (t : Int) (h : i ≤ zs.length) : (ins zs i t).length = zs.length + 1 := by
  simp [ins]; omega
theorem ins_lt (zs : List Int) (i : Nat) (t : Int) (j : Nat) (hi : i ≤ zs.length) (h : j < i) : el (ins zs i t) j = el zs j := by
  unfold el ins
  rw [List.getD_eq_getElem?_getD, List.getElem?_append_left (by simp; omega), List.getElem?_take_of_lt h, ← List.getD_eq_getElem?_getD]
theorem ins_eq (zs : List Int) (i : Nat) (t : Int) (hi : i ≤ zs.length) : el (ins zs i t) i = t := by
  unfold el ins
  rw [List.getD_eq_getElem?_getD, List.getElem?_append_right (by simp; omega)]
  simp [List.length_take, Nat.min_eq_left hi]
theorem ins_gt (zs : List Int) (i : Nat) (t : Int) (j : Nat) (hi : i ≤ zs.length) (h : i ≤ j) : el (ins zs i t) (j + 1) = el zs j := by
  unfold el ins
  rw [List.getD_eq_getElem?_getD, List.getElem?_append_right (by simp; omega)]
  rw [List.length_take, Nat.min_eq_left hi, show j + 1 - i = (j - i) + 1 by omega, List.getElem?_cons_succ, List.getElem?_drop, show i + (j - i) = j by omega, ← List.getD_eq_getElem?_getD]

theorem cell_in {w : World} {b o : Nat} {vs : List Value} (h : ∀ j, j < vs.length → (w.cell? ⟨b, o + j, none⟩).isSome = true) (k : Nat) (h1 : o ≤ k) (h2 : k < o + vs.length) :
    (w.setCells b o vs).cell? ⟨b, k, none⟩ = vs[k - o]? := by
  have := World.cell?_setCells_in b vs o w h (k - o) (by omega)
  rw [show o + (k - o) = k by omega] at this
  rw [this, List.getElem?_eq_getElem (by omega)]
theorem cell_out {w : World} {b o : Nat} {vs : List Value} (k : Nat) (h : k < o ∨ o + vs.length ≤ k) : (w.setCells b o vs).cell? ⟨b, k, none⟩ = w.cell? ⟨b, k, none⟩ :=
  World.cell?_setCells_out b vs o w ⟨b, k, none⟩ (fun _ _ => h)

def InsPost (base : Nat) (zs : List Int) (i : Nat) (t : Int) (n : Nat) (w : World) (e : Ending) (w' : World) : Prop :=
  ∃ b c, e = .returned (.slice (some ⟨b, 0, none⟩) (n + 1) c) ∧ Own w' base b (n + 1) c (ins zs i t) ∧ Below base w w'

theorem isSome_setCells2 {w : World} {b o : Nat} {vs : List Value} (x : Addr) (h : (w.cell? x).isSome = true) : ((w.setCells b o vs).cell? x).isSome = true := by
  induction vs generalizing w o with
  | nil => exact h
  | cons v r ih =>
    refine ih ?_
    obtain ⟨u, hu⟩ := Option.isSome_iff_exists.1 h
    by_cases hx : x = ⟨b, o, none⟩
    · subst hx; rw [World.cell?_setCell_same _ _ _ hu]; rfl
    · rw [World.cell?_setCell_other _ _ _ _ (fun e => hx e.symm), hu]; rfl

theorem frozen_new (w : World) (arr : Array Value) (e : TypeId) (j : Nat) : (w.alloc (.cells arr e)).frozen? ⟨w.heap.size, j, none⟩ = false := by
  have h := heap_alloc_new w (.cells arr e)
  simp only [World.frozen?, h]
  simp
theorem cell_new (w : World) (arr : Array Value) (e : TypeId) (j : Nat) : (w.alloc (.cells arr e)).cell? ⟨w.heap.size, j, none⟩ = arr[j]? := cell_of_row _ _ j arr e (0, 0) (heap_alloc_new w _)

theorem below_cells {B : Nat} {a : World} (b : Nat) (hb : B ≤ b) : ∀ (vs : List Value) (o : Nat) {w : World}, Below B a w → Below B a (w.setCells b o vs)
  | [], _, _, h => h
  | v :: r, o, _, h => below_cells b hb r (o + 1) (h.setCell (p := ⟨b, o, none⟩) hb v)

set_option maxHeartbeats 400000 in
theorem insert_any (base : Nat) (A : Option Addr) (n c i vb : Nat) (zs : List Int) (t : Int) (w : World) (hown : w.ownsRow base 3 1 (.slice A n c) n (zs.map (Value.int .i64))) (hi : i ≤ n) (hn : n ≤ 64)
    (hvb : w.heap[vb]? = some (.cells #[.int .i64 t] 3 (0, 0))) (hne : ∀ a, A = some a → a.block < vb) (hbase : base ≤ w.heap.size) :
    Calls Try.prog 15 #[.slice A n c, .int .i64 i, .slice (some ⟨vb, 0, none⟩) 1 1] w (InsPost base zs i t n w) := by
  have hl : zs.length = n := by have := hown.1; simpa using this
  have hml : (zs.map (Value.int .i64)).length = n := by simpa using hl
  have hvs : ∀ j v, [Value.int .i64 t][j]? = some v → w.cell? ⟨vb, 0 + j, none⟩ = some v := by
    intro j v hj
    rcases j with _ | j
    · simp at hj; subst hj
      simp [World.cell?, hvb]
    · simp at hj
  have h1v : ∀ v ∈ [Value.int .i64 t], v.oneCell' = true := by intro v hv; simp at hv; subst hv; rfl
  have h1c : ∀ v ∈ zs.map (Value.int .i64), v.oneCell' = true := by
    intro v hv; simp at hv; obtain ⟨x, _, rfl⟩ := hv; rfl
  have hvz : ∀ k, w.frozen? ⟨vb, k, none⟩ = false := by intro k; simp [World.frozen?, hvb]
  have hvs' : w.shape? vb = some (3, 1) := by simp [World.shape?, hvb]
  rcases hown.2 with ⟨hv, h0⟩ | ⟨g, cap, cur, hv, hbg, hg, hnc, hcm, hcs, htake⟩
  · injection hv with hA hn0 hc0
    subst hA hc0 h0
    have hz : zs = [] := List.eq_nil_of_length_eq_zero hl
    subst hz
    obtain rfl : i = 0 := by omega
    refine (Any2.slices_Insert_int_end_grow Try.laysNm221 none 0 0 vb 0 1 1 [] [.int .i64 t] w (by omega) (by omega) (by omega) (by omega) rfl rfl (fun _ => rfl) (fun a ha => by cases ha) hvs h1v).mono ?_
    rintro e w' ⟨rfl, rfl⟩
    refine ⟨w.heap.size, _, rfl, ⟨rfl, hbase, grownCap_ge _ _ _ _, grownCap_le_maxLen _ _ _ _ (by unfold maxLen; omega), fun j hj => ?_, fun j => ?_⟩, ((Below.refl _ _).drew).alloc (by simpa using hbase) _⟩
    · obtain rfl : j = 0 := by omega
      refine (cell_new w.drew _ _ 0).trans ?_
      rw [Array.getElem?_append_left (by simp), List.getElem?_toArray]
      simp [ins, el]
    · exact frozen_new w.drew _ _ j
  · injection hv with hA _ hcc
    subst hA hcc
    have hgv : g ≠ vb := by have := hne _ rfl; simp at this; omega
    have hcell : ∀ j, j < n → w.cell? ⟨g, j, none⟩ = some (.int .i64 (el zs j)) := by
      intro j hj
      have := hown.cells (g := g) rfl j _ (el_map zs j (by omega))
      rw [Addr.add_lit, Nat.zero_add] at this
      exact this
    have hcz : cur.size = c := by simpa using hcs
    have hsome : ∀ j, j < c → (w.cell? ⟨g, j, none⟩).isSome = true := by
      intro j hj
      simp only [World.cell?, hg]
      simp [hcz, hj]
    have hfz : ∀ j, w.frozen? ⟨g, j, none⟩ = false := by intro j; simp [World.frozen?, hg]
    have hsh : w.shape? g = some (3, c) := by simp [World.shape?, hg, hcz]
    have hcs' : ∀ j v, (zs.map (Value.int .i64))[j]? = some v → w.cell? ⟨g, 0 + j, none⟩ = some v := by
      intro j v hj
      have hjl : j < zs.length := by
        rcases Nat.lt_or_ge j zs.length with h | h
        · exact h
        · rw [List.getElem?_eq_none (by simpa using h)] at hj; cases hj
      rw [el_map zs j hjl] at hj
      rw [Nat.zero_add, ← hj]; exact hcell j (by omega)
    unfold maxLen at hcm
    rcases Nat.lt_or_ge n c with hroom | hroom
    · rcases Nat.lt_or_ge i n with hin | hin
      · refine (Any2.slices_Insert_int_shift Try.laysNm221 g 0 n c i vb 0 1 1 (zs.map (Value.int .i64)) [.int .i64 t] w hin (by omega) (by omega) (by omega) hgv.symm hml rfl hcs' (fun j hj => by rw [Nat.zero_add]; exact hsome j (by omega)) (fun j hj => by rw [Nat.zero_add]; exact hfz j) hvs h1c h1v 3 3 1 c hvs' hsh (by omega) (hvz _) (hvz _)).mono ?_
        rintro e w' ⟨rfl, rfl⟩
        refine ⟨g, c, rfl, ⟨by rw [ins_length _ _ _ (by omega)]; omega, hbg, by omega, by omega, fun j hj => ?_, fun j => ?_⟩, below_cells g hbg _ _ (below_cells g hbg _ _ (Below.refl _ _).drew)⟩
        · have hdl : ((zs.map (Value.int .i64)).drop i).length = n - i := by rw [List.length_drop, hml]
          have hs1 : ∀ k, k < c → ((w.drew.setCells g (0 + (i + 1)) ((zs.map (Value.int .i64)).drop i)).cell? ⟨g, k, none⟩).isSome = true := fun k hk => isSome_setCells2 _ (hsome k hk)
          by_cases hji : j = i
          · subst hji
            rw [cell_in (o := 0 + j) (vs := [Value.int .i64 t]) (fun q hq => hs1 _ (by simp at hq; omega)) j (by omega) (by simp), ins_eq _ _ _ (by omega)]
            simp
          · rw [cell_out j (by simp; omega)]
            rcases Nat.lt_or_ge j i with hlt | hge
            · rw [cell_out j (by omega), ins_lt _ _ _ _ (by omega) hlt]
              exact hcell j (by omega)
            · obtain ⟨k, rfl⟩ : ∃ k, j = k + 1 := ⟨j - 1, by omega⟩
              rw [cell_in (w := w.drew) (o := 0 + (i + 1)) (vs := (zs.map (Value.int .i64)).drop i) (fun q hq => hsome _ (by omega)) (k + 1) (by omega) (by omega), ins_gt _ _ _ _ (by omega) (by omega), List.getElem?_drop, show i + (k + 1 - (0 + (i + 1))) = k by omega]
              exact el_map zs k (by omega)
        · rw [World.frozen?_setCells, World.frozen?_setCells]; exact hfz j
      · obtain rfl : i = n := by omega
        refine (Any2.slices_Insert_int_end_room Try.laysNm221 g 0 i c vb 0 1 1 [.int .i64 t] w (by omega) (by omega) (by omega) rfl (fun j hj => hsome _ (by omega)) (fun j hj => hfz _) hvs h1v).mono ?_
        rintro e w' ⟨rfl, rfl⟩
        refine ⟨g, c, rfl, ⟨by rw [ins_length _ _ _ (by omega)]; omega, hbg, by omega, by omega, fun j hj => ?_, fun j => ?_⟩, below_cells g hbg _ _ (Below.refl _ _)⟩
        · rcases Nat.lt_or_ge j i with hlt | hge
          · rw [cell_out j (by omega), ins_lt _ _ _ _ (by omega) hlt]
            exact hcell j (by omega)
          · obtain rfl : j = i := by omega
            rw [cell_in (o := 0 + j) (vs := [Value.int .i64 t]) (fun q hq => hsome _ (by simp at hq; omega)) j (by omega) (by simp), ins_eq _ _ _ (by omega)]
            simp
        · rw [World.frozen?_setCells]; exact hfz j
    · obtain rfl : c = n := by omega
      rcases Nat.lt_or_ge i c with hin | hin
      · refine (Any2.slices_Insert_int_grow Try.laysNm221 g 0 c c i vb 0 1 1 (zs.map (Value.int .i64)) [.int .i64 t] w hin (by omega) (by omega) (by omega) (by omega) hml rfl hcs' hvs h1c h1v).mono ?_
        rintro e w' ⟨rfl, rfl⟩
        generalize hK : grownCap w (c + 1) c 3 = K
        have hK1 : c + 1 ≤ K := by rw [← hK]; exact grownCap_ge _ _ _ _
        have hK2 : K ≤ maxLen := by rw [← hK]; exact grownCap_le_maxLen _ _ _ _ (by unfold maxLen; omega)
        unfold maxLen at hK2
        show InsPost base zs i t c w (.returned (.slice (some ⟨w.heap.size, 0, none⟩) (c + 1) (grownCap w (c + 1) c 3))) (((((w.alloc (.cells (((zs.map (Value.int .i64)).take i).toArray ++ Builtin.zeroCells (Value.int .i64 0).cells (c + 1 - i) ++ Builtin.zeroCells (Value.int .i64 0).cells (grownCap w (c + 1) c 3 - (c + 1))) 3)).drew.setCells w.heap.size i [.int .i64 t]).drew).setCells w.heap.size (i + 1) ((zs.map (Value.int .i64)).drop i)))
        rw [hK]
        have hdl : ((zs.map (Value.int .i64)).drop i).length = c - i := by rw [List.length_drop, hml]
        have htl : ((zs.map (Value.int .i64)).take i).length = i := by rw [List.length_take, hml]; omega
        generalize harr : (((zs.map (Value.int .i64)).take i).toArray ++ Builtin.zeroCells (Value.int .i64 0).cells (c + 1 - i) ++ Builtin.zeroCells (Value.int .i64 0).cells (K - (c + 1))) = arr
        have hsz : arr.size = K := by
          rw [← harr]; simp only [Array.size_append, size_zeroCells, List.size_toArray, htl]
          have : (Value.int .i64 0).cells.size = 1 := rfl
          rw [this]; omega
        have hlow : ∀ j, j < i → arr[j]? = some (.int .i64 (el zs j)) := by
          intro j hj
          rw [← harr, Array.getElem?_append_left (by simp only [Array.size_append, List.size_toArray, htl]; omega), Array.getElem?_append_left (by simp only [List.size_toArray, htl]; omega)]
          simp only [List.getElem?_toArray]
          rw [List.getElem?_take_of_lt hj]
          exact el_map zs j (by omega)
        have hnew : ∀ j, (w.alloc (.cells arr 3)).cell? ⟨w.heap.size, j, none⟩ = arr[j]? := fun j => cell_of_row _ _ j arr 3 (0, 0) (heap_alloc_new w _)
        have hs0 : ∀ j, j < K → ((w.alloc (.cells arr 3)).cell? ⟨w.heap.size, j, none⟩).isSome = true := by
          intro j hj; rw [hnew]; simp [hsz, hj]
        have hs1 : ∀ j, j < K → (((w.alloc (.cells arr 3)).drew.setCells w.heap.size i [.int .i64 t]).cell? ⟨w.heap.size, j, none⟩).isSome = true := fun j hj => isSome_setCells2 _ (hs0 j hj)
        refine ⟨w.heap.size, K, rfl, ⟨by rw [ins_length _ _ _ (by omega)]; omega, hbase, by omega, by omega, fun j hj => ?_, fun j => ?_⟩, below_cells _ hbase _ _ (below_cells _ hbase _ _ ((Below.refl _ _).alloc hbase _).drew).drew⟩
        · rcases Nat.lt_or_ge j (i + 1) with hlt | hge
          · rw [cell_out j (by omega)]
            show ((w.alloc (.cells arr 3)).drew.setCells w.heap.size i [.int .i64 t]).cell? ⟨w.heap.size, j, none⟩ = _
            rcases Nat.lt_or_ge j i with hlt2 | hge2
            · rw [cell_out j (by omega), ins_lt _ _ _ _ (by omega) hlt2]
              exact (hnew j).trans (hlow j hlt2)
            · obtain rfl : j = i := by omega
              rw [cell_in (w := (w.alloc (.cells arr 3)).drew) (o := j) (vs := [Value.int .i64 t]) (fun q hq => hs0 _ (by simp at hq; omega)) j (by omega) (by simp), ins_eq _ _ _ (by omega)]
              simp
          · obtain ⟨k, rfl⟩ : ∃ k, j = k + 1 := ⟨j - 1, by omega⟩
            rw [cell_in (w := ((w.alloc (.cells arr 3)).drew.setCells w.heap.size i [.int .i64 t]).drew) (o := i + 1) (vs := (zs.map (Value.int .i64)).drop i) (fun q hq => hs1 _ (by omega)) (k + 1) (by omega) (by omega), ins_gt _ _ _ _ (by omega) (by omega), List.getElem?_drop, show i + (k + 1 - (i + 1)) = k by omega]
            exact el_map zs k (by omega)
        · rw [World.frozen?_setCells]
          show ((w.alloc (.cells arr 3)).drew.setCells w.heap.size i [.int .i64 t]).frozen? ⟨w.heap.size, j, none⟩ = _
          rw [World.frozen?_setCells]
          exact frozen_new w arr 3 j
      · obtain rfl : i = c := by omega
        refine (Any2.slices_Insert_int_end_grow Try.laysNm221 (some ⟨g, 0, none⟩) i i vb 0 1 1 (zs.map (Value.int .i64)) [.int .i64 t] w (by omega) (by omega) (by omega) (by omega) hml rfl (fun h => by cases h) (fun a ha j v hj => by injection ha with ha; subst ha; rw [Addr.add_lit]; exact hcs' j v hj) hvs h1v).mono ?_
        rintro e w' ⟨rfl, rfl⟩
        have hK1 := grownCap_ge w (i + 1) i 3
        have hK2 := grownCap_le_maxLen w (i + 1) i 3 (by unfold maxLen; omega)
        unfold maxLen at hK2
        refine ⟨w.heap.size, _, rfl, ⟨by rw [ins_length _ _ _ (by omega)]; omega, hbase, hK1, hK2, fun j hj => ?_, fun j => ?_⟩, ((Below.refl _ _).drew).alloc (by simpa using hbase) _⟩
        · refine (cell_of_row _ _ j _ 3 (0, 0) (heap_alloc_new w.drew _)).trans ?_
          rw [Array.getElem?_append_left (by simp; omega), List.getElem?_toArray]
          rcases Nat.lt_or_ge j i with hlt | hge
          · rw [List.getElem?_append_left (by omega), ins_lt _ _ _ _ (by omega) hlt]
            exact el_map zs j (by omega)
          · obtain rfl : j = i := by omega
            rw [List.getElem?_append_right (by omega), ins_eq _ _ _ (by omega), hml]
            simp
        · exact frozen_new w.drew _ _ j
end Go.Proofs.Ytieopidlbfjhnaa
