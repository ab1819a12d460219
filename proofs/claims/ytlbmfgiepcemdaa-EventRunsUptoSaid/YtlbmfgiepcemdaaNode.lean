/- value.node, value.Right and value.Bytes at every value. Conditions: those in each statement. -/
import Derived.Test.YtlbmfgiepcemdaaNodeA
import Derived.Deep.Light
namespace Go.Proofs.Ytlbmfgiepcemdaa
open Go.RowKit

set_option maxHeartbeats 4000000 in
set_option maxRecDepth 100000 in
theorem node_k6 (t : ByteArray) (n m : Int) (s : ByteArray) (l : List V) (A : Option Addr) (c : Nat) (w : World) (ht : t.size ≤ 2097152) :
    Calls Try.prog 56 #[.agg #[.int .i64 6, .string t, .int .i64 n, .int .i64 m, .string s, .slice A l.length c]] w fun e w' => e = .returned (.bool (node6 t n m s)) ∧ Below w.heap.size w w' := by
  have HT := Lib.hid (fun W => isType_any t W ht)
  go_enter Try.func56, Try.ntmps56
  go_wp2_with (first | (go_at_call 65; (with_reducible refine (HT.out _).mono ?_); rintro e w1 ⟨rfl, rfl⟩))
  all_goals
    go_ret
    refine ⟨?_, (Below.refl _ _).alloc (Nat.le_refl _) _⟩
    go_light
    first
      | (simp [node6, *]; done)
      | (simp [node6, *]; intros; omega)
set_option maxHeartbeats 4000000 in
set_option maxRecDepth 100000 in
theorem node_k7 (t : ByteArray) (n m : Int) (s : ByteArray) (l : List V) (A : Option Addr) (c : Nat) (w : World) (ht : t.size ≤ 2097152) :
    Calls Try.prog 56 #[.agg #[.int .i64 7, .string t, .int .i64 n, .int .i64 m, .string s, .slice A l.length c]] w fun e w' => e = .returned (.bool (node7 t n m s)) ∧ Below w.heap.size w w' := by
  have HT := Lib.hid (fun W => isType_any t W ht)
  go_enter Try.func56, Try.ntmps56
  go_wp2_with (first | (go_at_call 65; (with_reducible refine (HT.out _).mono ?_); rintro e w1 ⟨rfl, rfl⟩))
  all_goals
    go_ret
    refine ⟨?_, (Below.refl _ _).alloc (Nat.le_refl _) _⟩
    go_light
    first
      | (simp [node7, *]; done)
      | (simp [node7, *]; intros; omega)
set_option maxHeartbeats 4000000 in
set_option maxRecDepth 100000 in
theorem node_k8 (t : ByteArray) (n m : Int) (s : ByteArray) (l : List V) (A : Option Addr) (c : Nat) (w : World) (ht : t.size ≤ 2097152) (hs : s.size ≤ 2097152) :
    Calls Try.prog 56 #[.agg #[.int .i64 8, .string t, .int .i64 n, .int .i64 m, .string s, .slice A l.length c]] w fun e w' => e = .returned (.bool (node8 t n m s l)) ∧ Below w.heap.size w w' := by
  have HT := Lib.hid (fun W => isType_any t W ht)
  have HP := Lib.hid (fun W => path_any s W hs)
  go_enter Try.func56, Try.ntmps56
  go_wp2_with (first | (go_at_call 65; (with_reducible refine (HT.out _).mono ?_); rintro e w1 ⟨rfl, rfl⟩) | (go_at_call 18; (with_reducible refine (HP.out _).mono ?_); rintro e w2 ⟨rfl, hb2⟩; have HB2 := Lib.hid hb2; clear hb2))
  all_goals
    go_ret
    refine ⟨?_, by first | exact (Below.refl _ _).alloc (Nat.le_refl _) _ | exact ((Below.refl _ _).alloc (Nat.le_refl _) _).trans (HB2.out.mono (by simp))⟩
    go_light
    first
      | (simp [node8, *]; done)
      | (simp [node8, *]; intros; omega)
set_option maxHeartbeats 4000000 in
set_option maxRecDepth 100000 in
theorem node_k9 (t : ByteArray) (n m : Int) (s : ByteArray) (l : List V) (A : Option Addr) (c : Nat) (w : World) (ht : t.size ≤ 2097152) :
    Calls Try.prog 56 #[.agg #[.int .i64 9, .string t, .int .i64 n, .int .i64 m, .string s, .slice A l.length c]] w fun e w' => e = .returned (.bool (node9 t n m s)) ∧ Below w.heap.size w w' := by
  have HT := Lib.hid (fun W => isType_any t W ht)
  go_enter Try.func56, Try.ntmps56
  go_wp2_with (first | (go_at_call 65; (with_reducible refine (HT.out _).mono ?_); rintro e w1 ⟨rfl, rfl⟩))
  all_goals
    go_ret
    refine ⟨?_, (Below.refl _ _).alloc (Nat.le_refl _) _⟩
    go_light
    first
      | (simp [node9, *]; done)
      | (simp [node9, *]; intros; omega)
set_option maxHeartbeats 4000000 in
set_option maxRecDepth 100000 in
theorem node_k10 (t : ByteArray) (n m : Int) (s : ByteArray) (l : List V) (A : Option Addr) (c : Nat) (w : World) (ht : t.size ≤ 2097152) :
    Calls Try.prog 56 #[.agg #[.int .i64 10, .string t, .int .i64 n, .int .i64 m, .string s, .slice A l.length c]] w fun e w' => e = .returned (.bool (node10 t n m s l)) ∧ Below w.heap.size w w' := by
  have HT := Lib.hid (fun W => isType_any t W ht)
  have HI := Lib.hid inRange_any
  go_enter Try.func56, Try.ntmps56
  go_wp2_with (first | (go_at_call 65; (with_reducible refine (HT.out _).mono ?_); rintro e w1 ⟨rfl, rfl⟩) | (go_at_call 66; (with_reducible refine (HI.out _ _).mono ?_); rintro e w1 ⟨rfl, rfl⟩))
  all_goals
    go_ret
    refine ⟨?_, (Below.refl _ _).alloc (Nat.le_refl _) _⟩
    go_light
    first
      | (simp [node10, *]; done)
      | (simp [node10, *]; intros; omega)
set_option maxHeartbeats 4000000 in
set_option maxRecDepth 100000 in
theorem node_k0 (k : Int) (t : ByteArray) (n m : Int) (s : ByteArray) (l : List V) (A : Option Addr) (c : Nat) (w : World) (ht : t.size ≤ 2097152) (hk : ∀ j : Int, 1 ≤ j → j ≤ 10 → (k == j) = false) :
    Calls Try.prog 56 #[.agg #[.int .i64 k, .string t, .int .i64 n, .int .i64 m, .string s, .slice A l.length c]] w fun e w' => e = .returned (.bool false) ∧ Below w.heap.size w w' := by
  have HT := Lib.hid (fun W => isType_any t W ht)
  have k1 := hk 1 (by omega) (by omega)
  have k2 := hk 2 (by omega) (by omega)
  have k3 := hk 3 (by omega) (by omega)
  have k4 := hk 4 (by omega) (by omega)
  have k5 := hk 5 (by omega) (by omega)
  have k6 := hk 6 (by omega) (by omega)
  have k7 := hk 7 (by omega) (by omega)
  have k8 := hk 8 (by omega) (by omega)
  have k9 := hk 9 (by omega) (by omega)
  have k10 := hk 10 (by omega) (by omega)
  clear hk
  go_enter Try.func56, Try.ntmps56
  go_wp2_with (first | (go_at_call 65; (with_reducible refine (HT.out _).mono ?_); rintro e w1 ⟨rfl, rfl⟩))
  all_goals
    go_ret
    refine ⟨?_, (Below.refl _ _).alloc (Nat.le_refl _) _⟩
    go_light
    first
      | (simp [*]; done)
      | (simp [*]; intros; omega)
theorem node_any (k : Int) (t : ByteArray) (n m : Int) (s : ByteArray) (l : List V) (A : Option Addr) (c : Nat) (w : World) (ht : t.size ≤ 2097152) (hs : s.size ≤ 2097152) :
    Calls Try.prog 56 #[.agg #[.int .i64 k, .string t, .int .i64 n, .int .i64 m, .string s, .slice A l.length c]] w fun e w' => e = .returned (.bool (nodeP (.mk k t n m s l))) ∧ Below w.heap.size w w' := by
  by_cases h1 : k = 1
  · subst h1
    rw [show nodeP (.mk 1 t n m s l) = node1 t n m s l from rfl]
    exact node_k1 t n m s l A c w ht
  by_cases h2 : k = 2
  · subst h2
    rw [show nodeP (.mk 2 t n m s l) = node2 t n m s l from rfl]
    exact node_k2 t n m s l A c w ht
  by_cases h3 : k = 3
  · subst h3
    rw [show nodeP (.mk 3 t n m s l) = node3 t n m s l from rfl]
    exact node_k3 t n m s l A c w ht
  by_cases h4 : k = 4
  · subst h4
    rw [show nodeP (.mk 4 t n m s l) = node4 t n m s l from rfl]
    exact node_k4 t n m s l A c w ht
  by_cases h5 : k = 5
  · subst h5
    rw [show nodeP (.mk 5 t n m s l) = node5 t n m s l from rfl]
    exact node_k5 t n m s l A c w ht
  by_cases h6 : k = 6
  · subst h6
    rw [show nodeP (.mk 6 t n m s l) = node6 t n m s from rfl]
    exact node_k6 t n m s l A c w ht
  by_cases h7 : k = 7
  · subst h7
    rw [show nodeP (.mk 7 t n m s l) = node7 t n m s from rfl]
    exact node_k7 t n m s l A c w ht
  by_cases h8 : k = 8
  · subst h8
    rw [show nodeP (.mk 8 t n m s l) = node8 t n m s l from rfl]
    exact node_k8 t n m s l A c w ht hs
  by_cases h9 : k = 9
  · subst h9
    rw [show nodeP (.mk 9 t n m s l) = node9 t n m s from rfl]
    exact node_k9 t n m s l A c w ht
  by_cases h10 : k = 10
  · subst h10
    rw [show nodeP (.mk 10 t n m s l) = node10 t n m s l from rfl]
    exact node_k10 t n m s l A c w ht
  rw [show nodeP (.mk k t n m s l) = false by simp [nodeP, h1, h2, h3, h4, h5, h6, h7, h8, h9, h10]]
  refine node_k0 k t n m s l A c w ht fun j h1 h2 => ?_
  simp only [beq_eq_false_iff_ne]
  omega
mutual
/-- NODE: value.node comes to nodeP at every value that is not too large -/
theorem nodeOk_all : ∀ (v : V), v.bulk ≤ 2097152 → v.All (NodeOk nodeP)
  | .mk k t n m s l, h => by
    rw [bulk_mk] at h
    rw [V.All]
    refine ⟨fun k' t' n' m' s' l' e W A c _ => ?_, nodeOk_list l (by omega)⟩
    injection e with e1 e2 e3 e4 e5 e6
    subst e1 e2 e3 e4 e5 e6
    exact node_any k t n m s l A c W (by omega) (by omega)
theorem nodeOk_list : ∀ (l : List V), bulkV l ≤ 2097152 → AllV (NodeOk nodeP) l
  | [], _ => by rw [AllV]; trivial
  | v :: r, h => by
    rw [bulkV_cons] at h
    rw [AllV]
    exact ⟨nodeOk_all v (by omega), nodeOk_list r (by omega)⟩
end
end Go.Proofs.Ytlbmfgiepcemdaa
