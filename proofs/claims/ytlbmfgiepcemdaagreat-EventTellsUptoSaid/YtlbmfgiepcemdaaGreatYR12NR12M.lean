/- ref12.node (the kinds but 6 to 8; printed by wip/tools/gen_r12n.py). Conditions: those in each statement. ref12.node (the kinds 6 to 8; all of it; printed by wip/tools/gen_r12n.py). Conditions: those in each statement. -/
import Derived.Test.YtlbmfgiepcemdaaGreatYPathNodeANode
import Derived.Test.YtlbmfgiepcemdaaGreatYR09U
import Derived.Test.YtlbmfgiepcemdaaGreatYR12P
namespace Go.Proofs.YtlbmfgiepcemdaaGreat
open Go.RowKit

/-- ref12.node asks a number of elements of the kinds 6, 7, 9 as well -/
def rnode6 (t : ByteArray) (n m : Int) (s : ByteArray) (l : List V) : Bool := decide ((l.length : Int) ≤ 16384) && node6 t n m s
def rnode7 (t : ByteArray) (n m : Int) (s : ByteArray) (l : List V) : Bool := decide ((l.length : Int) ≤ 16384) && node7 t n m s
def rnode9 (t : ByteArray) (n m : Int) (s : ByteArray) (l : List V) : Bool := decide ((l.length : Int) ≤ 16384) && node9 t n m s
/-- ref12.node -/
def rnodeP : V → Bool
  | .mk k t n m s l =>
    if k = 1 then node1 t n m s l
    else if k = 2 then node2 t n m s l
    else if k = 3 then node3 t n m s l
    else if k = 4 then node4 t n m s l
    else if k = 5 then node5 t n m s l
    else if k = 6 then rnode6 t n m s l
    else if k = 7 then rnode7 t n m s l
    else if k = 8 then node8 t n m s l
    else if k = 9 then rnode9 t n m s l
    else if k = 10 then node10 t n m s l
    else false
set_option maxHeartbeats 4000000 in
set_option maxRecDepth 100000 in
theorem rnode_k1 (t : ByteArray) (n m : Int) (s : ByteArray) (l : List V) (A : Option Addr) (c : Nat) (w : World) :
    Calls Tryz.prog 94 #[.agg #[.int .i64 1, .string t, .int .i64 n, .int .i64 m, .string s, .slice A l.length c]] w fun e w' => e = .returned (.bool (node1 t n m s l)) ∧ Below w.heap.size w w' := by
  have FIN : Hid (∀ x y : Obj, Below w.heap.size w ((w.alloc x).alloc y)) := Lib.hid (fun x y => ((Below.refl _ _).alloc (Nat.le_refl _) _).alloc (by simp) _)
  go_enter Tryz.func94, Tryz.ntmps94
  go_wp2_with fail
  all_goals
    go_ret
    refine ⟨?_, by repeat (first | exact FIN.out _ _ | refine below_setCells _ (by simp) _ _ ?_ | refine Below.setCell ?_ (by simp) _)⟩
    go_light
    first
      | (simp [node1, *]; done)
      | (simp [node1, *]; intros; omega)
set_option maxHeartbeats 4000000 in
set_option maxRecDepth 100000 in
theorem rnode_k2 (t : ByteArray) (n m : Int) (s : ByteArray) (l : List V) (A : Option Addr) (c : Nat) (w : World) :
    Calls Tryz.prog 94 #[.agg #[.int .i64 2, .string t, .int .i64 n, .int .i64 m, .string s, .slice A l.length c]] w fun e w' => e = .returned (.bool (node2 t n m s l)) ∧ Below w.heap.size w w' := by
  have FIN : Hid (∀ x y : Obj, Below w.heap.size w ((w.alloc x).alloc y)) := Lib.hid (fun x y => ((Below.refl _ _).alloc (Nat.le_refl _) _).alloc (by simp) _)
  go_enter Tryz.func94, Tryz.ntmps94
  go_wp2_with fail
  all_goals
    go_ret
    refine ⟨?_, by repeat (first | exact FIN.out _ _ | refine below_setCells _ (by simp) _ _ ?_ | refine Below.setCell ?_ (by simp) _)⟩
    go_light
    first
      | (simp [node2, *]; done)
      | (simp [node2, *]; intros; omega)
set_option maxHeartbeats 4000000 in
set_option maxRecDepth 100000 in
theorem rnode_k3 (t : ByteArray) (n m : Int) (s : ByteArray) (l : List V) (A : Option Addr) (c : Nat) (w : World) :
    Calls Tryz.prog 94 #[.agg #[.int .i64 3, .string t, .int .i64 n, .int .i64 m, .string s, .slice A l.length c]] w fun e w' => e = .returned (.bool (node3 t n m s l)) ∧ Below w.heap.size w w' := by
  have FIN : Hid (∀ x y : Obj, Below w.heap.size w ((w.alloc x).alloc y)) := Lib.hid (fun x y => ((Below.refl _ _).alloc (Nat.le_refl _) _).alloc (by simp) _)
  have HI := Lib.hid rin_any
  go_enter Tryz.func94, Tryz.ntmps94
  go_wp2_with (first | (go_at_call 105; (with_reducible refine (HI.out _ _).mono ?_); rintro e w1 ⟨rfl, rfl⟩))
  all_goals
    go_ret
    refine ⟨?_, by repeat (first | exact FIN.out _ _ | refine below_setCells _ (by simp) _ _ ?_ | refine Below.setCell ?_ (by simp) _)⟩
    go_light
    first
      | (simp [node3, *]; done)
      | (simp [node3, *]; intros; omega)
set_option maxHeartbeats 4000000 in
set_option maxRecDepth 100000 in
theorem rnode_k4 (t : ByteArray) (n m : Int) (s : ByteArray) (l : List V) (A : Option Addr) (c : Nat) (w : World) :
    Calls Tryz.prog 94 #[.agg #[.int .i64 4, .string t, .int .i64 n, .int .i64 m, .string s, .slice A l.length c]] w fun e w' => e = .returned (.bool (node4 t n m s l)) ∧ Below w.heap.size w w' := by
  have FIN : Hid (∀ x y : Obj, Below w.heap.size w ((w.alloc x).alloc y)) := Lib.hid (fun x y => ((Below.refl _ _).alloc (Nat.le_refl _) _).alloc (by simp) _)
  go_enter Tryz.func94, Tryz.ntmps94
  go_wp2_with fail
  all_goals
    go_ret
    refine ⟨?_, by repeat (first | exact FIN.out _ _ | refine below_setCells _ (by simp) _ _ ?_ | refine Below.setCell ?_ (by simp) _)⟩
    go_light
    first
      | (simp [node4, *]; done)
      | (simp [node4, *]; intros; omega)
set_option maxHeartbeats 4000000 in
set_option maxRecDepth 100000 in
theorem rnode_k5 (t : ByteArray) (n m : Int) (s : ByteArray) (l : List V) (A : Option Addr) (c : Nat) (w : World) :
    Calls Tryz.prog 94 #[.agg #[.int .i64 5, .string t, .int .i64 n, .int .i64 m, .string s, .slice A l.length c]] w fun e w' => e = .returned (.bool (node5 t n m s l)) ∧ Below w.heap.size w w' := by
  have FIN : Hid (∀ x y : Obj, Below w.heap.size w ((w.alloc x).alloc y)) := Lib.hid (fun x y => ((Below.refl _ _).alloc (Nat.le_refl _) _).alloc (by simp) _)
  go_enter Tryz.func94, Tryz.ntmps94
  go_wp2_with fail
  all_goals
    go_ret
    refine ⟨?_, by repeat (first | exact FIN.out _ _ | refine below_setCells _ (by simp) _ _ ?_ | refine Below.setCell ?_ (by simp) _)⟩
    go_light
    first
      | (simp [node5, *]; done)
      | (simp [node5, *]; intros; omega)
set_option maxHeartbeats 4000000 in
set_option maxRecDepth 100000 in
theorem rnode_k9 (t : ByteArray) (n m : Int) (s : ByteArray) (l : List V) (A : Option Addr) (c : Nat) (w : World) :
    Calls Tryz.prog 94 #[.agg #[.int .i64 9, .string t, .int .i64 n, .int .i64 m, .string s, .slice A l.length c]] w fun e w' => e = .returned (.bool (rnode9 t n m s l)) ∧ Below w.heap.size w w' := by
  have FIN : Hid (∀ x y : Obj, Below w.heap.size w ((w.alloc x).alloc y)) := Lib.hid (fun x y => ((Below.refl _ _).alloc (Nat.le_refl _) _).alloc (by simp) _)
  go_enter Tryz.func94, Tryz.ntmps94
  go_wp2_with fail
  all_goals
    go_ret
    refine ⟨?_, by repeat (first | exact FIN.out _ _ | refine below_setCells _ (by simp) _ _ ?_ | refine Below.setCell ?_ (by simp) _)⟩
    go_light
    first
      | (simp [rnode9, node9, *]; done)
      | (simp [rnode9, node9, *]; intros; omega)
set_option maxHeartbeats 4000000 in
set_option maxRecDepth 100000 in
theorem rnode_k10 (t : ByteArray) (n m : Int) (s : ByteArray) (l : List V) (A : Option Addr) (c : Nat) (w : World) :
    Calls Tryz.prog 94 #[.agg #[.int .i64 10, .string t, .int .i64 n, .int .i64 m, .string s, .slice A l.length c]] w fun e w' => e = .returned (.bool (node10 t n m s l)) ∧ Below w.heap.size w w' := by
  have FIN : Hid (∀ x y : Obj, Below w.heap.size w ((w.alloc x).alloc y)) := Lib.hid (fun x y => ((Below.refl _ _).alloc (Nat.le_refl _) _).alloc (by simp) _)
  have HI := Lib.hid rin_any
  go_enter Tryz.func94, Tryz.ntmps94
  go_wp2_with (first | (go_at_call 105; (with_reducible refine (HI.out _ _).mono ?_); rintro e w1 ⟨rfl, rfl⟩))
  all_goals
    go_ret
    refine ⟨?_, by repeat (first | exact FIN.out _ _ | refine below_setCells _ (by simp) _ _ ?_ | refine Below.setCell ?_ (by simp) _)⟩
    go_light
    first
      | (simp [node10, *]; done)
      | (simp [node10, *]; intros; omega)
set_option maxHeartbeats 4000000 in
set_option maxRecDepth 100000 in
theorem rnode_k0 (k : Int) (t : ByteArray) (n m : Int) (s : ByteArray) (l : List V) (A : Option Addr) (c : Nat) (w : World) (hk : ∀ j : Int, 1 ≤ j → j ≤ 10 → (k == j) = false) :
    Calls Tryz.prog 94 #[.agg #[.int .i64 k, .string t, .int .i64 n, .int .i64 m, .string s, .slice A l.length c]] w fun e w' => e = .returned (.bool (false)) ∧ Below w.heap.size w w' := by
  have FIN : Hid (∀ x y : Obj, Below w.heap.size w ((w.alloc x).alloc y)) := Lib.hid (fun x y => ((Below.refl _ _).alloc (Nat.le_refl _) _).alloc (by simp) _)
  have k1 := hk 1 (by omega) (by omega)
  have k2 := hk 2 (by omega) (by omega)
  have k3 := hk 3 (by omega) (by omega)
  have k4 := hk 4 (by omega) (by omega)
  have k5 := hk 5 (by omega) (by omega)
  have k6 := hk 6 (by omega) (by omega)
  have k7 := hk 7 (by omega) (by omega)
  have k8 := hk 8 (by omega) (by omega)
  have k9 := hk 9 (by omega) (by omega)
  have k10 := hk 10 (by omega) (by omega)
  clear hk
  go_enter Tryz.func94, Tryz.ntmps94
  go_wp2_with fail
  all_goals
    go_ret
    refine ⟨?_, by repeat (first | exact FIN.out _ _ | refine below_setCells _ (by simp) _ _ ?_ | refine Below.setCell ?_ (by simp) _)⟩
    go_light
    first
      | (simp [*]; done)
      | (simp [*]; intros; omega)
end Go.Proofs.YtlbmfgiepcemdaaGreat
namespace Go.Proofs.YtlbmfgiepcemdaaGreat
open Go.RowKit

set_option maxHeartbeats 4000000 in
set_option maxRecDepth 100000 in
theorem rnode_k6 (t : ByteArray) (n m : Int) (s : ByteArray) (l : List V) (A : Option Addr) (c : Nat) (w : World) (ht : t.size ≤ 2097152) :
    Calls Tryz.prog 94 #[.agg #[.int .i64 6, .string t, .int .i64 n, .int .i64 m, .string s, .slice A l.length c]] w fun e w' => e = .returned (.bool (rnode6 t n m s l)) ∧ Below w.heap.size w w' := by
  have FIN : Hid (∀ x y : Obj, Below w.heap.size w ((w.alloc x).alloc y)) := Lib.hid (fun x y => ((Below.refl _ _).alloc (Nat.le_refl _) _).alloc (by simp) _)
  have HT := Lib.hid (fun W => rupper12 t W ht)
  go_enter Tryz.func94, Tryz.ntmps94
  go_wp2_with (first | (go_at_call 106; (with_reducible refine (HT.out _).mono ?_); rintro e w1 ⟨rfl, hb1⟩; obtain ⟨hc1, hf1⟩ := bcell hb1; have hz0 : w.heap.size < w1.heap.size := Nat.lt_of_lt_of_le (by simp; omega) hb1.size; have hz1 : w.heap.size + 1 < w1.heap.size := Nat.lt_of_lt_of_le (by simp) hb1.size; have HBU : Hid (Below w.heap.size w w1) := Lib.hid (Below.trans (by repeat (first | exact FIN.out _ _ | refine below_setCells _ (by simp) _ _ ?_ | refine Below.setCell ?_ (by simp) _)) (hb1.mono (by simp; omega))); clear hb1))
  all_goals
    go_ret
    refine ⟨?_, HBU.out⟩
    go_light
    first
      | (simp [rnode6, node6, *]; done)
      | (simp [rnode6, node6, *]; intros; omega)
set_option maxHeartbeats 4000000 in
set_option maxRecDepth 100000 in
theorem rnode_k7 (t : ByteArray) (n m : Int) (s : ByteArray) (l : List V) (A : Option Addr) (c : Nat) (w : World) (ht : t.size ≤ 2097152) :
    Calls Tryz.prog 94 #[.agg #[.int .i64 7, .string t, .int .i64 n, .int .i64 m, .string s, .slice A l.length c]] w fun e w' => e = .returned (.bool (rnode7 t n m s l)) ∧ Below w.heap.size w w' := by
  have FIN : Hid (∀ x y : Obj, Below w.heap.size w ((w.alloc x).alloc y)) := Lib.hid (fun x y => ((Below.refl _ _).alloc (Nat.le_refl _) _).alloc (by simp) _)
  have HT := Lib.hid (fun W => rupper12 t W ht)
  go_enter Tryz.func94, Tryz.ntmps94
  go_wp2_with (first | (go_at_call 106; (with_reducible refine (HT.out _).mono ?_); rintro e w1 ⟨rfl, hb1⟩; obtain ⟨hc1, hf1⟩ := bcell hb1; have hz0 : w.heap.size < w1.heap.size := Nat.lt_of_lt_of_le (by simp; omega) hb1.size; have hz1 : w.heap.size + 1 < w1.heap.size := Nat.lt_of_lt_of_le (by simp) hb1.size; have HBU : Hid (Below w.heap.size w w1) := Lib.hid (Below.trans (by repeat (first | exact FIN.out _ _ | refine below_setCells _ (by simp) _ _ ?_ | refine Below.setCell ?_ (by simp) _)) (hb1.mono (by simp; omega))); clear hb1))
  all_goals
    go_ret
    refine ⟨?_, HBU.out⟩
    go_light
    first
      | (simp [rnode7, node7, *]; done)
      | (simp [rnode7, node7, *]; intros; omega)
set_option maxHeartbeats 4000000 in
set_option maxRecDepth 100000 in
theorem rnode_k8 (t : ByteArray) (n m : Int) (s : ByteArray) (l : List V) (A : Option Addr) (c : Nat) (w : World) (ht : t.size ≤ 2097152) (hs : s.size ≤ 2097152) :
    Calls Tryz.prog 94 #[.agg #[.int .i64 8, .string t, .int .i64 n, .int .i64 m, .string s, .slice A l.length c]] w fun e w' => e = .returned (.bool (node8 t n m s l)) ∧ Below w.heap.size w w' := by
  have FIN : Hid (∀ x y : Obj, Below w.heap.size w ((w.alloc x).alloc y)) := Lib.hid (fun x y => ((Below.refl _ _).alloc (Nat.le_refl _) _).alloc (by simp) _)
  have HT := Lib.hid (fun W => rupper12 t W ht)
  have HP := Lib.hid (fun W => rpath_any s W hs)
  go_enter Tryz.func94, Tryz.ntmps94
  go_wp2_with (first | (go_at_call 106; (with_reducible refine (HT.out _).mono ?_); rintro e w1 ⟨rfl, hb1⟩; obtain ⟨hc1, hf1⟩ := bcell hb1; have hz0 : w.heap.size < w1.heap.size := Nat.lt_of_lt_of_le (by simp; omega) hb1.size; have hz1 : w.heap.size + 1 < w1.heap.size := Nat.lt_of_lt_of_le (by simp) hb1.size; have HBU : Hid (Below w.heap.size w w1) := Lib.hid (Below.trans (by repeat (first | exact FIN.out _ _ | refine below_setCells _ (by simp) _ _ ?_ | refine Below.setCell ?_ (by simp) _)) (hb1.mono (by simp; omega))); clear hb1) | (go_at_call 54; (with_reducible refine (HP.out _).mono ?_); rintro e w2 ⟨rfl, hb2⟩; obtain ⟨hc2, hf2⟩ := bcell hb2; have HBP : Hid (Below w.heap.size w w2) := Lib.hid (HBU.out.trans (hb2.mono HBU.out.size)); clear hb2))
  all_goals
    go_ret
    refine ⟨?_, by first | exact HBP.out | exact HBU.out⟩
    go_light
    first
      | (simp [node8, *]; done)
      | (simp [node8, *]; intros; omega)
theorem rnode_any (k : Int) (t : ByteArray) (n m : Int) (s : ByteArray) (l : List V) (A : Option Addr) (c : Nat) (w : World) (ht : t.size ≤ 2097152) (hs : s.size ≤ 2097152) :
    Calls Tryz.prog 94 #[.agg #[.int .i64 k, .string t, .int .i64 n, .int .i64 m, .string s, .slice A l.length c]] w fun e w' => e = .returned (.bool (rnodeP (.mk k t n m s l))) ∧ Below w.heap.size w w' := by
  by_cases h1 : k = 1
  · subst h1
    rw [show rnodeP (.mk 1 t n m s l) = node1 t n m s l from rfl]
    exact rnode_k1 t n m s l A c w
  by_cases h2 : k = 2
  · subst h2
    rw [show rnodeP (.mk 2 t n m s l) = node2 t n m s l from rfl]
    exact rnode_k2 t n m s l A c w
  by_cases h3 : k = 3
  · subst h3
    rw [show rnodeP (.mk 3 t n m s l) = node3 t n m s l from rfl]
    exact rnode_k3 t n m s l A c w
  by_cases h4 : k = 4
  · subst h4
    rw [show rnodeP (.mk 4 t n m s l) = node4 t n m s l from rfl]
    exact rnode_k4 t n m s l A c w
  by_cases h5 : k = 5
  · subst h5
    rw [show rnodeP (.mk 5 t n m s l) = node5 t n m s l from rfl]
    exact rnode_k5 t n m s l A c w
  by_cases h6 : k = 6
  · subst h6
    rw [show rnodeP (.mk 6 t n m s l) = rnode6 t n m s l from rfl]
    exact rnode_k6 t n m s l A c w ht
  by_cases h7 : k = 7
  · subst h7
    rw [show rnodeP (.mk 7 t n m s l) = rnode7 t n m s l from rfl]
    exact rnode_k7 t n m s l A c w ht
  by_cases h8 : k = 8
  · subst h8
    rw [show rnodeP (.mk 8 t n m s l) = node8 t n m s l from rfl]
    exact rnode_k8 t n m s l A c w ht hs
  by_cases h9 : k = 9
  · subst h9
    rw [show rnodeP (.mk 9 t n m s l) = rnode9 t n m s l from rfl]
    exact rnode_k9 t n m s l A c w
  by_cases h10 : k = 10
  · subst h10
    rw [show rnodeP (.mk 10 t n m s l) = node10 t n m s l from rfl]
    exact rnode_k10 t n m s l A c w
  rw [show rnodeP (.mk k t n m s l) = false by simp [rnodeP, h1, h2, h3, h4, h5, h6, h7, h8, h9, h10]]
  refine rnode_k0 k t n m s l A c w fun j h1 h2 => ?_
  simp only [beq_eq_false_iff_ne]
  omega
end Go.Proofs.YtlbmfgiepcemdaaGreat
