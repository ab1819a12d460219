/- ref12.node (the kinds but 6 to 8; printed by wip/tools/gen_r12n.py). Conditions: those in each statement. -/
import Derived.Test.YtlnfdpdancolmaaDoorYPathNodeA
import Derived.Test.YtlnfdpdancolmaaDoorYR09U
import Derived.Test.YtlnfdpdancolmaaDoorYR12P
namespace Go.Proofs.YtlnfdpdancolmaaDoor
open Go.RowKit

/-- ref12.node asks a number of elements of the kinds 6, 7, 9 as well -/
def rnode6 (t : ByteArray) (n m : Int) (s : ByteArray) (l : List V) : Bool := decide ((l.length : Int) ≤ 16384) && node6 t n m s
def rnode7 (t : ByteArray) (n m : Int) (s : ByteArray) (l : List V) : Bool := decide ((l.length : Int) ≤ 16384) && node7 t n m s
def rnode9 (t : ByteArray) (n m : Int) (s : ByteArray) (l : List V) : Bool := decide ((l.length : Int) ≤ 16384) && node9 t n m s
/-- ref12.node -/
def rnodeP : V → Bool
  | .mk k t n m s l =>
    if k = 1 then node1 t n m s l
    else if k = 2 then node2 t n m s l
    else if k = 3 then node3 t n m s l
    else if k = 4 then node4 t n m s l
    else if k = 5 then node5 t n m s l
    else if k = 6 then rnode6 t n m s l
    else if k = 7 then rnode7 t n m s l
    else if k = 8 then node8 t n m s l
    else if k = 9 then rnode9 t n m s l
    else if k = 10 then node10 t n m s l
    else false
set_option maxHeartbeats 4000000 in
set_option maxRecDepth 100000 in
theorem rnode_k1 (t : ByteArray) (n m : Int) (s : ByteArray) (l : List V) (A : Option Addr) (c : Nat) (w : World) :
    Calls Tryd.prog 96 #[.agg #[.int .i64 1, .string t, .int .i64 n, .int .i64 m, .string s, .slice A l.length c]] w fun e w' => e = .returned (.bool (node1 t n m s l)) ∧ Below w.heap.size w w' := by
  have FIN : Hid (∀ x y : Obj, Below w.heap.size w ((w.alloc x).alloc y)) := Lib.hid (fun x y => ((Below.refl _ _).alloc (Nat.le_refl _) _).alloc (by simp) _)
  go_enter Tryd.func96, Tryd.ntmps96
  go_wp2_with fail
  all_goals
    go_ret
    refine ⟨?_, by repeat (first | exact FIN.out _ _ | refine below_setCells _ (by simp) _ _ ?_ | refine Below.setCell ?_ (by simp) _)⟩
    go_light
    first
      | (simp [node1, *]; done)
      | (simp [node1, *]; intros; omega)
set_option maxHeartbeats 4000000 in
set_option maxRecDepth 100000 in
theorem rnode_k2 (t : ByteArray) (n m : Int) (s : ByteArray) (l : List V) (A : Option Addr) (c : Nat) (w : World) :
    Calls Tryd.prog 96 #[.agg #[.int .i64 2, .string t, .int .i64 n, .int .i64 m, .string s, .slice A l.length c]] w fun e w' => e = .returned (.bool (node2 t n m s l)) ∧ Below w.heap.size w w' := by
  have FIN : Hid (∀ x y : Obj, Below w.heap.size w ((w.alloc x).alloc y)) := Lib.hid (fun x y => ((Below.refl _ _).alloc (Nat.le_refl _) _).alloc (by simp) _)
  go_enter Tryd.func96, Tryd.ntmps96
  go_wp2_with fail
  all_goals
    go_ret
    refine ⟨?_, by repeat (first | exact FIN.out _ _ | refine below_setCells _ (by simp) _ _ ?_ | refine Below.setCell ?_ (by simp) _)⟩
    go_light
    first
      | (simp [node2, *]; done)
      | (simp [node2, *]; intros; omega)
set_option maxHeartbeats 4000000 in
set_option maxRecDepth 100000 in
theorem rnode_k3 (t : ByteArray) (n m : Int) (s : ByteArray) (l : List V) (A : Option Addr) (c : Nat) (w : World) :
    Calls Tryd.prog 96 #[.agg #[.int .i64 3, .string t, .int .i64 n, .int .i64 m, .string s, .slice A l.length c]] w fun e w' => e = .returned (.bool (node3 t n m s l)) ∧ Below w.heap.size w w' := by
  have FIN : Hid (∀ x y : Obj, Below w.heap.size w ((w.alloc x).alloc y)) := Lib.hid (fun x y => ((Below.refl _ _).alloc (Nat.le_refl _) _).alloc (by simp) _)
  have HI := Lib.hid rin_any
  go_enter Tryd.func96, Tryd.ntmps96
  go_wp2_with (first | (go_at_call 99; (with_reducible refine (HI.out _ _).mono ?_); rintro e w1 ⟨rfl, rfl⟩))
  all_goals
    go_ret
    refine ⟨?_, by repeat (first | exact FIN.out _ _ | refine below_setCells _ (by simp) _ _ ?_ | refine Below.setCell ?_ (by simp) _)⟩
    go_light
    first
      | (simp [node3, *]; done)
      | (simp [node3, *]; intros; omega)
set_option maxHeartbeats 4000000 in
set_option maxRecDepth 100000 in
theorem rnode_k4 (t : ByteArray) (n m : Int) (s : ByteArray) (l : List V) (A : Option Addr) (c : Nat) (w : World) :
    Calls Tryd.prog 96 #[.agg #[.int .i64 4, .string t, .int .i64 n, .int .i64 m, .string s, .slice A l.length c]] w fun e w' => e = .returned (.bool (node4 t n m s l)) ∧ Below w.heap.size w w' := by
  have FIN : Hid (∀ x y : Obj, Below w.heap.size w ((w.alloc x).alloc y)) := Lib.hid (fun x y => ((Below.refl _ _).alloc (Nat.le_refl _) _).alloc (by simp) _)
  go_enter Tryd.func96, Tryd.ntmps96
  go_wp2_with fail
  all_goals
    go_ret
    refine ⟨?_, by repeat (first | exact FIN.out _ _ | refine below_setCells _ (by simp) _ _ ?_ | refine Below.setCell ?_ (by simp) _)⟩
    go_light
    first
      | (simp [node4, *]; done)
      | (simp [node4, *]; intros; omega)
set_option maxHeartbeats 4000000 in
set_option maxRecDepth 100000 in
theorem rnode_k5 (t : ByteArray) (n m : Int) (s : ByteArray) (l : List V) (A : Option Addr) (c : Nat) (w : World) :
    Calls Tryd.prog 96 #[.agg #[.int .i64 5, .string t, .int .i64 n, .int .i64 m, .string s, .slice A l.length c]] w fun e w' => e = .returned (.bool (node5 t n m s l)) ∧ Below w.heap.size w w' := by
  have FIN : Hid (∀ x y : Obj, Below w.heap.size w ((w.alloc x).alloc y)) := Lib.hid (fun x y => ((Below.refl _ _).alloc (Nat.le_refl _) _).alloc (by simp) _)
  go_enter Tryd.func96, Tryd.ntmps96
  go_wp2_with fail
  all_goals
    go_ret
    refine ⟨?_, by repeat (first | exact FIN.out _ _ | refine below_setCells _ (by simp) _ _ ?_ | refine Below.setCell ?_ (by simp) _)⟩
    go_light
    first
      | (simp [node5, *]; done)
      | (simp [node5, *]; intros; omega)
set_option maxHeartbeats 4000000 in
set_option maxRecDepth 100000 in
theorem rnode_k9 (t : ByteArray) (n m : Int) (s : ByteArray) (l : List V) (A : Option Addr) (c : Nat) (w : World) :
    Calls Tryd.prog 96 #[.agg #[.int .i64 9, .string t, .int .i64 n, .int .i64 m, .string s, .slice A l.length c]] w fun e w' => e = .returned (.bool (rnode9 t n m s l)) ∧ Below w.heap.size w w' := by
  have FIN : Hid (∀ x y : Obj, Below w.heap.size w ((w.alloc x).alloc y)) := Lib.hid (fun x y => ((Below.refl _ _).alloc (Nat.le_refl _) _).alloc (by simp) _)
  go_enter Tryd.func96, Tryd.ntmps96
  go_wp2_with fail
  all_goals
    go_ret
    refine ⟨?_, by repeat (first | exact FIN.out _ _ | refine below_setCells _ (by simp) _ _ ?_ | refine Below.setCell ?_ (by simp) _)⟩
    go_light
    first
      | (simp [rnode9, node9, *]; done)
      | (simp [rnode9, node9, *]; intros; omega)
set_option maxHeartbeats 4000000 in
set_option maxRecDepth 100000 in
theorem rnode_k10 (t : ByteArray) (n m : Int) (s : ByteArray) (l : List V) (A : Option Addr) (c : Nat) (w : World) :
    Calls Tryd.prog 96 #[.agg #[.int .i64 10, .string t, .int .i64 n, .int .i64 m, .string s, .slice A l.length c]] w fun e w' => e = .returned (.bool (node10 t n m s l)) ∧ Below w.heap.size w w' := by
  have FIN : Hid (∀ x y : Obj, Below w.heap.size w ((w.alloc x).alloc y)) := Lib.hid (fun x y => ((Below.refl _ _).alloc (Nat.le_refl _) _).alloc (by simp) _)
  have HI := Lib.hid rin_any
  go_enter Tryd.func96, Tryd.ntmps96
  go_wp2_with (first | (go_at_call 99; (with_reducible refine (HI.out _ _).mono ?_); rintro e w1 ⟨rfl, rfl⟩))
  all_goals
    go_ret
    refine ⟨?_, by repeat (first | exact FIN.out _ _ | refine below_setCells _ (by simp) _ _ ?_ | refine Below.setCell ?_ (by simp) _)⟩
    go_light
    first
      | (simp [node10, *]; done)
      | (simp [node10, *]; intros; omega)
set_option maxHeartbeats 4000000 in
set_option maxRecDepth 100000 in
theorem rnode_k0 (k : Int) (t : ByteArray) (n m : Int) (s : ByteArray) (l : List V) (A : Option Addr) (c : Nat) (w : World) (hk : ∀ j : Int, 1 ≤ j → j ≤ 10 → (k == j) = false) :
    Calls Tryd.prog 96 #[.agg #[.int .i64 k, .string t, .int .i64 n, .int .i64 m, .string s, .slice A l.length c]] w fun e w' => e = .returned (.bool (false)) ∧ Below w.heap.size w w' := by
  have FIN : Hid (∀ x y : Obj, Below w.heap.size w ((w.alloc x).alloc y)) := Lib.hid (fun x y => ((Below.refl _ _).alloc (Nat.le_refl _) _).alloc (by simp) _)
  have k1 := hk 1 (by omega) (by omega)
  have k2 := hk 2 (by omega) (by omega)
  have k3 := hk 3 (by omega) (by omega)
  have k4 := hk 4 (by omega) (by omega)
  have k5 := hk 5 (by omega) (by omega)
  have k6 := hk 6 (by omega) (by omega)
  have k7 := hk 7 (by omega) (by omega)
  have k8 := hk 8 (by omega) (by omega)
  have k9 := hk 9 (by omega) (by omega)
  have k10 := hk 10 (by omega) (by omega)
  clear hk
  go_enter Tryd.func96, Tryd.ntmps96
  go_wp2_with fail
  all_goals
    go_ret
    refine ⟨?_, by repeat (first | exact FIN.out _ _ | refine below_setCells _ (by simp) _ _ ?_ | refine Below.setCell ?_ (by simp) _)⟩
    go_light
    first
      | (simp [*]; done)
      | (simp [*]; intros; omega)
end Go.Proofs.YtlnfdpdancolmaaDoor
