/- value.node, value.Right and value.Bytes at every value. Conditions: those in each statement. -/
import Derived.Test.YtlbmfgiepcemdaaPath
import Derived.Deep.Light
namespace Go.Proofs.Ytlbmfgiepcemdaa
open Go.RowKit

/-- value.node at the kinds 1 to 10 -/
def node1 (t : ByteArray) (n : Int) (m : Int) (s : ByteArray) (l : List V) : Bool := t.toList.isEmpty && (n == 0) && ((m == 0) && s.toList.isEmpty) && ((l.length : Int) == 0)
def node2 (t : ByteArray) (n : Int) (m : Int) (s : ByteArray) (l : List V) : Bool := t.toList.isEmpty && ((n == 0) || (n == 1)) && ((m == 0) && s.toList.isEmpty) && ((l.length : Int) == 0)
def node3 (t : ByteArray) (n : Int) (m : Int) (s : ByteArray) (l : List V) : Bool := t.toList.isEmpty && inR n && ((m == 0) && s.toList.isEmpty) && ((l.length : Int) == 0)
def node4 (t : ByteArray) (n : Int) (m : Int) (s : ByteArray) (l : List V) : Bool := t.toList.isEmpty && (n == 0) && (m == 0) && decide ((s.size : Int) ≤ 4096) && ((l.length : Int) == 0)
def node5 (t : ByteArray) (n : Int) (m : Int) (s : ByteArray) (l : List V) : Bool := t.toList.isEmpty && (n == 0) && ((m == 0) && s.toList.isEmpty) && decide ((l.length : Int) ≤ 4096)
def node6 (t : ByteArray) (n : Int) (m : Int) (s : ByteArray) : Bool := isTypeS t && (n == 0) && ((m == 0) && s.toList.isEmpty)
def node7 (t : ByteArray) (n : Int) (m : Int) (s : ByteArray) : Bool := isTypeS t && decide (0 ≤ n) && decide (n ≤ 4096) && ((m == 0) && s.toList.isEmpty)
def node8 (t : ByteArray) (n : Int) (m : Int) (s : ByteArray) (l : List V) : Bool := isTypeS t && (n == 0) && (m == 0) && pathS s && ((l.length : Int) == 0)
def node9 (t : ByteArray) (n : Int) (m : Int) (s : ByteArray) : Bool := t.toList.isEmpty && decide (0 ≤ n) && decide (n ≤ 9007199254740992) && ((m == 0) && s.toList.isEmpty)
def node10 (t : ByteArray) (n : Int) (m : Int) (s : ByteArray) (l : List V) : Bool := t.toList.isEmpty && inR n && inR m && decide (n < m) && s.toList.isEmpty && ((l.length : Int) == 0)
/-- value.node -/
def nodeP : V → Bool
  | .mk k t n m s l =>
    if k = 1 then node1 t n m s l
    else if k = 2 then node2 t n m s l
    else if k = 3 then node3 t n m s l
    else if k = 4 then node4 t n m s l
    else if k = 5 then node5 t n m s l
    else if k = 6 then node6 t n m s
    else if k = 7 then node7 t n m s
    else if k = 8 then node8 t n m s l
    else if k = 9 then node9 t n m s
    else if k = 10 then node10 t n m s l
    else false
set_option maxHeartbeats 4000000 in
set_option maxRecDepth 100000 in
theorem node_k1 (t : ByteArray) (n m : Int) (s : ByteArray) (l : List V) (A : Option Addr) (c : Nat) (w : World) (ht : t.size ≤ 2097152) :
    Calls Try.prog 56 #[.agg #[.int .i64 1, .string t, .int .i64 n, .int .i64 m, .string s, .slice A l.length c]] w fun e w' => e = .returned (.bool (node1 t n m s l)) ∧ Below w.heap.size w w' := by
  have HT := Lib.hid (fun W => isType_any t W ht)
  go_enter Try.func56, Try.ntmps56
  go_wp2_with (first | (go_at_call 65; (with_reducible refine (HT.out _).mono ?_); rintro e w1 ⟨rfl, rfl⟩))
  all_goals
    go_ret
    refine ⟨?_, (Below.refl _ _).alloc (Nat.le_refl _) _⟩
    go_light
    first
      | (simp [node1, *]; done)
      | (simp [node1, *]; intros; omega)
set_option maxHeartbeats 4000000 in
set_option maxRecDepth 100000 in
theorem node_k2 (t : ByteArray) (n m : Int) (s : ByteArray) (l : List V) (A : Option Addr) (c : Nat) (w : World) (ht : t.size ≤ 2097152) :
    Calls Try.prog 56 #[.agg #[.int .i64 2, .string t, .int .i64 n, .int .i64 m, .string s, .slice A l.length c]] w fun e w' => e = .returned (.bool (node2 t n m s l)) ∧ Below w.heap.size w w' := by
  have HT := Lib.hid (fun W => isType_any t W ht)
  go_enter Try.func56, Try.ntmps56
  go_wp2_with (first | (go_at_call 65; (with_reducible refine (HT.out _).mono ?_); rintro e w1 ⟨rfl, rfl⟩))
  all_goals
    go_ret
    refine ⟨?_, (Below.refl _ _).alloc (Nat.le_refl _) _⟩
    go_light
    first
      | (simp [node2, *]; done)
      | (simp [node2, *]; intros; omega)
set_option maxHeartbeats 4000000 in
set_option maxRecDepth 100000 in
theorem node_k3 (t : ByteArray) (n m : Int) (s : ByteArray) (l : List V) (A : Option Addr) (c : Nat) (w : World) (ht : t.size ≤ 2097152) :
    Calls Try.prog 56 #[.agg #[.int .i64 3, .string t, .int .i64 n, .int .i64 m, .string s, .slice A l.length c]] w fun e w' => e = .returned (.bool (node3 t n m s l)) ∧ Below w.heap.size w w' := by
  have HT := Lib.hid (fun W => isType_any t W ht)
  have HI := Lib.hid inRange_any
  go_enter Try.func56, Try.ntmps56
  go_wp2_with (first | (go_at_call 65; (with_reducible refine (HT.out _).mono ?_); rintro e w1 ⟨rfl, rfl⟩) | (go_at_call 66; (with_reducible refine (HI.out _ _).mono ?_); rintro e w1 ⟨rfl, rfl⟩))
  all_goals
    go_ret
    refine ⟨?_, (Below.refl _ _).alloc (Nat.le_refl _) _⟩
    go_light
    first
      | (simp [node3, *]; done)
      | (simp [node3, *]; intros; omega)
set_option maxHeartbeats 4000000 in
set_option maxRecDepth 100000 in
theorem node_k4 (t : ByteArray) (n m : Int) (s : ByteArray) (l : List V) (A : Option Addr) (c : Nat) (w : World) (ht : t.size ≤ 2097152) :
    Calls Try.prog 56 #[.agg #[.int .i64 4, .string t, .int .i64 n, .int .i64 m, .string s, .slice A l.length c]] w fun e w' => e = .returned (.bool (node4 t n m s l)) ∧ Below w.heap.size w w' := by
  have HT := Lib.hid (fun W => isType_any t W ht)
  go_enter Try.func56, Try.ntmps56
  go_wp2_with (first | (go_at_call 65; (with_reducible refine (HT.out _).mono ?_); rintro e w1 ⟨rfl, rfl⟩))
  all_goals
    go_ret
    refine ⟨?_, (Below.refl _ _).alloc (Nat.le_refl _) _⟩
    go_light
    first
      | (simp [node4, *]; done)
      | (simp [node4, *]; intros; omega)
set_option maxHeartbeats 4000000 in
set_option maxRecDepth 100000 in
theorem node_k5 (t : ByteArray) (n m : Int) (s : ByteArray) (l : List V) (A : Option Addr) (c : Nat) (w : World) (ht : t.size ≤ 2097152) :
    Calls Try.prog 56 #[.agg #[.int .i64 5, .string t, .int .i64 n, .int .i64 m, .string s, .slice A l.length c]] w fun e w' => e = .returned (.bool (node5 t n m s l)) ∧ Below w.heap.size w w' := by
  have HT := Lib.hid (fun W => isType_any t W ht)
  go_enter Try.func56, Try.ntmps56
  go_wp2_with (first | (go_at_call 65; (with_reducible refine (HT.out _).mono ?_); rintro e w1 ⟨rfl, rfl⟩))
  all_goals
    go_ret
    refine ⟨?_, (Below.refl _ _).alloc (Nat.le_refl _) _⟩
    go_light
    first
      | (simp [node5, *]; done)
      | (simp [node5, *]; intros; omega)
end Go.Proofs.Ytlbmfgiepcemdaa
