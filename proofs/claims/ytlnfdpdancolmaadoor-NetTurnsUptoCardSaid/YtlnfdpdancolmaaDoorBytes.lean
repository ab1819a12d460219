/- value.Bytes at an int. Conditions: those in each statement. -/
import Derived.Test.YtlnfdpdancolmaaDoorValid
namespace Go.Proofs.YtlnfdpdancolmaaDoor
open Go.RowKit

set_option maxHeartbeats 400000 in
theorem isType_empty (w : World) : Calls Tryd.prog 93 #[.string ⟨#[]⟩] w fun e w' => e = .returned (.bool false) ∧ w = w' := by
  go_enter Tryd.func93, Tryd.ntmps93
  go_wp2_with fail
  go_ret
  exact ⟨rfl, rfl⟩
set_option maxHeartbeats 400000 in
theorem inRange_yes (n : Int) (h0 : -9007199254740992 ≤ n) (h1 : n ≤ 9007199254740992) (w : World) : Calls Tryd.prog 94 #[.int .i64 n] w fun e w' => e = .returned (.bool true) ∧ w = w' := by
  go_enter Tryd.func94, Tryd.ntmps94
  go_wp2_with fail
  go_ret
  exact ⟨rfl, rfl⟩
/-- an int -/
def vInt (n : Int) : V := .mk 3 ⟨#[]⟩ n 0 ⟨#[]⟩ []
set_option maxHeartbeats 2000000 in
set_option maxRecDepth 100000 in
theorem node_int (n : Int) (h0 : -9007199254740992 ≤ n) (h1 : n ≤ 9007199254740992) (A : Option Addr) (c : Nat) (w : World) :
    Calls Tryd.prog 85 #[.agg #[.int .i64 3, .string ⟨#[]⟩, .int .i64 n, .int .i64 0, .string ⟨#[]⟩, .slice A 0 c]] w fun e w' => e = .returned (.bool true) ∧ Below w.heap.size w w' := by
  go_enter Tryd.func85, Tryd.ntmps85
  go_wp2_with fail
  (with_reducible refine (isType_empty _).mono ?_)
  rintro e w1 ⟨rfl, rfl⟩
  go_wp2_with fail
  (with_reducible refine (inRange_yes n h0 h1 _).mono ?_)
  rintro e w1 ⟨rfl, rfl⟩
  go_wp2_with fail
  go_ret
  exact ⟨rfl, (Below.refl _ _).alloc (Nat.le_refl _) _⟩
theorem nodeOk_int (n : Int) (h0 : -9007199254740992 ≤ n) (h1 : n ≤ 9007199254740992) : (vInt n).All (NodeOk fun _ => true) := by
  unfold vInt
  rw [V.All]
  refine ⟨fun k t n' m s l h W A c _ => ?_, trivial⟩
  injection h with e1 e2 e3 e4 e5 e6
  subst e1 e2 e3 e4 e5 e6
  exact node_int n h0 h1 A c W
/-- the bytes of an int -/
def intBytes (n : Int) : ByteArray := ⟨(bytesV (vInt n)).toArray⟩
theorem bytes_int (n : Int) (h0 : -9007199254740992 ≤ n) (h1 : n ≤ 9007199254740992) (A : Option Addr) (c : Nat) (w : World) (hr : Rd (Lt w.heap.size) w (vs []) (.slice A 0 c)) :
    Calls Tryd.prog 55 #[.agg #[.int .i64 3, .string ⟨#[]⟩, .int .i64 n, .int .i64 0, .string ⟨#[]⟩, .slice A 0 c]] w fun e w' => e = .returned (.string (intBytes n)) ∧ Below w.heap.size w w' := by
  refine (bytes_of (fun _ => true) 3 ⟨#[]⟩ n 0 ⟨#[]⟩ [] A c w ?_ ?_ (nodeOk_int n h0 h1) hr).mono ?_
  · rw [bulk_mk]; simp [bulkV, ByteArray.size]
  · rw [V.Wf]; exact ⟨by omega, by omega, by omega, trivial⟩
  · rintro e w' ⟨rfl, hb⟩
    refine ⟨?_, hb⟩
    have : rightP (fun _ => true) (.mk 3 ⟨#[]⟩ n 0 ⟨#[]⟩ []) = true := by unfold rightP; rw [validV]; simp [validL]
    unfold bytesP
    rw [this]; rfl
end Go.Proofs.YtlnfdpdancolmaaDoor
