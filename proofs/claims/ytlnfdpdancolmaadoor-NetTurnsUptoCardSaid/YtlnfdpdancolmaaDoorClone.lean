/- clone: copies of values and effects in new memory. Conditions: those in each statement. -/
import Derived.Test.YtlnfdpdancolmaaDoorProg
import Derived.Test.YtlnfdpdancolmaaDoorStructs
namespace Go.Proofs.YtlnfdpdancolmaaDoor
open Go.RowKit

/-- a new copy of d comes back; what was there is as it was -/
def ClonePost (d : D) (w : World) (e : Ending) (w' : World) : Prop := ∃ v, e = .returned v ∧ Rd (Bt w.heap.size w'.heap.size) w' d v ∧ Below w.heap.size w w'

/-- a new slice of the call's own comes back; what was there is as it was -/
def OwnPost (e : TypeId) (k n : Nat) (f : Nat → Nat → D) (w : World) (en : Ending) (w' : World) : Prop := ∃ v, en = .returned v ∧ Owned w.heap.size e k n f w' v ∧ Below w.heap.size w w'

theorem bcell {W w1 : World} (hb : Below W.heap.size W w1) : (∀ b o, b < W.heap.size → w1.cell? ⟨b, o, none⟩ = W.cell? ⟨b, o, none⟩) ∧ (∀ b o, b < W.heap.size → w1.frozen? ⟨b, o, none⟩ = W.frozen? ⟨b, o, none⟩) :=
  ⟨fun b o h => hb.cell (p := ⟨b, o, none⟩) h, fun b o h => hb.frozen (p := ⟨b, o, none⟩) h⟩

/-- a copy of one value -/
def CloneVPost (k : Int) (t : ByteArray) (n m : Int) (s : ByteArray) (l : List V) (w : World) (e : Ending) (w' : World) : Prop :=
  ∃ A c, e = .returned (.agg #[.int .i64 k, .string t, .int .i64 n, .int .i64 m, .string s, .slice A l.length c]) ∧ Rd (Bt w.heap.size w'.heap.size) w' (vs l) (.slice A l.length c) ∧ Below w.heap.size w w'

set_option maxHeartbeats 1000000 in
theorem cvalue_of (k : Int) (t : ByteArray) (n m : Int) (s : ByteArray) (l : List V) (A : Option Addr) (c : Nat) (w : World) (hr : Rd (Lt w.heap.size) w (vs l) (.slice A l.length c))
    (hv : ∀ W, Rd (Lt W.heap.size) W (vs l) (.slice A l.length c) → Calls Tryd.prog 48 #[.slice A l.length c] W (ClonePost (vs l) W)) :
    Calls Tryd.prog 68 #[.agg #[.int .i64 k, .string t, .int .i64 n, .int .i64 m, .string s, .slice A l.length c]] w (CloneVPost k t n m s l w) := by
  have HR := Lib.hid hr
  have HV := Lib.hid hv
  clear hr hv
  go_enter Tryd.func68, Tryd.ntmps68
  go_wp2_with fail
  (with_reducible refine (HV.out _ ?_).mono ?_)
  · exact (HR.out.allocs _).allocs _
  rintro e w3 ⟨v, rfl, hr, hb⟩
  obtain ⟨A', c', rfl, _⟩ := hr.sl_inv
  have q0 : w3.cell? ⟨w.heap.size, 0, none⟩ = some (Value.int .i64 k) := (hb.cell (p := ⟨w.heap.size, 0, none⟩) (by simp; omega)).trans (by simp)
  have q1 : w3.cell? ⟨w.heap.size, 1, none⟩ = some (Value.string t) := (hb.cell (p := ⟨w.heap.size, 1, none⟩) (by simp; omega)).trans (by simp)
  have q2 : w3.cell? ⟨w.heap.size, 2, none⟩ = some (Value.int .i64 n) := (hb.cell (p := ⟨w.heap.size, 2, none⟩) (by simp; omega)).trans (by simp)
  have q3 : w3.cell? ⟨w.heap.size, 3, none⟩ = some (Value.int .i64 m) := (hb.cell (p := ⟨w.heap.size, 3, none⟩) (by simp; omega)).trans (by simp)
  have q4 : w3.cell? ⟨w.heap.size, 4, none⟩ = some (Value.string s) := (hb.cell (p := ⟨w.heap.size, 4, none⟩) (by simp; omega)).trans (by simp)
  have q5 : w3.cell? ⟨w.heap.size, 5, none⟩ = some (Value.slice A l.length c) := (hb.cell (p := ⟨w.heap.size, 5, none⟩) (by simp; omega)).trans (by simp)
  have z0 : w3.cell? ⟨w.heap.size + 1, 0, none⟩ = some (Value.int .i64 0) := (hb.cell (p := ⟨w.heap.size + 1, 0, none⟩) (by simp)).trans (by simp)
  have z1 : w3.cell? ⟨w.heap.size + 1, 1, none⟩ = some (Value.string ⟨#[]⟩) := (hb.cell (p := ⟨w.heap.size + 1, 1, none⟩) (by simp)).trans (by simp)
  have z2 : w3.cell? ⟨w.heap.size + 1, 2, none⟩ = some (Value.int .i64 0) := (hb.cell (p := ⟨w.heap.size + 1, 2, none⟩) (by simp)).trans (by simp)
  have z3 : w3.cell? ⟨w.heap.size + 1, 3, none⟩ = some (Value.int .i64 0) := (hb.cell (p := ⟨w.heap.size + 1, 3, none⟩) (by simp)).trans (by simp)
  have z4 : w3.cell? ⟨w.heap.size + 1, 4, none⟩ = some (Value.string ⟨#[]⟩) := (hb.cell (p := ⟨w.heap.size + 1, 4, none⟩) (by simp)).trans (by simp)
  have z5 : w3.cell? ⟨w.heap.size + 1, 5, none⟩ = some (Value.slice none 0 0) := (hb.cell (p := ⟨w.heap.size + 1, 5, none⟩) (by simp)).trans (by simp)
  have f0 : ∀ j, w3.frozen? ⟨w.heap.size, j, none⟩ = false := fun j => (hb.frozen (p := ⟨w.heap.size, j, none⟩) (by simp; omega)).trans (by simp)
  have f1 : ∀ j, w3.frozen? ⟨w.heap.size + 1, j, none⟩ = false := fun j => (hb.frozen (p := ⟨w.heap.size + 1, j, none⟩) (by simp)).trans (by simp)
  have hz := hb.size
  have HB := Lib.hid hb
  have HR3 := Lib.hid hr
  clear hb hr
  simp only [World.size_alloc] at hz
  go_wp2_with fail
  refine bodyPost_ret (v := .agg #[.int .i64 k, .string t, .int .i64 n, .int .i64 m, .string s, .slice A' l.length c']) (by simp [results, Tryd.results68, go_sem, z0, z1, z2, z3, z4, z5]) rfl ⟨A', c', rfl, ?_, ?_⟩
  · have h0 : ∀ b, Bt (w.heap.size + 1 + 1) w3.heap.size b → b ≠ w.heap.size := fun b hb => by have := hb.1; omega
    have h1 : ∀ b, Bt (w.heap.size + 1 + 1) w3.heap.size b → b ≠ w.heap.size + 1 := fun b hb => by have := hb.1; omega
    have hr : Rd (Bt (w.heap.size + 1 + 1) w3.heap.size) w3 (vs l) (.slice A' l.length c') := by simpa using HR3.out
    refine Rd.weaken (ok := Bt (w.heap.size + 1 + 1) w3.heap.size) (fun b hb => ⟨by have := hb.1; omega, by simp only [size_setCell]; exact hb.2⟩) ?_
    exact ((((((hr.setCell h0 _).setCell h1 _).setCell h1 _).setCell h1 _).setCell h1 _).setCell h1 _).setCell h1 _
  · have hb : Below w.heap.size w w3 := (((Below.refl _ _).alloc (Nat.le_refl _) _).alloc (by simp) _).trans (HB.out.mono (by simp; omega))
    exact ((((((hb.setCell (Nat.le_refl _) _).setCell (by simp) _).setCell (by simp) _).setCell (by simp) _).setCell (by simp) _).setCell (by simp) _).setCell (by simp) _
end Go.Proofs.YtlnfdpdancolmaaDoor
