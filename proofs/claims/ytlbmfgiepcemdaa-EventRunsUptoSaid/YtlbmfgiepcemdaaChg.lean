/- How worlds change: some old blocks written, others laid behind; a code.Reader in memory. No walk here. -/
import Derived.Test.YtlbmfgiepcemdaaStructs
import Derived.Test.YtlbmfgiepcemdaaProg
namespace Go.Proofs.Ytlbmfgiepcemdaa
open Go.RowKit

/-- of the old blocks only those of M may have turned -/
structure Chg (M : Nat → Prop) (w w' : World) : Prop where
  os : w'.os = w.os
  tape : w'.tape = w.tape
  output : w'.output = w.output
  size : w.heap.size ≤ w'.heap.size
  block : ∀ k, k < w.heap.size → ¬ M k → w'.heap[k]? = w.heap[k]?
section
variable {M M' : Nat → Prop} {w w1 w2 : World}
theorem Chg.refl (M : Nat → Prop) (w : World) : Chg M w w := ⟨rfl, rfl, rfl, Nat.le_refl _, fun _ _ _ => rfl⟩
/-- what the second step writes is M's or new -/
theorem Chg.trans (h : Chg M w w1) (k : Chg M' w1 w2) (hm : ∀ j, M' j → M j ∨ w.heap.size ≤ j) : Chg M w w2 :=
  ⟨k.os.trans h.os, k.tape.trans h.tape, k.output.trans h.output, Nat.le_trans h.size k.size, fun j hj hn =>
    (k.block j (Nat.lt_of_lt_of_le hj h.size) (fun hm' => by
      rcases hm j hm' with h1 | h1
      · exact hn h1
      · omega)).trans (h.block j hj hn)⟩
theorem Chg.next (h : Chg M w w1) (k : Chg M w1 w2) : Chg M w w2 := h.trans k (fun _ hm => .inl hm)
theorem Chg.mono (h : Chg M w w1) (hm : ∀ j, M j → M' j) : Chg M' w w1 := ⟨h.os, h.tape, h.output, h.size, fun j hj hn => h.block j hj (fun h' => hn (hm j h'))⟩
theorem Chg.of_below (h : Below w.heap.size w w1) : Chg M w w1 := ⟨h.os, h.tape, h.output, h.size, fun k hk _ => h.block k hk⟩
theorem Chg.below (h : Chg M w w1) {B : Nat} (hB : B ≤ w.heap.size) (hm : ∀ j, M j → B ≤ j) : Below B w w1 := ⟨h.os, h.tape, h.output, h.size, fun k hk => h.block k (by omega) (fun h' => by have := hm k h'; omega)⟩
theorem Chg.thenBelow (h : Chg M w w1) (k : Below w1.heap.size w1 w2) : Chg M w w2 := h.next (Chg.of_below k)
theorem Chg.alloc (h : Chg M w w1) (o : Obj) : Chg M w (w1.alloc o) := h.thenBelow ((Below.refl _ _).alloc (Nat.le_refl _) o)
theorem Chg.setCell (h : Chg M w w1) {p : Addr} (hp : M p.block ∨ w.heap.size ≤ p.block) (u : Value) : Chg M w (w1.setCell p u) :=
  ⟨h.os, h.tape, h.output, by rw [size_setCell]; exact h.size, fun k hk hn => (Below.heap_setCell w1 p u k (fun e => by
    subst e
    rcases hp with h1 | h1
    · exact hn h1
    · omega)).trans (h.block k hk hn)⟩
theorem Chg.setCells {b : Nat} (hp : M b ∨ w.heap.size ≤ b) : ∀ (us : List Value) (o : Nat) {w1 : World}, Chg M w w1 → Chg M w (w1.setCells b o us)
  | [], _, _, h => h
  | u :: r, o, _, h => Chg.setCells hp r (o + 1) (h.setCell (p := ⟨b, o, none⟩) hp u)
theorem Chg.drewN (h : Chg M w w1) (n : Nat) : Chg M w (w1.drewN n) := ⟨h.os, h.tape, h.output, h.size, h.block⟩
theorem Chg.of_grown {row : Option Nat} (h : w.grownBy w1 row) (hm : ∀ k, row = some k → M k) : Chg M w w1 := ⟨h.os, h.tape, h.output, h.size, fun k hk hn => h.block k hk (fun e => hn (hm k e.symm))⟩
theorem Chg.cell (h : Chg M w w1) {p : Addr} (hp : p.block < w.heap.size) (hn : ¬ M p.block) : w1.cell? p = w.cell? p := World.cell?_of_block (h.block p.block hp hn)
theorem Chg.frozen (h : Chg M w w1) {p : Addr} (hp : p.block < w.heap.size) (hn : ¬ M p.block) : w1.frozen? p = w.frozen? p := World.frozen?_of_block (h.block p.block hp hn)
theorem Chg.rd (h : Chg M w w1) {ok : Nat → Prop} (hok : ∀ b, ok b → b < w.heap.size ∧ ¬ M b) {d : D} {v : Value} (hr : Rd ok w d v) : Rd ok w1 d v :=
  hr.keep fun b o hb => h.cell (p := ⟨b, o, none⟩) (hok b hb).1 (hok b hb).2
end

/-- the state of a code.Reader: the unread input, the error flag -/
structure RS where
  s : ByteArray
  f : Bool
def RS.bad : RS := ⟨⟨#[]⟩, true⟩
/-- block b holds a code.Reader -/
def RdrAt (w : World) (b : Nat) (r : RS) : Prop := w.heap[b]? = some (.cells #[.string r.s, .bool r.f] 78 (0, 0))
section
variable {w w1 : World} {b : Nat} {r : RS}
theorem RdrAt.lt (h : RdrAt w b r) : b < w.heap.size := (Array.getElem?_eq_some_iff.1 h).1
theorem RdrAt.c0 (h : RdrAt w b r) : w.cell? ⟨b, 0, none⟩ = some (.string r.s) := by rw [Lib.cell_of_heap h]; rfl
theorem RdrAt.c1 (h : RdrAt w b r) : w.cell? ⟨b, 1, none⟩ = some (.bool r.f) := by rw [Lib.cell_of_heap h]; rfl
theorem RdrAt.fz (h : RdrAt w b r) (j : Nat) : w.frozen? ⟨b, j, none⟩ = false := by simp [World.frozen?, show w.heap[b]? = _ from h]
theorem RdrAt.set0 (h : RdrAt w b r) (s : ByteArray) : RdrAt (w.setCell ⟨b, 0, none⟩ (.string s)) b ⟨s, r.f⟩ := by
  unfold RdrAt at h ⊢
  simp [World.setCell, Array.getElem?_modify, h]
theorem RdrAt.set1 (h : RdrAt w b r) (f : Bool) : RdrAt (w.setCell ⟨b, 1, none⟩ (.bool f)) b ⟨r.s, f⟩ := by
  unfold RdrAt at h ⊢
  simp [World.setCell, Array.getElem?_modify, h]
theorem RdrAt.keep {M : Nat → Prop} (h : RdrAt w b r) (hc : Chg M w w1) (hb : ¬ M b) : RdrAt w1 b r := (hc.block b h.lt hb).trans h
theorem RdrAt.below (h : RdrAt w b r) (hc : Below w.heap.size w w1) : RdrAt w1 b r := (hc.block b h.lt).trans h
end
/-- the reader's call: it returns v, and only the reader's own block has turned, into r -/
def RPost (b : Nat) (r : RS) (v : Value) (w : World) (e : Ending) (w' : World) : Prop := e = .returned v ∧ Chg (fun k => k = b) w w' ∧ RdrAt w' b r
end Go.Proofs.Ytlbmfgiepcemdaa
