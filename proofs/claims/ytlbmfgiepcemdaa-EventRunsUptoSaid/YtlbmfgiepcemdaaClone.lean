/- Posts of calls that hand back memory of their own. No walk here. -/
import Derived.Test.YtlbmfgiepcemdaaProg
import Derived.Test.YtlbmfgiepcemdaaStructs
namespace Go.Proofs.Ytlbmfgiepcemdaa
open Go.RowKit

/-- a new copy of d comes back; what was there is as it was -/
def ClonePost (d : D) (w : World) (e : Ending) (w' : World) : Prop := ∃ v, e = .returned v ∧ Rd (Bt w.heap.size w'.heap.size) w' d v ∧ Below w.heap.size w w'

/-- a new slice of the call's own comes back; what was there is as it was -/
def OwnPost (e : TypeId) (k n : Nat) (f : Nat → Nat → D) (w : World) (en : Ending) (w' : World) : Prop := ∃ v, en = .returned v ∧ Owned w.heap.size e k n f w' v ∧ Below w.heap.size w w'

theorem bcell {W w1 : World} (hb : Below W.heap.size W w1) : (∀ b o, b < W.heap.size → w1.cell? ⟨b, o, none⟩ = W.cell? ⟨b, o, none⟩) ∧ (∀ b o, b < W.heap.size → w1.frozen? ⟨b, o, none⟩ = W.frozen? ⟨b, o, none⟩) :=
  ⟨fun b o h => hb.cell (p := ⟨b, o, none⟩) h, fun b o h => hb.frozen (p := ⟨b, o, none⟩) h⟩
end Go.Proofs.Ytlbmfgiepcemdaa
