/- A strings.Builder that is written while other blocks lie above it: what is neither the builder nor a row of bytes stands. Conditions: those in each statement. -/
import Derived.Test.YtlbmfgiepcemdaaNode
import Derived.Test.YtlbmfgiepcemdaaBuilder
import Derived.Test.YtlbmfgiepcemdaaShelf
import Derived.Test.YtlbmfgiepcemdaaDecP
import Derived.Shelf.Strings.BuilderK
namespace Go.Proofs.Ytlbmfgiepcemdaa
open Go.RowKit

theorem builderF_below {T e : TypeId} {B b : Nat} {bs : List Value} {w w' : World} (h : Lib.IsBuilderF T e B b bs w) (hb : Below w.heap.size w w') : Lib.IsBuilderF T e B b bs w' := by
  have key : ∀ p, Lib.BuilderAtF T e B b p bs w → Lib.BuilderAtF T e B b p bs w' := fun p h => by
    obtain ⟨h1, v, h2, h3, h4⟩ := h
    exact ⟨h1, v, (hb.block b (Array.getElem?_eq_some_iff.1 h2).1).trans h2, h3.kept (row := none) ⟨hb.os, hb.tape, hb.output, hb.size, fun k hk _ => hb.block k hk⟩ (by cases v.ownBlock <;> simp), h4⟩
  exact h.elim (fun h => .inl (key _ h)) (fun h => .inr (key _ h))
/-- the builder b, of blocks from B on, holds bs; what lies below B is as it was, and so is what is no row of bytes -/
structure BldE (B b : Nat) (w0 w : World) (bs : List UInt8) : Prop where
  at_ : Lib.IsBuilderF 64 5 B b (Lib.byteCells bs) w
  low : Below B w0 w
  oth : Lib.OthersKept 5 (some b) w0 w
  le : B ≤ w.heap.size
theorem others_below {e : TypeId} {b : Option Nat} {w w' : World} (hb : Below w.heap.size w w') : Lib.OthersKept e b w w' := fun k _ h _ _ => (hb.block k (Array.getElem?_eq_some_iff.1 h).1).trans h
section
variable {B b : Nat} {w0 w w' : World} {bs : List UInt8}
theorem BldE.below (h : BldE B b w0 w bs) (hb : Below w.heap.size w w') : BldE B b w0 w' bs :=
  ⟨builderF_below h.at_ hb, h.low.trans (hb.mono h.le), h.oth.trans (others_below hb), Nat.le_trans h.le hb.size⟩
theorem BldE.alloc (h : BldE B b w0 w bs) (o : Obj) : BldE B b w0 (w.alloc o) bs := h.below ((Below.refl _ _).alloc (Nat.le_refl _) o)
/-- from here on -/
theorem BldE.self (h : BldE B b w0 w bs) : BldE B b w w bs := ⟨h.at_, Below.refl _ _, Lib.OthersKept.refl _ _ _, h.le⟩
theorem BldE.trans {w1 : World} {cs : List UInt8} (h : BldE B b w0 w bs) (k : BldE B b w w1 cs) : BldE B b w0 w1 cs := ⟨k.at_, h.low.trans k.low, h.oth.trans k.oth, k.le⟩
/-- a block of other cells stands -/
theorem BldE.cells {g : Nat} {cs : Array Value} {e : TypeId} (h : BldE B b w0 w bs) (hg : CellsAt w0 g cs e) (hne : g ≠ b) (he : e ≠ 5) : CellsAt w g cs e :=
  h.oth g _ hg (fun h => hne (Option.some.inj h)) (fun c fz h => by injection h with _ h _; exact he h)
end
theorem BldE.new (w : World) : BldE w.heap.size w.heap.size w (w.alloc (.cells #[.pointer none, .slice none 0 0] 64)) [] :=
  ⟨.inl ⟨Nat.le_refl _, .slice none 0 0, heap_alloc_new w _, World.ownsRowF_nil _ _ _ _, by simp [Value.ownBlock]⟩, (Below.refl _ _).alloc (Nat.le_refl _) _, (Lib.OthersKept.refl _ _ _).alloc _, by simp⟩
/-- WriteString -/
def WritePostE (B b : Nat) (w0 : World) (bs : List UInt8) (s : ByteArray) (e : Ending) (w' : World) : Prop := e = .returned (.tuple #[.int .i64 s.size, .nilIface]) ∧ BldE B b w0 w' (bs ++ s.data.toList)
theorem writeE_any {B b : Nat} {w0 w : World} {bs : List UInt8} (h : BldE B b w0 w bs) (s : ByteArray) (hl : bs.length + s.size ≤ 140737488355328) :
    Calls Try.prog 20 #[.pointer (some ⟨b, 0, none⟩), .string s] w (WritePostE B b w0 bs s) := by
  refine (Any.Builder_WriteString_k layB layB_extra B b (Lib.byteCells bs) s w h.at_ (by rw [Lib.byteCells_length]; exact hl) h.le).mono ?_
  rintro e w' ⟨rfl, h1, h2, h3⟩
  refine ⟨rfl, .inr ?_, h.low.trans h2, h.oth.trans h3, Nat.le_trans h.le h2.size⟩
  rw [show Lib.byteCells (bs ++ s.data.toList) = Lib.byteCells bs ++ Lib.strCells s by simp [Lib.byteCells, Lib.strCells]]
  exact h1
theorem stringE_any {B b : Nat} {w0 w : World} {bs : List UInt8} (h : BldE B b w0 w bs) :
    Calls Try.prog 25 #[.pointer (some ⟨b, 0, none⟩)] w fun e w' => e = .returned (.string ⟨bs.toArray⟩) ∧ Below B w0 w' := by
  refine (Any.Builder_String_any_k Try.lays169 Try.Builder_Extra_169 B b bs w h.at_ h.le).mono ?_
  rintro e w' ⟨rfl, _, h2, _⟩
  exact ⟨rfl, h.low.trans h2⟩
/-- value.Bytes -/
theorem vbytes_any (k : Int) (t : ByteArray) (n m : Int) (s : ByteArray) (l : List V) (A : Option Addr) (c : Nat) (w : World) (hb : (V.mk k t n m s l).bulk ≤ 2097152) (hwf : (V.mk k t n m s l).Wf) (hr : Rd (Lt w.heap.size) w (vs l) (.slice A l.length c)) :
    Calls Try.prog 45 #[.agg #[.int .i64 k, .string t, .int .i64 n, .int .i64 m, .string s, .slice A l.length c]] w fun e w' => e = .returned (.string (bytesP nodeP (.mk k t n m s l))) ∧ Below w.heap.size w w' :=
  bytes_of nodeP k t n m s l A c w hb hwf (nodeOk_all _ hb) hr
theorem bytesP_size (v : V) : (bytesP nodeP v).size ≤ 9 * v.bulk := by
  unfold bytesP
  split
  · have := bytesV_len v
    simpa [ByteArray.size] using this
  · exact Nat.zero_le _
end Go.Proofs.Ytlbmfgiepcemdaa
