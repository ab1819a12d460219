/- Words for memory: plain data of a Go program (numbers, bools, strings, slices of rows of these) and how cells read as them. No program here. -/
import Derived.WalkKit
import Derived.LoopTactic
import Derived.Outline
import Derived.Below
import Derived.Deep.QuietTactic
import Derived.BigQuiet
import Derived.Deep.Draws
import Derived.Lib.Hide
import Derived.RegionTactic
import Derived.WalkLawsBesides
import Derived.WalkSpells
import Derived.Laws.Rows
import Derived.Laws.IdiomCopy
namespace Go.Proofs.YtlbmfgiepcemdaaGreat
open Go.RowKit

/-- plain data: a number, a bool, a string, or a slice of n rows of k cells each -/
inductive D where
  | num (k : IntKind) (n : Int)
  | bool (b : Bool)
  | str (s : ByteArray)
  | sl (k n : Nat) (f : Nat → Nat → D)

/-- the value v reads as d in the world w; every block that the reading visits is ok -/
def Rd (ok : Nat → Prop) (w : World) : D → Value → Prop
  | .num k n, v => v = .int k n
  | .bool b, v => v = .bool b
  | .str s, v => v = .string s
  | .sl k n f, v => ∃ A c, v = .slice A n c ∧ n ≤ c ∧ c ≤ 9223372036854775807 ∧
      (0 < n → ∃ b off, A = some ⟨b, off, none⟩ ∧ ok b ∧ ∀ i, i < n → ∀ j, j < k → ∃ u, w.cell? ⟨b, off + i * k + j, none⟩ = some u ∧ Rd ok w (f i j) u)

/-- k cells of block b from o on read as the row f -/
def RdRow (ok : Nat → Prop) (w : World) (b o k : Nat) (f : Nat → D) : Prop := ∀ j, j < k → ∃ u, w.cell? ⟨b, o + j, none⟩ = some u ∧ Rd ok w (f j) u

section
variable {ok ok' : Nat → Prop} {w w' : World}
theorem Rd.weaken (h : ∀ b, ok b → ok' b) : ∀ {d : D} {v : Value}, Rd ok w d v → Rd ok' w d v
  | .num _ _, _, hr => hr
  | .bool _, _, hr => hr
  | .str _, _, hr => hr
  | .sl _ _ _, _, hr => by
    obtain ⟨A, c, rfl, h1, h2, h3⟩ := hr
    refine ⟨A, c, rfl, h1, h2, fun hn => ?_⟩
    obtain ⟨b, off, rfl, hb, hc⟩ := h3 hn
    refine ⟨b, off, rfl, h b hb, fun i hi j hj => ?_⟩
    obtain ⟨u, hu, hr⟩ := hc i hi j hj
    exact ⟨u, hu, Rd.weaken h hr⟩
theorem Rd.keep (h : ∀ b o, ok b → w'.cell? ⟨b, o, none⟩ = w.cell? ⟨b, o, none⟩) : ∀ {d : D} {v : Value}, Rd ok w d v → Rd ok w' d v
  | .num _ _, _, hr => hr
  | .bool _, _, hr => hr
  | .str _, _, hr => hr
  | .sl _ _ _, _, hr => by
    obtain ⟨A, c, rfl, h1, h2, h3⟩ := hr
    refine ⟨A, c, rfl, h1, h2, fun hn => ?_⟩
    obtain ⟨b, off, rfl, hb, hc⟩ := h3 hn
    refine ⟨b, off, rfl, hb, fun i hi j hj => ?_⟩
    obtain ⟨u, hu, hr⟩ := hc i hi j hj
    exact ⟨u, (h b _ hb).trans hu, Rd.keep h hr⟩
theorem Rd.below {B : Nat} (hb : Below B w w') (hok : ∀ b, ok b → b < B) {d : D} {v : Value} (h : Rd ok w d v) : Rd ok w' d v :=
  h.keep fun b o hb' => hb.cell (p := ⟨b, o, none⟩) (hok b hb')
theorem Rd.drewN (n : Nat) {d : D} {v : Value} (h : Rd ok w d v) : Rd ok (w.drewN n) d v := Rd.keep (w := w) (w' := w.drewN n) (fun _ _ _ => rfl) h
theorem Rd.drew {d : D} {v : Value} (h : Rd ok w d v) : Rd ok w.drew d v := Rd.keep (w := w) (w' := w.drew) (fun _ _ _ => rfl) h
theorem RdRow.weaken (h : ∀ b, ok b → ok' b) {b o k : Nat} {f : Nat → D} (hr : RdRow ok w b o k f) : RdRow ok' w b o k f := fun j hj => by
  obtain ⟨u, hu, hr⟩ := hr j hj
  exact ⟨u, hu, hr.weaken h⟩
theorem RdRow.keep (h : ∀ b o, ok b → w'.cell? ⟨b, o, none⟩ = w.cell? ⟨b, o, none⟩) {b o k : Nat} {f : Nat → D} (hs : ∀ j, j < k → w'.cell? ⟨b, o + j, none⟩ = w.cell? ⟨b, o + j, none⟩) (hr : RdRow ok w b o k f) : RdRow ok w' b o k f := fun j hj => by
  obtain ⟨u, hu, hr⟩ := hr j hj
  exact ⟨u, (hs j hj).trans hu, hr.keep h⟩

/-- a slice, opened -/
theorem Rd.sl_inv {k n : Nat} {f : Nat → Nat → D} {v : Value} (h : Rd ok w (.sl k n f) v) : ∃ A c, v = .slice A n c ∧ n ≤ c ∧ c ≤ 9223372036854775807 ∧
    (0 < n → ∃ b off, A = some ⟨b, off, none⟩ ∧ ok b ∧ ∀ i, i < n → RdRow ok w b (off + i * k) k (f i)) := h
theorem Rd.sl_mk {k n c : Nat} {f : Nat → Nat → D} {A : Option Addr} (h1 : n ≤ c) (h2 : c ≤ 9223372036854775807)
    (h : 0 < n → ∃ b off, A = some ⟨b, off, none⟩ ∧ ok b ∧ ∀ i, i < n → RdRow ok w b (off + i * k) k (f i)) : Rd ok w (.sl k n f) (.slice A n c) := ⟨A, c, rfl, h1, h2, h⟩
theorem Rd.sl_nil {k : Nat} {f : Nat → Nat → D} : Rd ok w (.sl k 0 f) (.slice none 0 0) := ⟨none, 0, rfl, Nat.le_refl _, by omega, fun h => absurd h (by omega)⟩
/-- only the rows below n matter -/
theorem Rd.sl_congr {k n : Nat} {f g : Nat → Nat → D} {v : Value} (hfg : ∀ i j, i < n → j < k → f i j = g i j) (h : Rd ok w (.sl k n f) v) : Rd ok w (.sl k n g) v := by
  obtain ⟨A, c, rfl, h1, h2, h3⟩ := h
  refine ⟨A, c, rfl, h1, h2, fun hn => ?_⟩
  obtain ⟨b, off, rfl, hb, hc⟩ := h3 hn
  exact ⟨b, off, rfl, hb, fun i hi j hj => by rw [← hfg i j hi hj]; exact hc i hi j hj⟩
end

/-- every block of the world -/
def Any (_ : Nat) : Prop := True
def Lt (B b : Nat) : Prop := b < B
def Ge (B b : Nat) : Prop := B ≤ b
def Bt (B C b : Nat) : Prop := B ≤ b ∧ b < C

/-- in the same world, blocks may be taken to lie below the heap's size, if every row has a cell -/
def Solid : D → Prop
  | .sl k n f => 0 < k ∧ ∀ i, i < n → ∀ j, j < k → Solid (f i j)
  | _ => True
theorem Rd.inside {ok : Nat → Prop} {w : World} : ∀ {d : D} {v : Value}, Solid d → Rd ok w d v → Rd (fun b => ok b ∧ b < w.heap.size) w d v
  | .num _ _, _, _, hr => hr
  | .bool _, _, _, hr => hr
  | .str _, _, _, hr => hr
  | .sl k n f, _, hs, hr => by
    obtain ⟨A, c, rfl, h1, h2, h3⟩ := hr
    refine ⟨A, c, rfl, h1, h2, fun hn => ?_⟩
    obtain ⟨b, off, rfl, hb, hc⟩ := h3 hn
    refine ⟨b, off, rfl, ⟨hb, ?_⟩, fun i hi j hj => ?_⟩
    · obtain ⟨u, hu, _⟩ := hc 0 hn 0 hs.1
      exact World.block_lt_of_cell? w _ hu
    · obtain ⟨u, hu, hr⟩ := hc i hi j hj
      exact ⟨u, hu, Rd.inside (hs.2 i hi j hj) hr⟩

theorem below_drewN {B : Nat} {a w : World} (h : Below B a w) (n : Nat) : Below B a (w.drewN n) := ⟨h.os, h.tape, h.output, h.size, h.block⟩
theorem below_le {B : Nat} {a b c : World} (h : Below B a b) (k : Below b.heap.size b c) (hB : B ≤ b.heap.size) : Below B a c := h.trans (k.mono hB)
theorem frozen_new (w : World) (arr : Array Value) (e : TypeId) (j : Nat) : (w.alloc (.cells arr e)).frozen? ⟨w.heap.size, j, none⟩ = false := by
  have h := heap_alloc_new w (.cells arr e)
  simp only [World.frozen?, h]
  simp
theorem cell_new (w : World) (arr : Array Value) (e : TypeId) (j : Nat) : (w.alloc (.cells arr e)).cell? ⟨w.heap.size, j, none⟩ = arr[j]? := cell_of_row _ _ j arr e (0, 0) (heap_alloc_new w _)

theorem Rd.setCell {ok : Nat → Prop} {w : World} {d : D} {v : Value} (h : Rd ok w d v) {p : Addr} (hp : ∀ b, ok b → b ≠ p.block) (u : Value) : Rd ok (w.setCell p u) d v :=
  h.keep fun b o hb => World.cell?_setCell_other w p ⟨b, o, none⟩ u (fun e => hp b hb (by rw [e]))
theorem Rd.allocs {w : World} {d : D} {v : Value} (h : Rd (Lt w.heap.size) w d v) (o : Obj) : Rd (Lt (w.alloc o).heap.size) (w.alloc o) d v :=
  (h.below ((Below.refl w.heap.size w).alloc (Nat.le_refl _) o) (fun _ h => h)).weaken (fun b hb => by unfold Lt at *; simp; omega)
theorem Rd.belows {w w' : World} {d : D} {v : Value} (h : Rd (Lt w.heap.size) w d v) (hb : Below w.heap.size w w') : Rd (Lt w'.heap.size) w' d v :=
  (h.below hb (fun _ h => h)).weaken (fun _ hb' => Nat.lt_of_lt_of_le hb' hb.size)

theorem size_setCell (w : World) (p : Addr) (u : Value) : (w.setCell p u).heap.size = w.heap.size := by simp [World.setCell]
theorem size_setCells (g : Nat) : ∀ (us : List Value) (o : Nat) (w : World), (w.setCells g o us).heap.size = w.heap.size
  | [], _, _ => rfl
  | u :: r, o, w => by rw [World.setCells, size_setCells g r, size_setCell]
theorem below_setCells {B : Nat} {a : World} (b : Nat) (hb : B ≤ b) : ∀ (vs : List Value) (o : Nat) {w : World}, Below B a w → Below B a (w.setCells b o vs)
  | [], _, _, h => h
  | v :: r, o, _, h => below_setCells b hb r (o + 1) (h.setCell (p := ⟨b, o, none⟩) hb v)
theorem cell_in {w : World} {b o : Nat} {vs : List Value} (h : ∀ j, j < vs.length → (w.cell? ⟨b, o + j, none⟩).isSome = true) (k : Nat) (h1 : o ≤ k) (h2 : k < o + vs.length) :
    (w.setCells b o vs).cell? ⟨b, k, none⟩ = vs[k - o]? := by
  have := World.cell?_setCells_in b vs o w h (k - o) (by omega)
  rw [show o + (k - o) = k by omega] at this
  rw [this, List.getElem?_eq_getElem (by omega)]
theorem cell_out {w : World} {b o : Nat} {vs : List Value} (k : Nat) (h : k < o ∨ o + vs.length ≤ k) : (w.setCells b o vs).cell? ⟨b, k, none⟩ = w.cell? ⟨b, k, none⟩ :=
  World.cell?_setCells_out b vs o w ⟨b, k, none⟩ (fun _ _ => h)
theorem cell_far {w : World} {b o : Nat} {vs : List Value} (b' k : Nat) (h : b' ≠ b) : (w.setCells b o vs).cell? ⟨b', k, none⟩ = w.cell? ⟨b', k, none⟩ :=
  World.cell?_setCells_out b vs o w ⟨b', k, none⟩ (fun e _ => absurd e h)
theorem some_setCells {w : World} {b o : Nat} {vs : List Value} (x : Addr) (h : (w.cell? x).isSome = true) : ((w.setCells b o vs).cell? x).isSome = true := by
  induction vs generalizing w o with
  | nil => exact h
  | cons v r ih =>
    refine ih ?_
    obtain ⟨u, hu⟩ := Option.isSome_iff_exists.1 h
    by_cases hx : x = ⟨b, o, none⟩
    · subst hx; rw [World.cell?_setCell_same _ _ _ hu]; rfl
    · rw [World.cell?_setCell_other _ _ _ _ (fun e => hx e.symm), hu]; rfl
theorem Rd.setCells {ok : Nat → Prop} {w : World} {d : D} {v : Value} (h : Rd ok w d v) {g : Nat} (hp : ∀ b, ok b → b ≠ g) (o : Nat) (us : List Value) : Rd ok (w.setCells g o us) d v :=
  h.keep fun b k hb => cell_far b k (hp b hb)

theorem heap_setCells (g : Nat) : ∀ (us : List Value) (o : Nat) (w : World) (cur : Array Value) (e : TypeId) (m : Nat × Nat), w.heap[g]? = some (.cells cur e m) → ∃ cur', (w.setCells g o us).heap[g]? = some (.cells cur' e m) ∧ cur'.size = cur.size
  | [], _, _, cur, _, _, h => ⟨cur, h, rfl⟩
  | u :: r, o, w, cur, e, m, h => by
    have h1 : (w.setCell ⟨g, o, none⟩ u).heap[g]? = some (.cells (cur.setIfInBounds o u) e m) := by simp [World.setCell, Array.getElem?_modify, h]
    obtain ⟨cur', h2, h3⟩ := heap_setCells g r (o + 1) _ _ e m h1
    exact ⟨cur', h2, by rw [h3]; simp⟩

/-- block g is a row of cells of element type e, size of them, none frozen -/
def Blk (w : World) (g : Nat) (e : TypeId) (size : Nat) : Prop := ∃ cur, w.heap[g]? = some (.cells cur e (0, 0)) ∧ cur.size = size
section
variable {w w' : World} {g size : Nat} {e : TypeId}
theorem Blk.lt (h : Blk w g e size) : g < w.heap.size := by
  obtain ⟨cur, h, _⟩ := h
  exact (Array.getElem?_eq_some_iff.1 h).1
theorem Blk.some (h : Blk w g e size) {j : Nat} (hj : j < size) : (w.cell? ⟨g, j, none⟩).isSome = true := by
  obtain ⟨cur, h, hs⟩ := h
  rw [cell_of_row w g j cur e (0, 0) h]; simp [hs, hj]
theorem Blk.frozen (h : Blk w g e size) (j : Nat) : w.frozen? ⟨g, j, none⟩ = false := by
  obtain ⟨cur, h, _⟩ := h
  simp [World.frozen?, h]
theorem Blk.below {B : Nat} (h : Blk w g e size) (hb : Below B w w') (hg : g < B) : Blk w' g e size := by
  obtain ⟨cur, h, hs⟩ := h
  exact ⟨cur, (hb.block g hg).trans h, hs⟩
theorem Blk.setCells (h : Blk w g e size) (g' o : Nat) (us : List Value) : Blk (w.setCells g' o us) g e size := by
  by_cases hg : g = g'
  · subst hg
    obtain ⟨cur, h, hs⟩ := h
    obtain ⟨cur', h1, h2⟩ := heap_setCells g us o w cur e (0, 0) h
    exact ⟨cur', h1, by omega⟩
  · obtain ⟨cur, h, hs⟩ := h
    refine ⟨cur, ?_, hs⟩
    have : ∀ (us : List Value) (o : Nat) (w : World), (w.setCells g' o us).heap[g]? = w.heap[g]? := by
      intro us
      induction us with
      | nil => intro o w; rfl
      | cons u r ih => intro o w; rw [World.setCells, ih]; exact Below.heap_setCell w _ u g hg
    rw [this]; exact h
theorem Blk.new (w : World) (e : TypeId) (cs : Array Value) : Blk (w.alloc (.cells cs e)) w.heap.size e cs.size := ⟨cs, heap_alloc_new w _, rfl⟩
end

/-- a new row of n elements of k cells in block g, of which the first i read as f says, out of blocks from B on -/
def Filled (e : TypeId) (B g k n i : Nat) (f : Nat → Nat → D) (wr : World) : Prop :=
  Blk wr g e (n * k) ∧ ∀ a, a < i → RdRow (Bt B wr.heap.size) wr g (a * k) k (f a)
theorem Filled.below {e : TypeId} {B g k n i : Nat} {f : Nat → Nat → D} {w w' : World} (h : Filled e B g k n i f w) (hb : Below w.heap.size w w') : Filled e B g k n i f w' := by
  obtain ⟨h1, h4⟩ := h
  refine ⟨h1.below hb h1.lt, fun a ha => ?_⟩
  refine RdRow.weaken (ok := Bt B w.heap.size) (fun b hb' => ⟨hb'.1, Nat.lt_of_lt_of_le hb'.2 hb.size⟩) ?_
  exact (h4 a ha).keep (fun b o hb' => hb.cell (p := ⟨b, o, none⟩) hb'.2) (fun j _ => hb.cell (p := ⟨g, _, none⟩) h1.lt)
theorem row_le {i n k : Nat} (hi : i < n) : i * k + k ≤ n * k := by
  have := Nat.mul_le_mul_right k (show i + 1 ≤ n from hi)
  rwa [Nat.add_mul, Nat.one_mul] at this
theorem Filled.step {e : TypeId} {B g k n i : Nat} {f : Nat → Nat → D} {w : World} (h : Filled e B g k n i f w) (hg : g < B) (hi : i < n) {us : List Value} (hu : us.length = k) (hr : ∀ j u, us[j]? = some u → Rd (Bt B w.heap.size) w (f i j) u) :
    Filled e B g k n (i + 1) f (w.setCells g (i * k) us) := by
  obtain ⟨h1, h4⟩ := h
  have hik := row_le (k := k) hi
  have hne : ∀ b, Bt B w.heap.size b → b ≠ g := fun b hb => by have := hb.1; omega
  refine ⟨h1.setCells _ _ _, fun a ha => ?_⟩
  rw [size_setCells]
  intro j hj
  rcases Nat.lt_or_ge a i with hai | hai
  · obtain ⟨u, hc, hd⟩ := h4 a hai j hj
    refine ⟨u, ?_, hd.setCells hne _ _⟩
    rw [cell_out _ (.inl ?_)]
    · exact hc
    · have := row_le (k := k) hai
      omega
  · obtain rfl : a = i := by omega
    refine ⟨us[j]'(by omega), ?_, (hr j _ (List.getElem?_eq_getElem (by omega))).setCells hne _ _⟩
    rw [cell_in (fun q hq => h1.some (by omega)) (a * k + j) (by omega) (by omega), show a * k + j - a * k = j by omega, List.getElem?_eq_getElem (by omega)]

/-- v is a slice of the call's own: nil, or a row at the head of a block from B on, whose rows read as f says, out of other blocks from B on -/
def Owned (B : Nat) (e : TypeId) (k n : Nat) (f : Nat → Nat → D) (w : World) (v : Value) : Prop :=
  (v = .slice none 0 0 ∧ n = 0) ∨
  ∃ g c, v = .slice (some ⟨g, 0, none⟩) n c ∧ B ≤ g ∧ n ≤ c ∧ c ≤ 9223372036854775807 ∧ Blk w g e (c * k) ∧ ∀ a, a < n → RdRow (fun b => Bt B w.heap.size b ∧ b ≠ g) w g (a * k) k (f a)
theorem Filled.done {e : TypeId} {B g k n : Nat} {f : Nat → Nat → D} {w : World} (h : Filled e B g k n n f w) (hg : g < B) (C : Nat) (hC : C ≤ g) (hn : n ≤ 9223372036854775807) : Owned C e k n f w (.slice (some ⟨g, 0, none⟩) n n) :=
  .inr ⟨g, n, rfl, hC, Nat.le_refl _, hn, h.1, fun a ha => (h.2 a ha).weaken (fun b hb => ⟨⟨by have := hb.1; omega, hb.2⟩, by have := hb.1; omega⟩)⟩
theorem Owned.nil (B : Nat) (e : TypeId) (k : Nat) (f : Nat → Nat → D) (w : World) : Owned B e k 0 f w (.slice none 0 0) := .inl ⟨rfl, rfl⟩
theorem Owned.rd {B : Nat} {e : TypeId} {k n : Nat} {f : Nat → Nat → D} {w : World} {v : Value} (h : Owned B e k n f w v) : Rd (Bt B w.heap.size) w (.sl k n f) v := by
  rcases h with ⟨rfl, rfl⟩ | ⟨g, c, rfl, hB, hnc, hc, hbk, hr⟩
  · exact Rd.sl_nil
  · refine Rd.sl_mk hnc hc fun _ => ⟨g, 0, rfl, ⟨hB, hbk.lt⟩, fun i hi => ?_⟩
    rw [Nat.zero_add]
    exact (hr i hi).weaken (fun b hb => hb.1)
theorem Owned.below {B : Nat} {e : TypeId} {k n : Nat} {f : Nat → Nat → D} {w w' : World} {v : Value} (h : Owned B e k n f w v) (hb : Below w.heap.size w w') : Owned B e k n f w' v := by
  rcases h with h | ⟨g, c, rfl, hB, hnc, hc, hbk, hr⟩
  · exact .inl h
  · refine .inr ⟨g, c, rfl, hB, hnc, hc, hbk.below hb hbk.lt, fun a ha => ?_⟩
    refine RdRow.weaken (ok := fun b => Bt B w.heap.size b ∧ b ≠ g) (fun b hb' => ⟨⟨hb'.1.1, Nat.lt_of_lt_of_le hb'.1.2 hb.size⟩, hb'.2⟩) ?_
    exact (hr a ha).keep (fun b o hb' => hb.cell (p := ⟨b, o, none⟩) hb'.1.2) (fun j _ => hb.cell (p := ⟨g, _, none⟩) hbk.lt)
theorem Owned.lower {B B' : Nat} {e : TypeId} {k n : Nat} {f : Nat → Nat → D} {w : World} {v : Value} (h : Owned B e k n f w v) (hB : B' ≤ B) : Owned B' e k n f w v := by
  rcases h with h | ⟨g, c, rfl, hB1, hnc, hc, hbk, hr⟩
  · exact .inl h
  · exact .inr ⟨g, c, rfl, Nat.le_trans hB hB1, hnc, hc, hbk, fun a ha => (hr a ha).weaken (fun b hb => ⟨⟨Nat.le_trans hB hb.1.1, hb.1.2⟩, hb.2⟩)⟩
theorem Owned.drewN {B : Nat} {e : TypeId} {k n : Nat} {f : Nat → Nat → D} {w : World} {v : Value} (h : Owned B e k n f w v) (q : Nat) : Owned B e k n f (w.drewN q) v :=
  h.below (below_drewN (Below.refl _ _) q)

theorem Owned.own {B : Nat} {e : TypeId} {k n : Nat} {f : Nat → Nat → D} {w : World} {v : Value} (h : Owned B e k n f w v) : ∃ xs, w.ownsRow B e k v n xs := by
  rcases h with ⟨rfl, rfl⟩ | ⟨g, c, rfl, hB, hnc, hc, ⟨cur, hcur, hsz⟩, _⟩
  · exact ⟨[], World.ownsRow_nil _ _ _ _⟩
  · refine ⟨cur.toList.take (n * k), ?_, .inr ⟨g, c, cur, rfl, hB, hcur, hnc, hc, hsz, rfl⟩⟩
    have := Nat.mul_le_mul_right k hnc
    rw [List.length_take, Array.length_toList, hsz]; omega
/-- behind an append of one row -/
theorem Owned.append {B : Nat} {e : TypeId} {k n : Nat} {f f' : Nat → Nat → D} {w w' : World} {v : Value} {xs news : List Value} {g cap : Nat} (h : Owned B e k n f w v) (hown : w.ownsRow B e k v n xs)
    (hown' : w'.ownsRow B e k (.slice (some ⟨g, 0, none⟩) (n + 1) cap) (n + 1) (xs ++ news)) (hg : w.grownBy w' v.ownBlock) (hat : v.ownBlock = some g ∨ g = w.heap.size) (hk : news.length = k)
    (hf : ∀ a, a < n → f' a = f a) (hnew : ∀ j u, news[j]? = some u → Rd (fun b => Bt B w.heap.size b ∧ some b ≠ v.ownBlock) w (f' n j) u) :
    Owned B e k (n + 1) f' w' (.slice (some ⟨g, 0, none⟩) (n + 1) cap) := by
  have hxl : xs.length = n * k := hown.1
  have hcells := hown'.cells (g := g) rfl
  rcases hown'.2 with ⟨hv, _⟩ | ⟨g', cap', cur, hv, hBg, hcur, hnc, hc, hsz, _⟩
  · injection hv with hv; cases hv
  injection hv with hv1 _ hv3
  injection hv1 with hv1
  injection hv1 with hv1
  subst hv1 hv3
  have keep : ∀ {d : D} {u : Value}, Rd (fun b => Bt B w.heap.size b ∧ some b ≠ v.ownBlock) w d u → Rd (fun b => Bt B w'.heap.size b ∧ b ≠ g) w' d u := fun hd =>
    (hd.keep (fun b o hb => World.cell?_of_block (hg.block b hb.1.2 hb.2))).weaken (fun b hb => ⟨⟨hb.1.1, Nat.lt_of_lt_of_le hb.1.2 hg.size⟩, fun hbg => by
      subst hbg
      rcases hat with h1 | h1
      · exact hb.2 h1.symm
      · have := hb.1.2; omega⟩)
  refine .inr ⟨g, cap, rfl, hBg, hnc, hc, ⟨cur, hcur, hsz⟩, fun a ha j hj => ?_⟩
  rcases Nat.lt_or_ge a n with han | han
  · have hak := row_le (k := k) han
    have hu : xs[a * k + j]? = some (xs[a * k + j]'(by omega)) := List.getElem?_eq_getElem (by omega)
    have hc1 := hcells (a * k + j) _ ((List.getElem?_append_left (by omega)).trans hu)
    rw [Addr.add_lit, Nat.zero_add] at hc1
    refine ⟨_, hc1, ?_⟩
    rw [hf a han]
    rcases h with ⟨_, h0⟩ | ⟨g0, c0, rfl, _, _, _, _, hr⟩
    · omega
    obtain ⟨u, hcu, hd⟩ := hr a han j hj
    have hc0 := hown.cells (g := g0) rfl (a * k + j) _ hu
    rw [Addr.add_lit, Nat.zero_add, hcu] at hc0
    have he := Option.some.inj hc0
    rw [← he]
    exact keep (hd.weaken (fun b hb => ⟨hb.1, fun h => by
      have : some b = some g0 := h
      injection this with this
      exact hb.2 this⟩))
  · obtain rfl : a = n := by omega
    have hu : news[j]? = some (news[j]'(by omega)) := List.getElem?_eq_getElem (by omega)
    have hc1 := hcells (a * k + j) _ (by rw [List.getElem?_append_right (by omega), hxl, show a * k + j - a * k = j by omega]; exact hu)
    rw [Addr.add_lit, Nat.zero_add] at hc1
    exact ⟨_, hc1, keep (hnew j _ hu)⟩

theorem Rd.oneCell {ok : Nat → Prop} {w : World} : ∀ {d : D} {v : Value}, Rd ok w d v → v.oneCell' = true
  | .num _ _, _, h => by cases h; rfl
  | .bool _, _, h => by cases h; rfl
  | .str _, _, h => by cases h; rfl
  | .sl _ _ _, _, h => by obtain ⟨A, c, rfl, _⟩ := h; rfl

/-- clear of one element of several cells -/
theorem run_clear_one {P : Program} (w : World) (t e ty : TypeId) (z : Value) (zs : List Value) (ht : P.underlying t = some (.slice e)) (hv : ∀ w, (zeroValue e).run P w = .ok z w) (hz : (Builtin.zeroCells z.cells 1).toList = zs) (h1 : ∀ u ∈ zs, u.oneCell' = true) (b o c : Nat)
    (hc : ∀ j, j < zs.length → (w.cell? ⟨b, o + j, none⟩).isSome = true) (hf : ∀ j, j < zs.length → w.frozen? ⟨b, o + j, none⟩ = false) :
    (Builtin.clear_ #[t] ty #[.slice (some ⟨b, o, none⟩) 1 c]).run P w = .ok (.tuple #[]) (w.setCells b o zs) := by
  have hst := run_storeCells_cells (P := P) b o zs 0 w (by simpa using hc) (by simpa using hf) h1
  simp only [Nat.add_zero] at hst
  simp [Builtin.clear_, run_underlying ht, hv, hz, hst]

/- quiet calls in a region behind draws -/
theorem quiet_add {P : Program} {f : FuncId} {args : Array Value} {w : World} {a n : Nat} {v : Value}
    (h : Calls P f args (w.drewN (a + n)) fun e w' => e = .returned v ∧ ∃ m, w' = (w.drewN (a + n)).drewN m) :
    Calls P f args (w.drewN (a + n)) fun e w'' => e = .returned v ∧ ∃ m, w'' = w.drewN (a + m) :=
  h.mono fun _ _ ⟨he, m, hm⟩ => ⟨he, n + m, by rw [hm, World.drewN_drewN, Nat.add_assoc]⟩
theorem quiet_add_left {P : Program} {f : FuncId} {args : Array Value} {w : World} {a n : Nat} {v : Value}
    (h : Calls P f args (w.drewN (a + n)) fun e w' => e = .returned v ∧ w.drewN (a + n) = w') :
    Calls P f args (w.drewN (a + n)) fun e w'' => e = .returned v ∧ ∃ m, w'' = w.drewN (a + m) :=
  h.mono fun _ _ ⟨he, hm⟩ => ⟨he, n, hm.symm⟩
theorem quiet_left {P : Program} {f : FuncId} {args : Array Value} {w : World} {n : Nat} {v : Value}
    (h : Calls P f args (w.drewN n) fun e w' => e = .returned v ∧ w.drewN n = w') : Calls P f args (w.drewN n) fun e w'' => e = .returned v ∧ ∃ m, w'' = w.drewN m :=
  h.mono fun _ _ ⟨he, hm⟩ => ⟨he, n, hm.symm⟩
end Go.Proofs.YtlbmfgiepcemdaaGreat
