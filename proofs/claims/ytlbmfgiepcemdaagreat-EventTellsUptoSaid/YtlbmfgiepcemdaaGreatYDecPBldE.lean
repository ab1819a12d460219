/- Decoding values: what value.decode computes, as a plain function; rows of the call's own under changes. No walk here. A strings.Builder that is written while other blocks lie above it: what is neither the builder nor a row of bytes stands. Conditions: those in each statement. -/
import Derived.Test.YtlbmfgiepcemdaaGreatYRdrNRdrT
import Derived.Test.YtlbmfgiepcemdaaGreatYTypeCloneSame
import Derived.Deep.AppendLies
import Derived.Test.YtlbmfgiepcemdaaGreatYPathNodeANode
import Derived.Test.YtlbmfgiepcemdaaGreatYBuilderChgRdr
import Derived.Test.YtlbmfgiepcemdaaGreatShelf
import Derived.Shelf.Strings.BuilderK
namespace Go.Proofs.YtlbmfgiepcemdaaGreat
open Go.RowKit

def decLoop (d : RS → Nat → Option (V × RS × Nat)) : Nat → RS → Nat → Option (List V × RS × Nat)
  | 0, r, left => some ([], r, left)
  | c + 1, r, left => (d r left).bind fun p => (decLoop d c p.2.1 p.2.2).map fun q => (p.1 :: q.1, q.2.1, q.2.2)
/-- the head of a value: the reader behind it, the number of its elements -/
def hd1 (r : RS) : RS := numR r
def hd2 (r : RS) : RS := textR (hd1 r)
def hd3 (r : RS) : RS := intR (hd2 r)
def hd4 (r : RS) : RS := intR (hd3 r)
def hd5 (r : RS) : RS := textR (hd4 r)
def hd6 (r : RS) : RS := numR (hd5 r)
def headNo (r : RS) (left : Nat) : Bool := ((hd6 r).s.size == 0 && !doneB (hd6 r)) || decide (left < numV (hd5 r))
def decS : Nat → RS → Nat → Option (V × RS × Nat)
  | 0, _, _ => none
  | F + 1, r, left => if left = 0 ∨ r.s.size = 0 then none else if headNo r (left - 1) then none else
    (decLoop (decS F) (numV (hd5 r)) (hd6 r) (left - 1)).map fun p => (.mk (numV r) (textS (hd1 r)) (intV (hd2 r)) (intV (hd3 r)) (textS (hd4 r)) p.1, p.2.1, p.2.2)
/-- how far the loop over the elements has come -/
def LoopTo (d : RS → Nat → Option (V × RS × Nat)) (c : Nat) (r0 : RS) (l0 : Nat) (i : Nat) (acc : List V) (r : RS) (left : Nat) : Prop :=
  decLoop d c r0 l0 = (decLoop d (c - i) r left).map fun p => (acc ++ p.1, p.2.1, p.2.2)
section
variable {d : RS → Nat → Option (V × RS × Nat)} {c : Nat} {r0 : RS} {l0 i : Nat} {acc : List V} {r : RS} {left : Nat}
theorem LoopTo.start (d : RS → Nat → Option (V × RS × Nat)) (c : Nat) (r0 : RS) (l0 : Nat) : LoopTo d c r0 l0 0 [] r0 l0 := by
  unfold LoopTo
  rw [Nat.sub_zero]
  cases decLoop d c r0 l0 with
  | none => rfl
  | some p => rfl
theorem LoopTo.step (h : LoopTo d c r0 l0 i acc r left) (hi : i < c) {v : V} {r1 : RS} {l1 : Nat} (hd : d r left = some (v, r1, l1)) : LoopTo d c r0 l0 (i + 1) (acc ++ [v]) r1 l1 := by
  unfold LoopTo at *
  rw [h, show c - i = (c - (i + 1)) + 1 by omega, decLoop, hd]
  rw [Option.bind_some]
  cases decLoop d (c - (i + 1)) r1 l1 <;> simp
theorem LoopTo.stop (h : LoopTo d c r0 l0 i acc r left) (hi : i < c) (hd : d r left = none) : decLoop d c r0 l0 = none := by
  unfold LoopTo at h
  rw [h, show c - i = (c - (i + 1)) + 1 by omega, decLoop, hd]; rfl
theorem LoopTo.done (h : LoopTo d c r0 l0 c acc r left) : decLoop d c r0 l0 = some (acc, r, left) := by
  unfold LoopTo at h
  rw [h, Nat.sub_self, decLoop]; simp
end
theorem decLoop_le {d : RS → Nat → Option (V × RS × Nat)} (hd : ∀ r left v r' l', d r left = some (v, r', l') → l' ≤ left ∧ r'.s.size ≤ r.s.size) : ∀ (c : Nat) (r : RS) (left : Nat) (l : List V) (r' : RS) (l' : Nat), decLoop d c r left = some (l, r', l') → l' ≤ left ∧ r'.s.size ≤ r.s.size
  | 0, r, left, l, r', l', h => by rw [decLoop] at h; cases h; exact ⟨Nat.le_refl _, Nat.le_refl _⟩
  | c + 1, r, left, l, r', l', h => by
    rw [decLoop] at h
    cases h1 : d r left with
    | none => rw [h1] at h; cases h
    | some p =>
      obtain ⟨v, r1, l1⟩ := p
      rw [h1, Option.bind_some] at h
      cases h2 : decLoop d c r1 l1 with
      | none => rw [h2] at h; cases h
      | some q =>
        obtain ⟨l2, r2, k2⟩ := q
        rw [h2] at h
        cases h
        have e1 := hd _ _ _ _ _ h1
        have e2 := decLoop_le hd c r1 l1 _ _ _ h2
        show k2 ≤ left ∧ r2.s.size ≤ r.s.size
        omega
theorem hd6_size (r : RS) : (hd6 r).s.size ≤ r.s.size :=
  Nat.le_trans (numR_size _) (Nat.le_trans (textR_size _) (Nat.le_trans (intR_size _) (Nat.le_trans (intR_size _) (Nat.le_trans (textR_size _) (numR_size r)))))
theorem decS_le : ∀ (F : Nat) (r : RS) (left : Nat) (v : V) (r' : RS) (l' : Nat), decS F r left = some (v, r', l') → l' ≤ left ∧ r'.s.size ≤ r.s.size
  | 0, _, _, _, _, _, h => by rw [decS] at h; cases h
  | F + 1, r, left, v, r', l', h => by
    rw [decS] at h
    split at h
    · cases h
    · split at h
      · cases h
      · cases h2 : decLoop (decS F) (numV (hd5 r)) (hd6 r) (left - 1) with
        | none => rw [h2] at h; cases h
        | some q =>
          obtain ⟨l2, r2, k2⟩ := q
          rw [h2] at h
          cases h
          have e1 := decLoop_le (decS_le F) _ _ _ _ _ _ h2
          have e2 := hd6_size r
          show k2 ≤ left ∧ r2.s.size ≤ r.s.size
          omega
/-- block g holds these cells, none frozen -/
def CellsAt (w : World) (g : Nat) (cs : Array Value) (e : TypeId) : Prop := w.heap[g]? = some (.cells cs e (0, 0))
section
variable {w w' : World} {g : Nat} {cs : Array Value} {e : TypeId} {M : Nat → Prop}
theorem CellsAt.lt (h : CellsAt w g cs e) : g < w.heap.size := (Array.getElem?_eq_some_iff.1 h).1
theorem CellsAt.cell (h : CellsAt w g cs e) (j : Nat) : w.cell? ⟨g, j, none⟩ = cs[j]? := Lib.cell_of_heap h j
theorem CellsAt.fz (h : CellsAt w g cs e) (j : Nat) : w.frozen? ⟨g, j, none⟩ = false := by simp [World.frozen?, show w.heap[g]? = _ from h]
theorem CellsAt.set (h : CellsAt w g cs e) (j : Nat) (u : Value) : CellsAt (w.setCell ⟨g, j, none⟩ u) g (cs.setIfInBounds j u) e := by
  unfold CellsAt at h ⊢
  simp [World.setCell, Array.getElem?_modify, h]
theorem CellsAt.keep (h : CellsAt w g cs e) (hc : Chg M w w') (hm : ¬ M g) : CellsAt w' g cs e := (hc.block g h.lt hm).trans h
theorem CellsAt.new (w : World) (cs : Array Value) (e : TypeId) : CellsAt (w.alloc (.cells cs e)) w.heap.size cs e := heap_alloc_new w _
theorem Owned.chg {B : Nat} {k n : Nat} {f : Nat → Nat → D} {v : Value} (h : Owned B e k n f w v) (hc : Chg M w w') (hm : ∀ j, M j → j < B) : Owned B e k n f w' v := by
  rcases h with h | ⟨g, c, rfl, hB, hnc, hcm, ⟨cur, hcur, hsz⟩, hr⟩
  · exact .inl h
  · have hg : g < w.heap.size := (Array.getElem?_eq_some_iff.1 hcur).1
    have keep : ∀ j, B ≤ j → j < w.heap.size → w'.heap[j]? = w.heap[j]? := fun j h1 h2 => hc.block j h2 (fun hmj => by have := hm j hmj; omega)
    refine .inr ⟨g, c, rfl, hB, hnc, hcm, ⟨cur, (keep g hB hg).trans hcur, hsz⟩, fun a ha => ?_⟩
    refine RdRow.weaken (ok := fun b => Bt B w.heap.size b ∧ b ≠ g) (fun b hb' => ⟨⟨hb'.1.1, Nat.lt_of_lt_of_le hb'.1.2 hc.size⟩, hb'.2⟩) ?_
    exact (hr a ha).keep (fun b o hb' => World.cell?_of_block (a := ⟨b, o, none⟩) (keep b hb'.1.1 hb'.1.2)) (fun j _ => World.cell?_of_block (a := ⟨g, _, none⟩) (keep g hB hg))
end
/-- the cells of a value with no elements -/
def zeroV6 : List Value := [.int .i64 0, .string ⟨#[]⟩, .int .i64 0, .int .i64 0, .string ⟨#[]⟩, .slice none 0 0]
def DecPost (b lb : Nat) (o : Option (V × RS × Nat)) (w : World) (e : Ending) (w' : World) : Prop :=
  Chg (fun k => k = b ∨ k = lb) w w' ∧
  match o with
  | none => e = .returned (.tuple #[.agg #[.int .i64 0, .string ⟨#[]⟩, .int .i64 0, .int .i64 0, .string ⟨#[]⟩, .slice none 0 0], .bool false]) ∧ (∃ r', RdrAt w' b r' ∧ r'.s.size ≤ 4294967296) ∧ ∃ n : Int, CellsAt w' lb #[.int .i64 n] 3
  | some (v, r', left') => ∃ A c, e = .returned (.tuple #[.agg #[.int .i64 v.kind, .string v.t, .int .i64 v.n, .int .i64 v.m, .string v.s, .slice A v.l.length c], .bool true]) ∧ Rd (Bt w.heap.size w'.heap.size) w' (vs v.l) (.slice A v.l.length c) ∧ RdrAt w' b r' ∧ CellsAt w' lb #[.int .i64 left'] 3
theorem results_cell_tmp {P : Program} {fn : Func} {p q : Tmp} {ty : TypeId} (h : fn.results = #[.cell p ty, .tmp q]) (tmps : Array Value) (w : World) (g : Nat) (t : TypeId) (cs : Array Value) (fr : Nat × Nat) (d : TypeDesc)
    (hp : tmps.getD p undef = .pointer (some ⟨g, 0, none⟩)) (hg : w.heap[g]? = some (.cells cs t fr))
    (hu : P.underlying ty = some d) (hd : (match d with | .struct _ | .array _ _ => true | _ => false) = true) (hi : (P.info? ty).map (·.size) = some cs.size) :
    (results fn tmps).run P w = .ok (.tuple #[.agg cs, tmps.getD q undef]) w := by
  have hp' : tmps[p]?.getD undef = .pointer (some ⟨g, 0, none⟩) := by simpa using hp
  simp [results, h, hp', asAddr, run_loadVar_row w g t ty cs fr d hg hu hd hi]
theorem six_set {w : World} {g : Nat} {e : TypeId} {a0 a1 a2 a3 a4 a5 : Value} (u0 u1 u2 u3 u4 u5 : Value) (h : CellsAt w g #[a0, a1, a2, a3, a4, a5] e) :
    CellsAt ((((((w.setCell ⟨g, 0, none⟩ u0).setCell ⟨g, 1, none⟩ u1).setCell ⟨g, 2, none⟩ u2).setCell ⟨g, 3, none⟩ u3).setCell ⟨g, 4, none⟩ u4).setCell ⟨g, 5, none⟩ u5) g #[u0, u1, u2, u3, u4, u5] e := by
  have := (((((h.set 0 u0).set 1 u1).set 2 u2).set 3 u3).set 4 u4).set 5 u5
  simpa using this
theorem six_chg {M : Nat → Prop} {w0 w : World} {g : Nat} (h : Chg M w0 w) (hp : M g ∨ w0.heap.size ≤ g) (u0 u1 u2 u3 u4 u5 : Value) :
    Chg M w0 ((((((w.setCell ⟨g, 0, none⟩ u0).setCell ⟨g, 1, none⟩ u1).setCell ⟨g, 2, none⟩ u2).setCell ⟨g, 3, none⟩ u3).setCell ⟨g, 4, none⟩ u4).setCell ⟨g, 5, none⟩ u5) :=
  (((((h.setCell (p := ⟨g, 0, none⟩) hp u0).setCell (p := ⟨g, 1, none⟩) hp u1).setCell (p := ⟨g, 2, none⟩) hp u2).setCell (p := ⟨g, 3, none⟩) hp u3).setCell (p := ⟨g, 4, none⟩) hp u4).setCell (p := ⟨g, 5, none⟩) hp u5
theorem six_one {w : World} {g : Nat} (u0 u1 u2 u3 u4 u5 : Value) : Chg (fun k => k = g) w ((((((w.setCell ⟨g, 0, none⟩ u0).setCell ⟨g, 1, none⟩ u1).setCell ⟨g, 2, none⟩ u2).setCell ⟨g, 3, none⟩ u3).setCell ⟨g, 4, none⟩ u4).setCell ⟨g, 5, none⟩ u5) :=
  six_chg (Chg.refl (fun k => k = g) w) (.inl rfl) u0 u1 u2 u3 u4 u5
theorem infoV6 : (Tryz.prog.info? 35).map (fun i => (i.zero, i.size, i.bytes)) = some (some (.agg #[.int .i64 0, .string ⟨#[]⟩, .int .i64 0, .int .i64 0, .string ⟨#[]⟩, .slice none 0 0]), 6, 80) := by kernel_rfl
def cells6 (y : V) (A : Option Addr) (c : Nat) : List Value := [.int .i64 y.kind, .string y.t, .int .i64 y.n, .int .i64 y.m, .string y.s, .slice A y.l.length c]
theorem cells6_one (y : V) (A : Option Addr) (c : Nat) : ∀ u ∈ cells6 y A c, u.oneCell' = true := by
  intro u hu
  unfold cells6 at hu
  simp only [List.mem_cons, List.not_mem_nil, or_false] at hu
  rcases hu with rfl | rfl | rfl | rfl | rfl | rfl <;> rfl
/-- APPEND OF ONE VALUE ONTO A ROW OF THE CALL's OWN -/
theorem wp_append_val {w : World} {ops : Array Oper} {rest : List Oper} {o : Oper} {a : Act} {Q : Exit → Act → World → Prop} (hgd : o.guard = none) (s x : Operand)
    (ho : o.op = .call { callee := .builtin .append, args := #[s, x], argTypes := #[33, 33] })
    (B : Nat) (hB : B ≤ w.heap.size) (v : Value) (acc : List V) (hs : a.eval s = v) (hO : Owned B 35 6 acc.length (rowsV acc) w v)
    (ad : Addr) (c : Nat) (y : V) (A' : Option Addr) (c' : Nat) (hx : a.eval x = .slice (some ad) 1 c) (hcells : ∀ (j : Nat) (u : Value), (cells6 y A' c')[j]? = some u → w.cell? (ad.add j) = some u)
    (hrd : Rd (fun b => Bt B w.heap.size b ∧ some b ≠ v.ownBlock) w (vs y.l) (.slice A' y.l.length c')) (hlen : acc.length ≤ 2097152)
    (h : ∀ v' w', Owned B 35 6 (acc ++ [y]).length (rowsV (acc ++ [y])) w' v' → w.grownBy w' v.ownBlock → wpList Tryz.prog ops Q rest (a.put o.dst v') w') : wpList Tryz.prog ops Q (o :: rest) a w := by
  obtain ⟨i0, hi0, hz0, hz1, hz2⟩ := info_parts infoV6
  obtain ⟨xs, hown⟩ := hO.own
  refine wpList_append_lies w hgd s x 33 ho B 35 i0 _ 6 80 Tryz.underlying33 hi0 hz0 hz1 hz2 rfl (by omega) v acc.length xs hs hown ad 1 c (cells6 y A' c') hx rfl hcells (cells6_one y A' c') (by omega) (by unfold maxLen; omega) (by omega) hB w.heap.size rfl ?_
  intro g cap w' h2 h3 h4 _
  refine h _ w' ?_ h3
  have hl : (acc ++ [y]).length = acc.length + 1 := by simp
  rw [hl]
  refine hO.append hown h2 h3 h4 rfl (fun k hk => ?_) (fun j u hj => ?_)
  · have hx : acc[k]? = some acc[k] := List.getElem?_eq_getElem hk
    rw [rowsV_get acc k _ hx, rowsV_get (acc ++ [y]) k _ (by rw [List.getElem?_append_left hk]; exact hx)]
  · rw [rowsV_get (acc ++ [y]) acc.length y (by rw [List.getElem?_append_right (Nat.le_refl _)]; simp)]
    obtain ⟨k, t, n, m, s, l⟩ := y
    exact cells_rdV hrd j u hj
theorem Owned.below_own {B : Nat} {e : TypeId} {k n : Nat} {f : Nat → Nat → D} {w : World} {v : Value} (h : Owned B e k n f w v) : ∀ g, v.ownBlock = some g → B ≤ g ∧ g < w.heap.size := by
  intro q hq
  rcases h with ⟨rfl, _⟩ | ⟨g, c, rfl, hB, _, _, hbk, _⟩
  · cases hq
  · have : g = q := Option.some.inj hq
    subst this
    exact ⟨hB, hbk.lt⟩
theorem sizeV6 : (Tryz.prog.info? 35).map (·.size) = some 6 := by kernel_rfl
end Go.Proofs.YtlbmfgiepcemdaaGreat
namespace Go.Proofs.YtlbmfgiepcemdaaGreat
open Go.RowKit

theorem builderF_below {T e : TypeId} {B b : Nat} {bs : List Value} {w w' : World} (h : Lib.IsBuilderF T e B b bs w) (hb : Below w.heap.size w w') : Lib.IsBuilderF T e B b bs w' := by
  have key : ∀ p, Lib.BuilderAtF T e B b p bs w → Lib.BuilderAtF T e B b p bs w' := fun p h => by
    obtain ⟨h1, v, h2, h3, h4⟩ := h
    exact ⟨h1, v, (hb.block b (Array.getElem?_eq_some_iff.1 h2).1).trans h2, h3.kept (row := none) ⟨hb.os, hb.tape, hb.output, hb.size, fun k hk _ => hb.block k hk⟩ (by cases v.ownBlock <;> simp), h4⟩
  exact h.elim (fun h => .inl (key _ h)) (fun h => .inr (key _ h))
/-- the builder b, of blocks from B on, holds bs; what lies below B is as it was, and so is what is no row of bytes -/
structure BldE (B b : Nat) (w0 w : World) (bs : List UInt8) : Prop where
  at_ : Lib.IsBuilderF 70 5 B b (Lib.byteCells bs) w
  low : Below B w0 w
  oth : Lib.OthersKept 5 (some b) w0 w
  le : B ≤ w.heap.size
theorem others_below {e : TypeId} {b : Option Nat} {w w' : World} (hb : Below w.heap.size w w') : Lib.OthersKept e b w w' := fun k _ h _ _ => (hb.block k (Array.getElem?_eq_some_iff.1 h).1).trans h
section
variable {B b : Nat} {w0 w w' : World} {bs : List UInt8}
theorem BldE.below (h : BldE B b w0 w bs) (hb : Below w.heap.size w w') : BldE B b w0 w' bs :=
  ⟨builderF_below h.at_ hb, h.low.trans (hb.mono h.le), h.oth.trans (others_below hb), Nat.le_trans h.le hb.size⟩
theorem BldE.alloc (h : BldE B b w0 w bs) (o : Obj) : BldE B b w0 (w.alloc o) bs := h.below ((Below.refl _ _).alloc (Nat.le_refl _) o)
/-- from here on -/
theorem BldE.self (h : BldE B b w0 w bs) : BldE B b w w bs := ⟨h.at_, Below.refl _ _, Lib.OthersKept.refl _ _ _, h.le⟩
theorem BldE.trans {w1 : World} {cs : List UInt8} (h : BldE B b w0 w bs) (k : BldE B b w w1 cs) : BldE B b w0 w1 cs := ⟨k.at_, h.low.trans k.low, h.oth.trans k.oth, k.le⟩
/-- a block of other cells stands -/
theorem BldE.cells {g : Nat} {cs : Array Value} {e : TypeId} (h : BldE B b w0 w bs) (hg : CellsAt w0 g cs e) (hne : g ≠ b) (he : e ≠ 5) : CellsAt w g cs e :=
  h.oth g _ hg (fun h => hne (Option.some.inj h)) (fun c fz h => by injection h with _ h _; exact he h)
end
theorem BldE.new (w : World) : BldE w.heap.size w.heap.size w (w.alloc (.cells #[.pointer none, .slice none 0 0] 70)) [] :=
  ⟨.inl ⟨Nat.le_refl _, .slice none 0 0, heap_alloc_new w _, World.ownsRowF_nil _ _ _ _, by simp [Value.ownBlock]⟩, (Below.refl _ _).alloc (Nat.le_refl _) _, (Lib.OthersKept.refl _ _ _).alloc _, by simp⟩
/-- WriteString -/
def WritePostE (B b : Nat) (w0 : World) (bs : List UInt8) (s : ByteArray) (e : Ending) (w' : World) : Prop := e = .returned (.tuple #[.int .i64 s.size, .nilIface]) ∧ BldE B b w0 w' (bs ++ s.data.toList)
theorem writeE_any {B b : Nat} {w0 w : World} {bs : List UInt8} (h : BldE B b w0 w bs) (s : ByteArray) (hl : bs.length + s.size ≤ 140737488355328) :
    Calls Tryz.prog 40 #[.pointer (some ⟨b, 0, none⟩), .string s] w (WritePostE B b w0 bs s) := by
  refine (Any.Builder_WriteString_k layB layB_extra B b (Lib.byteCells bs) s w h.at_ (by rw [Lib.byteCells_length]; exact hl) h.le).mono ?_
  rintro e w' ⟨rfl, h1, h2, h3⟩
  refine ⟨rfl, .inr ?_, h.low.trans h2, h.oth.trans h3, Nat.le_trans h.le h2.size⟩
  rw [show Lib.byteCells (bs ++ s.data.toList) = Lib.byteCells bs ++ Lib.strCells s by simp [Lib.byteCells, Lib.strCells]]
  exact h1
theorem stringE_any {B b : Nat} {w0 w : World} {bs : List UInt8} (h : BldE B b w0 w bs) :
    Calls Tryz.prog 45 #[.pointer (some ⟨b, 0, none⟩)] w fun e w' => e = .returned (.string ⟨bs.toArray⟩) ∧ Below B w0 w' := by
  refine (Any.Builder_String_any_k Tryz.lays169 Tryz.Builder_Extra_169 B b bs w h.at_ h.le).mono ?_
  rintro e w' ⟨rfl, _, h2, _⟩
  exact ⟨rfl, h.low.trans h2⟩
/-- value.Bytes -/
theorem vbytes_any (k : Int) (t : ByteArray) (n m : Int) (s : ByteArray) (l : List V) (A : Option Addr) (c : Nat) (w : World) (hb : (V.mk k t n m s l).bulk ≤ 2097152) (hwf : (V.mk k t n m s l).Wf) (hr : Rd (Lt w.heap.size) w (vs l) (.slice A l.length c)) :
    Calls Tryz.prog 71 #[.agg #[.int .i64 k, .string t, .int .i64 n, .int .i64 m, .string s, .slice A l.length c]] w fun e w' => e = .returned (.string (bytesP nodeP (.mk k t n m s l))) ∧ Below w.heap.size w w' :=
  bytes_of nodeP k t n m s l A c w hb hwf (nodeOk_all _ hb) hr
theorem bytesP_size (v : V) : (bytesP nodeP v).size ≤ 9 * v.bulk := by
  unfold bytesP
  split
  · have := bytesV_len v
    simpa [ByteArray.size] using this
  · exact Nat.zero_le _
end Go.Proofs.YtlbmfgiepcemdaaGreat
