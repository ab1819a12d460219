/- The row that a conversion of a string has laid (its mark lies behind its last cell), appended to by strings and read back as a string. Conditions: those in each statement. Plain steps of ref23.Bytes over its list. No walk here. -/
import Derived.Test.YtlbmfgiepcemdaaGreatYR23VR23WR23S
import Derived.Lib.FrozenHead
import Derived.Lib.ConvBytes
import Derived.Lib.SmallJoins
namespace Go.Proofs.YtlbmfgiepcemdaaGreat
open Go.RowKit

/-- no cell of the row is frozen -/
def Clear (fz : Nat × Nat) (n : Nat) : Prop := ∀ i, i < n → ¬ (fz.1 ≤ i ∧ i < fz.2)

theorem run_storeCells_atM (P : Program) (g : Nat) (t : TypeId) (fz : Nat × Nat) (o : Nat) : ∀ (vs : List Value) (i : Nat) (cur : Array Value) (w : World), w.heap[g]? = some (.cells cur t fz) → Clear fz cur.size → o + i + vs.length ≤ cur.size → (∀ v ∈ vs, v.oneCell' = true) →
    (storeCells ⟨g, o, none⟩ vs i).run P w = .ok () (w.setRow g (cur.toList.take (o + i) ++ vs ++ cur.toList.drop (o + i + vs.length)).toArray)
  | [], i, cur, w, hg, _, _, _ => by
    simp only [storeCells, List.append_nil, List.length_nil, Nat.add_zero, List.take_append_drop, Array.toArray_toList]
    rw [setRow_self w g cur t fz hg]
    rfl
  | v :: rest, i, cur, w, hg, hfz, hl, h1 => by
    have hi : o + i < cur.size := by simp at hl; omega
    have hadd : (⟨g, o, none⟩ : Addr).add i = ⟨g, o + i, none⟩ := by unfold Addr.add; split <;> simp_all
    have hcell : w.cell? ⟨g, o + i, none⟩ = some cur[o + i] := by simp [World.cell?, hg, hi]
    have hfro : w.frozen? ⟨g, o + i, none⟩ = false := by
      have hx := hfz (o + i) hi
      obtain ⟨lo, hi'⟩ := fz
      simp only [World.frozen?, hg, Bool.and_eq_false_iff, decide_eq_false_iff_not]
      simp only at hx
      omega
    have hst : (store ((⟨g, o, none⟩ : Addr).add i) v).run P w = .ok () (w.setRow g (cur.setIfInBounds (o + i) v)) := by
      rw [hadd, run_store P w _ v _ (h1 v (by simp)), hcell]
      simp [hfro, setCell_eq_setRow w g (o + i) cur t fz v hg]
    have ih := run_storeCells_atM P g t fz o rest (i + 1) (cur.setIfInBounds (o + i) v) (w.setRow g (cur.setIfInBounds (o + i) v)) (setRow_heap w g cur _ t _ hg) (by intro j hj; exact hfz j (by simpa using hj)) (by simp at hl ⊢; omega) (fun x hx => h1 x (by simp [hx]))
    simp only [storeCells, Sem.run_bind, hst, Result.andThen_ok, ih, setRow_setRow]
    congr 3
    have e := list_seg_step cur.toList (o + i) v rest (by simp at hl ⊢; omega)
    simpa [Array.toList_setIfInBounds, Nat.add_assoc] using e

/-- v holds bs in a row of the call's own, none of whose cells is frozen; what lies below B is as in w0 -/
def OwnM (B : Nat) (w0 w : World) (v : Value) (bs : List UInt8) : Prop :=
  (∃ g cap cur fz, v = .slice (some ⟨g, 0, none⟩) bs.length cap ∧ B ≤ g ∧ w.heap[g]? = some (.cells cur 5 fz) ∧ Clear fz cur.size ∧ bs.length ≤ cap ∧ cap ≤ maxLen ∧ cur.size = cap ∧ cur.toList.take bs.length = Lib.byteCells bs) ∧ Below B w0 w ∧ B ≤ w.heap.size
section
variable {B : Nat} {w0 w w' : World} {v v' : Value} {bs bs' : List UInt8}

theorem OwnM.below (h : OwnM B w0 w v bs) (hb : Below w.heap.size w w') : OwnM B w0 w' v bs := by
  obtain ⟨⟨g, cap, cur, fz, hv, hg, hc, rest⟩, h2, h3⟩ := h
  refine ⟨⟨g, cap, cur, fz, hv, hg, ?_, rest⟩, h2.trans (hb.mono h3), Nat.le_trans h3 hb.size⟩
  rw [hb.block g (Array.getElem?_eq_some_iff.1 hc).1]
  exact hc
theorem OwnM.alloc (h : OwnM B w0 w v bs) (o : Obj) : OwnM B w0 (w.alloc o) v bs := h.below ((Below.refl _ _).alloc (Nat.le_refl _) o)
theorem OwnM.drew (h : OwnM B w0 w v bs) : OwnM B w0 w.drew v bs := h.below ((Below.refl _ _).drew)
theorem OwnM.conv (h : OwnM B w0 w v bs) : (convert 68 9 v).run Tryz.prog w = .ok (.string ⟨bs.toArray⟩) w := by
  obtain ⟨⟨g, cap, cur, fz, rfl, hg, hc, hfz, hn, hm, hs, ht⟩, h2, h3⟩ := h
  refine run_convert_bytes_back (P := Tryz.prog) w 68 9 5 ⟨g, 0, none⟩ cap bs Tryz.underlying68 Tryz.underlying5 Tryz.underlying9 (fun j hj => ?_)
  have hadd : (⟨g, 0, none⟩ : Addr).add j = ⟨g, j, none⟩ := by unfold Addr.add; split <;> simp_all
  rw [hadd, cell_of_row w g j cur 5 fz hc]
  have := congrArg (fun l => l[j]?) ht
  simp only [List.getElem?_take, hj, if_true] at this
  rw [← Array.getElem?_toList, this]
  simp [Lib.byteCells, hj]
theorem OwnM.made (hB : Below B w0 w) (h : B ≤ w.heap.size) (s : ByteArray) (hs : s.size ≤ 140737488355328) :
    OwnM B w0 (Lib.bytesWorld w 5 s) (.slice (some ⟨w.heap.size, 0, none⟩) s.size (grownCap w s.size 0 5)) s.data.toList := by
  have hge := grownCap_ge w s.size 0 5
  have hcm := grownCap_le_maxLen w s.size 0 5 (by unfold maxLen; omega)
  have hsz : s.data.size = s.size := rfl
  refine ⟨⟨w.heap.size, _, _, _, ?_, h, Lib.bytesWorld_at_new w _ s, ?_, ?_, hcm, ?_, ?_⟩, hB.trans ⟨rfl, rfl, rfl, by rw [Lib.bytesWorld_size]; omega, fun k hk => Lib.bytesWorld_at_old w _ s k (by omega)⟩, ?_⟩
  · rw [Array.length_toList, hsz]
  · intro i hi; simp only; omega
  · rw [Array.length_toList, hsz]; exact hge
  · simp only [Lib.bytesCells, Array.size_append, Array.size_map, Array.size_replicate, hsz]; omega
  · rw [Lib.bytesCells, Array.toList_append, Array.toList_map, Lib.byteCells, ← List.length_map (f := fun b : UInt8 => Value.int .u8 b.toNat), List.take_left]
  · rw [Lib.bytesWorld_size]; omega

theorem OwnM.bel (h : OwnM B w0 w v bs) : Below B w0 w := h.2.1
theorem OwnM.le (h : OwnM B w0 w v bs) : B ≤ w.heap.size := h.2.2
theorem OwnM.lt (h : OwnM B w0 w v bs) : ∀ k, v.ownBlock = some k → B ≤ k ∧ k < w.heap.size := by
  obtain ⟨⟨g, cap, cur, fz, rfl, hg, hc, _⟩, _, _⟩ := h
  intro k hk
  obtain rfl : g = k := Option.some.inj hk
  exact ⟨hg, (Array.getElem?_eq_some_iff.1 hc).1⟩
/-- what an append of a string does -/
theorem run_append_strM (ty : TypeId) (hown : OwnM B w0 w v bs) (y : ByteArray) (hl : bs.length + y.size ≤ 140737488355328) :
    ∃ v' w', (Builtin.append_ #[68, 9] ty #[v, .string y]).run Tryz.prog w = .ok v' w' ∧ OwnM B w0 w' v' (bs ++ y.data.toList) ∧ w.grownBy w' v.ownBlock ∧ (∀ q, v'.ownBlock = some q → v.ownBlock = some q ∨ q = w.heap.size) := by
  obtain ⟨i0, hi0, hz0, hz1, hz2⟩ := info_parts infoB
  obtain ⟨⟨g, cap, cur, fz, rfl, hg, hc, hfz, hn, hm, hsz, htk⟩, h2, h3⟩ := hown
  have ht := Tryz.underlying68
  have hu := Tryz.underlying9
  have h63 : bs.length + y.size ≤ maxLen := by unfold maxLen; omega
  have hlen : (bs ++ y.data.toList).length = bs.length + y.size := by rw [List.length_append, size_toList]
  have hcl : Lib.byteCells (bs ++ y.data.toList) = Lib.byteCells bs ++ Lib.strCells y := by simp [Lib.byteCells, Lib.strCells]
  have hbl : (Lib.byteCells bs).length = bs.length := by simp [Lib.byteCells]
  by_cases hroom : bs.length + y.size ≤ cap
  · have hf := Lib.run_firstCells_string (P := Tryz.prog) w 1 y
    have hst := run_storeCells_atM Tryz.prog g 5 fz bs.length (Lib.strCells y) 0 cur w hc hfz (by simpa [Lib.strCells_length, hsz] using hroom) (Lib.strCells_oneCell y)
    simp only [Nat.add_zero, Lib.strCells_length] at hst
    refine ⟨.slice (some ⟨g, 0, none⟩) (bs.length + y.size) cap, w.setRow g (cur.toList.take bs.length ++ Lib.strCells y ++ cur.toList.drop (bs.length + y.size)).toArray, ?_, ?_, ⟨rfl, rfl, rfl, by simp, fun k _ hk => setRow_other w g k _ (fun e => hk (by simp [Value.ownBlock, e]))⟩, fun q hq => .inl hq⟩
    · simp [Builtin.append_, run_underlying ht, run_underlying hu, sizeOf, typeInfo, hi0, hz1, Builtin.lenOf, hroom, hf, Addr.add_lit, hst]
    · have hsz2 : (cur.toList.take bs.length ++ Lib.strCells y ++ cur.toList.drop (bs.length + y.size)).toArray.size = cur.size := by
        simp only [List.size_toArray, List.length_append, List.length_take, List.length_drop, Array.length_toList, Lib.strCells_length]; omega
      refine ⟨⟨g, cap, _, fz, by rw [hlen], hg, setRow_heap w g cur _ _ fz hc, by rw [hsz2]; exact hfz, by rw [hlen]; exact hroom, hm, by rw [hsz2]; exact hsz, ?_⟩, ?_, ?_⟩
      · rw [htk, hcl, hlen]
        exact List.take_left' (by rw [List.length_append, hbl, Lib.strCells_length])
      · exact h2.trans ⟨rfl, rfl, rfl, by simp, fun k hk => setRow_other w g k _ (by omega)⟩
      · simpa using h3
  · have holds : ∀ j u, (Lib.byteCells bs)[j]? = some u → w.cell? ((⟨g, 0, none⟩ : Addr).add j) = some u := by
      intro j u hu
      have hadd : (⟨g, 0, none⟩ : Addr).add j = ⟨g, j, none⟩ := by unfold Addr.add; split <;> simp_all
      rw [hadd, cell_of_row w g j cur _ fz hc]
      rw [← htk, List.getElem?_take] at hu
      split at hu
      · simpa using hu
      · cases hu
    have hr := Lib.run_append_grow_string (P := Tryz.prog) w 68 9 ty 5 i0 (.int .u8 0) ht hu hi0 hz0 ⟨g, 0, none⟩ bs.length cap (Lib.byteCells bs) (by rw [hz1, hbl]; simp) holds y (by omega) (by unfold maxLen at h63; omega) (by rw [hz2]; exact growslice_fits (by omega) (by omega))
    have hge := grownCap_ge w (bs.length + y.size) cap 5
    have hcm2 := grownCap_le_maxLen w (bs.length + y.size) cap 5 h63
    refine ⟨_, _, hr, ⟨⟨w.heap.size, _, _, (0, 0), by rw [hlen], h3, heap_alloc_new w.drew _, by intro i _; simp only; omega, by rw [hlen]; exact hge, hcm2, ?_, ?_⟩, ?_, ?_⟩, ⟨rfl, rfl, rfl, by simp, fun k hk _ => heap_alloc_old w.drew _ hk⟩, fun q hq => .inr (Option.some.inj hq).symm⟩
    · have hz1 : (Value.int IntKind.u8 0).cells.size = 1 := rfl
      simp only [Array.size_append, List.size_toArray, size_zeroCells, hz1, hbl, Lib.strCells_length]
      omega
    · rw [hcl, hlen]
      simp only [Array.toList_append, List.append_assoc]
      rw [← List.append_assoc]
      exact List.take_left' (by rw [List.length_append, hbl, Lib.strCells_length])
    · exact h2.trans (((Below.refl _ _).drew).alloc h3 _)
    · exact Nat.le_trans h3 (by simp)
theorem oper_append_strM {o : Oper} {a : Act} {K : Act → World → Prop} {Q : Exit → Act → World → Prop} (sl x : Operand)
    (ho : o.op = .call { callee := .builtin .append, args := #[sl, x], argTypes := #[68, 9] })
    (hs : a.eval sl = v) (hown : OwnM B w0 w v bs)
    (y : ByteArray) (hx : a.eval x = .string y) (hl : bs.length + y.size ≤ 140737488355328)
    (h : ∀ v' w', OwnM B w0 w' v' (bs ++ y.data.toList) → w.grownBy w' v.ownBlock → (∀ q, v'.ownBlock = some q → v.ownBlock = some q ∨ q = w.heap.size) → K (a.put o.dst v') w') : o.wp Tryz.prog a w K Q := by
  obtain ⟨v', w', hr, h1, h2, h3⟩ := run_append_strM o.type hown y hl
  unfold Oper.wp execOp
  simp only [ho, resolve, invoke, builtin, Sem.run_bind, Sem.run_pure, Result.andThen_ok, List.map_toArray, List.map_cons, List.map_nil, hs, hx, hr]
  exact h v' w' h1 h2 h3
/-- for a plain region -/
theorem wp_append_strM {ops : Array Oper} {rest : List Oper} {o : Oper} {a : Act} {Q : Exit → Act → World → Prop} (hgd : o.guard = none) (sl x : Operand)
    (ho : o.op = .call { callee := .builtin .append, args := #[sl, x], argTypes := #[68, 9] })
    (hs : a.eval sl = v) (hown : OwnM B w0 w v bs)
    (y : ByteArray) (hx : a.eval x = .string y) (hl : bs.length + y.size ≤ 140737488355328)
    (h : ∀ v' w', OwnM B w0 w' v' (bs ++ y.data.toList) → w.grownBy w' v.ownBlock → (∀ q, v'.ownBlock = some q → v.ownBlock = some q ∨ q = w.heap.size) → wpList Tryz.prog ops Q rest (a.put o.dst v') w') : wpList Tryz.prog ops Q (o :: rest) a w :=
  wpList_plain hgd fun _ hK => oper_append_strM sl x ho hs hown y hx hl fun v' w' h1 h2 h3 => hK _ _ (h v' w' h1 h2 h3)
/-- for a drawn region -/
theorem step_append_strM {ops : Array Oper} {o : Oper} {a : Act} {K : Act → World → Prop} {Q : Exit → Act → World → Prop} {E : Prop} (hgd : o.guard = none) (sl x : Operand)
    (ho : o.op = .call { callee := .builtin .append, args := #[sl, x], argTypes := #[68, 9] })
    (hs : a.eval sl = v) (hown : OwnM B w0 w v bs)
    (y : ByteArray) (hx : a.eval x = .string y) (hl : bs.length + y.size ≤ 140737488355328)
    (h : ∀ v' w', OwnM B w0 w' v' (bs ++ y.data.toList) → w.grownBy w' v.ownBlock → (∀ q, v'.ownBlock = some q → v.ownBlock = some q ∨ q = w.heap.size) → K (a.put o.dst v') w') :
    if Region.wanted o (yielded ops a.tmps) = true then Oper.wp Tryz.prog o a w K Q else E := by
  have hw : Region.wanted o (yielded ops a.tmps) = true := by simp [Region.wanted, hgd]
  rw [if_pos hw]
  exact oper_append_strM sl x ho hs hown y hx hl h
end
/-- the round over one event: the row of the call's own, the event's box -/
structure B23 (w wr W : World) (g : Nat) (ec : Array Value) (v : Value) (bs : List UInt8) : Prop where
  own : OwnM w.heap.size w W v bs
  e : CellsAt W g ec 37
  ne : v.ownBlock ≠ some g
  low : Below w.heap.size wr W
section
variable {w wr W W' : World} {g : Nat} {ec : Array Value} {v v' : Value} {bs bs' : List UInt8}
theorem B23.below (h : B23 w wr W g ec v bs) (hb : Below W.heap.size W W') : B23 w wr W' g ec v bs :=
  ⟨h.own.below hb, (hb.block _ h.e.lt).trans h.e, h.ne, h.low.trans (hb.mono h.own.2.2)⟩
theorem B23.app (h : B23 w wr W g ec v bs) (ho : OwnM w.heap.size w W' v' bs') (hg : W.grownBy W' v.ownBlock) (hv : ∀ q, v'.ownBlock = some q → v.ownBlock = some q ∨ q = W.heap.size) : B23 w wr W' g ec v' bs' := by
  refine ⟨ho, (hg.block _ h.e.lt (fun e => h.ne e.symm)).trans h.e, fun e => ?_, ?_⟩
  · rcases hv _ e with h1 | h1
    · exact h.ne h1
    · have := h.e.lt; omega
  · exact h.low.grown hg h.own.2.2 (fun k hk => (h.own.lt k hk).1)
end
end Go.Proofs.YtlbmfgiepcemdaaGreat
namespace Go.Proofs.YtlbmfgiepcemdaaGreat
open Go.RowKit

theorem refB_bad {F : Nat} {x : Ev} {r : List Ev} (hF : r.length < F) (h : rightE x = false) : refB F (x :: r) = none := by
  obtain ⟨F', rfl⟩ : ∃ F', F = F' + 1 := ⟨F - 1, by omega⟩
  rw [refB, if_neg (by rw [h]; simp)]
theorem refB_one {F : Nat} {x : Ev} {r : List Ev} (hF : r.length < F) (h : rightE x = true) (hg : groupedE x = false) : ∃ F', r.length ≤ F' ∧ refB F (x :: r) = (refB F' r).map (writeS x ++ ·) := by
  obtain ⟨F', rfl⟩ : ∃ F', F = F' + 1 := ⟨F - 1, by omega⟩
  exact ⟨F', by omega, by rw [refB, if_pos h, if_neg (by rw [hg]; simp)]⟩
theorem refB_gone {F : Nat} {x : Ev} {r : List Ev} (hF : r.length < F) (h : rightE x = true) (hg : groupedE x = true) (hs : refSpan x (x :: r) = none) : refB F (x :: r) = none := by
  obtain ⟨F', rfl⟩ : ∃ F', F = F' + 1 := ⟨F - 1, by omega⟩
  rw [refB, if_pos h, if_pos hg, hs]; rfl
theorem refB_more {F : Nat} {x : Ev} {r : List Ev} {k : Nat} (hF : r.length < F) (h : rightE x = true) (hg : groupedE x = true) (hs : refSpan x (x :: r) = some k) : ∃ F', (x :: r).length ≤ F' + 1 ∧ refB F (x :: r) = (refB F' ((x :: r).drop k)).map (groupB x k ++ ·) := by
  obtain ⟨F', rfl⟩ : ∃ F', F = F' + 1 := ⟨F - 1, by omega⟩
  exact ⟨F', by rw [List.length_cons]; omega, by rw [refB, if_pos h, if_pos hg, hs]; rfl⟩
theorem refSpan_pos {x : Ev} {r : List Ev} {k : Nat} (h : rightE x = true) (hg : groupedE x = true) (hs : refSpan x (x :: r) = some k) : 1 ≤ k := by
  rw [refSpan, if_pos (by rw [grouped_n h hg]; simp), if_pos ((eqE_iff _ _).2 rfl)] at hs
  cases hq : refSpan x r with
  | none => rw [hq] at hs; cases hs
  | some j =>
    rw [hq] at hs
    have : j + 1 = k := Option.some.inj hs
    omega
/-- what is known of the whole where i events are done, acc their bytes -/
def BGo (l : List Ev) (i : Nat) (acc : List UInt8) : Prop := ∃ F, l.length - i ≤ F ∧ refB l.length l = (refB F (l.drop i)).map (acc ++ ·)
theorem BGo.start (l : List Ev) : BGo l 0 [] := ⟨l.length, by omega, by
  rw [List.drop_zero]
  cases refB l.length l <;> rfl⟩
theorem drop_at {l : List Ev} {i : Nat} {x : Ev} (h : l[i]? = some x) : l.drop i = x :: l.drop (i + 1) := by
  obtain ⟨hi, e⟩ := List.getElem?_eq_some_iff.1 h
  rw [List.drop_eq_getElem_cons hi, e]
theorem BGo.bad {l : List Ev} {i : Nat} {acc : List UInt8} {x : Ev} (h : BGo l i acc) (hx : l[i]? = some x) (hr : rightE x = false) : refB l.length l = none := by
  obtain ⟨F, hF, e⟩ := h
  obtain ⟨hi, _⟩ := List.getElem?_eq_some_iff.1 hx
  rw [drop_at hx] at e
  rw [e, refB_bad (by rw [List.length_drop]; omega) hr]; rfl
theorem BGo.one {l : List Ev} {i : Nat} {acc : List UInt8} {x : Ev} (h : BGo l i acc) (hx : l[i]? = some x) (hr : rightE x = true) (hg : groupedE x = false) : BGo l (i + 1) (acc ++ writeS x) := by
  obtain ⟨F, hF, e⟩ := h
  obtain ⟨hi, _⟩ := List.getElem?_eq_some_iff.1 hx
  rw [drop_at hx] at e
  obtain ⟨F', h1, h2⟩ := refB_one (F := F) (r := l.drop (i + 1)) (by rw [List.length_drop]; omega) hr hg
  refine ⟨F', by rw [List.length_drop] at h1; omega, ?_⟩
  rw [e, h2]
  cases refB F' (l.drop (i + 1)) with
  | none => rfl
  | some b => show some (acc ++ (writeS x ++ b)) = some (acc ++ writeS x ++ b); rw [List.append_assoc]
/-- the inner loop stands at k -/
def SGo (l : List Ev) (x : Ev) (i k : Nat) : Prop := refSpan x (l.drop i) = (refSpan x (l.drop k)).map (· + (k - i))
theorem SGo.start (l : List Ev) (x : Ev) (i : Nat) : SGo l x i i := by
  unfold SGo
  cases refSpan x (l.drop i) with
  | none => rfl
  | some j => show some j = some (j + (i - i)); rw [Nat.sub_self]; rfl
theorem SGo.step {l : List Ev} {x y : Ev} {i k : Nat} (h : SGo l x i k) (hik : i ≤ k) (hy : l[k]? = some y) (hk : (y.kind == x.kind) = true) (hn : (y.n == 0) = true) (he : eqE y x = true) : SGo l x i (k + 1) := by
  unfold SGo at h ⊢
  rw [h, drop_at hy, refSpan, if_pos (by rw [hk, hn]; rfl), if_pos he]
  cases refSpan x (l.drop (k + 1)) with
  | none => rfl
  | some j => show some (j + 1 + (k - i)) = some (j + (k + 1 - i)); congr 1; omega
theorem SGo.gone {l : List Ev} {x y : Ev} {i k : Nat} (h : SGo l x i k) (hy : l[k]? = some y) (hk : (y.kind == x.kind) = true) (hn : (y.n == 0) = true) (he : eqE y x = false) : refSpan x (l.drop i) = none := by
  unfold SGo at h
  rw [h, drop_at hy, refSpan, if_pos (by rw [hk, hn]; rfl), if_neg (by rw [he]; simp)]; rfl
theorem SGo.end {l : List Ev} {x : Ev} {i k : Nat} (h : SGo l x i k) (hk : l.length ≤ k) : refSpan x (l.drop i) = some (k - i) := by
  unfold SGo at h
  rw [h, List.drop_eq_nil_of_le hk]
  show some (0 + (k - i)) = _
  rw [Nat.zero_add]
theorem SGo.stop {l : List Ev} {x y : Ev} {i k : Nat} (h : SGo l x i k) (hy : l[k]? = some y) (hc : ((y.kind == x.kind) && (y.n == 0)) = false) : refSpan x (l.drop i) = some (k - i) := by
  unfold SGo at h
  rw [h, drop_at hy, refSpan, if_neg (by rw [hc]; simp)]
  show some (0 + (k - i)) = _
  rw [Nat.zero_add]
theorem BGo.gone {l : List Ev} {i : Nat} {acc : List UInt8} {x : Ev} (h : BGo l i acc) (hx : l[i]? = some x) (hr : rightE x = true) (hg : groupedE x = true) (hs : refSpan x (l.drop i) = none) : refB l.length l = none := by
  obtain ⟨F, hF, e⟩ := h
  obtain ⟨hi, _⟩ := List.getElem?_eq_some_iff.1 hx
  rw [drop_at hx] at e hs
  rw [e, refB_gone (by rw [List.length_drop]; omega) hr hg hs]; rfl
theorem BGo.more {l : List Ev} {i k : Nat} {acc : List UInt8} {x : Ev} (h : BGo l i acc) (hx : l[i]? = some x) (hr : rightE x = true) (hg : groupedE x = true) (hik : i ≤ k) (hs : refSpan x (l.drop i) = some (k - i)) : i + 1 ≤ k ∧ BGo l k (acc ++ groupB x (k - i)) := by
  obtain ⟨F, hF, e⟩ := h
  obtain ⟨hi, _⟩ := List.getElem?_eq_some_iff.1 hx
  rw [drop_at hx] at e hs
  have hp := refSpan_pos hr hg hs
  obtain ⟨F', h1, h2⟩ := refB_more (F := F) (r := l.drop (i + 1)) (by rw [List.length_drop]; omega) hr hg hs
  have hd : (x :: l.drop (i + 1)).drop (k - i) = l.drop k := by
    rw [← drop_at hx, List.drop_drop]; congr 1; omega
  rw [hd] at h2
  refine ⟨by omega, F', by rw [List.length_cons, List.length_drop] at h1; omega, ?_⟩
  rw [e, h2]
  cases refB F' (l.drop k) with
  | none => rfl
  | some b => show some (acc ++ (groupB x (k - i) ++ b)) = some (acc ++ groupB x (k - i) ++ b); rw [List.append_assoc]
theorem BGo.done {l : List Ev} {i : Nat} {acc : List UInt8} (h : BGo l i acc) (hi : l.length ≤ i) (hl : l.length ≤ 1048576) : bytesE l = ⟨((numB l.length).data.toList ++ acc).toArray⟩ := by
  obtain ⟨F, hF, e⟩ := h
  rw [List.drop_eq_nil_of_le hi] at e
  have h0 : refB F [] = some [] := by cases F <;> rfl
  rw [h0] at e
  rw [← refB_bytes l hl, e]
  show (⟨((numB l.length).data.toList ++ (acc ++ [])).toArray⟩ : ByteArray) = _
  rw [List.append_nil]
theorem bytes_none {l : List Ev} (h : refB l.length l = none) (hl : l.length ≤ 1048576) : bytesE l = ⟨#[]⟩ := by
  rw [← refB_bytes l hl, h]
theorem not_grouped {x : Ev} (h3 : (x.kind == 3) = false) (h : ((x.kind == 2) && (x.n == 0)) = false) : groupedE x = false := by
  unfold groupedE; rw [h3, h]; rfl
theorem writeS_num {x : Ev} (h1 : x.kind ≠ 1) (h4 : x.kind ≠ 4) : writeS x = (numZ x.kind).data.toList ++ (numZ x.n).data.toList := by
  unfold writeS
  rw [if_neg (by simpa using h1), if_neg (by simpa using h4)]
theorem valuesB_list (l : List V) : (valuesB l).data.toList = (numB l.length).data.toList ++ bytesL l := rfl
theorem letterW_values (x : Ev) : letterW x = (textB x.path ++ textB x.msg ++ valuesB x.args).data.toList := by
  unfold letterW
  rw [append_toList, append_toList, append_toList (_ ++ _), append_toList, valuesB_list]
  simp only [List.append_assoc]
theorem writeS_in {x : Ev} (h : x.kind = 1) : writeS x = (numZ 1).data.toList ++ (textB x.path ++ textB x.msg ++ valuesB x.args).data.toList := by
  unfold writeS
  rw [h, if_pos (show ((1 : Int) == 1) = true from rfl), letterW_values]
theorem writeS_ans {x : Ev} (h : x.kind = 4) : writeS x = (numZ 4).data.toList ++ (textB x.path ++ textB x.msg ++ valuesB x.args).data.toList ++ (numZ x.ord ++ bytesP nodeP x.val).data.toList := by
  unfold writeS
  rw [h, if_neg (show ¬ ((4 : Int) == 1) = true by decide), if_pos (show ((4 : Int) == 4) = true from rfl), letterW_values, List.append_assoc]
theorem valuesB_size (l : List V) : (valuesB l).size ≤ 9 + 9 * bulkV l := by
  rw [← size_toList, valuesB_list, List.length_append, size_toList]
  have := numB_size l.length
  have := bytesL_len l
  omega
end Go.Proofs.YtlbmfgiepcemdaaGreat
