/- The reference of the net: rows of effects of the call's own, as records; the law of append for them; ref44.Find. Conditions: those in each statement. -/
import Derived.Test.YtlnfdpdancolmaaDoorOnly
import Derived.Test.YtlnfdpdancolmaaDoorStep
import Derived.Test.YtlnfdpdancolmaaDoorPlainN
import Derived.Deep.Upon
import Derived.Deep.AppendLies
namespace Go.Proofs.YtlnfdpdancolmaaDoor
open Go.RowKit

structure OC where
  r : Out
  A : Option Addr
  c : Nat
def OC.cells (x : OC) : List Value := [.string x.r.key, .string x.r.name, .slice x.A x.r.args.length x.c, .bool x.r.part, .int .i64 x.r.tick]
theorem OC.cells_len (x : OC) : x.cells.length = 5 := rfl
theorem OC.one (ks : List OC) : ∀ u ∈ ks.flatMap OC.cells, u.oneCell' = true := by
  intro u hu
  obtain ⟨k, _, hk⟩ := List.mem_flatMap.1 hu
  unfold OC.cells at hk
  simp at hk
  rcases hk with rfl | rfl | rfl | rfl | rfl <;> rfl
theorem OC.flat_len (ks : List OC) : (ks.flatMap OC.cells).length = ks.length * 5 := by
  induction ks with
  | nil => rfl
  | cons k r ih => rw [List.flatMap_cons, List.length_append, ih, OC.cells_len, List.length_cons]; omega
def ArgsOk (B : Nat) (w : World) (ks : List OC) : Prop := ∀ k ∈ ks, Rd (Lt B) w (vs k.r.args) (.slice k.A k.r.args.length k.c)
theorem ArgsOk.below {B B' : Nat} {w w' : World} {ks : List OC} (h : ArgsOk B w ks) (hb : Below B' w w') (hB : B ≤ B') : ArgsOk B w' ks := fun k hk => (h k hk).below hb (fun _ hb' => Nat.lt_of_lt_of_le hb' hB)
/-- a row of the call's own that reads as l -/
def RowO (B : Nat) (l : List Out) (w : World) (v : Value) : Prop := ∃ ks : List OC, w.ownsRow B 45 5 v ks.length (ks.flatMap OC.cells) ∧ ks.map OC.r = l ∧ ArgsOk B w ks
theorem outs_of_own {B : Nat} {w : World} {v : Value} {ks : List OC} (h : w.ownsRow B 45 5 v ks.length (ks.flatMap OC.cells)) (hk : ArgsOk w.heap.size w ks) : Rd (Lt w.heap.size) w (slOut (ks.map OC.r)) v := by
  rcases h.2 with ⟨rfl, h0⟩ | ⟨g, cap, cur, rfl, hB, hcur, hnc, hcm, hsz, htk⟩
  · have : ks = [] := List.eq_nil_of_length_eq_zero h0
    subst this
    exact Rd.sl_nil
  · have hgl : g < w.heap.size := (Array.getElem?_eq_some_iff.1 hcur).1
    have hl : (ks.map OC.r).length = ks.length := by simp
    unfold slOut
    rw [hl]
    refine Rd.sl_mk hnc hcm fun _ => ⟨g, 0, rfl, hgl, fun i hi => ?_⟩
    have hx : ks[i]? = some ks[i] := List.getElem?_eq_getElem hi
    generalize ks[i] = k at hx
    have hc : ∀ (j : Nat) (u : Value), j < 5 → k.cells[j]? = some u → w.cell? ⟨g, 0 + i * 5 + j, none⟩ = some u := fun j u hj hu => by
      have := h.cells (g := g) rfl (i * 5 + j) u ((flat_get OC.cells 5 OC.cells_len ks i k j hx hj).trans hu)
      rw [Addr.add_lit] at this
      rw [show 0 + i * 5 + j = 0 + (i * 5 + j) by omega]; exact this
    rw [rowsOut_get (x := k.r) (by rw [List.getElem?_map, hx]; rfl)]
    exact row_of_OutAt (A2 := k.A) (c2 := k.c) ⟨hc 0 _ (by omega) rfl, hc 1 _ (by omega) rfl, hc 2 _ (by omega) rfl, hc 3 _ (by omega) rfl, hc 4 _ (by omega) rfl, hk k (List.mem_of_getElem? hx)⟩
theorem RowO.rd {B : Nat} {l : List Out} {w : World} {v : Value} (h : RowO B l w v) (hB : B ≤ w.heap.size) : Rd (Lt w.heap.size) w (slOut l) v := by
  obtain ⟨ks, h1, h2, h3⟩ := h
  rw [← h2]
  exact outs_of_own h1 (fun k hk => (h3 k hk).weaken (fun b hb => Nat.lt_of_lt_of_le hb hB))
theorem RowO.below {B : Nat} {l : List Out} {w w' : World} {v : Value} (h : RowO B l w v) (hb : Below w.heap.size w w') (hB : B ≤ w.heap.size) : RowO B l w' v := by
  obtain ⟨ks, h1, h2, h3⟩ := h
  exact ⟨ks, own_below h1 hb, h2, h3.below hb hB⟩
/-- the cells of a slice that reads as l -/
def SrcAt (w : World) (A : Option Addr) (ks : List OC) : Prop := 0 < ks.length → ∃ b off, A = some ⟨b, off, none⟩ ∧ ∀ (j : Nat) (u : Value), (ks.flatMap OC.cells)[j]? = some u → w.cell? ⟨b, off + j, none⟩ = some u
theorem flat_split {ks : List OC} {j : Nat} {u : Value} (h : (ks.flatMap OC.cells)[j]? = some u) : ∃ k, ks[j / 5]? = some k ∧ k.cells[j % 5]? = some u := by
  have hj : j < ks.length * 5 := by
    have := (List.getElem?_eq_some_iff.1 h).1
    rw [OC.flat_len] at this; exact this
  have hd : j / 5 < ks.length := by omega
  refine ⟨ks[j / 5], List.getElem?_eq_getElem hd, ?_⟩
  have := flat_get OC.cells 5 OC.cells_len ks (j / 5) _ (j % 5) (List.getElem?_eq_getElem hd) (by omega)
  rw [← this, show j / 5 * 5 + j % 5 = j by omega]; exact h
theorem ocs_exist {ok : Nat → Prop} {w : World} {b off : Nat} : ∀ (l : List Out), (∀ i, i < l.length → RdRow ok w b (off + i * 5) 5 (rowsOut l i)) → ∃ ks : List OC, ks.map OC.r = l ∧ ∀ (i : Nat) (k : OC), ks[i]? = some k → OutAt ok w b (off + i * 5) k.r k.A k.c := by
  intro l
  have : ∀ n, n ≤ l.length → (∀ i, i < l.length → RdRow ok w b (off + i * 5) 5 (rowsOut l i)) → ∃ ks : List OC, ks.map OC.r = l.take n ∧ ∀ (i : Nat) (k : OC), ks[i]? = some k → OutAt ok w b (off + i * 5) k.r k.A k.c := by
    intro n
    induction n with
    | zero => intro _ _; exact ⟨[], by simp, fun i k h => by simp at h⟩
    | succ n ih =>
      intro hn h
      obtain ⟨ks, h1, h2⟩ := ih (by omega) h
      have hx : l[n]? = some l[n] := List.getElem?_eq_getElem (by omega)
      have hr := h n (by omega)
      rw [rowsOut_get hx] at hr
      obtain ⟨A2, c2, hat⟩ := OutAt_of_row hr
      have hl : ks.length = n := by have := congrArg List.length h1; simp at this; omega
      refine ⟨ks ++ [⟨l[n], A2, c2⟩], by rw [List.map_append, h1, List.take_add_one, hx]; rfl, fun i k hk => ?_⟩
      rcases Nat.lt_or_ge i n with hi | hi
      · rw [List.getElem?_append_left (by omega)] at hk; exact h2 i k hk
      · rw [List.getElem?_append_right (by omega), hl] at hk
        have : i = n := by
          rcases Nat.lt_or_ge (i - n) 1 with h3 | h3
          · omega
          · rw [List.getElem?_eq_none (by simpa using h3)] at hk; cases hk
        subst this
        simp at hk
        subst hk
        exact hat
  intro h
  have := this l.length (Nat.le_refl _) h
  rwa [List.take_length] at this
theorem ocs_of_rd {B : Nat} {w : World} {l : List Out} {A : Option Addr} {n c : Nat} (h : Rd (Lt B) w (slOut l) (.slice A n c)) : ∃ ks : List OC, ks.map OC.r = l ∧ ArgsOk B w ks ∧ SrcAt w A ks := by
  obtain ⟨A', c', e, h1, h2, h3⟩ := h.sl_inv
  injection e with e1 e2 e3
  subst e1 e2 e3
  by_cases h0 : 0 < l.length
  · obtain ⟨b, off, rfl, hb, hr⟩ := h3 h0
    obtain ⟨ks, k1, k2⟩ := ocs_exist l hr
    refine ⟨ks, k1, fun k hk => ?_, fun _ => ⟨b, off, rfl, fun j u hu => ?_⟩⟩
    · obtain ⟨i, hi⟩ := List.mem_iff_getElem?.1 hk
      exact (k2 i k hi).2.2.2.2.2
    · obtain ⟨k, hk, hu⟩ := flat_split hu
      obtain ⟨q0, q1, q2, q3, q4, _⟩ := k2 _ k hk
      have hm : j % 5 < 5 := Nat.mod_lt _ (by omega)
      have hj : off + j = off + j / 5 * 5 + j % 5 := by omega
      rw [hj]
      generalize j % 5 = m at hu hm
      unfold OC.cells at hu
      match m, hm with
      | 0, _ => rw [Nat.add_zero]; rw [q0]; exact hu
      | 1, _ => rw [q1]; exact hu
      | 2, _ => rw [q2]; exact hu
      | 3, _ => rw [q3]; exact hu
      | 4, _ => rw [q4]; exact hu
  · have : l = [] := List.eq_nil_of_length_eq_zero (by omega)
    subst this
    exact ⟨[], rfl, fun k hk => by simp at hk, fun h => by simp at h⟩
theorem SrcAt.below {w w' : World} {B : Nat} {A : Option Addr} {ks : List OC} (h : SrcAt w A ks) (hb : Below B w w') (hA : ∀ p, A = some p → 0 < ks.length → p.block < B) : SrcAt w' A ks := fun h0 => by
  obtain ⟨b, off, rfl, hc⟩ := h h0
  exact ⟨b, off, rfl, fun j u hu => (hb.cell (p := ⟨b, off + j, none⟩) (hA ⟨b, off, none⟩ rfl h0)).trans (hc j u hu)⟩
theorem grown_refl (w : World) (r : Option Nat) : w.grownBy w r := ⟨rfl, rfl, rfl, Nat.le_refl _, fun _ _ _ => rfl⟩
/-- APPEND OF EFFECTS ONTO A ROW OF THE CALL's OWN -/
theorem wp_append_oc {w : World} {ops : Array Oper} {rest : List Oper} {o : Oper} {a : Act} {Q : Exit → Act → World → Prop} (hgd : o.guard = none) (s x : Operand)
    (ho : o.op = .call { callee := .builtin .append, args := #[s, x], argTypes := #[22, 22] })
    (B : Nat) (hB : B ≤ w.heap.size) (v : Value) (ks : List OC) (hs : a.eval s = v) (hown : w.ownsRow B 45 5 v ks.length (ks.flatMap OC.cells))
    (A : Option Addr) (m c : Nat) (ns : List OC) (hm : ns.length = m) (hx : a.eval x = .slice A m c) (hsrc : SrcAt w A ns) (hmx : ks.length + m ≤ 4194304)
    (h : ∀ v' w', w'.ownsRow B 45 5 v' (ks ++ ns).length ((ks ++ ns).flatMap OC.cells) → w.grownBy w' v.ownBlock → wpList Tryd.prog ops Q rest (a.put o.dst v') w') : wpList Tryd.prog ops Q (o :: rest) a w := by
  obtain ⟨i0, hi0, hz0, hz1, hz2⟩ := info_parts infoOut
  by_cases h0 : m = 0
  · subst h0
    obtain rfl : ns = [] := List.eq_nil_of_length_eq_zero hm
    have hsr : Src Tryd.prog i0.size 22 (.slice A 0 c) 0 [] w := by
      cases A with
      | none => exact Src.ofNil w Tryd.underlying22 c
      | some p => exact Src.ofSlice w Tryd.underlying22 p 0 c [] (by simp) (fun j u hu => by simp at hu) (fun u hu => by simp at hu)
    have hv : ∃ b n c', v = .slice b n c' ∧ n ≤ c' := by
      rcases hown.2 with ⟨rfl, _⟩ | ⟨g, cap, cur, rfl, _, _, hnc, _⟩
      · exact ⟨_, _, _, rfl, by omega⟩
      · exact ⟨_, _, _, rfl, hnc⟩
    obtain ⟨b, n, c', rfl, hnc⟩ := hv
    have hrun := run_append_nothing (P := Tryd.prog) w 22 22 o.type 45 i0 Tryd.underlying22 hi0 b n c' hnc _ hsr
    refine wpList_plain hgd fun K hK => ?_
    unfold Oper.wp
    simp [execOp, ho, resolve, invoke, builtin, hs, hx, hrun, Result.andThen]
    exact hK _ _ (h _ w (by rw [List.append_nil]; exact hown) (grown_refl _ _))
  · obtain ⟨b, off, rfl, hc⟩ := hsrc (by omega)
    refine wpList_append_lies w hgd s x 22 ho B 45 i0 _ 5 72 Tryd.underlying22 hi0 hz0 hz1 hz2 rfl (by omega) v ks.length (ks.flatMap OC.cells) hs hown ⟨b, off, none⟩ m c (ns.flatMap OC.cells) hx (by rw [OC.flat_len, hm]) (fun j u hu => by rw [Addr.add_lit]; exact hc j u hu) (OC.one ns) (by omega) (by unfold maxLen; omega) (by omega) hB w.heap.size rfl ?_
    intro g cap w' h2 h3 _ _
    exact h _ w' (by rw [List.length_append, hm, List.flatMap_append]; exact h2) h3
end Go.Proofs.YtlnfdpdancolmaaDoor
