/- Plain laws of commands on effects: the keys stay distinct, the number changes by the kind, nothing grows beyond what came in. No program here. The reference of the net: rows of effects of the call's own, as records; the law of append for them; ref44.Find. Conditions: those in each statement. -/
import Derived.Test.YtlnfdpdancolmaaDoorYFoldFlatGuardsDistinct
import Derived.Test.YtlnfdpdancolmaaDoorYOnlyR39Q
import Derived.Test.YtlnfdpdancolmaaDoorYStep
import Derived.Deep.Upon
import Derived.Deep.AppendLies
namespace Go.Proofs.YtlnfdpdancolmaaDoor
open Go.RowKit

theorem nodup_idx {α : Type} {l : List α} : l.Nodup ↔ ∀ i j : Nat, i < j → j < l.length → l[i]? ≠ l[j]? := by
  unfold List.Nodup
  rw [List.pairwise_iff_getElem]
  constructor
  · intro h i j hij hj e
    rw [List.getElem?_eq_getElem (by omega), List.getElem?_eq_getElem hj] at e
    exact h i j (by omega) hj hij (Option.some.inj e)
  · intro h i j hi hj hij e
    refine h i j hij hj ?_
    rw [List.getElem?_eq_getElem hi, List.getElem?_eq_getElem hj, e]
def keysOf (l : List Out) : List (List UInt8) := l.map fun o => o.key.toList
theorem distinct_iff (l : List Out) : Distinct l ↔ (keysOf l).Nodup ∧ ∀ o ∈ l, o.key.toList ≠ [] := by
  unfold Distinct keysOf
  constructor
  · intro h
    refine ⟨?_, fun o ho => ?_⟩
    · rw [nodup_idx]
      intro i j hij hj
      have hj' : j < l.length := by simpa using hj
      rw [List.getElem?_map, List.getElem?_map, List.getElem?_eq_getElem (by omega), List.getElem?_eq_getElem hj']
      intro e
      have e := Option.some.inj e
      exact (h j _ (List.getElem?_eq_getElem hj')).2 i _ hij (List.getElem?_eq_getElem (by omega)) e
    · obtain ⟨i, hi⟩ := List.mem_iff_getElem?.1 ho
      exact (h i o hi).1
  · rintro ⟨h1, h2⟩ i o ho
    refine ⟨h2 o (List.mem_of_getElem? ho), fun k p hk hp e => ?_⟩
    rw [nodup_idx] at h1
    have hi : i < l.length := (List.getElem?_eq_some_iff.1 ho).1
    refine h1 k i hk (by simpa using hi) ?_
    rw [List.getElem?_map, List.getElem?_map, hp, ho]
    exact congrArg some e
theorem findI_none {l : List Out} {k : ByteArray} (h : findI l k < 0) : ∀ o ∈ l, o.key.toList ≠ k.toList := by
  intro o ho e
  unfold findI idx at h
  cases hf : l.findIdx? (hasKey k) with
  | none =>
    have := List.findIdx?_eq_none_iff.1 hf o ho
    unfold hasKey at this
    simp [e] at this
  | some i =>
    rw [hf] at h
    have h : (i : Int) < 0 := h
    omega
theorem findI_some {l : List Out} {k : ByteArray} (h : ¬ findI l k < 0) : ∃ (i : Nat) (o : Out), findI l k = (i : Int) ∧ i < l.length ∧ l[i]? = some o ∧ o.key.toList = k.toList := by
  rcases findI_cases l k with h1 | ⟨i, o, h1, h2, h3, h4⟩
  · omega
  · exact ⟨i, o, h1, h2, h3, by unfold hasKey at h4; simpa using h4⟩
theorem keys_set (l : List Out) (i : Nat) (o : Out) : keysOf (l.set i o) = (keysOf l).set i o.key.toList := by unfold keysOf; rw [List.map_set]
theorem nodup_set {α : Type} {l : List α} {i : Nat} {a : α} (h : l.Nodup) (ha : ∀ j, j ≠ i → l[j]? ≠ some a) : (l.set i a).Nodup := by
  rw [nodup_idx] at h ⊢
  intro j k hjk hk e
  have hk' : k < l.length := by simpa using hk
  rw [List.getElem?_set, List.getElem?_set] at e
  by_cases h1 : i = j
  · subst h1
    rw [if_pos rfl, if_pos (by omega), if_neg (by omega)] at e
    exact ha k (by omega) e.symm
  · rw [if_neg h1] at e
    by_cases h2 : i = k
    · subst h2
      rw [if_pos rfl, if_pos hk'] at e
      exact ha j (by omega) e
    · rw [if_neg h2] at e
      exact h j k hjk hk' e
/-- THE KEYS STAY DISTINCT -/
theorem step_distinct {l : List Out} {x : Cmd} (h : Distinct l) (he : stepE l x = 0) : Distinct (stepR l x) := by
  rw [distinct_iff] at h ⊢
  obtain ⟨h1, h2⟩ := h
  unfold stepE at he
  unfold stepR
  by_cases k2 : x.kind = 2
  · rw [if_pos k2]
    have hs : (l.eraseIdx (findI l x.of).toNat).Sublist l := List.eraseIdx_sublist _ _
    exact ⟨(hs.map _).nodup h1, fun o ho => h2 o (hs.subset ho)⟩
  · rw [if_neg k2] at he ⊢
    by_cases k3 : x.kind = 3
    · rw [if_pos k3]
      have hk : keysOf (l.modify (findI l x.of).toNat fun o => { o with part := true }) = keysOf l := by
        unfold keysOf
        apply List.ext_getElem?
        intro j
        rw [List.getElem?_map, List.getElem?_map, List.getElem?_modify]
        cases l[j]? with
        | none => simp
        | some o => by_cases hj : (findI l x.of).toNat = j <;> simp [hj]
      refine ⟨by rw [hk]; exact h1, fun o ho => ?_⟩
      have : o.key.toList ∈ keysOf l := by rw [← hk]; exact List.mem_map_of_mem ho
      obtain ⟨p, hp, e⟩ := List.mem_map.1 this
      rw [← e]; exact h2 p hp
    · rw [if_neg k3] at he ⊢
      by_cases k1 : x.kind = 1
      · rw [if_pos k1] at he ⊢
        by_cases hn : x.new.toList.isEmpty = true
        · rw [if_pos hn] at he; cases he
        · rw [if_neg hn] at he
          by_cases hf : 0 ≤ findI l x.new
          · rw [if_pos hf] at he; cases he
          · have hne := findI_none (l := l) (k := x.new) (by omega)
            have hn' : x.new.toList ≠ [] := by simpa using hn
            refine ⟨?_, fun o ho => ?_⟩
            · unfold keysOf at h1 ⊢
              rw [List.map_append, List.nodup_append]
              refine ⟨h1, by simp, fun a ha b hb e => ?_⟩
              obtain ⟨o, ho, e1⟩ := List.mem_map.1 ha
              simp [made] at hb
              exact hne o ho (by rw [e1, e, hb])
            · rcases List.mem_append.1 ho with ho | ho
              · exact h2 o ho
              · simp at ho; subst ho; exact hn'
      · rw [if_neg k1] at he ⊢
        by_cases k4 : x.kind = 4
        · rw [if_pos k4] at he
          by_cases hf : findI l x.of < 0
          · rw [if_pos hf] at he; cases he
          · rw [if_neg hf] at he
            by_cases hn : x.new.toList.isEmpty = true
            · rw [if_pos hn] at he; cases he
            · rw [if_neg hn] at he
              have hn' : x.new.toList ≠ [] := by simpa using hn
              obtain ⟨i, o, h3, h4, h5, h6⟩ := findI_some hf
              rw [h3, Int.toNat_natCast]
              refine ⟨?_, fun p hp => ?_⟩
              · rw [keys_set]
                refine nodup_set h1 fun j hj hk => ?_
                unfold keysOf at hk
                rw [List.getElem?_map] at hk
                cases hlj : l[j]? with
                | none => rw [hlj] at hk; cases hk
                | some q =>
                  rw [hlj] at hk
                  have hk : q.key.toList = x.new.toList := Option.some.inj hk
                  by_cases hno : (x.new.toList == x.of.toList) = false ∧ 0 ≤ findI l x.new
                  · rw [if_pos hno] at he; cases he
                  · by_cases hsame : (x.new.toList == x.of.toList) = false
                    · have hneg : findI l x.new < 0 := by
                        rcases Int.lt_or_le (findI l x.new) 0 with h | h
                        · exact h
                        · exact absurd ⟨hsame, h⟩ hno
                      exact findI_none hneg q (List.mem_of_getElem? hlj) hk
                    · have hsame : x.new.toList = x.of.toList := by
                        cases hb : (x.new.toList == x.of.toList) with
                        | true => simpa using hb
                        | false => exact absurd hb hsame
                      have hki : (keysOf l)[i]? = (keysOf l)[j]? := by
                        unfold keysOf
                        rw [List.getElem?_map, List.getElem?_map, h5, hlj]
                        exact congrArg some (h6.trans (hsame.symm.trans hk.symm))
                      rw [nodup_idx] at h1
                      have hjl : j < (keysOf l).length := by
                        have := (List.getElem?_eq_some_iff.1 hlj).1
                        unfold keysOf; simpa using this
                      have hil : i < (keysOf l).length := by unfold keysOf; simpa using h4
                      rcases Nat.lt_or_gt_of_ne hj with h7 | h7
                      · exact h1 j i h7 hil hki.symm
                      · exact h1 i j h7 hjl hki
              · rcases List.mem_or_eq_of_mem_set hp with hp | rfl
                · exact h2 p hp
                · exact hn'
        · rw [if_neg k4] at he; cases he
theorem step_kind {l : List Out} {x : Cmd} (he : stepE l x = 0) : (x.kind = 1 ∧ (stepR l x).length = l.length + 1) ∨ (x.kind = 2 ∧ (stepR l x).length + 1 = l.length) ∨ ((x.kind = 3 ∨ x.kind = 4) ∧ (stepR l x).length = l.length) := by
  unfold stepE at he
  unfold stepR
  by_cases k2 : x.kind = 2
  · rw [if_pos k2] at he ⊢
    by_cases hf : findI l x.of < 0
    · rw [if_pos hf] at he; cases he
    · obtain ⟨i, o, h3, h4, _⟩ := findI_some hf
      rw [h3, Int.toNat_natCast, List.length_eraseIdx_of_lt h4]
      exact .inr (.inl ⟨k2, by omega⟩)
  · rw [if_neg k2] at he ⊢
    by_cases k3 : x.kind = 3
    · rw [if_pos k3]; exact .inr (.inr ⟨.inl k3, List.length_modify ..⟩)
    · rw [if_neg k3] at he ⊢
      by_cases k1 : x.kind = 1
      · rw [if_pos k1]; exact .inl ⟨k1, by simp⟩
      · rw [if_neg k1] at he ⊢
        by_cases k4 : x.kind = 4
        · exact .inr (.inr ⟨.inr k4, List.length_set ..⟩)
        · rw [if_neg k4] at he; cases he
theorem bulkOut_append (a b : List Out) : bulkOut (a ++ b) = bulkOut a + bulkOut b := by unfold bulkOut; rw [List.map_append, List.sum_append]
theorem bulkOut_cons (a : Out) (b : List Out) : bulkOut (a :: b) = a.bulk + bulkOut b := by unfold bulkOut; rw [List.map_cons, List.sum_cons]
theorem bulkOut_sub {a b : List Out} (h : a.Sublist b) : bulkOut a ≤ bulkOut b := by
  induction h with
  | slnil => exact Nat.le_refl _
  | cons x _ ih => rw [bulkOut_cons]; omega
  | cons_cons x _ ih => rw [bulkOut_cons, bulkOut_cons]; omega
theorem bulkOut_set : ∀ (l : List Out) (i : Nat) (o : Out), bulkOut (l.set i o) ≤ bulkOut l + o.bulk
  | [], i, o => by simp [bulkOut]
  | x :: r, 0, o => by rw [List.set_cons_zero, bulkOut_cons, bulkOut_cons]; omega
  | x :: r, i + 1, o => by have := bulkOut_set r i o; rw [List.set_cons_succ, bulkOut_cons, bulkOut_cons]; omega
theorem bulkOut_modify (f : Out → Out) (hf : ∀ o, (f o).bulk = o.bulk) : ∀ (l : List Out) (i : Nat), bulkOut (l.modify i f) = bulkOut l
  | [], i => by simp
  | x :: r, 0 => by rw [List.modify_zero_cons, bulkOut_cons, bulkOut_cons, hf]
  | x :: r, i + 1 => by rw [List.modify_succ_cons, bulkOut_cons, bulkOut_cons, bulkOut_modify f hf r i]
theorem made_bulk (x : Cmd) : (made x).bulk ≤ x.bulk := by unfold made Out.bulk Cmd.bulk; simp only; omega
theorem step_bulk (l : List Out) (x : Cmd) : bulkOut (stepR l x) ≤ bulkOut l + x.bulk := by
  have hm := made_bulk x
  unfold stepR
  split
  · have := bulkOut_sub (List.eraseIdx_sublist l (findI l x.of).toNat); omega
  · split
    · rw [bulkOut_modify (fun o => { o with part := true }) (fun _ => rfl)]; omega
    · split
      · rw [bulkOut_append, bulkOut_cons]
        have : bulkOut [] = 0 := rfl
        omega
      · have := bulkOut_set l (findI l x.of).toNat (made x); omega
theorem foldS_one (l : List Out) (x : Cmd) : foldS l [x] = if stepE l x = 0 then (stepR l x, 0) else ([], stepE l x) := by
  rw [foldS, foldS]
theorem bulkCmd_take (l : List Cmd) (i : Nat) (x : Cmd) (h : l[i]? = some x) : bulkCmd (l.take i) + x.bulk ≤ bulkCmd l := by
  have hl : l = l.take i ++ (x :: l.drop (i + 1)) := take_rest h
  have : bulkCmd l = bulkCmd (l.take i) + bulkCmd (x :: l.drop (i + 1)) := by
    conv => lhs; rw [hl]
    unfold bulkCmd; rw [List.map_append, List.sum_append]
  have h2 : bulkCmd (x :: l.drop (i + 1)) = x.bulk + bulkCmd (l.drop (i + 1)) := by unfold bulkCmd; rw [List.map_cons, List.sum_cons]
  omega
theorem bulkCmd_succ (l : List Cmd) (i : Nat) (x : Cmd) (h : l[i]? = some x) : bulkCmd (l.take (i + 1)) = bulkCmd (l.take i) + x.bulk := by
  rw [List.take_add_one, h]; unfold bulkCmd; simp
end Go.Proofs.YtlnfdpdancolmaaDoor
namespace Go.Proofs.YtlnfdpdancolmaaDoor
open Go.RowKit

structure OC where
  r : Out
  A : Option Addr
  c : Nat
def OC.cells (x : OC) : List Value := [.string x.r.key, .string x.r.name, .slice x.A x.r.args.length x.c, .bool x.r.part, .int .i64 x.r.tick]
theorem OC.cells_len (x : OC) : x.cells.length = 5 := rfl
theorem OC.one (ks : List OC) : ∀ u ∈ ks.flatMap OC.cells, u.oneCell' = true := by
  intro u hu
  obtain ⟨k, _, hk⟩ := List.mem_flatMap.1 hu
  unfold OC.cells at hk
  simp at hk
  rcases hk with rfl | rfl | rfl | rfl | rfl <;> rfl
theorem OC.flat_len (ks : List OC) : (ks.flatMap OC.cells).length = ks.length * 5 := by
  induction ks with
  | nil => rfl
  | cons k r ih => rw [List.flatMap_cons, List.length_append, ih, OC.cells_len, List.length_cons]; omega
def ArgsOk (B : Nat) (w : World) (ks : List OC) : Prop := ∀ k ∈ ks, Rd (Lt B) w (vs k.r.args) (.slice k.A k.r.args.length k.c)
theorem ArgsOk.below {B B' : Nat} {w w' : World} {ks : List OC} (h : ArgsOk B w ks) (hb : Below B' w w') (hB : B ≤ B') : ArgsOk B w' ks := fun k hk => (h k hk).below hb (fun _ hb' => Nat.lt_of_lt_of_le hb' hB)
/-- a row of the call's own that reads as l -/
def RowO (B : Nat) (l : List Out) (w : World) (v : Value) : Prop := ∃ ks : List OC, w.ownsRow B 45 5 v ks.length (ks.flatMap OC.cells) ∧ ks.map OC.r = l ∧ ArgsOk B w ks
theorem outs_of_own {B : Nat} {w : World} {v : Value} {ks : List OC} (h : w.ownsRow B 45 5 v ks.length (ks.flatMap OC.cells)) (hk : ArgsOk w.heap.size w ks) : Rd (Lt w.heap.size) w (slOut (ks.map OC.r)) v := by
  rcases h.2 with ⟨rfl, h0⟩ | ⟨g, cap, cur, rfl, hB, hcur, hnc, hcm, hsz, htk⟩
  · have : ks = [] := List.eq_nil_of_length_eq_zero h0
    subst this
    exact Rd.sl_nil
  · have hgl : g < w.heap.size := (Array.getElem?_eq_some_iff.1 hcur).1
    have hl : (ks.map OC.r).length = ks.length := by simp
    unfold slOut
    rw [hl]
    refine Rd.sl_mk hnc hcm fun _ => ⟨g, 0, rfl, hgl, fun i hi => ?_⟩
    have hx : ks[i]? = some ks[i] := List.getElem?_eq_getElem hi
    generalize ks[i] = k at hx
    have hc : ∀ (j : Nat) (u : Value), j < 5 → k.cells[j]? = some u → w.cell? ⟨g, 0 + i * 5 + j, none⟩ = some u := fun j u hj hu => by
      have := h.cells (g := g) rfl (i * 5 + j) u ((flat_get OC.cells 5 OC.cells_len ks i k j hx hj).trans hu)
      rw [Addr.add_lit] at this
      rw [show 0 + i * 5 + j = 0 + (i * 5 + j) by omega]; exact this
    rw [rowsOut_get (x := k.r) (by rw [List.getElem?_map, hx]; rfl)]
    exact row_of_OutAt (A2 := k.A) (c2 := k.c) ⟨hc 0 _ (by omega) rfl, hc 1 _ (by omega) rfl, hc 2 _ (by omega) rfl, hc 3 _ (by omega) rfl, hc 4 _ (by omega) rfl, hk k (List.mem_of_getElem? hx)⟩
theorem RowO.rd {B : Nat} {l : List Out} {w : World} {v : Value} (h : RowO B l w v) (hB : B ≤ w.heap.size) : Rd (Lt w.heap.size) w (slOut l) v := by
  obtain ⟨ks, h1, h2, h3⟩ := h
  rw [← h2]
  exact outs_of_own h1 (fun k hk => (h3 k hk).weaken (fun b hb => Nat.lt_of_lt_of_le hb hB))
theorem RowO.below {B : Nat} {l : List Out} {w w' : World} {v : Value} (h : RowO B l w v) (hb : Below w.heap.size w w') (hB : B ≤ w.heap.size) : RowO B l w' v := by
  obtain ⟨ks, h1, h2, h3⟩ := h
  exact ⟨ks, own_below h1 hb, h2, h3.below hb hB⟩
/-- the cells of a slice that reads as l -/
def SrcAt (w : World) (A : Option Addr) (ks : List OC) : Prop := 0 < ks.length → ∃ b off, A = some ⟨b, off, none⟩ ∧ ∀ (j : Nat) (u : Value), (ks.flatMap OC.cells)[j]? = some u → w.cell? ⟨b, off + j, none⟩ = some u
theorem flat_split {ks : List OC} {j : Nat} {u : Value} (h : (ks.flatMap OC.cells)[j]? = some u) : ∃ k, ks[j / 5]? = some k ∧ k.cells[j % 5]? = some u := by
  have hj : j < ks.length * 5 := by
    have := (List.getElem?_eq_some_iff.1 h).1
    rw [OC.flat_len] at this; exact this
  have hd : j / 5 < ks.length := by omega
  refine ⟨ks[j / 5], List.getElem?_eq_getElem hd, ?_⟩
  have := flat_get OC.cells 5 OC.cells_len ks (j / 5) _ (j % 5) (List.getElem?_eq_getElem hd) (by omega)
  rw [← this, show j / 5 * 5 + j % 5 = j by omega]; exact h
theorem ocs_exist {ok : Nat → Prop} {w : World} {b off : Nat} : ∀ (l : List Out), (∀ i, i < l.length → RdRow ok w b (off + i * 5) 5 (rowsOut l i)) → ∃ ks : List OC, ks.map OC.r = l ∧ ∀ (i : Nat) (k : OC), ks[i]? = some k → OutAt ok w b (off + i * 5) k.r k.A k.c := by
  intro l
  have : ∀ n, n ≤ l.length → (∀ i, i < l.length → RdRow ok w b (off + i * 5) 5 (rowsOut l i)) → ∃ ks : List OC, ks.map OC.r = l.take n ∧ ∀ (i : Nat) (k : OC), ks[i]? = some k → OutAt ok w b (off + i * 5) k.r k.A k.c := by
    intro n
    induction n with
    | zero => intro _ _; exact ⟨[], by simp, fun i k h => by simp at h⟩
    | succ n ih =>
      intro hn h
      obtain ⟨ks, h1, h2⟩ := ih (by omega) h
      have hx : l[n]? = some l[n] := List.getElem?_eq_getElem (by omega)
      have hr := h n (by omega)
      rw [rowsOut_get hx] at hr
      obtain ⟨A2, c2, hat⟩ := OutAt_of_row hr
      have hl : ks.length = n := by have := congrArg List.length h1; simp at this; omega
      refine ⟨ks ++ [⟨l[n], A2, c2⟩], by rw [List.map_append, h1, List.take_add_one, hx]; rfl, fun i k hk => ?_⟩
      rcases Nat.lt_or_ge i n with hi | hi
      · rw [List.getElem?_append_left (by omega)] at hk; exact h2 i k hk
      · rw [List.getElem?_append_right (by omega), hl] at hk
        have : i = n := by
          rcases Nat.lt_or_ge (i - n) 1 with h3 | h3
          · omega
          · rw [List.getElem?_eq_none (by simpa using h3)] at hk; cases hk
        subst this
        simp at hk
        subst hk
        exact hat
  intro h
  have := this l.length (Nat.le_refl _) h
  rwa [List.take_length] at this
theorem ocs_of_rd {B : Nat} {w : World} {l : List Out} {A : Option Addr} {n c : Nat} (h : Rd (Lt B) w (slOut l) (.slice A n c)) : ∃ ks : List OC, ks.map OC.r = l ∧ ArgsOk B w ks ∧ SrcAt w A ks := by
  obtain ⟨A', c', e, h1, h2, h3⟩ := h.sl_inv
  injection e with e1 e2 e3
  subst e1 e2 e3
  by_cases h0 : 0 < l.length
  · obtain ⟨b, off, rfl, hb, hr⟩ := h3 h0
    obtain ⟨ks, k1, k2⟩ := ocs_exist l hr
    refine ⟨ks, k1, fun k hk => ?_, fun _ => ⟨b, off, rfl, fun j u hu => ?_⟩⟩
    · obtain ⟨i, hi⟩ := List.mem_iff_getElem?.1 hk
      exact (k2 i k hi).2.2.2.2.2
    · obtain ⟨k, hk, hu⟩ := flat_split hu
      obtain ⟨q0, q1, q2, q3, q4, _⟩ := k2 _ k hk
      have hm : j % 5 < 5 := Nat.mod_lt _ (by omega)
      have hj : off + j = off + j / 5 * 5 + j % 5 := by omega
      rw [hj]
      generalize j % 5 = m at hu hm
      unfold OC.cells at hu
      match m, hm with
      | 0, _ => rw [Nat.add_zero]; rw [q0]; exact hu
      | 1, _ => rw [q1]; exact hu
      | 2, _ => rw [q2]; exact hu
      | 3, _ => rw [q3]; exact hu
      | 4, _ => rw [q4]; exact hu
  · have : l = [] := List.eq_nil_of_length_eq_zero (by omega)
    subst this
    exact ⟨[], rfl, fun k hk => by simp at hk, fun h => by simp at h⟩
theorem SrcAt.below {w w' : World} {B : Nat} {A : Option Addr} {ks : List OC} (h : SrcAt w A ks) (hb : Below B w w') (hA : ∀ p, A = some p → 0 < ks.length → p.block < B) : SrcAt w' A ks := fun h0 => by
  obtain ⟨b, off, rfl, hc⟩ := h h0
  exact ⟨b, off, rfl, fun j u hu => (hb.cell (p := ⟨b, off + j, none⟩) (hA ⟨b, off, none⟩ rfl h0)).trans (hc j u hu)⟩
theorem grown_refl (w : World) (r : Option Nat) : w.grownBy w r := ⟨rfl, rfl, rfl, Nat.le_refl _, fun _ _ _ => rfl⟩
/-- APPEND OF EFFECTS ONTO A ROW OF THE CALL's OWN -/
theorem wp_append_oc {w : World} {ops : Array Oper} {rest : List Oper} {o : Oper} {a : Act} {Q : Exit → Act → World → Prop} (hgd : o.guard = none) (s x : Operand)
    (ho : o.op = .call { callee := .builtin .append, args := #[s, x], argTypes := #[22, 22] })
    (B : Nat) (hB : B ≤ w.heap.size) (v : Value) (ks : List OC) (hs : a.eval s = v) (hown : w.ownsRow B 45 5 v ks.length (ks.flatMap OC.cells))
    (A : Option Addr) (m c : Nat) (ns : List OC) (hm : ns.length = m) (hx : a.eval x = .slice A m c) (hsrc : SrcAt w A ns) (hmx : ks.length + m ≤ 4194304)
    (h : ∀ v' w', w'.ownsRow B 45 5 v' (ks ++ ns).length ((ks ++ ns).flatMap OC.cells) → w.grownBy w' v.ownBlock → wpList Tryd.prog ops Q rest (a.put o.dst v') w') : wpList Tryd.prog ops Q (o :: rest) a w := by
  obtain ⟨i0, hi0, hz0, hz1, hz2⟩ := info_parts infoOut
  by_cases h0 : m = 0
  · subst h0
    obtain rfl : ns = [] := List.eq_nil_of_length_eq_zero hm
    have hsr : Src Tryd.prog i0.size 22 (.slice A 0 c) 0 [] w := by
      cases A with
      | none => exact Src.ofNil w Tryd.underlying22 c
      | some p => exact Src.ofSlice w Tryd.underlying22 p 0 c [] (by simp) (fun j u hu => by simp at hu) (fun u hu => by simp at hu)
    have hv : ∃ b n c', v = .slice b n c' ∧ n ≤ c' := by
      rcases hown.2 with ⟨rfl, _⟩ | ⟨g, cap, cur, rfl, _, _, hnc, _⟩
      · exact ⟨_, _, _, rfl, by omega⟩
      · exact ⟨_, _, _, rfl, hnc⟩
    obtain ⟨b, n, c', rfl, hnc⟩ := hv
    have hrun := run_append_nothing (P := Tryd.prog) w 22 22 o.type 45 i0 Tryd.underlying22 hi0 b n c' hnc _ hsr
    refine wpList_plain hgd fun K hK => ?_
    unfold Oper.wp
    simp [execOp, ho, resolve, invoke, builtin, hs, hx, hrun, Result.andThen]
    exact hK _ _ (h _ w (by rw [List.append_nil]; exact hown) (grown_refl _ _))
  · obtain ⟨b, off, rfl, hc⟩ := hsrc (by omega)
    refine wpList_append_lies w hgd s x 22 ho B 45 i0 _ 5 72 Tryd.underlying22 hi0 hz0 hz1 hz2 rfl (by omega) v ks.length (ks.flatMap OC.cells) hs hown ⟨b, off, none⟩ m c (ns.flatMap OC.cells) hx (by rw [OC.flat_len, hm]) (fun j u hu => by rw [Addr.add_lit]; exact hc j u hu) (OC.one ns) (by omega) (by unfold maxLen; omega) (by omega) hB w.heap.size rfl ?_
    intro g cap w' h2 h3 _ _
    exact h _ w' (by rw [List.length_append, hm, List.flatMap_append]; exact h2) h3
end Go.Proofs.YtlnfdpdancolmaaDoor
