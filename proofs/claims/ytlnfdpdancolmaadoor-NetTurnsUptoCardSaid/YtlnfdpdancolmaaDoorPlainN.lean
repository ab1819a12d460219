/- Plain laws of commands on effects: the keys stay distinct, the number changes by the kind, nothing grows beyond what came in. No program here. -/
import Derived.Test.YtlnfdpdancolmaaDoorFold
import Derived.Test.YtlnfdpdancolmaaDoorDistinct
namespace Go.Proofs.YtlnfdpdancolmaaDoor
open Go.RowKit

theorem nodup_idx {α : Type} {l : List α} : l.Nodup ↔ ∀ i j : Nat, i < j → j < l.length → l[i]? ≠ l[j]? := by
  unfold List.Nodup
  rw [List.pairwise_iff_getElem]
  constructor
  · intro h i j hij hj e
    rw [List.getElem?_eq_getElem (by omega), List.getElem?_eq_getElem hj] at e
    exact h i j (by omega) hj hij (Option.some.inj e)
  · intro h i j hi hj hij e
    refine h i j hij hj ?_
    rw [List.getElem?_eq_getElem hi, List.getElem?_eq_getElem hj, e]
def keysOf (l : List Out) : List (List UInt8) := l.map fun o => o.key.toList
theorem distinct_iff (l : List Out) : Distinct l ↔ (keysOf l).Nodup ∧ ∀ o ∈ l, o.key.toList ≠ [] := by
  unfold Distinct keysOf
  constructor
  · intro h
    refine ⟨?_, fun o ho => ?_⟩
    · rw [nodup_idx]
      intro i j hij hj
      have hj' : j < l.length := by simpa using hj
      rw [List.getElem?_map, List.getElem?_map, List.getElem?_eq_getElem (by omega), List.getElem?_eq_getElem hj']
      intro e
      have e := Option.some.inj e
      exact (h j _ (List.getElem?_eq_getElem hj')).2 i _ hij (List.getElem?_eq_getElem (by omega)) e
    · obtain ⟨i, hi⟩ := List.mem_iff_getElem?.1 ho
      exact (h i o hi).1
  · rintro ⟨h1, h2⟩ i o ho
    refine ⟨h2 o (List.mem_of_getElem? ho), fun k p hk hp e => ?_⟩
    rw [nodup_idx] at h1
    have hi : i < l.length := (List.getElem?_eq_some_iff.1 ho).1
    refine h1 k i hk (by simpa using hi) ?_
    rw [List.getElem?_map, List.getElem?_map, hp, ho]
    exact congrArg some e
theorem findI_none {l : List Out} {k : ByteArray} (h : findI l k < 0) : ∀ o ∈ l, o.key.toList ≠ k.toList := by
  intro o ho e
  unfold findI idx at h
  cases hf : l.findIdx? (hasKey k) with
  | none =>
    have := List.findIdx?_eq_none_iff.1 hf o ho
    unfold hasKey at this
    simp [e] at this
  | some i =>
    rw [hf] at h
    have h : (i : Int) < 0 := h
    omega
theorem findI_some {l : List Out} {k : ByteArray} (h : ¬ findI l k < 0) : ∃ (i : Nat) (o : Out), findI l k = (i : Int) ∧ i < l.length ∧ l[i]? = some o ∧ o.key.toList = k.toList := by
  rcases findI_cases l k with h1 | ⟨i, o, h1, h2, h3, h4⟩
  · omega
  · exact ⟨i, o, h1, h2, h3, by unfold hasKey at h4; simpa using h4⟩
theorem keys_set (l : List Out) (i : Nat) (o : Out) : keysOf (l.set i o) = (keysOf l).set i o.key.toList := by unfold keysOf; rw [List.map_set]
theorem nodup_set {α : Type} {l : List α} {i : Nat} {a : α} (h : l.Nodup) (ha : ∀ j, j ≠ i → l[j]? ≠ some a) : (l.set i a).Nodup := by
  rw [nodup_idx] at h ⊢
  intro j k hjk hk e
  have hk' : k < l.length := by simpa using hk
  rw [List.getElem?_set, List.getElem?_set] at e
  by_cases h1 : i = j
  · subst h1
    rw [if_pos rfl, if_pos (by omega), if_neg (by omega)] at e
    exact ha k (by omega) e.symm
  · rw [if_neg h1] at e
    by_cases h2 : i = k
    · subst h2
      rw [if_pos rfl, if_pos hk'] at e
      exact ha j (by omega) e
    · rw [if_neg h2] at e
      exact h j k hjk hk' e
/-- THE KEYS STAY DISTINCT -/
theorem step_distinct {l : List Out} {x : Cmd} (h : Distinct l) (he : stepE l x = 0) : Distinct (stepR l x) := by
  rw [distinct_iff] at h ⊢
  obtain ⟨h1, h2⟩ := h
  unfold stepE at he
  unfold stepR
  by_cases k2 : x.kind = 2
  · rw [if_pos k2]
    have hs : (l.eraseIdx (findI l x.of).toNat).Sublist l := List.eraseIdx_sublist _ _
    exact ⟨(hs.map _).nodup h1, fun o ho => h2 o (hs.subset ho)⟩
  · rw [if_neg k2] at he ⊢
    by_cases k3 : x.kind = 3
    · rw [if_pos k3]
      have hk : keysOf (l.modify (findI l x.of).toNat fun o => { o with part := true }) = keysOf l := by
        unfold keysOf
        apply List.ext_getElem?
        intro j
        rw [List.getElem?_map, List.getElem?_map, List.getElem?_modify]
        cases l[j]? with
        | none => simp
        | some o => by_cases hj : (findI l x.of).toNat = j <;> simp [hj]
      refine ⟨by rw [hk]; exact h1, fun o ho => ?_⟩
      have : o.key.toList ∈ keysOf l := by rw [← hk]; exact List.mem_map_of_mem ho
      obtain ⟨p, hp, e⟩ := List.mem_map.1 this
      rw [← e]; exact h2 p hp
    · rw [if_neg k3] at he ⊢
      by_cases k1 : x.kind = 1
      · rw [if_pos k1] at he ⊢
        by_cases hn : x.new.toList.isEmpty = true
        · rw [if_pos hn] at he; cases he
        · rw [if_neg hn] at he
          by_cases hf : 0 ≤ findI l x.new
          · rw [if_pos hf] at he; cases he
          · have hne := findI_none (l := l) (k := x.new) (by omega)
            have hn' : x.new.toList ≠ [] := by simpa using hn
            refine ⟨?_, fun o ho => ?_⟩
            · unfold keysOf at h1 ⊢
              rw [List.map_append, List.nodup_append]
              refine ⟨h1, by simp, fun a ha b hb e => ?_⟩
              obtain ⟨o, ho, e1⟩ := List.mem_map.1 ha
              simp [made] at hb
              exact hne o ho (by rw [e1, e, hb])
            · rcases List.mem_append.1 ho with ho | ho
              · exact h2 o ho
              · simp at ho; subst ho; exact hn'
      · rw [if_neg k1] at he ⊢
        by_cases k4 : x.kind = 4
        · rw [if_pos k4] at he
          by_cases hf : findI l x.of < 0
          · rw [if_pos hf] at he; cases he
          · rw [if_neg hf] at he
            by_cases hn : x.new.toList.isEmpty = true
            · rw [if_pos hn] at he; cases he
            · rw [if_neg hn] at he
              have hn' : x.new.toList ≠ [] := by simpa using hn
              obtain ⟨i, o, h3, h4, h5, h6⟩ := findI_some hf
              rw [h3, Int.toNat_natCast]
              refine ⟨?_, fun p hp => ?_⟩
              · rw [keys_set]
                refine nodup_set h1 fun j hj hk => ?_
                unfold keysOf at hk
                rw [List.getElem?_map] at hk
                cases hlj : l[j]? with
                | none => rw [hlj] at hk; cases hk
                | some q =>
                  rw [hlj] at hk
                  have hk : q.key.toList = x.new.toList := Option.some.inj hk
                  by_cases hno : (x.new.toList == x.of.toList) = false ∧ 0 ≤ findI l x.new
                  · rw [if_pos hno] at he; cases he
                  · by_cases hsame : (x.new.toList == x.of.toList) = false
                    · have hneg : findI l x.new < 0 := by
                        rcases Int.lt_or_le (findI l x.new) 0 with h | h
                        · exact h
                        · exact absurd ⟨hsame, h⟩ hno
                      exact findI_none hneg q (List.mem_of_getElem? hlj) hk
                    · have hsame : x.new.toList = x.of.toList := by
                        cases hb : (x.new.toList == x.of.toList) with
                        | true => simpa using hb
                        | false => exact absurd hb hsame
                      have hki : (keysOf l)[i]? = (keysOf l)[j]? := by
                        unfold keysOf
                        rw [List.getElem?_map, List.getElem?_map, h5, hlj]
                        exact congrArg some (h6.trans (hsame.symm.trans hk.symm))
                      rw [nodup_idx] at h1
                      have hjl : j < (keysOf l).length := by
                        have := (List.getElem?_eq_some_iff.1 hlj).1
                        unfold keysOf; simpa using this
                      have hil : i < (keysOf l).length := by unfold keysOf; simpa using h4
                      rcases Nat.lt_or_gt_of_ne hj with h7 | h7
                      · exact h1 j i h7 hil hki.symm
                      · exact h1 i j h7 hjl hki
              · rcases List.mem_or_eq_of_mem_set hp with hp | rfl
                · exact h2 p hp
                · exact hn'
        · rw [if_neg k4] at he; cases he
theorem step_kind {l : List Out} {x : Cmd} (he : stepE l x = 0) : (x.kind = 1 ∧ (stepR l x).length = l.length + 1) ∨ (x.kind = 2 ∧ (stepR l x).length + 1 = l.length) ∨ ((x.kind = 3 ∨ x.kind = 4) ∧ (stepR l x).length = l.length) := by
  unfold stepE at he
  unfold stepR
  by_cases k2 : x.kind = 2
  · rw [if_pos k2] at he ⊢
    by_cases hf : findI l x.of < 0
    · rw [if_pos hf] at he; cases he
    · obtain ⟨i, o, h3, h4, _⟩ := findI_some hf
      rw [h3, Int.toNat_natCast, List.length_eraseIdx_of_lt h4]
      exact .inr (.inl ⟨k2, by omega⟩)
  · rw [if_neg k2] at he ⊢
    by_cases k3 : x.kind = 3
    · rw [if_pos k3]; exact .inr (.inr ⟨.inl k3, List.length_modify ..⟩)
    · rw [if_neg k3] at he ⊢
      by_cases k1 : x.kind = 1
      · rw [if_pos k1]; exact .inl ⟨k1, by simp⟩
      · rw [if_neg k1] at he ⊢
        by_cases k4 : x.kind = 4
        · exact .inr (.inr ⟨.inr k4, List.length_set ..⟩)
        · rw [if_neg k4] at he; cases he
theorem bulkOut_append (a b : List Out) : bulkOut (a ++ b) = bulkOut a + bulkOut b := by unfold bulkOut; rw [List.map_append, List.sum_append]
theorem bulkOut_cons (a : Out) (b : List Out) : bulkOut (a :: b) = a.bulk + bulkOut b := by unfold bulkOut; rw [List.map_cons, List.sum_cons]
theorem bulkOut_sub {a b : List Out} (h : a.Sublist b) : bulkOut a ≤ bulkOut b := by
  induction h with
  | slnil => exact Nat.le_refl _
  | cons x _ ih => rw [bulkOut_cons]; omega
  | cons_cons x _ ih => rw [bulkOut_cons, bulkOut_cons]; omega
theorem bulkOut_set : ∀ (l : List Out) (i : Nat) (o : Out), bulkOut (l.set i o) ≤ bulkOut l + o.bulk
  | [], i, o => by simp [bulkOut]
  | x :: r, 0, o => by rw [List.set_cons_zero, bulkOut_cons, bulkOut_cons]; omega
  | x :: r, i + 1, o => by have := bulkOut_set r i o; rw [List.set_cons_succ, bulkOut_cons, bulkOut_cons]; omega
theorem bulkOut_modify (f : Out → Out) (hf : ∀ o, (f o).bulk = o.bulk) : ∀ (l : List Out) (i : Nat), bulkOut (l.modify i f) = bulkOut l
  | [], i => by simp
  | x :: r, 0 => by rw [List.modify_zero_cons, bulkOut_cons, bulkOut_cons, hf]
  | x :: r, i + 1 => by rw [List.modify_succ_cons, bulkOut_cons, bulkOut_cons, bulkOut_modify f hf r i]
theorem made_bulk (x : Cmd) : (made x).bulk ≤ x.bulk := by unfold made Out.bulk Cmd.bulk; simp only; omega
theorem step_bulk (l : List Out) (x : Cmd) : bulkOut (stepR l x) ≤ bulkOut l + x.bulk := by
  have hm := made_bulk x
  unfold stepR
  split
  · have := bulkOut_sub (List.eraseIdx_sublist l (findI l x.of).toNat); omega
  · split
    · rw [bulkOut_modify (fun o => { o with part := true }) (fun _ => rfl)]; omega
    · split
      · rw [bulkOut_append, bulkOut_cons]
        have : bulkOut [] = 0 := rfl
        omega
      · have := bulkOut_set l (findI l x.of).toNat (made x); omega
theorem foldS_one (l : List Out) (x : Cmd) : foldS l [x] = if stepE l x = 0 then (stepR l x, 0) else ([], stepE l x) := by
  rw [foldS, foldS]
theorem bulkCmd_take (l : List Cmd) (i : Nat) (x : Cmd) (h : l[i]? = some x) : bulkCmd (l.take i) + x.bulk ≤ bulkCmd l := by
  have hl : l = l.take i ++ (x :: l.drop (i + 1)) := take_rest h
  have : bulkCmd l = bulkCmd (l.take i) + bulkCmd (x :: l.drop (i + 1)) := by
    conv => lhs; rw [hl]
    unfold bulkCmd; rw [List.map_append, List.sum_append]
  have h2 : bulkCmd (x :: l.drop (i + 1)) = x.bulk + bulkCmd (l.drop (i + 1)) := by unfold bulkCmd; rw [List.map_cons, List.sum_cons]
  omega
theorem bulkCmd_succ (l : List Cmd) (i : Nat) (x : Cmd) (h : l[i]? = some x) : bulkCmd (l.take (i + 1)) = bulkCmd (l.take i) + x.bulk := by
  rw [List.take_add_one, h]; unfold bulkCmd; simp
end Go.Proofs.YtlnfdpdancolmaaDoor
