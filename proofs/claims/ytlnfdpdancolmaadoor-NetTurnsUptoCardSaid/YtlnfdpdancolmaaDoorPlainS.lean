/- Plain laws: what is in force behind a command, as a set; two commands that mention no common key can be swapped; equality but for order. No program here. -/
import Derived.Test.YtlnfdpdancolmaaDoorPlainN
import Derived.Test.YtlnfdpdancolmaaDoorNetSt
namespace Go.Proofs.YtlnfdpdancolmaaDoor
open Go.RowKit

/-- an effect without its tick -/
def core (o : Out) : Out := { o with tick := 0 }
theorem eqO_core (a b : Out) : eqO a b = true ↔ core a = core b := by
  rw [eqO_iff]
  unfold core
  constructor
  · rintro ⟨h1, h2, h3, h4⟩; rw [h1, h2, h3, h4]
  · intro h; injection h with h1 h2 h3 h4 _; exact ⟨h1, h2, h4, h3⟩
theorem sameS_perm : ∀ (A B : List Out), (A.map core).Perm (B.map core) → sameS A B = true
  | [], _, _ => by rw [sameS]
  | o :: A, B, h => by
    have hm : core o ∈ B.map core := h.subset (by simp)
    obtain ⟨x, hx, he⟩ := List.mem_map.1 hm
    have hp : (fun x => eqO x o) x = true := (eqO_core x o).2 he
    obtain ⟨y, l1, l2, _, hy, hB, hE⟩ := List.exists_of_eraseP (p := fun x => eqO x o) hx hp
    have hany : B.any (fun x => eqO x o) = true := List.any_eq_true.2 ⟨x, hx, hp⟩
    rw [sameS, hany, if_pos rfl, hE]
    refine sameS_perm A (l1 ++ l2) ?_
    rw [hB, List.map_append, List.map_cons, List.map_cons, (eqO_core y o).1 hy] at h
    rw [List.map_append]
    exact (h.trans List.perm_middle).cons_inv
theorem perm_core {A B : List Out} (h : A.Perm B) : (A.map core).Perm (B.map core) := h.map core

def Keep (x : Cmd) (o : Out) : Prop := x.kind = 1 ∨ o.key.toList ≠ x.of.toList
def Add (x : Cmd) (l : List Out) (o : Out) : Prop := ((x.kind = 1 ∨ x.kind = 4) ∧ o = made x) ∨ (x.kind = 3 ∧ ∃ p ∈ l, p.key.toList = x.of.toList ∧ o = { p with part := true })
theorem nodup_of_keys {l : List Out} (h : Distinct l) : l.Nodup := by
  have := ((distinct_iff l).1 h).1
  unfold keysOf at this
  exact List.Pairwise.of_map _ (fun a b h e => h (by rw [e])) this
theorem same_key {l : List Out} (h : Distinct l) {o p : Out} (ho : o ∈ l) (hp : p ∈ l) (e : o.key.toList = p.key.toList) : o = p := by
  obtain ⟨i, hi⟩ := List.mem_iff_getElem?.1 ho
  obtain ⟨j, hj⟩ := List.mem_iff_getElem?.1 hp
  rcases Nat.lt_trichotomy i j with h1 | h1 | h1
  · exact absurd e ((h j p hj).2 i o h1 hi)
  · subst h1; rw [hi] at hj; exact Option.some.inj hj
  · exact absurd e.symm ((h i o hi).2 j p h1 hj)
theorem mem_eraseIdx_ne {l : List Out} (h : Distinct l) {i : Nat} {p : Out} (hp : l[i]? = some p) (o : Out) : o ∈ l.eraseIdx i ↔ o ∈ l ∧ o.key.toList ≠ p.key.toList := by
  rw [List.mem_eraseIdx_iff_getElem?]
  constructor
  · rintro ⟨j, hj, ho⟩
    refine ⟨List.mem_of_getElem? ho, fun e => ?_⟩
    rcases Nat.lt_or_gt_of_ne hj with h1 | h1
    · exact (h i p hp).2 j o h1 ho e
    · exact (h j o ho).2 i p h1 hp e.symm
  · rintro ⟨ho, hne⟩
    obtain ⟨j, hj⟩ := List.mem_iff_getElem?.1 ho
    exact ⟨j, fun e => by subst e; rw [hp] at hj; exact hne (by rw [Option.some.inj hj]), hj⟩
theorem mem_set_ne {l : List Out} (h : Distinct l) {i : Nat} {p q : Out} (hp : l[i]? = some p) (o : Out) : o ∈ l.set i q ↔ (o ∈ l ∧ o.key.toList ≠ p.key.toList) ∨ o = q := by
  have hi : i < l.length := (List.getElem?_eq_some_iff.1 hp).1
  constructor
  · intro ho
    obtain ⟨j, hj⟩ := List.mem_iff_getElem?.1 ho
    rw [List.getElem?_set] at hj
    by_cases e : i = j
    · rw [if_pos e, if_pos (by omega)] at hj
      exact .inr (Option.some.inj hj).symm
    · rw [if_neg e] at hj
      refine .inl ⟨List.mem_of_getElem? hj, fun ek => ?_⟩
      rcases Nat.lt_or_gt_of_ne e with h1 | h1
      · exact (h j o hj).2 i p h1 hp ek.symm
      · exact (h i p hp).2 j o h1 hj ek
  · rintro (⟨ho, hne⟩ | rfl)
    · obtain ⟨j, hj⟩ := List.mem_iff_getElem?.1 ho
      refine List.mem_of_getElem? (i := j) ?_
      rw [List.getElem?_set, if_neg (fun e => by subst e; rw [hp] at hj; exact hne (by rw [Option.some.inj hj]))]
      exact hj
    · exact List.mem_of_getElem? (i := i) (by rw [List.getElem?_set_self hi])
/-- WHAT IS IN FORCE BEHIND A COMMAND -/
theorem mem_step {l : List Out} {x : Cmd} (h : Distinct l) (he : stepE l x = 0) (o : Out) : o ∈ stepR l x ↔ (o ∈ l ∧ Keep x o) ∨ Add x l o := by
  unfold stepE at he
  unfold stepR Keep Add
  by_cases k2 : x.kind = 2
  · rw [if_pos k2] at he ⊢
    by_cases hf : findI l x.of < 0
    · rw [if_pos hf] at he; cases he
    · obtain ⟨i, p, h3, h4, h5, h6⟩ := findI_some hf
      rw [h3, Int.toNat_natCast, mem_eraseIdx_ne h h5, h6, k2]
      simp
  · rw [if_neg k2] at he ⊢
    by_cases k3 : x.kind = 3
    · rw [if_pos k3] at he ⊢
      by_cases hf : findI l x.of < 0
      · rw [if_pos hf] at he; cases he
      · obtain ⟨i, p, h3, h4, h5, h6⟩ := findI_some hf
        rw [h3, Int.toNat_natCast, modify_set h5, mem_set_ne h h5, h6, k3]
        constructor
        · rintro (h7 | rfl)
          · exact .inl ⟨h7.1, .inr h7.2⟩
          · exact .inr (.inr ⟨rfl, p, List.mem_of_getElem? h5, h6, rfl⟩)
        · rintro (⟨h7, h8 | h8⟩ | ⟨h7 | h7, _⟩ | ⟨_, q, hq, hqk, rfl⟩)
          · omega
          · exact .inl ⟨h7, h8⟩
          · omega
          · omega
          · right
            rw [same_key h hq (List.mem_of_getElem? h5) (hqk.trans h6.symm)]
    · rw [if_neg k3] at he ⊢
      by_cases k1 : x.kind = 1
      · rw [if_pos k1]
        simp [k1]
      · rw [if_neg k1] at he ⊢
        by_cases k4 : x.kind = 4
        · rw [if_pos k4] at he
          by_cases hf : findI l x.of < 0
          · rw [if_pos hf] at he; cases he
          · obtain ⟨i, p, h3, h4, h5, h6⟩ := findI_some hf
            rw [h3, Int.toNat_natCast, mem_set_ne h h5, h6, k4]
            simp
        · rw [if_neg k4] at he; cases he
theorem findI_iff (l : List Out) (k : ByteArray) : findI l k < 0 ↔ ∀ o ∈ l, o.key.toList ≠ k.toList := by
  constructor
  · exact findI_none
  · intro h
    rcases Int.lt_or_le (findI l k) 0 with h1 | h1
    · exact h1
    · obtain ⟨i, o, _, _, h5, h6⟩ := findI_some (l := l) (k := k) (by omega)
      exact absurd h6 (h o (List.mem_of_getElem? h5))
theorem part_at {l : List Out} (h : Distinct l) {k : ByteArray} {o : Out} (ho : o ∈ l) (hk : o.key.toList = k.toList) : l[(findI l k).toNat]? = some o := by
  have hf : ¬ findI l k < 0 := fun hn => findI_none hn o ho hk
  obtain ⟨i, p, h3, h4, h5, h6⟩ := findI_some hf
  rw [h3, Int.toNat_natCast, h5, same_key h ho (List.mem_of_getElem? h5) (hk.trans h6.symm)]
/-- two commands that mention no common key -/
def Apart (c d : Cmd) : Prop := c.of.toList ≠ d.of.toList ∧ c.of.toList ≠ d.new.toList ∧ c.new.toList ≠ d.of.toList ∧ c.new.toList ≠ d.new.toList
theorem Apart.symm {c d : Cmd} (h : Apart c d) : Apart d c := ⟨fun e => h.1 e.symm, fun e => h.2.2.1 e.symm, fun e => h.2.1 e.symm, fun e => h.2.2.2 e.symm⟩
theorem add_key {x : Cmd} {l : List Out} {o : Out} (h : Add x l o) : o.key.toList = x.new.toList ∨ o.key.toList = x.of.toList := by
  rcases h with ⟨_, rfl⟩ | ⟨_, p, _, hp, rfl⟩
  · exact .inl rfl
  · exact .inr hp
/-- a key that c does not mention is as it was -/
theorem mem_other {l : List Out} {c : Cmd} (h : Distinct l) (he : stepE l c = 0) {o : Out} (h1 : o.key.toList ≠ c.of.toList) (h2 : o.key.toList ≠ c.new.toList) : o ∈ stepR l c ↔ o ∈ l := by
  rw [mem_step h he]
  constructor
  · rintro (h3 | h3)
    · exact h3.1
    · rcases add_key h3 with h4 | h4
      · exact absurd h4 h2
      · exact absurd h4 h1
  · intro h3; exact .inl ⟨h3, .inr h1⟩
theorem find_other {l : List Out} {c : Cmd} (h : Distinct l) (he : stepE l c = 0) {k : ByteArray} (h1 : c.of.toList ≠ k.toList) (h2 : c.new.toList ≠ k.toList) : findI (stepR l c) k < 0 ↔ findI l k < 0 := by
  rw [findI_iff, findI_iff]
  constructor
  · intro h3 o ho e
    exact h3 o ((mem_other h he (by rw [e]; exact h1.symm) (by rw [e]; exact h2.symm)).2 ho) e
  · intro h3 o ho e
    exact h3 o ((mem_other h he (by rw [e]; exact h1.symm) (by rw [e]; exact h2.symm)).1 ho) e
theorem stepE_other {l : List Out} {c d : Cmd} (h : Distinct l) (he : stepE l c = 0) (ha : Apart c d) : stepE (stepR l c) d = stepE l d := by
  have f1 := find_other h he ha.1 ha.2.2.1
  have f2 := find_other h he ha.2.1 ha.2.2.2
  have f2' : 0 ≤ findI (stepR l c) d.new ↔ 0 ≤ findI l d.new := by omega
  have hd := step_distinct h he
  have hp : ¬ findI l d.of < 0 → ((stepR l c)[(findI (stepR l c) d.of).toNat]?.map (·.part)).getD false = (l[(findI l d.of).toNat]?.map (·.part)).getD false := fun hf => by
    obtain ⟨i, o, _, _, h5, h6⟩ := findI_some hf
    have ho := List.mem_of_getElem? h5
    have ho2 : o ∈ stepR l c := (mem_other h he (by rw [h6]; exact ha.1.symm) (by rw [h6]; exact ha.2.2.1.symm)).2 ho
    rw [part_at h ho h6, part_at hd ho2 h6]
  unfold stepE
  by_cases k2 : d.kind = 2
  · rw [if_pos k2, if_pos k2]; simp only [f1]
  · rw [if_neg k2, if_neg k2]
    by_cases k3 : d.kind = 3
    · rw [if_pos k3, if_pos k3]
      by_cases hf : findI l d.of < 0
      · rw [if_pos hf, if_pos (f1.2 hf)]
      · rw [if_neg hf, if_neg (fun h => hf (f1.1 h)), hp hf]
    · rw [if_neg k3, if_neg k3]
      by_cases k1 : d.kind = 1
      · rw [if_pos k1, if_pos k1]; simp only [f2']
      · rw [if_neg k1, if_neg k1]; simp only [f1, f2']
theorem mem_two {l : List Out} {c d : Cmd} (h : Distinct l) (hc : stepE l c = 0) (hd : stepE l d = 0) (ha : Apart c d) (o : Out) : o ∈ stepR (stepR l c) d ↔ (o ∈ l ∧ Keep c o ∧ Keep d o) ∨ Add c l o ∨ Add d l o := by
  have hcd : stepE (stepR l c) d = 0 := (stepE_other h hc ha).trans hd
  have hadd : Add d (stepR l c) o ↔ Add d l o := by
    unfold Add
    have : (∃ p ∈ stepR l c, p.key.toList = d.of.toList ∧ o = { p with part := true }) ↔ ∃ p ∈ l, p.key.toList = d.of.toList ∧ o = { p with part := true } := by
      constructor
      · rintro ⟨p, hp, hk, e⟩; exact ⟨p, (mem_other h hc (by rw [hk]; exact ha.1.symm) (by rw [hk]; exact ha.2.2.1.symm)).1 hp, hk, e⟩
      · rintro ⟨p, hp, hk, e⟩; exact ⟨p, (mem_other h hc (by rw [hk]; exact ha.1.symm) (by rw [hk]; exact ha.2.2.1.symm)).2 hp, hk, e⟩
    rw [this]
  rw [mem_step (step_distinct h hc) hcd, mem_step h hc, hadd]
  constructor
  · rintro (⟨h1 | h1, h2⟩ | h1)
    · exact .inl ⟨h1.1, h1.2, h2⟩
    · exact .inr (.inl h1)
    · exact .inr (.inr h1)
  · rintro (⟨h1, h2, h3⟩ | h1 | h1)
    · exact .inl ⟨.inl ⟨h1, h2⟩, h3⟩
    · refine .inl ⟨.inr h1, .inr ?_⟩
      rcases add_key h1 with h4 | h4
      · rw [h4]; exact ha.2.2.1
      · rw [h4]; exact ha.1
    · exact .inr h1
theorem swap_perm {l : List Out} {c d : Cmd} (h : Distinct l) (hc : stepE l c = 0) (hd : stepE l d = 0) (ha : Apart c d) : (stepR (stepR l c) d).Perm (stepR (stepR l d) c) := by
  have h1 : stepE (stepR l c) d = 0 := (stepE_other h hc ha).trans hd
  have h2 : stepE (stepR l d) c = 0 := (stepE_other h hd ha.symm).trans hc
  rw [List.perm_ext_iff_of_nodup (nodup_of_keys (step_distinct (step_distinct h hc) h1)) (nodup_of_keys (step_distinct (step_distinct h hd) h2))]
  intro o
  rw [mem_two h hc hd ha, mem_two h hd hc ha.symm]
  constructor
  · rintro (⟨h1, h2, h3⟩ | h1 | h1)
    · exact .inl ⟨h1, h3, h2⟩
    · exact .inr (.inr h1)
    · exact .inr (.inl h1)
  · rintro (⟨h1, h2, h3⟩ | h1 | h1)
    · exact .inl ⟨h1, h3, h2⟩
    · exact .inr (.inr h1)
    · exact .inr (.inl h1)
theorem foldS_two (l : List Out) (c d : Cmd) : foldS l [c, d] = if stepE l c = 0 then (if stepE (stepR l c) d = 0 then (stepR (stepR l c) d, 0) else ([], stepE (stepR l c) d)) else ([], stepE l c) := by
  rw [foldS, foldS_one]
/-- TWO COMMANDS THAT MENTION NO COMMON KEY CAN BE SWAPPED -/
theorem swaps_plain {l : List Out} {c d : Cmd} (h : Distinct l) (ha : Apart c d) :
    ((foldS l [c, d]).2 = 0 ↔ (foldS l [d, c]).2 = 0) ∧ ((foldS l [c, d]).2 = 0 → (decide ((foldS l [c, d]).1.length = (foldS l [d, c]).1.length) && sameS (foldS l [c, d]).1 (foldS l [d, c]).1) = true) := by
  rw [foldS_two, foldS_two]
  by_cases hc : stepE l c = 0
  · rw [if_pos hc, stepE_other h hc ha]
    by_cases hd : stepE l d = 0
    · rw [if_pos hd, if_pos hd, stepE_other h hd ha.symm, if_pos hc]
      refine ⟨Iff.rfl, fun _ => ?_⟩
      have hp := swap_perm h hc hd ha
      show (decide ((stepR (stepR l c) d).length = (stepR (stepR l d) c).length) && sameS (stepR (stepR l c) d) (stepR (stepR l d) c)) = true
      rw [decide_eq_true hp.length_eq, sameS_perm _ _ (perm_core hp)]; rfl
    · rw [if_neg hd, if_neg hd]
      exact ⟨⟨fun h => absurd h hd, fun h => absurd h hd⟩, fun h => absurd h hd⟩
  · rw [if_neg hc]
    by_cases hd : stepE l d = 0
    · rw [if_pos hd, stepE_other h hd ha.symm, if_neg hc]
      exact ⟨⟨fun h => absurd h hc, fun h => absurd h hc⟩, fun h => absurd h hc⟩
    · rw [if_neg hd]
      exact ⟨⟨fun h => absurd h hc, fun h => absurd h hd⟩, fun h => absurd h hc⟩
theorem fold2_bulk (l : List Out) (c d : Cmd) : bulkOut (foldS l [c, d]).1 ≤ bulkOut l + c.bulk + d.bulk := by
  rw [foldS_two]
  have h1 := step_bulk l c
  have h2 := step_bulk (stepR l c) d
  have h3 : bulkOut ([] : List Out) = 0 := rfl
  split
  · split
    · show bulkOut (stepR (stepR l c) d) ≤ _; omega
    · show bulkOut [] ≤ _; omega
  · show bulkOut [] ≤ _; omega
end Go.Proofs.YtlnfdpdancolmaaDoor
