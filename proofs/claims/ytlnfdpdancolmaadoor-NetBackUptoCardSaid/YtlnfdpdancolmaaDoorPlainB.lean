/- Plain laws: the inverse of a performance, of an undoing and of an amendment restores the effects. No program here. -/
import Derived.Test.YtlnfdpdancolmaaDoorPlainS
namespace Go.Proofs.YtlnfdpdancolmaaDoor
open Go.RowKit

def backC (x : Cmd) (o : Out) : Cmd := if x.kind = 2 then ⟨⟨#[]⟩, 1, ⟨#[]⟩, o.key, o.name, o.args⟩ else if x.kind = 4 then ⟨⟨#[]⟩, 4, x.new, o.key, o.name, o.args⟩ else ⟨⟨#[]⟩, 2, x.new, ⟨#[]⟩, ⟨#[]⟩, []⟩
theorem backC2 {x : Cmd} (o : Out) (h : x.kind = 2) : backC x o = ⟨⟨#[]⟩, 1, ⟨#[]⟩, o.key, o.name, o.args⟩ := by unfold backC; rw [if_pos h]
theorem backC4 {x : Cmd} (o : Out) (h : x.kind = 4) : backC x o = ⟨⟨#[]⟩, 4, x.new, o.key, o.name, o.args⟩ := by unfold backC; rw [if_neg (by omega), if_pos h]
theorem backC1 {x : Cmd} (o : Out) (h : x.kind = 1) : backC x o = ⟨⟨#[]⟩, 2, x.new, ⟨#[]⟩, ⟨#[]⟩, []⟩ := by unfold backC; rw [if_neg (by omega), if_neg (by omega)]
theorem backC_bulk (x : Cmd) (o : Out) : (backC x o).bulk ≤ x.bulk + o.bulk := by
  have h0 : (⟨#[]⟩ : ByteArray).size = 0 := rfl
  have h1 : bulkV [] = 0 := by simp [bulkV]
  unfold backC
  split
  · unfold Cmd.bulk Out.bulk; simp only [h0]; omega
  · split
    · unfold Cmd.bulk Out.bulk; simp only [h0]; omega
    · unfold Cmd.bulk Out.bulk; simp only [h0, h1]; omega
theorem key_not_empty {l : List Out} (h : Distinct l) {o : Out} (ho : o ∈ l) : o.key.toList.isEmpty = false := by
  have := ((distinct_iff l).1 h).2 o ho
  cases hk : o.key.toList with
  | nil => exact absurd hk this
  | cons a b => rfl
theorem found_mem {l : List Out} {k : ByteArray} (h : ¬ findI l k < 0) : ∃ o ∈ l, o.key.toList = k.toList := by
  obtain ⟨i, o, _, _, h5, h6⟩ := findI_some h
  exact ⟨o, List.mem_of_getElem? h5, h6⟩
theorem back1 {l : List Out} {x : Cmd} (h : Distinct l) (he : stepE l x = 0) (k1 : x.kind = 1) (y : Cmd) (yk : y.kind = 2) (yo : y.of = x.new) :
    stepE (stepR l x) y = 0 ∧ ∀ p ∈ l, ∃ q ∈ stepR (stepR l x) y, q.key = p.key ∧ q.name = p.name ∧ q.args = p.args := by
  have hN : ∀ o, o ∈ stepR l x ↔ _ := mem_step h he
  have hno : findI l x.new < 0 := by
    unfold stepE at he
    rw [if_neg (by omega), if_neg (by omega), if_pos k1] at he
    split at he
    · cases he
    · split at he
      · cases he
      · omega
  have hE : stepE (stepR l x) y = 0 := by
    unfold stepE
    rw [if_pos yk, yo, if_neg]
    intro hn
    exact (findI_iff _ _).1 hn (made x) ((hN _).2 (.inr (.inl ⟨.inl k1, rfl⟩))) rfl
  refine ⟨hE, fun p hp => ⟨p, ?_, rfl, rfl, rfl⟩⟩
  rw [mem_step (step_distinct h he) hE]
  refine .inl ⟨(hN p).2 (.inl ⟨hp, .inl k1⟩), .inr ?_⟩
  rw [yo]
  exact (findI_iff _ _).1 hno p hp
theorem back2 {l : List Out} {x : Cmd} {o : Out} (h : Distinct l) (he : stepE l x = 0) (k2 : x.kind = 2) (ho : ∀ p ∈ l, p.key.toList = x.of.toList → o = p) (y : Cmd) (yk : y.kind = 1) (yn : y.new = o.key) (ym : y.name = o.name) (ya : y.args = o.args) :
    stepE (stepR l x) y = 0 ∧ ∀ p ∈ l, ∃ q ∈ stepR (stepR l x) y, q.key = p.key ∧ q.name = p.name ∧ q.args = p.args := by
  have hN : ∀ o, o ∈ stepR l x ↔ _ := mem_step h he
  have hf : ¬ findI l x.of < 0 := fun hf => by
    unfold stepE at he
    rw [if_pos k2, if_pos hf] at he
    cases he
  obtain ⟨p0, hp0, hk0⟩ := found_mem hf
  obtain rfl : o = p0 := ho p0 hp0 hk0
  have hadd : ∀ q, ¬ Add x l q := fun q hq => by rcases hq with ⟨h1 | h1, _⟩ | ⟨h1, _⟩ <;> omega
  have hE : stepE (stepR l x) y = 0 := by
    unfold stepE
    rw [if_neg (by omega), if_neg (by omega), if_pos yk, yn, key_not_empty h hp0, if_neg (by simp), if_neg]
    intro hn
    obtain ⟨q, hq, hqk⟩ := found_mem (l := stepR l x) (k := o.key) (by omega)
    rcases (hN q).1 hq with ⟨_, h2 | h2⟩ | h2
    · omega
    · exact h2 (hqk.trans hk0)
    · exact hadd q h2
  refine ⟨hE, fun p hp => ?_⟩
  by_cases hk : p.key.toList = x.of.toList
  · obtain rfl := ho p hp hk
    refine ⟨made y, ?_, yn, ym, ya⟩
    rw [mem_step (step_distinct h he) hE]
    exact .inr (.inl ⟨.inl yk, rfl⟩)
  · refine ⟨p, ?_, rfl, rfl, rfl⟩
    rw [mem_step (step_distinct h he) hE]
    exact .inl ⟨(hN p).2 (.inl ⟨hp, .inr hk⟩), .inl yk⟩
theorem back4 {l : List Out} {x : Cmd} {o : Out} (h : Distinct l) (he : stepE l x = 0) (k4 : x.kind = 4) (ho : ∀ p ∈ l, p.key.toList = x.of.toList → o = p) (y : Cmd) (yk : y.kind = 4) (yo : y.of = x.new) (yn : y.new = o.key) (ym : y.name = o.name) (ya : y.args = o.args) :
    stepE (stepR l x) y = 0 ∧ ∀ p ∈ l, ∃ q ∈ stepR (stepR l x) y, q.key = p.key ∧ q.name = p.name ∧ q.args = p.args := by
  have hN : ∀ o, o ∈ stepR l x ↔ _ := mem_step h he
  have hE0 := he
  unfold stepE at hE0
  rw [if_neg (by omega), if_neg (by omega), if_neg (by omega), if_pos k4] at hE0
  have hf : ¬ findI l x.of < 0 := fun hf => by rw [if_pos hf] at hE0; cases hE0
  rw [if_neg hf] at hE0
  have hno : x.new.toList = x.of.toList ∨ findI l x.new < 0 := by
    split at hE0
    · cases hE0
    · split at hE0
      · cases hE0
      · rename_i hh
        by_cases e : x.new.toList = x.of.toList
        · exact .inl e
        · right
          rcases Int.lt_or_le (findI l x.new) 0 with h1 | h1
          · exact h1
          · exact absurd ⟨by simpa using e, h1⟩ hh
  obtain ⟨p0, hp0, hk0⟩ := found_mem hf
  obtain rfl : o = p0 := ho p0 hp0 hk0
  have hmade : made x ∈ stepR l x := (hN _).2 (.inr (.inl ⟨.inr k4, rfl⟩))
  have hE : stepE (stepR l x) y = 0 := by
    unfold stepE
    rw [if_neg (by omega), if_neg (by omega), if_neg (by omega), if_pos yk, yo, yn, if_neg (fun hn : findI (stepR l x) x.new < 0 => (findI_iff _ _).1 hn (made x) hmade rfl), key_not_empty h hp0, if_neg (by simp), if_neg]
    rintro ⟨h1, hn⟩
    obtain ⟨q, hq, hqk⟩ := found_mem (l := stepR l x) (k := o.key) (by omega)
    rcases (hN q).1 hq with ⟨_, h2 | h2⟩ | ⟨_, h2⟩ | ⟨h2, _⟩
    · omega
    · exact h2 (hqk.trans hk0)
    · rw [h2] at hqk
      have : x.new.toList = o.key.toList := hqk
      rw [this] at h1
      simp at h1
    · omega
  refine ⟨hE, fun p hp => ?_⟩
  by_cases hk : p.key.toList = x.of.toList
  · obtain rfl := ho p hp hk
    refine ⟨made y, ?_, yn, ym, ya⟩
    rw [mem_step (step_distinct h he) hE]
    exact .inr (.inl ⟨.inr yk, rfl⟩)
  · refine ⟨p, ?_, rfl, rfl, rfl⟩
    rw [mem_step (step_distinct h he) hE]
    refine .inl ⟨(hN p).2 (.inl ⟨hp, .inr hk⟩), .inr ?_⟩
    rw [yo]
    rcases hno with e | e
    · rw [e]; exact hk
    · exact (findI_iff _ _).1 e p hp
/-- THE INVERSE RESTORES THE EFFECTS -/
theorem back_plain {l : List Out} {x : Cmd} {o : Out} (h : Distinct l) (he : stepE l x = 0) (h3 : x.kind ≠ 3) (ho : ∀ p ∈ l, p.key.toList = x.of.toList → x.kind ≠ 1 → o = p) :
    stepE (stepR l x) (backC x o) = 0 ∧ (stepR (stepR l x) (backC x o)).length = l.length ∧ ∀ p ∈ l, ∃ q ∈ stepR (stepR l x) (backC x o), q.key = p.key ∧ q.name = p.name ∧ q.args = p.args := by
  rcases step_kind he with ⟨k, hl⟩ | ⟨k, hl⟩ | ⟨k, hl⟩
  · have := back1 h he k (backC x o) (by rw [backC1 o k]) (by rw [backC1 o k])
    have ky : (backC x o).kind = 2 := by rw [backC1 o k]
    rcases step_kind this.1 with ⟨k', hl'⟩ | ⟨_, hl'⟩ | ⟨k', hl'⟩
    · omega
    · exact ⟨this.1, by omega, this.2⟩
    · omega
  · have := back2 h he k (fun p hp hk => ho p hp hk (by omega)) (backC x o) (by rw [backC2 o k]) (by rw [backC2 o k]) (by rw [backC2 o k]) (by rw [backC2 o k])
    have ky : (backC x o).kind = 1 := by rw [backC2 o k]
    rcases step_kind this.1 with ⟨_, hl'⟩ | ⟨k', hl'⟩ | ⟨k', hl'⟩
    · exact ⟨this.1, by omega, this.2⟩
    · omega
    · omega
  · have k : x.kind = 4 := by omega
    have := back4 h he k (fun p hp hk => ho p hp hk (by omega)) (backC x o) (by rw [backC4 o k]) (by rw [backC4 o k]) (by rw [backC4 o k]) (by rw [backC4 o k]) (by rw [backC4 o k])
    have ky : (backC x o).kind = 4 := by rw [backC4 o k]
    rcases step_kind this.1 with ⟨k', hl'⟩ | ⟨k', hl'⟩ | ⟨_, hl'⟩
    · omega
    · omega
    · exact ⟨this.1, by omega, this.2⟩
theorem back_bulk {l : List Out} {x : Cmd} {o : Out} (he : stepE l x = 0) (h3 : x.kind ≠ 3) (ho : ∀ p ∈ l, p.key.toList = x.of.toList → x.kind ≠ 1 → o = p) : (backC x o).bulk ≤ bulkOut l + x.bulk := by
  by_cases k1 : x.kind = 1
  · rw [backC1 o k1]
    have h0 : (⟨#[]⟩ : ByteArray).size = 0 := rfl
    have h1 : bulkV [] = 0 := by simp [bulkV]
    unfold Cmd.bulk; simp only [h0, h1]; omega
  · have hf : ¬ findI l x.of < 0 := fun hf => by
      unfold stepE at he
      simp only [hf, if_true, if_neg h3, if_neg k1] at he
      split at he
      · cases he
      · split at he <;> cases he
    obtain ⟨p0, hp0, hk0⟩ := found_mem hf
    obtain rfl : o = p0 := ho p0 hp0 hk0 k1
    obtain ⟨i, hi⟩ := List.mem_iff_getElem?.1 hp0
    have := bulkOut_get hi
    have := backC_bulk x o
    omega
/-- the size of what is in force behind a command, element by element -/
theorem step_each {l : List Out} {x : Cmd} (h : Distinct l) (he : stepE l x = 0) (h3 : x.kind ≠ 3) {B : Nat} (hl : bulkOut l ≤ B) (hx : x.bulk ≤ B) : ∀ p ∈ stepR l x, bulkV p.args ≤ B := fun p hp => by
  rcases (mem_step h he p).1 hp with ⟨h1, _⟩ | ⟨_, rfl⟩ | ⟨h1, _⟩
  · obtain ⟨i, hi⟩ := List.mem_iff_getElem?.1 h1
    have := bulkOut_get hi
    unfold Out.bulk at this
    omega
  · have := made_bulk x
    unfold Out.bulk at this
    omega
  · exact absurd h1 h3
end Go.Proofs.YtlnfdpdancolmaaDoor
