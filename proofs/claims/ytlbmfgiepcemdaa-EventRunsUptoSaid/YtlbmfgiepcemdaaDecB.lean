/- Plain laws on decoding: a reader that has not failed, how much a decoded value holds, that its numbers are Go's ints. No walk here. -/
import Derived.Test.YtlbmfgiepcemdaaDecQ
namespace Go.Proofs.Ytlbmfgiepcemdaa

theorem numR_bad : numR RS.bad = RS.bad := rfl
theorem textR_bad : textR RS.bad = RS.bad := rfl
theorem intR_bad : intR RS.bad = RS.bad := by
  unfold intR
  have h : numV RS.bad = 0 := rfl
  rw [h]
  have : intBad 0 = false := by decide
  rw [this]; rfl
/-- a step of a reader that has not failed: it fails, or takes n bytes or more -/
def Took (r r' : RS) (n : Nat) : Prop := r' = RS.bad ∨ (r'.f = false ∧ r'.s.size + n ≤ r.s.size)
theorem numR_took {r : RS} (h : r.f = false) : Took r (numR r) 1 := by
  unfold Took numR
  cases hn : numO r with
  | none => exact .inl rfl
  | some p =>
    obtain ⟨v, k⟩ := p
    have := numGo_lt _ 0 0 v k (by omega) (by omega) hn
    rw [size_toList] at this
    refine .inr ⟨h, ?_⟩
    show (r.s.extract k r.s.size).size + 1 ≤ r.s.size
    rw [ByteArray.size_extract]; omega
theorem takeR_took {r : RS} {n : Int} : Took r (takeR r n) (takeS r n).size := by
  unfold Took takeR takeS
  by_cases hc : r.f = true ∨ n < 0 ∨ (r.s.size : Int) < n
  · rw [if_pos hc]; exact .inl rfl
  · rw [if_neg hc, if_neg hc]
    refine .inr ⟨rfl, ?_⟩
    show (r.s.extract n.toNat r.s.size).size + (r.s.extract 0 n.toNat).size ≤ r.s.size
    rw [ByteArray.size_extract, ByteArray.size_extract]; omega
theorem textR_took {r : RS} (h : r.f = false) : Took r (textR r) ((textS r).size + 1) := by
  unfold textR textS
  rcases numR_took h with h1 | ⟨h1, h2⟩
  · rw [h1]; exact .inl rfl
  · rcases takeR_took (r := numR r) (n := (numV r : Int)) with h3 | ⟨h3, h4⟩
    · exact .inl h3
    · exact .inr ⟨h3, by omega⟩
theorem intR_took {r : RS} (h : r.f = false) : Took r (intR r) 1 := by
  unfold intR
  split
  · exact .inl rfl
  · exact numR_took h
theorem done_bad : doneB RS.bad = false := rfl
/-- a head that is taken: nothing has failed -/
theorem head_took {r : RS} {left : Nat} (h : r.f = false) (hn : headNo r left = false) : (hd6 r).f = false ∧ (hd6 r).s.size + 6 + (textS (hd1 r)).size + (textS (hd4 r)).size ≤ r.s.size := by
  have no : hd6 r ≠ RS.bad := fun hb => by
    unfold headNo at hn
    rw [hb, done_bad] at hn
    have e : (RS.bad.s.size == 0 && !false) = true := rfl
    rw [e] at hn
    simp at hn
  rcases numR_took h with e1 | ⟨e1, s1⟩
  · exact absurd (show hd6 r = RS.bad by unfold hd6 hd5 hd4 hd3 hd2 hd1; rw [e1, textR_bad, intR_bad, intR_bad, textR_bad, numR_bad]) no
  have e1 : (hd1 r).f = false := e1
  have s1 : (hd1 r).s.size + 1 ≤ r.s.size := s1
  rcases textR_took e1 with e2 | ⟨e2, s2⟩
  · exact absurd (show hd6 r = RS.bad by unfold hd6 hd5 hd4 hd3 hd2; rw [e2, intR_bad, intR_bad, textR_bad, numR_bad]) no
  have e2 : (hd2 r).f = false := e2
  have s2 : (hd2 r).s.size + ((textS (hd1 r)).size + 1) ≤ (hd1 r).s.size := s2
  rcases intR_took e2 with e3 | ⟨e3, s3⟩
  · exact absurd (show hd6 r = RS.bad by unfold hd6 hd5 hd4 hd3; rw [e3, intR_bad, textR_bad, numR_bad]) no
  have e3 : (hd3 r).f = false := e3
  have s3 : (hd3 r).s.size + 1 ≤ (hd2 r).s.size := s3
  rcases intR_took e3 with e4 | ⟨e4, s4⟩
  · exact absurd (show hd6 r = RS.bad by unfold hd6 hd5 hd4; rw [e4, textR_bad, numR_bad]) no
  have e4 : (hd4 r).f = false := e4
  have s4 : (hd4 r).s.size + 1 ≤ (hd3 r).s.size := s4
  rcases textR_took e4 with e5 | ⟨e5, s5⟩
  · exact absurd (show hd6 r = RS.bad by unfold hd6 hd5; rw [e5, numR_bad]) no
  have e5 : (hd5 r).f = false := e5
  have s5 : (hd5 r).s.size + ((textS (hd4 r)).size + 1) ≤ (hd4 r).s.size := s5
  rcases numR_took e5 with e6 | ⟨e6, s6⟩
  · exact absurd (show hd6 r = RS.bad by unfold hd6; rw [e6]) no
  have s6 : (hd6 r).s.size + 1 ≤ (hd5 r).s.size := s6
  exact ⟨e6, by omega⟩
theorem intV_range (r : RS) : -1152921504606846976 ≤ intV r ∧ intV r ≤ 1152921504606846976 := by
  unfold intV
  cases h : intBad (numV r) with
  | true => simp
  | false =>
    unfold intBad at h
    simp only [decide_eq_false_iff_not] at h
    simp only [Bool.false_eq_true, if_false]
    omega
/-- what a decoded value is: twice the bytes that it took bound it -/
def DecFine (r : RS) (v : V) (r' : RS) : Prop := r'.f = false ∧ v.bulk + 2 * r'.s.size ≤ 2 * r.s.size ∧ v.Wf ∧ v.All EncOk
def DecFineL (r : RS) (l : List V) (r' : RS) : Prop := r'.f = false ∧ bulkV l + 2 * r'.s.size ≤ 2 * r.s.size ∧ WfV l ∧ AllV EncOk l
theorem decLoop_fine {d : RS → Nat → Option (V × RS × Nat)} (hd : ∀ r left v r' l', r.f = false → r.s.size ≤ 4294967296 → d r left = some (v, r', l') → DecFine r v r') : ∀ (c : Nat) (r : RS) (left : Nat) (l : List V) (r' : RS) (l' : Nat), r.f = false → r.s.size ≤ 4294967296 → decLoop d c r left = some (l, r', l') → DecFineL r l r'
  | 0, r, left, l, r', l', hf, _, h => by
    rw [decLoop] at h; cases h
    exact ⟨hf, by rw [bulkV]; omega, by rw [WfV]; trivial, by rw [AllV]; trivial⟩
  | c + 1, r, left, l, r', l', hf, hz, h => by
    rw [decLoop] at h
    cases h1 : d r left with
    | none => rw [h1] at h; cases h
    | some p =>
      obtain ⟨v, r1, l1⟩ := p
      rw [h1, Option.bind_some] at h
      cases h2 : decLoop d c r1 l1 with
      | none => rw [h2] at h; cases h
      | some q =>
        obtain ⟨l2, r2, k2⟩ := q
        rw [h2] at h
        cases h
        obtain ⟨a1, a2, a3, a4⟩ := hd _ _ _ _ _ hf hz h1
        obtain ⟨b1, b2, b3, b4⟩ := decLoop_fine hd c r1 l1 _ _ _ a1 (by omega) h2
        refine ⟨b1, ?_, ?_, ?_⟩
        · show bulkV (v :: l2) + 2 * r2.s.size ≤ 2 * r.s.size
          rw [bulkV_cons]; omega
        · show WfV (v :: l2)
          rw [WfV]; exact ⟨a3, b3⟩
        · show AllV EncOk (v :: l2)
          rw [AllV]; exact ⟨a4, b4⟩
theorem textS_size (r : RS) : (textS r).size ≤ r.s.size := by
  unfold textS takeS
  split
  · exact Nat.zero_le _
  · have := numR_size r
    rw [ByteArray.size_extract]; omega
theorem decS_fine : ∀ (F : Nat) (r : RS) (left : Nat) (v : V) (r' : RS) (l' : Nat), r.f = false → r.s.size ≤ 4294967296 → decS F r left = some (v, r', l') → DecFine r v r'
  | 0, _, _, _, _, _, _, _, h => by rw [decS] at h; cases h
  | F + 1, r, left, v, r', l', hf, hz, h => by
    rw [decS] at h
    split at h
    · cases h
    · cases hh : headNo r (left - 1) with
      | true => rw [hh] at h; cases h
      | false =>
        rw [hh] at h
        simp only [Bool.false_eq_true, if_false] at h
        obtain ⟨e1, e2⟩ := head_took hf hh
        cases h2 : decLoop (decS F) (numV (hd5 r)) (hd6 r) (left - 1) with
        | none => rw [h2] at h; cases h
        | some q =>
          obtain ⟨l2, r2, k2⟩ := q
          rw [h2] at h
          cases h
          obtain ⟨b1, b2, b3, b4⟩ := decLoop_fine (decS_fine F) _ _ _ _ _ _ e1 (by omega) h2
          have n1 := numV_le r
          have n2 := intV_range (hd2 r)
          have n3 := intV_range (hd3 r)
          have z1 := textS_size (hd1 r)
          have z2 := textS_size (hd4 r)
          have n0 : (0 : Int) ≤ (numV r : Int) ∧ (numV r : Int) ≤ 9223372036854775807 := by omega
          have t1 : (textS (hd1 r)).size ≤ 9223372036854775807 := by omega
          have t2 : (textS (hd4 r)).size ≤ 9223372036854775807 := by omega
          refine ⟨b1, ?_, ?_, ?_⟩
          · show (V.mk _ (textS (hd1 r)) _ _ (textS (hd4 r)) l2).bulk + 2 * r2.s.size ≤ 2 * r.s.size
            rw [bulk_mk]; omega
          · show (V.mk (numV r) _ (intV (hd2 r)) (intV (hd3 r)) _ l2).Wf
            rw [V.Wf]
            exact ⟨by omega, by omega, by omega, b3⟩
          · show (V.mk (numV r) (textS (hd1 r)) (intV (hd2 r)) (intV (hd3 r)) (textS (hd4 r)) l2).All EncOk
            rw [V.All]
            exact ⟨⟨n0, n2, n3, t1, t2⟩, b4⟩
end Go.Proofs.Ytlbmfgiepcemdaa
