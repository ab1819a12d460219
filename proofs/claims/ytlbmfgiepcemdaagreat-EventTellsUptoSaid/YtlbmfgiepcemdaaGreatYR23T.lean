/- ref23.group and ref23.Read as plain functions: Read comes to what event.Read comes to. No walk here. -/
import Derived.Test.YtlbmfgiepcemdaaGreatYEvRead
import Derived.Test.YtlbmfgiepcemdaaGreatYEvBack
import Derived.Test.YtlbmfgiepcemdaaGreatYRead2
namespace Go.Proofs.YtlbmfgiepcemdaaGreat
open Go.RowKit

def zV : V := .mk 0 ⟨#[]⟩ 0 0 ⟨#[]⟩ []
/-- a value read; the zero value where there is none -/
def valR (r : RS) : V × RS := match readS r with | some p => p | none => (zV, RS.bad)
/-- at most as many values as that -/
def argG : Nat → RS → List V × RS
  | 0, r => ([], r)
  | n + 1, r => if r.s.size = 0 then ([], r) else ((valR r).1 :: (argG n (valR r).2).1, (argG n (valR r).2).2)
def g23 (r : RS) (most : Nat) : List Ev × RS :=
  if numV r = 0 ∨ numV r = 3 then (List.replicate (min (numV (numR r)) most) (evN (if numV r = 0 then 2 else 3) 0), numR (numR r))
  else if numV r ≠ 1 ∧ numV r ≠ 4 then ([evN (numV r) (numV (numR r))], numR (numR r))
  else if numV r = 4 then
    ([evB (textS (numR r)) (textS (grL1 r)) (argG (numV (grL2 r)) (grL3 r)).1 (numV (argG (numV (grL2 r)) (grL3 r)).2) (valR (numR (argG (numV (grL2 r)) (grL3 r)).2)).1], (valR (numR (argG (numV (grL2 r)) (grL3 r)).2)).2)
  else ([evA (textS (numR r)) (textS (grL1 r)) (argG (numV (grL2 r)) (grL3 r)).1], (argG (numV (grL2 r)) (grL3 r)).2)
def go23 (N : Nat) : Nat → RS → List Ev → List Ev × RS
  | 0, r, acc => (acc, r)
  | F + 1, r, acc => if N ≤ acc.length ∨ r.s.size = 0 then (acc, r) else go23 N F (g23 r (N - acc.length)).2 (acc ++ (g23 r (N - acc.length)).1)
def read23 (s : ByteArray) : Option (List Ev) :=
  if 1048576 < numV ⟨s, false⟩ then none
  else if doneB (go23 (numV ⟨s, false⟩) s.size (numR ⟨s, false⟩) []).2 && ((bytesE (go23 (numV ⟨s, false⟩) s.size (numR ⟨s, false⟩) []).1).toList == s.toList) then some (go23 (numV ⟨s, false⟩) s.size (numR ⟨s, false⟩) []).1 else none

theorem readS_pos {r : RS} {p : V × RS} (h : readS r = some p) : ¬ r.s.size = 0 := by
  intro h0
  unfold readS at h
  rw [decS, if_pos (.inr h0)] at h
  cases h
theorem argG_loop : ∀ (n : Nat) (r : RS) (p : List V × RS), rdLoop n r = some p → argG n r = p
  | 0, r, p, h => by rw [rdLoop] at h; cases h; rfl
  | n + 1, r, p, h => by
    rw [rdLoop] at h
    cases h1 : readS r with
    | none => rw [h1] at h; cases h
    | some q =>
      rw [h1, Option.bind_some] at h
      cases h2 : rdLoop n q.2 with
      | none => rw [h2] at h; cases h
      | some t =>
        rw [h2] at h
        cases h
        have hv : valR r = q := by unfold valR; rw [h1]
        rw [argG, if_neg (readS_pos h1), hv, argG_loop n _ _ h2]
theorem g23_group {r r' : RS} {x : Ev} {k : Int} {most : Nat} (h : groupS r = some (x, k, r')) (h1 : 1 ≤ k) (h2 : k ≤ most) : g23 r most = (List.replicate k.toNat x, r') := by
  unfold groupS at h
  unfold g23
  split at h
  · cases h
  split at h
  · rename_i h0
    cases h
    rw [if_pos (.inl h0), if_pos h0]
    rw [Nat.min_eq_left (by omega)]; rfl
  split at h
  · rename_i h0 h3
    cases h
    rw [if_pos (.inr h3), if_neg h0]
    rw [Nat.min_eq_left (by omega)]; rfl
  split at h
  · rename_i h0 h3 h5
    cases h
    rw [if_neg (by omega), if_pos (by omega)]; rfl
  split at h
  · rename_i h0 h3 h5 h6
    split at h
    · cases h
    cases hl : rdLoop (numV (grL2 r)) (grL3 r) with
    | none => rw [hl] at h; cases h
    | some p =>
      rw [hl] at h
      cases h
      rw [if_neg (by omega), if_neg (by omega), if_neg (by omega), argG_loop _ _ _ hl]; rfl
  split at h
  · rename_i h0 h3 h5 h6 h7
    split at h
    · cases h
    cases hl : rdLoop (numV (grL2 r)) (grL3 r) with
    | none => rw [hl] at h; cases h
    | some p =>
      rw [hl, Option.bind_some] at h
      cases hv : readS (numR p.2) with
      | none => rw [hv] at h; cases h
      | some q =>
        rw [hv] at h
        cases h
        have hv2 : valR (numR p.2) = q := by unfold valR; rw [hv]
        rw [if_neg (by omega), if_neg (by omega), if_pos h7, argG_loop _ _ _ hl, hv2]; rfl
  · cases h
theorem numO_empty {r : RS} (h : r.s.size = 0) : numR r = RS.bad ∧ numV r = 0 := by
  have he : r.s.data.toList = [] := by
    apply List.eq_nil_of_length_eq_zero; rw [size_toList]; exact h
  have hn : numO r = none := by unfold numO; rw [he]; rfl
  unfold numR numV
  rw [hn]
  exact ⟨rfl, rfl⟩
theorem numR_less {r : RS} (hs : Sane r) (h : ¬ r.s.size = 0) : (numR r).s.size < r.s.size := by
  rcases hs with hs | hs
  · rcases numR_took hs with e | ⟨_, e⟩
    · rw [e]; show 0 < _; omega
    · omega
  · exact absurd hs h

theorem zV_bulk : zV.bulk = 7 := by unfold zV; rw [bulk_mk, bulkV]; rfl
theorem zV_wf : zV.Wf := by
  unfold zV; rw [V.Wf]
  have hz : ((-9223372036854775808 : Int) ≤ 0 ∧ (0 : Int) ≤ 9223372036854775807) := ⟨by omega, by omega⟩
  exact ⟨hz, hz, hz, wfV_nil⟩
theorem valR_sum {r : RS} (hs : Sane r) (hz : r.s.size ≤ 1048576) : Sane (valR r).2 ∧ (valR r).1.bulk + 2 * (valR r).2.s.size ≤ 7 + 2 * r.s.size ∧ (valR r).2.s.size ≤ r.s.size ∧ (valR r).1.Wf := by
  unfold valR
  cases h : readS r with
  | none =>
    have e := zV_bulk
    exact ⟨sane_bad, by show zV.bulk + 2 * 0 ≤ _; omega, by show 0 ≤ _; omega, zV_wf⟩
  | some p =>
    obtain ⟨a1, a2, a3, _, _⟩ := readS_sum (v := p.1) (r' := p.2) hs hz h
    exact ⟨a1, by show p.1.bulk + 2 * p.2.s.size ≤ _; omega, by show p.2.s.size ≤ _; omega, a3⟩
/-- what is read is no larger than the text; a value that fails ends the text -/
theorem argG_sum : ∀ (n : Nat) (r : RS), Sane r → r.s.size ≤ 1048576 → Sane (argG n r).2 ∧ bulkV (argG n r).1 + 2 * (argG n r).2.s.size ≤ 7 + 2 * r.s.size ∧ (argG n r).2.s.size ≤ r.s.size ∧ WfV (argG n r).1
  | 0, r, hs, _ => by
    rw [argG]
    exact ⟨hs, by show bulkV [] + _ ≤ _; rw [bulkV]; dsimp only; omega, Nat.le_refl _, wfV_nil⟩
  | n + 1, r, hs, hz => by
    rw [argG]
    by_cases h0 : r.s.size = 0
    · rw [if_pos h0]
      exact ⟨hs, by show bulkV [] + _ ≤ _; rw [bulkV]; dsimp only; omega, Nat.le_refl _, wfV_nil⟩
    · rw [if_neg h0]
      cases h : readS r with
      | none =>
        have e : valR r = (zV, RS.bad) := by unfold valR; rw [h]
        have e2 : argG n RS.bad = ([], RS.bad) := by
          cases n with
          | zero => rfl
          | succ n => rw [argG, if_pos (show RS.bad.s.size = 0 from rfl)]
        have e7 := zV_bulk
        rw [e, e2]
        refine ⟨sane_bad, ?_, Nat.zero_le _, ?_⟩
        · show bulkV (zV :: []) + 2 * 0 ≤ _
          rw [bulkV_cons, bulkV, e7]; omega
        · show WfV (zV :: [])
          rw [WfV]; exact ⟨zV_wf, wfV_nil⟩
      | some p =>
        obtain ⟨a1, a2, a3, _, _⟩ := readS_sum (v := p.1) (r' := p.2) hs hz h
        have e : valR r = p := by unfold valR; rw [h]
        rw [e]
        obtain ⟨b1, b2, b3, b4⟩ := argG_sum n p.2 a1 (by omega)
        refine ⟨b1, ?_, ?_, ?_⟩
        · show bulkV (p.1 :: (argG n p.2).1) + _ ≤ _
          rw [bulkV_cons]; show _ + 2 * (argG n p.2).2.s.size ≤ _; omega
        · show (argG n p.2).2.s.size ≤ _; omega
        · show WfV (p.1 :: (argG n p.2).1)
          rw [WfV]; exact ⟨a3, b4⟩
theorem g23_sum {r : RS} (most : Nat) (hs : Sane r) (hz : r.s.size ≤ 1048000) (h0 : ¬ r.s.size = 0) (hm : 1 ≤ most) : Sane (g23 r most).2 ∧ (g23 r most).2.s.size < r.s.size ∧ (g23 r most).1.length ≤ most ∧ FineL (g23 r most).1 := by
  have n1 := numV_le r
  have n2 := numV_le (numR r)
  have s0 := numR_less hs h0
  have s2 := numR_size (numR r)
  have t1 := text_sum (numR r)
  have t2 := text_sum (grL1 r)
  have t3 := numR_size (grL2 r)
  have hz0 : ((-9223372036854775808 : Int) ≤ 0 ∧ (0 : Int) ≤ 9223372036854775807) := ⟨by omega, by omega⟩
  have hsl : Sane (grL3 r) := sane_num (r := grL2 r) sane_text
  have q1 : (grL1 r).s.size = (textR (numR r)).s.size := rfl
  have q2 : (grL2 r).s.size = (textR (grL1 r)).s.size := rfl
  have q3 : (grL3 r).s.size = (numR (grL2 r)).s.size := rfl
  have hz3 : (grL3 r).s.size ≤ 1048576 := by omega
  unfold g23
  split
  · refine ⟨sane_num (sane_num hs), by dsimp only; omega, by dsimp only; rw [List.length_replicate]; omega, ?_⟩
    intro x hx
    obtain ⟨_, rfl⟩ := List.mem_replicate.1 hx
    obtain ⟨a, b⟩ := simple_sum (if numV r = 0 then 2 else 3) 0 (by split <;> omega) (by split <;> omega) (by omega) (by omega)
    exact ⟨by omega, b⟩
  split
  · obtain ⟨a, b⟩ := simple_sum (numV r) (numV (numR r)) (by omega) (by omega) (by omega) (by omega)
    exact ⟨sane_num (sane_num hs), by dsimp only; omega, by show 1 ≤ _; omega, FineL.one (by omega) b⟩
  obtain ⟨b1, b2, b3, b4⟩ := argG_sum (numV (grL2 r)) (grL3 r) hsl hz3
  revert b1 b2 b3 b4
  generalize argG (numV (grL2 r)) (grL3 r) = p
  obtain ⟨l, r1⟩ := p
  intro b1 b2 b3 b4
  dsimp only at b1 b2 b3 b4 ⊢
  split
  · have u1 := numR_size r1
    have u2 := numV_le r1
    obtain ⟨c1, c2, c4, c3⟩ := valR_sum (r := numR r1) (sane_num b1) (by omega)
    revert c1 c2 c3 c4
    generalize valR (numR r1) = q
    obtain ⟨v, r2⟩ := q
    intro c1 c2 c4 c3
    dsimp only at c1 c2 c3 c4 ⊢
    refine ⟨c1, by omega, by show 1 ≤ _; omega, FineL.one ?_ ⟨⟨by show (-9223372036854775808 : Int) ≤ 4; omega, by show (4 : Int) ≤ _; omega⟩, ⟨by show (-9223372036854775808 : Int) ≤ (numV r1 : Int); omega, by show (numV r1 : Int) ≤ _; omega⟩, hz0, b4, ?_⟩⟩
    · obtain ⟨kk, tt, nn, mm, ss, ll⟩ := v
      have e : (evB (textS (numR r)) (textS (grL1 r)) l (numV r1) (.mk kk tt nn mm ss ll)).size = 16 + (textS (numR r)).size + (textS (grL1 r)).size + bulkV l + (V.mk kk tt nn mm ss ll).bulk := rfl
      rw [e]; omega
    · obtain ⟨kk, tt, nn, mm, ss, ll⟩ := v
      exact c3
  · dsimp only
    refine ⟨b1, by omega, by show 1 ≤ _; omega, FineL.one ?_ ⟨⟨by show (-9223372036854775808 : Int) ≤ 1; omega, by show (1 : Int) ≤ _; omega⟩, hz0, hz0, b4, ?_⟩⟩
    · have e : (evA (textS (numR r)) (textS (grL1 r)) l).size = 16 + (textS (numR r)).size + (textS (grL1 r)).size + bulkV l + 7 := by
        unfold Ev.size Ev.val evA; rw [bulk_mk]; dsimp only; rw [bulkV]; rfl
      rw [e]; omega
    · unfold Ev.val evA; rw [V.Wf]; exact ⟨hz0, hz0, hz0, wfV_nil⟩
theorem groupS_pos {r : RS} {p : Ev × Int × RS} (h : groupS r = some p) : ¬ r.s.size = 0 := by
  intro h0
  unfold groupS at h
  rw [if_pos h0] at h
  cases h
/-- what the one reads the other reads -/
theorem go23_read (N : Nat) : ∀ (G F : Nat) (r : RS) (acc : List Ev) (p : List Ev × RS), Sane r → r.s.size ≤ 1048000 → r.s.size ≤ F → readGo N G r acc = some p → go23 N F r acc = p
  | 0, _, _, _, _, _, _, _, h => by rw [readGo] at h; cases h
  | G + 1, F, r, acc, p, hs, hz, hF, h => by
    rw [readGo] at h
    by_cases hN : N ≤ acc.length
    · rw [if_pos hN] at h
      cases h
      cases F with
      | zero => rfl
      | succ F => rw [go23, if_pos (.inl hN)]
    · rw [if_neg hN] at h
      cases hg : groupS r with
      | none => rw [hg] at h; cases h
      | some q =>
        obtain ⟨x, k, r1⟩ := q
        rw [hg, Option.bind_some] at h
        dsimp only at h
        split at h
        · cases h
        rename_i hk
        have h0 := groupS_pos hg
        obtain ⟨F', rfl⟩ : ∃ F', F = F' + 1 := ⟨F - 1, by omega⟩
        have e := g23_group (most := N - acc.length) hg (by omega) (by omega)
        obtain ⟨g1, g2, _, _⟩ := g23_sum (N - acc.length) hs hz h0 (by omega)
        rw [go23, if_neg (fun h => h.elim hN h0)]
        rw [e] at g1 g2 ⊢
        dsimp only at g1 g2 ⊢
        exact go23_read N G F' r1 _ p g1 (by omega) (by omega) h
theorem go23_fine (N : Nat) : ∀ (F : Nat) (r : RS) (acc : List Ev), Sane r → r.s.size ≤ 1048000 → acc.length ≤ N → FineL acc → (go23 N F r acc).1.length ≤ N ∧ FineL (go23 N F r acc).1
  | 0, _, _, _, _, h, hf => ⟨h, hf⟩
  | F + 1, r, acc, hs, hz, h, hf => by
    rw [go23]
    split
    · exact ⟨h, hf⟩
    · rename_i hn
      have hn1 : ¬ N ≤ acc.length := fun h => hn (.inl h)
      have hn2 : ¬ r.s.size = 0 := fun h => hn (.inr h)
      obtain ⟨g1, g2, g3, g4⟩ := g23_sum (N - acc.length) hs hz hn2 (by omega)
      exact go23_fine N F _ _ g1 (by omega) (by rw [List.length_append]; omega) (hf.append g4)
theorem read23_eq (s : ByteArray) (hs : s.size ≤ 1048000) : read23 s = readE s := by
  have sn : Sane (numR ⟨s, false⟩) := sane_num (.inl rfl)
  have zn : (numR ⟨s, false⟩).s.size ≤ s.size := numR_size ⟨s, false⟩
  cases h : readE s with
  | some l =>
    have h' := h
    unfold readE at h'
    unfold read23
    split at h'
    · cases h'
    rename_i hN
    rw [if_neg hN]
    cases h1 : readGo (numV ⟨s, false⟩) (numV ⟨s, false⟩ + 1) (numR ⟨s, false⟩) [] with
    | none => rw [h1] at h'; cases h'
    | some p =>
      rw [h1, Option.bind_some] at h'
      rw [go23_read _ _ s.size _ _ p sn (by omega) zn h1]
      exact h'
  | none =>
    unfold read23
    split
    · rfl
    rename_i hN
    split
    · rename_i h2
      exfalso
      simp only [Bool.and_eq_true, beq_iff_eq] at h2
      obtain ⟨h2, h3⟩ := h2
      obtain ⟨f1, f2⟩ := go23_fine (numV ⟨s, false⟩) s.size (numR ⟨s, false⟩) [] sn (by omega) (Nat.zero_le _) FineL.nil
      have hb := bytes_ext h3
      revert h2 f1 f2 hb
      generalize hg : go23 (numV ⟨s, false⟩) s.size (numR ⟨s, false⟩) [] = q
      obtain ⟨l, r⟩ := q
      intro h2 f1 f2 hb
      dsimp only at h2 f1 f2 hb
      have hl : l.length ≤ 1048576 := by omega
      by_cases hr : l.all rightE = true
      · have := readE_bytes hl (fun x hx => ⟨List.all_eq_true.1 hr x hx, (f2 x hx).1⟩)
        rw [hb, h] at this
        cases this
      · have he := (bytesE_ne hl).2 hr
        rw [hb] at he
        subst he
        have hbad : numR ⟨⟨#[]⟩, false⟩ = RS.bad := (numO_empty rfl).1
        rw [hbad] at hg
        have hg2 : (([], RS.bad) : List Ev × RS) = (l, r) := hg
        have hr2 := congrArg Prod.snd hg2
        dsimp only at hr2
        subst hr2
        cases h2
    · rfl
end Go.Proofs.YtlbmfgiepcemdaaGreat
