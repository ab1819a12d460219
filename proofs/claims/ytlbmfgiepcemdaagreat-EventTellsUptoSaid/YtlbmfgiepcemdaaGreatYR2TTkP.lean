/- ref02.Reader.Text and Int. Conditions: those in each statement. ref12.take as a plain function, and how it stands to what value.decode computes. No walk here. -/
import Derived.Test.YtlbmfgiepcemdaaGreatYR2NR2RR2M
import Derived.Test.YtlbmfgiepcemdaaGreatYVRead
namespace Go.Proofs.YtlbmfgiepcemdaaGreat
open Go.RowKit

theorem r2text_any (b : Nat) (r : RS) (w : World) (h : R2At w b r) (hs : r.s.size ≤ 4294967296) : Calls Tryz.prog 66 #[.pointer (some ⟨b, 0, none⟩)] w (R2Post b (textR r) (.string (textS r)) w) := by
  have HN := Lib.hid (r2num_any b r w h hs)
  have hz := numR_size r
  clear h
  unfold textR textS
  obtain ⟨R, hR⟩ : ∃ R, numR r = R := ⟨_, rfl⟩
  obtain ⟨V, hV⟩ : ∃ V, numV r = V := ⟨_, rfl⟩
  rw [hR, hV] at HN
  rw [hR] at hz
  rw [hR, hV]
  clear hR hV
  go_enter Tryz.func66, Tryz.ntmps66
  go_wp2_with fail
  (with_reducible refine HN.out.mono ?_)
  rintro e w1 ⟨rfl, hc1, hr1⟩
  have HC := Lib.hid hc1
  have HT := Lib.hid (r2take_any b R (V : Int) w1 hr1 (by omega))
  clear hc1 hr1
  go_wp2_with fail
  (with_reducible refine HT.out.mono ?_)
  rintro e w2 ⟨rfl, hc2, hr2⟩
  have HC2 := Lib.hid (HC.out.next hc2)
  have HR2 := Lib.hid hr2
  clear hc2 hr2
  go_wp2_with fail
  go_ret
  exact ⟨rfl, HC2.out, HR2.out⟩
set_option maxHeartbeats 1000000 in
set_option maxRecDepth 20000 in
theorem r2int_any (b : Nat) (r : RS) (w : World) (h : R2At w b r) (hs : r.s.size ≤ 4294967296) : Calls Tryz.prog 99 #[.pointer (some ⟨b, 0, none⟩)] w (R2Post b (intR r) (.int .i64 (intV r)) w) := by
  have HN := Lib.hid (r2num_any b r w h hs)
  have hv := numV_le r
  clear h
  unfold intR intV
  obtain ⟨R, hR⟩ : ∃ R, numR r = R := ⟨_, rfl⟩
  obtain ⟨z, hV⟩ : ∃ V, numV r = V := ⟨_, rfl⟩
  rw [hR, hV] at HN
  rw [hV] at hv
  rw [hR, hV]
  clear hR hV
  have hz0 : (0 : Int) ≤ z := by omega
  have hz1 : (z : Int) ≤ 9223372036854775807 := by omega
  obtain ⟨q, hq0⟩ : ∃ q, z / 2 = q := ⟨_, rfl⟩
  have hq : (z : Int) / 2 = (q : Int) := by omega
  have hq1 : (q : Int) ≤ 4611686018427387904 := by omega
  by_cases h2 : z % 2 = 1
  · have hm : ((z : Int) % 2 == 1) = true := by simp; omega
    by_cases h3 : (1152921504606846976 : Int) ≤ (q : Int)
    · have HB : Hid ((if intBad z then RS.bad else R) = RS.bad ∧ (if intBad z then 0 else zig z) = 0) := Lib.hid (by
        have hz : zig z = -(q : Int) - 1 := by unfold zig; rw [if_pos h2, hq0]
        have hi : intBad z = true := by unfold intBad; rw [hz]; simp; omega
        rw [hi]; exact ⟨rfl, rfl⟩)
      rw [HB.out.1, HB.out.2]
      clear hq0 h2 HB
      go_enter Tryz.func99, Tryz.ntmps99
      go_wp2_with fail
      (with_reducible refine HN.out.mono ?_)
      rintro e w1 ⟨rfl, hc1, hr1⟩
      have HC := Lib.hid hc1
      have HR := Lib.hid hr1
      clear hc1 hr1
      have HF := Lib.hid (r2fail_any b R w1 HR.out)
      go_wp2_with fail
      (with_reducible refine HF.out.mono ?_)
      rintro e w2 ⟨rfl, hc2, hr2⟩
      have HC2 := Lib.hid (HC.out.next hc2)
      have HR2 := Lib.hid hr2
      clear hc2 hr2
      go_wp2_with fail
      go_ret
      exact ⟨rfl, HC2.out, HR2.out⟩
    · have HB : Hid ((if intBad z then RS.bad else R) = R ∧ (if intBad z then 0 else zig z) = -(q : Int) - 1) := Lib.hid (by
        have hz : zig z = -(q : Int) - 1 := by unfold zig; rw [if_pos h2, hq0]
        have hi : intBad z = false := by unfold intBad; rw [hz]; simp; omega
        rw [hi]; exact ⟨rfl, hz⟩)
      rw [HB.out.1, HB.out.2]
      have h4 : (q : Int) ≤ 1152921504606846975 := by omega
      clear hq0 h2 HB h3
      go_enter Tryz.func99, Tryz.ntmps99
      go_wp2_with fail
      (with_reducible refine HN.out.mono ?_)
      rintro e w1 ⟨rfl, hc1, hr1⟩
      have HC := Lib.hid hc1
      have HR := Lib.hid hr1
      clear hc1 hr1
      go_wp2_with fail
      go_ret
      exact ⟨rfl, HC.out, HR.out⟩
  · have hm : ((z : Int) % 2 == 1) = false := by simp; omega
    by_cases h3 : (1152921504606846976 : Int) < (q : Int)
    · have HB : Hid ((if intBad z then RS.bad else R) = RS.bad ∧ (if intBad z then 0 else zig z) = 0) := Lib.hid (by
        have hz : zig z = (q : Int) := by unfold zig; rw [if_neg h2, hq0]
        have hi : intBad z = true := by unfold intBad; rw [hz]; simp; omega
        rw [hi]; exact ⟨rfl, rfl⟩)
      rw [HB.out.1, HB.out.2]
      clear hq0 h2 HB
      go_enter Tryz.func99, Tryz.ntmps99
      go_wp2_with fail
      (with_reducible refine HN.out.mono ?_)
      rintro e w1 ⟨rfl, hc1, hr1⟩
      have HC := Lib.hid hc1
      have HR := Lib.hid hr1
      clear hc1 hr1
      have HF := Lib.hid (r2fail_any b R w1 HR.out)
      go_wp2_with fail
      (with_reducible refine HF.out.mono ?_)
      rintro e w2 ⟨rfl, hc2, hr2⟩
      have HC2 := Lib.hid (HC.out.next hc2)
      have HR2 := Lib.hid hr2
      clear hc2 hr2
      go_wp2_with fail
      go_ret
      exact ⟨rfl, HC2.out, HR2.out⟩
    · have HB : Hid ((if intBad z then RS.bad else R) = R ∧ (if intBad z then 0 else zig z) = (q : Int)) := Lib.hid (by
        have hz : zig z = (q : Int) := by unfold zig; rw [if_neg h2, hq0]
        have hi : intBad z = false := by unfold intBad; rw [hz]; simp; omega
        rw [hi]; exact ⟨rfl, hz⟩)
      rw [HB.out.1, HB.out.2]
      clear hq0 h2 HB
      go_enter Tryz.func99, Tryz.ntmps99
      go_wp2_with fail
      (with_reducible refine HN.out.mono ?_)
      rintro e w1 ⟨rfl, hc1, hr1⟩
      have HC := Lib.hid hc1
      have HR := Lib.hid hr1
      clear hc1 hr1
      go_wp2_with fail
      go_ret
      exact ⟨rfl, HC.out, HR.out⟩
end Go.Proofs.YtlbmfgiepcemdaaGreat
namespace Go.Proofs.YtlbmfgiepcemdaaGreat
open Go.RowKit

def tkS : Nat → RS → Nat → Option (V × RS × Nat)
  | 0, _, _ => none
  | F + 1, r, left => if left = 0 ∨ r.s.size = 0 then none else
    (decLoop (tkS F) (numV (hd5 r)) (hd6 r) (left - 1)).map fun p => (.mk (numV r) (textS (hd1 r)) (intV (hd2 r)) (intV (hd3 r)) (textS (hd4 r)) p.1, p.2.1, p.2.2)
theorem tkS_le : ∀ (F : Nat) (r : RS) (left : Nat) (v : V) (r' : RS) (l' : Nat), tkS F r left = some (v, r', l') → l' ≤ left ∧ r'.s.size ≤ r.s.size
  | 0, _, _, _, _, _, h => by rw [tkS] at h; cases h
  | F + 1, r, left, v, r', l', h => by
    rw [tkS] at h
    split at h
    · cases h
    · cases h2 : decLoop (tkS F) (numV (hd5 r)) (hd6 r) (left - 1) with
      | none => rw [h2] at h; cases h
      | some q =>
        obtain ⟨l2, r2, k2⟩ := q
        rw [h2] at h
        cases h
        have e1 := decLoop_le (tkS_le F) _ _ _ _ _ _ h2
        have e2 := hd6_size r
        show k2 ≤ left ∧ r2.s.size ≤ r.s.size
        omega
theorem tkS_lt {F : Nat} {r : RS} {left : Nat} {v : V} {r' : RS} {l' : Nat} (h : tkS F r left = some (v, r', l')) : l' < left := by
  cases F with
  | zero => rw [tkS] at h; cases h
  | succ F =>
    rw [tkS] at h
    split at h
    · cases h
    · rename_i hn
      cases h2 : decLoop (tkS F) (numV (hd5 r)) (hd6 r) (left - 1) with
      | none => rw [h2] at h; cases h
      | some q =>
        obtain ⟨l2, r2, k2⟩ := q
        rw [h2] at h
        cases h
        have e1 := decLoop_le (tkS_le F) _ _ _ _ _ _ h2
        have e0 : left ≠ 0 := fun h => hn (.inl h)
        show k2 < left
        omega
/-- a reader that has failed, with nothing left -/
def Gone (r : RS) : Prop := r.f = true ∧ r.s.size = 0
/-- t answers as d, but where d gives up it may come to a reader that has failed -/
def Alike2 (d t : RS → Nat → Option (V × RS × Nat)) : Prop := ∀ r left, t r left = d r left ∨ d r left = none ∧ ∃ v r' l', t r left = some (v, r', l') ∧ Gone r'
theorem decLoop_alike {d t : RS → Nat → Option (V × RS × Nat)} (h : Alike2 d t) (ht : ∀ r left, r.s.size = 0 → t r left = none) : ∀ (c : Nat) (r : RS) (left : Nat),
    decLoop t c r left = decLoop d c r left ∨ decLoop d c r left = none ∧ ∃ l r' l', decLoop t c r left = some (l, r', l') ∧ Gone r'
  | 0, r, left => .inl rfl
  | c + 1, r, left => by
    rw [decLoop, decLoop]
    rcases h r left with e | ⟨e, v, r', l', e', hg⟩
    · rw [e]
      cases h1 : d r left with
      | none => exact .inl rfl
      | some p =>
        obtain ⟨v, r1, l1⟩ := p
        rw [Option.bind_some, Option.bind_some]
        rcases decLoop_alike h ht c r1 l1 with e2 | ⟨e2, l, r', l', e3, hg⟩
        · left; show Option.map _ (decLoop t c r1 l1) = Option.map _ (decLoop d c r1 l1); rw [e2]
        · right
          refine ⟨?_, v :: l, r', l', ?_, hg⟩
          · show Option.map _ (decLoop d c r1 l1) = none; rw [e2]; rfl
          · show Option.map _ (decLoop t c r1 l1) = _; rw [e3]; rfl
    · rw [e, e', Option.bind_some]
      cases c with
      | zero => exact .inr ⟨rfl, [v], r', l', rfl, hg⟩
      | succ c =>
        left
        show Option.map _ (decLoop t (c + 1) r' l') = _
        rw [decLoop, ht _ _ hg.2]; rfl
theorem decLoop_long {d : RS → Nat → Option (V × RS × Nat)} (hd : ∀ r left v r' l', d r left = some (v, r', l') → l' < left) : ∀ (c : Nat) (r : RS) (left : Nat), left < c → decLoop d c r left = none
  | 0, _, _, h => absurd h (Nat.not_lt_zero _)
  | c + 1, r, left, h => by
    rw [decLoop]
    cases h1 : d r left with
    | none => rfl
    | some p =>
      obtain ⟨v, r1, l1⟩ := p
      rw [Option.bind_some]
      have h2 := hd _ _ _ _ _ h1
      show Option.map _ (decLoop d c r1 l1) = none
      rw [decLoop_long hd c r1 l1 (by omega)]; rfl
theorem decLoop_len {d : RS → Nat → Option (V × RS × Nat)} : ∀ (c : Nat) (r : RS) (left : Nat) (l : List V) (r' : RS) (l' : Nat), decLoop d c r left = some (l, r', l') → l.length = c
  | 0, _, _, _, _, _, h => by rw [decLoop] at h; cases h; rfl
  | c + 1, r, left, l, r', l', h => by
    rw [decLoop] at h
    cases h1 : d r left with
    | none => rw [h1] at h; cases h
    | some p =>
      obtain ⟨v, r1, l1⟩ := p
      rw [h1, Option.bind_some] at h
      cases h2 : decLoop d c r1 l1 with
      | none => rw [h2] at h; cases h
      | some q =>
        obtain ⟨l2, r2, k2⟩ := q
        rw [h2] at h
        cases h
        rw [List.length_cons, decLoop_len c _ _ _ _ _ h2]
theorem not_done_gone {r : RS} (h0 : r.s.size = 0) (h : doneB r = false) : Gone r := by
  refine ⟨?_, h0⟩
  unfold doneB at h
  cases hf : r.f with
  | true => rfl
  | false =>
    rw [hf, ByteArray.toList_eq] at h
    have h1 := size_toList r.s
    rw [h0] at h1
    rw [List.eq_nil_of_length_eq_zero h1] at h
    cases h
theorem numV_gone {r : RS} (h : r.s.size = 0) : numV r = 0 := by
  have h1 := size_toList r.s
  rw [h] at h1
  unfold numV numO
  rw [List.eq_nil_of_length_eq_zero h1, numGo]
theorem tkS_empty (F : Nat) (r : RS) (left : Nat) (h : r.s.size = 0) : tkS F r left = none := by
  cases F with
  | zero => rfl
  | succ F => rw [tkS, if_pos (.inr h)]
theorem tkS_alike : ∀ F : Nat, Alike2 (decS F) (tkS F)
  | 0 => fun _ _ => .inl rfl
  | F + 1 => fun r left => by
    rw [tkS, decS]
    by_cases h0 : left = 0 ∨ r.s.size = 0
    · rw [if_pos h0, if_pos h0]; exact .inl rfl
    · rw [if_neg h0, if_neg h0]
      cases hh : headNo r (left - 1) with
      | false =>
        rw [if_neg (by simp)]
        rcases decLoop_alike (tkS_alike F) (tkS_empty F) (numV (hd5 r)) (hd6 r) (left - 1) with e | ⟨e, l, r', l', e', hg⟩
        · rw [e]; exact .inl rfl
        · rw [e, e']; exact .inr ⟨rfl, _, _, _, rfl, hg⟩
      | true =>
        rw [if_pos rfl]
        unfold headNo at hh
        rw [Bool.or_eq_true, Bool.and_eq_true] at hh
        rcases hh with ⟨h1, h2⟩ | h1
        · have hg : Gone (hd6 r) := not_done_gone (by simpa using h1) (by simpa using h2)
          cases hc : numV (hd5 r) with
          | zero => rw [decLoop]; exact .inr ⟨rfl, _, _, _, rfl, hg⟩
          | succ c => left; rw [decLoop, tkS_empty _ _ _ hg.2]; rfl
        · left
          rw [decLoop_long (fun _ _ _ _ _ h => tkS_lt h) _ _ _ (of_decide_eq_true h1)]; rfl
/-- what ref12.Read does behind ref12.take -/
def rreadS (r : RS) : Option (V × RS) := (tkS 16385 r 16384).bind fun p => if p.2.1.s.size = 0 ∧ doneB p.2.1 = false then none else if rightP nodeP p.1 then some (p.1, p.2.1) else none
theorem gone_not_done {r : RS} (h : Gone r) : r.s.size = 0 ∧ doneB r = false := ⟨h.2, by unfold doneB; rw [h.1]; rfl⟩
theorem rreadS_eq {r : RS} (hf : Sane r) (hz : r.s.size ≤ 4294967296) : rreadS r = readS r := by
  unfold rreadS readS
  rcases tkS_alike 16385 r 16384 with e | ⟨e, v, r', l', e', hg⟩
  · rw [e]
    cases h : decS 16385 r 16384 with
    | none => rfl
    | some p =>
      obtain ⟨v, r', l'⟩ := p
      rw [Option.bind_some, Option.bind_some]
      have hf0 : r.f = false := by
        rcases hf with hf | hf
        · exact hf
        · rw [decS, if_pos (.inr hf)] at h; cases h
      have hfine := decS_fine _ _ _ _ _ _ hf0 hz h
      have hn : ¬ (r'.s.size = 0 ∧ doneB r' = false) := fun hg => by
        have := (not_done_gone hg.1 hg.2).1
        rw [hfine.1] at this; cases this
      show (if r'.s.size = 0 ∧ doneB r' = false then none else _) = _
      rw [if_neg hn]
  · rw [e, e', Option.bind_some, if_pos (gone_not_done hg)]; rfl
end Go.Proofs.YtlbmfgiepcemdaaGreat
