/- Plain laws on decoding: what is read is what was written, and how much a decoded value holds. No walk here. Plain laws on decoding: a reader that has not failed, how much a decoded value holds, that its numbers are Go's ints. No walk here. -/
import Derived.Test.YtlbmfgiepcemdaaGreatYDecPBldE
import Derived.Test.YtlbmfgiepcemdaaGreatYValid
namespace Go.Proofs.YtlbmfgiepcemdaaGreat

/-- reader r holds the bytes l, and has not failed -/
def Holds (r : RS) (l : List UInt8) : Prop := r.f = false ∧ r.s.data.toList = l
theorem holds_self (s : ByteArray) : Holds ⟨s, false⟩ s.data.toList := ⟨rfl, rfl⟩
theorem extract_drop (s : ByteArray) (k : Nat) : (s.extract k s.size).data.toList = s.data.toList.drop k := by
  rw [ByteArray.data_extract, Array.toList_extract, List.extract_eq_take_drop, List.take_of_length_le]
  rw [List.length_drop, size_toList]; exact Nat.le_refl _
theorem extract_take (s : ByteArray) (k : Nat) : (s.extract 0 k).data.toList = s.data.toList.take k := by
  rw [ByteArray.data_extract, Array.toList_extract, List.extract_eq_take_drop]; simp
theorem bytes_eq {s t : ByteArray} (h : s.data.toList = t.data.toList) : s = t := by
  cases s; cases t
  simp at h
  rw [h]
theorem u8_of (m : Nat) (h : m < 256) : (UInt8.ofNat m).toNat = m := by rw [UInt8.toNat_ofNat']; omega
/-- a varint that was written is read -/
theorem numGo_num : ∀ (f m i acc : Nat) (rest : List UInt8), i + f = 9 → m < 128 ^ f → (0 < i → 0 < m) → numGo i acc ((numI f m).map (fun n => UInt8.ofNat n.toNat) ++ rest) = some (acc + m * 128 ^ i, i + (numI f m).length)
  | 0, m, i, acc, rest, _, hm, hz => by simp at hm; omega
  | f + 1, m, i, acc, rest, hi, hm, hz => by
    rw [numI]
    by_cases h : m < 128
    · rw [if_pos h]
      show numGo i acc (UInt8.ofNat ((m : Int)).toNat :: rest) = _
      have e : (UInt8.ofNat ((m : Int)).toNat).toNat = m := by rw [Int.toNat_natCast]; exact u8_of m (by omega)
      rw [numGo, if_neg (by omega), e, if_neg (by omega), if_neg (by omega), Nat.mod_eq_of_lt h]; rfl
    · rw [if_neg h]
      show numGo i acc (UInt8.ofNat ((m : Int) % 128 + 128).toNat :: ((numI f (m / 128)).map (fun n => UInt8.ofNat n.toNat) ++ rest)) = _
      have e : (UInt8.ofNat ((m : Int) % 128 + 128).toNat).toNat = m % 128 + 128 := by
        rw [show ((m : Int) % 128 + 128).toNat = m % 128 + 128 by omega]; exact u8_of _ (by omega)
      have hf : 0 < f := by
        rcases Nat.eq_zero_or_pos f with h0 | h0
        · subst h0; simp at hm; omega
        · exact h0
      rw [numGo, if_neg (by omega), e, if_pos (by omega), numGo_num f (m / 128) (i + 1) _ rest (by omega) (by rw [Nat.pow_succ] at hm; omega) (by omega)]
      have e2 : acc + (m % 128 + 128) % 128 * 128 ^ i + m / 128 * 128 ^ (i + 1) = acc + m * 128 ^ i := by
        rw [show (m % 128 + 128) % 128 = m % 128 by omega, Nat.pow_succ, Nat.add_assoc]
        congr 1
        have e3 : m / 128 * (128 ^ i * 128) = m / 128 * 128 * 128 ^ i := by rw [Nat.mul_assoc, Nat.mul_comm (128 ^ i)]
        rw [e3, ← Nat.add_mul]
        congr 1
        omega
      rw [e2, List.length_cons]
      congr 2
      omega
theorem numR_num {r : RS} {n : Nat} {rest : List UInt8} (hn : n ≤ 9223372036854775807) (h : Holds r ((numB n).data.toList ++ rest)) : numV r = n ∧ Holds (numR r) rest := by
  obtain ⟨h1, h2⟩ := h
  have hg : numO r = some (n, (numI 9 n).length) := by
    unfold numO
    rw [h2]
    have := numGo_num 9 n 0 0 rest rfl (by have : (128 : Nat) ^ 9 = 9223372036854775808 := rfl; omega) (by omega)
    rw [Nat.pow_zero, Nat.mul_one, Nat.zero_add, Nat.zero_add] at this
    exact this
  refine ⟨by unfold numV; rw [hg], ?_⟩
  unfold numR
  rw [hg]
  refine ⟨h1, ?_⟩
  show (r.s.extract _ r.s.size).data.toList = _
  rw [extract_drop, h2, List.drop_append_of_le_length (by unfold numB; rw [strOfNums_data, List.length_map]; exact Nat.le_refl _), List.drop_eq_nil_of_le (by unfold numB; rw [strOfNums_data, List.length_map]; exact Nat.le_refl _), List.nil_append]
theorem textR_text {r : RS} {t : ByteArray} {rest : List UInt8} (ht : t.size ≤ 9223372036854775807) (h : Holds r ((textB t).data.toList ++ rest)) : textS r = t ∧ Holds (textR r) rest := by
  unfold textB at h
  rw [ByteArray.data_append, Array.toList_append, List.append_assoc] at h
  obtain ⟨e1, e2, e3⟩ := numR_num ht h
  have hl : ¬ ((numR r).f = true ∨ ((t.size : Nat) : Int) < 0 ∨ ((numR r).s.size : Int) < ((t.size : Nat) : Int)) := by
    rw [e2]
    have : (numR r).s.size = (t.data.toList ++ rest).length := by rw [← e3, size_toList]
    rw [List.length_append, size_toList] at this
    simp
    omega
  refine ⟨?_, ?_⟩
  · unfold textS takeS
    rw [e1, if_neg hl]
    apply bytes_eq
    rw [Int.toNat_natCast, extract_take, e3, List.take_append_of_le_length (by rw [size_toList]; exact Nat.le_refl _), List.take_of_length_le (by rw [size_toList]; exact Nat.le_refl _)]
  · unfold textR takeR
    rw [e1, if_neg hl]
    refine ⟨rfl, ?_⟩
    show ((numR r).s.extract _ (numR r).s.size).data.toList = _
    rw [Int.toNat_natCast, extract_drop, e3, List.drop_append_of_le_length (by rw [size_toList]; exact Nat.le_refl _), List.drop_eq_nil_of_le (by rw [size_toList]; exact Nat.le_refl _), List.nil_append]
theorem intR_int {r : RS} {n : Int} {rest : List UInt8} (h0 : -1152921504606846976 ≤ n) (h1 : n ≤ 1152921504606846976) (h : Holds r ((intB n).data.toList ++ rest)) : intV r = n ∧ Holds (intR r) rest := by
  unfold intB at h
  rw [if_neg (by omega)] at h
  have key : ∀ z : Nat, z ≤ 9223372036854775807 → zig z = n → Holds r ((numB z).data.toList ++ rest) → intV r = n ∧ Holds (intR r) rest := fun z hz e hh => by
    obtain ⟨e1, e2⟩ := numR_num hz hh
    have hb : intBad (numV r) = false := by unfold intBad; rw [e1, e]; simp; omega
    unfold intV intR
    rw [hb, e1, e]
    exact ⟨rfl, e2⟩
  by_cases hn : n < 0
  · rw [if_pos hn] at h
    exact key _ (by omega) (by unfold zig; rw [if_pos (by omega)]; omega) h
  · rw [if_neg hn] at h
    exact key _ (by omega) (by unfold zig; rw [if_neg (by omega)]; omega) h

mutual
def nodesV : V → Nat
  | .mk _ _ _ _ _ l => 1 + nodesL l
def nodesL : List V → Nat
  | [] => 0
  | v :: r => nodesV v + nodesL r
end
theorem nodesL_len : ∀ l : List V, l.length ≤ nodesL l
  | [] => Nat.le_refl _
  | .mk k t n m s l :: r => by have := nodesL_len r; rw [nodesL, nodesV, List.length_cons]; omega
/-- what can be written and read again -/
def EncOk (v : V) : Prop := (0 ≤ v.kind ∧ v.kind ≤ 9223372036854775807) ∧ (-1152921504606846976 ≤ v.n ∧ v.n ≤ 1152921504606846976) ∧ (-1152921504606846976 ≤ v.m ∧ v.m ≤ 1152921504606846976) ∧ v.t.size ≤ 9223372036854775807 ∧ v.s.size ≤ 9223372036854775807
theorem decLoop_enc {F : Nat} (ih : ∀ (v : V) (left : Nat) (r : RS) (rest : List UInt8), v.All EncOk → nodesV v ≤ left → left < F → left ≤ 16384 → Holds r (bytesV v ++ rest) → ∃ r', decS F r left = some (v, r', left - nodesV v) ∧ Holds r' rest) :
    ∀ (l : List V) (left : Nat) (r : RS) (rest : List UInt8), AllV EncOk l → nodesL l ≤ left → left < F → left ≤ 16384 → Holds r (bytesVs l ++ rest) → ∃ r', decLoop (decS F) l.length r left = some (l, r', left - nodesL l) ∧ Holds r' rest
  | [], left, r, rest, _, _, _, _, h => ⟨r, by rw [List.length_nil, decLoop, nodesL, Nat.sub_zero], h⟩
  | v :: l, left, r, rest, ha, hn, hF, hL, h => by
    rw [AllV] at ha
    rw [nodesL] at hn
    rw [bytesVs, List.append_assoc] at h
    obtain ⟨r1, e1, h1⟩ := ih v left r _ ha.1 (by omega) hF hL h
    obtain ⟨r2, e2, h2⟩ := decLoop_enc ih l (left - nodesV v) r1 rest ha.2 (by omega) (by omega) (by omega) h1
    refine ⟨r2, ?_, h2⟩
    rw [List.length_cons, decLoop, e1, Option.bind_some, e2, nodesL, Option.map_some, Nat.sub_sub]
theorem dec_head {F : Nat} {k : Int} {t : ByteArray} {n m : Int} {s : ByteArray} {l : List V} {left : Nat} {r : RS} {rest : List UInt8} (hk : 0 ≤ k ∧ k ≤ 9223372036854775807) (hin : -1152921504606846976 ≤ n ∧ n ≤ 1152921504606846976) (him : -1152921504606846976 ≤ m ∧ m ≤ 1152921504606846976)
    (hts : t.size ≤ 9223372036854775807) (hss : s.size ≤ 9223372036854775807) (hl : l.length + 1 ≤ left) (hL : left ≤ 16384) (h : Holds r (bytesV (.mk k t n m s l) ++ rest)) :
    ∃ r6, Holds r6 (bytesVs l ++ rest) ∧ decS (F + 1) r left = (decLoop (decS F) l.length r6 (left - 1)).map fun p => (V.mk k t n m s p.1, p.2.1, p.2.2) := by
    have hnz : numZ k = numB k.toNat := by unfold numZ; rw [if_neg (by omega)]
    rw [bytesV, hnz] at h
    simp only [List.append_assoc] at h
    have hlen : r.s.size ≠ 0 := by
      obtain ⟨_, h2⟩ := h
      have := congrArg List.length h2
      rw [size_toList] at this
      have h9 : 0 < (numB k.toNat).data.toList.length := by
        unfold numB; rw [strOfNums_data, List.length_map, numI]; split <;> simp
      rw [List.length_append] at this
      omega
    obtain ⟨v1, q1⟩ := numR_num (by omega) h
    obtain ⟨v2, q2⟩ := textR_text hts q1
    obtain ⟨v3, q3⟩ := intR_int hin.1 hin.2 q2
    obtain ⟨v4, q4⟩ := intR_int him.1 him.2 q3
    obtain ⟨v5, q5⟩ := textR_text hss q4
    obtain ⟨v6, q6⟩ := numR_num (n := l.length) (by omega) q5
    refine ⟨hd6 r, q6, ?_⟩
    have hh : headNo r (left - 1) = false := by
      unfold headNo
      have e1 : numV (hd5 r) = l.length := v6
      have e2 : (hd6 r).f = false := q6.1
      have e3 : ((hd6 r).s.size == 0 && !doneB (hd6 r)) = false := by
        cases h0 : ((hd6 r).s.size == 0) with
        | false => rfl
        | true =>
          have h1 : (hd6 r).s.size = 0 := by simpa only [beq_iff_eq] using h0
          have h2 : (hd6 r).s.toList = [] := by
            rw [ByteArray.toList_eq]
            exact List.eq_nil_of_length_eq_zero (by rw [size_toList]; exact h1)
          unfold doneB
          rw [e2, h2]; rfl
      rw [e3, e1]
      simp only [Bool.false_or, decide_eq_false_iff_not]
      omega
    rw [decS, if_neg (by omega), hh]
    have e5 : numV (hd5 r) = l.length := v6
    rw [e5]
    have u1 : textS (hd1 r) = t := v2
    have u2 : intV (hd2 r) = n := v3
    have u3 : intV (hd3 r) = m := v4
    have u4 : textS (hd4 r) = s := v5
    have u0 : ((numV r : Nat) : Int) = k := by rw [v1]; omega
    rw [u0, u1, u2, u3, u4]
    rfl
theorem dec_enc : ∀ (F : Nat) (v : V) (left : Nat) (r : RS) (rest : List UInt8), v.All EncOk → nodesV v ≤ left → left < F → left ≤ 16384 → Holds r (bytesV v ++ rest) → ∃ r', decS F r left = some (v, r', left - nodesV v) ∧ Holds r' rest
  | 0, _, _, _, _, _, _, h, _, _ => absurd h (by omega)
  | F + 1, .mk k t n m s l, left, r, rest, ha, hn, hF, hL, h => by
    rw [V.All] at ha
    obtain ⟨⟨hk, hin, him, hts, hss⟩, hal⟩ := ha
    rw [nodesV] at hn
    have hll := nodesL_len l
    obtain ⟨r6, q6, e6⟩ := dec_head (F := F) hk hin him hts hss (by omega) hL h
    obtain ⟨r7, e7, q7⟩ := decLoop_enc (dec_enc F) l (left - 1) r6 rest hal (by omega) (by omega) (by omega) q6
    refine ⟨r7, ?_, q7⟩
    rw [e6, e7, Option.map_some, nodesV, show left - 1 - nodesL l = left - (1 + nodesL l) by omega]; rfl
end Go.Proofs.YtlbmfgiepcemdaaGreat
namespace Go.Proofs.YtlbmfgiepcemdaaGreat

theorem numR_bad : numR RS.bad = RS.bad := rfl
theorem textR_bad : textR RS.bad = RS.bad := rfl
theorem intR_bad : intR RS.bad = RS.bad := by
  unfold intR
  have h : numV RS.bad = 0 := rfl
  rw [h]
  have : intBad 0 = false := by decide
  rw [this]; rfl
/-- a step of a reader that has not failed: it fails, or takes n bytes or more -/
def Took (r r' : RS) (n : Nat) : Prop := r' = RS.bad ∨ (r'.f = false ∧ r'.s.size + n ≤ r.s.size)
theorem numR_took {r : RS} (h : r.f = false) : Took r (numR r) 1 := by
  unfold Took numR
  cases hn : numO r with
  | none => exact .inl rfl
  | some p =>
    obtain ⟨v, k⟩ := p
    have := numGo_lt _ 0 0 v k (by omega) (by omega) hn
    rw [size_toList] at this
    refine .inr ⟨h, ?_⟩
    show (r.s.extract k r.s.size).size + 1 ≤ r.s.size
    rw [ByteArray.size_extract]; omega
theorem takeR_took {r : RS} {n : Int} : Took r (takeR r n) (takeS r n).size := by
  unfold Took takeR takeS
  by_cases hc : r.f = true ∨ n < 0 ∨ (r.s.size : Int) < n
  · rw [if_pos hc]; exact .inl rfl
  · rw [if_neg hc, if_neg hc]
    refine .inr ⟨rfl, ?_⟩
    show (r.s.extract n.toNat r.s.size).size + (r.s.extract 0 n.toNat).size ≤ r.s.size
    rw [ByteArray.size_extract, ByteArray.size_extract]; omega
theorem textR_took {r : RS} (h : r.f = false) : Took r (textR r) ((textS r).size + 1) := by
  unfold textR textS
  rcases numR_took h with h1 | ⟨h1, h2⟩
  · rw [h1]; exact .inl rfl
  · rcases takeR_took (r := numR r) (n := (numV r : Int)) with h3 | ⟨h3, h4⟩
    · exact .inl h3
    · exact .inr ⟨h3, by omega⟩
theorem intR_took {r : RS} (h : r.f = false) : Took r (intR r) 1 := by
  unfold intR
  split
  · exact .inl rfl
  · exact numR_took h
theorem done_bad : doneB RS.bad = false := rfl
/-- a head that is taken: nothing has failed -/
theorem head_took {r : RS} {left : Nat} (h : r.f = false) (hn : headNo r left = false) : (hd6 r).f = false ∧ (hd6 r).s.size + 6 + (textS (hd1 r)).size + (textS (hd4 r)).size ≤ r.s.size := by
  have no : hd6 r ≠ RS.bad := fun hb => by
    unfold headNo at hn
    rw [hb, done_bad] at hn
    have e : (RS.bad.s.size == 0 && !false) = true := rfl
    rw [e] at hn
    simp at hn
  rcases numR_took h with e1 | ⟨e1, s1⟩
  · exact absurd (show hd6 r = RS.bad by unfold hd6 hd5 hd4 hd3 hd2 hd1; rw [e1, textR_bad, intR_bad, intR_bad, textR_bad, numR_bad]) no
  have e1 : (hd1 r).f = false := e1
  have s1 : (hd1 r).s.size + 1 ≤ r.s.size := s1
  rcases textR_took e1 with e2 | ⟨e2, s2⟩
  · exact absurd (show hd6 r = RS.bad by unfold hd6 hd5 hd4 hd3 hd2; rw [e2, intR_bad, intR_bad, textR_bad, numR_bad]) no
  have e2 : (hd2 r).f = false := e2
  have s2 : (hd2 r).s.size + ((textS (hd1 r)).size + 1) ≤ (hd1 r).s.size := s2
  rcases intR_took e2 with e3 | ⟨e3, s3⟩
  · exact absurd (show hd6 r = RS.bad by unfold hd6 hd5 hd4 hd3; rw [e3, intR_bad, textR_bad, numR_bad]) no
  have e3 : (hd3 r).f = false := e3
  have s3 : (hd3 r).s.size + 1 ≤ (hd2 r).s.size := s3
  rcases intR_took e3 with e4 | ⟨e4, s4⟩
  · exact absurd (show hd6 r = RS.bad by unfold hd6 hd5 hd4; rw [e4, textR_bad, numR_bad]) no
  have e4 : (hd4 r).f = false := e4
  have s4 : (hd4 r).s.size + 1 ≤ (hd3 r).s.size := s4
  rcases textR_took e4 with e5 | ⟨e5, s5⟩
  · exact absurd (show hd6 r = RS.bad by unfold hd6 hd5; rw [e5, numR_bad]) no
  have e5 : (hd5 r).f = false := e5
  have s5 : (hd5 r).s.size + ((textS (hd4 r)).size + 1) ≤ (hd4 r).s.size := s5
  rcases numR_took e5 with e6 | ⟨e6, s6⟩
  · exact absurd (show hd6 r = RS.bad by unfold hd6; rw [e6]) no
  have s6 : (hd6 r).s.size + 1 ≤ (hd5 r).s.size := s6
  exact ⟨e6, by omega⟩
theorem intV_range (r : RS) : -1152921504606846976 ≤ intV r ∧ intV r ≤ 1152921504606846976 := by
  unfold intV
  cases h : intBad (numV r) with
  | true => simp
  | false =>
    unfold intBad at h
    simp only [decide_eq_false_iff_not] at h
    simp only [Bool.false_eq_true, if_false]
    omega
/-- what a decoded value is: twice the bytes that it took bound it -/
def DecFine (r : RS) (v : V) (r' : RS) : Prop := r'.f = false ∧ v.bulk + 2 * r'.s.size ≤ 2 * r.s.size ∧ v.Wf ∧ v.All EncOk
def DecFineL (r : RS) (l : List V) (r' : RS) : Prop := r'.f = false ∧ bulkV l + 2 * r'.s.size ≤ 2 * r.s.size ∧ WfV l ∧ AllV EncOk l
theorem decLoop_fine {d : RS → Nat → Option (V × RS × Nat)} (hd : ∀ r left v r' l', r.f = false → r.s.size ≤ 4294967296 → d r left = some (v, r', l') → DecFine r v r') : ∀ (c : Nat) (r : RS) (left : Nat) (l : List V) (r' : RS) (l' : Nat), r.f = false → r.s.size ≤ 4294967296 → decLoop d c r left = some (l, r', l') → DecFineL r l r'
  | 0, r, left, l, r', l', hf, _, h => by
    rw [decLoop] at h; cases h
    exact ⟨hf, by rw [bulkV]; omega, by rw [WfV]; trivial, by rw [AllV]; trivial⟩
  | c + 1, r, left, l, r', l', hf, hz, h => by
    rw [decLoop] at h
    cases h1 : d r left with
    | none => rw [h1] at h; cases h
    | some p =>
      obtain ⟨v, r1, l1⟩ := p
      rw [h1, Option.bind_some] at h
      cases h2 : decLoop d c r1 l1 with
      | none => rw [h2] at h; cases h
      | some q =>
        obtain ⟨l2, r2, k2⟩ := q
        rw [h2] at h
        cases h
        obtain ⟨a1, a2, a3, a4⟩ := hd _ _ _ _ _ hf hz h1
        obtain ⟨b1, b2, b3, b4⟩ := decLoop_fine hd c r1 l1 _ _ _ a1 (by omega) h2
        refine ⟨b1, ?_, ?_, ?_⟩
        · show bulkV (v :: l2) + 2 * r2.s.size ≤ 2 * r.s.size
          rw [bulkV_cons]; omega
        · show WfV (v :: l2)
          rw [WfV]; exact ⟨a3, b3⟩
        · show AllV EncOk (v :: l2)
          rw [AllV]; exact ⟨a4, b4⟩
theorem textS_size (r : RS) : (textS r).size ≤ r.s.size := by
  unfold textS takeS
  split
  · exact Nat.zero_le _
  · have := numR_size r
    rw [ByteArray.size_extract]; omega
theorem decS_fine : ∀ (F : Nat) (r : RS) (left : Nat) (v : V) (r' : RS) (l' : Nat), r.f = false → r.s.size ≤ 4294967296 → decS F r left = some (v, r', l') → DecFine r v r'
  | 0, _, _, _, _, _, _, _, h => by rw [decS] at h; cases h
  | F + 1, r, left, v, r', l', hf, hz, h => by
    rw [decS] at h
    split at h
    · cases h
    · cases hh : headNo r (left - 1) with
      | true => rw [hh] at h; cases h
      | false =>
        rw [hh] at h
        simp only [Bool.false_eq_true, if_false] at h
        obtain ⟨e1, e2⟩ := head_took hf hh
        cases h2 : decLoop (decS F) (numV (hd5 r)) (hd6 r) (left - 1) with
        | none => rw [h2] at h; cases h
        | some q =>
          obtain ⟨l2, r2, k2⟩ := q
          rw [h2] at h
          cases h
          obtain ⟨b1, b2, b3, b4⟩ := decLoop_fine (decS_fine F) _ _ _ _ _ _ e1 (by omega) h2
          have n1 := numV_le r
          have n2 := intV_range (hd2 r)
          have n3 := intV_range (hd3 r)
          have z1 := textS_size (hd1 r)
          have z2 := textS_size (hd4 r)
          have n0 : (0 : Int) ≤ (numV r : Int) ∧ (numV r : Int) ≤ 9223372036854775807 := by omega
          have t1 : (textS (hd1 r)).size ≤ 9223372036854775807 := by omega
          have t2 : (textS (hd4 r)).size ≤ 9223372036854775807 := by omega
          refine ⟨b1, ?_, ?_, ?_⟩
          · show (V.mk _ (textS (hd1 r)) _ _ (textS (hd4 r)) l2).bulk + 2 * r2.s.size ≤ 2 * r.s.size
            rw [bulk_mk]; omega
          · show (V.mk (numV r) _ (intV (hd2 r)) (intV (hd3 r)) _ l2).Wf
            rw [V.Wf]
            exact ⟨by omega, by omega, by omega, b3⟩
          · show (V.mk (numV r) (textS (hd1 r)) (intV (hd2 r)) (intV (hd3 r)) (textS (hd4 r)) l2).All EncOk
            rw [V.All]
            exact ⟨⟨n0, n2, n3, t1, t2⟩, b4⟩
end Go.Proofs.YtlbmfgiepcemdaaGreat
