/- Plain law: what was written is read again. No walk here. -/
import Derived.Test.YtlbmfgiepcemdaaGreatYEvReadPEvFine
namespace Go.Proofs.YtlbmfgiepcemdaaGreat

theorem nodeP_enc (v : V) (h : nodeP v = true) (hb : v.bulk ≤ 2097152) : EncOk v := by
  obtain ⟨k, t, n, m, s, l⟩ := v
  rw [bulk_mk] at hb
  have ht : t.size ≤ 9223372036854775807 := by omega
  have hs : s.size ≤ 9223372036854775807 := by omega
  have key : (0 ≤ k ∧ k ≤ 10) → (-1152921504606846976 ≤ n ∧ n ≤ 1152921504606846976) → (-1152921504606846976 ≤ m ∧ m ≤ 1152921504606846976) → EncOk (.mk k t n m s l) := fun a b c => ⟨⟨a.1, Int.le_trans a.2 (by omega)⟩, b, c, ht, hs⟩
  rw [nodeP] at h
  split at h
  · subst_vars
    unfold node1 at h
    simp only [Bool.and_eq_true, beq_iff_eq] at h
    exact key (by omega) (by omega) (by omega)
  split at h
  · subst_vars
    unfold node2 at h
    simp only [Bool.and_eq_true, Bool.or_eq_true, beq_iff_eq] at h
    exact key (by omega) (by omega) (by omega)
  split at h
  · subst_vars
    unfold node3 inR at h
    simp only [Bool.and_eq_true, beq_iff_eq, decide_eq_true_eq] at h
    exact key (by omega) (by omega) (by omega)
  split at h
  · subst_vars
    unfold node4 at h
    simp only [Bool.and_eq_true, beq_iff_eq] at h
    exact key (by omega) (by omega) (by omega)
  split at h
  · subst_vars
    unfold node5 at h
    simp only [Bool.and_eq_true, beq_iff_eq] at h
    exact key (by omega) (by omega) (by omega)
  split at h
  · subst_vars
    unfold node6 at h
    simp only [Bool.and_eq_true, beq_iff_eq] at h
    exact key (by omega) (by omega) (by omega)
  split at h
  · subst_vars
    unfold node7 at h
    simp only [Bool.and_eq_true, beq_iff_eq, decide_eq_true_eq] at h
    exact key (by omega) (by omega) (by omega)
  split at h
  · subst_vars
    unfold node8 at h
    simp only [Bool.and_eq_true, beq_iff_eq] at h
    exact key (by omega) (by omega) (by omega)
  split at h
  · subst_vars
    unfold node9 at h
    simp only [Bool.and_eq_true, beq_iff_eq, decide_eq_true_eq] at h
    exact key (by omega) (by omega) (by omega)
  split at h
  · subst_vars
    unfold node10 inR at h
    simp only [Bool.and_eq_true, beq_iff_eq, decide_eq_true_eq] at h
    exact key (by omega) (by omega) (by omega)
  · cases h
mutual
theorem validV_enc : ∀ (v : V) (a : Nat), (validV nodeP v a).1 = true → v.bulk ≤ 2097152 → v.All EncOk ∧ (validV nodeP v a).2 + nodesV v = a
  | .mk k t n m s l, a, h, hb => by
    rw [validV] at h ⊢
    by_cases hc : a = 0 ∨ nodeP (.mk k t n m s l) = false
    · rw [if_pos hc] at h; cases h
    · rw [if_neg hc] at h ⊢
      have h1 : nodeP (.mk k t n m s l) = true := by
        cases hx : nodeP (.mk k t n m s l) with
        | true => rfl
        | false => exact absurd (.inr hx) hc
      have h0 : a ≠ 0 := fun e => hc (.inl e)
      have hl : bulkV l ≤ 2097152 := by rw [bulk_mk] at hb; omega
      obtain ⟨e1, e2⟩ := validL_enc l (a - 1) h hl
      rw [V.All, nodesV]
      exact ⟨⟨nodeP_enc _ h1 hb, e1⟩, by omega⟩
theorem validL_enc : ∀ (l : List V) (a : Nat), (validL nodeP l a).1 = true → bulkV l ≤ 2097152 → AllV EncOk l ∧ (validL nodeP l a).2 + nodesL l = a
  | [], a, _, _ => by rw [validL, AllV, nodesL]; exact ⟨trivial, rfl⟩
  | v :: r, a, h, hb => by
    rw [bulkV_cons] at hb
    rw [validL] at h ⊢
    by_cases hc : (validV nodeP v a).1 = true
    · rw [if_pos hc] at h ⊢
      obtain ⟨e1, e2⟩ := validV_enc v a hc (by omega)
      obtain ⟨e3, e4⟩ := validL_enc r _ h (by omega)
      rw [AllV, nodesL]
      exact ⟨⟨e1, e3⟩, by omega⟩
    · rw [if_neg hc] at h; cases h
end
theorem readS_bytes {v : V} {r : RS} {rest : List UInt8} (hr : rightP nodeP v = true) (hb : v.bulk ≤ 2097152) (h : Holds r ((bytesP nodeP v).data.toList ++ rest)) : ∃ r', readS r = some (v, r') ∧ Holds r' rest := by
  obtain ⟨e1, e2⟩ := validV_enc v 16384 hr hb
  unfold bytesP at h
  rw [if_pos hr] at h
  obtain ⟨r', e3, h'⟩ := dec_enc 16385 v 16384 r rest e1 (by omega) (by omega) (by omega) h
  refine ⟨r', ?_, h'⟩
  unfold readS
  rw [e3, Option.bind_some, if_pos hr]
theorem plain_right {v : V} (h : plainV v = true) : rightP nodeP v = true := by
  unfold plainV at h
  exact (Bool.and_eq_true _ _ ▸ h).1
theorem rdLoop_bytes : ∀ (l : List V) (r : RS) (rest : List UInt8), l.all plainV = true → bulkV l ≤ 2097152 → Holds r (bytesL l ++ rest) → ∃ r', rdLoop l.length r = some (l, r') ∧ Holds r' rest
  | [], r, rest, _, _, h => ⟨r, rfl, h⟩
  | v :: l, r, rest, ha, hb, h => by
    rw [List.all_cons, Bool.and_eq_true] at ha
    rw [bulkV_cons] at hb
    have e : bytesL (v :: l) = (bytesP nodeP v).data.toList ++ bytesL l := rfl
    rw [e, List.append_assoc] at h
    obtain ⟨r1, e1, h1⟩ := readS_bytes (plain_right ha.1) (by omega) h
    obtain ⟨r2, e2, h2⟩ := rdLoop_bytes l r1 rest ha.2 (by omega) h1
    refine ⟨r2, ?_, h2⟩
    rw [List.length_cons, rdLoop, e1, Option.bind_some, e2]; rfl
theorem numB_pos (n : Nat) : 0 < (numB n).size := by
  unfold numB
  rw [strOfNums_size, numI]
  split
  · simp
  · simp
theorem holds_ne {r : RS} {n : Nat} {rest : List UInt8} (h : Holds r ((numB n).data.toList ++ rest)) : ¬ r.s.size = 0 := by
  intro h0
  have h1 := h.2
  have h2 := numB_pos n
  have h3 := congrArg List.length h1
  rw [List.length_append, size_toList, size_toList] at h3
  omega
theorem append_toList (a b : ByteArray) : (a ++ b).data.toList = a.data.toList ++ b.data.toList := by simp
theorem numZ_nat (n : Int) (h : 0 ≤ n) : numZ n = numB n.toNat := by unfold numZ; rw [if_neg (by omega)]
theorem ev_two {x : Ev} {k n : Int} (hk : x.kind = k) (hn : x.n = n) (h : eqE ⟨0, x.path, x.msg, x.args, x.ord, x.vk, x.vt, x.vn, x.vm, x.vx, x.vl, 0⟩ zE = true) : x = evN k n := by
  have := (eqE_iff _ _).1 h
  unfold zE at this
  injection this with _ a1 a2 a3 a4 a5 a6 a7 a8 a9 a10 _
  cases x
  simp only at hk hn a1 a2 a3 a4 a5 a6 a7 a8 a9 a10
  subst_vars
  rfl
theorem right_parts {x : Ev} (h : rightE x = true) : guardE x = true ∧ eqE (restE x) zE = true ∧ x.args.all plainV = true := by
  unfold rightE at h
  simp only [Bool.and_eq_true] at h
  exact h
theorem kind_of {x : Ev} (h : rightE x = true) : x.kind = 1 ∨ x.kind = 2 ∨ x.kind = 3 ∨ x.kind = 4 ∨ x.kind = 5 ∨ x.kind = 6 := by
  have hg := (right_parts h).1
  unfold guardE at hg
  split at hg
  · rename_i h1; rw [beq_iff_eq] at h1; exact .inl h1
  split at hg
  · rename_i h1; rw [beq_iff_eq] at h1; exact .inr (.inr (.inr (.inl h1)))
  split at hg
  · rename_i h1; rw [beq_iff_eq] at h1; exact .inr (.inl h1)
  split at hg
  · rename_i h1; simp only [Bool.or_eq_true, beq_iff_eq] at h1
    rcases h1 with h1 | h1
    · exact .inr (.inr (.inr (.inr (.inl h1))))
    · exact .inr (.inr (.inr (.inr (.inr h1))))
  · rw [beq_iff_eq] at hg; exact .inr (.inr (.inl hg))
/-- a tick -/
theorem right_tick {x : Ev} (h : rightE x = true) (hk : x.kind = 3) : x = evN 3 0 := by
  obtain ⟨_, h2, _⟩ := right_parts h
  unfold restE at h2
  rw [hk] at h2
  have h3 : eqE ⟨0, x.path, x.msg, x.args, x.ord, x.vk, x.vt, x.vn, x.vm, x.vx, x.vl, x.n⟩ zE = true := h2
  have hn : x.n = 0 := by
    have := (eqE_iff _ _).1 h3
    unfold zE at this
    injection this
  rw [hn] at h3
  exact ev_two hk hn h3
theorem right_num {x : Ev} (h : rightE x = true) (hk : x.kind = 2 ∨ x.kind = 5 ∨ x.kind = 6) : x = evN x.kind x.n ∧ 0 ≤ x.n ∧ x.n ≤ 1099511627776 := by
  obtain ⟨h1, h2, _⟩ := right_parts h
  unfold restE at h2
  unfold guardE at h1
  have h3 : eqE ⟨0, x.path, x.msg, x.args, x.ord, x.vk, x.vt, x.vn, x.vm, x.vx, x.vl, 0⟩ zE = true := by
    rcases hk with hk | hk | hk <;> (rw [hk] at h2; exact h2)
  refine ⟨ev_two rfl rfl h3, ?_⟩
  rcases hk with hk | hk | hk
  · rw [hk] at h1
    have : decide (0 ≤ x.n ∧ x.n ≤ 1099511627776) = true := h1
    simpa using this
  · rw [hk] at h1
    have : decide (0 ≤ x.n ∧ x.n < 8) = true := h1
    have := of_decide_eq_true this
    omega
  · rw [hk] at h1
    have : decide (0 ≤ x.n ∧ x.n < 8) = true := h1
    have := of_decide_eq_true this
    omega
theorem letter_parts {x : Ev} (h : letterB x = true) : 1 ≤ x.msg.size ∧ x.msg.size ≤ 200 ∧ x.args.length ≤ 4096 := by
  unfold letterB at h
  rw [Bool.and_eq_true] at h
  exact of_decide_eq_true h.2
theorem right_input {x : Ev} (h : rightE x = true) (hk : x.kind = 1) : x = evA x.path x.msg x.args ∧ x.args.length ≤ 4096 := by
  obtain ⟨h1, h2, _⟩ := right_parts h
  unfold restE at h2
  unfold guardE at h1
  rw [hk] at h1 h2
  have h3 : eqE ⟨0, ⟨#[]⟩, ⟨#[]⟩, [], x.ord, x.vk, x.vt, x.vn, x.vm, x.vx, x.vl, x.n⟩ zE = true := h2
  have := (eqE_iff _ _).1 h3
  unfold zE at this
  injection this with _ _ _ _ a4 a5 a6 a7 a8 a9 a10 a11
  refine ⟨?_, (letter_parts h1).2.2⟩
  cases x
  simp only at hk a4 a5 a6 a7 a8 a9 a10 a11
  subst_vars
  rfl
theorem right_answer {x : Ev} (h : rightE x = true) (hk : x.kind = 4) : x = evB x.path x.msg x.args x.ord x.val ∧ x.args.length ≤ 4096 ∧ (0 ≤ x.ord ∧ x.ord ≤ 1099511627776) ∧ plainV x.val = true := by
  obtain ⟨h1, h2, _⟩ := right_parts h
  unfold restE at h2
  unfold guardE at h1
  rw [hk] at h1 h2
  have h3 : eqE ⟨0, ⟨#[]⟩, ⟨#[]⟩, [], 0, 0, ⟨#[]⟩, 0, 0, ⟨#[]⟩, [], x.n⟩ zE = true := h2
  have h4 : (letterB x && (decide (0 ≤ x.ord ∧ x.ord ≤ 1099511627776) && plainV x.val)) = true := h1
  simp only [Bool.and_eq_true, decide_eq_true_eq] at h4
  have := (eqE_iff _ _).1 h3
  unfold zE at this
  injection this with _ _ _ _ _ _ _ _ _ _ _ a11
  refine ⟨?_, (letter_parts h4.1).2.2, h4.2.1, h4.2.2⟩
  cases x
  simp only at hk a11
  subst_vars
  rfl
/-- WHAT WAS WRITTEN IS READ: one group -/
theorem groupS_group {x : Ev} {n : Nat} {r : RS} {rest : List UInt8} (hx : rightE x = true) (hz : x.size ≤ 2097152) (hn : n ≤ 9223372036854775807) (h1 : groupedE x = false → n = 1) (h : Holds r (groupB x n ++ rest)) : ∃ r', groupS r = some (x, (n : Int), r') ∧ Holds r' rest := by
  unfold groupB at h
  by_cases h3 : x.kind = 3
  · rw [if_pos (by simp [h3]), append_toList, List.append_assoc] at h
    have hne := holds_ne h
    obtain ⟨e1, h⟩ := numR_num (by omega) h
    obtain ⟨e2, h⟩ := numR_num hn h
    refine ⟨_, ?_, h⟩
    unfold groupS
    rw [if_neg hne, if_neg (by omega), if_pos e1, e2, ← right_tick hx h3]
  · rw [if_neg (by simp [h3])] at h
    by_cases hg : groupedE x = true
    · rw [if_pos hg, append_toList, List.append_assoc] at h
      have hne := holds_ne h
      obtain ⟨e1, h⟩ := numR_num (by omega) h
      obtain ⟨e2, h⟩ := numR_num hn h
      refine ⟨_, ?_, h⟩
      unfold groupedE at hg
      simp only [Bool.or_eq_true, Bool.and_eq_true, beq_iff_eq] at hg
      have hk : x.kind = 2 ∧ x.n = 0 := hg.resolve_left h3
      have hxx := (right_num hx (.inl hk.1)).1
      rw [hk.1, hk.2] at hxx
      unfold groupS
      rw [if_neg hne, if_pos e1, e2, ← hxx]
    · obtain rfl := h1 (by simpa using hg)
      rw [if_neg hg] at h
      unfold writeS at h
      have hk := kind_of hx
      rw [numZ_nat _ (by omega)] at h
      have hne := holds_ne (by rw [List.append_assoc] at h; exact h)
      rw [List.append_assoc] at h
      obtain ⟨e1, h⟩ := numR_num (by omega) h
      have e1' : (numV r : Int) = x.kind := by omega
      have hz' := hz
      unfold Ev.size at hz'
      by_cases hk1 : x.kind = 1
      · rw [if_pos (by simp [hk1])] at h
        obtain ⟨hxx, hl⟩ := right_input hx hk1
        unfold letterW at h
        rw [append_toList, append_toList, List.append_assoc, List.append_assoc, List.append_assoc] at h
        obtain ⟨a1, h⟩ := textR_text (by omega) h
        obtain ⟨a2, h⟩ := textR_text (by omega) h
        obtain ⟨a3, h⟩ := numR_num (by omega) h
        obtain ⟨r', a4, h⟩ := rdLoop_bytes x.args _ rest (right_parts hx).2.2 (by omega) h
        refine ⟨r', ?_, h⟩
        unfold groupS grL1 grL2 grL3 grL1 grL2 grL1
        rw [if_neg hne, if_neg (by omega), if_neg (by omega), if_neg (by omega), if_pos (by omega), a1, a2, a3, if_neg (by omega), a4, Option.map_some, ← hxx]; rfl
      · by_cases hk4 : x.kind = 4
        · rw [if_neg (by simp [hk1]), if_pos (by simp [hk4])] at h
          obtain ⟨hxx, hl, ho, hp⟩ := right_answer hx hk4
          unfold letterW at h
          rw [append_toList, append_toList, append_toList, List.append_assoc, List.append_assoc, List.append_assoc, List.append_assoc, List.append_assoc, numZ_nat _ ho.1] at h
          obtain ⟨a1, h⟩ := textR_text (by omega) h
          obtain ⟨a2, h⟩ := textR_text (by omega) h
          obtain ⟨a3, h⟩ := numR_num (by omega) h
          obtain ⟨r1, a4, h⟩ := rdLoop_bytes x.args _ _ (right_parts hx).2.2 (by omega) h
          obtain ⟨a5, h⟩ := numR_num (by omega) h
          obtain ⟨r', a6, h⟩ := readS_bytes (plain_right hp) (by omega) h
          refine ⟨r', ?_, h⟩
          unfold groupS grL1 grL2 grL3 grL1 grL2 grL1
          rw [if_neg hne, if_neg (by omega), if_neg (by omega), if_neg (by omega), if_neg (by omega), if_pos (by omega), a1, a2, a3, if_neg (by omega), a4, Option.bind_some]
          dsimp only
          rw [a6, Option.map_some, a5, Int.toNat_of_nonneg ho.1, ← hxx]; rfl
        · rw [if_neg (by simp [hk1]), if_neg (by simp [hk4])] at h
          have hk' : x.kind = 2 ∨ x.kind = 5 ∨ x.kind = 6 := by omega
          obtain ⟨hxx, hn0, hn1⟩ := right_num hx hk'
          rw [numZ_nat _ hn0] at h
          obtain ⟨a1, h⟩ := numR_num (by omega) h
          refine ⟨_, ?_, h⟩
          unfold groupS
          have a2 : ((numV (numR r) : Nat) : Int) = x.n := by omega
          rw [if_neg hne, if_neg (by omega), if_neg (by omega), if_pos (by omega), e1', a2, ← hxx]; rfl
theorem spanE_le (x : Ev) : ∀ l : List Ev, spanE x l ≤ l.length
  | [] => Nat.le_refl _
  | y :: l => by
    rw [spanE]
    split
    · have := spanE_le x l; rw [List.length_cons]; omega
    · exact Nat.zero_le _
theorem joins_eq {x y : Ev} (hx : rightE x = true) (hy : rightE y = true) (h : joins x y = true) : y = x := by
  unfold joins groupedE at h
  simp only [Bool.or_eq_true, Bool.and_eq_true, beq_iff_eq] at h
  obtain ⟨⟨h1, h2⟩, h3⟩ := h
  by_cases h4 : x.kind = 3
  · rw [right_tick hx h4, right_tick hy (by omega)]
  · obtain ⟨h5, h6⟩ := h1.resolve_left h4
    have h7 := h2.resolve_left (by omega)
    have e1 := (right_num hx (.inl h5)).1
    have e2 := (right_num hy (.inl h7.1)).1
    rw [h5, h6] at e1
    rw [h7.1, h7.2] at e2
    rw [e1, e2]
theorem span_take (x : Ev) (hx : rightE x = true) : ∀ l : List Ev, (∀ y ∈ l, rightE y = true) → l.take (spanE x l) = List.replicate (spanE x l) x
  | [], _ => rfl
  | y :: l, h => by
    rw [spanE]
    by_cases hj : joins x y = true
    · rw [if_pos hj, List.take_succ_cons, List.replicate_succ, span_take x hx l (fun z hz => h z (List.mem_cons_of_mem _ hz)), joins_eq hx (h y List.mem_cons_self) hj]
    · rw [if_neg hj]; rfl
theorem span_one {x : Ev} (hg : groupedE x = false) : ∀ l : List Ev, spanE x l = 0
  | [] => rfl
  | y :: l => by
    rw [spanE, if_neg]
    unfold joins
    rw [hg]; simp
/-- the runs, read one behind the other -/
theorem readGo_runs : ∀ (F : Nat) (l acc : List Ev) (r : RS) (G : Nat) (rest : List UInt8), l.length ≤ F → l.length < G → (∀ x ∈ l, rightE x = true ∧ x.size ≤ 2097152) → acc.length + l.length ≤ 1048576 → Holds r (groupsE (runsE F l) ++ rest) → ∃ r', readGo (acc.length + l.length) G r acc = some (acc ++ l, r') ∧ Holds r' rest
  | F, [], acc, r, G, rest, _, hG, _, _, h => by
    obtain ⟨G', rfl⟩ : ∃ G', G = G' + 1 := ⟨G - 1, by omega⟩
    refine ⟨r, ?_, ?_⟩
    · rw [readGo, if_pos (by simp)]; simp
    · cases F <;> exact h
  | 0, x :: l, _, _, _, _, hF, _, _, _, _ => by simp at hF
  | F + 1, x :: l, acc, r, G, rest, hF, hG, hx, hn, h => by
    obtain ⟨G', rfl⟩ : ∃ G', G = G' + 1 := ⟨G - 1, by omega⟩
    rw [List.length_cons] at hF hG hn
    have hsp := spanE_le x l
    have hxr := hx x List.mem_cons_self
    have e : groupsE (runsE (F + 1) (x :: l)) = groupB x (spanE x l + 1) ++ groupsE (runsE F (l.drop (spanE x l))) := rfl
    rw [e, List.append_assoc] at h
    obtain ⟨r1, e1, h1⟩ := groupS_group (n := spanE x l + 1) hxr.1 hxr.2 (by omega) (fun hg => by rw [span_one hg]) h
    have hd : (l.drop (spanE x l)).length = l.length - spanE x l := List.length_drop
    have ha : (acc ++ List.replicate (spanE x l + 1) x).length = acc.length + (spanE x l + 1) := by simp
    have hlen : (acc ++ List.replicate (spanE x l + 1) x).length + (l.drop (spanE x l)).length = acc.length + (x :: l).length := by rw [ha, hd, List.length_cons]; omega
    obtain ⟨r2, e2, h2⟩ := readGo_runs F (l.drop (spanE x l)) (acc ++ List.replicate (spanE x l + 1) x) r1 G' rest (by omega) (by omega) (fun y hy => hx y (List.mem_cons_of_mem _ (List.mem_of_mem_drop hy))) (by rw [hlen, List.length_cons]; omega) h1
    refine ⟨r2, ?_, h2⟩
    rw [hlen] at e2
    rw [readGo, if_neg (by rw [List.length_cons]; omega), e1, Option.bind_some, if_neg (by dsimp only; rw [List.length_cons]; omega)]
    dsimp only
    rw [Int.toNat_natCast, e2, List.append_assoc]
    have : List.replicate (spanE x l + 1) x ++ List.drop (spanE x l) l = x :: l := by
      rw [List.replicate_succ, List.cons_append, ← span_take x hxr.1 l (fun z hz => (hx z (List.mem_cons_of_mem _ hz)).1), List.take_append_drop]
    rw [this]
theorem doneB_holds {r : RS} (h : Holds r []) : doneB r = true := by
  obtain ⟨h1, h2⟩ := h
  unfold doneB
  rw [h1]
  have : r.s.toList = [] := by rw [ByteArray.toList_eq]; exact h2
  rw [this]; rfl
/-- THE EVENTS THAT WERE WRITTEN ARE READ -/
theorem readE_bytes {l : List Ev} (hl : l.length ≤ 1048576) (h : ∀ x ∈ l, rightE x = true ∧ x.size ≤ 2097152) : readE (bytesE l) = some l := by
  have hall : l.all rightE = true := List.all_eq_true.2 fun x hx => (h x hx).1
  have hb : bytesE l = ⟨((numB l.length).data.toList ++ groupsE (runsE l.length l)).toArray⟩ := by unfold bytesE; rw [if_neg (by omega), if_pos hall]
  have h0 : Holds ⟨bytesE l, false⟩ ((numB l.length).data.toList ++ groupsE (runsE l.length l)) := by rw [hb]; exact ⟨rfl, by simp⟩
  obtain ⟨e1, h1⟩ := numR_num (by omega) h0
  obtain ⟨r2, e2, h2⟩ := readGo_runs l.length l [] (numR ⟨bytesE l, false⟩) (l.length + 1) [] (Nat.le_refl _) (by omega) h (by simpa using hl) (by simpa using h1)
  rw [List.length_nil, Nat.zero_add, List.nil_append] at e2
  unfold readE
  rw [if_neg (by omega), e1, e2, Option.bind_some]
  dsimp only
  rw [doneB_holds h2]; simp
theorem readE_back {s : ByteArray} {l : List Ev} (h : readE s = some l) : bytesE l = s := by
  unfold readE at h
  split at h
  · cases h
  cases h1 : readGo (numV ⟨s, false⟩) (numV ⟨s, false⟩ + 1) (numR ⟨s, false⟩) [] with
  | none => rw [h1] at h; cases h
  | some p =>
    rw [h1, Option.bind_some] at h
    split at h
    · rename_i h2
      cases h
      simp only [Bool.and_eq_true, beq_iff_eq] at h2
      exact bytes_ext h2.2
    · cases h
theorem readE_nil : readE ⟨#[]⟩ = none := by kernel_rfl
/-- a list of valid events has bytes, another has none -/
theorem bytesE_ne {l : List Ev} (hl : l.length ≤ 1048576) : (bytesE l = ⟨#[]⟩) ↔ ¬ l.all rightE = true := by
  unfold bytesE
  rw [if_neg (by omega)]
  constructor
  · intro h hr
    rw [if_pos hr] at h
    have h2 := numB_pos l.length
    have := congrArg (fun b => b.data.toList.length) h
    simp at this
    rw [this.1] at h2
    exact absurd h2 (by decide)
  · intro h; rw [if_neg h]
end Go.Proofs.YtlbmfgiepcemdaaGreat
