/- Reading a list of events: an event appended to a row of the call's own; what is read. Conditions: those in each statement. Plain laws on the groups that are read: how much an event holds, that its numbers are Go's ints. No walk here. -/
import Derived.Test.YtlbmfgiepcemdaaGreatYEvBytesPEvBytes
import Derived.Test.YtlbmfgiepcemdaaGreatYEvGroup
namespace Go.Proofs.YtlbmfgiepcemdaaGreat
open Go.RowKit

theorem infoE12 : (Tryz.prog.info? 37).map (fun i => (i.zero, i.size, i.bytes)) = some (some (.agg #[.int .i64 0, .string ⟨#[]⟩, .string ⟨#[]⟩, .slice none 0 0, .int .i64 0, .int .i64 0, .string ⟨#[]⟩, .int .i64 0, .int .i64 0, .string ⟨#[]⟩, .slice none 0 0, .int .i64 0]), 12, 160) := by kernel_rfl
def cells12 (x : Ev) (A : Option Addr) (c : Nat) (C : Option Addr) (d : Nat) : List Value := [.int .i64 x.kind, .string x.path, .string x.msg, .slice A x.args.length c, .int .i64 x.ord, .int .i64 x.vk, .string x.vt, .int .i64 x.vn, .int .i64 x.vm, .string x.vx, .slice C x.vl.length d, .int .i64 x.n]
theorem cells12_one (x : Ev) (A : Option Addr) (c : Nat) (C : Option Addr) (d : Nat) : ∀ u ∈ cells12 x A c C d, u.oneCell' = true := by
  intro u hu
  unfold cells12 at hu
  simp only [List.mem_cons, List.not_mem_nil, or_false] at hu
  rcases hu with rfl | rfl | rfl | rfl | rfl | rfl | rfl | rfl | rfl | rfl | rfl | rfl <;> rfl
/-- APPEND OF ONE EVENT ONTO A ROW OF THE CALL's OWN -/
theorem wp_append_ev {w : World} {ops : Array Oper} {rest : List Oper} {o : Oper} {a : Act} {Q : Exit → Act → World → Prop} (hgd : o.guard = none) (s x : Operand)
    (ho : o.op = .call { callee := .builtin .append, args := #[s, x], argTypes := #[22, 22] })
    (B : Nat) (hB : B ≤ w.heap.size) (v : Value) (acc : List Ev) (hs : a.eval s = v) (hO : Owned B 37 12 acc.length (rowsEv acc) w v)
    (ad : Addr) (c : Nat) (y : Ev) (A' : Option Addr) (c' : Nat) (C' : Option Addr) (d' : Nat) (hx : a.eval x = .slice (some ad) 1 c) (hcells : ∀ (j : Nat) (u : Value), (cells12 y A' c' C' d')[j]? = some u → w.cell? (ad.add j) = some u)
    (hr3 : Rd (fun b => Bt B w.heap.size b ∧ some b ≠ v.ownBlock) w (vs y.args) (.slice A' y.args.length c')) (hr10 : Rd (fun b => Bt B w.heap.size b ∧ some b ≠ v.ownBlock) w (vs y.vl) (.slice C' y.vl.length d')) (hlen : acc.length ≤ 2097152)
    (h : ∀ v' w', Owned B 37 12 (acc ++ [y]).length (rowsEv (acc ++ [y])) w' v' → w.grownBy w' v.ownBlock → (∀ q, v'.ownBlock = some q → v.ownBlock = some q ∨ q = w.heap.size) → wpList Tryz.prog ops Q rest (a.put o.dst v') w') : wpList Tryz.prog ops Q (o :: rest) a w := by
  obtain ⟨i0, hi0, hz0, hz1, hz2⟩ := info_parts infoE12
  obtain ⟨xs, hown⟩ := hO.own
  refine wpList_append_lies w hgd s x 22 ho B 37 i0 _ 12 160 Tryz.underlying22 hi0 hz0 hz1 hz2 rfl (by omega) v acc.length xs hs hown ad 1 c (cells12 y A' c' C' d') hx rfl hcells (cells12_one y A' c' C' d') (by omega) (by unfold maxLen; omega) (by omega) hB w.heap.size rfl ?_
  intro g cap w' h2 h3 h4 _
  refine h _ w' ?_ h3 (fun q hq => by
    obtain rfl : g = q := Option.some.inj hq
    exact h4)
  have hl : (acc ++ [y]).length = acc.length + 1 := by simp
  rw [hl]
  refine hO.append hown h2 h3 h4 rfl (fun k hk => ?_) (fun j u hj => ?_)
  · have hx : acc[k]? = some acc[k] := List.getElem?_eq_getElem hk
    rw [rowsEv_get hx, rowsEv_get (l := acc ++ [y]) (i := k) (by rw [List.getElem?_append_left hk]; exact hx)]
  · rw [rowsEv_get (l := acc ++ [y]) (i := acc.length) (x := y) (by rw [List.getElem?_append_right (Nat.le_refl _)]; simp)]
    exact cells_rdEv hr3 hr10 j u hj
/-- the groups up to N events -/
def readGo (N : Nat) : Nat → RS → List Ev → Option (List Ev × RS)
  | 0, _, _ => none
  | F + 1, r, acc =>
    if N ≤ acc.length then some (acc, r)
    else (groupS r).bind fun p => if p.2.1 < 1 ∨ ((N - acc.length : Nat) : Int) < p.2.1 then none else readGo N F p.2.2 (acc ++ List.replicate p.2.1.toNat p.1)
/-- the events that the text holds -/
def readE (s : ByteArray) : Option (List Ev) :=
  if 1048576 < numV ⟨s, false⟩ then none
  else (readGo (numV ⟨s, false⟩) (numV ⟨s, false⟩ + 1) (numR ⟨s, false⟩) []).bind fun p => if doneB p.2 && ((bytesE p.1).toList == s.toList) then some p.1 else none
end Go.Proofs.YtlbmfgiepcemdaaGreat
namespace Go.Proofs.YtlbmfgiepcemdaaGreat

theorem take_sum (r : RS) (n : Int) : (takeS r n).size + (takeR r n).s.size ≤ r.s.size := by
  unfold takeS takeR
  by_cases hc : r.f = true ∨ n < 0 ∨ (r.s.size : Int) < n
  · rw [if_pos hc, if_pos hc]; exact Nat.zero_le _
  · rw [if_neg hc, if_neg hc]
    show (r.s.extract 0 n.toNat).size + (r.s.extract n.toNat r.s.size).size ≤ r.s.size
    rw [ByteArray.size_extract, ByteArray.size_extract]; omega
theorem text_sum (r : RS) : (textS r).size + (textR r).s.size ≤ r.s.size := Nat.le_trans (take_sum _ _) (numR_size r)
theorem readS_sum {r r' : RS} {v : V} (hs : Sane r) (hz : r.s.size ≤ 1048576) (h : readS r = some (v, r')) : Sane r' ∧ v.bulk + 2 * r'.s.size ≤ 2 * r.s.size ∧ v.Wf ∧ v.All EncOk ∧ rightP nodeP v = true := by
  rcases hs with hs | hs
  · obtain ⟨⟨f1, f2, f3, f4⟩, f5⟩ := readS_fine hs (by omega) h
    exact ⟨.inl f1, f2, f3, f4, f5⟩
  · unfold readS at h
    rw [decS, if_pos (.inr hs)] at h
    cases h
theorem rdLoop_sum : ∀ (c : Nat) (r : RS) (l : List V) (r' : RS), Sane r → r.s.size ≤ 1048576 → rdLoop c r = some (l, r') → Sane r' ∧ bulkV l + 2 * r'.s.size ≤ 2 * r.s.size ∧ WfV l ∧ l.length = c
  | 0, r, l, r', hs, _, h => by
    rw [rdLoop] at h; cases h
    exact ⟨hs, by rw [bulkV]; omega, by rw [WfV]; trivial, rfl⟩
  | c + 1, r, l, r', hs, hz, h => by
    rw [rdLoop] at h
    cases h1 : readS r with
    | none => rw [h1] at h; cases h
    | some p =>
      obtain ⟨v, r1⟩ := p
      obtain ⟨a1, a2, a3, _, _⟩ := readS_sum hs hz h1
      rw [h1, Option.bind_some] at h
      cases h2 : rdLoop c r1 with
      | none => rw [h2] at h; cases h
      | some q =>
        obtain ⟨l1, r2⟩ := q
        obtain ⟨b1, b2, b3, b4⟩ := rdLoop_sum c r1 l1 r2 a1 (by omega) h2
        rw [h2] at h
        cases h
        exact ⟨b1, by show bulkV (v :: l1) + 2 * r2.s.size ≤ _; rw [bulkV_cons]; omega, by rw [WfV]; exact ⟨a3, b3⟩, by simp [b4]⟩
theorem wfV_nil : WfV [] := by rw [WfV]; trivial
theorem simple_sum (a b : Int) (h1 : -9223372036854775808 ≤ a) (h2 : a ≤ 9223372036854775807) (h3 : -9223372036854775808 ≤ b) (h4 : b ≤ 9223372036854775807) : (evN a b).size = 23 ∧ (evN a b).Wf := by
  have hz : ((-9223372036854775808 : Int) ≤ 0 ∧ (0 : Int) ≤ 9223372036854775807) := ⟨by omega, by omega⟩
  refine ⟨?_, ⟨h1, h2⟩, hz, ⟨h3, h4⟩, wfV_nil, ?_⟩
  · unfold Ev.size Ev.val evN; rw [bulk_mk]; dsimp only; rw [bulkV]; rfl
  · unfold Ev.val evN; rw [V.Wf]; exact ⟨hz, hz, hz, wfV_nil⟩
theorem groupS_sum {r r' : RS} {x : Ev} {k : Int} (hs : Sane r) (hz : r.s.size ≤ 1048576) (h : groupS r = some (x, k, r')) : Sane r' ∧ x.size + 2 * r'.s.size ≤ 30 + 2 * r.s.size ∧ x.Wf ∧ k ≤ 9223372036854775807 := by
  have n1 := numV_le r
  have n2 := numV_le (numR r)
  have s1 := numR_size r
  have s2 := numR_size (numR r)
  have t1 := text_sum (numR r)
  have t2 := text_sum (grL1 r)
  have t3 := numR_size (grL2 r)
  have hz0 : ((-9223372036854775808 : Int) ≤ 0 ∧ (0 : Int) ≤ 9223372036854775807) := ⟨by omega, by omega⟩
  unfold groupS at h
  split at h
  · cases h
  split at h
  · cases h
    obtain ⟨a, b⟩ := simple_sum 2 0 (by omega) (by omega) (by omega) (by omega)
    exact ⟨sane_num (sane_num hs), by omega, b, by omega⟩
  split at h
  · cases h
    obtain ⟨a, b⟩ := simple_sum 3 0 (by omega) (by omega) (by omega) (by omega)
    exact ⟨sane_num (sane_num hs), by omega, b, by omega⟩
  split at h
  · cases h
    obtain ⟨a, b⟩ := simple_sum (numV r) (numV (numR r)) (by omega) (by omega) (by omega) (by omega)
    exact ⟨sane_num (sane_num hs), by omega, b, by omega⟩
  have hsl : Sane (grL3 r) := sane_num (r := grL2 r) sane_text
  have q1 : (grL1 r).s.size = (textR (numR r)).s.size := rfl
  have q2 : (grL2 r).s.size = (textR (grL1 r)).s.size := rfl
  have q3 : (grL3 r).s.size = (numR (grL2 r)).s.size := rfl
  have hz3 : (grL3 r).s.size ≤ 1048576 := by omega
  split at h
  · split at h
    · cases h
    cases h1 : rdLoop (numV (grL2 r)) (grL3 r) with
    | none => rw [h1] at h; cases h
    | some p =>
      obtain ⟨l, r1⟩ := p
      obtain ⟨b1, b2, b3, b4⟩ := rdLoop_sum _ _ _ _ hsl hz3 h1
      rw [h1] at h
      cases h
      refine ⟨b1, ?_, ⟨⟨by show (-9223372036854775808 : Int) ≤ 1; omega, by show (1 : Int) ≤ _; omega⟩, hz0, hz0, b3, ?_⟩, by omega⟩
      · have e : (evA (textS (numR r)) (textS (grL1 r)) l).size = 16 + (textS (numR r)).size + (textS (grL1 r)).size + bulkV l + 7 := by
          unfold Ev.size Ev.val evA; rw [bulk_mk]; dsimp only; rw [bulkV]; rfl
        show (evA (textS (numR r)) (textS (grL1 r)) l).size + 2 * r1.s.size ≤ _
        rw [e]; omega
      · unfold Ev.val evA; rw [V.Wf]; exact ⟨hz0, hz0, hz0, wfV_nil⟩
  split at h
  · split at h
    · cases h
    cases h1 : rdLoop (numV (grL2 r)) (grL3 r) with
    | none => rw [h1] at h; cases h
    | some p =>
      obtain ⟨l, r1⟩ := p
      obtain ⟨b1, b2, b3, b4⟩ := rdLoop_sum _ _ _ _ hsl hz3 h1
      rw [h1, Option.bind_some] at h
      have u1 := numR_size r1
      have u2 := numV_le r1
      cases h2 : readS (numR r1) with
      | none => rw [h2] at h; cases h
      | some q =>
        obtain ⟨v, r2⟩ := q
        obtain ⟨c1, c2, c3, _, _⟩ := readS_sum (sane_num b1) (by omega) h2
        rw [h2] at h
        cases h
        refine ⟨c1, ?_, ⟨⟨by show (-9223372036854775808 : Int) ≤ 4; omega, by show (4 : Int) ≤ _; omega⟩, ⟨by show (-9223372036854775808 : Int) ≤ (numV r1 : Int); omega, by show (numV r1 : Int) ≤ _; omega⟩, hz0, b3, ?_⟩, by omega⟩
        · obtain ⟨kk, tt, nn, mm, ss, ll⟩ := v
          have e : (evB (textS (numR r)) (textS (grL1 r)) l (numV r1) (.mk kk tt nn mm ss ll)).size = 16 + (textS (numR r)).size + (textS (grL1 r)).size + bulkV l + (V.mk kk tt nn mm ss ll).bulk := rfl
          show (evB (textS (numR r)) (textS (grL1 r)) l (numV r1) (.mk kk tt nn mm ss ll)).size + 2 * r2.s.size ≤ _
          rw [e]; omega
        · obtain ⟨kk, tt, nn, mm, ss, ll⟩ := v
          exact c3
  · cases h
end Go.Proofs.YtlbmfgiepcemdaaGreat
