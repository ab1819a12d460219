/- ref12.Nodes, nodes, Right: they come to what value.Right comes to. Conditions: those in each statement. -/
import Derived.Test.YtlnfdpdancolmaaDoorYR12M
namespace Go.Proofs.YtlnfdpdancolmaaDoor
open Go.RowKit

mutual
/-- the number of nodes -/
def V.count : V → Nat
  | .mk _ _ _ _ _ l => 1 + countV l
def countV : List V → Nat
  | [] => 0
  | v :: r => v.count + countV r
end
mutual
def allN (p : V → Bool) : V → Bool
  | .mk k t n m s l => allNs p l && p (.mk k t n m s l)
def allNs (p : V → Bool) : List V → Bool
  | [] => true
  | v :: r => allN p v && allNs p r
end
mutual
theorem count_bulk : ∀ v : V, 7 * v.count ≤ v.bulk
  | .mk k t n m s l => by have := countV_bulk l; rw [V.count, bulk_mk]; omega
theorem countV_bulk : ∀ l : List V, 7 * countV l ≤ bulkV l
  | [] => by simp [countV]
  | v :: r => by have := count_bulk v; have := countV_bulk r; rw [countV, bulkV_cons]; omega
end
theorem countV_snoc : ∀ (l : List V) (k : Nat) (v : V), l[k]? = some v → countV (l.take (k + 1)) = countV (l.take k) + v.count
  | [], k, v, h => by simp at h
  | x :: r, 0, v, h => by simp at h; subst h; simp [countV]
  | x :: r, k + 1, v, h => by
    have := countV_snoc r k v (by simpa using h)
    rw [List.take_succ_cons, countV, this, List.take_succ_cons, countV]; omega
theorem countV_take : ∀ (l : List V) (k : Nat), countV (l.take k) ≤ countV l
  | [], k => by simp
  | x :: r, 0 => by simp [countV]
  | x :: r, k + 1 => by have := countV_take r k; rw [List.take_succ_cons, countV, countV]; omega
theorem countV_get : ∀ (l : List V) (i : Nat) (v : V), l[i]? = some v → v.count ≤ countV l
  | [], i, v, h => by simp at h
  | x :: r, 0, v, h => by simp at h; subst h; rw [countV]; omega
  | x :: r, i + 1, v, h => by have := countV_get r i v (by simpa using h); rw [countV]; omega
theorem countV_len : ∀ l : List V, l.length ≤ countV l
  | [] => by simp
  | .mk k t n m s l :: r => by have := countV_len r; rw [countV, V.count, List.length_cons]; omega
theorem allNs_iff (p : V → Bool) : ∀ l : List V, allNs p l = true ↔ ∀ (i : Nat) (v : V), l[i]? = some v → allN p v = true
  | [] => by simp [allNs]
  | x :: r => by
    rw [allNs, Bool.and_eq_true, allNs_iff p r]
    constructor
    · rintro ⟨h1, h2⟩ i v hv
      cases i with
      | zero => simp at hv; subst hv; exact h1
      | succ i => exact h2 i v (by simpa using hv)
    · intro h
      exact ⟨h 0 x rfl, fun i v hv => h (i + 1) v (by simpa using hv)⟩
mutual
/-- value.valid: all nodes are right, and there is room for them -/
theorem validV_iff (p : V → Bool) : ∀ (v : V) (a : Nat), ((validV p v a).1 = true ↔ v.count ≤ a ∧ allN p v = true) ∧ ((validV p v a).1 = true → (validV p v a).2 = a - v.count)
  | .mk k t n m s l, a => by
    have ih := validL_iff p l (a - 1)
    rw [validV, V.count, allN]
    by_cases hc : a = 0 ∨ p (.mk k t n m s l) = false
    · rw [if_pos hc]
      refine ⟨⟨fun h => (by cases h), fun ⟨h1, h2⟩ => ?_⟩, fun h => (by cases h)⟩
      rcases hc with rfl | hc
      · omega
      · rw [hc, Bool.and_false] at h2; cases h2
    · rw [if_neg hc]
      have ha : ¬ a = 0 := fun h => hc (.inl h)
      have hp : p (.mk k t n m s l) = true := by
        cases h : p (.mk k t n m s l) with
        | true => rfl
        | false => exact absurd (.inr h) hc
      rw [hp, Bool.and_true]
      refine ⟨⟨fun h => ?_, fun ⟨h1, h2⟩ => ih.1.2 ⟨by omega, h2⟩⟩, fun h => ?_⟩
      · obtain ⟨h1, h2⟩ := ih.1.1 h
        exact ⟨by omega, h2⟩
      · rw [ih.2 h]; omega
theorem validL_iff (p : V → Bool) : ∀ (l : List V) (a : Nat), ((validL p l a).1 = true ↔ countV l ≤ a ∧ allNs p l = true) ∧ ((validL p l a).1 = true → (validL p l a).2 = a - countV l)
  | [], a => by rw [validL, countV, allNs]; exact ⟨⟨fun _ => ⟨by omega, rfl⟩, fun _ => rfl⟩, fun _ => rfl⟩
  | v :: r, a => by
    have ih := validV_iff p v a
    rw [validL, countV, allNs]
    by_cases hc : (validV p v a).1 = true
    · have ih2 := validL_iff p r (validV p v a).2
      have h2 := ih.2 hc
      obtain ⟨h3, h4⟩ := ih.1.1 hc
      rw [if_pos hc, h4, Bool.true_and]
      refine ⟨⟨fun h => ?_, fun ⟨h5, h6⟩ => ih2.1.2 ⟨by omega, h6⟩⟩, fun h => ?_⟩
      · obtain ⟨h5, h6⟩ := ih2.1.1 h
        exact ⟨by omega, h6⟩
      · rw [ih2.2 h, h2]; omega
    · rw [if_neg hc]
      refine ⟨⟨fun h => (by cases h), fun ⟨h5, h6⟩ => ?_⟩, fun h => (by cases h)⟩
      rw [Bool.and_eq_true] at h6
      exact absurd (ih.1.2 ⟨by omega, h6.1⟩) hc
end
theorem rnodeP_eq (v : V) (h : v.count ≤ 16384) : rnodeP v = nodeP v := by
  cases v with
  | mk k t n m s l =>
    rw [V.count] at h
    have hl := countV_len l
    have hd : decide ((l.length : Int) ≤ 16384) = true := decide_eq_true (by omega)
    unfold rnodeP nodeP rnode6 rnode7 rnode9
    simp only [hd, Bool.true_and]
mutual
theorem allN_eq : ∀ v : V, v.count ≤ 16384 → allN rnodeP v = allN nodeP v
  | .mk k t n m s l, h => by
    have h2 := rnodeP_eq _ h
    rw [V.count] at h
    rw [allN, allN, h2, allNs_eq l (by omega)]
theorem allNs_eq : ∀ l : List V, countV l ≤ 16384 → allNs rnodeP l = allNs nodeP l
  | [], _ => rfl
  | v :: r, h => by
    rw [countV] at h
    rw [allNs, allNs, allN_eq v (by omega), allNs_eq r (by omega)]
end
/-- what ref12.Right comes to -/
theorem rright_eq (v : V) : (decide (v.count ≤ 16384) && allN rnodeP v) = rightP nodeP v := by
  unfold rightP
  have h := (validV_iff nodeP v 16384).1
  by_cases hc : v.count ≤ 16384
  · rw [decide_eq_true hc, Bool.true_and, allN_eq v hc, Bool.eq_iff_iff]
    exact ⟨fun h2 => h.2 ⟨hc, h2⟩, fun h2 => (h.1 h2).2⟩
  · rw [decide_eq_false hc, Bool.false_and]
    cases hv : (validV nodeP v 16384).1 with
    | false => rfl
    | true => exact absurd (h.1 hv).1 hc

set_option maxHeartbeats 4000000 in
theorem rNodes_any : ∀ (N : Nat) (k : Int) (t : ByteArray) (n m : Int) (s : ByteArray) (l : List V) (A : Option Addr) (c : Nat) (w : World), (V.mk k t n m s l).bulk ≤ N → N ≤ 2097152 → Rd (Lt w.heap.size) w (vs l) (.slice A l.length c) →
    Calls Tryd.prog 87 #[.agg #[.int .i64 k, .string t, .int .i64 n, .int .i64 m, .string s, .slice A l.length c]] w fun e w' => e = .returned (.int .i64 ((V.mk k t n m s l).count : Int)) ∧ Below w.heap.size w w' := by
  intro N
  induction N with
  | zero =>
    intro k t n m s l A c w hb
    rw [bulk_mk] at hb
    omega
  | succ N ih =>
    intro k t n m s l A c w hb hN hr
    rw [bulk_mk] at hb
    have hll := bulkV_len l
    have hcb := countV_bulk l
    have HR := Lib.hid hr
    have IH := Lib.hid ih
    clear hr ih
    go_enter Tryd.func87, Tryd.ntmps87
    go_wp2_with fail
    go_loopw [3, 4] (fun s3 s4 wr => ∃ (i q : Nat), i ≤ l.length ∧ s4 = .int .i64 i ∧ s3 = .int .i64 q ∧ q ≤ 2097152 ∧ Hid (q = 1 + countV (l.take i)) ∧ Hid (Below (w.heap.size + 1) (w.alloc (.cells #[.int .i64 k, .string t, .int .i64 n, .int .i64 m, .string s, .slice A l.length c] 52)) wr)) (fun _ s4 _ => l.length - (intOf s4).toNat)
    case atStart => exact ⟨0, 1, by omega, rfl, rfl, by omega, Lib.hid (by simp [countV]), Lib.hid (Below.refl _ _)⟩
    case round =>
      obtain ⟨i, q, hi, rfl, rfl, hq, HQ, HB⟩ := hrel
      have hbx : wr.heap[w.heap.size]? = some (.cells #[.int .i64 k, .string t, .int .i64 n, .int .i64 m, .string s, .slice A l.length c] 52 (0, 0)) := (HB.out.block w.heap.size (by omega)).trans (heap_alloc_new w _)
      have hc5 : wr.cell? ⟨w.heap.size, 5, none⟩ = some (.slice A l.length c) := by rw [Lib.cell_of_heap hbx]; rfl
      clear hbx
      have hbw : Below w.heap.size w wr := ((Below.refl w.heap.size w).alloc (Nat.le_refl _) _).trans (HB.out.mono (by omega))
      by_cases hlt : i < l.length
      · obtain ⟨b, off, kd, t', n', m', s', l', A', c', e, hlb, hget, h2⟩ := vs_at (HR.out.belows hbw) hlt
        subst e
        obtain ⟨c0, c1, c2, c3, c4, c5, r5⟩ := h2
        have hbk := bulkV_get _ _ _ hget
        have hct := countV_get _ _ _ hget
        have hck := countV_take l (i + 1)
        have HS := Lib.hid (countV_snoc _ _ _ hget)
        have HC := Lib.hid (IH.out kd t' n' m' s' l' A' c' wr (by omega) (by omega) r5)
        have hqn : q + (V.mk kd t' n' m' s' l').count ≤ 2097152 := by rw [HQ.out]; have := HS.out; omega
        have HQ2 : Hid (q + (V.mk kd t' n' m' s' l').count = 1 + countV (l.take (i + 1))) := Lib.hid (by rw [HQ.out, HS.out]; omega)
        obtain ⟨x, hx⟩ : ∃ x, (V.mk kd t' n' m' s' l').count = x := ⟨_, rfl⟩
        rw [hx] at HC hqn HQ2
        have hwz : w.heap.size + 1 ≤ wr.heap.size := by have := HB.out.size; simpa using this
        clear r5 hget hx HQ HS hct hck hbw
        go_wp2_with fail
        (with_reducible refine HC.out.mono ?_)
        rintro e w4 ⟨rfl, hb4⟩
        have B4 := Lib.hid (HB.out.trans (hb4.mono hwz))
        clear hb4
        go_wp2_with fail
        exact ⟨⟨i + 1, q + x, by omega, by go_num, by go_num, by omega, HQ2, B4⟩, by simp [intOf]; omega⟩
      · obtain rfl : i = l.length := by omega
        have HE : Hid ((V.mk k t n m s l).count = q) := Lib.hid (by rw [V.count, HQ.out, List.take_length])
        have HBW := Lib.hid hbw
        clear hbw HQ
        go_wp2_with fail
        go_ret
        exact ⟨by rw [HE.out]; rfl, HBW.out⟩

set_option maxHeartbeats 4000000 in
theorem rnodes_any : ∀ (N : Nat) (k : Int) (t : ByteArray) (n m : Int) (s : ByteArray) (l : List V) (A : Option Addr) (c : Nat) (w : World), (V.mk k t n m s l).bulk ≤ N → N ≤ 2097152 → Rd (Lt w.heap.size) w (vs l) (.slice A l.length c) →
    Calls Tryd.prog 88 #[.agg #[.int .i64 k, .string t, .int .i64 n, .int .i64 m, .string s, .slice A l.length c]] w fun e w' => e = .returned (.bool (allN rnodeP (.mk k t n m s l))) ∧ Below w.heap.size w w' := by
  intro N
  induction N with
  | zero =>
    intro k t n m s l A c w hb
    rw [bulk_mk] at hb
    omega
  | succ N ih =>
    intro k t n m s l A c w hb hN hr
    rw [bulk_mk] at hb
    have hll := bulkV_len l
    have HR := Lib.hid hr
    have IH := Lib.hid ih
    have HU : Hid (allN rnodeP (.mk k t n m s l) = (allNs rnodeP l && rnodeP (.mk k t n m s l))) := Lib.hid (by rw [allN])
    have HND := Lib.hid (fun W => rnode_any k t n m s l A c W (by omega) (by omega))
    generalize allN rnodeP (.mk k t n m s l) = R at *
    generalize rnodeP (.mk k t n m s l) = RN at *
    clear hr ih
    go_enter Tryd.func88, Tryd.ntmps88
    go_wp2_with fail
    go_loopw [3] (fun s3 wr => ∃ (i : Nat), i ≤ l.length ∧ s3 = .int .i64 i ∧ Hid (∀ (j : Nat) (v : V), j < i → l[j]? = some v → allN rnodeP v = true) ∧ Hid (Below (w.heap.size + 1) (w.alloc (.cells #[.int .i64 k, .string t, .int .i64 n, .int .i64 m, .string s, .slice A l.length c] 52)) wr)) (fun s3 _ => l.length - (intOf s3).toNat)
    case atStart => exact ⟨0, by omega, rfl, Lib.hid (fun j v h => absurd h (by omega)), Lib.hid (Below.refl _ _)⟩
    case round =>
      obtain ⟨i, hi, rfl, HQ, HB⟩ := hrel
      have hbx : wr.heap[w.heap.size]? = some (.cells #[.int .i64 k, .string t, .int .i64 n, .int .i64 m, .string s, .slice A l.length c] 52 (0, 0)) := (HB.out.block w.heap.size (by omega)).trans (heap_alloc_new w _)
      have hc5 : wr.cell? ⟨w.heap.size, 5, none⟩ = some (.slice A l.length c) := by rw [Lib.cell_of_heap hbx]; rfl
      have hbw : Below w.heap.size w wr := ((Below.refl w.heap.size w).alloc (Nat.le_refl _) _).trans (HB.out.mono (by omega))
      have hwz : w.heap.size + 1 ≤ wr.heap.size := by have := HB.out.size; simpa using this
      by_cases hlt : i < l.length
      · clear hbx
        obtain ⟨b, off, kd, t', n', m', s', l', A', c', e, hlb, hget, h2⟩ := vs_at (HR.out.belows hbw) hlt
        subst e
        obtain ⟨c0, c1, c2, c3, c4, c5, r5⟩ := h2
        have hbk := bulkV_get _ _ _ hget
        have HC := Lib.hid (IH.out kd t' n' m' s' l' A' c' wr (by omega) (by omega) r5)
        have HG := Lib.hid hget
        have HBW := Lib.hid hbw
        clear r5 hget hbw
        cases hq : allN rnodeP (.mk kd t' n' m' s' l') with
        | false =>
          have HE : Hid (R = false) := Lib.hid (by
            rw [HU.out]
            cases hA : allNs rnodeP l with
            | false => rfl
            | true =>
              have := (allNs_iff rnodeP l).1 hA i _ HG.out
              rw [hq] at this; cases this)
          rw [hq] at HC
          clear hq
          go_wp2_with fail
          (with_reducible refine HC.out.mono ?_)
          rintro e w4 ⟨rfl, hb4⟩
          have B4 := Lib.hid (HBW.out.trans (hb4.mono HBW.out.size))
          clear hb4
          go_wp2_with fail
          go_ret
          exact ⟨by rw [HE.out]; rfl, B4.out⟩
        | true =>
          have HQ2 : Hid (∀ (j : Nat) (v : V), j < i + 1 → l[j]? = some v → allN rnodeP v = true) := Lib.hid (fun j v hj hv => by
            rcases Nat.lt_or_eq_of_le (Nat.lt_succ_iff.1 hj) with h | h
            · exact HQ.out j v h hv
            · subst h
              rw [HG.out] at hv
              rw [← Option.some.inj hv]; exact hq)
          rw [hq] at HC
          clear hq HBW
          go_wp2_with fail
          (with_reducible refine HC.out.mono ?_)
          rintro e w4 ⟨rfl, hb4⟩
          have B4 := Lib.hid (HB.out.trans (hb4.mono hwz))
          clear hb4
          go_wp2_with fail
          exact ⟨⟨i + 1, by omega, by go_num, HQ2, B4⟩, by simp [intOf]; omega⟩
      · obtain rfl : i = l.length := by omega
        have HE : Hid (R = RN) := Lib.hid (by
          have hA : allNs rnodeP l = true := (allNs_iff rnodeP l).2 (fun j v hv => HQ.out j v (List.getElem?_eq_some_iff.1 hv).1 hv)
          rw [HU.out, hA, Bool.true_and])
        have HBW := Lib.hid hbw
        have q0 : wr.cell? ⟨w.heap.size, 0, none⟩ = some (.int .i64 k) := by rw [Lib.cell_of_heap hbx]; rfl
        have q1 : wr.cell? ⟨w.heap.size, 1, none⟩ = some (.string t) := by rw [Lib.cell_of_heap hbx]; rfl
        have q2 : wr.cell? ⟨w.heap.size, 2, none⟩ = some (.int .i64 n) := by rw [Lib.cell_of_heap hbx]; rfl
        have q3 : wr.cell? ⟨w.heap.size, 3, none⟩ = some (.int .i64 m) := by rw [Lib.cell_of_heap hbx]; rfl
        have q4 : wr.cell? ⟨w.heap.size, 4, none⟩ = some (.string s) := by rw [Lib.cell_of_heap hbx]; rfl
        clear hbw HQ hbx
        go_wp2_with fail
        (with_reducible refine (HND.out _).mono ?_)
        rintro e w4 ⟨rfl, hb4⟩
        have B4 := Lib.hid (HBW.out.trans (hb4.mono HBW.out.size))
        clear hb4
        go_wp2_with fail
        go_ret
        exact ⟨by rw [HE.out]; rfl, B4.out⟩
end Go.Proofs.YtlnfdpdancolmaaDoor
