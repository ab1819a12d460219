/- ref12.Nodes, nodes, Right: they come to what value.Right comes to. Conditions: those in each statement. ref12.Right, bytes, Bytes: they come to what value.Right and value.Bytes come to. Conditions: those in each statement. -/
import Derived.Test.YtlbmfgiepcemdaaGreatYR12NR12M
import Derived.Lib.QuietBelow
namespace Go.Proofs.YtlbmfgiepcemdaaGreat
open Go.RowKit

mutual
/-- the number of nodes -/
def V.count : V → Nat
  | .mk _ _ _ _ _ l => 1 + countV l
def countV : List V → Nat
  | [] => 0
  | v :: r => v.count + countV r
end
mutual
def allN (p : V → Bool) : V → Bool
  | .mk k t n m s l => allNs p l && p (.mk k t n m s l)
def allNs (p : V → Bool) : List V → Bool
  | [] => true
  | v :: r => allN p v && allNs p r
end
mutual
theorem count_bulk : ∀ v : V, 7 * v.count ≤ v.bulk
  | .mk k t n m s l => by have := countV_bulk l; rw [V.count, bulk_mk]; omega
theorem countV_bulk : ∀ l : List V, 7 * countV l ≤ bulkV l
  | [] => by simp [countV]
  | v :: r => by have := count_bulk v; have := countV_bulk r; rw [countV, bulkV_cons]; omega
end
theorem countV_snoc : ∀ (l : List V) (k : Nat) (v : V), l[k]? = some v → countV (l.take (k + 1)) = countV (l.take k) + v.count
  | [], k, v, h => by simp at h
  | x :: r, 0, v, h => by simp at h; subst h; simp [countV]
  | x :: r, k + 1, v, h => by
    have := countV_snoc r k v (by simpa using h)
    rw [List.take_succ_cons, countV, this, List.take_succ_cons, countV]; omega
theorem countV_take : ∀ (l : List V) (k : Nat), countV (l.take k) ≤ countV l
  | [], k => by simp
  | x :: r, 0 => by simp [countV]
  | x :: r, k + 1 => by have := countV_take r k; rw [List.take_succ_cons, countV, countV]; omega
theorem countV_get : ∀ (l : List V) (i : Nat) (v : V), l[i]? = some v → v.count ≤ countV l
  | [], i, v, h => by simp at h
  | x :: r, 0, v, h => by simp at h; subst h; rw [countV]; omega
  | x :: r, i + 1, v, h => by have := countV_get r i v (by simpa using h); rw [countV]; omega
theorem countV_len : ∀ l : List V, l.length ≤ countV l
  | [] => by simp
  | .mk k t n m s l :: r => by have := countV_len r; rw [countV, V.count, List.length_cons]; omega
theorem allNs_iff (p : V → Bool) : ∀ l : List V, allNs p l = true ↔ ∀ (i : Nat) (v : V), l[i]? = some v → allN p v = true
  | [] => by simp [allNs]
  | x :: r => by
    rw [allNs, Bool.and_eq_true, allNs_iff p r]
    constructor
    · rintro ⟨h1, h2⟩ i v hv
      cases i with
      | zero => simp at hv; subst hv; exact h1
      | succ i => exact h2 i v (by simpa using hv)
    · intro h
      exact ⟨h 0 x rfl, fun i v hv => h (i + 1) v (by simpa using hv)⟩
mutual
/-- value.valid: all nodes are right, and there is room for them -/
theorem validV_iff (p : V → Bool) : ∀ (v : V) (a : Nat), ((validV p v a).1 = true ↔ v.count ≤ a ∧ allN p v = true) ∧ ((validV p v a).1 = true → (validV p v a).2 = a - v.count)
  | .mk k t n m s l, a => by
    have ih := validL_iff p l (a - 1)
    rw [validV, V.count, allN]
    by_cases hc : a = 0 ∨ p (.mk k t n m s l) = false
    · rw [if_pos hc]
      refine ⟨⟨fun h => (by cases h), fun ⟨h1, h2⟩ => ?_⟩, fun h => (by cases h)⟩
      rcases hc with rfl | hc
      · omega
      · rw [hc, Bool.and_false] at h2; cases h2
    · rw [if_neg hc]
      have ha : ¬ a = 0 := fun h => hc (.inl h)
      have hp : p (.mk k t n m s l) = true := by
        cases h : p (.mk k t n m s l) with
        | true => rfl
        | false => exact absurd (.inr h) hc
      rw [hp, Bool.and_true]
      refine ⟨⟨fun h => ?_, fun ⟨h1, h2⟩ => ih.1.2 ⟨by omega, h2⟩⟩, fun h => ?_⟩
      · obtain ⟨h1, h2⟩ := ih.1.1 h
        exact ⟨by omega, h2⟩
      · rw [ih.2 h]; omega
theorem validL_iff (p : V → Bool) : ∀ (l : List V) (a : Nat), ((validL p l a).1 = true ↔ countV l ≤ a ∧ allNs p l = true) ∧ ((validL p l a).1 = true → (validL p l a).2 = a - countV l)
  | [], a => by rw [validL, countV, allNs]; exact ⟨⟨fun _ => ⟨by omega, rfl⟩, fun _ => rfl⟩, fun _ => rfl⟩
  | v :: r, a => by
    have ih := validV_iff p v a
    rw [validL, countV, allNs]
    by_cases hc : (validV p v a).1 = true
    · have ih2 := validL_iff p r (validV p v a).2
      have h2 := ih.2 hc
      obtain ⟨h3, h4⟩ := ih.1.1 hc
      rw [if_pos hc, h4, Bool.true_and]
      refine ⟨⟨fun h => ?_, fun ⟨h5, h6⟩ => ih2.1.2 ⟨by omega, h6⟩⟩, fun h => ?_⟩
      · obtain ⟨h5, h6⟩ := ih2.1.1 h
        exact ⟨by omega, h6⟩
      · rw [ih2.2 h, h2]; omega
    · rw [if_neg hc]
      refine ⟨⟨fun h => (by cases h), fun ⟨h5, h6⟩ => ?_⟩, fun h => (by cases h)⟩
      rw [Bool.and_eq_true] at h6
      exact absurd (ih.1.2 ⟨by omega, h6.1⟩) hc
end
theorem rnodeP_eq (v : V) (h : v.count ≤ 16384) : rnodeP v = nodeP v := by
  cases v with
  | mk k t n m s l =>
    rw [V.count] at h
    have hl := countV_len l
    have hd : decide ((l.length : Int) ≤ 16384) = true := decide_eq_true (by omega)
    unfold rnodeP nodeP rnode6 rnode7 rnode9
    simp only [hd, Bool.true_and]
mutual
theorem allN_eq : ∀ v : V, v.count ≤ 16384 → allN rnodeP v = allN nodeP v
  | .mk k t n m s l, h => by
    have h2 := rnodeP_eq _ h
    rw [V.count] at h
    rw [allN, allN, h2, allNs_eq l (by omega)]
theorem allNs_eq : ∀ l : List V, countV l ≤ 16384 → allNs rnodeP l = allNs nodeP l
  | [], _ => rfl
  | v :: r, h => by
    rw [countV] at h
    rw [allNs, allNs, allN_eq v (by omega), allNs_eq r (by omega)]
end
/-- what ref12.Right comes to -/
theorem rright_eq (v : V) : (decide (v.count ≤ 16384) && allN rnodeP v) = rightP nodeP v := by
  unfold rightP
  have h := (validV_iff nodeP v 16384).1
  by_cases hc : v.count ≤ 16384
  · rw [decide_eq_true hc, Bool.true_and, allN_eq v hc, Bool.eq_iff_iff]
    exact ⟨fun h2 => h.2 ⟨hc, h2⟩, fun h2 => (h.1 h2).2⟩
  · rw [decide_eq_false hc, Bool.false_and]
    cases hv : (validV nodeP v 16384).1 with
    | false => rfl
    | true => exact absurd (h.1 hv).1 hc

set_option maxHeartbeats 4000000 in
theorem rNodes_any : ∀ (N : Nat) (k : Int) (t : ByteArray) (n m : Int) (s : ByteArray) (l : List V) (A : Option Addr) (c : Nat) (w : World), (V.mk k t n m s l).bulk ≤ N → N ≤ 2097152 → Rd (Lt w.heap.size) w (vs l) (.slice A l.length c) →
    Calls Tryz.prog 77 #[.agg #[.int .i64 k, .string t, .int .i64 n, .int .i64 m, .string s, .slice A l.length c]] w fun e w' => e = .returned (.int .i64 ((V.mk k t n m s l).count : Int)) ∧ Below w.heap.size w w' := by
  intro N
  induction N with
  | zero =>
    intro k t n m s l A c w hb
    rw [bulk_mk] at hb
    omega
  | succ N ih =>
    intro k t n m s l A c w hb hN hr
    rw [bulk_mk] at hb
    have hll := bulkV_len l
    have hcb := countV_bulk l
    have HR := Lib.hid hr
    have IH := Lib.hid ih
    clear hr ih
    go_enter Tryz.func77, Tryz.ntmps77
    go_wp2_with fail
    go_loopw [3, 4] (fun s3 s4 wr => ∃ (i q : Nat), i ≤ l.length ∧ s4 = .int .i64 i ∧ s3 = .int .i64 q ∧ q ≤ 2097152 ∧ Hid (q = 1 + countV (l.take i)) ∧ Hid (Below (w.heap.size + 1) (w.alloc (.cells #[.int .i64 k, .string t, .int .i64 n, .int .i64 m, .string s, .slice A l.length c] 35)) wr)) (fun _ s4 _ => l.length - (intOf s4).toNat)
    case atStart => exact ⟨0, 1, by omega, rfl, rfl, by omega, Lib.hid (by simp [countV]), Lib.hid (Below.refl _ _)⟩
    case round =>
      obtain ⟨i, q, hi, rfl, rfl, hq, HQ, HB⟩ := hrel
      have hbx : wr.heap[w.heap.size]? = some (.cells #[.int .i64 k, .string t, .int .i64 n, .int .i64 m, .string s, .slice A l.length c] 35 (0, 0)) := (HB.out.block w.heap.size (by omega)).trans (heap_alloc_new w _)
      have hc5 : wr.cell? ⟨w.heap.size, 5, none⟩ = some (.slice A l.length c) := by rw [Lib.cell_of_heap hbx]; rfl
      clear hbx
      have hbw : Below w.heap.size w wr := ((Below.refl w.heap.size w).alloc (Nat.le_refl _) _).trans (HB.out.mono (by omega))
      by_cases hlt : i < l.length
      · obtain ⟨b, off, kd, t', n', m', s', l', A', c', e, hlb, hget, h2⟩ := vs_at (HR.out.belows hbw) hlt
        subst e
        obtain ⟨c0, c1, c2, c3, c4, c5, r5⟩ := h2
        have hbk := bulkV_get _ _ _ hget
        have hct := countV_get _ _ _ hget
        have hck := countV_take l (i + 1)
        have HS := Lib.hid (countV_snoc _ _ _ hget)
        have HC := Lib.hid (IH.out kd t' n' m' s' l' A' c' wr (by omega) (by omega) r5)
        have hqn : q + (V.mk kd t' n' m' s' l').count ≤ 2097152 := by rw [HQ.out]; have := HS.out; omega
        have HQ2 : Hid (q + (V.mk kd t' n' m' s' l').count = 1 + countV (l.take (i + 1))) := Lib.hid (by rw [HQ.out, HS.out]; omega)
        obtain ⟨x, hx⟩ : ∃ x, (V.mk kd t' n' m' s' l').count = x := ⟨_, rfl⟩
        rw [hx] at HC hqn HQ2
        have hwz : w.heap.size + 1 ≤ wr.heap.size := by have := HB.out.size; simpa using this
        clear r5 hget hx HQ HS hct hck hbw
        go_wp2_with fail
        (with_reducible refine HC.out.mono ?_)
        rintro e w4 ⟨rfl, hb4⟩
        have B4 := Lib.hid (HB.out.trans (hb4.mono hwz))
        clear hb4
        go_wp2_with fail
        exact ⟨⟨i + 1, q + x, by omega, by go_num, by go_num, by omega, HQ2, B4⟩, by simp [intOf]; omega⟩
      · obtain rfl : i = l.length := by omega
        have HE : Hid ((V.mk k t n m s l).count = q) := Lib.hid (by rw [V.count, HQ.out, List.take_length])
        have HBW := Lib.hid hbw
        clear hbw HQ
        go_wp2_with fail
        go_ret
        exact ⟨by rw [HE.out]; rfl, HBW.out⟩

set_option maxHeartbeats 4000000 in
theorem rnodes_any : ∀ (N : Nat) (k : Int) (t : ByteArray) (n m : Int) (s : ByteArray) (l : List V) (A : Option Addr) (c : Nat) (w : World), (V.mk k t n m s l).bulk ≤ N → N ≤ 2097152 → Rd (Lt w.heap.size) w (vs l) (.slice A l.length c) →
    Calls Tryz.prog 78 #[.agg #[.int .i64 k, .string t, .int .i64 n, .int .i64 m, .string s, .slice A l.length c]] w fun e w' => e = .returned (.bool (allN rnodeP (.mk k t n m s l))) ∧ Below w.heap.size w w' := by
  intro N
  induction N with
  | zero =>
    intro k t n m s l A c w hb
    rw [bulk_mk] at hb
    omega
  | succ N ih =>
    intro k t n m s l A c w hb hN hr
    rw [bulk_mk] at hb
    have hll := bulkV_len l
    have HR := Lib.hid hr
    have IH := Lib.hid ih
    have HU : Hid (allN rnodeP (.mk k t n m s l) = (allNs rnodeP l && rnodeP (.mk k t n m s l))) := Lib.hid (by rw [allN])
    have HND := Lib.hid (fun W => rnode_any k t n m s l A c W (by omega) (by omega))
    generalize allN rnodeP (.mk k t n m s l) = R at *
    generalize rnodeP (.mk k t n m s l) = RN at *
    clear hr ih
    go_enter Tryz.func78, Tryz.ntmps78
    go_wp2_with fail
    go_loopw [3] (fun s3 wr => ∃ (i : Nat), i ≤ l.length ∧ s3 = .int .i64 i ∧ Hid (∀ (j : Nat) (v : V), j < i → l[j]? = some v → allN rnodeP v = true) ∧ Hid (Below (w.heap.size + 1) (w.alloc (.cells #[.int .i64 k, .string t, .int .i64 n, .int .i64 m, .string s, .slice A l.length c] 35)) wr)) (fun s3 _ => l.length - (intOf s3).toNat)
    case atStart => exact ⟨0, by omega, rfl, Lib.hid (fun j v h => absurd h (by omega)), Lib.hid (Below.refl _ _)⟩
    case round =>
      obtain ⟨i, hi, rfl, HQ, HB⟩ := hrel
      have hbx : wr.heap[w.heap.size]? = some (.cells #[.int .i64 k, .string t, .int .i64 n, .int .i64 m, .string s, .slice A l.length c] 35 (0, 0)) := (HB.out.block w.heap.size (by omega)).trans (heap_alloc_new w _)
      have hc5 : wr.cell? ⟨w.heap.size, 5, none⟩ = some (.slice A l.length c) := by rw [Lib.cell_of_heap hbx]; rfl
      have hbw : Below w.heap.size w wr := ((Below.refl w.heap.size w).alloc (Nat.le_refl _) _).trans (HB.out.mono (by omega))
      have hwz : w.heap.size + 1 ≤ wr.heap.size := by have := HB.out.size; simpa using this
      by_cases hlt : i < l.length
      · clear hbx
        obtain ⟨b, off, kd, t', n', m', s', l', A', c', e, hlb, hget, h2⟩ := vs_at (HR.out.belows hbw) hlt
        subst e
        obtain ⟨c0, c1, c2, c3, c4, c5, r5⟩ := h2
        have hbk := bulkV_get _ _ _ hget
        have HC := Lib.hid (IH.out kd t' n' m' s' l' A' c' wr (by omega) (by omega) r5)
        have HG := Lib.hid hget
        have HBW := Lib.hid hbw
        clear r5 hget hbw
        cases hq : allN rnodeP (.mk kd t' n' m' s' l') with
        | false =>
          have HE : Hid (R = false) := Lib.hid (by
            rw [HU.out]
            cases hA : allNs rnodeP l with
            | false => rfl
            | true =>
              have := (allNs_iff rnodeP l).1 hA i _ HG.out
              rw [hq] at this; cases this)
          rw [hq] at HC
          clear hq
          go_wp2_with fail
          (with_reducible refine HC.out.mono ?_)
          rintro e w4 ⟨rfl, hb4⟩
          have B4 := Lib.hid (HBW.out.trans (hb4.mono HBW.out.size))
          clear hb4
          go_wp2_with fail
          go_ret
          exact ⟨by rw [HE.out]; rfl, B4.out⟩
        | true =>
          have HQ2 : Hid (∀ (j : Nat) (v : V), j < i + 1 → l[j]? = some v → allN rnodeP v = true) := Lib.hid (fun j v hj hv => by
            rcases Nat.lt_or_eq_of_le (Nat.lt_succ_iff.1 hj) with h | h
            · exact HQ.out j v h hv
            · subst h
              rw [HG.out] at hv
              rw [← Option.some.inj hv]; exact hq)
          rw [hq] at HC
          clear hq HBW
          go_wp2_with fail
          (with_reducible refine HC.out.mono ?_)
          rintro e w4 ⟨rfl, hb4⟩
          have B4 := Lib.hid (HB.out.trans (hb4.mono hwz))
          clear hb4
          go_wp2_with fail
          exact ⟨⟨i + 1, by omega, by go_num, HQ2, B4⟩, by simp [intOf]; omega⟩
      · obtain rfl : i = l.length := by omega
        have HE : Hid (R = RN) := Lib.hid (by
          have hA : allNs rnodeP l = true := (allNs_iff rnodeP l).2 (fun j v hv => HQ.out j v (List.getElem?_eq_some_iff.1 hv).1 hv)
          rw [HU.out, hA, Bool.true_and])
        have HBW := Lib.hid hbw
        have q0 : wr.cell? ⟨w.heap.size, 0, none⟩ = some (.int .i64 k) := by rw [Lib.cell_of_heap hbx]; rfl
        have q1 : wr.cell? ⟨w.heap.size, 1, none⟩ = some (.string t) := by rw [Lib.cell_of_heap hbx]; rfl
        have q2 : wr.cell? ⟨w.heap.size, 2, none⟩ = some (.int .i64 n) := by rw [Lib.cell_of_heap hbx]; rfl
        have q3 : wr.cell? ⟨w.heap.size, 3, none⟩ = some (.int .i64 m) := by rw [Lib.cell_of_heap hbx]; rfl
        have q4 : wr.cell? ⟨w.heap.size, 4, none⟩ = some (.string s) := by rw [Lib.cell_of_heap hbx]; rfl
        clear hbw HQ hbx
        go_wp2_with fail
        (with_reducible refine (HND.out _).mono ?_)
        rintro e w4 ⟨rfl, hb4⟩
        have B4 := Lib.hid (HBW.out.trans (hb4.mono HBW.out.size))
        clear hb4
        go_wp2_with fail
        go_ret
        exact ⟨by rw [HE.out]; rfl, B4.out⟩
end Go.Proofs.YtlbmfgiepcemdaaGreat
namespace Go.Proofs.YtlbmfgiepcemdaaGreat
open Go.RowKit Go.Sort

set_option maxHeartbeats 1000000 in
theorem rright_any (k : Int) (t : ByteArray) (n m : Int) (s : ByteArray) (l : List V) (A : Option Addr) (c : Nat) (w : World) (hb : (V.mk k t n m s l).bulk ≤ 2097152) (hr : Rd (Lt w.heap.size) w (vs l) (.slice A l.length c)) :
    Calls Tryz.prog 55 #[.agg #[.int .i64 k, .string t, .int .i64 n, .int .i64 m, .string s, .slice A l.length c]] w fun e w' => e = .returned (.bool (rightP nodeP (.mk k t n m s l))) ∧ Below w.heap.size w w' := by
  have HR := Lib.hid hr
  have HC := Lib.hid (fun W h => rNodes_any _ k t n m s l A c W (Nat.le_refl _) hb h)
  have HD := Lib.hid (fun W h => rnodes_any _ k t n m s l A c W (Nat.le_refl _) hb h)
  have HU := Lib.hid (rright_eq (.mk k t n m s l))
  have hcb := count_bulk (.mk k t n m s l)
  clear hr
  generalize (V.mk k t n m s l).count = q at *
  generalize rightP nodeP (.mk k t n m s l) = R at *
  generalize allN rnodeP (.mk k t n m s l) = RN at *
  by_cases hq : q ≤ 16384
  · have HE : Hid (R = RN) := Lib.hid (by rw [← HU.out, decide_eq_true hq, Bool.true_and])
    have hq' : (q : Int) ≤ 16384 := by omega
    go_enter Tryz.func55, Tryz.ntmps55
    go_wp2_with fail
    (with_reducible refine (HC.out _ ?_).mono ?_)
    · exact HR.out.allocs _
    rintro e w1 ⟨rfl, hb1⟩
    have hbx : w1.heap[w.heap.size]? = some (.cells #[.int .i64 k, .string t, .int .i64 n, .int .i64 m, .string s, .slice A l.length c] 35 (0, 0)) := (hb1.block w.heap.size (by simp)).trans (heap_alloc_new w _)
    have c0 : w1.cell? ⟨w.heap.size, 0, none⟩ = some (.int .i64 k) := by rw [Lib.cell_of_heap hbx]; rfl
    have c1 : w1.cell? ⟨w.heap.size, 1, none⟩ = some (.string t) := by rw [Lib.cell_of_heap hbx]; rfl
    have c2 : w1.cell? ⟨w.heap.size, 2, none⟩ = some (.int .i64 n) := by rw [Lib.cell_of_heap hbx]; rfl
    have c3 : w1.cell? ⟨w.heap.size, 3, none⟩ = some (.int .i64 m) := by rw [Lib.cell_of_heap hbx]; rfl
    have c4 : w1.cell? ⟨w.heap.size, 4, none⟩ = some (.string s) := by rw [Lib.cell_of_heap hbx]; rfl
    have c5 : w1.cell? ⟨w.heap.size, 5, none⟩ = some (.slice A l.length c) := by rw [Lib.cell_of_heap hbx]; rfl
    have HB := Lib.hid (((Below.refl _ _).alloc (Nat.le_refl w.heap.size) _).trans (hb1.mono (by simp)))
    have R1 := Lib.hid ((HR.out.allocs _).belows hb1)
    clear hb1 hbx
    go_wp2_with fail
    (with_reducible refine (HD.out _ R1.out).mono ?_)
    rintro e w2 ⟨rfl, hb2⟩
    have HB2 := Lib.hid (HB.out.trans (hb2.mono HB.out.size))
    clear hb2
    go_wp2_with fail
    go_ret
    exact ⟨by rw [HE.out]; rfl, HB2.out⟩
  · have HE : Hid (R = false) := Lib.hid (by rw [← HU.out, decide_eq_false hq, Bool.false_and])
    have hq' : ¬ (q : Int) ≤ 16384 := by omega
    have hq2 : decide ((q : Int) ≤ 16384) = false := decide_eq_false hq'
    go_enter Tryz.func55, Tryz.ntmps55
    go_wp2_with fail
    (with_reducible refine (HC.out _ ?_).mono ?_)
    · exact HR.out.allocs _
    rintro e w1 ⟨rfl, hb1⟩
    have HB := Lib.hid (((Below.refl _ _).alloc (Nat.le_refl w.heap.size) _).trans (hb1.mono (by simp)))
    clear hb1
    go_wp2_with fail
    go_ret
    exact ⟨by rw [HE.out]; rfl, HB.out⟩

theorem bytes_mk_toList (s : ByteArray) : (⟨s.data.toList.toArray⟩ : ByteArray) = s := by
  apply bytes_ext
  rw [ByteArray.toList_eq]
theorem bytesVs_take_len (l : List V) (i : Nat) : (bytesVs (l.take i)).length ≤ 9 * bulkV l := Nat.le_trans (bytesVs_len _) (Nat.mul_le_mul_left _ (bulkV_take l i))

set_option maxHeartbeats 4000000 in
set_option maxRecDepth 100000 in
theorem rbytes_any : ∀ (N : Nat) (k : Int) (t : ByteArray) (n m : Int) (s : ByteArray) (l : List V) (A : Option Addr) (c : Nat) (w : World), (V.mk k t n m s l).bulk ≤ N → N ≤ 2097152 → (V.mk k t n m s l).Wf → Rd (Lt w.heap.size) w (vs l) (.slice A l.length c) →
    Calls Tryz.prog 72 #[.agg #[.int .i64 k, .string t, .int .i64 n, .int .i64 m, .string s, .slice A l.length c]] w fun e w' => e = .returned (.string ⟨(bytesV (.mk k t n m s l)).toArray⟩) ∧ Below w.heap.size w w' := by
  intro N
  induction N with
  | zero =>
    intro k t n m s l A c w hb
    rw [bulk_mk] at hb
    omega
  | succ N ih =>
    intro k t n m s l A c w hb hN hwf hr
    rw [bulk_mk] at hb
    rw [V.Wf] at hwf
    obtain ⟨⟨k0, k1⟩, ⟨n0, n1⟩, ⟨m0, m1⟩, hwl⟩ := hwf
    have hll := bulkV_len l
    have HR := Lib.hid hr
    have IH := Lib.hid ih
    have HW := Lib.hid hwl
    have h0 := numZ_size k
    have h1 := textB_size t
    have h2 := intB_size n
    have h3 := intB_size m
    have h4 := textB_size s
    have h5 := numB_size l.length
    obtain ⟨W, hW⟩ : ∃ W, w.alloc (.cells #[.int .i64 k, .string t, .int .i64 n, .int .i64 m, .string s, .slice A l.length c] 35) = W := ⟨_, rfl⟩
    have hbx : W.heap[w.heap.size]? = some (.cells #[.int .i64 k, .string t, .int .i64 n, .int .i64 m, .string s, .slice A l.length c] 35 (0, 0)) := by rw [← hW]; exact heap_alloc_new w _
    have HBX := Lib.hid hbx
    have HWB : Hid (Below w.heap.size w W) := Lib.hid (by rw [← hW]; exact (Below.refl _ _).alloc (Nat.le_refl _) _)
    have HWZ : Hid (W.heap.size = w.heap.size + 1) := Lib.hid (by rw [← hW]; simp)
    have c0 : ∀ d os, (grow (redrawn W d) os).cell? ⟨w.heap.size, 0, none⟩ = some (.int .i64 k) := fun d os => cell_regrown (by rw [Lib.cell_of_heap hbx]; rfl) d os
    have c1 : ∀ d os, (grow (redrawn W d) os).cell? ⟨w.heap.size, 1, none⟩ = some (.string t) := fun d os => cell_regrown (by rw [Lib.cell_of_heap hbx]; rfl) d os
    have c2 : ∀ d os, (grow (redrawn W d) os).cell? ⟨w.heap.size, 2, none⟩ = some (.int .i64 n) := fun d os => cell_regrown (by rw [Lib.cell_of_heap hbx]; rfl) d os
    have c3 : ∀ d os, (grow (redrawn W d) os).cell? ⟨w.heap.size, 3, none⟩ = some (.int .i64 m) := fun d os => cell_regrown (by rw [Lib.cell_of_heap hbx]; rfl) d os
    have c4 : ∀ d os, (grow (redrawn W d) os).cell? ⟨w.heap.size, 4, none⟩ = some (.string s) := fun d os => cell_regrown (by rw [Lib.cell_of_heap hbx]; rfl) d os
    have c5 : ∀ d os, (grow (redrawn W d) os).cell? ⟨w.heap.size, 5, none⟩ = some (.slice A l.length c) := fun d os => cell_regrown (by rw [Lib.cell_of_heap hbx]; rfl) d os
    have K0 := Lib.hid (fun d os => Calls.regrown_of (rnum_int k k1 (grow (redrawn W d) os)))
    have K1 := Lib.hid (fun d os => Calls.regrown_of (r02text_any t (by omega) (grow (redrawn W d) os)))
    have K2 := Lib.hid (fun d os => Calls.regrown_of (r02int_any n (grow (redrawn W d) os)))
    have K3 := Lib.hid (fun d os => Calls.regrown_of (r02int_any m (grow (redrawn W d) os)))
    have K4 := Lib.hid (fun d os => Calls.regrown_of (r02text_any s (by omega) (grow (redrawn W d) os)))
    have K5 := Lib.hid (fun d os => Calls.regrown_of (r02num_any l.length (by omega) (grow (redrawn W d) os)))
    have HY : Hid (bytesV (.mk k t n m s l) = (numZ k ++ textB t ++ intB n ++ intB m ++ textB s ++ numB l.length).data.toList ++ bytesVs l) := Lib.hid (by rw [bytesV]; simp [ByteArray.data_append])
    obtain ⟨x0, e0⟩ : ∃ x, numZ k = x := ⟨_, rfl⟩
    obtain ⟨x1, e1⟩ : ∃ x, textB t = x := ⟨_, rfl⟩
    obtain ⟨x2, e2⟩ : ∃ x, intB n = x := ⟨_, rfl⟩
    obtain ⟨x3, e3⟩ : ∃ x, intB m = x := ⟨_, rfl⟩
    obtain ⟨x4, e4⟩ : ∃ x, textB s = x := ⟨_, rfl⟩
    obtain ⟨x5, e5⟩ : ∃ x, numB l.length = x := ⟨_, rfl⟩
    rw [e0, e1, e2, e3, e4, e5] at HY
    rw [e0] at h0 K0
    rw [e1] at h1 K1
    rw [e2] at h2 K2
    rw [e3] at h3 K3
    rw [e4] at h4 K4
    rw [e5] at h5 K5
    have z1 : ¬ 9223372036854775807 < x0.size + x1.size := by omega
    have z2 : ¬ 9223372036854775807 < x0.size + x1.size + x2.size := by omega
    have z3 : ¬ 9223372036854775807 < x0.size + x1.size + x2.size + x3.size := by omega
    have z4 : ¬ 9223372036854775807 < x0.size + x1.size + x2.size + x3.size + x4.size := by omega
    have z5 : ¬ 9223372036854775807 < x0.size + x1.size + x2.size + x3.size + x4.size + x5.size := by omega
    clear hr ih hwl hbx e0 e1 e2 e3 e4 e5
    go_enter Tryz.func72, Tryz.ntmps72
    go_wp2_with fail
    clear hW
    refine wp_region_quiet_below (by kernel_rfl) (by kernel_rfl) ?_
    repeat (quiet_step (first | with_reducible exact K0.out _ _ | with_reducible exact K1.out _ _ | with_reducible exact K2.out _ _ | with_reducible exact K3.out _ _ | with_reducible exact K4.out _ _ | with_reducible exact K5.out _ _))
    refine wpQuiet_nil ?_
    intro _ hw'
    obtain ⟨⟨dq, osq⟩, hw''⟩ := hw'
    subst hw''
    clear c0 c1 c2 c3 c4 c5 K0 K1 K2 K3 K4 K5
    have hb1 := below_regrown W dq osq
    obtain ⟨w1, hw1⟩ : ∃ w1, grow (redrawn W dq) osq = w1 := ⟨_, rfl⟩
    rw [hw1] at hb1 ⊢
    have HB1 := Lib.hid (HWB.out.trans (hb1.mono (by rw [HWZ.out]; omega)))
    have HB2 := Lib.hid hb1
    clear hw1 hb1
    obtain ⟨hd, hhd⟩ : ∃ hd, x0 ++ x1 ++ x2 ++ x3 ++ x4 ++ x5 = hd := ⟨_, rfl⟩
    have hhs : hd.size ≤ 54 + t.size + s.size := by rw [← hhd]; simp only [ByteArray.size_append]; omega
    have HH := Lib.hid hhd
    rw [hhd] at HY
    go_wp2_with fail
    rw [HH.out]
    clear hhd HH z1 z2 z3 z4 z5 h0 h1 h2 h3 h4 h5
    go_loopw [3, 4] (fun s3 s4 wr => ∃ (i : Nat) (acc : ByteArray), i ≤ l.length ∧ s4 = .int .i64 i ∧ s3 = .string acc ∧ Hid (acc.data.toList = hd.data.toList ++ bytesVs (l.take i)) ∧ Hid (Below W.heap.size W wr)) (fun _ s4 _ => l.length - (intOf s4).toNat)
    case atStart => exact ⟨0, hd, by omega, rfl, rfl, Lib.hid (by simp [bytesVs]), HB2⟩
    case round =>
      obtain ⟨i, acc, hi, rfl, rfl, HQ, HB⟩ := hrel
      have hbw : Below w.heap.size w wr := HWB.out.trans (HB.out.mono (by rw [HWZ.out]; omega))
      have hc5 : wr.cell? ⟨w.heap.size, 5, none⟩ = some (.slice A l.length c) := by rw [Lib.cell_of_heap ((HB.out.block w.heap.size (by rw [HWZ.out]; omega)).trans HBX.out)]; rfl
      have hbt := bytesVs_take_len l i
      have hacc : acc.size ≤ 54 + t.size + s.size + 9 * bulkV l := by
        have := congrArg List.length HQ.out
        rw [List.length_append, size_toList, size_toList] at this
        omega
      by_cases hlt : i < l.length
      · obtain ⟨b, off, kd, t', n', m', s', l', A', c', e, hlb, hget, h2⟩ := vs_at (HR.out.belows hbw) hlt
        subst e
        obtain ⟨c0, c1, c2, c3, c4, c5, r5⟩ := h2
        have hbk := bulkV_get _ _ _ hget
        have HC := Lib.hid (IH.out kd t' n' m' s' l' A' c' wr (by omega) (by omega) (WfV_get _ _ _ HW.out hget) r5)
        have hyl := bytesV_len (.mk kd t' n' m' s' l')
        have HQ2 : Hid ((acc ++ ⟨(bytesV (.mk kd t' n' m' s' l')).toArray⟩).data.toList = hd.data.toList ++ bytesVs (l.take (i + 1))) := Lib.hid (by
          rw [ByteArray.data_append, Array.toList_append, HQ.out, bytesVs_snoc l i _ hget, List.append_assoc])
        obtain ⟨y, hy⟩ : ∃ y : ByteArray, ⟨(bytesV (.mk kd t' n' m' s' l')).toArray⟩ = y := ⟨_, rfl⟩
        have hys : y.size ≤ 9 * (V.mk kd t' n' m' s' l').bulk := by rw [← hy]; simpa [ByteArray.size] using hyl
        rw [hy] at HC HQ2
        have HWS := Lib.hid HB.out.size
        clear r5 hget hy HQ hbw
        go_wp2_with fail
        (with_reducible refine HC.out.mono ?_)
        rintro e w4 ⟨rfl, hb4⟩
        have B4 := Lib.hid (HB.out.trans (hb4.mono HWS.out))
        clear hb4
        go_wp2_with fail
        exact ⟨⟨i + 1, acc ++ y, by omega, by go_num, rfl, HQ2, B4⟩, by simp [intOf]; omega⟩
      · obtain rfl : i = l.length := by omega
        have HE : Hid ((⟨(bytesV (.mk k t n m s l)).toArray⟩ : ByteArray) = acc) := Lib.hid (by
          rw [HY.out]
          have := HQ.out
          rw [List.take_length] at this
          rw [← this, bytes_mk_toList])
        have HBW := Lib.hid hbw
        clear hbw HQ
        go_wp2_with fail
        go_ret
        exact ⟨by rw [HE.out]; rfl, HBW.out⟩

set_option maxHeartbeats 1000000 in
/-- ref12.Bytes comes to what value.Bytes comes to -/
theorem rBytes_any (k : Int) (t : ByteArray) (n m : Int) (s : ByteArray) (l : List V) (A : Option Addr) (c : Nat) (w : World) (hb : (V.mk k t n m s l).bulk ≤ 2097152) (hwf : (V.mk k t n m s l).Wf) (hr : Rd (Lt w.heap.size) w (vs l) (.slice A l.length c)) :
    Calls Tryz.prog 49 #[.agg #[.int .i64 k, .string t, .int .i64 n, .int .i64 m, .string s, .slice A l.length c]] w fun e w' => e = .returned (.string (bytesP nodeP (.mk k t n m s l))) ∧ Below w.heap.size w w' := by
  have HR := Lib.hid hr
  have HC := Lib.hid (fun W h => rright_any k t n m s l A c W hb h)
  have HD := Lib.hid (fun W h => rbytes_any _ k t n m s l A c W (Nat.le_refl _) hb hwf h)
  have HU : Hid (bytesP nodeP (.mk k t n m s l) = if rightP nodeP (.mk k t n m s l) then ⟨(bytesV (.mk k t n m s l)).toArray⟩ else ⟨#[]⟩) := Lib.hid rfl
  clear hr hwf
  generalize bytesP nodeP (.mk k t n m s l) = R at *
  generalize rightP nodeP (.mk k t n m s l) = rp at *
  cases rp with
  | false =>
    go_enter Tryz.func49, Tryz.ntmps49
    go_wp2_with fail
    (with_reducible refine (HC.out _ ?_).mono ?_)
    · exact HR.out.allocs _
    rintro e w1 ⟨rfl, hb1⟩
    have HB := Lib.hid hb1
    clear hb1
    go_wp2_with fail
    go_ret
    exact ⟨by rw [HU.out]; rfl, ((Below.refl _ _).alloc (Nat.le_refl _) _).trans (HB.out.mono (by simp))⟩
  | true =>
    go_enter Tryz.func49, Tryz.ntmps49
    go_wp2_with fail
    (with_reducible refine (HC.out _ ?_).mono ?_)
    · exact HR.out.allocs _
    rintro e w1 ⟨rfl, hb1⟩
    have hbx : w1.heap[w.heap.size]? = some (.cells #[.int .i64 k, .string t, .int .i64 n, .int .i64 m, .string s, .slice A l.length c] 35 (0, 0)) := (hb1.block w.heap.size (by simp)).trans (heap_alloc_new w _)
    have c0 : w1.cell? ⟨w.heap.size, 0, none⟩ = some (.int .i64 k) := by rw [Lib.cell_of_heap hbx]; rfl
    have c1 : w1.cell? ⟨w.heap.size, 1, none⟩ = some (.string t) := by rw [Lib.cell_of_heap hbx]; rfl
    have c2 : w1.cell? ⟨w.heap.size, 2, none⟩ = some (.int .i64 n) := by rw [Lib.cell_of_heap hbx]; rfl
    have c3 : w1.cell? ⟨w.heap.size, 3, none⟩ = some (.int .i64 m) := by rw [Lib.cell_of_heap hbx]; rfl
    have c4 : w1.cell? ⟨w.heap.size, 4, none⟩ = some (.string s) := by rw [Lib.cell_of_heap hbx]; rfl
    have c5 : w1.cell? ⟨w.heap.size, 5, none⟩ = some (.slice A l.length c) := by rw [Lib.cell_of_heap hbx]; rfl
    have HB := Lib.hid (((Below.refl _ _).alloc (Nat.le_refl w.heap.size) _).trans (hb1.mono (by simp)))
    have R1 := Lib.hid ((HR.out.allocs _).belows hb1)
    clear hb1 hbx
    go_wp2_with fail
    (with_reducible refine (HD.out _ R1.out).mono ?_)
    rintro e w2 ⟨rfl, hb2⟩
    have HB2 := Lib.hid (HB.out.trans (hb2.mono HB.out.size))
    clear hb2
    go_wp2_with fail
    go_ret
    exact ⟨by rw [HU.out]; rfl, HB2.out⟩
end Go.Proofs.YtlbmfgiepcemdaaGreat
