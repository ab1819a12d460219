/- ref12.Equal and ref12.Same: equality of values. Printed by wip/tools/gen_refsame.py. Conditions: those in each statement. clone.Each at values: a new slice of copies. Conditions: those in each statement. -/
import Derived.Test.YtlnfdpdancolmaaDoorYCloneSame
import Derived.Laws.MakeOwn
namespace Go.Proofs.YtlnfdpdancolmaaDoor
open Go.RowKit

/-- ref12.Same comes to eqVs at a and whatever -/
def RSameOk (l : List V) : Prop := ∀ (l' : List V) (A A' : Option Addr) (n n' c c' : Nat) (w : World), bulkV l' ≤ 2097152 → Rd (Lt w.heap.size) w (vs l) (.slice A n c) → Rd (Lt w.heap.size) w (vs l') (.slice A' n' c') →
  Calls Tryd.prog 26 #[.slice A n c, .slice A' n' c'] w fun e w' => e = .returned (.bool (eqVs l l')) ∧ Below w.heap.size w w'

set_option maxHeartbeats 4000000 in
theorem requal_of (k : Int) (t : ByteArray) (n m : Int) (s : ByteArray) (l : List V) (k' : Int) (t' : ByteArray) (n' m' : Int) (s' : ByteArray) (l' : List V) (A A' : Option Addr) (c c' : Nat) (w : World) (hS : RSameOk l) (hb : bulkV l' ≤ 2097152)
    (hr : Rd (Lt w.heap.size) w (vs l) (.slice A l.length c)) (hr' : Rd (Lt w.heap.size) w (vs l') (.slice A' l'.length c')) :
    Calls Tryd.prog 44 #[.agg #[.int .i64 k, .string t, .int .i64 n, .int .i64 m, .string s, .slice A l.length c], .agg #[.int .i64 k', .string t', .int .i64 n', .int .i64 m', .string s', .slice A' l'.length c']] w
      fun e w' => e = .returned (.bool (eqV (.mk k t n m s l) (.mk k' t' n' m' s' l'))) ∧ Below w.heap.size w w' := by
  have HR := Lib.hid hr
  have HR' := Lib.hid hr'
  unfold RSameOk at hS
  have HS := Lib.hid hS
  clear hr hr' hS
  have HU : Hid (eqV (.mk k t n m s l) (.mk k' t' n' m' s' l') = ((k == k') && ((t.toList == t'.toList) && ((n == n') && ((m == m') && ((s.toList == s'.toList) && eqVs l l')))))) := Lib.hid (by rw [eqV]; cases (k == k') <;> cases (n == n') <;> cases (m == m') <;> cases (t.toList == t'.toList) <;> rfl)
  generalize eqV (.mk k t n m s l) (.mk k' t' n' m' s' l') = R at *
  have fin : ∀ x y : Obj, Below w.heap.size w ((w.alloc x).alloc y) := fun x y => ((Below.refl _ _).alloc (Nat.le_refl _) _).alloc (by simp) _
  have FIN := Lib.hid fin
  clear fin
  cases h1 : (k == k') with
  | false =>
    rw [h1] at HU
    go_enter Tryd.func44, Tryd.ntmps44
    go_wp2_with fail
    go_ret
    exact ⟨by rw [HU.out]; rfl, FIN.out _ _⟩
  | true =>
    rw [h1] at HU
    cases h2 : (t.toList == t'.toList) with
    | false =>
      rw [h2] at HU
      go_enter Tryd.func44, Tryd.ntmps44
      go_wp2_with fail
      go_ret
      exact ⟨by rw [HU.out]; rfl, FIN.out _ _⟩
    | true =>
      rw [h2] at HU
      cases h3 : (n == n') with
      | false =>
        rw [h3] at HU
        go_enter Tryd.func44, Tryd.ntmps44
        go_wp2_with fail
        go_ret
        exact ⟨by rw [HU.out]; rfl, FIN.out _ _⟩
      | true =>
        rw [h3] at HU
        cases h4 : (m == m') with
        | false =>
          rw [h4] at HU
          go_enter Tryd.func44, Tryd.ntmps44
          go_wp2_with fail
          go_ret
          exact ⟨by rw [HU.out]; rfl, FIN.out _ _⟩
        | true =>
          rw [h4] at HU
          cases h5 : (s.toList == s'.toList) with
          | false =>
            rw [h5] at HU
            go_enter Tryd.func44, Tryd.ntmps44
            go_wp2_with fail
            go_ret
            exact ⟨by rw [HU.out]; rfl, FIN.out _ _⟩
          | true =>
            rw [h5] at HU
            go_enter Tryd.func44, Tryd.ntmps44
            go_wp2_with fail
            (with_reducible refine (HS.out l' A A' _ _ c c' _ hb ?_ ?_).mono ?_)
            · exact (HR.out.allocs _).allocs _
            · exact (HR'.out.allocs _).allocs _
            rintro e w1 ⟨rfl, hb1⟩
            have HB1 := Lib.hid hb1
            clear hb1
            go_wp2_with fail
            go_ret
            exact ⟨by rw [HU.out]; simp, (FIN.out _ _).trans (HB1.out.mono (by simp; omega))⟩

set_option maxHeartbeats 4000000 in
theorem rsame_any : ∀ (N : Nat) (l : List V), bulkV l ≤ N → N ≤ 2097152 → RSameOk l := by
  intro N
  induction N with
  | zero =>
    intro l hb hN l' A A' n n' c c' w hb' hr hr'
    have hl := vs_len hr
    have hl' := vs_len hr'
    have hll := bulkV_len l'
    have hz : l = [] := List.eq_nil_of_length_eq_zero (by have := bulkV_len l; omega)
    subst hz
    have hn : n = 0 := hl.1
    subst hn
    clear hr hr' hb
    by_cases hz' : n' = 0
    · subst hz'
      have hz : l' = [] := List.eq_nil_of_length_eq_zero hl'.1.symm
      subst hz
      clear hl hl'
      go_enter Tryd.func26, Tryd.ntmps26
      go_wp2_with fail
      go_loop [5] (fun i => i = .int .i64 0) (fun _ => 0)
      case atStart => rfl
      case round =>
        subst hrel
        go_wp2_with fail
        go_ret
        exact ⟨rfl, Below.refl _ _⟩
    · have HE : Hid (eqVs [] l' = false) := Lib.hid (eqVs_len (by simp only [List.length_nil]; omega))
      have hne : ((0 : Int) != (n' : Int)) = true := by simp; omega
      have hp : 0 < n' := by omega
      clear hz' hl hl'
      go_enter Tryd.func26, Tryd.ntmps26
      go_wp2_with fail
      go_ret
      exact ⟨by rw [HE.out]; rfl, Below.refl _ _⟩
  | succ N ih =>
    intro l hb hN l' A A' n n' c c' w hb' hr hr'
    have hl := vs_len hr
    have hl' := vs_len hr'
    have hll := bulkV_len l
    have hll' := bulkV_len l'
    have HR := Lib.hid hr
    have HR' := Lib.hid hr'
    have IH := Lib.hid ih
    have HL := Lib.hid hl.1
    have HL' := Lib.hid hl'.1
    have hn : n ≤ 2097152 := by omega
    have hn' : n' ≤ 2097152 := by omega
    clear hr hr' ih hl hl'
    by_cases hnn : n = n'
    · subst hnn
      go_enter Tryd.func26, Tryd.ntmps26
      go_wp2_with fail
      go_loopw [5] (fun s5 wr => ∃ i : Nat, i ≤ n ∧ s5 = .int .i64 i ∧ Hid (∀ (j : Nat) (x y : V), j < i → l[j]? = some x → l'[j]? = some y → eqV x y = true) ∧ Hid (Below w.heap.size w wr)) (fun s5 _ => n - (intOf s5).toNat)
      case atStart => exact ⟨0, by omega, rfl, Lib.hid (fun j _ _ hj => absurd hj (by omega)), Lib.hid (Below.refl _ _)⟩
      case round =>
        obtain ⟨i, hi, rfl, HA, HB⟩ := hrel
        by_cases hlt : i < n
        · obtain ⟨b, off, kd, t1, n1, m1, s1, l1, A1, c1, e, hlb, hget, h2⟩ := vs_at (HR.out.belows HB.out) hlt
          subst e
          obtain ⟨b', off', kd', t2, n2, m2, s2, l2, A2, c2, e, hlb', hget', h2'⟩ := vs_at (HR'.out.belows HB.out) hlt
          subst e
          obtain ⟨p0, p1, p2, p3, p4, p5, r5⟩ := h2
          obtain ⟨q0, q1, q2, q3, q4, q5, r5'⟩ := h2'
          have hbk := bulkV_get _ _ _ hget
          have hbk' := bulkV_get _ _ _ hget'
          rw [bulk_mk] at hbk hbk'
          have HC : Hid (∀ W, Rd (Lt W.heap.size) W (vs l1) (.slice A1 l1.length c1) → Rd (Lt W.heap.size) W (vs l2) (.slice A2 l2.length c2) → _) := Lib.hid (fun W h1 h2 => requal_of kd t1 n1 m1 s1 l1 kd' t2 n2 m2 s2 l2 A1 A2 c1 c2 W (IH.out l1 (by omega) (by omega)) (by omega) h1 h2)
          have R5 := Lib.hid r5
          have R5' := Lib.hid r5'
          have HG := Lib.hid hget
          have HG' := Lib.hid hget'
          have hlb1 : b < wr.heap.size := hlb
          have hlb2 : b' < wr.heap.size := hlb'
          have hin : (i : Int) < n := by omega
          clear r5 r5' hget hget' hbk hbk' hlb hlb'
          cases hq : eqV (.mk kd t1 n1 m1 s1 l1) (.mk kd' t2 n2 m2 s2 l2) with
          | false =>
            have HE := Lib.hid (eqVs_no HG.out HG'.out hq)
            rw [hq] at HC
            clear hq
            go_wp2_with fail
            go_region_with (first | (go_at_call 44; refine (HC.out _ R5.out.drew R5'.out.drew).mono ?_; rintro e w4 ⟨rfl, hb4⟩; have B4 := Lib.hid hb4; clear hb4))
            all_goals (
              go_wp2_with fail
              go_ret
              exact ⟨by rw [HE.out]; rfl, HB.out.drew.trans (B4.out.mono HB.out.size)⟩)
          | true =>
            have HA2 : Hid (∀ (j : Nat) (x y : V), j < i + 1 → l[j]? = some x → l'[j]? = some y → eqV x y = true) := Lib.hid (fun j x y hj hx hy => by
              rcases Nat.lt_or_ge j i with hji | hji
              · exact HA.out j x y hji hx hy
              · obtain rfl : j = i := by omega
                rw [HG.out] at hx
                rw [HG'.out] at hy
                rw [← Option.some.inj hx, ← Option.some.inj hy]; exact hq)
            rw [hq] at HC
            clear hq
            go_wp2_with fail
            go_region_with (first | (go_at_call 44; refine (HC.out _ R5.out.drew R5'.out.drew).mono ?_; rintro e w4 ⟨rfl, hb4⟩; have B4 := Lib.hid (HB.out.drew.trans (hb4.mono HB.out.size)); clear hb4))
            all_goals (
              go_wp2_with fail
              exact ⟨⟨i + 1, by omega, by go_num, HA2, B4⟩, by simp [intOf]; omega⟩)
        · have HE : Hid (eqVs l l' = true) := Lib.hid (eqVs_yes (by rw [← HL.out, ← HL'.out]) (fun j x y hx hy => HA.out j x y (by
            have := (List.getElem?_eq_some_iff.1 hx).1
            have := HL.out; omega) hx hy))
          go_wp2_with fail
          go_ret
          exact ⟨by rw [HE.out]; rfl, HB.out⟩
    · have HE : Hid (eqVs l l' = false) := Lib.hid (eqVs_len (by rw [← HL.out, ← HL'.out]; exact hnn))
      have hne : ((n : Int) != (n' : Int)) = true := by simp; omega
      go_enter Tryd.func26, Tryd.ntmps26
      go_wp2_with fail
      go_ret
      exact ⟨by rw [HE.out]; rfl, Below.refl _ _⟩
theorem rsameOk {l : List V} (h : bulkV l ≤ 2097152) : RSameOk l := rsame_any _ l (Nat.le_refl _) h
end Go.Proofs.YtlnfdpdancolmaaDoor
namespace Go.Proofs.YtlnfdpdancolmaaDoor
open Go.RowKit

theorem run_make_rowN {P : Program} (t e : TypeId) (i : TypeInfo) (z : Value) (ht : P.underlying t = some (.slice e)) (hi : P.info? e = some i) (hz : i.zero = some z)
    (kl kc : IntKind) (n c : Nat) (hnc : n ≤ c) (hbytes : i.bytes * c ≤ 281474976710656) (h63 : c ≤ 9223372036854775807) (w : World) :
    (Instr.makeSlice t (.int kl (n : Int)) (.int kc (c : Int))).run P w = .ok (.slice (some ⟨w.heap.size, 0, none⟩) n c) (w.alloc (.cells (madeCells z.cells (c * i.size)) e)) := by
  have hb : (i.bytes : Int) * (c : Int) ≤ 281474976710656 := by
    have h : ((i.bytes * c : Nat) : Int) ≤ 281474976710656 := by omega
    rwa [Int.natCast_mul] at h
  have hr := run_make (P := P) w t e i z ht hi hz kl kc n c (by omega) (by omega) hb (by omega)
  simp only [Int.toNat_natCast] at hr
  exact hr

theorem infoV : (Tryd.prog.info? 52).map (fun i => (i.zero, i.size, i.bytes)) = some (some (.agg #[.int .i64 0, .string ⟨#[]⟩, .int .i64 0, .int .i64 0, .string ⟨#[]⟩, .slice none 0 0]), 6, 80) := by kernel_rfl

set_option maxHeartbeats 1000000 in
theorem eachV_of (l : List V) (A : Option Addr) (n c : Nat) (w : World) (hr : Rd (Lt w.heap.size) w (vs l) (.slice A n c)) (hb : bulkV l ≤ 2097152)
    (hv : ∀ (i : Nat) k t n m s l', l[i]? = some (V.mk k t n m s l') → ∀ W A c, Rd (Lt W.heap.size) W (vs l') (.slice A l'.length c) → Calls Tryd.prog 68 #[.agg #[.int .i64 k, .string t, .int .i64 n, .int .i64 m, .string s, .slice A l'.length c]] W (CloneVPost k t n m s l' W)) :
    Calls Tryd.prog 67 #[.slice A n c, .func (.func 68) #[] #[]] w (OwnPost 52 6 l.length (rowsV l) w) := by
  have hl := vs_len hr
  have hn : n ≤ 2097152 := by have := bulkV_len l; omega
  obtain ⟨i0, hi, hz0, hz1, hz2⟩ := info_parts infoV
  have q22 : ∀ (w : World) (a : Option Addr) (n c n' c' : Nat), (binOp .eql 30 (.slice a n c) (.slice none n' c')).run Tryd.prog w = .ok (.bool a.isNone) w := fun w a n c n' c' => Lib.run_eql_slice_nil w _ _ a n c n' c' Tryd.underlying30
  have HR := Lib.hid hr
  have HV := Lib.hid hv
  have HL := Lib.hid hl.1
  cases A with
  | none =>
    have hz : n = 0 := by
      rcases Nat.eq_zero_or_pos n with h | h
      · exact h
      · obtain ⟨b, off, _, _, _, _, _, _, _, _, e, _⟩ := vs_at hr h
        cases e
    subst hz
    clear hr hv hl hb
    go_enter Tryd.func67, Tryd.ntmps67
    go_wp2_with fail
    go_ret
    refine ⟨.slice none 0 0, rfl, ?_, Below.refl _ _⟩
    have := HL.out
    rw [← this]
    exact Owned.nil _ _ _ _ _
  | some ad =>
    have hmk : ∀ W : World, (Instr.makeSlice 30 (.int .i64 (n : Int)) (.int .i64 (n : Int))).run Tryd.prog W = .ok (.slice (some ⟨W.heap.size, 0, none⟩) n n) (W.alloc (.cells (madeCells (Value.agg #[.int .i64 0, .string ⟨#[]⟩, .int .i64 0, .int .i64 0, .string ⟨#[]⟩, .slice none 0 0]).cells (n * 6)) 52)) := fun W => by
      have := run_make_rowN (P := Tryd.prog) 30 52 i0 _ Tryd.underlying30 hi hz0 .i64 .i64 n n (Nat.le_refl _) (by rw [hz2]; omega) (by omega) W
      rw [hz1] at this
      exact this
    clear hr hv hl hb
    generalize hmd : madeCells (Value.agg #[.int .i64 0, .string ⟨#[]⟩, .int .i64 0, .int .i64 0, .string ⟨#[]⟩, .slice none 0 0]).cells (n * 6) = made at hmk
    have hms : made.size = n * 6 := by rw [← hmd]; exact size_madeCells _ _
    have HMS := Lib.hid hms
    clear hmd hms
    go_enter Tryd.func67, Tryd.ntmps67
    go_wp2_with fail
    go_loopw [15] (fun i wr => ∃ k : Nat, k ≤ n ∧ i = .int .i64 k ∧ Hid (Filled 52 (w.heap.size + 1) w.heap.size 6 n k (rowsV l) wr) ∧ Hid (Below w.heap.size w wr)) (fun i _ => n - (intOf i).toNat)
    case atStart =>
      refine ⟨0, by omega, rfl, Lib.hid ⟨?_, fun a ha => absurd ha (by omega)⟩, Lib.hid ((Below.refl _ _).alloc (Nat.le_refl _) _)⟩
      rw [← HMS.out]
      exact Blk.new _ _ _
    case round =>
      obtain ⟨k, hk, rfl, HF, HB⟩ := hrel
      by_cases hlt : k < n
      · obtain ⟨b, off, kd, t, n', m, s, l', A', c', e, hlb, hget, h2⟩ := vs_at (HR.out.below HB.out (fun _ h => h)) hlt
        injection e with e
        subst e
        obtain ⟨c0, c1, c2, c3, c4, c5, r5⟩ := h2
        have hbs := HB.out.size
        have HC := Lib.hid (HV.out k kd t n' m s l' hget)
        have R5 := Lib.hid (r5.weaken (ok' := Lt wr.heap.size) (fun b hb => Nat.lt_of_lt_of_le hb hbs))
        have HG := Lib.hid hget
        clear r5 hget
        go_wp2_with fail
        (with_reducible refine (HC.out _ A' c' ?_).mono ?_)
        · exact R5.out.allocs _
        rintro e w4 ⟨A4, c4', rfl, hr4, hb4⟩
        simp only [World.size_alloc] at hr4
        have hbr : Below wr.heap.size wr w4 := ((Below.refl _ _).alloc (Nat.le_refl _) _).trans (hb4.mono (by simp))
        have F4 := Lib.hid (HF.out.below hbr)
        have B4 := Lib.hid (HB.out.trans (hbr.mono hbs))
        have f0 := F4.out.1.frozen
        have h4s := fun j (hj : j < n * 6) => F4.out.1.some hj
        obtain ⟨u0, hu0⟩ : ∃ u, w4.cell? ⟨w.heap.size, k * 6, none⟩ = some u := Option.isSome_iff_exists.1 (h4s (k * 6) (by omega))
        obtain ⟨u1, hu1⟩ : ∃ u, w4.cell? ⟨w.heap.size, k * 6 + 1, none⟩ = some u := Option.isSome_iff_exists.1 (h4s (k * 6 + 1) (by omega))
        obtain ⟨u2, hu2⟩ : ∃ u, w4.cell? ⟨w.heap.size, k * 6 + 2, none⟩ = some u := Option.isSome_iff_exists.1 (h4s (k * 6 + 2) (by omega))
        obtain ⟨u3, hu3⟩ : ∃ u, w4.cell? ⟨w.heap.size, k * 6 + 3, none⟩ = some u := Option.isSome_iff_exists.1 (h4s (k * 6 + 3) (by omega))
        obtain ⟨u4, hu4⟩ : ∃ u, w4.cell? ⟨w.heap.size, k * 6 + 4, none⟩ = some u := Option.isSome_iff_exists.1 (h4s (k * 6 + 4) (by omega))
        obtain ⟨u5, hu5⟩ : ∃ u, w4.cell? ⟨w.heap.size, k * 6 + 5, none⟩ = some u := Option.isSome_iff_exists.1 (h4s (k * 6 + 5) (by omega))
        have HS : Hid (Filled 52 (w.heap.size + 1) w.heap.size 6 n (k + 1) (rowsV l) (w4.setCells w.heap.size (k * 6) [.int .i64 kd, .string t, .int .i64 n', .int .i64 m, .string s, .slice A4 l'.length c4'])) := Lib.hid (F4.out.step (by omega) hlt rfl (fun j u hj => by
          rw [rowsV_get l k _ HG.out]
          exact cells_rdV (hr4.weaken (fun b hb => ⟨by have := hb.1; omega, hb.2⟩)) j u hj))
        have HT : Hid (Below w.heap.size w (w4.setCells w.heap.size (k * 6) [.int .i64 kd, .string t, .int .i64 n', .int .i64 m, .string s, .slice A4 l'.length c4'])) := Lib.hid (below_setCells _ (Nat.le_refl _) _ _ B4.out)
        clear h4s hb4 hr4 hbr
        go_wp2_with fail
        exact ⟨⟨k + 1, by omega, by go_num, HS, HT⟩, by simp [intOf]; omega⟩
      · obtain rfl : k = n := by omega
        go_wp2_with fail
        go_ret
        refine ⟨_, rfl, ?_, HB.out⟩
        have := HL.out
        have hd := HF.out.done (by omega) w.heap.size (Nat.le_refl _) (by omega)
        rw [← this]
        exact hd

set_option maxHeartbeats 400000 in
/-- clone.Values -/
theorem values_any : ∀ (N : Nat) (l : List V), bulkV l ≤ N → N ≤ 2097152 → ∀ (A : Option Addr) (n c : Nat) (w : World), Rd (Lt w.heap.size) w (vs l) (.slice A n c) →
    Calls Tryd.prog 48 #[.slice A n c] w (ClonePost (vs l) w) := by
  intro N
  induction N with
  | zero =>
    intro l hb hN A n c w hr
    have hl := vs_len hr
    have hz : l = [] := List.eq_nil_of_length_eq_zero (by have := bulkV_len l; omega)
    subst hz
    have HE := Lib.hid (eachV_of [] A n c w hr (by omega) (fun i k t n m s l' h => by simp at h))
    clear hr hl hb
    go_enter Tryd.func48, Tryd.ntmps48
    go_wp2_with fail
    (with_reducible refine HE.out.mono ?_)
    rintro e w1 ⟨v, rfl, hr, hb⟩
    have HP := Lib.hid hr
    have HB := Lib.hid hb
    clear hr hb
    go_wp2_with fail
    go_ret
    exact ⟨v, rfl, HP.out.rd, HB.out⟩
  | succ N ih =>
    intro l hb hN A n c w hr
    have HE := Lib.hid (eachV_of l A n c w hr (by omega) (fun i k t n m s l' h W A' c' hr' => by
      have hbk := bulkV_get _ _ _ h
      rw [bulk_mk] at hbk
      exact cvalue_of k t n m s l' A' c' W hr' (fun W' hW' => ih l' (by omega) (by omega) A' l'.length c' W' hW')))
    clear hr hb ih
    go_enter Tryd.func48, Tryd.ntmps48
    go_wp2_with fail
    (with_reducible refine HE.out.mono ?_)
    rintro e w1 ⟨v, rfl, hr, hb⟩
    have HP := Lib.hid hr
    have HB := Lib.hid hb
    clear hr hb
    go_wp2_with fail
    go_ret
    exact ⟨v, rfl, HP.out.rd, HB.out⟩

theorem clone_values {l : List V} {A : Option Addr} {n c : Nat} {w : World} (hr : Rd (Lt w.heap.size) w (vs l) (.slice A n c)) (hb : bulkV l ≤ 2097152) :
    Calls Tryd.prog 48 #[.slice A n c] w (ClonePost (vs l) w) := values_any (bulkV l) l (Nat.le_refl _) hb A n c w hr
theorem clone_value {k : Int} {t : ByteArray} {n m : Int} {s : ByteArray} {l : List V} {A : Option Addr} {c : Nat} {w : World} (hr : Rd (Lt w.heap.size) w (vs l) (.slice A l.length c)) (hb : bulkV l ≤ 2097152) :
    Calls Tryd.prog 68 #[.agg #[.int .i64 k, .string t, .int .i64 n, .int .i64 m, .string s, .slice A l.length c]] w (CloneVPost k t n m s l w) :=
  cvalue_of k t n m s l A c w hr (fun _ hW => clone_values hW hb)
end Go.Proofs.YtlnfdpdancolmaaDoor
