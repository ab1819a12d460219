/- ref12.Equal and ref12.Same: equality of values. Printed by wip/tools/gen_refsame.py. Conditions: those in each statement. ref23.Same: equality of events. Conditions: those in each statement. -/
import Derived.Test.YtlbmfgiepcemdaaGreatYTypeCloneSame
import Derived.Test.YtlbmfgiepcemdaaGreatYEvSameStored
namespace Go.Proofs.YtlbmfgiepcemdaaGreat
open Go.RowKit

/-- ref12.Same comes to eqVs at a and whatever -/
def RSameOk (l : List V) : Prop := ∀ (l' : List V) (A A' : Option Addr) (n n' c c' : Nat) (w : World), bulkV l' ≤ 2097152 → Rd (Lt w.heap.size) w (vs l) (.slice A n c) → Rd (Lt w.heap.size) w (vs l') (.slice A' n' c') →
  Calls Tryz.prog 27 #[.slice A n c, .slice A' n' c'] w fun e w' => e = .returned (.bool (eqVs l l')) ∧ Below w.heap.size w w'

set_option maxHeartbeats 4000000 in
theorem requal_of (k : Int) (t : ByteArray) (n m : Int) (s : ByteArray) (l : List V) (k' : Int) (t' : ByteArray) (n' m' : Int) (s' : ByteArray) (l' : List V) (A A' : Option Addr) (c c' : Nat) (w : World) (hS : RSameOk l) (hb : bulkV l' ≤ 2097152)
    (hr : Rd (Lt w.heap.size) w (vs l) (.slice A l.length c)) (hr' : Rd (Lt w.heap.size) w (vs l') (.slice A' l'.length c')) :
    Calls Tryz.prog 22 #[.agg #[.int .i64 k, .string t, .int .i64 n, .int .i64 m, .string s, .slice A l.length c], .agg #[.int .i64 k', .string t', .int .i64 n', .int .i64 m', .string s', .slice A' l'.length c']] w
      fun e w' => e = .returned (.bool (eqV (.mk k t n m s l) (.mk k' t' n' m' s' l'))) ∧ Below w.heap.size w w' := by
  have HR := Lib.hid hr
  have HR' := Lib.hid hr'
  unfold RSameOk at hS
  have HS := Lib.hid hS
  clear hr hr' hS
  have HU : Hid (eqV (.mk k t n m s l) (.mk k' t' n' m' s' l') = ((k == k') && ((t.toList == t'.toList) && ((n == n') && ((m == m') && ((s.toList == s'.toList) && eqVs l l')))))) := Lib.hid (by rw [eqV]; cases (k == k') <;> cases (n == n') <;> cases (m == m') <;> cases (t.toList == t'.toList) <;> rfl)
  generalize eqV (.mk k t n m s l) (.mk k' t' n' m' s' l') = R at *
  have fin : ∀ x y : Obj, Below w.heap.size w ((w.alloc x).alloc y) := fun x y => ((Below.refl _ _).alloc (Nat.le_refl _) _).alloc (by simp) _
  have FIN := Lib.hid fin
  clear fin
  cases h1 : (k == k') with
  | false =>
    rw [h1] at HU
    go_enter Tryz.func22, Tryz.ntmps22
    go_wp2_with fail
    go_ret
    exact ⟨by rw [HU.out]; rfl, FIN.out _ _⟩
  | true =>
    rw [h1] at HU
    cases h2 : (t.toList == t'.toList) with
    | false =>
      rw [h2] at HU
      go_enter Tryz.func22, Tryz.ntmps22
      go_wp2_with fail
      go_ret
      exact ⟨by rw [HU.out]; rfl, FIN.out _ _⟩
    | true =>
      rw [h2] at HU
      cases h3 : (n == n') with
      | false =>
        rw [h3] at HU
        go_enter Tryz.func22, Tryz.ntmps22
        go_wp2_with fail
        go_ret
        exact ⟨by rw [HU.out]; rfl, FIN.out _ _⟩
      | true =>
        rw [h3] at HU
        cases h4 : (m == m') with
        | false =>
          rw [h4] at HU
          go_enter Tryz.func22, Tryz.ntmps22
          go_wp2_with fail
          go_ret
          exact ⟨by rw [HU.out]; rfl, FIN.out _ _⟩
        | true =>
          rw [h4] at HU
          cases h5 : (s.toList == s'.toList) with
          | false =>
            rw [h5] at HU
            go_enter Tryz.func22, Tryz.ntmps22
            go_wp2_with fail
            go_ret
            exact ⟨by rw [HU.out]; rfl, FIN.out _ _⟩
          | true =>
            rw [h5] at HU
            go_enter Tryz.func22, Tryz.ntmps22
            go_wp2_with fail
            (with_reducible refine (HS.out l' A A' _ _ c c' _ hb ?_ ?_).mono ?_)
            · exact (HR.out.allocs _).allocs _
            · exact (HR'.out.allocs _).allocs _
            rintro e w1 ⟨rfl, hb1⟩
            have HB1 := Lib.hid hb1
            clear hb1
            go_wp2_with fail
            go_ret
            exact ⟨by rw [HU.out]; simp, (FIN.out _ _).trans (HB1.out.mono (by simp; omega))⟩

set_option maxHeartbeats 4000000 in
theorem rsame_any : ∀ (N : Nat) (l : List V), bulkV l ≤ N → N ≤ 2097152 → RSameOk l := by
  intro N
  induction N with
  | zero =>
    intro l hb hN l' A A' n n' c c' w hb' hr hr'
    have hl := vs_len hr
    have hl' := vs_len hr'
    have hll := bulkV_len l'
    have hz : l = [] := List.eq_nil_of_length_eq_zero (by have := bulkV_len l; omega)
    subst hz
    have hn : n = 0 := hl.1
    subst hn
    clear hr hr' hb
    by_cases hz' : n' = 0
    · subst hz'
      have hz : l' = [] := List.eq_nil_of_length_eq_zero hl'.1.symm
      subst hz
      clear hl hl'
      go_enter Tryz.func27, Tryz.ntmps27
      go_wp2_with fail
      go_loop [5] (fun i => i = .int .i64 0) (fun _ => 0)
      case atStart => rfl
      case round =>
        subst hrel
        go_wp2_with fail
        go_ret
        exact ⟨rfl, Below.refl _ _⟩
    · have HE : Hid (eqVs [] l' = false) := Lib.hid (eqVs_len (by simp only [List.length_nil]; omega))
      have hne : ((0 : Int) != (n' : Int)) = true := by simp; omega
      have hp : 0 < n' := by omega
      clear hz' hl hl'
      go_enter Tryz.func27, Tryz.ntmps27
      go_wp2_with fail
      go_ret
      exact ⟨by rw [HE.out]; rfl, Below.refl _ _⟩
  | succ N ih =>
    intro l hb hN l' A A' n n' c c' w hb' hr hr'
    have hl := vs_len hr
    have hl' := vs_len hr'
    have hll := bulkV_len l
    have hll' := bulkV_len l'
    have HR := Lib.hid hr
    have HR' := Lib.hid hr'
    have IH := Lib.hid ih
    have HL := Lib.hid hl.1
    have HL' := Lib.hid hl'.1
    have hn : n ≤ 2097152 := by omega
    have hn' : n' ≤ 2097152 := by omega
    clear hr hr' ih hl hl'
    by_cases hnn : n = n'
    · subst hnn
      go_enter Tryz.func27, Tryz.ntmps27
      go_wp2_with fail
      go_loopw [5] (fun s5 wr => ∃ i : Nat, i ≤ n ∧ s5 = .int .i64 i ∧ Hid (∀ (j : Nat) (x y : V), j < i → l[j]? = some x → l'[j]? = some y → eqV x y = true) ∧ Hid (Below w.heap.size w wr)) (fun s5 _ => n - (intOf s5).toNat)
      case atStart => exact ⟨0, by omega, rfl, Lib.hid (fun j _ _ hj => absurd hj (by omega)), Lib.hid (Below.refl _ _)⟩
      case round =>
        obtain ⟨i, hi, rfl, HA, HB⟩ := hrel
        by_cases hlt : i < n
        · obtain ⟨b, off, kd, t1, n1, m1, s1, l1, A1, c1, e, hlb, hget, h2⟩ := vs_at (HR.out.belows HB.out) hlt
          subst e
          obtain ⟨b', off', kd', t2, n2, m2, s2, l2, A2, c2, e, hlb', hget', h2'⟩ := vs_at (HR'.out.belows HB.out) hlt
          subst e
          obtain ⟨p0, p1, p2, p3, p4, p5, r5⟩ := h2
          obtain ⟨q0, q1, q2, q3, q4, q5, r5'⟩ := h2'
          have hbk := bulkV_get _ _ _ hget
          have hbk' := bulkV_get _ _ _ hget'
          rw [bulk_mk] at hbk hbk'
          have HC : Hid (∀ W, Rd (Lt W.heap.size) W (vs l1) (.slice A1 l1.length c1) → Rd (Lt W.heap.size) W (vs l2) (.slice A2 l2.length c2) → _) := Lib.hid (fun W h1 h2 => requal_of kd t1 n1 m1 s1 l1 kd' t2 n2 m2 s2 l2 A1 A2 c1 c2 W (IH.out l1 (by omega) (by omega)) (by omega) h1 h2)
          have R5 := Lib.hid r5
          have R5' := Lib.hid r5'
          have HG := Lib.hid hget
          have HG' := Lib.hid hget'
          have hlb1 : b < wr.heap.size := hlb
          have hlb2 : b' < wr.heap.size := hlb'
          have hin : (i : Int) < n := by omega
          clear r5 r5' hget hget' hbk hbk' hlb hlb'
          cases hq : eqV (.mk kd t1 n1 m1 s1 l1) (.mk kd' t2 n2 m2 s2 l2) with
          | false =>
            have HE := Lib.hid (eqVs_no HG.out HG'.out hq)
            rw [hq] at HC
            clear hq
            go_wp2_with fail
            go_region_with (first | (go_at_call 22; refine (HC.out _ R5.out.drew R5'.out.drew).mono ?_; rintro e w4 ⟨rfl, hb4⟩; have B4 := Lib.hid hb4; clear hb4))
            all_goals (
              go_wp2_with fail
              go_ret
              exact ⟨by rw [HE.out]; rfl, HB.out.drew.trans (B4.out.mono HB.out.size)⟩)
          | true =>
            have HA2 : Hid (∀ (j : Nat) (x y : V), j < i + 1 → l[j]? = some x → l'[j]? = some y → eqV x y = true) := Lib.hid (fun j x y hj hx hy => by
              rcases Nat.lt_or_ge j i with hji | hji
              · exact HA.out j x y hji hx hy
              · obtain rfl : j = i := by omega
                rw [HG.out] at hx
                rw [HG'.out] at hy
                rw [← Option.some.inj hx, ← Option.some.inj hy]; exact hq)
            rw [hq] at HC
            clear hq
            go_wp2_with fail
            go_region_with (first | (go_at_call 22; refine (HC.out _ R5.out.drew R5'.out.drew).mono ?_; rintro e w4 ⟨rfl, hb4⟩; have B4 := Lib.hid (HB.out.drew.trans (hb4.mono HB.out.size)); clear hb4))
            all_goals (
              go_wp2_with fail
              exact ⟨⟨i + 1, by omega, by go_num, HA2, B4⟩, by simp [intOf]; omega⟩)
        · have HE : Hid (eqVs l l' = true) := Lib.hid (eqVs_yes (by rw [← HL.out, ← HL'.out]) (fun j x y hx hy => HA.out j x y (by
            have := (List.getElem?_eq_some_iff.1 hx).1
            have := HL.out; omega) hx hy))
          go_wp2_with fail
          go_ret
          exact ⟨by rw [HE.out]; rfl, HB.out⟩
    · have HE : Hid (eqVs l l' = false) := Lib.hid (eqVs_len (by rw [← HL.out, ← HL'.out]; exact hnn))
      have hne : ((n : Int) != (n' : Int)) = true := by simp; omega
      go_enter Tryz.func27, Tryz.ntmps27
      go_wp2_with fail
      go_ret
      exact ⟨by rw [HE.out]; rfl, Below.refl _ _⟩
theorem rsameOk {l : List V} (h : bulkV l ≤ 2097152) : RSameOk l := rsame_any _ l (Nat.le_refl _) h
end Go.Proofs.YtlbmfgiepcemdaaGreat
namespace Go.Proofs.YtlbmfgiepcemdaaGreat
open Go.RowKit

set_option maxHeartbeats 8000000 in
set_option maxRecDepth 100000 in
theorem revsame_any (x y : Ev) (A A' B B' : Option Addr) (c c' d d' : Nat) (w : World) (h1 : bulkV x.args ≤ 2097152) (h2 : bulkV y.args ≤ 2097152) (h3 : bulkV x.vl ≤ 2097152) (h4 : bulkV y.vl ≤ 2097152) (ra : Rd (Lt w.heap.size) w (vs x.args) (.slice A x.args.length c)) (ra' : Rd (Lt w.heap.size) w (vs y.args) (.slice A' y.args.length c')) (rv : Rd (Lt w.heap.size) w (vs x.vl) (.slice B x.vl.length d)) (rv' : Rd (Lt w.heap.size) w (vs y.vl) (.slice B' y.vl.length d')) :
    Calls Tryz.prog 9 #[.agg #[.int .i64 x.kind, .string x.path, .string x.msg, .slice A x.args.length c, .int .i64 x.ord, .int .i64 x.vk, .string x.vt, .int .i64 x.vn, .int .i64 x.vm, .string x.vx, .slice B x.vl.length d, .int .i64 x.n], .agg #[.int .i64 y.kind, .string y.path, .string y.msg, .slice A' y.args.length c', .int .i64 y.ord, .int .i64 y.vk, .string y.vt, .int .i64 y.vn, .int .i64 y.vm, .string y.vx, .slice B' y.vl.length d', .int .i64 y.n]] w fun e w' => e = .returned (.bool (eqE x y)) ∧ Below w.heap.size w w' := by
  obtain ⟨g1, hg1⟩ : ∃ g, eqVs x.args y.args = g := ⟨_, rfl⟩
  obtain ⟨g2, hg2⟩ : ∃ g, eqV x.val y.val = g := ⟨_, rfl⟩
  have HS : Hid (∀ W, Rd (Lt W.heap.size) W (vs x.args) (.slice A x.args.length c) → Rd (Lt W.heap.size) W (vs y.args) (.slice A' y.args.length c') → Calls Tryz.prog 27 #[.slice A x.args.length c, .slice A' y.args.length c'] W fun e w' => e = .returned (.bool g1) ∧ Below W.heap.size W w') := Lib.hid (fun W q1 q2 => by rw [← hg1]; exact rsameOk h1 y.args A A' _ _ c c' W h2 q1 q2)
  have HE : Hid (∀ W, Rd (Lt W.heap.size) W (vs x.vl) (.slice B x.vl.length d) → Rd (Lt W.heap.size) W (vs y.vl) (.slice B' y.vl.length d') → Calls Tryz.prog 22 #[.agg #[.int .i64 x.vk, .string x.vt, .int .i64 x.vn, .int .i64 x.vm, .string x.vx, .slice B x.vl.length d], .agg #[.int .i64 y.vk, .string y.vt, .int .i64 y.vn, .int .i64 y.vm, .string y.vx, .slice B' y.vl.length d']] W fun e w' => e = .returned (.bool g2) ∧ Below W.heap.size W w') := Lib.hid (fun W q1 q2 => by rw [← hg2]; exact requal_of _ _ _ _ _ _ _ _ _ _ _ _ B B' d d' W (rsameOk h3) h4 q1 q2)
  have HU : Hid (eqE x y = ((x.kind == y.kind) && ((x.path.toList == y.path.toList) && ((x.msg.toList == y.msg.toList) && ((x.ord == y.ord) && ((x.n == y.n) && (g1 && g2))))))) := Lib.hid (by unfold eqE; rw [hg1, hg2])
  have RA := Lib.hid ra
  have RA' := Lib.hid ra'
  have RV := Lib.hid rv
  have RV' := Lib.hid rv'
  clear ra ra' rv rv' hg1 hg2
  generalize eqE x y = R at *
  obtain ⟨W, hW⟩ : ∃ W, (w.alloc (.cells #[.int .i64 x.kind, .string x.path, .string x.msg, .slice A x.args.length c, .int .i64 x.ord, .int .i64 x.vk, .string x.vt, .int .i64 x.vn, .int .i64 x.vm, .string x.vx, .slice B x.vl.length d, .int .i64 x.n] 37)).alloc (.cells #[.int .i64 y.kind, .string y.path, .string y.msg, .slice A' y.args.length c', .int .i64 y.ord, .int .i64 y.vk, .string y.vt, .int .i64 y.vn, .int .i64 y.vm, .string y.vx, .slice B' y.vl.length d', .int .i64 y.n] 37) = W := ⟨_, rfl⟩
  have hA : Below w.heap.size w W := by rw [← hW]; exact ((Below.refl _ _).alloc (Nat.le_refl _) _).alloc (by simp) _
  have hsz : W.heap.size = w.heap.size + 2 := by rw [← hW]; simp
  have hX : W.heap[w.heap.size]? = some (.cells #[.int .i64 x.kind, .string x.path, .string x.msg, .slice A x.args.length c, .int .i64 x.ord, .int .i64 x.vk, .string x.vt, .int .i64 x.vn, .int .i64 x.vm, .string x.vx, .slice B x.vl.length d, .int .i64 x.n] 37 (0, 0)) := by rw [← hW]; exact ((Below.refl _ _).alloc (Nat.le_refl _) _ |>.block _ (by simp)).trans (heap_alloc_new w _)
  have hY : W.heap[w.heap.size + 1]? = some (.cells #[.int .i64 y.kind, .string y.path, .string y.msg, .slice A' y.args.length c', .int .i64 y.ord, .int .i64 y.vk, .string y.vt, .int .i64 y.vn, .int .i64 y.vm, .string y.vx, .slice B' y.vl.length d', .int .i64 y.n] 37 (0, 0)) := by rw [← hW]; have := heap_alloc_new (w.alloc (.cells #[.int .i64 x.kind, .string x.path, .string x.msg, .slice A x.args.length c, .int .i64 x.ord, .int .i64 x.vk, .string x.vt, .int .i64 x.vn, .int .i64 x.vm, .string x.vx, .slice B x.vl.length d, .int .i64 x.n] 37)) (.cells #[.int .i64 y.kind, .string y.path, .string y.msg, .slice A' y.args.length c', .int .i64 y.ord, .int .i64 y.vk, .string y.vt, .int .i64 y.vn, .int .i64 y.vm, .string y.vx, .slice B' y.vl.length d', .int .i64 y.n] 37); rw [World.size_alloc] at this; exact this
  have HA := Lib.hid hA
  have HX := Lib.hid hX
  have HY := Lib.hid hY
  have HSZ := Lib.hid hsz
  have px0 : W.cell? ⟨w.heap.size, 0, none⟩ = some (.int .i64 x.kind) := by rw [Lib.cell_of_heap hX]; rfl
  have py0 : W.cell? ⟨w.heap.size + 1, 0, none⟩ = some (.int .i64 y.kind) := by rw [Lib.cell_of_heap hY]; rfl
  have px1 : W.cell? ⟨w.heap.size, 1, none⟩ = some (.string x.path) := by rw [Lib.cell_of_heap hX]; rfl
  have py1 : W.cell? ⟨w.heap.size + 1, 1, none⟩ = some (.string y.path) := by rw [Lib.cell_of_heap hY]; rfl
  have px2 : W.cell? ⟨w.heap.size, 2, none⟩ = some (.string x.msg) := by rw [Lib.cell_of_heap hX]; rfl
  have py2 : W.cell? ⟨w.heap.size + 1, 2, none⟩ = some (.string y.msg) := by rw [Lib.cell_of_heap hY]; rfl
  have px3 : W.cell? ⟨w.heap.size, 3, none⟩ = some (.slice A x.args.length c) := by rw [Lib.cell_of_heap hX]; rfl
  have py3 : W.cell? ⟨w.heap.size + 1, 3, none⟩ = some (.slice A' y.args.length c') := by rw [Lib.cell_of_heap hY]; rfl
  have px4 : W.cell? ⟨w.heap.size, 4, none⟩ = some (.int .i64 x.ord) := by rw [Lib.cell_of_heap hX]; rfl
  have py4 : W.cell? ⟨w.heap.size + 1, 4, none⟩ = some (.int .i64 y.ord) := by rw [Lib.cell_of_heap hY]; rfl
  have px5 : W.cell? ⟨w.heap.size, 5, none⟩ = some (.int .i64 x.vk) := by rw [Lib.cell_of_heap hX]; rfl
  have py5 : W.cell? ⟨w.heap.size + 1, 5, none⟩ = some (.int .i64 y.vk) := by rw [Lib.cell_of_heap hY]; rfl
  have px6 : W.cell? ⟨w.heap.size, 6, none⟩ = some (.string x.vt) := by rw [Lib.cell_of_heap hX]; rfl
  have py6 : W.cell? ⟨w.heap.size + 1, 6, none⟩ = some (.string y.vt) := by rw [Lib.cell_of_heap hY]; rfl
  have px7 : W.cell? ⟨w.heap.size, 7, none⟩ = some (.int .i64 x.vn) := by rw [Lib.cell_of_heap hX]; rfl
  have py7 : W.cell? ⟨w.heap.size + 1, 7, none⟩ = some (.int .i64 y.vn) := by rw [Lib.cell_of_heap hY]; rfl
  have px8 : W.cell? ⟨w.heap.size, 8, none⟩ = some (.int .i64 x.vm) := by rw [Lib.cell_of_heap hX]; rfl
  have py8 : W.cell? ⟨w.heap.size + 1, 8, none⟩ = some (.int .i64 y.vm) := by rw [Lib.cell_of_heap hY]; rfl
  have px9 : W.cell? ⟨w.heap.size, 9, none⟩ = some (.string x.vx) := by rw [Lib.cell_of_heap hX]; rfl
  have py9 : W.cell? ⟨w.heap.size + 1, 9, none⟩ = some (.string y.vx) := by rw [Lib.cell_of_heap hY]; rfl
  have px10 : W.cell? ⟨w.heap.size, 10, none⟩ = some (.slice B x.vl.length d) := by rw [Lib.cell_of_heap hX]; rfl
  have py10 : W.cell? ⟨w.heap.size + 1, 10, none⟩ = some (.slice B' y.vl.length d') := by rw [Lib.cell_of_heap hY]; rfl
  have px11 : W.cell? ⟨w.heap.size, 11, none⟩ = some (.int .i64 x.n) := by rw [Lib.cell_of_heap hX]; rfl
  have py11 : W.cell? ⟨w.heap.size + 1, 11, none⟩ = some (.int .i64 y.n) := by rw [Lib.cell_of_heap hY]; rfl
  clear hA hX hY hsz
  go_enter Tryz.func9, Tryz.ntmps9
  go_wp2_with fail
  (with_reducible refine (HS.out _ ?_ ?_).mono ?_)
  · exact RA.out.belows HA.out
  · exact RA'.out.belows HA.out
  rintro e w1 ⟨rfl, hbw1⟩
  have Bw1 := Lib.hid (HA.out.trans (hbw1.mono HA.out.size))
  have Xw1 := Lib.hid ((hbw1.block w.heap.size (by have := HSZ.out; have := HA.out.size;  omega)).trans HX.out)
  have Yw1 := Lib.hid ((hbw1.block (w.heap.size + 1) (by have := HSZ.out;  omega)).trans HY.out)
  clear hbw1
  clear px0 py0 px1 py1 px2 py2 px3 py3 px4 py4 px5 py5 px6 py6 px7 py7 px8 py8 px9 py9 px10 py10 px11 py11
  have rx0 : w1.cell? ⟨w.heap.size, 0, none⟩ = some (.int .i64 x.kind) := by rw [Lib.cell_of_heap Xw1.out]; rfl
  have ry0 : w1.cell? ⟨w.heap.size + 1, 0, none⟩ = some (.int .i64 y.kind) := by rw [Lib.cell_of_heap Yw1.out]; rfl
  have rx1 : w1.cell? ⟨w.heap.size, 1, none⟩ = some (.string x.path) := by rw [Lib.cell_of_heap Xw1.out]; rfl
  have ry1 : w1.cell? ⟨w.heap.size + 1, 1, none⟩ = some (.string y.path) := by rw [Lib.cell_of_heap Yw1.out]; rfl
  have rx2 : w1.cell? ⟨w.heap.size, 2, none⟩ = some (.string x.msg) := by rw [Lib.cell_of_heap Xw1.out]; rfl
  have ry2 : w1.cell? ⟨w.heap.size + 1, 2, none⟩ = some (.string y.msg) := by rw [Lib.cell_of_heap Yw1.out]; rfl
  have rx3 : w1.cell? ⟨w.heap.size, 3, none⟩ = some (.slice A x.args.length c) := by rw [Lib.cell_of_heap Xw1.out]; rfl
  have ry3 : w1.cell? ⟨w.heap.size + 1, 3, none⟩ = some (.slice A' y.args.length c') := by rw [Lib.cell_of_heap Yw1.out]; rfl
  have rx4 : w1.cell? ⟨w.heap.size, 4, none⟩ = some (.int .i64 x.ord) := by rw [Lib.cell_of_heap Xw1.out]; rfl
  have ry4 : w1.cell? ⟨w.heap.size + 1, 4, none⟩ = some (.int .i64 y.ord) := by rw [Lib.cell_of_heap Yw1.out]; rfl
  have rx5 : w1.cell? ⟨w.heap.size, 5, none⟩ = some (.int .i64 x.vk) := by rw [Lib.cell_of_heap Xw1.out]; rfl
  have ry5 : w1.cell? ⟨w.heap.size + 1, 5, none⟩ = some (.int .i64 y.vk) := by rw [Lib.cell_of_heap Yw1.out]; rfl
  have rx6 : w1.cell? ⟨w.heap.size, 6, none⟩ = some (.string x.vt) := by rw [Lib.cell_of_heap Xw1.out]; rfl
  have ry6 : w1.cell? ⟨w.heap.size + 1, 6, none⟩ = some (.string y.vt) := by rw [Lib.cell_of_heap Yw1.out]; rfl
  have rx7 : w1.cell? ⟨w.heap.size, 7, none⟩ = some (.int .i64 x.vn) := by rw [Lib.cell_of_heap Xw1.out]; rfl
  have ry7 : w1.cell? ⟨w.heap.size + 1, 7, none⟩ = some (.int .i64 y.vn) := by rw [Lib.cell_of_heap Yw1.out]; rfl
  have rx8 : w1.cell? ⟨w.heap.size, 8, none⟩ = some (.int .i64 x.vm) := by rw [Lib.cell_of_heap Xw1.out]; rfl
  have ry8 : w1.cell? ⟨w.heap.size + 1, 8, none⟩ = some (.int .i64 y.vm) := by rw [Lib.cell_of_heap Yw1.out]; rfl
  have rx9 : w1.cell? ⟨w.heap.size, 9, none⟩ = some (.string x.vx) := by rw [Lib.cell_of_heap Xw1.out]; rfl
  have ry9 : w1.cell? ⟨w.heap.size + 1, 9, none⟩ = some (.string y.vx) := by rw [Lib.cell_of_heap Yw1.out]; rfl
  have rx10 : w1.cell? ⟨w.heap.size, 10, none⟩ = some (.slice B x.vl.length d) := by rw [Lib.cell_of_heap Xw1.out]; rfl
  have ry10 : w1.cell? ⟨w.heap.size + 1, 10, none⟩ = some (.slice B' y.vl.length d') := by rw [Lib.cell_of_heap Yw1.out]; rfl
  have rx11 : w1.cell? ⟨w.heap.size, 11, none⟩ = some (.int .i64 x.n) := by rw [Lib.cell_of_heap Xw1.out]; rfl
  have ry11 : w1.cell? ⟨w.heap.size + 1, 11, none⟩ = some (.int .i64 y.n) := by rw [Lib.cell_of_heap Yw1.out]; rfl
  go_wp2_with fail
  (with_reducible refine (HE.out _ ?_ ?_).mono ?_)
  · exact RV.out.belows Bw1.out
  · exact RV'.out.belows Bw1.out
  rintro e w2 ⟨rfl, hbw2⟩
  have Bw2 := Lib.hid (Bw1.out.trans (hbw2.mono Bw1.out.size))
  have Xw2 := Lib.hid ((hbw2.block w.heap.size (by have := HSZ.out; have := Bw1.out.size; have := Bw1.out.size; have := (Array.getElem?_eq_some_iff.1 Yw1.out).1; omega)).trans Xw1.out)
  have Yw2 := Lib.hid ((hbw2.block (w.heap.size + 1) (by have := HSZ.out; have := Bw1.out.size; have := (Array.getElem?_eq_some_iff.1 Yw1.out).1; omega)).trans Yw1.out)
  clear hbw2
  clear rx0 ry0 rx1 ry1 rx2 ry2 rx3 ry3 rx4 ry4 rx5 ry5 rx6 ry6 rx7 ry7 rx8 ry8 rx9 ry9 rx10 ry10 rx11 ry11
  have sx0 : w2.cell? ⟨w.heap.size, 0, none⟩ = some (.int .i64 x.kind) := by rw [Lib.cell_of_heap Xw2.out]; rfl
  have sy0 : w2.cell? ⟨w.heap.size + 1, 0, none⟩ = some (.int .i64 y.kind) := by rw [Lib.cell_of_heap Yw2.out]; rfl
  have sx1 : w2.cell? ⟨w.heap.size, 1, none⟩ = some (.string x.path) := by rw [Lib.cell_of_heap Xw2.out]; rfl
  have sy1 : w2.cell? ⟨w.heap.size + 1, 1, none⟩ = some (.string y.path) := by rw [Lib.cell_of_heap Yw2.out]; rfl
  have sx2 : w2.cell? ⟨w.heap.size, 2, none⟩ = some (.string x.msg) := by rw [Lib.cell_of_heap Xw2.out]; rfl
  have sy2 : w2.cell? ⟨w.heap.size + 1, 2, none⟩ = some (.string y.msg) := by rw [Lib.cell_of_heap Yw2.out]; rfl
  have sx3 : w2.cell? ⟨w.heap.size, 3, none⟩ = some (.slice A x.args.length c) := by rw [Lib.cell_of_heap Xw2.out]; rfl
  have sy3 : w2.cell? ⟨w.heap.size + 1, 3, none⟩ = some (.slice A' y.args.length c') := by rw [Lib.cell_of_heap Yw2.out]; rfl
  have sx4 : w2.cell? ⟨w.heap.size, 4, none⟩ = some (.int .i64 x.ord) := by rw [Lib.cell_of_heap Xw2.out]; rfl
  have sy4 : w2.cell? ⟨w.heap.size + 1, 4, none⟩ = some (.int .i64 y.ord) := by rw [Lib.cell_of_heap Yw2.out]; rfl
  have sx5 : w2.cell? ⟨w.heap.size, 5, none⟩ = some (.int .i64 x.vk) := by rw [Lib.cell_of_heap Xw2.out]; rfl
  have sy5 : w2.cell? ⟨w.heap.size + 1, 5, none⟩ = some (.int .i64 y.vk) := by rw [Lib.cell_of_heap Yw2.out]; rfl
  have sx6 : w2.cell? ⟨w.heap.size, 6, none⟩ = some (.string x.vt) := by rw [Lib.cell_of_heap Xw2.out]; rfl
  have sy6 : w2.cell? ⟨w.heap.size + 1, 6, none⟩ = some (.string y.vt) := by rw [Lib.cell_of_heap Yw2.out]; rfl
  have sx7 : w2.cell? ⟨w.heap.size, 7, none⟩ = some (.int .i64 x.vn) := by rw [Lib.cell_of_heap Xw2.out]; rfl
  have sy7 : w2.cell? ⟨w.heap.size + 1, 7, none⟩ = some (.int .i64 y.vn) := by rw [Lib.cell_of_heap Yw2.out]; rfl
  have sx8 : w2.cell? ⟨w.heap.size, 8, none⟩ = some (.int .i64 x.vm) := by rw [Lib.cell_of_heap Xw2.out]; rfl
  have sy8 : w2.cell? ⟨w.heap.size + 1, 8, none⟩ = some (.int .i64 y.vm) := by rw [Lib.cell_of_heap Yw2.out]; rfl
  have sx9 : w2.cell? ⟨w.heap.size, 9, none⟩ = some (.string x.vx) := by rw [Lib.cell_of_heap Xw2.out]; rfl
  have sy9 : w2.cell? ⟨w.heap.size + 1, 9, none⟩ = some (.string y.vx) := by rw [Lib.cell_of_heap Yw2.out]; rfl
  have sx10 : w2.cell? ⟨w.heap.size, 10, none⟩ = some (.slice B x.vl.length d) := by rw [Lib.cell_of_heap Xw2.out]; rfl
  have sy10 : w2.cell? ⟨w.heap.size + 1, 10, none⟩ = some (.slice B' y.vl.length d') := by rw [Lib.cell_of_heap Yw2.out]; rfl
  have sx11 : w2.cell? ⟨w.heap.size, 11, none⟩ = some (.int .i64 x.n) := by rw [Lib.cell_of_heap Xw2.out]; rfl
  have sy11 : w2.cell? ⟨w.heap.size + 1, 11, none⟩ = some (.int .i64 y.n) := by rw [Lib.cell_of_heap Yw2.out]; rfl
  cases g1 with
  | false =>
    go_wp2_with fail
    go_ret
    exact ⟨by rw [HU.out]; simp, Bw2.out⟩
  | true =>
    cases g2 with
    | false =>
      go_wp2_with fail
      go_ret
      exact ⟨by rw [HU.out]; simp, Bw2.out⟩
    | true =>
      cases q0 : (x.kind == y.kind) with
      | false =>
        rw [q0] at HU
        go_wp2_with fail
        go_ret
        exact ⟨by rw [HU.out]; simp, Bw2.out⟩
      | true =>
        rw [q0] at HU
        cases q1 : (x.path.toList == y.path.toList) with
        | false =>
          rw [q1] at HU
          go_wp2_with fail
          go_ret
          exact ⟨by rw [HU.out]; simp, Bw2.out⟩
        | true =>
          rw [q1] at HU
          cases q2 : (x.msg.toList == y.msg.toList) with
          | false =>
            rw [q2] at HU
            go_wp2_with fail
            go_ret
            exact ⟨by rw [HU.out]; simp, Bw2.out⟩
          | true =>
            rw [q2] at HU
            cases q3 : (x.ord == y.ord) with
            | false =>
              rw [q3] at HU
              go_wp2_with fail
              go_ret
              exact ⟨by rw [HU.out]; simp, Bw2.out⟩
            | true =>
              rw [q3] at HU
              cases q4 : (x.n == y.n) with
              | false =>
                rw [q4] at HU
                go_wp2_with fail
                go_ret
                exact ⟨by rw [HU.out]; simp, Bw2.out⟩
              | true =>
                rw [q4] at HU
                go_wp2_with fail
                go_ret
                exact ⟨by rw [HU.out]; simp, Bw2.out⟩
end Go.Proofs.YtlbmfgiepcemdaaGreat
