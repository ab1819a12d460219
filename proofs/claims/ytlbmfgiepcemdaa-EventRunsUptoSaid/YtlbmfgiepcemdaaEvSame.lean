/- event.Same: equality of events. Conditions: those in each statement. -/
import Derived.Test.YtlbmfgiepcemdaaSame
import Derived.Test.YtlbmfgiepcemdaaStructs
namespace Go.Proofs.Ytlbmfgiepcemdaa
open Go.RowKit

def Ev.val (x : Ev) : V := .mk x.vk x.vt x.vn x.vm x.vx x.vl
/-- equality of events -/
def eqE (x y : Ev) : Bool := ((x.kind == y.kind) && ((x.path.toList == y.path.toList) && ((x.msg.toList == y.msg.toList) && ((x.ord == y.ord) && ((x.n == y.n) && (eqVs x.args y.args && eqV x.val y.val))))))
theorem eqE_iff (x y : Ev) : eqE x y = true ↔ x = y := by
  constructor
  · intro h
    unfold eqE at h
    simp only [Bool.and_eq_true, beq_iff_eq, eqVs_iff, eqV_iff] at h
    obtain ⟨h1, h2, h3, h4, h5, h6, h7⟩ := h
    have e2 := bytes_ext h2
    have e3 := bytes_ext h3
    cases x; cases y
    unfold Ev.val at h7
    injection h7 with a1 a2 a3 a4 a5 a6
    simp only at h1 e2 e3 h4 h5 h6 a1 a2 a3 a4 a5 a6
    subst h1 e2 e3 h4 h5 h6 a1 a2 a3 a4 a5 a6
    rfl
  · rintro rfl
    unfold eqE
    simp [(eqVs_iff x.args x.args).2 rfl, (eqV_iff x.val x.val).2 rfl]
set_option maxHeartbeats 8000000 in
set_option maxRecDepth 100000 in
theorem evsame_any (x y : Ev) (A A' B B' : Option Addr) (c c' d d' : Nat) (w : World) (h1 : bulkV x.args ≤ 2097152) (h2 : bulkV y.args ≤ 2097152) (h3 : bulkV x.vl ≤ 2097152) (h4 : bulkV y.vl ≤ 2097152) (ra : Rd (Lt w.heap.size) w (vs x.args) (.slice A x.args.length c)) (ra' : Rd (Lt w.heap.size) w (vs y.args) (.slice A' y.args.length c')) (rv : Rd (Lt w.heap.size) w (vs x.vl) (.slice B x.vl.length d)) (rv' : Rd (Lt w.heap.size) w (vs y.vl) (.slice B' y.vl.length d')) :
    Calls Try.prog 16 #[.agg #[.int .i64 x.kind, .string x.path, .string x.msg, .slice A x.args.length c, .int .i64 x.ord, .int .i64 x.vk, .string x.vt, .int .i64 x.vn, .int .i64 x.vm, .string x.vx, .slice B x.vl.length d, .int .i64 x.n], .agg #[.int .i64 y.kind, .string y.path, .string y.msg, .slice A' y.args.length c', .int .i64 y.ord, .int .i64 y.vk, .string y.vt, .int .i64 y.vn, .int .i64 y.vm, .string y.vx, .slice B' y.vl.length d', .int .i64 y.n]] w fun e w' => e = .returned (.bool (eqE x y)) ∧ Below w.heap.size w w' := by
  obtain ⟨g1, hg1⟩ : ∃ g, eqVs x.args y.args = g := ⟨_, rfl⟩
  obtain ⟨g2, hg2⟩ : ∃ g, eqV x.val y.val = g := ⟨_, rfl⟩
  have HS : Hid (∀ W, Rd (Lt W.heap.size) W (vs x.args) (.slice A x.args.length c) → Rd (Lt W.heap.size) W (vs y.args) (.slice A' y.args.length c') → Calls Try.prog 36 #[.slice A x.args.length c, .slice A' y.args.length c'] W fun e w' => e = .returned (.bool g1) ∧ Below W.heap.size W w') := Lib.hid (fun W q1 q2 => by rw [← hg1]; exact sameOk h1 y.args A A' _ _ c c' W h2 q1 q2)
  have HE : Hid (∀ W, Rd (Lt W.heap.size) W (vs x.vl) (.slice B x.vl.length d) → Rd (Lt W.heap.size) W (vs y.vl) (.slice B' y.vl.length d') → Calls Try.prog 37 #[.agg #[.int .i64 x.vk, .string x.vt, .int .i64 x.vn, .int .i64 x.vm, .string x.vx, .slice B x.vl.length d], .agg #[.int .i64 y.vk, .string y.vt, .int .i64 y.vn, .int .i64 y.vm, .string y.vx, .slice B' y.vl.length d']] W fun e w' => e = .returned (.bool g2) ∧ Below W.heap.size W w') := Lib.hid (fun W q1 q2 => by rw [← hg2]; exact equal_of _ _ _ _ _ _ _ _ _ _ _ _ B B' d d' W (sameOk h3) h4 q1 q2)
  have HU : Hid (eqE x y = ((x.kind == y.kind) && ((x.path.toList == y.path.toList) && ((x.msg.toList == y.msg.toList) && ((x.ord == y.ord) && ((x.n == y.n) && (g1 && g2))))))) := Lib.hid (by unfold eqE; rw [hg1, hg2])
  have RA := Lib.hid ra
  have RA' := Lib.hid ra'
  have RV := Lib.hid rv
  have RV' := Lib.hid rv'
  clear ra ra' rv rv' hg1 hg2
  generalize eqE x y = R at *
  obtain ⟨W, hW⟩ : ∃ W, (w.alloc (.cells #[.int .i64 x.kind, .string x.path, .string x.msg, .slice A x.args.length c, .int .i64 x.ord, .int .i64 x.vk, .string x.vt, .int .i64 x.vn, .int .i64 x.vm, .string x.vx, .slice B x.vl.length d, .int .i64 x.n] 30)).alloc (.cells #[.int .i64 y.kind, .string y.path, .string y.msg, .slice A' y.args.length c', .int .i64 y.ord, .int .i64 y.vk, .string y.vt, .int .i64 y.vn, .int .i64 y.vm, .string y.vx, .slice B' y.vl.length d', .int .i64 y.n] 30) = W := ⟨_, rfl⟩
  have hA : Below w.heap.size w W := by rw [← hW]; exact ((Below.refl _ _).alloc (Nat.le_refl _) _).alloc (by simp) _
  have hsz : W.heap.size = w.heap.size + 2 := by rw [← hW]; simp
  have hX : W.heap[w.heap.size]? = some (.cells #[.int .i64 x.kind, .string x.path, .string x.msg, .slice A x.args.length c, .int .i64 x.ord, .int .i64 x.vk, .string x.vt, .int .i64 x.vn, .int .i64 x.vm, .string x.vx, .slice B x.vl.length d, .int .i64 x.n] 30 (0, 0)) := by rw [← hW]; exact ((Below.refl _ _).alloc (Nat.le_refl _) _ |>.block _ (by simp)).trans (heap_alloc_new w _)
  have hY : W.heap[w.heap.size + 1]? = some (.cells #[.int .i64 y.kind, .string y.path, .string y.msg, .slice A' y.args.length c', .int .i64 y.ord, .int .i64 y.vk, .string y.vt, .int .i64 y.vn, .int .i64 y.vm, .string y.vx, .slice B' y.vl.length d', .int .i64 y.n] 30 (0, 0)) := by rw [← hW]; have := heap_alloc_new (w.alloc (.cells #[.int .i64 x.kind, .string x.path, .string x.msg, .slice A x.args.length c, .int .i64 x.ord, .int .i64 x.vk, .string x.vt, .int .i64 x.vn, .int .i64 x.vm, .string x.vx, .slice B x.vl.length d, .int .i64 x.n] 30)) (.cells #[.int .i64 y.kind, .string y.path, .string y.msg, .slice A' y.args.length c', .int .i64 y.ord, .int .i64 y.vk, .string y.vt, .int .i64 y.vn, .int .i64 y.vm, .string y.vx, .slice B' y.vl.length d', .int .i64 y.n] 30); rw [World.size_alloc] at this; exact this
  have HA := Lib.hid hA
  have HX := Lib.hid hX
  have HY := Lib.hid hY
  have HSZ := Lib.hid hsz
  have px0 : W.cell? ⟨w.heap.size, 0, none⟩ = some (.int .i64 x.kind) := by rw [Lib.cell_of_heap hX]; rfl
  have py0 : W.cell? ⟨w.heap.size + 1, 0, none⟩ = some (.int .i64 y.kind) := by rw [Lib.cell_of_heap hY]; rfl
  have px1 : W.cell? ⟨w.heap.size, 1, none⟩ = some (.string x.path) := by rw [Lib.cell_of_heap hX]; rfl
  have py1 : W.cell? ⟨w.heap.size + 1, 1, none⟩ = some (.string y.path) := by rw [Lib.cell_of_heap hY]; rfl
  have px2 : W.cell? ⟨w.heap.size, 2, none⟩ = some (.string x.msg) := by rw [Lib.cell_of_heap hX]; rfl
  have py2 : W.cell? ⟨w.heap.size + 1, 2, none⟩ = some (.string y.msg) := by rw [Lib.cell_of_heap hY]; rfl
  have px3 : W.cell? ⟨w.heap.size, 3, none⟩ = some (.slice A x.args.length c) := by rw [Lib.cell_of_heap hX]; rfl
  have py3 : W.cell? ⟨w.heap.size + 1, 3, none⟩ = some (.slice A' y.args.length c') := by rw [Lib.cell_of_heap hY]; rfl
  have px4 : W.cell? ⟨w.heap.size, 4, none⟩ = some (.int .i64 x.ord) := by rw [Lib.cell_of_heap hX]; rfl
  have py4 : W.cell? ⟨w.heap.size + 1, 4, none⟩ = some (.int .i64 y.ord) := by rw [Lib.cell_of_heap hY]; rfl
  have px5 : W.cell? ⟨w.heap.size, 5, none⟩ = some (.int .i64 x.vk) := by rw [Lib.cell_of_heap hX]; rfl
  have py5 : W.cell? ⟨w.heap.size + 1, 5, none⟩ = some (.int .i64 y.vk) := by rw [Lib.cell_of_heap hY]; rfl
  have px6 : W.cell? ⟨w.heap.size, 6, none⟩ = some (.string x.vt) := by rw [Lib.cell_of_heap hX]; rfl
  have py6 : W.cell? ⟨w.heap.size + 1, 6, none⟩ = some (.string y.vt) := by rw [Lib.cell_of_heap hY]; rfl
  have px7 : W.cell? ⟨w.heap.size, 7, none⟩ = some (.int .i64 x.vn) := by rw [Lib.cell_of_heap hX]; rfl
  have py7 : W.cell? ⟨w.heap.size + 1, 7, none⟩ = some (.int .i64 y.vn) := by rw [Lib.cell_of_heap hY]; rfl
  have px8 : W.cell? ⟨w.heap.size, 8, none⟩ = some (.int .i64 x.vm) := by rw [Lib.cell_of_heap hX]; rfl
  have py8 : W.cell? ⟨w.heap.size + 1, 8, none⟩ = some (.int .i64 y.vm) := by rw [Lib.cell_of_heap hY]; rfl
  have px9 : W.cell? ⟨w.heap.size, 9, none⟩ = some (.string x.vx) := by rw [Lib.cell_of_heap hX]; rfl
  have py9 : W.cell? ⟨w.heap.size + 1, 9, none⟩ = some (.string y.vx) := by rw [Lib.cell_of_heap hY]; rfl
  have px10 : W.cell? ⟨w.heap.size, 10, none⟩ = some (.slice B x.vl.length d) := by rw [Lib.cell_of_heap hX]; rfl
  have py10 : W.cell? ⟨w.heap.size + 1, 10, none⟩ = some (.slice B' y.vl.length d') := by rw [Lib.cell_of_heap hY]; rfl
  have px11 : W.cell? ⟨w.heap.size, 11, none⟩ = some (.int .i64 x.n) := by rw [Lib.cell_of_heap hX]; rfl
  have py11 : W.cell? ⟨w.heap.size + 1, 11, none⟩ = some (.int .i64 y.n) := by rw [Lib.cell_of_heap hY]; rfl
  clear hA hX hY hsz
  cases q0 : (x.kind == y.kind) with
  | false =>
    rw [q0] at HU
    go_enter Try.func16, Try.ntmps16
    go_wp2_with fail
    go_ret
    exact ⟨by rw [HU.out]; rfl, HA.out⟩
  | true =>
    rw [q0] at HU
    cases q1 : (x.path.toList == y.path.toList) with
    | false =>
      rw [q1] at HU
      go_enter Try.func16, Try.ntmps16
      go_wp2_with fail
      go_ret
      exact ⟨by rw [HU.out]; rfl, HA.out⟩
    | true =>
      rw [q1] at HU
      cases q2 : (x.msg.toList == y.msg.toList) with
      | false =>
        rw [q2] at HU
        go_enter Try.func16, Try.ntmps16
        go_wp2_with fail
        go_ret
        exact ⟨by rw [HU.out]; rfl, HA.out⟩
      | true =>
        rw [q2] at HU
        cases q3 : (x.ord == y.ord) with
        | false =>
          rw [q3] at HU
          go_enter Try.func16, Try.ntmps16
          go_wp2_with fail
          go_ret
          exact ⟨by rw [HU.out]; rfl, HA.out⟩
        | true =>
          rw [q3] at HU
          cases q4 : (x.n == y.n) with
          | false =>
            rw [q4] at HU
            go_enter Try.func16, Try.ntmps16
            go_wp2_with fail
            go_ret
            exact ⟨by rw [HU.out]; rfl, HA.out⟩
          | true =>
            rw [q4] at HU
            go_enter Try.func16, Try.ntmps16
            go_wp2_with fail
            (with_reducible refine (HS.out _ ?_ ?_).mono ?_)
            · exact RA.out.belows HA.out
            · exact RA'.out.belows HA.out
            rintro e w1 ⟨rfl, hbw1⟩
            have Bw1 := Lib.hid (HA.out.trans (hbw1.mono HA.out.size))
            have Xw1 := Lib.hid ((hbw1.block w.heap.size (by have := HSZ.out; have := HA.out.size;  omega)).trans HX.out)
            have Yw1 := Lib.hid ((hbw1.block (w.heap.size + 1) (by have := HSZ.out;  omega)).trans HY.out)
            clear hbw1
            clear px0 py0 px1 py1 px2 py2 px3 py3 px4 py4 px5 py5 px6 py6 px7 py7 px8 py8 px9 py9 px10 py10 px11 py11
            have rx0 : w1.cell? ⟨w.heap.size, 0, none⟩ = some (.int .i64 x.kind) := by rw [Lib.cell_of_heap Xw1.out]; rfl
            have ry0 : w1.cell? ⟨w.heap.size + 1, 0, none⟩ = some (.int .i64 y.kind) := by rw [Lib.cell_of_heap Yw1.out]; rfl
            have rx1 : w1.cell? ⟨w.heap.size, 1, none⟩ = some (.string x.path) := by rw [Lib.cell_of_heap Xw1.out]; rfl
            have ry1 : w1.cell? ⟨w.heap.size + 1, 1, none⟩ = some (.string y.path) := by rw [Lib.cell_of_heap Yw1.out]; rfl
            have rx2 : w1.cell? ⟨w.heap.size, 2, none⟩ = some (.string x.msg) := by rw [Lib.cell_of_heap Xw1.out]; rfl
            have ry2 : w1.cell? ⟨w.heap.size + 1, 2, none⟩ = some (.string y.msg) := by rw [Lib.cell_of_heap Yw1.out]; rfl
            have rx3 : w1.cell? ⟨w.heap.size, 3, none⟩ = some (.slice A x.args.length c) := by rw [Lib.cell_of_heap Xw1.out]; rfl
            have ry3 : w1.cell? ⟨w.heap.size + 1, 3, none⟩ = some (.slice A' y.args.length c') := by rw [Lib.cell_of_heap Yw1.out]; rfl
            have rx4 : w1.cell? ⟨w.heap.size, 4, none⟩ = some (.int .i64 x.ord) := by rw [Lib.cell_of_heap Xw1.out]; rfl
            have ry4 : w1.cell? ⟨w.heap.size + 1, 4, none⟩ = some (.int .i64 y.ord) := by rw [Lib.cell_of_heap Yw1.out]; rfl
            have rx5 : w1.cell? ⟨w.heap.size, 5, none⟩ = some (.int .i64 x.vk) := by rw [Lib.cell_of_heap Xw1.out]; rfl
            have ry5 : w1.cell? ⟨w.heap.size + 1, 5, none⟩ = some (.int .i64 y.vk) := by rw [Lib.cell_of_heap Yw1.out]; rfl
            have rx6 : w1.cell? ⟨w.heap.size, 6, none⟩ = some (.string x.vt) := by rw [Lib.cell_of_heap Xw1.out]; rfl
            have ry6 : w1.cell? ⟨w.heap.size + 1, 6, none⟩ = some (.string y.vt) := by rw [Lib.cell_of_heap Yw1.out]; rfl
            have rx7 : w1.cell? ⟨w.heap.size, 7, none⟩ = some (.int .i64 x.vn) := by rw [Lib.cell_of_heap Xw1.out]; rfl
            have ry7 : w1.cell? ⟨w.heap.size + 1, 7, none⟩ = some (.int .i64 y.vn) := by rw [Lib.cell_of_heap Yw1.out]; rfl
            have rx8 : w1.cell? ⟨w.heap.size, 8, none⟩ = some (.int .i64 x.vm) := by rw [Lib.cell_of_heap Xw1.out]; rfl
            have ry8 : w1.cell? ⟨w.heap.size + 1, 8, none⟩ = some (.int .i64 y.vm) := by rw [Lib.cell_of_heap Yw1.out]; rfl
            have rx9 : w1.cell? ⟨w.heap.size, 9, none⟩ = some (.string x.vx) := by rw [Lib.cell_of_heap Xw1.out]; rfl
            have ry9 : w1.cell? ⟨w.heap.size + 1, 9, none⟩ = some (.string y.vx) := by rw [Lib.cell_of_heap Yw1.out]; rfl
            have rx10 : w1.cell? ⟨w.heap.size, 10, none⟩ = some (.slice B x.vl.length d) := by rw [Lib.cell_of_heap Xw1.out]; rfl
            have ry10 : w1.cell? ⟨w.heap.size + 1, 10, none⟩ = some (.slice B' y.vl.length d') := by rw [Lib.cell_of_heap Yw1.out]; rfl
            have rx11 : w1.cell? ⟨w.heap.size, 11, none⟩ = some (.int .i64 x.n) := by rw [Lib.cell_of_heap Xw1.out]; rfl
            have ry11 : w1.cell? ⟨w.heap.size + 1, 11, none⟩ = some (.int .i64 y.n) := by rw [Lib.cell_of_heap Yw1.out]; rfl
            cases g1 with
            | false =>
              go_wp2_with fail
              go_ret
              exact ⟨by rw [HU.out]; rfl, Bw1.out⟩
            | true =>
              go_wp2_with fail
              (with_reducible refine (HE.out _ ?_ ?_).mono ?_)
              · exact RV.out.belows Bw1.out
              · exact RV'.out.belows Bw1.out
              rintro e w2 ⟨rfl, hbw2⟩
              have Bw2 := Lib.hid (Bw1.out.trans (hbw2.mono Bw1.out.size))
              have Xw2 := Lib.hid ((hbw2.block w.heap.size (by have := HSZ.out; have := Bw1.out.size; have := Bw1.out.size; have := (Array.getElem?_eq_some_iff.1 Yw1.out).1; omega)).trans Xw1.out)
              have Yw2 := Lib.hid ((hbw2.block (w.heap.size + 1) (by have := HSZ.out; have := Bw1.out.size; have := (Array.getElem?_eq_some_iff.1 Yw1.out).1; omega)).trans Yw1.out)
              clear hbw2
              go_wp2_with fail
              go_ret
              exact ⟨by rw [HU.out]; simp, Bw2.out⟩
end Go.Proofs.Ytlbmfgiepcemdaa
