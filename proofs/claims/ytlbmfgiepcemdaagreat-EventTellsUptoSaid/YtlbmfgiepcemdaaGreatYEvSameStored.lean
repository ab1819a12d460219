/- event.Same: equality of events. Conditions: those in each statement. event.stored and event.plain: a valid value without closures and unknown integers. Conditions: those in each statement. -/
import Derived.Test.YtlbmfgiepcemdaaGreatYTypeCloneSame
import Derived.Test.YtlbmfgiepcemdaaGreatYNumValStructs
import Derived.Test.YtlbmfgiepcemdaaGreatYPathNodeANode
namespace Go.Proofs.YtlbmfgiepcemdaaGreat
open Go.RowKit

def Ev.val (x : Ev) : V := .mk x.vk x.vt x.vn x.vm x.vx x.vl
/-- equality of events -/
def eqE (x y : Ev) : Bool := ((x.kind == y.kind) && ((x.path.toList == y.path.toList) && ((x.msg.toList == y.msg.toList) && ((x.ord == y.ord) && ((x.n == y.n) && (eqVs x.args y.args && eqV x.val y.val))))))
theorem eqE_iff (x y : Ev) : eqE x y = true ↔ x = y := by
  constructor
  · intro h
    unfold eqE at h
    simp only [Bool.and_eq_true, beq_iff_eq, eqVs_iff, eqV_iff] at h
    obtain ⟨h1, h2, h3, h4, h5, h6, h7⟩ := h
    have e2 := bytes_ext h2
    have e3 := bytes_ext h3
    cases x; cases y
    unfold Ev.val at h7
    injection h7 with a1 a2 a3 a4 a5 a6
    simp only at h1 e2 e3 h4 h5 h6 a1 a2 a3 a4 a5 a6
    subst h1 e2 e3 h4 h5 h6 a1 a2 a3 a4 a5 a6
    rfl
  · rintro rfl
    unfold eqE
    simp [(eqVs_iff x.args x.args).2 rfl, (eqV_iff x.val x.val).2 rfl]
set_option maxHeartbeats 8000000 in
set_option maxRecDepth 100000 in
theorem evsame_any (x y : Ev) (A A' B B' : Option Addr) (c c' d d' : Nat) (w : World) (h1 : bulkV x.args ≤ 2097152) (h2 : bulkV y.args ≤ 2097152) (h3 : bulkV x.vl ≤ 2097152) (h4 : bulkV y.vl ≤ 2097152) (ra : Rd (Lt w.heap.size) w (vs x.args) (.slice A x.args.length c)) (ra' : Rd (Lt w.heap.size) w (vs y.args) (.slice A' y.args.length c')) (rv : Rd (Lt w.heap.size) w (vs x.vl) (.slice B x.vl.length d)) (rv' : Rd (Lt w.heap.size) w (vs y.vl) (.slice B' y.vl.length d')) :
    Calls Tryz.prog 8 #[.agg #[.int .i64 x.kind, .string x.path, .string x.msg, .slice A x.args.length c, .int .i64 x.ord, .int .i64 x.vk, .string x.vt, .int .i64 x.vn, .int .i64 x.vm, .string x.vx, .slice B x.vl.length d, .int .i64 x.n], .agg #[.int .i64 y.kind, .string y.path, .string y.msg, .slice A' y.args.length c', .int .i64 y.ord, .int .i64 y.vk, .string y.vt, .int .i64 y.vn, .int .i64 y.vm, .string y.vx, .slice B' y.vl.length d', .int .i64 y.n]] w fun e w' => e = .returned (.bool (eqE x y)) ∧ Below w.heap.size w w' := by
  obtain ⟨g1, hg1⟩ : ∃ g, eqVs x.args y.args = g := ⟨_, rfl⟩
  obtain ⟨g2, hg2⟩ : ∃ g, eqV x.val y.val = g := ⟨_, rfl⟩
  have HS : Hid (∀ W, Rd (Lt W.heap.size) W (vs x.args) (.slice A x.args.length c) → Rd (Lt W.heap.size) W (vs y.args) (.slice A' y.args.length c') → Calls Tryz.prog 25 #[.slice A x.args.length c, .slice A' y.args.length c'] W fun e w' => e = .returned (.bool g1) ∧ Below W.heap.size W w') := Lib.hid (fun W q1 q2 => by rw [← hg1]; exact sameOk h1 y.args A A' _ _ c c' W h2 q1 q2)
  have HE : Hid (∀ W, Rd (Lt W.heap.size) W (vs x.vl) (.slice B x.vl.length d) → Rd (Lt W.heap.size) W (vs y.vl) (.slice B' y.vl.length d') → Calls Tryz.prog 26 #[.agg #[.int .i64 x.vk, .string x.vt, .int .i64 x.vn, .int .i64 x.vm, .string x.vx, .slice B x.vl.length d], .agg #[.int .i64 y.vk, .string y.vt, .int .i64 y.vn, .int .i64 y.vm, .string y.vx, .slice B' y.vl.length d']] W fun e w' => e = .returned (.bool g2) ∧ Below W.heap.size W w') := Lib.hid (fun W q1 q2 => by rw [← hg2]; exact equal_of _ _ _ _ _ _ _ _ _ _ _ _ B B' d d' W (sameOk h3) h4 q1 q2)
  have HU : Hid (eqE x y = ((x.kind == y.kind) && ((x.path.toList == y.path.toList) && ((x.msg.toList == y.msg.toList) && ((x.ord == y.ord) && ((x.n == y.n) && (g1 && g2))))))) := Lib.hid (by unfold eqE; rw [hg1, hg2])
  have RA := Lib.hid ra
  have RA' := Lib.hid ra'
  have RV := Lib.hid rv
  have RV' := Lib.hid rv'
  clear ra ra' rv rv' hg1 hg2
  generalize eqE x y = R at *
  obtain ⟨W, hW⟩ : ∃ W, (w.alloc (.cells #[.int .i64 x.kind, .string x.path, .string x.msg, .slice A x.args.length c, .int .i64 x.ord, .int .i64 x.vk, .string x.vt, .int .i64 x.vn, .int .i64 x.vm, .string x.vx, .slice B x.vl.length d, .int .i64 x.n] 37)).alloc (.cells #[.int .i64 y.kind, .string y.path, .string y.msg, .slice A' y.args.length c', .int .i64 y.ord, .int .i64 y.vk, .string y.vt, .int .i64 y.vn, .int .i64 y.vm, .string y.vx, .slice B' y.vl.length d', .int .i64 y.n] 37) = W := ⟨_, rfl⟩
  have hA : Below w.heap.size w W := by rw [← hW]; exact ((Below.refl _ _).alloc (Nat.le_refl _) _).alloc (by simp) _
  have hsz : W.heap.size = w.heap.size + 2 := by rw [← hW]; simp
  have hX : W.heap[w.heap.size]? = some (.cells #[.int .i64 x.kind, .string x.path, .string x.msg, .slice A x.args.length c, .int .i64 x.ord, .int .i64 x.vk, .string x.vt, .int .i64 x.vn, .int .i64 x.vm, .string x.vx, .slice B x.vl.length d, .int .i64 x.n] 37 (0, 0)) := by rw [← hW]; exact ((Below.refl _ _).alloc (Nat.le_refl _) _ |>.block _ (by simp)).trans (heap_alloc_new w _)
  have hY : W.heap[w.heap.size + 1]? = some (.cells #[.int .i64 y.kind, .string y.path, .string y.msg, .slice A' y.args.length c', .int .i64 y.ord, .int .i64 y.vk, .string y.vt, .int .i64 y.vn, .int .i64 y.vm, .string y.vx, .slice B' y.vl.length d', .int .i64 y.n] 37 (0, 0)) := by rw [← hW]; have := heap_alloc_new (w.alloc (.cells #[.int .i64 x.kind, .string x.path, .string x.msg, .slice A x.args.length c, .int .i64 x.ord, .int .i64 x.vk, .string x.vt, .int .i64 x.vn, .int .i64 x.vm, .string x.vx, .slice B x.vl.length d, .int .i64 x.n] 37)) (.cells #[.int .i64 y.kind, .string y.path, .string y.msg, .slice A' y.args.length c', .int .i64 y.ord, .int .i64 y.vk, .string y.vt, .int .i64 y.vn, .int .i64 y.vm, .string y.vx, .slice B' y.vl.length d', .int .i64 y.n] 37); rw [World.size_alloc] at this; exact this
  have HA := Lib.hid hA
  have HX := Lib.hid hX
  have HY := Lib.hid hY
  have HSZ := Lib.hid hsz
  have px0 : W.cell? ⟨w.heap.size, 0, none⟩ = some (.int .i64 x.kind) := by rw [Lib.cell_of_heap hX]; rfl
  have py0 : W.cell? ⟨w.heap.size + 1, 0, none⟩ = some (.int .i64 y.kind) := by rw [Lib.cell_of_heap hY]; rfl
  have px1 : W.cell? ⟨w.heap.size, 1, none⟩ = some (.string x.path) := by rw [Lib.cell_of_heap hX]; rfl
  have py1 : W.cell? ⟨w.heap.size + 1, 1, none⟩ = some (.string y.path) := by rw [Lib.cell_of_heap hY]; rfl
  have px2 : W.cell? ⟨w.heap.size, 2, none⟩ = some (.string x.msg) := by rw [Lib.cell_of_heap hX]; rfl
  have py2 : W.cell? ⟨w.heap.size + 1, 2, none⟩ = some (.string y.msg) := by rw [Lib.cell_of_heap hY]; rfl
  have px3 : W.cell? ⟨w.heap.size, 3, none⟩ = some (.slice A x.args.length c) := by rw [Lib.cell_of_heap hX]; rfl
  have py3 : W.cell? ⟨w.heap.size + 1, 3, none⟩ = some (.slice A' y.args.length c') := by rw [Lib.cell_of_heap hY]; rfl
  have px4 : W.cell? ⟨w.heap.size, 4, none⟩ = some (.int .i64 x.ord) := by rw [Lib.cell_of_heap hX]; rfl
  have py4 : W.cell? ⟨w.heap.size + 1, 4, none⟩ = some (.int .i64 y.ord) := by rw [Lib.cell_of_heap hY]; rfl
  have px5 : W.cell? ⟨w.heap.size, 5, none⟩ = some (.int .i64 x.vk) := by rw [Lib.cell_of_heap hX]; rfl
  have py5 : W.cell? ⟨w.heap.size + 1, 5, none⟩ = some (.int .i64 y.vk) := by rw [Lib.cell_of_heap hY]; rfl
  have px6 : W.cell? ⟨w.heap.size, 6, none⟩ = some (.string x.vt) := by rw [Lib.cell_of_heap hX]; rfl
  have py6 : W.cell? ⟨w.heap.size + 1, 6, none⟩ = some (.string y.vt) := by rw [Lib.cell_of_heap hY]; rfl
  have px7 : W.cell? ⟨w.heap.size, 7, none⟩ = some (.int .i64 x.vn) := by rw [Lib.cell_of_heap hX]; rfl
  have py7 : W.cell? ⟨w.heap.size + 1, 7, none⟩ = some (.int .i64 y.vn) := by rw [Lib.cell_of_heap hY]; rfl
  have px8 : W.cell? ⟨w.heap.size, 8, none⟩ = some (.int .i64 x.vm) := by rw [Lib.cell_of_heap hX]; rfl
  have py8 : W.cell? ⟨w.heap.size + 1, 8, none⟩ = some (.int .i64 y.vm) := by rw [Lib.cell_of_heap hY]; rfl
  have px9 : W.cell? ⟨w.heap.size, 9, none⟩ = some (.string x.vx) := by rw [Lib.cell_of_heap hX]; rfl
  have py9 : W.cell? ⟨w.heap.size + 1, 9, none⟩ = some (.string y.vx) := by rw [Lib.cell_of_heap hY]; rfl
  have px10 : W.cell? ⟨w.heap.size, 10, none⟩ = some (.slice B x.vl.length d) := by rw [Lib.cell_of_heap hX]; rfl
  have py10 : W.cell? ⟨w.heap.size + 1, 10, none⟩ = some (.slice B' y.vl.length d') := by rw [Lib.cell_of_heap hY]; rfl
  have px11 : W.cell? ⟨w.heap.size, 11, none⟩ = some (.int .i64 x.n) := by rw [Lib.cell_of_heap hX]; rfl
  have py11 : W.cell? ⟨w.heap.size + 1, 11, none⟩ = some (.int .i64 y.n) := by rw [Lib.cell_of_heap hY]; rfl
  clear hA hX hY hsz
  cases q0 : (x.kind == y.kind) with
  | false =>
    rw [q0] at HU
    go_enter Tryz.func8, Tryz.ntmps8
    go_wp2_with fail
    go_ret
    exact ⟨by rw [HU.out]; rfl, HA.out⟩
  | true =>
    rw [q0] at HU
    cases q1 : (x.path.toList == y.path.toList) with
    | false =>
      rw [q1] at HU
      go_enter Tryz.func8, Tryz.ntmps8
      go_wp2_with fail
      go_ret
      exact ⟨by rw [HU.out]; rfl, HA.out⟩
    | true =>
      rw [q1] at HU
      cases q2 : (x.msg.toList == y.msg.toList) with
      | false =>
        rw [q2] at HU
        go_enter Tryz.func8, Tryz.ntmps8
        go_wp2_with fail
        go_ret
        exact ⟨by rw [HU.out]; rfl, HA.out⟩
      | true =>
        rw [q2] at HU
        cases q3 : (x.ord == y.ord) with
        | false =>
          rw [q3] at HU
          go_enter Tryz.func8, Tryz.ntmps8
          go_wp2_with fail
          go_ret
          exact ⟨by rw [HU.out]; rfl, HA.out⟩
        | true =>
          rw [q3] at HU
          cases q4 : (x.n == y.n) with
          | false =>
            rw [q4] at HU
            go_enter Tryz.func8, Tryz.ntmps8
            go_wp2_with fail
            go_ret
            exact ⟨by rw [HU.out]; rfl, HA.out⟩
          | true =>
            rw [q4] at HU
            go_enter Tryz.func8, Tryz.ntmps8
            go_wp2_with fail
            (with_reducible refine (HS.out _ ?_ ?_).mono ?_)
            · exact RA.out.belows HA.out
            · exact RA'.out.belows HA.out
            rintro e w1 ⟨rfl, hbw1⟩
            have Bw1 := Lib.hid (HA.out.trans (hbw1.mono HA.out.size))
            have Xw1 := Lib.hid ((hbw1.block w.heap.size (by have := HSZ.out; have := HA.out.size;  omega)).trans HX.out)
            have Yw1 := Lib.hid ((hbw1.block (w.heap.size + 1) (by have := HSZ.out;  omega)).trans HY.out)
            clear hbw1
            clear px0 py0 px1 py1 px2 py2 px3 py3 px4 py4 px5 py5 px6 py6 px7 py7 px8 py8 px9 py9 px10 py10 px11 py11
            have rx0 : w1.cell? ⟨w.heap.size, 0, none⟩ = some (.int .i64 x.kind) := by rw [Lib.cell_of_heap Xw1.out]; rfl
            have ry0 : w1.cell? ⟨w.heap.size + 1, 0, none⟩ = some (.int .i64 y.kind) := by rw [Lib.cell_of_heap Yw1.out]; rfl
            have rx1 : w1.cell? ⟨w.heap.size, 1, none⟩ = some (.string x.path) := by rw [Lib.cell_of_heap Xw1.out]; rfl
            have ry1 : w1.cell? ⟨w.heap.size + 1, 1, none⟩ = some (.string y.path) := by rw [Lib.cell_of_heap Yw1.out]; rfl
            have rx2 : w1.cell? ⟨w.heap.size, 2, none⟩ = some (.string x.msg) := by rw [Lib.cell_of_heap Xw1.out]; rfl
            have ry2 : w1.cell? ⟨w.heap.size + 1, 2, none⟩ = some (.string y.msg) := by rw [Lib.cell_of_heap Yw1.out]; rfl
            have rx3 : w1.cell? ⟨w.heap.size, 3, none⟩ = some (.slice A x.args.length c) := by rw [Lib.cell_of_heap Xw1.out]; rfl
            have ry3 : w1.cell? ⟨w.heap.size + 1, 3, none⟩ = some (.slice A' y.args.length c') := by rw [Lib.cell_of_heap Yw1.out]; rfl
            have rx4 : w1.cell? ⟨w.heap.size, 4, none⟩ = some (.int .i64 x.ord) := by rw [Lib.cell_of_heap Xw1.out]; rfl
            have ry4 : w1.cell? ⟨w.heap.size + 1, 4, none⟩ = some (.int .i64 y.ord) := by rw [Lib.cell_of_heap Yw1.out]; rfl
            have rx5 : w1.cell? ⟨w.heap.size, 5, none⟩ = some (.int .i64 x.vk) := by rw [Lib.cell_of_heap Xw1.out]; rfl
            have ry5 : w1.cell? ⟨w.heap.size + 1, 5, none⟩ = some (.int .i64 y.vk) := by rw [Lib.cell_of_heap Yw1.out]; rfl
            have rx6 : w1.cell? ⟨w.heap.size, 6, none⟩ = some (.string x.vt) := by rw [Lib.cell_of_heap Xw1.out]; rfl
            have ry6 : w1.cell? ⟨w.heap.size + 1, 6, none⟩ = some (.string y.vt) := by rw [Lib.cell_of_heap Yw1.out]; rfl
            have rx7 : w1.cell? ⟨w.heap.size, 7, none⟩ = some (.int .i64 x.vn) := by rw [Lib.cell_of_heap Xw1.out]; rfl
            have ry7 : w1.cell? ⟨w.heap.size + 1, 7, none⟩ = some (.int .i64 y.vn) := by rw [Lib.cell_of_heap Yw1.out]; rfl
            have rx8 : w1.cell? ⟨w.heap.size, 8, none⟩ = some (.int .i64 x.vm) := by rw [Lib.cell_of_heap Xw1.out]; rfl
            have ry8 : w1.cell? ⟨w.heap.size + 1, 8, none⟩ = some (.int .i64 y.vm) := by rw [Lib.cell_of_heap Yw1.out]; rfl
            have rx9 : w1.cell? ⟨w.heap.size, 9, none⟩ = some (.string x.vx) := by rw [Lib.cell_of_heap Xw1.out]; rfl
            have ry9 : w1.cell? ⟨w.heap.size + 1, 9, none⟩ = some (.string y.vx) := by rw [Lib.cell_of_heap Yw1.out]; rfl
            have rx10 : w1.cell? ⟨w.heap.size, 10, none⟩ = some (.slice B x.vl.length d) := by rw [Lib.cell_of_heap Xw1.out]; rfl
            have ry10 : w1.cell? ⟨w.heap.size + 1, 10, none⟩ = some (.slice B' y.vl.length d') := by rw [Lib.cell_of_heap Yw1.out]; rfl
            have rx11 : w1.cell? ⟨w.heap.size, 11, none⟩ = some (.int .i64 x.n) := by rw [Lib.cell_of_heap Xw1.out]; rfl
            have ry11 : w1.cell? ⟨w.heap.size + 1, 11, none⟩ = some (.int .i64 y.n) := by rw [Lib.cell_of_heap Yw1.out]; rfl
            cases g1 with
            | false =>
              go_wp2_with fail
              go_ret
              exact ⟨by rw [HU.out]; rfl, Bw1.out⟩
            | true =>
              go_wp2_with fail
              (with_reducible refine (HE.out _ ?_ ?_).mono ?_)
              · exact RV.out.belows Bw1.out
              · exact RV'.out.belows Bw1.out
              rintro e w2 ⟨rfl, hbw2⟩
              have Bw2 := Lib.hid (Bw1.out.trans (hbw2.mono Bw1.out.size))
              have Xw2 := Lib.hid ((hbw2.block w.heap.size (by have := HSZ.out; have := Bw1.out.size; have := Bw1.out.size; have := (Array.getElem?_eq_some_iff.1 Yw1.out).1; omega)).trans Xw1.out)
              have Yw2 := Lib.hid ((hbw2.block (w.heap.size + 1) (by have := HSZ.out; have := Bw1.out.size; have := (Array.getElem?_eq_some_iff.1 Yw1.out).1; omega)).trans Yw1.out)
              clear hbw2
              go_wp2_with fail
              go_ret
              exact ⟨by rw [HU.out]; simp, Bw2.out⟩
end Go.Proofs.YtlbmfgiepcemdaaGreat
namespace Go.Proofs.YtlbmfgiepcemdaaGreat
open Go.RowKit

mutual
def storedV : V → Bool
  | .mk k _ _ _ _ l => !((k == 9) || (k == 10)) && storedL l
def storedL : List V → Bool
  | [] => true
  | v :: r => storedV v && storedL r
end
theorem storedL_at : ∀ (l : List V) (i : Nat) (v : V), l[i]? = some v → storedV v = false → storedL l = false
  | [], i, v, h, _ => by simp at h
  | x :: r, 0, v, h, hv => by simp at h; subst h; rw [storedL, hv]; rfl
  | x :: r, i + 1, v, h, hv => by rw [storedL, storedL_at r i v (by simpa using h) hv]; simp
theorem storedL_all : ∀ (l : List V), (∀ (i : Nat) (v : V), l[i]? = some v → storedV v = true) → storedL l = true
  | [], _ => by rw [storedL]
  | x :: r, h => by
    rw [storedL, h 0 x rfl, storedL_all r (fun i v hv => h (i + 1) v (by simpa using hv))]; rfl
set_option maxHeartbeats 2000000 in
theorem stored_any : ∀ (N : Nat) (k : Int) (t : ByteArray) (n m : Int) (s : ByteArray) (l : List V) (A : Option Addr) (c : Nat) (w : World), (V.mk k t n m s l).bulk ≤ N → N ≤ 2097152 → Rd (Lt w.heap.size) w (vs l) (.slice A l.length c) →
    Calls Tryz.prog 53 #[.agg #[.int .i64 k, .string t, .int .i64 n, .int .i64 m, .string s, .slice A l.length c]] w fun e w' => e = .returned (.bool (storedV (.mk k t n m s l))) ∧ Below w.heap.size w w' := by
  intro N
  induction N with
  | zero =>
    intro k t n m s l A c w hb
    rw [bulk_mk] at hb
    omega
  | succ N ih =>
    intro k t n m s l A c w hb hN hr
    rw [bulk_mk] at hb
    have hll := bulkV_len l
    have HR := Lib.hid hr
    have IH := Lib.hid ih
    clear hr ih
    obtain ⟨R, hR⟩ : ∃ R, storedV (.mk k t n m s l) = R := ⟨_, rfl⟩
    have HU : Hid (R = (!((k == 9) || (k == 10)) && storedL l)) := Lib.hid (by rw [← hR, storedV])
    rw [hR]
    clear hR
    cases h9 : (k == 9) with
    | true =>
      rw [h9] at HU
      go_enter Tryz.func53, Tryz.ntmps53
      go_wp2_with fail
      go_ret
      exact ⟨by rw [HU.out]; rfl, (Below.refl _ _).alloc (Nat.le_refl _) _⟩
    | false =>
      rw [h9] at HU
      cases h10 : (k == 10) with
      | true =>
        rw [h10] at HU
        go_enter Tryz.func53, Tryz.ntmps53
        go_wp2_with fail
        go_ret
        exact ⟨by rw [HU.out]; rfl, (Below.refl _ _).alloc (Nat.le_refl _) _⟩
      | false =>
        rw [h10] at HU
        go_enter Tryz.func53, Tryz.ntmps53
        go_wp2_with fail
        go_loopw [16] (fun s16 wr => ∃ i : Nat, i ≤ l.length ∧ s16 = .int .i64 i ∧ Hid (∀ (j : Nat) (v : V), j < i → l[j]? = some v → storedV v = true) ∧ Hid (Below w.heap.size w wr)) (fun s16 _ => l.length - (intOf s16).toNat)
        case atStart => exact ⟨0, by omega, rfl, Lib.hid (fun j v h => absurd h (by omega)), Lib.hid ((Below.refl _ _).alloc (Nat.le_refl _) _)⟩
        case round =>
          obtain ⟨i, hi, rfl, HQ, HB⟩ := hrel
          by_cases hlt : i < l.length
          · obtain ⟨b, off, kd, t', n', m', s', l', A', c', e, hlb, hget, h2⟩ := vs_at (HR.out.belows HB.out) hlt
            subst e
            obtain ⟨c0, c1, c2, c3, c4, c5, r5⟩ := h2
            have hbk := bulkV_get _ _ _ hget
            have HG := Lib.hid hget
            obtain ⟨g, hg⟩ : ∃ g, storedV (.mk kd t' n' m' s' l') = g := ⟨_, rfl⟩
            have HC : Hid (∀ W, Rd (Lt W.heap.size) W (vs l') (.slice A' l'.length c') → Calls Tryz.prog 53 #[.agg #[.int .i64 kd, .string t', .int .i64 n', .int .i64 m', .string s', .slice A' l'.length c']] W fun e w' => e = .returned (.bool g) ∧ Below W.heap.size W w') := Lib.hid (fun W h => by rw [← hg]; exact IH.out kd t' n' m' s' l' A' c' W (by omega) (by omega) h)
            have HGV := Lib.hid hg
            have R5 := Lib.hid r5
            have HBS := Lib.hid HB.out.size
            clear r5 hget hg hbk
            go_wp2_with fail
            (with_reducible refine (HC.out _ (R5.out.allocs _)).mono ?_)
            rintro e w4 ⟨rfl, hb4⟩
            have B4 := Lib.hid (HB.out.trans ((((Below.refl wr.heap.size wr).alloc (Nat.le_refl _) _).trans (hb4.mono (by simp))).mono HBS.out))
            clear hb4
            cases g with
            | false =>
              have HF := Lib.hid (storedL_at l i _ HG.out HGV.out)
              go_wp2_with fail
              go_ret
              exact ⟨by rw [HU.out, HF.out]; rfl, B4.out⟩
            | true =>
              have HQ2 : Hid (∀ (j : Nat) (v : V), j < i + 1 → l[j]? = some v → storedV v = true) := Lib.hid (fun j v hj hv => by
                rcases Nat.lt_or_ge j i with h | h
                · exact HQ.out j v h hv
                · obtain rfl : j = i := by omega
                  rw [HG.out] at hv
                  rw [← Option.some.inj hv]; exact HGV.out)
              go_wp2_with fail
              exact ⟨⟨i + 1, by omega, by go_num, HQ2, B4⟩, by simp [intOf]; omega⟩
          · have HT := Lib.hid (storedL_all l (fun j v hv => HQ.out j v (by have := (List.getElem?_eq_some_iff.1 hv).1; omega) hv))
            go_wp2_with fail
            go_ret
            exact ⟨by rw [HU.out, HT.out]; rfl, HB.out⟩
/-- a plain value -/
def plainV (v : V) : Bool := rightP nodeP v && storedV v
set_option maxHeartbeats 1000000 in
theorem plain_any (k : Int) (t : ByteArray) (n m : Int) (s : ByteArray) (l : List V) (A : Option Addr) (c : Nat) (w : World) (hb : (V.mk k t n m s l).bulk ≤ 2097152) (hr : Rd (Lt w.heap.size) w (vs l) (.slice A l.length c)) :
    Calls Tryz.prog 19 #[.agg #[.int .i64 k, .string t, .int .i64 n, .int .i64 m, .string s, .slice A l.length c]] w fun e w' => e = .returned (.bool (plainV (.mk k t n m s l))) ∧ Below w.heap.size w w' := by
  have HS := Lib.hid (fun W h => stored_any _ k t n m s l A c W (Nat.le_refl _) hb h)
  have HC := Lib.hid (fun W h => right_of nodeP k t n m s l A c W hb (nodeOk_all _ hb) h)
  have HR := Lib.hid hr
  obtain ⟨R, hR⟩ : ∃ R, plainV (.mk k t n m s l) = R := ⟨_, rfl⟩
  have HU : Hid (R = (rightP nodeP (.mk k t n m s l) && storedV (.mk k t n m s l))) := Lib.hid (by rw [← hR, plainV])
  rw [hR]
  generalize rightP nodeP (.mk k t n m s l) = g1 at *
  generalize storedV (.mk k t n m s l) = g2 at *
  clear hR hr
  go_enter Tryz.func19, Tryz.ntmps19
  go_wp2_with fail
  (with_reducible refine (HC.out _ (HR.out.allocs _)).mono ?_)
  rintro e w1 ⟨rfl, hb1⟩
  have B1 := Lib.hid (((Below.refl w.heap.size w).alloc (Nat.le_refl _) _).trans (hb1.mono (by simp)))
  have hX := (hb1.block w.heap.size (by simp)).trans (heap_alloc_new w (.cells #[.int .i64 k, .string t, .int .i64 n, .int .i64 m, .string s, .slice A l.length c] 35))
  have x0 : w1.cell? ⟨w.heap.size, 0, none⟩ = some (.int .i64 k) := by rw [Lib.cell_of_heap hX]; rfl
  have x1 : w1.cell? ⟨w.heap.size, 1, none⟩ = some (.string t) := by rw [Lib.cell_of_heap hX]; rfl
  have x2 : w1.cell? ⟨w.heap.size, 2, none⟩ = some (.int .i64 n) := by rw [Lib.cell_of_heap hX]; rfl
  have x3 : w1.cell? ⟨w.heap.size, 3, none⟩ = some (.int .i64 m) := by rw [Lib.cell_of_heap hX]; rfl
  have x4 : w1.cell? ⟨w.heap.size, 4, none⟩ = some (.string s) := by rw [Lib.cell_of_heap hX]; rfl
  have x5 : w1.cell? ⟨w.heap.size, 5, none⟩ = some (.slice A l.length c) := by rw [Lib.cell_of_heap hX]; rfl
  clear hb1 hX
  cases g1 with
  | false =>
    go_wp2_with fail
    go_ret
    exact ⟨by rw [HU.out]; rfl, B1.out⟩
  | true =>
    go_wp2_with fail
    (with_reducible refine (HS.out _ (HR.out.belows B1.out)).mono ?_)
    rintro e w2 ⟨rfl, hb2⟩
    have B2 := Lib.hid (B1.out.trans (hb2.mono B1.out.size))
    clear hb2
    go_wp2_with fail
    go_ret
    exact ⟨by rw [HU.out]; rfl, B2.out⟩
/-- an event that is written together with those of its kind that follow it -/
def groupedE (x : Ev) : Bool := (x.kind == 3) || ((x.kind == 2) && (x.n == 0))
theorem grouped_any (x : Ev) (A B : Option Addr) (c d : Nat) (w : World) : Calls Tryz.prog 43 #[.agg #[.int .i64 x.kind, .string x.path, .string x.msg, .slice A x.args.length c, .int .i64 x.ord, .int .i64 x.vk, .string x.vt, .int .i64 x.vn, .int .i64 x.vm, .string x.vx, .slice B x.vl.length d, .int .i64 x.n]] w fun e w' => e = .returned (.bool (groupedE x)) ∧ Below w.heap.size w w' := by
  obtain ⟨R, hR⟩ : ∃ R, groupedE x = R := ⟨_, rfl⟩
  have HU : Hid (R = ((x.kind == 3) || ((x.kind == 2) && (x.n == 0)))) := Lib.hid hR.symm
  rw [hR]
  clear hR
  cases h1 : (x.kind == 3) with
  | true =>
    rw [h1] at HU
    go_enter Tryz.func43, Tryz.ntmps43
    go_wp2_with fail
    go_ret
    exact ⟨by rw [HU.out]; rfl, (Below.refl _ _).alloc (Nat.le_refl _) _⟩
  | false =>
    rw [h1] at HU
    cases h2 : (x.kind == 2) with
    | false =>
      rw [h2] at HU
      go_enter Tryz.func43, Tryz.ntmps43
      go_wp2_with fail
      go_ret
      exact ⟨by rw [HU.out]; rfl, (Below.refl _ _).alloc (Nat.le_refl _) _⟩
    | true =>
      rw [h2] at HU
      go_enter Tryz.func43, Tryz.ntmps43
      go_wp2_with fail
      go_ret
      exact ⟨by rw [HU.out]; rfl, (Below.refl _ _).alloc (Nat.le_refl _) _⟩
end Go.Proofs.YtlbmfgiepcemdaaGreat
