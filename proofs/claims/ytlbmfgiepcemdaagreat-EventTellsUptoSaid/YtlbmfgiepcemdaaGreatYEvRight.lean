/- event.Right: is an event valid? Conditions: those in each statement. -/
import Derived.Test.YtlbmfgiepcemdaaGreatYEvSameStored
import Derived.Test.YtlbmfgiepcemdaaGreatYDecPBldE
namespace Go.Proofs.YtlbmfgiepcemdaaGreat
open Go.RowKit

def zE : Ev := ⟨0, ⟨#[]⟩, ⟨#[]⟩, [], 0, 0, ⟨#[]⟩, 0, 0, ⟨#[]⟩, [], 0⟩
def letterB (x : Ev) : Bool := pathS x.path && decide (1 ≤ x.msg.size ∧ x.msg.size ≤ 200 ∧ x.args.length ≤ 4096)
def guardE (x : Ev) : Bool :=
  if x.kind == 1 then letterB x
  else if x.kind == 4 then letterB x && (decide (0 ≤ x.ord ∧ x.ord ≤ 1099511627776) && plainV x.val)
  else if x.kind == 2 then decide (0 ≤ x.n ∧ x.n ≤ 1099511627776)
  else if (x.kind == 5) || (x.kind == 6) then decide (0 ≤ x.n ∧ x.n < 8)
  else x.kind == 3
def restE (x : Ev) : Ev :=
  if x.kind == 1 then ⟨0, ⟨#[]⟩, ⟨#[]⟩, [], x.ord, x.vk, x.vt, x.vn, x.vm, x.vx, x.vl, x.n⟩
  else if x.kind == 4 then ⟨0, ⟨#[]⟩, ⟨#[]⟩, [], 0, 0, ⟨#[]⟩, 0, 0, ⟨#[]⟩, [], x.n⟩
  else if x.kind == 3 then ⟨0, x.path, x.msg, x.args, x.ord, x.vk, x.vt, x.vn, x.vm, x.vx, x.vl, x.n⟩
  else ⟨0, x.path, x.msg, x.args, x.ord, x.vk, x.vt, x.vn, x.vm, x.vx, x.vl, 0⟩
def rightE (x : Ev) : Bool := guardE x && (eqE (restE x) zE && x.args.all plainV)
/-- the box of the event, and the copy of which all but what may be set is cleared -/
structure RSt (w0 W : World) (xc rc : Array Value) : Prop where
  bel : Below w0.heap.size w0 W
  x : CellsAt W w0.heap.size xc 37
  r : CellsAt W (w0.heap.size + 1) rc 37
theorem RSt.below {w0 W W' : World} {xc rc : Array Value} (h : RSt w0 W xc rc) (hb : Below W.heap.size W W') : RSt w0 W' xc rc :=
  ⟨h.bel.trans (hb.mono h.bel.size), (hb.block _ h.x.lt).trans h.x, (hb.block _ h.r.lt).trans h.r⟩
theorem RSt.store {w0 W : World} {xc rc : Array Value} (h : RSt w0 W xc rc) (j : Nat) (u : Value) : RSt w0 (W.setCell ⟨w0.heap.size + 1, j, none⟩ u) xc (rc.setIfInBounds j u) := by
  have hc : Chg (fun k => k = w0.heap.size + 1) W (W.setCell ⟨w0.heap.size + 1, j, none⟩ u) := (Chg.refl (fun k => k = w0.heap.size + 1) W).setCell (p := ⟨w0.heap.size + 1, j, none⟩) (.inl rfl) u
  exact ⟨h.bel.setCell (p := ⟨w0.heap.size + 1, j, none⟩) (by show w0.heap.size ≤ w0.heap.size + 1; omega) u, h.x.keep hc (by omega), h.r.set j u⟩
theorem all_no {l : List V} {i : Nat} {v : V} (h : l[i]? = some v) (hv : plainV v = false) : l.all plainV = false := by
  cases hb : l.all plainV with
  | false => rfl
  | true => rw [List.all_eq_true] at hb; rw [hb v (List.mem_of_getElem? h)] at hv; cases hv
theorem all_yes {l : List V} (h : ∀ (i : Nat) (v : V), l[i]? = some v → plainV v = true) : l.all plainV = true := by
  rw [List.all_eq_true]
  intro v hv
  obtain ⟨i, hi⟩ := List.mem_iff_getElem?.1 hv
  exact h i v hi

set_option maxHeartbeats 16000000 in
set_option maxRecDepth 100000 in
theorem right_any (x : Ev) (A B : Option Addr) (c d : Nat) (w : World) (h1 : bulkV x.args ≤ 2097152) (h3 : x.val.bulk ≤ 2097152) (hp : x.path.size ≤ 2097152) (hm : x.msg.size ≤ 2097152) (ra : Rd (Lt w.heap.size) w (vs x.args) (.slice A x.args.length c)) (rv : Rd (Lt w.heap.size) w (vs x.vl) (.slice B x.vl.length d)) :
    Calls Tryz.prog 6 #[.agg #[.int .i64 x.kind, .string x.path, .string x.msg, .slice A x.args.length c, .int .i64 x.ord, .int .i64 x.vk, .string x.vt, .int .i64 x.vn, .int .i64 x.vm, .string x.vx, .slice B x.vl.length d, .int .i64 x.n]] w fun e w' => e = .returned (.bool (rightE x)) ∧ Below w.heap.size w w' := by
  have h4 : bulkV x.vl ≤ 2097152 := by unfold Ev.val at h3; rw [bulk_mk] at h3; omega
  have hal := bulkV_len x.args
  have HPV := Lib.hid (fun W h => plain_any x.vk x.vt x.vn x.vm x.vx x.vl B d W h3 h)
  have RA := Lib.hid ra
  have RV := Lib.hid rv
  have HG0 : Hid (guardE x = if x.kind == 1 then letterB x else if x.kind == 4 then letterB x && (decide (0 ≤ x.ord ∧ x.ord ≤ 1099511627776) && plainV x.val) else if x.kind == 2 then decide (0 ≤ x.n ∧ x.n ≤ 1099511627776) else if (x.kind == 5) || (x.kind == 6) then decide (0 ≤ x.n ∧ x.n < 8) else x.kind == 3) := Lib.hid rfl
  have HE0 : Hid (restE x = if x.kind == 1 then ⟨0, ⟨#[]⟩, ⟨#[]⟩, [], x.ord, x.vk, x.vt, x.vn, x.vm, x.vx, x.vl, x.n⟩ else if x.kind == 4 then ⟨0, ⟨#[]⟩, ⟨#[]⟩, [], 0, 0, ⟨#[]⟩, 0, 0, ⟨#[]⟩, [], x.n⟩ else if x.kind == 3 then ⟨0, x.path, x.msg, x.args, x.ord, x.vk, x.vt, x.vn, x.vm, x.vx, x.vl, x.n⟩ else ⟨0, x.path, x.msg, x.args, x.ord, x.vk, x.vt, x.vn, x.vm, x.vx, x.vl, 0⟩) := Lib.hid rfl
  obtain ⟨R, hR⟩ : ∃ R, rightE x = R := ⟨_, rfl⟩
  have HU0 : Hid (R = (guardE x && (eqE (restE x) zE && x.args.all plainV))) := Lib.hid hR.symm
  rw [hR]
  obtain ⟨W, hW⟩ : ∃ W, (w.alloc (.cells #[.int .i64 x.kind, .string x.path, .string x.msg, .slice A x.args.length c, .int .i64 x.ord, .int .i64 x.vk, .string x.vt, .int .i64 x.vn, .int .i64 x.vm, .string x.vx, .slice B x.vl.length d, .int .i64 x.n] 37)).alloc (.cells #[.int .i64 x.kind, .string x.path, .string x.msg, .slice A x.args.length c, .int .i64 x.ord, .int .i64 x.vk, .string x.vt, .int .i64 x.vn, .int .i64 x.vm, .string x.vx, .slice B x.vl.length d, .int .i64 x.n] 37) = W := ⟨_, rfl⟩
  have S0 : Hid (RSt w W #[.int .i64 x.kind, .string x.path, .string x.msg, .slice A x.args.length c, .int .i64 x.ord, .int .i64 x.vk, .string x.vt, .int .i64 x.vn, .int .i64 x.vm, .string x.vx, .slice B x.vl.length d, .int .i64 x.n] #[.int .i64 x.kind, .string x.path, .string x.msg, .slice A x.args.length c, .int .i64 x.ord, .int .i64 x.vk, .string x.vt, .int .i64 x.vn, .int .i64 x.vm, .string x.vx, .slice B x.vl.length d, .int .i64 x.n]) := Lib.hid (by
    rw [← hW]
    refine ⟨((Below.refl _ _).alloc (Nat.le_refl _) _).alloc (by simp) _, (CellsAt.new w _ _).keep ((Chg.refl (fun _ => False) _).alloc _) (fun h => h), ?_⟩
    have := CellsAt.new (w.alloc (.cells #[.int .i64 x.kind, .string x.path, .string x.msg, .slice A x.args.length c, .int .i64 x.ord, .int .i64 x.vk, .string x.vt, .int .i64 x.vn, .int .i64 x.vm, .string x.vx, .slice B x.vl.length d, .int .i64 x.n] 37)) #[.int .i64 x.kind, .string x.path, .string x.msg, .slice A x.args.length c, .int .i64 x.ord, .int .i64 x.vk, .string x.vt, .int .i64 x.vn, .int .i64 x.vm, .string x.vx, .slice B x.vl.length d, .int .i64 x.n] 37
    rw [World.size_alloc] at this
    exact this)
  have hpn : ((x.args.length : Nat) : Int) ≤ 2097152 := by omega
  clear ra rv hR
  cases q1 : (x.kind == 1) with
  | true =>
    have p0 : W.cell? ⟨w.heap.size, 0, none⟩ = some (.int .i64 x.kind) := by rw [S0.out.x.cell]; rfl
    have r0 : W.cell? ⟨w.heap.size + 1, 0, none⟩ = some (.int .i64 x.kind) := by rw [S0.out.r.cell]; rfl
    have p1 : W.cell? ⟨w.heap.size, 1, none⟩ = some (.string x.path) := by rw [S0.out.x.cell]; rfl
    have r1 : W.cell? ⟨w.heap.size + 1, 1, none⟩ = some (.string x.path) := by rw [S0.out.r.cell]; rfl
    have p2 : W.cell? ⟨w.heap.size, 2, none⟩ = some (.string x.msg) := by rw [S0.out.x.cell]; rfl
    have r2 : W.cell? ⟨w.heap.size + 1, 2, none⟩ = some (.string x.msg) := by rw [S0.out.r.cell]; rfl
    have p3 : W.cell? ⟨w.heap.size, 3, none⟩ = some (.slice A x.args.length c) := by rw [S0.out.x.cell]; rfl
    have r3 : W.cell? ⟨w.heap.size + 1, 3, none⟩ = some (.slice A x.args.length c) := by rw [S0.out.r.cell]; rfl
    have p4 : W.cell? ⟨w.heap.size, 4, none⟩ = some (.int .i64 x.ord) := by rw [S0.out.x.cell]; rfl
    have r4 : W.cell? ⟨w.heap.size + 1, 4, none⟩ = some (.int .i64 x.ord) := by rw [S0.out.r.cell]; rfl
    have p5 : W.cell? ⟨w.heap.size, 5, none⟩ = some (.int .i64 x.vk) := by rw [S0.out.x.cell]; rfl
    have r5 : W.cell? ⟨w.heap.size + 1, 5, none⟩ = some (.int .i64 x.vk) := by rw [S0.out.r.cell]; rfl
    have p6 : W.cell? ⟨w.heap.size, 6, none⟩ = some (.string x.vt) := by rw [S0.out.x.cell]; rfl
    have r6 : W.cell? ⟨w.heap.size + 1, 6, none⟩ = some (.string x.vt) := by rw [S0.out.r.cell]; rfl
    have p7 : W.cell? ⟨w.heap.size, 7, none⟩ = some (.int .i64 x.vn) := by rw [S0.out.x.cell]; rfl
    have r7 : W.cell? ⟨w.heap.size + 1, 7, none⟩ = some (.int .i64 x.vn) := by rw [S0.out.r.cell]; rfl
    have p8 : W.cell? ⟨w.heap.size, 8, none⟩ = some (.int .i64 x.vm) := by rw [S0.out.x.cell]; rfl
    have r8 : W.cell? ⟨w.heap.size + 1, 8, none⟩ = some (.int .i64 x.vm) := by rw [S0.out.r.cell]; rfl
    have p9 : W.cell? ⟨w.heap.size, 9, none⟩ = some (.string x.vx) := by rw [S0.out.x.cell]; rfl
    have r9 : W.cell? ⟨w.heap.size + 1, 9, none⟩ = some (.string x.vx) := by rw [S0.out.r.cell]; rfl
    have p10 : W.cell? ⟨w.heap.size, 10, none⟩ = some (.slice B x.vl.length d) := by rw [S0.out.x.cell]; rfl
    have r10 : W.cell? ⟨w.heap.size + 1, 10, none⟩ = some (.slice B x.vl.length d) := by rw [S0.out.r.cell]; rfl
    have p11 : W.cell? ⟨w.heap.size, 11, none⟩ = some (.int .i64 x.n) := by rw [S0.out.x.cell]; rfl
    have r11 : W.cell? ⟨w.heap.size + 1, 11, none⟩ = some (.int .i64 x.n) := by rw [S0.out.r.cell]; rfl
    have rf := S0.out.r.fz
    have S1 : Hid (RSt w ((((W.setCell ⟨w.heap.size + 1, 0, none⟩ (.int .i64 0)).setCell ⟨w.heap.size + 1, 1, none⟩ (.string ⟨#[]⟩)).setCell ⟨w.heap.size + 1, 2, none⟩ (.string ⟨#[]⟩)).setCell ⟨w.heap.size + 1, 3, none⟩ (.slice none 0 0)) #[.int .i64 x.kind, .string x.path, .string x.msg, .slice A x.args.length c, .int .i64 x.ord, .int .i64 x.vk, .string x.vt, .int .i64 x.vn, .int .i64 x.vm, .string x.vx, .slice B x.vl.length d, .int .i64 x.n] #[.int .i64 0, .string ⟨#[]⟩, .string ⟨#[]⟩, .slice none 0 0, .int .i64 x.ord, .int .i64 x.vk, .string x.vt, .int .i64 x.vn, .int .i64 x.vm, .string x.vx, .slice B x.vl.length d, .int .i64 x.n]) := Lib.hid (by simpa using ((((S0.out.store 0 (.int .i64 0)).store 1 (.string ⟨#[]⟩)).store 2 (.string ⟨#[]⟩)).store 3 (.slice none 0 0)))
    obtain ⟨gp, hgp⟩ : ∃ g, pathS x.path = g := ⟨_, rfl⟩
    have HP : Hid (∀ W, Calls Tryz.prog 18 #[.string x.path] W fun e w' => e = .returned (.bool gp) ∧ Below W.heap.size W w') := Lib.hid (fun W => by rw [← hgp]; exact path_any x.path W hp)
    have HLB : Hid (letterB x = (gp && decide (1 ≤ x.msg.size ∧ x.msg.size ≤ 200 ∧ x.args.length ≤ 4096))) := Lib.hid (by unfold letterB; rw [hgp])
    clear hgp
    go_enter Tryz.func6, Tryz.ntmps6
    go_wp2_with fail
    (with_reducible refine (HP.out _).mono ?_)
    rintro e w1 ⟨rfl, hb1⟩
    have T1 := Lib.hid (S1.out.below hb1)
    clear hb1 HP S1 hW p0 r0 p1 r1 p2 r2 p3 r3 p4 r4 p5 r5 p6 r6 p7 r7 p8 r8 p9 r9 p10 r10 p11 r11 rf
    have p0 : w1.cell? ⟨w.heap.size, 0, none⟩ = some (.int .i64 x.kind) := by rw [T1.out.x.cell]; rfl
    have r0 : w1.cell? ⟨w.heap.size + 1, 0, none⟩ = some (.int .i64 0) := by rw [T1.out.r.cell]; rfl
    have p1 : w1.cell? ⟨w.heap.size, 1, none⟩ = some (.string x.path) := by rw [T1.out.x.cell]; rfl
    have r1 : w1.cell? ⟨w.heap.size + 1, 1, none⟩ = some (.string ⟨#[]⟩) := by rw [T1.out.r.cell]; rfl
    have p2 : w1.cell? ⟨w.heap.size, 2, none⟩ = some (.string x.msg) := by rw [T1.out.x.cell]; rfl
    have r2 : w1.cell? ⟨w.heap.size + 1, 2, none⟩ = some (.string ⟨#[]⟩) := by rw [T1.out.r.cell]; rfl
    have p3 : w1.cell? ⟨w.heap.size, 3, none⟩ = some (.slice A x.args.length c) := by rw [T1.out.x.cell]; rfl
    have r3 : w1.cell? ⟨w.heap.size + 1, 3, none⟩ = some (.slice none 0 0) := by rw [T1.out.r.cell]; rfl
    have p4 : w1.cell? ⟨w.heap.size, 4, none⟩ = some (.int .i64 x.ord) := by rw [T1.out.x.cell]; rfl
    have r4 : w1.cell? ⟨w.heap.size + 1, 4, none⟩ = some (.int .i64 x.ord) := by rw [T1.out.r.cell]; rfl
    have p5 : w1.cell? ⟨w.heap.size, 5, none⟩ = some (.int .i64 x.vk) := by rw [T1.out.x.cell]; rfl
    have r5 : w1.cell? ⟨w.heap.size + 1, 5, none⟩ = some (.int .i64 x.vk) := by rw [T1.out.r.cell]; rfl
    have p6 : w1.cell? ⟨w.heap.size, 6, none⟩ = some (.string x.vt) := by rw [T1.out.x.cell]; rfl
    have r6 : w1.cell? ⟨w.heap.size + 1, 6, none⟩ = some (.string x.vt) := by rw [T1.out.r.cell]; rfl
    have p7 : w1.cell? ⟨w.heap.size, 7, none⟩ = some (.int .i64 x.vn) := by rw [T1.out.x.cell]; rfl
    have r7 : w1.cell? ⟨w.heap.size + 1, 7, none⟩ = some (.int .i64 x.vn) := by rw [T1.out.r.cell]; rfl
    have p8 : w1.cell? ⟨w.heap.size, 8, none⟩ = some (.int .i64 x.vm) := by rw [T1.out.x.cell]; rfl
    have r8 : w1.cell? ⟨w.heap.size + 1, 8, none⟩ = some (.int .i64 x.vm) := by rw [T1.out.r.cell]; rfl
    have p9 : w1.cell? ⟨w.heap.size, 9, none⟩ = some (.string x.vx) := by rw [T1.out.x.cell]; rfl
    have r9 : w1.cell? ⟨w.heap.size + 1, 9, none⟩ = some (.string x.vx) := by rw [T1.out.r.cell]; rfl
    have p10 : w1.cell? ⟨w.heap.size, 10, none⟩ = some (.slice B x.vl.length d) := by rw [T1.out.x.cell]; rfl
    have r10 : w1.cell? ⟨w.heap.size + 1, 10, none⟩ = some (.slice B x.vl.length d) := by rw [T1.out.r.cell]; rfl
    have p11 : w1.cell? ⟨w.heap.size, 11, none⟩ = some (.int .i64 x.n) := by rw [T1.out.x.cell]; rfl
    have r11 : w1.cell? ⟨w.heap.size + 1, 11, none⟩ = some (.int .i64 x.n) := by rw [T1.out.r.cell]; rfl
    have rf := T1.out.r.fz
    cases gp with
    | false =>
      have HN : Hid (R = false) := Lib.hid (by rw [HU0.out, HG0.out, if_pos q1, HLB.out]; rfl)
      go_wp2_with fail
      go_ret
      exact ⟨by rw [HN.out]; rfl, T1.out.bel⟩
    | true =>
      by_cases m1 : x.msg.size < 1
      · have hmi : (x.msg.size : Int) < 1 := by omega
        have HLF : Hid (letterB x = false) := Lib.hid (by rw [HLB.out]; simp; omega)
        clear m1
        have HN : Hid (R = false) := Lib.hid (by rw [HU0.out, HG0.out, if_pos q1, HLF.out]; rfl)
        go_wp2_with fail
        go_ret
        exact ⟨by rw [HN.out]; rfl, T1.out.bel⟩
      · have hmi : ¬ (x.msg.size : Int) < 1 := by omega
        by_cases m2 : 200 < x.msg.size
        · have hmj : (200 : Int) < x.msg.size := by omega
          have HLF : Hid (letterB x = false) := Lib.hid (by rw [HLB.out]; simp; omega)
          clear m1 m2
          have HN : Hid (R = false) := Lib.hid (by rw [HU0.out, HG0.out, if_pos q1, HLF.out]; rfl)
          go_wp2_with fail
          go_ret
          exact ⟨by rw [HN.out]; rfl, T1.out.bel⟩
        · have hmj : ¬ (200 : Int) < x.msg.size := by omega
          by_cases m3 : 4096 < x.args.length
          · have hmk : (4096 : Int) < x.args.length := by omega
            have HLF : Hid (letterB x = false) := Lib.hid (by rw [HLB.out]; simp; omega)
            clear m1 m2 m3
            have HN : Hid (R = false) := Lib.hid (by rw [HU0.out, HG0.out, if_pos q1, HLF.out]; rfl)
            go_wp2_with fail
            go_ret
            exact ⟨by rw [HN.out]; rfl, T1.out.bel⟩
          · have hmk : ¬ (4096 : Int) < x.args.length := by omega
            have HLT : Hid (letterB x = true) := Lib.hid (by rw [HLB.out]; simp; omega)
            clear m1 m2 m3 HLB
            have HG : Hid (guardE x = true) := Lib.hid (by rw [HG0.out, if_pos q1]; exact HLT.out)
            have HRE : Hid (restE x = ⟨0, ⟨#[]⟩, ⟨#[]⟩, [], x.ord, x.vk, x.vt, x.vn, x.vm, x.vx, x.vl, x.n⟩) := Lib.hid (by rw [HE0.out, if_pos q1])
            have q4 : (x.kind == 4) = false := by have := beq_iff_eq.1 q1; rw [beq_eq_false_iff_ne]; omega
            obtain ⟨g, hg⟩ : ∃ g, eqE ⟨0, ⟨#[]⟩, ⟨#[]⟩, [], x.ord, x.vk, x.vt, x.vn, x.vm, x.vx, x.vl, x.n⟩ zE = g := ⟨_, rfl⟩
            have HU : Hid (R = (g && x.args.all plainV)) := Lib.hid (by rw [HU0.out, HG.out, HRE.out, hg]; rfl)
            have HSM : Hid (∀ W, Rd (Lt W.heap.size) W (vs []) (.slice none 0 0) → Rd (Lt W.heap.size) W (vs x.vl) (.slice B x.vl.length d) → Calls Tryz.prog 8 #[.agg #[.int .i64 0, .string ⟨#[]⟩, .string ⟨#[]⟩, .slice none 0 0, .int .i64 x.ord, .int .i64 x.vk, .string x.vt, .int .i64 x.vn, .int .i64 x.vm, .string x.vx, .slice B x.vl.length d, .int .i64 x.n], .agg #[.int .i64 0, .string ⟨#[]⟩, .string ⟨#[]⟩, .slice none 0 0, .int .i64 0, .int .i64 0, .string ⟨#[]⟩, .int .i64 0, .int .i64 0, .string ⟨#[]⟩, .slice none 0 0, .int .i64 0]] W fun e w' => e = .returned (.bool g) ∧ Below W.heap.size W w') := Lib.hid (fun W q1 q2 => by rw [← hg]; exact evsame_any ⟨0, ⟨#[]⟩, ⟨#[]⟩, [], x.ord, x.vk, x.vt, x.vn, x.vm, x.vx, x.vl, x.n⟩ zE none none B none 0 0 d 0 W (by simp [bulkV]) (by simp [zE, bulkV]) h4 (by simp [zE, bulkV]) q1 Rd.sl_nil q2 Rd.sl_nil)
            clear hg
            go_wp2_with fail
            (with_reducible refine (HSM.out _ ?_ ?_).mono ?_)
            · exact Rd.sl_nil
            · exact RV.out.belows T1.out.bel
            rintro e w2 ⟨rfl, hb2⟩
            have T2 := Lib.hid (T1.out.below hb2)
            clear hb2 HSM p0 r0 p1 r1 p2 r2 p3 r3 p4 r4 p5 r5 p6 r6 p7 r7 p8 r8 p9 r9 p10 r10 p11 r11 rf
            have p0 : w2.cell? ⟨w.heap.size, 0, none⟩ = some (.int .i64 x.kind) := by rw [T2.out.x.cell]; rfl
            have p1 : w2.cell? ⟨w.heap.size, 1, none⟩ = some (.string x.path) := by rw [T2.out.x.cell]; rfl
            have p2 : w2.cell? ⟨w.heap.size, 2, none⟩ = some (.string x.msg) := by rw [T2.out.x.cell]; rfl
            have p3 : w2.cell? ⟨w.heap.size, 3, none⟩ = some (.slice A x.args.length c) := by rw [T2.out.x.cell]; rfl
            have p4 : w2.cell? ⟨w.heap.size, 4, none⟩ = some (.int .i64 x.ord) := by rw [T2.out.x.cell]; rfl
            have p5 : w2.cell? ⟨w.heap.size, 5, none⟩ = some (.int .i64 x.vk) := by rw [T2.out.x.cell]; rfl
            have p6 : w2.cell? ⟨w.heap.size, 6, none⟩ = some (.string x.vt) := by rw [T2.out.x.cell]; rfl
            have p7 : w2.cell? ⟨w.heap.size, 7, none⟩ = some (.int .i64 x.vn) := by rw [T2.out.x.cell]; rfl
            have p8 : w2.cell? ⟨w.heap.size, 8, none⟩ = some (.int .i64 x.vm) := by rw [T2.out.x.cell]; rfl
            have p9 : w2.cell? ⟨w.heap.size, 9, none⟩ = some (.string x.vx) := by rw [T2.out.x.cell]; rfl
            have p10 : w2.cell? ⟨w.heap.size, 10, none⟩ = some (.slice B x.vl.length d) := by rw [T2.out.x.cell]; rfl
            have p11 : w2.cell? ⟨w.heap.size, 11, none⟩ = some (.int .i64 x.n) := by rw [T2.out.x.cell]; rfl
            cases g with
            | false =>
              go_wp2_with fail
              go_ret
              exact ⟨by rw [HU.out]; rfl, T2.out.bel⟩
            | true =>
              go_wp2_with fail
              clear p0 p1 p2 p3 p4 p5 p6 p7 p8 p9 p10 p11
              go_loopw [90] (fun s90 wr => ∃ i : Nat, i ≤ x.args.length ∧ s90 = .int .i64 i ∧ Hid (∀ (j : Nat) (v : V), j < i → x.args[j]? = some v → plainV v = true) ∧ Hid (Below w.heap.size w wr)) (fun s90 _ => x.args.length - (intOf s90).toNat)
              case atStart => exact ⟨0, by omega, rfl, Lib.hid (fun j v h => absurd h (by omega)), Lib.hid T2.out.bel⟩
              case round =>
                obtain ⟨i, hi, rfl, HQ, HB⟩ := hrel
                by_cases hlt : i < x.args.length
                · obtain ⟨b, off, kd, t', n', m', s', l', A', c', e, hlb, hget, h2⟩ := vs_at (RA.out.belows HB.out) hlt
                  subst e
                  obtain ⟨c0, c1, c2, c3, c4, c5, r5⟩ := h2
                  have hbk := bulkV_get _ _ _ hget
                  have HGE := Lib.hid hget
                  obtain ⟨g, hg⟩ : ∃ g, plainV (.mk kd t' n' m' s' l') = g := ⟨_, rfl⟩
                  have HC : Hid (∀ W, Rd (Lt W.heap.size) W (vs l') (.slice A' l'.length c') → Calls Tryz.prog 19 #[.agg #[.int .i64 kd, .string t', .int .i64 n', .int .i64 m', .string s', .slice A' l'.length c']] W fun e w' => e = .returned (.bool g) ∧ Below W.heap.size W w') := Lib.hid (fun W h => by rw [← hg]; exact plain_any kd t' n' m' s' l' A' c' W (by omega) h)
                  have HGV := Lib.hid hg
                  have R5 := Lib.hid r5
                  have HBS := Lib.hid HB.out.size
                  clear r5 hget hg hbk
                  go_wp2_with fail
                  (with_reducible refine (HC.out _ (R5.out.allocs _)).mono ?_)
                  rintro e w4 ⟨rfl, hb4⟩
                  have B4 := Lib.hid (HB.out.trans ((((Below.refl wr.heap.size wr).alloc (Nat.le_refl _) _).trans (hb4.mono (by simp))).mono HBS.out))
                  clear hb4
                  cases g with
                  | false =>
                    have HF := Lib.hid (all_no HGE.out HGV.out)
                    go_wp2_with fail
                    go_ret
                    exact ⟨by rw [HU.out, HF.out]; rfl, B4.out⟩
                  | true =>
                    have HQ2 : Hid (∀ (j : Nat) (v : V), j < i + 1 → x.args[j]? = some v → plainV v = true) := Lib.hid (fun j v hj hv => by
                      rcases Nat.lt_or_ge j i with h | h
                      · exact HQ.out j v h hv
                      · obtain rfl : j = i := by omega
                        rw [HGE.out] at hv
                        rw [← Option.some.inj hv]; exact HGV.out)
                    go_wp2_with fail
                    exact ⟨⟨i + 1, by omega, by go_num, HQ2, B4⟩, by simp [intOf]; omega⟩
                · have HT := Lib.hid (all_yes (l := x.args) (fun j v hv => HQ.out j v (by have := (List.getElem?_eq_some_iff.1 hv).1; omega) hv))
                  go_wp2_with fail
                  go_ret
                  exact ⟨by rw [HU.out, HT.out]; rfl, HB.out⟩
  | false =>
    cases q4 : (x.kind == 4) with
    | true =>
      have p0 : W.cell? ⟨w.heap.size, 0, none⟩ = some (.int .i64 x.kind) := by rw [S0.out.x.cell]; rfl
      have r0 : W.cell? ⟨w.heap.size + 1, 0, none⟩ = some (.int .i64 x.kind) := by rw [S0.out.r.cell]; rfl
      have p1 : W.cell? ⟨w.heap.size, 1, none⟩ = some (.string x.path) := by rw [S0.out.x.cell]; rfl
      have r1 : W.cell? ⟨w.heap.size + 1, 1, none⟩ = some (.string x.path) := by rw [S0.out.r.cell]; rfl
      have p2 : W.cell? ⟨w.heap.size, 2, none⟩ = some (.string x.msg) := by rw [S0.out.x.cell]; rfl
      have r2 : W.cell? ⟨w.heap.size + 1, 2, none⟩ = some (.string x.msg) := by rw [S0.out.r.cell]; rfl
      have p3 : W.cell? ⟨w.heap.size, 3, none⟩ = some (.slice A x.args.length c) := by rw [S0.out.x.cell]; rfl
      have r3 : W.cell? ⟨w.heap.size + 1, 3, none⟩ = some (.slice A x.args.length c) := by rw [S0.out.r.cell]; rfl
      have p4 : W.cell? ⟨w.heap.size, 4, none⟩ = some (.int .i64 x.ord) := by rw [S0.out.x.cell]; rfl
      have r4 : W.cell? ⟨w.heap.size + 1, 4, none⟩ = some (.int .i64 x.ord) := by rw [S0.out.r.cell]; rfl
      have p5 : W.cell? ⟨w.heap.size, 5, none⟩ = some (.int .i64 x.vk) := by rw [S0.out.x.cell]; rfl
      have r5 : W.cell? ⟨w.heap.size + 1, 5, none⟩ = some (.int .i64 x.vk) := by rw [S0.out.r.cell]; rfl
      have p6 : W.cell? ⟨w.heap.size, 6, none⟩ = some (.string x.vt) := by rw [S0.out.x.cell]; rfl
      have r6 : W.cell? ⟨w.heap.size + 1, 6, none⟩ = some (.string x.vt) := by rw [S0.out.r.cell]; rfl
      have p7 : W.cell? ⟨w.heap.size, 7, none⟩ = some (.int .i64 x.vn) := by rw [S0.out.x.cell]; rfl
      have r7 : W.cell? ⟨w.heap.size + 1, 7, none⟩ = some (.int .i64 x.vn) := by rw [S0.out.r.cell]; rfl
      have p8 : W.cell? ⟨w.heap.size, 8, none⟩ = some (.int .i64 x.vm) := by rw [S0.out.x.cell]; rfl
      have r8 : W.cell? ⟨w.heap.size + 1, 8, none⟩ = some (.int .i64 x.vm) := by rw [S0.out.r.cell]; rfl
      have p9 : W.cell? ⟨w.heap.size, 9, none⟩ = some (.string x.vx) := by rw [S0.out.x.cell]; rfl
      have r9 : W.cell? ⟨w.heap.size + 1, 9, none⟩ = some (.string x.vx) := by rw [S0.out.r.cell]; rfl
      have p10 : W.cell? ⟨w.heap.size, 10, none⟩ = some (.slice B x.vl.length d) := by rw [S0.out.x.cell]; rfl
      have r10 : W.cell? ⟨w.heap.size + 1, 10, none⟩ = some (.slice B x.vl.length d) := by rw [S0.out.r.cell]; rfl
      have p11 : W.cell? ⟨w.heap.size, 11, none⟩ = some (.int .i64 x.n) := by rw [S0.out.x.cell]; rfl
      have r11 : W.cell? ⟨w.heap.size + 1, 11, none⟩ = some (.int .i64 x.n) := by rw [S0.out.r.cell]; rfl
      have rf := S0.out.r.fz
      have S1 : Hid (RSt w ((((W.setCell ⟨w.heap.size + 1, 0, none⟩ (.int .i64 0)).setCell ⟨w.heap.size + 1, 1, none⟩ (.string ⟨#[]⟩)).setCell ⟨w.heap.size + 1, 2, none⟩ (.string ⟨#[]⟩)).setCell ⟨w.heap.size + 1, 3, none⟩ (.slice none 0 0)) #[.int .i64 x.kind, .string x.path, .string x.msg, .slice A x.args.length c, .int .i64 x.ord, .int .i64 x.vk, .string x.vt, .int .i64 x.vn, .int .i64 x.vm, .string x.vx, .slice B x.vl.length d, .int .i64 x.n] #[.int .i64 0, .string ⟨#[]⟩, .string ⟨#[]⟩, .slice none 0 0, .int .i64 x.ord, .int .i64 x.vk, .string x.vt, .int .i64 x.vn, .int .i64 x.vm, .string x.vx, .slice B x.vl.length d, .int .i64 x.n]) := Lib.hid (by simpa using ((((S0.out.store 0 (.int .i64 0)).store 1 (.string ⟨#[]⟩)).store 2 (.string ⟨#[]⟩)).store 3 (.slice none 0 0)))
      obtain ⟨gp, hgp⟩ : ∃ g, pathS x.path = g := ⟨_, rfl⟩
      have HP : Hid (∀ W, Calls Tryz.prog 18 #[.string x.path] W fun e w' => e = .returned (.bool gp) ∧ Below W.heap.size W w') := Lib.hid (fun W => by rw [← hgp]; exact path_any x.path W hp)
      have HLB : Hid (letterB x = (gp && decide (1 ≤ x.msg.size ∧ x.msg.size ≤ 200 ∧ x.args.length ≤ 4096))) := Lib.hid (by unfold letterB; rw [hgp])
      clear hgp
      go_enter Tryz.func6, Tryz.ntmps6
      go_wp2_with fail
      (with_reducible refine (HP.out _).mono ?_)
      rintro e w1 ⟨rfl, hb1⟩
      have T1 := Lib.hid (S1.out.below hb1)
      clear hb1 HP S1 hW p0 r0 p1 r1 p2 r2 p3 r3 p4 r4 p5 r5 p6 r6 p7 r7 p8 r8 p9 r9 p10 r10 p11 r11 rf
      have p0 : w1.cell? ⟨w.heap.size, 0, none⟩ = some (.int .i64 x.kind) := by rw [T1.out.x.cell]; rfl
      have r0 : w1.cell? ⟨w.heap.size + 1, 0, none⟩ = some (.int .i64 0) := by rw [T1.out.r.cell]; rfl
      have p1 : w1.cell? ⟨w.heap.size, 1, none⟩ = some (.string x.path) := by rw [T1.out.x.cell]; rfl
      have r1 : w1.cell? ⟨w.heap.size + 1, 1, none⟩ = some (.string ⟨#[]⟩) := by rw [T1.out.r.cell]; rfl
      have p2 : w1.cell? ⟨w.heap.size, 2, none⟩ = some (.string x.msg) := by rw [T1.out.x.cell]; rfl
      have r2 : w1.cell? ⟨w.heap.size + 1, 2, none⟩ = some (.string ⟨#[]⟩) := by rw [T1.out.r.cell]; rfl
      have p3 : w1.cell? ⟨w.heap.size, 3, none⟩ = some (.slice A x.args.length c) := by rw [T1.out.x.cell]; rfl
      have r3 : w1.cell? ⟨w.heap.size + 1, 3, none⟩ = some (.slice none 0 0) := by rw [T1.out.r.cell]; rfl
      have p4 : w1.cell? ⟨w.heap.size, 4, none⟩ = some (.int .i64 x.ord) := by rw [T1.out.x.cell]; rfl
      have r4 : w1.cell? ⟨w.heap.size + 1, 4, none⟩ = some (.int .i64 x.ord) := by rw [T1.out.r.cell]; rfl
      have p5 : w1.cell? ⟨w.heap.size, 5, none⟩ = some (.int .i64 x.vk) := by rw [T1.out.x.cell]; rfl
      have r5 : w1.cell? ⟨w.heap.size + 1, 5, none⟩ = some (.int .i64 x.vk) := by rw [T1.out.r.cell]; rfl
      have p6 : w1.cell? ⟨w.heap.size, 6, none⟩ = some (.string x.vt) := by rw [T1.out.x.cell]; rfl
      have r6 : w1.cell? ⟨w.heap.size + 1, 6, none⟩ = some (.string x.vt) := by rw [T1.out.r.cell]; rfl
      have p7 : w1.cell? ⟨w.heap.size, 7, none⟩ = some (.int .i64 x.vn) := by rw [T1.out.x.cell]; rfl
      have r7 : w1.cell? ⟨w.heap.size + 1, 7, none⟩ = some (.int .i64 x.vn) := by rw [T1.out.r.cell]; rfl
      have p8 : w1.cell? ⟨w.heap.size, 8, none⟩ = some (.int .i64 x.vm) := by rw [T1.out.x.cell]; rfl
      have r8 : w1.cell? ⟨w.heap.size + 1, 8, none⟩ = some (.int .i64 x.vm) := by rw [T1.out.r.cell]; rfl
      have p9 : w1.cell? ⟨w.heap.size, 9, none⟩ = some (.string x.vx) := by rw [T1.out.x.cell]; rfl
      have r9 : w1.cell? ⟨w.heap.size + 1, 9, none⟩ = some (.string x.vx) := by rw [T1.out.r.cell]; rfl
      have p10 : w1.cell? ⟨w.heap.size, 10, none⟩ = some (.slice B x.vl.length d) := by rw [T1.out.x.cell]; rfl
      have r10 : w1.cell? ⟨w.heap.size + 1, 10, none⟩ = some (.slice B x.vl.length d) := by rw [T1.out.r.cell]; rfl
      have p11 : w1.cell? ⟨w.heap.size, 11, none⟩ = some (.int .i64 x.n) := by rw [T1.out.x.cell]; rfl
      have r11 : w1.cell? ⟨w.heap.size + 1, 11, none⟩ = some (.int .i64 x.n) := by rw [T1.out.r.cell]; rfl
      have rf := T1.out.r.fz
      cases gp with
      | false =>
        have HN : Hid (R = false) := Lib.hid (by rw [HU0.out, HG0.out, if_neg (by rw [q1]; simp), if_pos q4, HLB.out]; rfl)
        go_wp2_with fail
        go_ret
        exact ⟨by rw [HN.out]; rfl, T1.out.bel⟩
      | true =>
        by_cases m1 : x.msg.size < 1
        · have hmi : (x.msg.size : Int) < 1 := by omega
          have HLF : Hid (letterB x = false) := Lib.hid (by rw [HLB.out]; simp; omega)
          clear m1
          have HN : Hid (R = false) := Lib.hid (by rw [HU0.out, HG0.out, if_neg (by rw [q1]; simp), if_pos q4, HLF.out]; rfl)
          go_wp2_with fail
          go_ret
          exact ⟨by rw [HN.out]; rfl, T1.out.bel⟩
        · have hmi : ¬ (x.msg.size : Int) < 1 := by omega
          by_cases m2 : 200 < x.msg.size
          · have hmj : (200 : Int) < x.msg.size := by omega
            have HLF : Hid (letterB x = false) := Lib.hid (by rw [HLB.out]; simp; omega)
            clear m1 m2
            have HN : Hid (R = false) := Lib.hid (by rw [HU0.out, HG0.out, if_neg (by rw [q1]; simp), if_pos q4, HLF.out]; rfl)
            go_wp2_with fail
            go_ret
            exact ⟨by rw [HN.out]; rfl, T1.out.bel⟩
          · have hmj : ¬ (200 : Int) < x.msg.size := by omega
            by_cases m3 : 4096 < x.args.length
            · have hmk : (4096 : Int) < x.args.length := by omega
              have HLF : Hid (letterB x = false) := Lib.hid (by rw [HLB.out]; simp; omega)
              clear m1 m2 m3
              have HN : Hid (R = false) := Lib.hid (by rw [HU0.out, HG0.out, if_neg (by rw [q1]; simp), if_pos q4, HLF.out]; rfl)
              go_wp2_with fail
              go_ret
              exact ⟨by rw [HN.out]; rfl, T1.out.bel⟩
            · have hmk : ¬ (4096 : Int) < x.args.length := by omega
              have HLT : Hid (letterB x = true) := Lib.hid (by rw [HLB.out]; simp; omega)
              clear m1 m2 m3 HLB
              have S2 : Hid (RSt w (((((((w1.setCell ⟨w.heap.size + 1, 4, none⟩ (.int .i64 0)).setCell ⟨w.heap.size + 1, 5, none⟩ (.int .i64 0)).setCell ⟨w.heap.size + 1, 6, none⟩ (.string ⟨#[]⟩)).setCell ⟨w.heap.size + 1, 7, none⟩ (.int .i64 0)).setCell ⟨w.heap.size + 1, 8, none⟩ (.int .i64 0)).setCell ⟨w.heap.size + 1, 9, none⟩ (.string ⟨#[]⟩)).setCell ⟨w.heap.size + 1, 10, none⟩ (.slice none 0 0)) #[.int .i64 x.kind, .string x.path, .string x.msg, .slice A x.args.length c, .int .i64 x.ord, .int .i64 x.vk, .string x.vt, .int .i64 x.vn, .int .i64 x.vm, .string x.vx, .slice B x.vl.length d, .int .i64 x.n] #[.int .i64 0, .string ⟨#[]⟩, .string ⟨#[]⟩, .slice none 0 0, .int .i64 0, .int .i64 0, .string ⟨#[]⟩, .int .i64 0, .int .i64 0, .string ⟨#[]⟩, .slice none 0 0, .int .i64 x.n]) := Lib.hid (by simpa using (((((((T1.out.store 4 (.int .i64 0)).store 5 (.int .i64 0)).store 6 (.string ⟨#[]⟩)).store 7 (.int .i64 0)).store 8 (.int .i64 0)).store 9 (.string ⟨#[]⟩)).store 10 (.slice none 0 0)))
              by_cases o1 : x.ord < 0
              · have HLF : Hid (decide (0 ≤ x.ord ∧ x.ord ≤ 1099511627776) = false) := Lib.hid (by simp; omega)
                have HN : Hid (R = false) := Lib.hid (by rw [HU0.out, HG0.out, if_neg (by rw [q1]; simp), if_pos q4, HLT.out, HLF.out]; rfl)
                go_wp2_with fail
                go_ret
                exact ⟨by rw [HN.out]; rfl, S2.out.bel⟩
              · by_cases o2 : 1099511627776 < x.ord
                · have HLF : Hid (decide (0 ≤ x.ord ∧ x.ord ≤ 1099511627776) = false) := Lib.hid (by simp; omega)
                  have HN : Hid (R = false) := Lib.hid (by rw [HU0.out, HG0.out, if_neg (by rw [q1]; simp), if_pos q4, HLT.out, HLF.out]; rfl)
                  go_wp2_with fail
                  go_ret
                  exact ⟨by rw [HN.out]; rfl, S2.out.bel⟩
                · obtain ⟨gv, hgv⟩ : ∃ g, plainV x.val = g := ⟨_, rfl⟩
                  have HV : Hid (∀ W, Rd (Lt W.heap.size) W (vs x.vl) (.slice B x.vl.length d) → Calls Tryz.prog 19 #[.agg #[.int .i64 x.vk, .string x.vt, .int .i64 x.vn, .int .i64 x.vm, .string x.vx, .slice B x.vl.length d]] W fun e w' => e = .returned (.bool gv) ∧ Below W.heap.size W w') := Lib.hid (fun W h => by rw [← hgv]; exact HPV.out W h)
                  have HGV : Hid (guardE x = gv) := Lib.hid (by rw [HG0.out, if_neg (by rw [q1]; simp), if_pos q4, HLT.out, hgv, show decide (0 ≤ x.ord ∧ x.ord ≤ 1099511627776) = true by simp; omega]; rfl)
                  clear hgv
                  go_wp2_with fail
                  (with_reducible refine (HV.out _ (RV.out.belows S2.out.bel)).mono ?_)
                  rintro e w3 ⟨rfl, hb3⟩
                  have T3 := Lib.hid (S2.out.below hb3)
                  clear hb3 HV S2 p0 r0 p1 r1 p2 r2 p3 r3 p4 r4 p5 r5 p6 r6 p7 r7 p8 r8 p9 r9 p10 r10 p11 r11 rf
                  have p0 : w3.cell? ⟨w.heap.size, 0, none⟩ = some (.int .i64 x.kind) := by rw [T3.out.x.cell]; rfl
                  have r0 : w3.cell? ⟨w.heap.size + 1, 0, none⟩ = some (.int .i64 0) := by rw [T3.out.r.cell]; rfl
                  have p1 : w3.cell? ⟨w.heap.size, 1, none⟩ = some (.string x.path) := by rw [T3.out.x.cell]; rfl
                  have r1 : w3.cell? ⟨w.heap.size + 1, 1, none⟩ = some (.string ⟨#[]⟩) := by rw [T3.out.r.cell]; rfl
                  have p2 : w3.cell? ⟨w.heap.size, 2, none⟩ = some (.string x.msg) := by rw [T3.out.x.cell]; rfl
                  have r2 : w3.cell? ⟨w.heap.size + 1, 2, none⟩ = some (.string ⟨#[]⟩) := by rw [T3.out.r.cell]; rfl
                  have p3 : w3.cell? ⟨w.heap.size, 3, none⟩ = some (.slice A x.args.length c) := by rw [T3.out.x.cell]; rfl
                  have r3 : w3.cell? ⟨w.heap.size + 1, 3, none⟩ = some (.slice none 0 0) := by rw [T3.out.r.cell]; rfl
                  have p4 : w3.cell? ⟨w.heap.size, 4, none⟩ = some (.int .i64 x.ord) := by rw [T3.out.x.cell]; rfl
                  have r4 : w3.cell? ⟨w.heap.size + 1, 4, none⟩ = some (.int .i64 0) := by rw [T3.out.r.cell]; rfl
                  have p5 : w3.cell? ⟨w.heap.size, 5, none⟩ = some (.int .i64 x.vk) := by rw [T3.out.x.cell]; rfl
                  have r5 : w3.cell? ⟨w.heap.size + 1, 5, none⟩ = some (.int .i64 0) := by rw [T3.out.r.cell]; rfl
                  have p6 : w3.cell? ⟨w.heap.size, 6, none⟩ = some (.string x.vt) := by rw [T3.out.x.cell]; rfl
                  have r6 : w3.cell? ⟨w.heap.size + 1, 6, none⟩ = some (.string ⟨#[]⟩) := by rw [T3.out.r.cell]; rfl
                  have p7 : w3.cell? ⟨w.heap.size, 7, none⟩ = some (.int .i64 x.vn) := by rw [T3.out.x.cell]; rfl
                  have r7 : w3.cell? ⟨w.heap.size + 1, 7, none⟩ = some (.int .i64 0) := by rw [T3.out.r.cell]; rfl
                  have p8 : w3.cell? ⟨w.heap.size, 8, none⟩ = some (.int .i64 x.vm) := by rw [T3.out.x.cell]; rfl
                  have r8 : w3.cell? ⟨w.heap.size + 1, 8, none⟩ = some (.int .i64 0) := by rw [T3.out.r.cell]; rfl
                  have p9 : w3.cell? ⟨w.heap.size, 9, none⟩ = some (.string x.vx) := by rw [T3.out.x.cell]; rfl
                  have r9 : w3.cell? ⟨w.heap.size + 1, 9, none⟩ = some (.string ⟨#[]⟩) := by rw [T3.out.r.cell]; rfl
                  have p10 : w3.cell? ⟨w.heap.size, 10, none⟩ = some (.slice B x.vl.length d) := by rw [T3.out.x.cell]; rfl
                  have r10 : w3.cell? ⟨w.heap.size + 1, 10, none⟩ = some (.slice none 0 0) := by rw [T3.out.r.cell]; rfl
                  have p11 : w3.cell? ⟨w.heap.size, 11, none⟩ = some (.int .i64 x.n) := by rw [T3.out.x.cell]; rfl
                  have r11 : w3.cell? ⟨w.heap.size + 1, 11, none⟩ = some (.int .i64 x.n) := by rw [T3.out.r.cell]; rfl
                  have rf := T3.out.r.fz
                  cases gv with
                  | false =>
                    have HN : Hid (R = false) := Lib.hid (by rw [HU0.out, HGV.out]; rfl)
                    go_wp2_with fail
                    go_ret
                    exact ⟨by rw [HN.out]; rfl, T3.out.bel⟩
                  | true =>
                    have HG := Lib.hid HGV.out
                    have HRE : Hid (restE x = ⟨0, ⟨#[]⟩, ⟨#[]⟩, [], 0, 0, ⟨#[]⟩, 0, 0, ⟨#[]⟩, [], x.n⟩) := Lib.hid (by rw [HE0.out, if_neg (by rw [q1]; simp), if_pos q4])
                    obtain ⟨g, hg⟩ : ∃ g, eqE ⟨0, ⟨#[]⟩, ⟨#[]⟩, [], 0, 0, ⟨#[]⟩, 0, 0, ⟨#[]⟩, [], x.n⟩ zE = g := ⟨_, rfl⟩
                    have HU : Hid (R = (g && x.args.all plainV)) := Lib.hid (by rw [HU0.out, HG.out, HRE.out, hg]; rfl)
                    have HSM : Hid (∀ W, Rd (Lt W.heap.size) W (vs []) (.slice none 0 0) → Rd (Lt W.heap.size) W (vs []) (.slice none 0 0) → Calls Tryz.prog 8 #[.agg #[.int .i64 0, .string ⟨#[]⟩, .string ⟨#[]⟩, .slice none 0 0, .int .i64 0, .int .i64 0, .string ⟨#[]⟩, .int .i64 0, .int .i64 0, .string ⟨#[]⟩, .slice none 0 0, .int .i64 x.n], .agg #[.int .i64 0, .string ⟨#[]⟩, .string ⟨#[]⟩, .slice none 0 0, .int .i64 0, .int .i64 0, .string ⟨#[]⟩, .int .i64 0, .int .i64 0, .string ⟨#[]⟩, .slice none 0 0, .int .i64 0]] W fun e w' => e = .returned (.bool g) ∧ Below W.heap.size W w') := Lib.hid (fun W q1 q2 => by rw [← hg]; exact evsame_any ⟨0, ⟨#[]⟩, ⟨#[]⟩, [], 0, 0, ⟨#[]⟩, 0, 0, ⟨#[]⟩, [], x.n⟩ zE none none none none 0 0 0 0 W (by simp [bulkV]) (by simp [zE, bulkV]) (by simp [bulkV]) (by simp [zE, bulkV]) q1 Rd.sl_nil q2 Rd.sl_nil)
                    clear hg
                    go_wp2_with fail
                    (with_reducible refine (HSM.out _ ?_ ?_).mono ?_)
                    · exact Rd.sl_nil
                    · exact Rd.sl_nil
                    rintro e w2 ⟨rfl, hb2⟩
                    have T2 := Lib.hid (T3.out.below hb2)
                    clear hb2 HSM p0 r0 p1 r1 p2 r2 p3 r3 p4 r4 p5 r5 p6 r6 p7 r7 p8 r8 p9 r9 p10 r10 p11 r11 rf
                    have p0 : w2.cell? ⟨w.heap.size, 0, none⟩ = some (.int .i64 x.kind) := by rw [T2.out.x.cell]; rfl
                    have p1 : w2.cell? ⟨w.heap.size, 1, none⟩ = some (.string x.path) := by rw [T2.out.x.cell]; rfl
                    have p2 : w2.cell? ⟨w.heap.size, 2, none⟩ = some (.string x.msg) := by rw [T2.out.x.cell]; rfl
                    have p3 : w2.cell? ⟨w.heap.size, 3, none⟩ = some (.slice A x.args.length c) := by rw [T2.out.x.cell]; rfl
                    have p4 : w2.cell? ⟨w.heap.size, 4, none⟩ = some (.int .i64 x.ord) := by rw [T2.out.x.cell]; rfl
                    have p5 : w2.cell? ⟨w.heap.size, 5, none⟩ = some (.int .i64 x.vk) := by rw [T2.out.x.cell]; rfl
                    have p6 : w2.cell? ⟨w.heap.size, 6, none⟩ = some (.string x.vt) := by rw [T2.out.x.cell]; rfl
                    have p7 : w2.cell? ⟨w.heap.size, 7, none⟩ = some (.int .i64 x.vn) := by rw [T2.out.x.cell]; rfl
                    have p8 : w2.cell? ⟨w.heap.size, 8, none⟩ = some (.int .i64 x.vm) := by rw [T2.out.x.cell]; rfl
                    have p9 : w2.cell? ⟨w.heap.size, 9, none⟩ = some (.string x.vx) := by rw [T2.out.x.cell]; rfl
                    have p10 : w2.cell? ⟨w.heap.size, 10, none⟩ = some (.slice B x.vl.length d) := by rw [T2.out.x.cell]; rfl
                    have p11 : w2.cell? ⟨w.heap.size, 11, none⟩ = some (.int .i64 x.n) := by rw [T2.out.x.cell]; rfl
                    cases g with
                    | false =>
                      go_wp2_with fail
                      go_ret
                      exact ⟨by rw [HU.out]; rfl, T2.out.bel⟩
                    | true =>
                      go_wp2_with fail
                      clear p0 p1 p2 p3 p4 p5 p6 p7 p8 p9 p10 p11
                      go_loopw [90] (fun s90 wr => ∃ i : Nat, i ≤ x.args.length ∧ s90 = .int .i64 i ∧ Hid (∀ (j : Nat) (v : V), j < i → x.args[j]? = some v → plainV v = true) ∧ Hid (Below w.heap.size w wr)) (fun s90 _ => x.args.length - (intOf s90).toNat)
                      case atStart => exact ⟨0, by omega, rfl, Lib.hid (fun j v h => absurd h (by omega)), Lib.hid T2.out.bel⟩
                      case round =>
                        obtain ⟨i, hi, rfl, HQ, HB⟩ := hrel
                        by_cases hlt : i < x.args.length
                        · obtain ⟨b, off, kd, t', n', m', s', l', A', c', e, hlb, hget, h2⟩ := vs_at (RA.out.belows HB.out) hlt
                          subst e
                          obtain ⟨c0, c1, c2, c3, c4, c5, r5⟩ := h2
                          have hbk := bulkV_get _ _ _ hget
                          have HGE := Lib.hid hget
                          obtain ⟨g, hg⟩ : ∃ g, plainV (.mk kd t' n' m' s' l') = g := ⟨_, rfl⟩
                          have HC : Hid (∀ W, Rd (Lt W.heap.size) W (vs l') (.slice A' l'.length c') → Calls Tryz.prog 19 #[.agg #[.int .i64 kd, .string t', .int .i64 n', .int .i64 m', .string s', .slice A' l'.length c']] W fun e w' => e = .returned (.bool g) ∧ Below W.heap.size W w') := Lib.hid (fun W h => by rw [← hg]; exact plain_any kd t' n' m' s' l' A' c' W (by omega) h)
                          have HGV := Lib.hid hg
                          have R5 := Lib.hid r5
                          have HBS := Lib.hid HB.out.size
                          clear r5 hget hg hbk
                          go_wp2_with fail
                          (with_reducible refine (HC.out _ (R5.out.allocs _)).mono ?_)
                          rintro e w4 ⟨rfl, hb4⟩
                          have B4 := Lib.hid (HB.out.trans ((((Below.refl wr.heap.size wr).alloc (Nat.le_refl _) _).trans (hb4.mono (by simp))).mono HBS.out))
                          clear hb4
                          cases g with
                          | false =>
                            have HF := Lib.hid (all_no HGE.out HGV.out)
                            go_wp2_with fail
                            go_ret
                            exact ⟨by rw [HU.out, HF.out]; rfl, B4.out⟩
                          | true =>
                            have HQ2 : Hid (∀ (j : Nat) (v : V), j < i + 1 → x.args[j]? = some v → plainV v = true) := Lib.hid (fun j v hj hv => by
                              rcases Nat.lt_or_ge j i with h | h
                              · exact HQ.out j v h hv
                              · obtain rfl : j = i := by omega
                                rw [HGE.out] at hv
                                rw [← Option.some.inj hv]; exact HGV.out)
                            go_wp2_with fail
                            exact ⟨⟨i + 1, by omega, by go_num, HQ2, B4⟩, by simp [intOf]; omega⟩
                        · have HT := Lib.hid (all_yes (l := x.args) (fun j v hv => HQ.out j v (by have := (List.getElem?_eq_some_iff.1 hv).1; omega) hv))
                          go_wp2_with fail
                          go_ret
                          exact ⟨by rw [HU.out, HT.out]; rfl, HB.out⟩
    | false =>
      cases q2 : (x.kind == 2) with
      | true =>
        have q3 : (x.kind == 3) = false := by have := beq_iff_eq.1 q2; rw [beq_eq_false_iff_ne]; omega
        have p0 : W.cell? ⟨w.heap.size, 0, none⟩ = some (.int .i64 x.kind) := by rw [S0.out.x.cell]; rfl
        have r0 : W.cell? ⟨w.heap.size + 1, 0, none⟩ = some (.int .i64 x.kind) := by rw [S0.out.r.cell]; rfl
        have p1 : W.cell? ⟨w.heap.size, 1, none⟩ = some (.string x.path) := by rw [S0.out.x.cell]; rfl
        have r1 : W.cell? ⟨w.heap.size + 1, 1, none⟩ = some (.string x.path) := by rw [S0.out.r.cell]; rfl
        have p2 : W.cell? ⟨w.heap.size, 2, none⟩ = some (.string x.msg) := by rw [S0.out.x.cell]; rfl
        have r2 : W.cell? ⟨w.heap.size + 1, 2, none⟩ = some (.string x.msg) := by rw [S0.out.r.cell]; rfl
        have p3 : W.cell? ⟨w.heap.size, 3, none⟩ = some (.slice A x.args.length c) := by rw [S0.out.x.cell]; rfl
        have r3 : W.cell? ⟨w.heap.size + 1, 3, none⟩ = some (.slice A x.args.length c) := by rw [S0.out.r.cell]; rfl
        have p4 : W.cell? ⟨w.heap.size, 4, none⟩ = some (.int .i64 x.ord) := by rw [S0.out.x.cell]; rfl
        have r4 : W.cell? ⟨w.heap.size + 1, 4, none⟩ = some (.int .i64 x.ord) := by rw [S0.out.r.cell]; rfl
        have p5 : W.cell? ⟨w.heap.size, 5, none⟩ = some (.int .i64 x.vk) := by rw [S0.out.x.cell]; rfl
        have r5 : W.cell? ⟨w.heap.size + 1, 5, none⟩ = some (.int .i64 x.vk) := by rw [S0.out.r.cell]; rfl
        have p6 : W.cell? ⟨w.heap.size, 6, none⟩ = some (.string x.vt) := by rw [S0.out.x.cell]; rfl
        have r6 : W.cell? ⟨w.heap.size + 1, 6, none⟩ = some (.string x.vt) := by rw [S0.out.r.cell]; rfl
        have p7 : W.cell? ⟨w.heap.size, 7, none⟩ = some (.int .i64 x.vn) := by rw [S0.out.x.cell]; rfl
        have r7 : W.cell? ⟨w.heap.size + 1, 7, none⟩ = some (.int .i64 x.vn) := by rw [S0.out.r.cell]; rfl
        have p8 : W.cell? ⟨w.heap.size, 8, none⟩ = some (.int .i64 x.vm) := by rw [S0.out.x.cell]; rfl
        have r8 : W.cell? ⟨w.heap.size + 1, 8, none⟩ = some (.int .i64 x.vm) := by rw [S0.out.r.cell]; rfl
        have p9 : W.cell? ⟨w.heap.size, 9, none⟩ = some (.string x.vx) := by rw [S0.out.x.cell]; rfl
        have r9 : W.cell? ⟨w.heap.size + 1, 9, none⟩ = some (.string x.vx) := by rw [S0.out.r.cell]; rfl
        have p10 : W.cell? ⟨w.heap.size, 10, none⟩ = some (.slice B x.vl.length d) := by rw [S0.out.x.cell]; rfl
        have r10 : W.cell? ⟨w.heap.size + 1, 10, none⟩ = some (.slice B x.vl.length d) := by rw [S0.out.r.cell]; rfl
        have p11 : W.cell? ⟨w.heap.size, 11, none⟩ = some (.int .i64 x.n) := by rw [S0.out.x.cell]; rfl
        have r11 : W.cell? ⟨w.heap.size + 1, 11, none⟩ = some (.int .i64 x.n) := by rw [S0.out.r.cell]; rfl
        have rf := S0.out.r.fz
        have S1 : Hid (RSt w ((W.setCell ⟨w.heap.size + 1, 0, none⟩ (.int .i64 0)).setCell ⟨w.heap.size + 1, 11, none⟩ (.int .i64 0)) #[.int .i64 x.kind, .string x.path, .string x.msg, .slice A x.args.length c, .int .i64 x.ord, .int .i64 x.vk, .string x.vt, .int .i64 x.vn, .int .i64 x.vm, .string x.vx, .slice B x.vl.length d, .int .i64 x.n] #[.int .i64 0, .string x.path, .string x.msg, .slice A x.args.length c, .int .i64 x.ord, .int .i64 x.vk, .string x.vt, .int .i64 x.vn, .int .i64 x.vm, .string x.vx, .slice B x.vl.length d, .int .i64 0]) := Lib.hid (by simpa using ((S0.out.store 0 (.int .i64 0)).store 11 (.int .i64 0)))
        by_cases o1 : x.n < 0
        · have HLF : Hid (decide (0 ≤ x.n ∧ x.n ≤ 1099511627776) = false) := Lib.hid (by simp; omega)
          go_enter Tryz.func6, Tryz.ntmps6
          have HN : Hid (R = false) := Lib.hid (by rw [HU0.out, HG0.out, if_neg (by rw [q1]; simp), if_neg (by rw [q4]; simp), if_pos q2, HLF.out]; rfl)
          go_wp2_with fail
          go_ret
          exact ⟨by rw [HN.out]; rfl, S1.out.bel⟩
        · by_cases o2 : 1099511627776 < x.n
          · have HLF : Hid (decide (0 ≤ x.n ∧ x.n ≤ 1099511627776) = false) := Lib.hid (by simp; omega)
            go_enter Tryz.func6, Tryz.ntmps6
            have HN : Hid (R = false) := Lib.hid (by rw [HU0.out, HG0.out, if_neg (by rw [q1]; simp), if_neg (by rw [q4]; simp), if_pos q2, HLF.out]; rfl)
            go_wp2_with fail
            go_ret
            exact ⟨by rw [HN.out]; rfl, S1.out.bel⟩
          · have HG : Hid (guardE x = true) := Lib.hid (by rw [HG0.out, if_neg (by rw [q1]; simp), if_neg (by rw [q4]; simp), if_pos q2]; simp; omega)
            have HRE : Hid (restE x = ⟨0, x.path, x.msg, x.args, x.ord, x.vk, x.vt, x.vn, x.vm, x.vx, x.vl, 0⟩) := Lib.hid (by rw [HE0.out, if_neg (by rw [q1]; simp), if_neg (by rw [q4]; simp), if_neg (by rw [q3]; simp)])
            go_enter Tryz.func6, Tryz.ntmps6
            obtain ⟨g, hg⟩ : ∃ g, eqE ⟨0, x.path, x.msg, x.args, x.ord, x.vk, x.vt, x.vn, x.vm, x.vx, x.vl, 0⟩ zE = g := ⟨_, rfl⟩
            have HU : Hid (R = (g && x.args.all plainV)) := Lib.hid (by rw [HU0.out, HG.out, HRE.out, hg]; rfl)
            have HSM : Hid (∀ W, Rd (Lt W.heap.size) W (vs x.args) (.slice A x.args.length c) → Rd (Lt W.heap.size) W (vs x.vl) (.slice B x.vl.length d) → Calls Tryz.prog 8 #[.agg #[.int .i64 0, .string x.path, .string x.msg, .slice A x.args.length c, .int .i64 x.ord, .int .i64 x.vk, .string x.vt, .int .i64 x.vn, .int .i64 x.vm, .string x.vx, .slice B x.vl.length d, .int .i64 0], .agg #[.int .i64 0, .string ⟨#[]⟩, .string ⟨#[]⟩, .slice none 0 0, .int .i64 0, .int .i64 0, .string ⟨#[]⟩, .int .i64 0, .int .i64 0, .string ⟨#[]⟩, .slice none 0 0, .int .i64 0]] W fun e w' => e = .returned (.bool g) ∧ Below W.heap.size W w') := Lib.hid (fun W q1 q2 => by rw [← hg]; exact evsame_any ⟨0, x.path, x.msg, x.args, x.ord, x.vk, x.vt, x.vn, x.vm, x.vx, x.vl, 0⟩ zE A none B none c 0 d 0 W h1 (by simp [zE, bulkV]) h4 (by simp [zE, bulkV]) q1 Rd.sl_nil q2 Rd.sl_nil)
            clear hg
            go_wp2_with fail
            (with_reducible refine (HSM.out _ ?_ ?_).mono ?_)
            · exact RA.out.belows S1.out.bel
            · exact RV.out.belows S1.out.bel
            rintro e w2 ⟨rfl, hb2⟩
            have T2 := Lib.hid (S1.out.below hb2)
            clear hb2 HSM p0 r0 p1 r1 p2 r2 p3 r3 p4 r4 p5 r5 p6 r6 p7 r7 p8 r8 p9 r9 p10 r10 p11 r11 rf
            have p0 : w2.cell? ⟨w.heap.size, 0, none⟩ = some (.int .i64 x.kind) := by rw [T2.out.x.cell]; rfl
            have p1 : w2.cell? ⟨w.heap.size, 1, none⟩ = some (.string x.path) := by rw [T2.out.x.cell]; rfl
            have p2 : w2.cell? ⟨w.heap.size, 2, none⟩ = some (.string x.msg) := by rw [T2.out.x.cell]; rfl
            have p3 : w2.cell? ⟨w.heap.size, 3, none⟩ = some (.slice A x.args.length c) := by rw [T2.out.x.cell]; rfl
            have p4 : w2.cell? ⟨w.heap.size, 4, none⟩ = some (.int .i64 x.ord) := by rw [T2.out.x.cell]; rfl
            have p5 : w2.cell? ⟨w.heap.size, 5, none⟩ = some (.int .i64 x.vk) := by rw [T2.out.x.cell]; rfl
            have p6 : w2.cell? ⟨w.heap.size, 6, none⟩ = some (.string x.vt) := by rw [T2.out.x.cell]; rfl
            have p7 : w2.cell? ⟨w.heap.size, 7, none⟩ = some (.int .i64 x.vn) := by rw [T2.out.x.cell]; rfl
            have p8 : w2.cell? ⟨w.heap.size, 8, none⟩ = some (.int .i64 x.vm) := by rw [T2.out.x.cell]; rfl
            have p9 : w2.cell? ⟨w.heap.size, 9, none⟩ = some (.string x.vx) := by rw [T2.out.x.cell]; rfl
            have p10 : w2.cell? ⟨w.heap.size, 10, none⟩ = some (.slice B x.vl.length d) := by rw [T2.out.x.cell]; rfl
            have p11 : w2.cell? ⟨w.heap.size, 11, none⟩ = some (.int .i64 x.n) := by rw [T2.out.x.cell]; rfl
            cases g with
            | false =>
              go_wp2_with fail
              go_ret
              exact ⟨by rw [HU.out]; rfl, T2.out.bel⟩
            | true =>
              go_wp2_with fail
              clear p0 p1 p2 p3 p4 p5 p6 p7 p8 p9 p10 p11
              go_loopw [90] (fun s90 wr => ∃ i : Nat, i ≤ x.args.length ∧ s90 = .int .i64 i ∧ Hid (∀ (j : Nat) (v : V), j < i → x.args[j]? = some v → plainV v = true) ∧ Hid (Below w.heap.size w wr)) (fun s90 _ => x.args.length - (intOf s90).toNat)
              case atStart => exact ⟨0, by omega, rfl, Lib.hid (fun j v h => absurd h (by omega)), Lib.hid T2.out.bel⟩
              case round =>
                obtain ⟨i, hi, rfl, HQ, HB⟩ := hrel
                by_cases hlt : i < x.args.length
                · obtain ⟨b, off, kd, t', n', m', s', l', A', c', e, hlb, hget, h2⟩ := vs_at (RA.out.belows HB.out) hlt
                  subst e
                  obtain ⟨c0, c1, c2, c3, c4, c5, r5⟩ := h2
                  have hbk := bulkV_get _ _ _ hget
                  have HGE := Lib.hid hget
                  obtain ⟨g, hg⟩ : ∃ g, plainV (.mk kd t' n' m' s' l') = g := ⟨_, rfl⟩
                  have HC : Hid (∀ W, Rd (Lt W.heap.size) W (vs l') (.slice A' l'.length c') → Calls Tryz.prog 19 #[.agg #[.int .i64 kd, .string t', .int .i64 n', .int .i64 m', .string s', .slice A' l'.length c']] W fun e w' => e = .returned (.bool g) ∧ Below W.heap.size W w') := Lib.hid (fun W h => by rw [← hg]; exact plain_any kd t' n' m' s' l' A' c' W (by omega) h)
                  have HGV := Lib.hid hg
                  have R5 := Lib.hid r5
                  have HBS := Lib.hid HB.out.size
                  clear r5 hget hg hbk
                  go_wp2_with fail
                  (with_reducible refine (HC.out _ (R5.out.allocs _)).mono ?_)
                  rintro e w4 ⟨rfl, hb4⟩
                  have B4 := Lib.hid (HB.out.trans ((((Below.refl wr.heap.size wr).alloc (Nat.le_refl _) _).trans (hb4.mono (by simp))).mono HBS.out))
                  clear hb4
                  cases g with
                  | false =>
                    have HF := Lib.hid (all_no HGE.out HGV.out)
                    go_wp2_with fail
                    go_ret
                    exact ⟨by rw [HU.out, HF.out]; rfl, B4.out⟩
                  | true =>
                    have HQ2 : Hid (∀ (j : Nat) (v : V), j < i + 1 → x.args[j]? = some v → plainV v = true) := Lib.hid (fun j v hj hv => by
                      rcases Nat.lt_or_ge j i with h | h
                      · exact HQ.out j v h hv
                      · obtain rfl : j = i := by omega
                        rw [HGE.out] at hv
                        rw [← Option.some.inj hv]; exact HGV.out)
                    go_wp2_with fail
                    exact ⟨⟨i + 1, by omega, by go_num, HQ2, B4⟩, by simp [intOf]; omega⟩
                · have HT := Lib.hid (all_yes (l := x.args) (fun j v hv => HQ.out j v (by have := (List.getElem?_eq_some_iff.1 hv).1; omega) hv))
                  go_wp2_with fail
                  go_ret
                  exact ⟨by rw [HU.out, HT.out]; rfl, HB.out⟩
      | false =>
        cases q5 : (x.kind == 5) with
        | true =>
          have q3 : (x.kind == 3) = false := by have := beq_iff_eq.1 q5; rw [beq_eq_false_iff_ne]; omega
          have p0 : W.cell? ⟨w.heap.size, 0, none⟩ = some (.int .i64 x.kind) := by rw [S0.out.x.cell]; rfl
          have r0 : W.cell? ⟨w.heap.size + 1, 0, none⟩ = some (.int .i64 x.kind) := by rw [S0.out.r.cell]; rfl
          have p1 : W.cell? ⟨w.heap.size, 1, none⟩ = some (.string x.path) := by rw [S0.out.x.cell]; rfl
          have r1 : W.cell? ⟨w.heap.size + 1, 1, none⟩ = some (.string x.path) := by rw [S0.out.r.cell]; rfl
          have p2 : W.cell? ⟨w.heap.size, 2, none⟩ = some (.string x.msg) := by rw [S0.out.x.cell]; rfl
          have r2 : W.cell? ⟨w.heap.size + 1, 2, none⟩ = some (.string x.msg) := by rw [S0.out.r.cell]; rfl
          have p3 : W.cell? ⟨w.heap.size, 3, none⟩ = some (.slice A x.args.length c) := by rw [S0.out.x.cell]; rfl
          have r3 : W.cell? ⟨w.heap.size + 1, 3, none⟩ = some (.slice A x.args.length c) := by rw [S0.out.r.cell]; rfl
          have p4 : W.cell? ⟨w.heap.size, 4, none⟩ = some (.int .i64 x.ord) := by rw [S0.out.x.cell]; rfl
          have r4 : W.cell? ⟨w.heap.size + 1, 4, none⟩ = some (.int .i64 x.ord) := by rw [S0.out.r.cell]; rfl
          have p5 : W.cell? ⟨w.heap.size, 5, none⟩ = some (.int .i64 x.vk) := by rw [S0.out.x.cell]; rfl
          have r5 : W.cell? ⟨w.heap.size + 1, 5, none⟩ = some (.int .i64 x.vk) := by rw [S0.out.r.cell]; rfl
          have p6 : W.cell? ⟨w.heap.size, 6, none⟩ = some (.string x.vt) := by rw [S0.out.x.cell]; rfl
          have r6 : W.cell? ⟨w.heap.size + 1, 6, none⟩ = some (.string x.vt) := by rw [S0.out.r.cell]; rfl
          have p7 : W.cell? ⟨w.heap.size, 7, none⟩ = some (.int .i64 x.vn) := by rw [S0.out.x.cell]; rfl
          have r7 : W.cell? ⟨w.heap.size + 1, 7, none⟩ = some (.int .i64 x.vn) := by rw [S0.out.r.cell]; rfl
          have p8 : W.cell? ⟨w.heap.size, 8, none⟩ = some (.int .i64 x.vm) := by rw [S0.out.x.cell]; rfl
          have r8 : W.cell? ⟨w.heap.size + 1, 8, none⟩ = some (.int .i64 x.vm) := by rw [S0.out.r.cell]; rfl
          have p9 : W.cell? ⟨w.heap.size, 9, none⟩ = some (.string x.vx) := by rw [S0.out.x.cell]; rfl
          have r9 : W.cell? ⟨w.heap.size + 1, 9, none⟩ = some (.string x.vx) := by rw [S0.out.r.cell]; rfl
          have p10 : W.cell? ⟨w.heap.size, 10, none⟩ = some (.slice B x.vl.length d) := by rw [S0.out.x.cell]; rfl
          have r10 : W.cell? ⟨w.heap.size + 1, 10, none⟩ = some (.slice B x.vl.length d) := by rw [S0.out.r.cell]; rfl
          have p11 : W.cell? ⟨w.heap.size, 11, none⟩ = some (.int .i64 x.n) := by rw [S0.out.x.cell]; rfl
          have r11 : W.cell? ⟨w.heap.size + 1, 11, none⟩ = some (.int .i64 x.n) := by rw [S0.out.r.cell]; rfl
          have rf := S0.out.r.fz
          have S1 : Hid (RSt w ((W.setCell ⟨w.heap.size + 1, 0, none⟩ (.int .i64 0)).setCell ⟨w.heap.size + 1, 11, none⟩ (.int .i64 0)) #[.int .i64 x.kind, .string x.path, .string x.msg, .slice A x.args.length c, .int .i64 x.ord, .int .i64 x.vk, .string x.vt, .int .i64 x.vn, .int .i64 x.vm, .string x.vx, .slice B x.vl.length d, .int .i64 x.n] #[.int .i64 0, .string x.path, .string x.msg, .slice A x.args.length c, .int .i64 x.ord, .int .i64 x.vk, .string x.vt, .int .i64 x.vn, .int .i64 x.vm, .string x.vx, .slice B x.vl.length d, .int .i64 0]) := Lib.hid (by simpa using ((S0.out.store 0 (.int .i64 0)).store 11 (.int .i64 0)))
          by_cases o1 : x.n < 0
          · have HLF : Hid (decide (0 ≤ x.n ∧ x.n < 8) = false) := Lib.hid (by simp; omega)
            go_enter Tryz.func6, Tryz.ntmps6
            have HN : Hid (R = false) := Lib.hid (by rw [HU0.out, HG0.out, if_neg (by rw [q1]; simp), if_neg (by rw [q4]; simp), if_neg (by rw [q2]; simp), if_pos (by rw [q5]; rfl), HLF.out]; rfl)
            go_wp2_with fail
            go_ret
            exact ⟨by rw [HN.out]; rfl, S1.out.bel⟩
          · by_cases o2 : 8 ≤ x.n
            · have HLF : Hid (decide (0 ≤ x.n ∧ x.n < 8) = false) := Lib.hid (by simp; omega)
              go_enter Tryz.func6, Tryz.ntmps6
              have HN : Hid (R = false) := Lib.hid (by rw [HU0.out, HG0.out, if_neg (by rw [q1]; simp), if_neg (by rw [q4]; simp), if_neg (by rw [q2]; simp), if_pos (by rw [q5]; rfl), HLF.out]; rfl)
              go_wp2_with fail
              go_ret
              exact ⟨by rw [HN.out]; rfl, S1.out.bel⟩
            · have HG : Hid (guardE x = true) := Lib.hid (by rw [HG0.out, if_neg (by rw [q1]; simp), if_neg (by rw [q4]; simp), if_neg (by rw [q2]; simp), if_pos (by rw [q5]; rfl)]; simp; omega)
              have HRE : Hid (restE x = ⟨0, x.path, x.msg, x.args, x.ord, x.vk, x.vt, x.vn, x.vm, x.vx, x.vl, 0⟩) := Lib.hid (by rw [HE0.out, if_neg (by rw [q1]; simp), if_neg (by rw [q4]; simp), if_neg (by rw [q3]; simp)])
              go_enter Tryz.func6, Tryz.ntmps6
              obtain ⟨g, hg⟩ : ∃ g, eqE ⟨0, x.path, x.msg, x.args, x.ord, x.vk, x.vt, x.vn, x.vm, x.vx, x.vl, 0⟩ zE = g := ⟨_, rfl⟩
              have HU : Hid (R = (g && x.args.all plainV)) := Lib.hid (by rw [HU0.out, HG.out, HRE.out, hg]; rfl)
              have HSM : Hid (∀ W, Rd (Lt W.heap.size) W (vs x.args) (.slice A x.args.length c) → Rd (Lt W.heap.size) W (vs x.vl) (.slice B x.vl.length d) → Calls Tryz.prog 8 #[.agg #[.int .i64 0, .string x.path, .string x.msg, .slice A x.args.length c, .int .i64 x.ord, .int .i64 x.vk, .string x.vt, .int .i64 x.vn, .int .i64 x.vm, .string x.vx, .slice B x.vl.length d, .int .i64 0], .agg #[.int .i64 0, .string ⟨#[]⟩, .string ⟨#[]⟩, .slice none 0 0, .int .i64 0, .int .i64 0, .string ⟨#[]⟩, .int .i64 0, .int .i64 0, .string ⟨#[]⟩, .slice none 0 0, .int .i64 0]] W fun e w' => e = .returned (.bool g) ∧ Below W.heap.size W w') := Lib.hid (fun W q1 q2 => by rw [← hg]; exact evsame_any ⟨0, x.path, x.msg, x.args, x.ord, x.vk, x.vt, x.vn, x.vm, x.vx, x.vl, 0⟩ zE A none B none c 0 d 0 W h1 (by simp [zE, bulkV]) h4 (by simp [zE, bulkV]) q1 Rd.sl_nil q2 Rd.sl_nil)
              clear hg
              go_wp2_with fail
              (with_reducible refine (HSM.out _ ?_ ?_).mono ?_)
              · exact RA.out.belows S1.out.bel
              · exact RV.out.belows S1.out.bel
              rintro e w2 ⟨rfl, hb2⟩
              have T2 := Lib.hid (S1.out.below hb2)
              clear hb2 HSM p0 r0 p1 r1 p2 r2 p3 r3 p4 r4 p5 r5 p6 r6 p7 r7 p8 r8 p9 r9 p10 r10 p11 r11 rf
              have p0 : w2.cell? ⟨w.heap.size, 0, none⟩ = some (.int .i64 x.kind) := by rw [T2.out.x.cell]; rfl
              have p1 : w2.cell? ⟨w.heap.size, 1, none⟩ = some (.string x.path) := by rw [T2.out.x.cell]; rfl
              have p2 : w2.cell? ⟨w.heap.size, 2, none⟩ = some (.string x.msg) := by rw [T2.out.x.cell]; rfl
              have p3 : w2.cell? ⟨w.heap.size, 3, none⟩ = some (.slice A x.args.length c) := by rw [T2.out.x.cell]; rfl
              have p4 : w2.cell? ⟨w.heap.size, 4, none⟩ = some (.int .i64 x.ord) := by rw [T2.out.x.cell]; rfl
              have p5 : w2.cell? ⟨w.heap.size, 5, none⟩ = some (.int .i64 x.vk) := by rw [T2.out.x.cell]; rfl
              have p6 : w2.cell? ⟨w.heap.size, 6, none⟩ = some (.string x.vt) := by rw [T2.out.x.cell]; rfl
              have p7 : w2.cell? ⟨w.heap.size, 7, none⟩ = some (.int .i64 x.vn) := by rw [T2.out.x.cell]; rfl
              have p8 : w2.cell? ⟨w.heap.size, 8, none⟩ = some (.int .i64 x.vm) := by rw [T2.out.x.cell]; rfl
              have p9 : w2.cell? ⟨w.heap.size, 9, none⟩ = some (.string x.vx) := by rw [T2.out.x.cell]; rfl
              have p10 : w2.cell? ⟨w.heap.size, 10, none⟩ = some (.slice B x.vl.length d) := by rw [T2.out.x.cell]; rfl
              have p11 : w2.cell? ⟨w.heap.size, 11, none⟩ = some (.int .i64 x.n) := by rw [T2.out.x.cell]; rfl
              cases g with
              | false =>
                go_wp2_with fail
                go_ret
                exact ⟨by rw [HU.out]; rfl, T2.out.bel⟩
              | true =>
                go_wp2_with fail
                clear p0 p1 p2 p3 p4 p5 p6 p7 p8 p9 p10 p11
                go_loopw [90] (fun s90 wr => ∃ i : Nat, i ≤ x.args.length ∧ s90 = .int .i64 i ∧ Hid (∀ (j : Nat) (v : V), j < i → x.args[j]? = some v → plainV v = true) ∧ Hid (Below w.heap.size w wr)) (fun s90 _ => x.args.length - (intOf s90).toNat)
                case atStart => exact ⟨0, by omega, rfl, Lib.hid (fun j v h => absurd h (by omega)), Lib.hid T2.out.bel⟩
                case round =>
                  obtain ⟨i, hi, rfl, HQ, HB⟩ := hrel
                  by_cases hlt : i < x.args.length
                  · obtain ⟨b, off, kd, t', n', m', s', l', A', c', e, hlb, hget, h2⟩ := vs_at (RA.out.belows HB.out) hlt
                    subst e
                    obtain ⟨c0, c1, c2, c3, c4, c5, r5⟩ := h2
                    have hbk := bulkV_get _ _ _ hget
                    have HGE := Lib.hid hget
                    obtain ⟨g, hg⟩ : ∃ g, plainV (.mk kd t' n' m' s' l') = g := ⟨_, rfl⟩
                    have HC : Hid (∀ W, Rd (Lt W.heap.size) W (vs l') (.slice A' l'.length c') → Calls Tryz.prog 19 #[.agg #[.int .i64 kd, .string t', .int .i64 n', .int .i64 m', .string s', .slice A' l'.length c']] W fun e w' => e = .returned (.bool g) ∧ Below W.heap.size W w') := Lib.hid (fun W h => by rw [← hg]; exact plain_any kd t' n' m' s' l' A' c' W (by omega) h)
                    have HGV := Lib.hid hg
                    have R5 := Lib.hid r5
                    have HBS := Lib.hid HB.out.size
                    clear r5 hget hg hbk
                    go_wp2_with fail
                    (with_reducible refine (HC.out _ (R5.out.allocs _)).mono ?_)
                    rintro e w4 ⟨rfl, hb4⟩
                    have B4 := Lib.hid (HB.out.trans ((((Below.refl wr.heap.size wr).alloc (Nat.le_refl _) _).trans (hb4.mono (by simp))).mono HBS.out))
                    clear hb4
                    cases g with
                    | false =>
                      have HF := Lib.hid (all_no HGE.out HGV.out)
                      go_wp2_with fail
                      go_ret
                      exact ⟨by rw [HU.out, HF.out]; rfl, B4.out⟩
                    | true =>
                      have HQ2 : Hid (∀ (j : Nat) (v : V), j < i + 1 → x.args[j]? = some v → plainV v = true) := Lib.hid (fun j v hj hv => by
                        rcases Nat.lt_or_ge j i with h | h
                        · exact HQ.out j v h hv
                        · obtain rfl : j = i := by omega
                          rw [HGE.out] at hv
                          rw [← Option.some.inj hv]; exact HGV.out)
                      go_wp2_with fail
                      exact ⟨⟨i + 1, by omega, by go_num, HQ2, B4⟩, by simp [intOf]; omega⟩
                  · have HT := Lib.hid (all_yes (l := x.args) (fun j v hv => HQ.out j v (by have := (List.getElem?_eq_some_iff.1 hv).1; omega) hv))
                    go_wp2_with fail
                    go_ret
                    exact ⟨by rw [HU.out, HT.out]; rfl, HB.out⟩
        | false =>
          cases q6 : (x.kind == 6) with
          | true =>
            have q3 : (x.kind == 3) = false := by have := beq_iff_eq.1 q6; rw [beq_eq_false_iff_ne]; omega
            have p0 : W.cell? ⟨w.heap.size, 0, none⟩ = some (.int .i64 x.kind) := by rw [S0.out.x.cell]; rfl
            have r0 : W.cell? ⟨w.heap.size + 1, 0, none⟩ = some (.int .i64 x.kind) := by rw [S0.out.r.cell]; rfl
            have p1 : W.cell? ⟨w.heap.size, 1, none⟩ = some (.string x.path) := by rw [S0.out.x.cell]; rfl
            have r1 : W.cell? ⟨w.heap.size + 1, 1, none⟩ = some (.string x.path) := by rw [S0.out.r.cell]; rfl
            have p2 : W.cell? ⟨w.heap.size, 2, none⟩ = some (.string x.msg) := by rw [S0.out.x.cell]; rfl
            have r2 : W.cell? ⟨w.heap.size + 1, 2, none⟩ = some (.string x.msg) := by rw [S0.out.r.cell]; rfl
            have p3 : W.cell? ⟨w.heap.size, 3, none⟩ = some (.slice A x.args.length c) := by rw [S0.out.x.cell]; rfl
            have r3 : W.cell? ⟨w.heap.size + 1, 3, none⟩ = some (.slice A x.args.length c) := by rw [S0.out.r.cell]; rfl
            have p4 : W.cell? ⟨w.heap.size, 4, none⟩ = some (.int .i64 x.ord) := by rw [S0.out.x.cell]; rfl
            have r4 : W.cell? ⟨w.heap.size + 1, 4, none⟩ = some (.int .i64 x.ord) := by rw [S0.out.r.cell]; rfl
            have p5 : W.cell? ⟨w.heap.size, 5, none⟩ = some (.int .i64 x.vk) := by rw [S0.out.x.cell]; rfl
            have r5 : W.cell? ⟨w.heap.size + 1, 5, none⟩ = some (.int .i64 x.vk) := by rw [S0.out.r.cell]; rfl
            have p6 : W.cell? ⟨w.heap.size, 6, none⟩ = some (.string x.vt) := by rw [S0.out.x.cell]; rfl
            have r6 : W.cell? ⟨w.heap.size + 1, 6, none⟩ = some (.string x.vt) := by rw [S0.out.r.cell]; rfl
            have p7 : W.cell? ⟨w.heap.size, 7, none⟩ = some (.int .i64 x.vn) := by rw [S0.out.x.cell]; rfl
            have r7 : W.cell? ⟨w.heap.size + 1, 7, none⟩ = some (.int .i64 x.vn) := by rw [S0.out.r.cell]; rfl
            have p8 : W.cell? ⟨w.heap.size, 8, none⟩ = some (.int .i64 x.vm) := by rw [S0.out.x.cell]; rfl
            have r8 : W.cell? ⟨w.heap.size + 1, 8, none⟩ = some (.int .i64 x.vm) := by rw [S0.out.r.cell]; rfl
            have p9 : W.cell? ⟨w.heap.size, 9, none⟩ = some (.string x.vx) := by rw [S0.out.x.cell]; rfl
            have r9 : W.cell? ⟨w.heap.size + 1, 9, none⟩ = some (.string x.vx) := by rw [S0.out.r.cell]; rfl
            have p10 : W.cell? ⟨w.heap.size, 10, none⟩ = some (.slice B x.vl.length d) := by rw [S0.out.x.cell]; rfl
            have r10 : W.cell? ⟨w.heap.size + 1, 10, none⟩ = some (.slice B x.vl.length d) := by rw [S0.out.r.cell]; rfl
            have p11 : W.cell? ⟨w.heap.size, 11, none⟩ = some (.int .i64 x.n) := by rw [S0.out.x.cell]; rfl
            have r11 : W.cell? ⟨w.heap.size + 1, 11, none⟩ = some (.int .i64 x.n) := by rw [S0.out.r.cell]; rfl
            have rf := S0.out.r.fz
            have S1 : Hid (RSt w ((W.setCell ⟨w.heap.size + 1, 0, none⟩ (.int .i64 0)).setCell ⟨w.heap.size + 1, 11, none⟩ (.int .i64 0)) #[.int .i64 x.kind, .string x.path, .string x.msg, .slice A x.args.length c, .int .i64 x.ord, .int .i64 x.vk, .string x.vt, .int .i64 x.vn, .int .i64 x.vm, .string x.vx, .slice B x.vl.length d, .int .i64 x.n] #[.int .i64 0, .string x.path, .string x.msg, .slice A x.args.length c, .int .i64 x.ord, .int .i64 x.vk, .string x.vt, .int .i64 x.vn, .int .i64 x.vm, .string x.vx, .slice B x.vl.length d, .int .i64 0]) := Lib.hid (by simpa using ((S0.out.store 0 (.int .i64 0)).store 11 (.int .i64 0)))
            by_cases o1 : x.n < 0
            · have HLF : Hid (decide (0 ≤ x.n ∧ x.n < 8) = false) := Lib.hid (by simp; omega)
              go_enter Tryz.func6, Tryz.ntmps6
              have HN : Hid (R = false) := Lib.hid (by rw [HU0.out, HG0.out, if_neg (by rw [q1]; simp), if_neg (by rw [q4]; simp), if_neg (by rw [q2]; simp), if_pos (by rw [q5, q6]; rfl), HLF.out]; rfl)
              go_wp2_with fail
              go_ret
              exact ⟨by rw [HN.out]; rfl, S1.out.bel⟩
            · by_cases o2 : 8 ≤ x.n
              · have HLF : Hid (decide (0 ≤ x.n ∧ x.n < 8) = false) := Lib.hid (by simp; omega)
                go_enter Tryz.func6, Tryz.ntmps6
                have HN : Hid (R = false) := Lib.hid (by rw [HU0.out, HG0.out, if_neg (by rw [q1]; simp), if_neg (by rw [q4]; simp), if_neg (by rw [q2]; simp), if_pos (by rw [q5, q6]; rfl), HLF.out]; rfl)
                go_wp2_with fail
                go_ret
                exact ⟨by rw [HN.out]; rfl, S1.out.bel⟩
              · have HG : Hid (guardE x = true) := Lib.hid (by rw [HG0.out, if_neg (by rw [q1]; simp), if_neg (by rw [q4]; simp), if_neg (by rw [q2]; simp), if_pos (by rw [q5, q6]; rfl)]; simp; omega)
                have HRE : Hid (restE x = ⟨0, x.path, x.msg, x.args, x.ord, x.vk, x.vt, x.vn, x.vm, x.vx, x.vl, 0⟩) := Lib.hid (by rw [HE0.out, if_neg (by rw [q1]; simp), if_neg (by rw [q4]; simp), if_neg (by rw [q3]; simp)])
                go_enter Tryz.func6, Tryz.ntmps6
                obtain ⟨g, hg⟩ : ∃ g, eqE ⟨0, x.path, x.msg, x.args, x.ord, x.vk, x.vt, x.vn, x.vm, x.vx, x.vl, 0⟩ zE = g := ⟨_, rfl⟩
                have HU : Hid (R = (g && x.args.all plainV)) := Lib.hid (by rw [HU0.out, HG.out, HRE.out, hg]; rfl)
                have HSM : Hid (∀ W, Rd (Lt W.heap.size) W (vs x.args) (.slice A x.args.length c) → Rd (Lt W.heap.size) W (vs x.vl) (.slice B x.vl.length d) → Calls Tryz.prog 8 #[.agg #[.int .i64 0, .string x.path, .string x.msg, .slice A x.args.length c, .int .i64 x.ord, .int .i64 x.vk, .string x.vt, .int .i64 x.vn, .int .i64 x.vm, .string x.vx, .slice B x.vl.length d, .int .i64 0], .agg #[.int .i64 0, .string ⟨#[]⟩, .string ⟨#[]⟩, .slice none 0 0, .int .i64 0, .int .i64 0, .string ⟨#[]⟩, .int .i64 0, .int .i64 0, .string ⟨#[]⟩, .slice none 0 0, .int .i64 0]] W fun e w' => e = .returned (.bool g) ∧ Below W.heap.size W w') := Lib.hid (fun W q1 q2 => by rw [← hg]; exact evsame_any ⟨0, x.path, x.msg, x.args, x.ord, x.vk, x.vt, x.vn, x.vm, x.vx, x.vl, 0⟩ zE A none B none c 0 d 0 W h1 (by simp [zE, bulkV]) h4 (by simp [zE, bulkV]) q1 Rd.sl_nil q2 Rd.sl_nil)
                clear hg
                go_wp2_with fail
                (with_reducible refine (HSM.out _ ?_ ?_).mono ?_)
                · exact RA.out.belows S1.out.bel
                · exact RV.out.belows S1.out.bel
                rintro e w2 ⟨rfl, hb2⟩
                have T2 := Lib.hid (S1.out.below hb2)
                clear hb2 HSM p0 r0 p1 r1 p2 r2 p3 r3 p4 r4 p5 r5 p6 r6 p7 r7 p8 r8 p9 r9 p10 r10 p11 r11 rf
                have p0 : w2.cell? ⟨w.heap.size, 0, none⟩ = some (.int .i64 x.kind) := by rw [T2.out.x.cell]; rfl
                have p1 : w2.cell? ⟨w.heap.size, 1, none⟩ = some (.string x.path) := by rw [T2.out.x.cell]; rfl
                have p2 : w2.cell? ⟨w.heap.size, 2, none⟩ = some (.string x.msg) := by rw [T2.out.x.cell]; rfl
                have p3 : w2.cell? ⟨w.heap.size, 3, none⟩ = some (.slice A x.args.length c) := by rw [T2.out.x.cell]; rfl
                have p4 : w2.cell? ⟨w.heap.size, 4, none⟩ = some (.int .i64 x.ord) := by rw [T2.out.x.cell]; rfl
                have p5 : w2.cell? ⟨w.heap.size, 5, none⟩ = some (.int .i64 x.vk) := by rw [T2.out.x.cell]; rfl
                have p6 : w2.cell? ⟨w.heap.size, 6, none⟩ = some (.string x.vt) := by rw [T2.out.x.cell]; rfl
                have p7 : w2.cell? ⟨w.heap.size, 7, none⟩ = some (.int .i64 x.vn) := by rw [T2.out.x.cell]; rfl
                have p8 : w2.cell? ⟨w.heap.size, 8, none⟩ = some (.int .i64 x.vm) := by rw [T2.out.x.cell]; rfl
                have p9 : w2.cell? ⟨w.heap.size, 9, none⟩ = some (.string x.vx) := by rw [T2.out.x.cell]; rfl
                have p10 : w2.cell? ⟨w.heap.size, 10, none⟩ = some (.slice B x.vl.length d) := by rw [T2.out.x.cell]; rfl
                have p11 : w2.cell? ⟨w.heap.size, 11, none⟩ = some (.int .i64 x.n) := by rw [T2.out.x.cell]; rfl
                cases g with
                | false =>
                  go_wp2_with fail
                  go_ret
                  exact ⟨by rw [HU.out]; rfl, T2.out.bel⟩
                | true =>
                  go_wp2_with fail
                  clear p0 p1 p2 p3 p4 p5 p6 p7 p8 p9 p10 p11
                  go_loopw [90] (fun s90 wr => ∃ i : Nat, i ≤ x.args.length ∧ s90 = .int .i64 i ∧ Hid (∀ (j : Nat) (v : V), j < i → x.args[j]? = some v → plainV v = true) ∧ Hid (Below w.heap.size w wr)) (fun s90 _ => x.args.length - (intOf s90).toNat)
                  case atStart => exact ⟨0, by omega, rfl, Lib.hid (fun j v h => absurd h (by omega)), Lib.hid T2.out.bel⟩
                  case round =>
                    obtain ⟨i, hi, rfl, HQ, HB⟩ := hrel
                    by_cases hlt : i < x.args.length
                    · obtain ⟨b, off, kd, t', n', m', s', l', A', c', e, hlb, hget, h2⟩ := vs_at (RA.out.belows HB.out) hlt
                      subst e
                      obtain ⟨c0, c1, c2, c3, c4, c5, r5⟩ := h2
                      have hbk := bulkV_get _ _ _ hget
                      have HGE := Lib.hid hget
                      obtain ⟨g, hg⟩ : ∃ g, plainV (.mk kd t' n' m' s' l') = g := ⟨_, rfl⟩
                      have HC : Hid (∀ W, Rd (Lt W.heap.size) W (vs l') (.slice A' l'.length c') → Calls Tryz.prog 19 #[.agg #[.int .i64 kd, .string t', .int .i64 n', .int .i64 m', .string s', .slice A' l'.length c']] W fun e w' => e = .returned (.bool g) ∧ Below W.heap.size W w') := Lib.hid (fun W h => by rw [← hg]; exact plain_any kd t' n' m' s' l' A' c' W (by omega) h)
                      have HGV := Lib.hid hg
                      have R5 := Lib.hid r5
                      have HBS := Lib.hid HB.out.size
                      clear r5 hget hg hbk
                      go_wp2_with fail
                      (with_reducible refine (HC.out _ (R5.out.allocs _)).mono ?_)
                      rintro e w4 ⟨rfl, hb4⟩
                      have B4 := Lib.hid (HB.out.trans ((((Below.refl wr.heap.size wr).alloc (Nat.le_refl _) _).trans (hb4.mono (by simp))).mono HBS.out))
                      clear hb4
                      cases g with
                      | false =>
                        have HF := Lib.hid (all_no HGE.out HGV.out)
                        go_wp2_with fail
                        go_ret
                        exact ⟨by rw [HU.out, HF.out]; rfl, B4.out⟩
                      | true =>
                        have HQ2 : Hid (∀ (j : Nat) (v : V), j < i + 1 → x.args[j]? = some v → plainV v = true) := Lib.hid (fun j v hj hv => by
                          rcases Nat.lt_or_ge j i with h | h
                          · exact HQ.out j v h hv
                          · obtain rfl : j = i := by omega
                            rw [HGE.out] at hv
                            rw [← Option.some.inj hv]; exact HGV.out)
                        go_wp2_with fail
                        exact ⟨⟨i + 1, by omega, by go_num, HQ2, B4⟩, by simp [intOf]; omega⟩
                    · have HT := Lib.hid (all_yes (l := x.args) (fun j v hv => HQ.out j v (by have := (List.getElem?_eq_some_iff.1 hv).1; omega) hv))
                      go_wp2_with fail
                      go_ret
                      exact ⟨by rw [HU.out, HT.out]; rfl, HB.out⟩
          | false =>
            cases q3 : (x.kind == 3) with
            | true =>
              have p0 : W.cell? ⟨w.heap.size, 0, none⟩ = some (.int .i64 x.kind) := by rw [S0.out.x.cell]; rfl
              have r0 : W.cell? ⟨w.heap.size + 1, 0, none⟩ = some (.int .i64 x.kind) := by rw [S0.out.r.cell]; rfl
              have p1 : W.cell? ⟨w.heap.size, 1, none⟩ = some (.string x.path) := by rw [S0.out.x.cell]; rfl
              have r1 : W.cell? ⟨w.heap.size + 1, 1, none⟩ = some (.string x.path) := by rw [S0.out.r.cell]; rfl
              have p2 : W.cell? ⟨w.heap.size, 2, none⟩ = some (.string x.msg) := by rw [S0.out.x.cell]; rfl
              have r2 : W.cell? ⟨w.heap.size + 1, 2, none⟩ = some (.string x.msg) := by rw [S0.out.r.cell]; rfl
              have p3 : W.cell? ⟨w.heap.size, 3, none⟩ = some (.slice A x.args.length c) := by rw [S0.out.x.cell]; rfl
              have r3 : W.cell? ⟨w.heap.size + 1, 3, none⟩ = some (.slice A x.args.length c) := by rw [S0.out.r.cell]; rfl
              have p4 : W.cell? ⟨w.heap.size, 4, none⟩ = some (.int .i64 x.ord) := by rw [S0.out.x.cell]; rfl
              have r4 : W.cell? ⟨w.heap.size + 1, 4, none⟩ = some (.int .i64 x.ord) := by rw [S0.out.r.cell]; rfl
              have p5 : W.cell? ⟨w.heap.size, 5, none⟩ = some (.int .i64 x.vk) := by rw [S0.out.x.cell]; rfl
              have r5 : W.cell? ⟨w.heap.size + 1, 5, none⟩ = some (.int .i64 x.vk) := by rw [S0.out.r.cell]; rfl
              have p6 : W.cell? ⟨w.heap.size, 6, none⟩ = some (.string x.vt) := by rw [S0.out.x.cell]; rfl
              have r6 : W.cell? ⟨w.heap.size + 1, 6, none⟩ = some (.string x.vt) := by rw [S0.out.r.cell]; rfl
              have p7 : W.cell? ⟨w.heap.size, 7, none⟩ = some (.int .i64 x.vn) := by rw [S0.out.x.cell]; rfl
              have r7 : W.cell? ⟨w.heap.size + 1, 7, none⟩ = some (.int .i64 x.vn) := by rw [S0.out.r.cell]; rfl
              have p8 : W.cell? ⟨w.heap.size, 8, none⟩ = some (.int .i64 x.vm) := by rw [S0.out.x.cell]; rfl
              have r8 : W.cell? ⟨w.heap.size + 1, 8, none⟩ = some (.int .i64 x.vm) := by rw [S0.out.r.cell]; rfl
              have p9 : W.cell? ⟨w.heap.size, 9, none⟩ = some (.string x.vx) := by rw [S0.out.x.cell]; rfl
              have r9 : W.cell? ⟨w.heap.size + 1, 9, none⟩ = some (.string x.vx) := by rw [S0.out.r.cell]; rfl
              have p10 : W.cell? ⟨w.heap.size, 10, none⟩ = some (.slice B x.vl.length d) := by rw [S0.out.x.cell]; rfl
              have r10 : W.cell? ⟨w.heap.size + 1, 10, none⟩ = some (.slice B x.vl.length d) := by rw [S0.out.r.cell]; rfl
              have p11 : W.cell? ⟨w.heap.size, 11, none⟩ = some (.int .i64 x.n) := by rw [S0.out.x.cell]; rfl
              have r11 : W.cell? ⟨w.heap.size + 1, 11, none⟩ = some (.int .i64 x.n) := by rw [S0.out.r.cell]; rfl
              have rf := S0.out.r.fz
              have S1 : Hid (RSt w (W.setCell ⟨w.heap.size + 1, 0, none⟩ (.int .i64 0)) #[.int .i64 x.kind, .string x.path, .string x.msg, .slice A x.args.length c, .int .i64 x.ord, .int .i64 x.vk, .string x.vt, .int .i64 x.vn, .int .i64 x.vm, .string x.vx, .slice B x.vl.length d, .int .i64 x.n] #[.int .i64 0, .string x.path, .string x.msg, .slice A x.args.length c, .int .i64 x.ord, .int .i64 x.vk, .string x.vt, .int .i64 x.vn, .int .i64 x.vm, .string x.vx, .slice B x.vl.length d, .int .i64 x.n]) := Lib.hid (by simpa using (S0.out.store 0 (.int .i64 0)))
              have HG : Hid (guardE x = true) := Lib.hid (by rw [HG0.out, if_neg (by rw [q1]; simp), if_neg (by rw [q4]; simp), if_neg (by rw [q2]; simp), if_neg (by rw [q5, q6]; simp)]; exact q3)
              have HRE : Hid (restE x = ⟨0, x.path, x.msg, x.args, x.ord, x.vk, x.vt, x.vn, x.vm, x.vx, x.vl, x.n⟩) := Lib.hid (by rw [HE0.out, if_neg (by rw [q1]; simp), if_neg (by rw [q4]; simp), if_pos q3])
              go_enter Tryz.func6, Tryz.ntmps6
              obtain ⟨g, hg⟩ : ∃ g, eqE ⟨0, x.path, x.msg, x.args, x.ord, x.vk, x.vt, x.vn, x.vm, x.vx, x.vl, x.n⟩ zE = g := ⟨_, rfl⟩
              have HU : Hid (R = (g && x.args.all plainV)) := Lib.hid (by rw [HU0.out, HG.out, HRE.out, hg]; rfl)
              have HSM : Hid (∀ W, Rd (Lt W.heap.size) W (vs x.args) (.slice A x.args.length c) → Rd (Lt W.heap.size) W (vs x.vl) (.slice B x.vl.length d) → Calls Tryz.prog 8 #[.agg #[.int .i64 0, .string x.path, .string x.msg, .slice A x.args.length c, .int .i64 x.ord, .int .i64 x.vk, .string x.vt, .int .i64 x.vn, .int .i64 x.vm, .string x.vx, .slice B x.vl.length d, .int .i64 x.n], .agg #[.int .i64 0, .string ⟨#[]⟩, .string ⟨#[]⟩, .slice none 0 0, .int .i64 0, .int .i64 0, .string ⟨#[]⟩, .int .i64 0, .int .i64 0, .string ⟨#[]⟩, .slice none 0 0, .int .i64 0]] W fun e w' => e = .returned (.bool g) ∧ Below W.heap.size W w') := Lib.hid (fun W q1 q2 => by rw [← hg]; exact evsame_any ⟨0, x.path, x.msg, x.args, x.ord, x.vk, x.vt, x.vn, x.vm, x.vx, x.vl, x.n⟩ zE A none B none c 0 d 0 W h1 (by simp [zE, bulkV]) h4 (by simp [zE, bulkV]) q1 Rd.sl_nil q2 Rd.sl_nil)
              clear hg
              go_wp2_with fail
              (with_reducible refine (HSM.out _ ?_ ?_).mono ?_)
              · exact RA.out.belows S1.out.bel
              · exact RV.out.belows S1.out.bel
              rintro e w2 ⟨rfl, hb2⟩
              have T2 := Lib.hid (S1.out.below hb2)
              clear hb2 HSM p0 r0 p1 r1 p2 r2 p3 r3 p4 r4 p5 r5 p6 r6 p7 r7 p8 r8 p9 r9 p10 r10 p11 r11 rf
              have p0 : w2.cell? ⟨w.heap.size, 0, none⟩ = some (.int .i64 x.kind) := by rw [T2.out.x.cell]; rfl
              have p1 : w2.cell? ⟨w.heap.size, 1, none⟩ = some (.string x.path) := by rw [T2.out.x.cell]; rfl
              have p2 : w2.cell? ⟨w.heap.size, 2, none⟩ = some (.string x.msg) := by rw [T2.out.x.cell]; rfl
              have p3 : w2.cell? ⟨w.heap.size, 3, none⟩ = some (.slice A x.args.length c) := by rw [T2.out.x.cell]; rfl
              have p4 : w2.cell? ⟨w.heap.size, 4, none⟩ = some (.int .i64 x.ord) := by rw [T2.out.x.cell]; rfl
              have p5 : w2.cell? ⟨w.heap.size, 5, none⟩ = some (.int .i64 x.vk) := by rw [T2.out.x.cell]; rfl
              have p6 : w2.cell? ⟨w.heap.size, 6, none⟩ = some (.string x.vt) := by rw [T2.out.x.cell]; rfl
              have p7 : w2.cell? ⟨w.heap.size, 7, none⟩ = some (.int .i64 x.vn) := by rw [T2.out.x.cell]; rfl
              have p8 : w2.cell? ⟨w.heap.size, 8, none⟩ = some (.int .i64 x.vm) := by rw [T2.out.x.cell]; rfl
              have p9 : w2.cell? ⟨w.heap.size, 9, none⟩ = some (.string x.vx) := by rw [T2.out.x.cell]; rfl
              have p10 : w2.cell? ⟨w.heap.size, 10, none⟩ = some (.slice B x.vl.length d) := by rw [T2.out.x.cell]; rfl
              have p11 : w2.cell? ⟨w.heap.size, 11, none⟩ = some (.int .i64 x.n) := by rw [T2.out.x.cell]; rfl
              cases g with
              | false =>
                go_wp2_with fail
                go_ret
                exact ⟨by rw [HU.out]; rfl, T2.out.bel⟩
              | true =>
                go_wp2_with fail
                clear p0 p1 p2 p3 p4 p5 p6 p7 p8 p9 p10 p11
                go_loopw [90] (fun s90 wr => ∃ i : Nat, i ≤ x.args.length ∧ s90 = .int .i64 i ∧ Hid (∀ (j : Nat) (v : V), j < i → x.args[j]? = some v → plainV v = true) ∧ Hid (Below w.heap.size w wr)) (fun s90 _ => x.args.length - (intOf s90).toNat)
                case atStart => exact ⟨0, by omega, rfl, Lib.hid (fun j v h => absurd h (by omega)), Lib.hid T2.out.bel⟩
                case round =>
                  obtain ⟨i, hi, rfl, HQ, HB⟩ := hrel
                  by_cases hlt : i < x.args.length
                  · obtain ⟨b, off, kd, t', n', m', s', l', A', c', e, hlb, hget, h2⟩ := vs_at (RA.out.belows HB.out) hlt
                    subst e
                    obtain ⟨c0, c1, c2, c3, c4, c5, r5⟩ := h2
                    have hbk := bulkV_get _ _ _ hget
                    have HGE := Lib.hid hget
                    obtain ⟨g, hg⟩ : ∃ g, plainV (.mk kd t' n' m' s' l') = g := ⟨_, rfl⟩
                    have HC : Hid (∀ W, Rd (Lt W.heap.size) W (vs l') (.slice A' l'.length c') → Calls Tryz.prog 19 #[.agg #[.int .i64 kd, .string t', .int .i64 n', .int .i64 m', .string s', .slice A' l'.length c']] W fun e w' => e = .returned (.bool g) ∧ Below W.heap.size W w') := Lib.hid (fun W h => by rw [← hg]; exact plain_any kd t' n' m' s' l' A' c' W (by omega) h)
                    have HGV := Lib.hid hg
                    have R5 := Lib.hid r5
                    have HBS := Lib.hid HB.out.size
                    clear r5 hget hg hbk
                    go_wp2_with fail
                    (with_reducible refine (HC.out _ (R5.out.allocs _)).mono ?_)
                    rintro e w4 ⟨rfl, hb4⟩
                    have B4 := Lib.hid (HB.out.trans ((((Below.refl wr.heap.size wr).alloc (Nat.le_refl _) _).trans (hb4.mono (by simp))).mono HBS.out))
                    clear hb4
                    cases g with
                    | false =>
                      have HF := Lib.hid (all_no HGE.out HGV.out)
                      go_wp2_with fail
                      go_ret
                      exact ⟨by rw [HU.out, HF.out]; rfl, B4.out⟩
                    | true =>
                      have HQ2 : Hid (∀ (j : Nat) (v : V), j < i + 1 → x.args[j]? = some v → plainV v = true) := Lib.hid (fun j v hj hv => by
                        rcases Nat.lt_or_ge j i with h | h
                        · exact HQ.out j v h hv
                        · obtain rfl : j = i := by omega
                          rw [HGE.out] at hv
                          rw [← Option.some.inj hv]; exact HGV.out)
                      go_wp2_with fail
                      exact ⟨⟨i + 1, by omega, by go_num, HQ2, B4⟩, by simp [intOf]; omega⟩
                  · have HT := Lib.hid (all_yes (l := x.args) (fun j v hv => HQ.out j v (by have := (List.getElem?_eq_some_iff.1 hv).1; omega) hv))
                    go_wp2_with fail
                    go_ret
                    exact ⟨by rw [HU.out, HT.out]; rfl, HB.out⟩
            | false =>
              have p0 : W.cell? ⟨w.heap.size, 0, none⟩ = some (.int .i64 x.kind) := by rw [S0.out.x.cell]; rfl
              have r0 : W.cell? ⟨w.heap.size + 1, 0, none⟩ = some (.int .i64 x.kind) := by rw [S0.out.r.cell]; rfl
              have p1 : W.cell? ⟨w.heap.size, 1, none⟩ = some (.string x.path) := by rw [S0.out.x.cell]; rfl
              have r1 : W.cell? ⟨w.heap.size + 1, 1, none⟩ = some (.string x.path) := by rw [S0.out.r.cell]; rfl
              have p2 : W.cell? ⟨w.heap.size, 2, none⟩ = some (.string x.msg) := by rw [S0.out.x.cell]; rfl
              have r2 : W.cell? ⟨w.heap.size + 1, 2, none⟩ = some (.string x.msg) := by rw [S0.out.r.cell]; rfl
              have p3 : W.cell? ⟨w.heap.size, 3, none⟩ = some (.slice A x.args.length c) := by rw [S0.out.x.cell]; rfl
              have r3 : W.cell? ⟨w.heap.size + 1, 3, none⟩ = some (.slice A x.args.length c) := by rw [S0.out.r.cell]; rfl
              have p4 : W.cell? ⟨w.heap.size, 4, none⟩ = some (.int .i64 x.ord) := by rw [S0.out.x.cell]; rfl
              have r4 : W.cell? ⟨w.heap.size + 1, 4, none⟩ = some (.int .i64 x.ord) := by rw [S0.out.r.cell]; rfl
              have p5 : W.cell? ⟨w.heap.size, 5, none⟩ = some (.int .i64 x.vk) := by rw [S0.out.x.cell]; rfl
              have r5 : W.cell? ⟨w.heap.size + 1, 5, none⟩ = some (.int .i64 x.vk) := by rw [S0.out.r.cell]; rfl
              have p6 : W.cell? ⟨w.heap.size, 6, none⟩ = some (.string x.vt) := by rw [S0.out.x.cell]; rfl
              have r6 : W.cell? ⟨w.heap.size + 1, 6, none⟩ = some (.string x.vt) := by rw [S0.out.r.cell]; rfl
              have p7 : W.cell? ⟨w.heap.size, 7, none⟩ = some (.int .i64 x.vn) := by rw [S0.out.x.cell]; rfl
              have r7 : W.cell? ⟨w.heap.size + 1, 7, none⟩ = some (.int .i64 x.vn) := by rw [S0.out.r.cell]; rfl
              have p8 : W.cell? ⟨w.heap.size, 8, none⟩ = some (.int .i64 x.vm) := by rw [S0.out.x.cell]; rfl
              have r8 : W.cell? ⟨w.heap.size + 1, 8, none⟩ = some (.int .i64 x.vm) := by rw [S0.out.r.cell]; rfl
              have p9 : W.cell? ⟨w.heap.size, 9, none⟩ = some (.string x.vx) := by rw [S0.out.x.cell]; rfl
              have r9 : W.cell? ⟨w.heap.size + 1, 9, none⟩ = some (.string x.vx) := by rw [S0.out.r.cell]; rfl
              have p10 : W.cell? ⟨w.heap.size, 10, none⟩ = some (.slice B x.vl.length d) := by rw [S0.out.x.cell]; rfl
              have r10 : W.cell? ⟨w.heap.size + 1, 10, none⟩ = some (.slice B x.vl.length d) := by rw [S0.out.r.cell]; rfl
              have p11 : W.cell? ⟨w.heap.size, 11, none⟩ = some (.int .i64 x.n) := by rw [S0.out.x.cell]; rfl
              have r11 : W.cell? ⟨w.heap.size + 1, 11, none⟩ = some (.int .i64 x.n) := by rw [S0.out.r.cell]; rfl
              have rf := S0.out.r.fz
              have S1 : Hid (RSt w (W.setCell ⟨w.heap.size + 1, 0, none⟩ (.int .i64 0)) #[.int .i64 x.kind, .string x.path, .string x.msg, .slice A x.args.length c, .int .i64 x.ord, .int .i64 x.vk, .string x.vt, .int .i64 x.vn, .int .i64 x.vm, .string x.vx, .slice B x.vl.length d, .int .i64 x.n] #[.int .i64 0, .string x.path, .string x.msg, .slice A x.args.length c, .int .i64 x.ord, .int .i64 x.vk, .string x.vt, .int .i64 x.vn, .int .i64 x.vm, .string x.vx, .slice B x.vl.length d, .int .i64 x.n]) := Lib.hid (by simpa using (S0.out.store 0 (.int .i64 0)))
              go_enter Tryz.func6, Tryz.ntmps6
              have HN : Hid (R = false) := Lib.hid (by rw [HU0.out, HG0.out, if_neg (by rw [q1]; simp), if_neg (by rw [q4]; simp), if_neg (by rw [q2]; simp), if_neg (by rw [q5, q6]; simp), q3]; rfl)
              go_wp2_with fail
              go_ret
              exact ⟨by rw [HN.out]; rfl, S1.out.bel⟩
end Go.Proofs.YtlbmfgiepcemdaaGreat
