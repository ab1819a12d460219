/- ref23.Norm, if ref20.Enabled comes to so many actions. Conditions: those in each statement. -/
import Derived.Test.YtlbmfgiepcemdaaGreatYNorm
namespace Go.Proofs.YtlbmfgiepcemdaaGreat
open Go.RowKit Go.Sort

def Norm23Post (y : Ev) (A C : Option Addr) (c d : Nat) (w : World) (e : Ending) (w' : World) : Prop := e = .returned (.agg #[.int .i64 y.kind, .string y.path, .string y.msg, .slice A y.args.length c, .int .i64 y.ord, .int .i64 y.vk, .string y.vt, .int .i64 y.vn, .int .i64 y.vm, .string y.vx, .slice C y.vl.length d, .int .i64 y.n]) ∧ Below w.heap.size w w'
theorem norm23_end {s : Sys} {w W : World} {y : Ev} {A C : Option Addr} {c d : Nat} (h : NSt s w W #[.int .i64 y.kind, .string y.path, .string y.msg, .slice A y.args.length c, .int .i64 y.ord, .int .i64 y.vk, .string y.vt, .int .i64 y.vn, .int .i64 y.vm, .string y.vx, .slice C y.vl.length d, .int .i64 y.n]) {a : Act} (h2 : a.tmps.getD 4 undef = .pointer (some ⟨w.heap.size + 1 + 1, 0, none⟩)) (hd : a.defers = []) :
    bodyPost Tryz.prog Tryz.f11 (Norm23Post y A C c d w) Exit.ret a ((((((((((((W.setCell ⟨w.heap.size + 1 + 1, 0, none⟩ (.int .i64 y.kind)).setCell ⟨w.heap.size + 1 + 1, 1, none⟩ (.string y.path)).setCell ⟨w.heap.size + 1 + 1, 2, none⟩ (.string y.msg)).setCell ⟨w.heap.size + 1 + 1, 3, none⟩ (.slice A y.args.length c)).setCell ⟨w.heap.size + 1 + 1, 4, none⟩ (.int .i64 y.ord)).setCell ⟨w.heap.size + 1 + 1, 5, none⟩ (.int .i64 y.vk)).setCell ⟨w.heap.size + 1 + 1, 6, none⟩ (.string y.vt)).setCell ⟨w.heap.size + 1 + 1, 7, none⟩ (.int .i64 y.vn)).setCell ⟨w.heap.size + 1 + 1, 8, none⟩ (.int .i64 y.vm)).setCell ⟨w.heap.size + 1 + 1, 9, none⟩ (.string y.vx)).setCell ⟨w.heap.size + 1 + 1, 10, none⟩ (.slice C y.vl.length d)).setCell ⟨w.heap.size + 1 + 1, 11, none⟩ (.int .i64 y.n)) := by
  have hres := results_cell_one Tryz.results11 a.tmps _ (w.heap.size + 1 + 1) _ _ (0, 0) _ h2 (twelve_set (.int .i64 y.kind) (.string y.path) (.string y.msg) (.slice A y.args.length c) (.int .i64 y.ord) (.int .i64 y.vk) (.string y.vt) (.int .i64 y.vn) (.int .i64 y.vm) (.string y.vx) (.slice C y.vl.length d) (.int .i64 y.n) h.r) Tryz.underlying37 rfl sizeE12
  have hc := twelve_one (w := W) (g := w.heap.size + 1 + 1) (.int .i64 y.kind) (.string y.path) (.string y.msg) (.slice A y.args.length c) (.int .i64 y.ord) (.int .i64 y.vk) (.string y.vt) (.int .i64 y.vn) (.int .i64 y.vm) (.string y.vx) (.slice C y.vl.length d) (.int .i64 y.n)
  have hz := hc.size
  refine bodyPost_ret hres hd ⟨rfl, ?_⟩
  exact h.low.trans (hc.below (by have := h.x.lt; omega) (fun j hj => by omega))
set_option maxHeartbeats 4000000 in
set_option maxRecDepth 100000 in
theorem norm23_of (s : Sys) (x : Ev) (A C : Option Addr) (c d n : Nat) (w : World) (hn : n ≤ 4194304)
    (HE : ∀ W, Below w.heap.size w W → Calls Tryz.prog 30 #[.agg #[.slice s.Au s.up.length s.cu, .int .i64 s.sm, .int .i64 s.sc, .int .i64 s.sq, .slice s.Aa s.acts.length s.ca, .slice s.Af s.fl.length s.cf, .slice s.Al s.nl s.cl, .slice s.Ak s.nk s.ck, .int .i64 s.sd]] W (EnPost n W)) :
    Calls Tryz.prog 11 #[.agg #[.slice s.Au s.up.length s.cu, .int .i64 s.sm, .int .i64 s.sc, .int .i64 s.sq, .slice s.Aa s.acts.length s.ca, .slice s.Af s.fl.length s.cf, .slice s.Al s.nl s.cl, .slice s.Ak s.nk s.ck, .int .i64 s.sd], .agg #[.int .i64 x.kind, .string x.path, .string x.msg, .slice A x.args.length c, .int .i64 x.ord, .int .i64 x.vk, .string x.vt, .int .i64 x.vn, .int .i64 x.vm, .string x.vx, .slice C x.vl.length d, .int .i64 x.n]] w (Norm23Post (normE n x) A C c d w) := by
  have HEN := Lib.hid HE
  obtain ⟨W, hW⟩ : ∃ W, ((w.alloc (.cells #[.slice s.Au s.up.length s.cu, .int .i64 s.sm, .int .i64 s.sc, .int .i64 s.sq, .slice s.Aa s.acts.length s.ca, .slice s.Af s.fl.length s.cf, .slice s.Al s.nl s.cl, .slice s.Ak s.nk s.ck, .int .i64 s.sd] 29)).alloc (.cells #[.int .i64 x.kind, .string x.path, .string x.msg, .slice A x.args.length c, .int .i64 x.ord, .int .i64 x.vk, .string x.vt, .int .i64 x.vn, .int .i64 x.vm, .string x.vx, .slice C x.vl.length d, .int .i64 x.n] 37)).alloc (.cells #[.int .i64 0, .string ⟨#[]⟩, .string ⟨#[]⟩, .slice none 0 0, .int .i64 0, .int .i64 0, .string ⟨#[]⟩, .int .i64 0, .int .i64 0, .string ⟨#[]⟩, .slice none 0 0, .int .i64 0] 37) = W := ⟨_, rfl⟩
  have hal : Below w.heap.size w W := by rw [← hW]; exact (((Below.refl _ _).alloc (Nat.le_refl _) _).alloc (by simp) _).alloc (by simp; omega) _
  have hsz : W.heap.size = w.heap.size + 3 := by rw [← hW]; simp
  have hN : NSt s w W #[.int .i64 x.kind, .string x.path, .string x.msg, .slice A x.args.length c, .int .i64 x.ord, .int .i64 x.vk, .string x.vt, .int .i64 x.vn, .int .i64 x.vm, .string x.vx, .slice C x.vl.length d, .int .i64 x.n] := by
    refine ⟨hal, ?_, ?_, ?_⟩
    · rw [← hW]; exact ((CellsAt.new w _ _).keep ((Chg.refl (fun _ => False) _).alloc _) (fun h => h)).keep ((Chg.refl (fun _ => False) _).alloc _) (fun h => h)
    · rw [← hW]
      have := CellsAt.new (w.alloc (.cells #[.slice s.Au s.up.length s.cu, .int .i64 s.sm, .int .i64 s.sc, .int .i64 s.sq, .slice s.Aa s.acts.length s.ca, .slice s.Af s.fl.length s.cf, .slice s.Al s.nl s.cl, .slice s.Ak s.nk s.ck, .int .i64 s.sd] 29)) #[.int .i64 x.kind, .string x.path, .string x.msg, .slice A x.args.length c, .int .i64 x.ord, .int .i64 x.vk, .string x.vt, .int .i64 x.vn, .int .i64 x.vm, .string x.vx, .slice C x.vl.length d, .int .i64 x.n] 37
      rw [World.size_alloc] at this
      exact this.keep ((Chg.refl (fun _ => False) _).alloc _) (fun h => h)
    · rw [← hW]
      have := CellsAt.new ((w.alloc (.cells #[.slice s.Au s.up.length s.cu, .int .i64 s.sm, .int .i64 s.sc, .int .i64 s.sq, .slice s.Aa s.acts.length s.ca, .slice s.Af s.fl.length s.cf, .slice s.Al s.nl s.cl, .slice s.Ak s.nk s.ck, .int .i64 s.sd] 29)).alloc (.cells #[.int .i64 x.kind, .string x.path, .string x.msg, .slice A x.args.length c, .int .i64 x.ord, .int .i64 x.vk, .string x.vt, .int .i64 x.vn, .int .i64 x.vm, .string x.vx, .slice C x.vl.length d, .int .i64 x.n] 37)) #[.int .i64 0, .string ⟨#[]⟩, .string ⟨#[]⟩, .slice none 0 0, .int .i64 0, .int .i64 0, .string ⟨#[]⟩, .int .i64 0, .int .i64 0, .string ⟨#[]⟩, .slice none 0 0, .int .i64 0] 37
      rw [World.size_alloc, World.size_alloc] at this
      exact this
  have HN := Lib.hid hN
  have HAL := Lib.hid hal
  have HSZ := Lib.hid hsz
  clear HE hal hsz hN
  go_enter Tryz.func11, Tryz.ntmps11
  have g0 : W.cell? ⟨w.heap.size + 1, 0, none⟩ = some (.int .i64 x.kind) := by rw [HN.out.e.cell]; rfl
  have g1 : W.cell? ⟨w.heap.size + 1, 1, none⟩ = some (.string x.path) := by rw [HN.out.e.cell]; rfl
  have g2 : W.cell? ⟨w.heap.size + 1, 2, none⟩ = some (.string x.msg) := by rw [HN.out.e.cell]; rfl
  have g3 : W.cell? ⟨w.heap.size + 1, 3, none⟩ = some (.slice A x.args.length c) := by rw [HN.out.e.cell]; rfl
  have g4 : W.cell? ⟨w.heap.size + 1, 4, none⟩ = some (.int .i64 x.ord) := by rw [HN.out.e.cell]; rfl
  have g5 : W.cell? ⟨w.heap.size + 1, 5, none⟩ = some (.int .i64 x.vk) := by rw [HN.out.e.cell]; rfl
  have g6 : W.cell? ⟨w.heap.size + 1, 6, none⟩ = some (.string x.vt) := by rw [HN.out.e.cell]; rfl
  have g7 : W.cell? ⟨w.heap.size + 1, 7, none⟩ = some (.int .i64 x.vn) := by rw [HN.out.e.cell]; rfl
  have g8 : W.cell? ⟨w.heap.size + 1, 8, none⟩ = some (.int .i64 x.vm) := by rw [HN.out.e.cell]; rfl
  have g9 : W.cell? ⟨w.heap.size + 1, 9, none⟩ = some (.string x.vx) := by rw [HN.out.e.cell]; rfl
  have g10 : W.cell? ⟨w.heap.size + 1, 10, none⟩ = some (.slice C x.vl.length d) := by rw [HN.out.e.cell]; rfl
  have g11 : W.cell? ⟨w.heap.size + 1, 11, none⟩ = some (.int .i64 x.n) := by rw [HN.out.e.cell]; rfl
  by_cases hk : x.kind = 2
  · have hkb : (x.kind != 2) = false := by simp [hk]
    have hkc : (x.kind == 2) = true := by simp [hk]
    have HY : Hid (normE n x = ⟨x.kind, x.path, x.msg, x.args, x.ord, x.vk, x.vt, x.vn, x.vm, x.vx, x.vl, normN n x.n⟩) := Lib.hid (by unfold normE; rw [if_pos hk])
    have HE4 := Lib.hid (HEN.out W HN.out.low)
    have HK := Lib.hid hk
    have s0 : W.cell? ⟨w.heap.size, 0, none⟩ = some (.slice s.Au s.up.length s.cu) := by rw [HN.out.x.cell]; rfl
    have s1 : W.cell? ⟨w.heap.size, 1, none⟩ = some (.int .i64 s.sm) := by rw [HN.out.x.cell]; rfl
    have s2 : W.cell? ⟨w.heap.size, 2, none⟩ = some (.int .i64 s.sc) := by rw [HN.out.x.cell]; rfl
    have s3 : W.cell? ⟨w.heap.size, 3, none⟩ = some (.int .i64 s.sq) := by rw [HN.out.x.cell]; rfl
    have s4 : W.cell? ⟨w.heap.size, 4, none⟩ = some (.slice s.Aa s.acts.length s.ca) := by rw [HN.out.x.cell]; rfl
    have s5 : W.cell? ⟨w.heap.size, 5, none⟩ = some (.slice s.Af s.fl.length s.cf) := by rw [HN.out.x.cell]; rfl
    have s6 : W.cell? ⟨w.heap.size, 6, none⟩ = some (.slice s.Al s.nl s.cl) := by rw [HN.out.x.cell]; rfl
    have s7 : W.cell? ⟨w.heap.size, 7, none⟩ = some (.slice s.Ak s.nk s.ck) := by rw [HN.out.x.cell]; rfl
    have s8 : W.cell? ⟨w.heap.size, 8, none⟩ = some (.int .i64 s.sd) := by rw [HN.out.x.cell]; rfl
    clear hk
    go_wp2_with fail
    (with_reducible refine HE4.out.mono ?_)
    rintro e w5 ⟨A5, c5, rfl, hb5⟩
    have N5 := Lib.hid (HN.out.below hb5)
    have a11 : w5.cell? ⟨w.heap.size + 1, 11, none⟩ = some (.int .i64 x.n) := by rw [N5.out.e.cell]; rfl
    have af := N5.out.e.fz
    clear hb5 g0 g1 g2 g3 g4 g5 g6 g7 g8 g9 g10 g11 s0 s1 s2 s3 s4 s5 s6 s7 s8 HE4
    by_cases h0 : n = 0
    · have h0b : ((n : Int) == 0) = true := by simp [h0]
      have HY2 : Hid (normN n x.n = 0) := Lib.hid (by unfold normN; rw [if_pos h0])
      obtain ⟨W6, hW6⟩ : ∃ W6, w5.setCell ⟨w.heap.size + 1, 11, none⟩ (.int .i64 (0)) = W6 := ⟨_, rfl⟩
      have N6 : Hid (NSt s w W6 #[.int .i64 x.kind, .string x.path, .string x.msg, .slice A x.args.length c, .int .i64 x.ord, .int .i64 x.vk, .string x.vt, .int .i64 x.vn, .int .i64 x.vm, .string x.vx, .slice C x.vl.length d, .int .i64 (0)]) := Lib.hid (by
        have := N5.out.store 11 (.int .i64 (0))
        rw [hW6] at this
        simpa using this)
      have t0 : W6.cell? ⟨w.heap.size + 1, 0, none⟩ = some (.int .i64 x.kind) := by rw [N6.out.e.cell]; rfl
      have t1 : W6.cell? ⟨w.heap.size + 1, 1, none⟩ = some (.string x.path) := by rw [N6.out.e.cell]; rfl
      have t2 : W6.cell? ⟨w.heap.size + 1, 2, none⟩ = some (.string x.msg) := by rw [N6.out.e.cell]; rfl
      have t3 : W6.cell? ⟨w.heap.size + 1, 3, none⟩ = some (.slice A x.args.length c) := by rw [N6.out.e.cell]; rfl
      have t4 : W6.cell? ⟨w.heap.size + 1, 4, none⟩ = some (.int .i64 x.ord) := by rw [N6.out.e.cell]; rfl
      have t5 : W6.cell? ⟨w.heap.size + 1, 5, none⟩ = some (.int .i64 x.vk) := by rw [N6.out.e.cell]; rfl
      have t6 : W6.cell? ⟨w.heap.size + 1, 6, none⟩ = some (.string x.vt) := by rw [N6.out.e.cell]; rfl
      have t7 : W6.cell? ⟨w.heap.size + 1, 7, none⟩ = some (.int .i64 x.vn) := by rw [N6.out.e.cell]; rfl
      have t8 : W6.cell? ⟨w.heap.size + 1, 8, none⟩ = some (.int .i64 x.vm) := by rw [N6.out.e.cell]; rfl
      have t9 : W6.cell? ⟨w.heap.size + 1, 9, none⟩ = some (.string x.vx) := by rw [N6.out.e.cell]; rfl
      have t10 : W6.cell? ⟨w.heap.size + 1, 10, none⟩ = some (.slice C x.vl.length d) := by rw [N6.out.e.cell]; rfl
      have t11 : W6.cell? ⟨w.heap.size + 1, 11, none⟩ = some (.int .i64 (0)) := by rw [N6.out.e.cell]; rfl
      have z0 : W6.cell? ⟨w.heap.size + 1 + 1, 0, none⟩ = some (.int .i64 0) := by rw [N6.out.r.cell]; rfl
      have z1 : W6.cell? ⟨w.heap.size + 1 + 1, 1, none⟩ = some (.string ⟨#[]⟩) := by rw [N6.out.r.cell]; rfl
      have z2 : W6.cell? ⟨w.heap.size + 1 + 1, 2, none⟩ = some (.string ⟨#[]⟩) := by rw [N6.out.r.cell]; rfl
      have z3 : W6.cell? ⟨w.heap.size + 1 + 1, 3, none⟩ = some (.slice none 0 0) := by rw [N6.out.r.cell]; rfl
      have z4 : W6.cell? ⟨w.heap.size + 1 + 1, 4, none⟩ = some (.int .i64 0) := by rw [N6.out.r.cell]; rfl
      have z5 : W6.cell? ⟨w.heap.size + 1 + 1, 5, none⟩ = some (.int .i64 0) := by rw [N6.out.r.cell]; rfl
      have z6 : W6.cell? ⟨w.heap.size + 1 + 1, 6, none⟩ = some (.string ⟨#[]⟩) := by rw [N6.out.r.cell]; rfl
      have z7 : W6.cell? ⟨w.heap.size + 1 + 1, 7, none⟩ = some (.int .i64 0) := by rw [N6.out.r.cell]; rfl
      have z8 : W6.cell? ⟨w.heap.size + 1 + 1, 8, none⟩ = some (.int .i64 0) := by rw [N6.out.r.cell]; rfl
      have z9 : W6.cell? ⟨w.heap.size + 1 + 1, 9, none⟩ = some (.string ⟨#[]⟩) := by rw [N6.out.r.cell]; rfl
      have z10 : W6.cell? ⟨w.heap.size + 1 + 1, 10, none⟩ = some (.slice none 0 0) := by rw [N6.out.r.cell]; rfl
      have z11 : W6.cell? ⟨w.heap.size + 1 + 1, 11, none⟩ = some (.int .i64 0) := by rw [N6.out.r.cell]; rfl
      have zf := N6.out.r.fz
      clear h0
      go_wp2_with fail
      rw [HY.out, HY2.out]
      exact norm23_end (y := ⟨x.kind, x.path, x.msg, x.args, x.ord, x.vk, x.vt, x.vn, x.vm, x.vx, x.vl, 0⟩) N6.out rfl rfl
    · have h0b : ((n : Int) == 0) = false := by rw [beq_eq_false_iff_ne]; omega
      have hn0 : (0 : Int) < n := by omega
      obtain ⟨m, hm⟩ : ∃ m, x.n.tmod n = m := ⟨_, rfl⟩
      have hm1 : m < n := by rw [← hm]; exact Int.tmod_lt_of_pos _ hn0
      have hm2 : -(n : Int) < m := by rw [← hm]; have := Int.lt_tmod_of_pos x.n hn0; omega
      by_cases hm0 : m < 0
      · have HY2 : Hid (normN n x.n = m + n) := Lib.hid (by unfold normN; rw [if_neg h0, hm, if_pos hm0])
        obtain ⟨W6, hW6⟩ : ∃ W6, w5.setCell ⟨w.heap.size + 1, 11, none⟩ (.int .i64 (m)) = W6 := ⟨_, rfl⟩
        have N6 : Hid (NSt s w W6 #[.int .i64 x.kind, .string x.path, .string x.msg, .slice A x.args.length c, .int .i64 x.ord, .int .i64 x.vk, .string x.vt, .int .i64 x.vn, .int .i64 x.vm, .string x.vx, .slice C x.vl.length d, .int .i64 (m)]) := Lib.hid (by
          have := N5.out.store 11 (.int .i64 (m))
          rw [hW6] at this
          simpa using this)
        have b11 : W6.cell? ⟨w.heap.size + 1, 11, none⟩ = some (.int .i64 m) := by rw [N6.out.e.cell]; rfl
        have bf := N6.out.e.fz
        obtain ⟨W7, hW7⟩ : ∃ W7, W6.setCell ⟨w.heap.size + 1, 11, none⟩ (.int .i64 (m + n)) = W7 := ⟨_, rfl⟩
        have N7 : Hid (NSt s w W7 #[.int .i64 x.kind, .string x.path, .string x.msg, .slice A x.args.length c, .int .i64 x.ord, .int .i64 x.vk, .string x.vt, .int .i64 x.vn, .int .i64 x.vm, .string x.vx, .slice C x.vl.length d, .int .i64 (m + n)]) := Lib.hid (by
          have := N6.out.store 11 (.int .i64 (m + n))
          rw [hW7] at this
          simpa using this)
        have t0 : W7.cell? ⟨w.heap.size + 1, 0, none⟩ = some (.int .i64 x.kind) := by rw [N7.out.e.cell]; rfl
        have t1 : W7.cell? ⟨w.heap.size + 1, 1, none⟩ = some (.string x.path) := by rw [N7.out.e.cell]; rfl
        have t2 : W7.cell? ⟨w.heap.size + 1, 2, none⟩ = some (.string x.msg) := by rw [N7.out.e.cell]; rfl
        have t3 : W7.cell? ⟨w.heap.size + 1, 3, none⟩ = some (.slice A x.args.length c) := by rw [N7.out.e.cell]; rfl
        have t4 : W7.cell? ⟨w.heap.size + 1, 4, none⟩ = some (.int .i64 x.ord) := by rw [N7.out.e.cell]; rfl
        have t5 : W7.cell? ⟨w.heap.size + 1, 5, none⟩ = some (.int .i64 x.vk) := by rw [N7.out.e.cell]; rfl
        have t6 : W7.cell? ⟨w.heap.size + 1, 6, none⟩ = some (.string x.vt) := by rw [N7.out.e.cell]; rfl
        have t7 : W7.cell? ⟨w.heap.size + 1, 7, none⟩ = some (.int .i64 x.vn) := by rw [N7.out.e.cell]; rfl
        have t8 : W7.cell? ⟨w.heap.size + 1, 8, none⟩ = some (.int .i64 x.vm) := by rw [N7.out.e.cell]; rfl
        have t9 : W7.cell? ⟨w.heap.size + 1, 9, none⟩ = some (.string x.vx) := by rw [N7.out.e.cell]; rfl
        have t10 : W7.cell? ⟨w.heap.size + 1, 10, none⟩ = some (.slice C x.vl.length d) := by rw [N7.out.e.cell]; rfl
        have t11 : W7.cell? ⟨w.heap.size + 1, 11, none⟩ = some (.int .i64 (m + n)) := by rw [N7.out.e.cell]; rfl
        have z0 : W7.cell? ⟨w.heap.size + 1 + 1, 0, none⟩ = some (.int .i64 0) := by rw [N7.out.r.cell]; rfl
        have z1 : W7.cell? ⟨w.heap.size + 1 + 1, 1, none⟩ = some (.string ⟨#[]⟩) := by rw [N7.out.r.cell]; rfl
        have z2 : W7.cell? ⟨w.heap.size + 1 + 1, 2, none⟩ = some (.string ⟨#[]⟩) := by rw [N7.out.r.cell]; rfl
        have z3 : W7.cell? ⟨w.heap.size + 1 + 1, 3, none⟩ = some (.slice none 0 0) := by rw [N7.out.r.cell]; rfl
        have z4 : W7.cell? ⟨w.heap.size + 1 + 1, 4, none⟩ = some (.int .i64 0) := by rw [N7.out.r.cell]; rfl
        have z5 : W7.cell? ⟨w.heap.size + 1 + 1, 5, none⟩ = some (.int .i64 0) := by rw [N7.out.r.cell]; rfl
        have z6 : W7.cell? ⟨w.heap.size + 1 + 1, 6, none⟩ = some (.string ⟨#[]⟩) := by rw [N7.out.r.cell]; rfl
        have z7 : W7.cell? ⟨w.heap.size + 1 + 1, 7, none⟩ = some (.int .i64 0) := by rw [N7.out.r.cell]; rfl
        have z8 : W7.cell? ⟨w.heap.size + 1 + 1, 8, none⟩ = some (.int .i64 0) := by rw [N7.out.r.cell]; rfl
        have z9 : W7.cell? ⟨w.heap.size + 1 + 1, 9, none⟩ = some (.string ⟨#[]⟩) := by rw [N7.out.r.cell]; rfl
        have z10 : W7.cell? ⟨w.heap.size + 1 + 1, 10, none⟩ = some (.slice none 0 0) := by rw [N7.out.r.cell]; rfl
        have z11 : W7.cell? ⟨w.heap.size + 1 + 1, 11, none⟩ = some (.int .i64 0) := by rw [N7.out.r.cell]; rfl
        have zf := N7.out.r.fz
        go_wp2_with fail
        rw [HY.out, HY2.out]
        exact norm23_end (y := ⟨x.kind, x.path, x.msg, x.args, x.ord, x.vk, x.vt, x.vn, x.vm, x.vx, x.vl, m + n⟩) N7.out rfl rfl
      · have HY2 : Hid (normN n x.n = m) := Lib.hid (by unfold normN; rw [if_neg h0, hm, if_neg hm0])
        obtain ⟨W6, hW6⟩ : ∃ W6, w5.setCell ⟨w.heap.size + 1, 11, none⟩ (.int .i64 (m)) = W6 := ⟨_, rfl⟩
        have N6 : Hid (NSt s w W6 #[.int .i64 x.kind, .string x.path, .string x.msg, .slice A x.args.length c, .int .i64 x.ord, .int .i64 x.vk, .string x.vt, .int .i64 x.vn, .int .i64 x.vm, .string x.vx, .slice C x.vl.length d, .int .i64 (m)]) := Lib.hid (by
          have := N5.out.store 11 (.int .i64 (m))
          rw [hW6] at this
          simpa using this)
        have t0 : W6.cell? ⟨w.heap.size + 1, 0, none⟩ = some (.int .i64 x.kind) := by rw [N6.out.e.cell]; rfl
        have t1 : W6.cell? ⟨w.heap.size + 1, 1, none⟩ = some (.string x.path) := by rw [N6.out.e.cell]; rfl
        have t2 : W6.cell? ⟨w.heap.size + 1, 2, none⟩ = some (.string x.msg) := by rw [N6.out.e.cell]; rfl
        have t3 : W6.cell? ⟨w.heap.size + 1, 3, none⟩ = some (.slice A x.args.length c) := by rw [N6.out.e.cell]; rfl
        have t4 : W6.cell? ⟨w.heap.size + 1, 4, none⟩ = some (.int .i64 x.ord) := by rw [N6.out.e.cell]; rfl
        have t5 : W6.cell? ⟨w.heap.size + 1, 5, none⟩ = some (.int .i64 x.vk) := by rw [N6.out.e.cell]; rfl
        have t6 : W6.cell? ⟨w.heap.size + 1, 6, none⟩ = some (.string x.vt) := by rw [N6.out.e.cell]; rfl
        have t7 : W6.cell? ⟨w.heap.size + 1, 7, none⟩ = some (.int .i64 x.vn) := by rw [N6.out.e.cell]; rfl
        have t8 : W6.cell? ⟨w.heap.size + 1, 8, none⟩ = some (.int .i64 x.vm) := by rw [N6.out.e.cell]; rfl
        have t9 : W6.cell? ⟨w.heap.size + 1, 9, none⟩ = some (.string x.vx) := by rw [N6.out.e.cell]; rfl
        have t10 : W6.cell? ⟨w.heap.size + 1, 10, none⟩ = some (.slice C x.vl.length d) := by rw [N6.out.e.cell]; rfl
        have t11 : W6.cell? ⟨w.heap.size + 1, 11, none⟩ = some (.int .i64 (m)) := by rw [N6.out.e.cell]; rfl
        have z0 : W6.cell? ⟨w.heap.size + 1 + 1, 0, none⟩ = some (.int .i64 0) := by rw [N6.out.r.cell]; rfl
        have z1 : W6.cell? ⟨w.heap.size + 1 + 1, 1, none⟩ = some (.string ⟨#[]⟩) := by rw [N6.out.r.cell]; rfl
        have z2 : W6.cell? ⟨w.heap.size + 1 + 1, 2, none⟩ = some (.string ⟨#[]⟩) := by rw [N6.out.r.cell]; rfl
        have z3 : W6.cell? ⟨w.heap.size + 1 + 1, 3, none⟩ = some (.slice none 0 0) := by rw [N6.out.r.cell]; rfl
        have z4 : W6.cell? ⟨w.heap.size + 1 + 1, 4, none⟩ = some (.int .i64 0) := by rw [N6.out.r.cell]; rfl
        have z5 : W6.cell? ⟨w.heap.size + 1 + 1, 5, none⟩ = some (.int .i64 0) := by rw [N6.out.r.cell]; rfl
        have z6 : W6.cell? ⟨w.heap.size + 1 + 1, 6, none⟩ = some (.string ⟨#[]⟩) := by rw [N6.out.r.cell]; rfl
        have z7 : W6.cell? ⟨w.heap.size + 1 + 1, 7, none⟩ = some (.int .i64 0) := by rw [N6.out.r.cell]; rfl
        have z8 : W6.cell? ⟨w.heap.size + 1 + 1, 8, none⟩ = some (.int .i64 0) := by rw [N6.out.r.cell]; rfl
        have z9 : W6.cell? ⟨w.heap.size + 1 + 1, 9, none⟩ = some (.string ⟨#[]⟩) := by rw [N6.out.r.cell]; rfl
        have z10 : W6.cell? ⟨w.heap.size + 1 + 1, 10, none⟩ = some (.slice none 0 0) := by rw [N6.out.r.cell]; rfl
        have z11 : W6.cell? ⟨w.heap.size + 1 + 1, 11, none⟩ = some (.int .i64 0) := by rw [N6.out.r.cell]; rfl
        have zf := N6.out.r.fz
        go_wp2_with fail
        rw [HY.out, HY2.out]
        exact norm23_end (y := ⟨x.kind, x.path, x.msg, x.args, x.ord, x.vk, x.vt, x.vn, x.vm, x.vx, x.vl, m⟩) N6.out rfl rfl
  · have hkb : (x.kind != 2) = true := by simp [hk]
    have hkc : (x.kind == 2) = false := by simp [hk]
    have HY : Hid (normE n x = x) := Lib.hid (by unfold normE; rw [if_neg hk])
    have z0 : W.cell? ⟨w.heap.size + 1 + 1, 0, none⟩ = some (.int .i64 0) := by rw [HN.out.r.cell]; rfl
    have z1 : W.cell? ⟨w.heap.size + 1 + 1, 1, none⟩ = some (.string ⟨#[]⟩) := by rw [HN.out.r.cell]; rfl
    have z2 : W.cell? ⟨w.heap.size + 1 + 1, 2, none⟩ = some (.string ⟨#[]⟩) := by rw [HN.out.r.cell]; rfl
    have z3 : W.cell? ⟨w.heap.size + 1 + 1, 3, none⟩ = some (.slice none 0 0) := by rw [HN.out.r.cell]; rfl
    have z4 : W.cell? ⟨w.heap.size + 1 + 1, 4, none⟩ = some (.int .i64 0) := by rw [HN.out.r.cell]; rfl
    have z5 : W.cell? ⟨w.heap.size + 1 + 1, 5, none⟩ = some (.int .i64 0) := by rw [HN.out.r.cell]; rfl
    have z6 : W.cell? ⟨w.heap.size + 1 + 1, 6, none⟩ = some (.string ⟨#[]⟩) := by rw [HN.out.r.cell]; rfl
    have z7 : W.cell? ⟨w.heap.size + 1 + 1, 7, none⟩ = some (.int .i64 0) := by rw [HN.out.r.cell]; rfl
    have z8 : W.cell? ⟨w.heap.size + 1 + 1, 8, none⟩ = some (.int .i64 0) := by rw [HN.out.r.cell]; rfl
    have z9 : W.cell? ⟨w.heap.size + 1 + 1, 9, none⟩ = some (.string ⟨#[]⟩) := by rw [HN.out.r.cell]; rfl
    have z10 : W.cell? ⟨w.heap.size + 1 + 1, 10, none⟩ = some (.slice none 0 0) := by rw [HN.out.r.cell]; rfl
    have z11 : W.cell? ⟨w.heap.size + 1 + 1, 11, none⟩ = some (.int .i64 0) := by rw [HN.out.r.cell]; rfl
    have zf := HN.out.r.fz
    clear hk
    go_wp2_with fail
    rw [HY.out]
    exact norm23_end HN.out rfl rfl
end Go.Proofs.YtlbmfgiepcemdaaGreat
