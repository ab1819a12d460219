/- event.Norm, if sched.Enabled comes to a list of actions. Conditions: those in each statement. -/
import Derived.Test.YtlbmfgiepcemdaaGreatYEnabledCopies
import Derived.Test.YtlbmfgiepcemdaaGreatYEvGroup
namespace Go.Proofs.YtlbmfgiepcemdaaGreat
open Go.RowKit Go.Sort

def normN (n : Nat) (k : Int) : Int := if n = 0 then 0 else if k.tmod n < 0 then k.tmod n + n else k.tmod n
def normE (n : Nat) (x : Ev) : Ev := if x.kind = 2 then ⟨x.kind, x.path, x.msg, x.args, x.ord, x.vk, x.vt, x.vn, x.vm, x.vx, x.vl, normN n x.n⟩ else x
def NormPost (y : Ev) (w : World) (e : Ending) (w' : World) : Prop :=
  ∃ (A C : Option Addr) (c d : Nat), e = .returned (.agg #[.int .i64 y.kind, .string y.path, .string y.msg, .slice A y.args.length c, .int .i64 y.ord, .int .i64 y.vk, .string y.vt, .int .i64 y.vn, .int .i64 y.vm, .string y.vx, .slice C y.vl.length d, .int .i64 y.n]) ∧ Rd (Bt w.heap.size w'.heap.size) w' (vs y.args) (.slice A y.args.length c) ∧ Rd (Bt w.heap.size w'.heap.size) w' (vs y.vl) (.slice C y.vl.length d) ∧ Below w.heap.size w w'
def EnPost (n : Nat) (w : World) (e : Ending) (w' : World) : Prop := ∃ A c, e = .returned (.slice A n c) ∧ Below w.heap.size w w'
theorem results_cell_one {P : Program} {fn : Func} {p : Tmp} {ty : TypeId} (h : fn.results = #[.cell p ty]) (tmps : Array Value) (w : World) (g : Nat) (t : TypeId) (cs : Array Value) (fr : Nat × Nat) (d : TypeDesc)
    (hp : tmps.getD p undef = .pointer (some ⟨g, 0, none⟩)) (hg : w.heap[g]? = some (.cells cs t fr))
    (hu : P.underlying ty = some d) (hd : (match d with | .struct _ | .array _ _ => true | _ => false) = true) (hi : (P.info? ty).map (·.size) = some cs.size) :
    (results fn tmps).run P w = .ok (.agg cs) w := by
  have hp' : tmps[p]?.getD undef = .pointer (some ⟨g, 0, none⟩) := by simpa using hp
  simp [results, h, hp', asAddr, run_loadVar_row w g t ty cs fr d hg hu hd hi]
/-- the box of the system, of the event, of the result -/
structure NSt (s : Sys) (w W : World) (ec : Array Value) : Prop where
  low : Below w.heap.size w W
  x : CellsAt W w.heap.size #[.slice s.Au s.up.length s.cu, .int .i64 s.sm, .int .i64 s.sc, .int .i64 s.sq, .slice s.Aa s.acts.length s.ca, .slice s.Af s.fl.length s.cf, .slice s.Al s.nl s.cl, .slice s.Ak s.nk s.ck, .int .i64 s.sd] 29
  e : CellsAt W (w.heap.size + 1) ec 37
  r : CellsAt W (w.heap.size + 1 + 1) #[.int .i64 0, .string ⟨#[]⟩, .string ⟨#[]⟩, .slice none 0 0, .int .i64 0, .int .i64 0, .string ⟨#[]⟩, .int .i64 0, .int .i64 0, .string ⟨#[]⟩, .slice none 0 0, .int .i64 0] 37
theorem NSt.below {s : Sys} {w W W' : World} {ec : Array Value} (h : NSt s w W ec) (hb : Below W.heap.size W W') : NSt s w W' ec :=
  ⟨h.low.trans (hb.mono (by have := h.x.lt; omega)), h.x.keep (Chg.of_below (M := fun _ => False) hb) (fun h => h), h.e.keep (Chg.of_below (M := fun _ => False) hb) (fun h => h), h.r.keep (Chg.of_below (M := fun _ => False) hb) (fun h => h)⟩
theorem NSt.store {s : Sys} {w W : World} {ec : Array Value} (h : NSt s w W ec) (j : Nat) (u : Value) : NSt s w (W.setCell ⟨w.heap.size + 1, j, none⟩ u) (ec.setIfInBounds j u) := by
  have hc : Chg (fun k => k = w.heap.size + 1) W (W.setCell ⟨w.heap.size + 1, j, none⟩ u) := (Chg.refl (fun k => k = w.heap.size + 1) W).setCell (p := ⟨w.heap.size + 1, j, none⟩) (.inl rfl) u
  exact ⟨h.low.setCell (p := ⟨w.heap.size + 1, j, none⟩) (by show w.heap.size ≤ w.heap.size + 1; omega) u, h.x.keep hc (by omega), h.e.set j u, h.r.keep hc (by omega)⟩
theorem norm_end {s : Sys} {w W : World} {y : Ev} {A C : Option Addr} {c d : Nat} (h : NSt s w W #[.int .i64 y.kind, .string y.path, .string y.msg, .slice A y.args.length c, .int .i64 y.ord, .int .i64 y.vk, .string y.vt, .int .i64 y.vn, .int .i64 y.vm, .string y.vx, .slice C y.vl.length d, .int .i64 y.n]) (ra : Rd (Bt (w.heap.size + 3) W.heap.size) W (vs y.args) (.slice A y.args.length c)) (rv : Rd (Bt (w.heap.size + 3) W.heap.size) W (vs y.vl) (.slice C y.vl.length d)) {a : Act} (h2 : a.tmps.getD 4 undef = .pointer (some ⟨w.heap.size + 1 + 1, 0, none⟩)) (hd : a.defers = []) :
    bodyPost Tryz.prog Tryz.f10 (NormPost y w) Exit.ret a ((((((((((((W.setCell ⟨w.heap.size + 1 + 1, 0, none⟩ (.int .i64 y.kind)).setCell ⟨w.heap.size + 1 + 1, 1, none⟩ (.string y.path)).setCell ⟨w.heap.size + 1 + 1, 2, none⟩ (.string y.msg)).setCell ⟨w.heap.size + 1 + 1, 3, none⟩ (.slice A y.args.length c)).setCell ⟨w.heap.size + 1 + 1, 4, none⟩ (.int .i64 y.ord)).setCell ⟨w.heap.size + 1 + 1, 5, none⟩ (.int .i64 y.vk)).setCell ⟨w.heap.size + 1 + 1, 6, none⟩ (.string y.vt)).setCell ⟨w.heap.size + 1 + 1, 7, none⟩ (.int .i64 y.vn)).setCell ⟨w.heap.size + 1 + 1, 8, none⟩ (.int .i64 y.vm)).setCell ⟨w.heap.size + 1 + 1, 9, none⟩ (.string y.vx)).setCell ⟨w.heap.size + 1 + 1, 10, none⟩ (.slice C y.vl.length d)).setCell ⟨w.heap.size + 1 + 1, 11, none⟩ (.int .i64 y.n)) := by
  have hres := results_cell_one Tryz.results10 a.tmps _ (w.heap.size + 1 + 1) _ _ (0, 0) _ h2 (twelve_set (.int .i64 y.kind) (.string y.path) (.string y.msg) (.slice A y.args.length c) (.int .i64 y.ord) (.int .i64 y.vk) (.string y.vt) (.int .i64 y.vn) (.int .i64 y.vm) (.string y.vx) (.slice C y.vl.length d) (.int .i64 y.n) h.r) Tryz.underlying37 rfl sizeE12
  have hc := twelve_one (w := W) (g := w.heap.size + 1 + 1) (.int .i64 y.kind) (.string y.path) (.string y.msg) (.slice A y.args.length c) (.int .i64 y.ord) (.int .i64 y.vk) (.string y.vt) (.int .i64 y.vn) (.int .i64 y.vm) (.string y.vx) (.slice C y.vl.length d) (.int .i64 y.n)
  have hz := hc.size
  refine bodyPost_ret hres hd ⟨A, C, c, d, rfl, (hc.rd (fun b hb => ⟨hb.2, by have := hb.1; omega⟩) ra).weaken (fun b hb => ⟨by have := hb.1; omega, by have := hb.2; omega⟩), (hc.rd (fun b hb => ⟨hb.2, by have := hb.1; omega⟩) rv).weaken (fun b hb => ⟨by have := hb.1; omega, by have := hb.2; omega⟩), ?_⟩
  exact h.low.trans (hc.below (by have := h.x.lt; omega) (fun j hj => by omega))
set_option maxHeartbeats 4000000 in
set_option maxRecDepth 100000 in
theorem norm_of (s : Sys) (x : Ev) (A C : Option Addr) (c d n : Nat) (w : World) (hs : SysAt (Lt w.heap.size) w s) (ha : bulkV x.args ≤ 2097152) (hv : bulkV x.vl ≤ 2097152) (hn : n ≤ 2097152)
    (ra : Rd (Lt w.heap.size) w (vs x.args) (.slice A x.args.length c)) (rv : Rd (Lt w.heap.size) w (vs x.vl) (.slice C x.vl.length d))
    (HE : ∀ W, SysAt (Lt W.heap.size) W s → Calls Tryz.prog 29 #[.agg #[.slice s.Au s.up.length s.cu, .int .i64 s.sm, .int .i64 s.sc, .int .i64 s.sq, .slice s.Aa s.acts.length s.ca, .slice s.Af s.fl.length s.cf, .slice s.Al s.nl s.cl, .slice s.Ak s.nk s.ck, .int .i64 s.sd]] W (EnPost n W)) :
    Calls Tryz.prog 10 #[.agg #[.slice s.Au s.up.length s.cu, .int .i64 s.sm, .int .i64 s.sc, .int .i64 s.sq, .slice s.Aa s.acts.length s.ca, .slice s.Af s.fl.length s.cf, .slice s.Al s.nl s.cl, .slice s.Ak s.nk s.ck, .int .i64 s.sd], .agg #[.int .i64 x.kind, .string x.path, .string x.msg, .slice A x.args.length c, .int .i64 x.ord, .int .i64 x.vk, .string x.vt, .int .i64 x.vn, .int .i64 x.vm, .string x.vx, .slice C x.vl.length d, .int .i64 x.n]] w (NormPost (normE n x) w) := by
  have HS := Lib.hid hs
  have HEN := Lib.hid HE
  have RA := Lib.hid ra
  have RV := Lib.hid rv
  obtain ⟨W, hW⟩ : ∃ W, ((w.alloc (.cells #[.slice s.Au s.up.length s.cu, .int .i64 s.sm, .int .i64 s.sc, .int .i64 s.sq, .slice s.Aa s.acts.length s.ca, .slice s.Af s.fl.length s.cf, .slice s.Al s.nl s.cl, .slice s.Ak s.nk s.ck, .int .i64 s.sd] 29)).alloc (.cells #[.int .i64 x.kind, .string x.path, .string x.msg, .slice A x.args.length c, .int .i64 x.ord, .int .i64 x.vk, .string x.vt, .int .i64 x.vn, .int .i64 x.vm, .string x.vx, .slice C x.vl.length d, .int .i64 x.n] 37)).alloc (.cells #[.int .i64 0, .string ⟨#[]⟩, .string ⟨#[]⟩, .slice none 0 0, .int .i64 0, .int .i64 0, .string ⟨#[]⟩, .int .i64 0, .int .i64 0, .string ⟨#[]⟩, .slice none 0 0, .int .i64 0] 37) = W := ⟨_, rfl⟩
  have hal : Below w.heap.size w W := by rw [← hW]; exact (((Below.refl _ _).alloc (Nat.le_refl _) _).alloc (by simp) _).alloc (by simp; omega) _
  have hsz : W.heap.size = w.heap.size + 3 := by rw [← hW]; simp
  have hN : NSt s w W #[.int .i64 x.kind, .string x.path, .string x.msg, .slice A x.args.length c, .int .i64 x.ord, .int .i64 x.vk, .string x.vt, .int .i64 x.vn, .int .i64 x.vm, .string x.vx, .slice C x.vl.length d, .int .i64 x.n] := by
    refine ⟨hal, ?_, ?_, ?_⟩
    · rw [← hW]; exact ((CellsAt.new w _ _).keep ((Chg.refl (fun _ => False) _).alloc _) (fun h => h)).keep ((Chg.refl (fun _ => False) _).alloc _) (fun h => h)
    · rw [← hW]
      have := CellsAt.new (w.alloc (.cells #[.slice s.Au s.up.length s.cu, .int .i64 s.sm, .int .i64 s.sc, .int .i64 s.sq, .slice s.Aa s.acts.length s.ca, .slice s.Af s.fl.length s.cf, .slice s.Al s.nl s.cl, .slice s.Ak s.nk s.ck, .int .i64 s.sd] 29)) #[.int .i64 x.kind, .string x.path, .string x.msg, .slice A x.args.length c, .int .i64 x.ord, .int .i64 x.vk, .string x.vt, .int .i64 x.vn, .int .i64 x.vm, .string x.vx, .slice C x.vl.length d, .int .i64 x.n] 37
      rw [World.size_alloc] at this
      exact this.keep ((Chg.refl (fun _ => False) _).alloc _) (fun h => h)
    · rw [← hW]
      have := CellsAt.new ((w.alloc (.cells #[.slice s.Au s.up.length s.cu, .int .i64 s.sm, .int .i64 s.sc, .int .i64 s.sq, .slice s.Aa s.acts.length s.ca, .slice s.Af s.fl.length s.cf, .slice s.Al s.nl s.cl, .slice s.Ak s.nk s.ck, .int .i64 s.sd] 29)).alloc (.cells #[.int .i64 x.kind, .string x.path, .string x.msg, .slice A x.args.length c, .int .i64 x.ord, .int .i64 x.vk, .string x.vt, .int .i64 x.vn, .int .i64 x.vm, .string x.vx, .slice C x.vl.length d, .int .i64 x.n] 37)) #[.int .i64 0, .string ⟨#[]⟩, .string ⟨#[]⟩, .slice none 0 0, .int .i64 0, .int .i64 0, .string ⟨#[]⟩, .int .i64 0, .int .i64 0, .string ⟨#[]⟩, .slice none 0 0, .int .i64 0] 37
      rw [World.size_alloc, World.size_alloc] at this
      exact this
  have HN := Lib.hid hN
  have HAL := Lib.hid hal
  have HSZ := Lib.hid hsz
  have HC1 := Lib.hid (copies_of ha (RA.out.belows hal))
  have HV1 := Lib.hid (RV.out.belows hal)
  have e3 : W.cell? ⟨w.heap.size + 1, 3, none⟩ = some (.slice A x.args.length c) := by rw [hN.e.cell]; rfl
  clear hs HE ra rv hal hsz hN
  go_enter Tryz.func10, Tryz.ntmps10
  go_wp2_with fail
  clear hW
  (with_reducible refine HC1.out.mono ?_)
  rintro e w1 ⟨v1, rfl, hr1, hb1⟩
  obtain ⟨A1, c1, rfl, _⟩ := hr1.sl_inv
  have N1 := Lib.hid (HN.out.below hb1)
  have f3 : w1.cell? ⟨w.heap.size + 1, 3, none⟩ = some (.slice A x.args.length c) := by rw [N1.out.e.cell]; rfl
  have f10 : w1.cell? ⟨w.heap.size + 1, 10, none⟩ = some (.slice C x.vl.length d) := by rw [N1.out.e.cell]; rfl
  have ff := N1.out.e.fz
  obtain ⟨W2, hW2⟩ : ∃ W2, w1.setCell ⟨w.heap.size + 1, 3, none⟩ (.slice A1 x.args.length c1) = W2 := ⟨_, rfl⟩
  have N2 : Hid (NSt s w W2 #[.int .i64 x.kind, .string x.path, .string x.msg, .slice A1 x.args.length c1, .int .i64 x.ord, .int .i64 x.vk, .string x.vt, .int .i64 x.vn, .int .i64 x.vm, .string x.vx, .slice C x.vl.length d, .int .i64 x.n]) := Lib.hid (by
    have := N1.out.store 3 (.slice A1 x.args.length c1)
    rw [hW2] at this
    simpa using this)
  have R2 : Hid (Rd (Bt (w.heap.size + 3) W2.heap.size) W2 (vs x.args) (.slice A1 x.args.length c1)) := Lib.hid (by
    rw [← hW2, size_setCell, ← HSZ.out]
    exact hr1.setCell (p := ⟨w.heap.size + 1, 3, none⟩) (fun b hb => by have := hb.1; have := HSZ.out; show b ≠ w.heap.size + 1; omega) _)
  have HC2 := Lib.hid (copies_of hv (RV.out.belows N2.out.low))
  have h10 : W2.cell? ⟨w.heap.size + 1, 10, none⟩ = some (.slice C x.vl.length d) := by rw [N2.out.e.cell]; rfl
  clear hr1 hb1 e3 HC1 HV1
  go_wp2_with fail
  clear hW2 f3 f10 ff
  (with_reducible refine HC2.out.mono ?_)
  rintro e w3 ⟨v3, rfl, hr3, hb3⟩
  obtain ⟨C1, d1, rfl, _⟩ := hr3.sl_inv
  have N3 := Lib.hid (N2.out.below hb3)
  have f10 : w3.cell? ⟨w.heap.size + 1, 10, none⟩ = some (.slice C x.vl.length d) := by rw [N3.out.e.cell]; rfl
  have ff := N3.out.e.fz
  have hgt : w.heap.size + 1 + 1 < W2.heap.size := N2.out.r.lt
  obtain ⟨W4, hW4⟩ : ∃ W4, w3.setCell ⟨w.heap.size + 1, 10, none⟩ (.slice C1 x.vl.length d1) = W4 := ⟨_, rfl⟩
  have N4 : Hid (NSt s w W4 #[.int .i64 x.kind, .string x.path, .string x.msg, .slice A1 x.args.length c1, .int .i64 x.ord, .int .i64 x.vk, .string x.vt, .int .i64 x.vn, .int .i64 x.vm, .string x.vx, .slice C1 x.vl.length d1, .int .i64 x.n]) := Lib.hid (by
    have := N3.out.store 10 (.slice C1 x.vl.length d1)
    rw [hW4] at this
    simpa using this)
  have R4 : Hid (Rd (Bt (w.heap.size + 3) W4.heap.size) W4 (vs x.args) (.slice A1 x.args.length c1)) := Lib.hid (by
    rw [← hW4, size_setCell]
    exact ((R2.out.below hb3 (fun b hb => hb.2)).setCell (p := ⟨w.heap.size + 1, 10, none⟩) (fun b hb => by have := hb.1; show b ≠ w.heap.size + 1; omega) _).weaken (fun b hb => ⟨hb.1, Nat.lt_of_lt_of_le hb.2 hb3.size⟩))
  have V4 : Hid (Rd (Bt (w.heap.size + 3) W4.heap.size) W4 (vs x.vl) (.slice C1 x.vl.length d1)) := Lib.hid (by
    rw [← hW4, size_setCell]
    exact (hr3.setCell (p := ⟨w.heap.size + 1, 10, none⟩) (fun b hb => by have := hb.1; show b ≠ w.heap.size + 1; omega) _).weaken (fun b hb => ⟨by have := hb.1; omega, hb.2⟩))
  have g0 : W4.cell? ⟨w.heap.size + 1, 0, none⟩ = some (.int .i64 x.kind) := by rw [N4.out.e.cell]; rfl
  have g1 : W4.cell? ⟨w.heap.size + 1, 1, none⟩ = some (.string x.path) := by rw [N4.out.e.cell]; rfl
  have g2 : W4.cell? ⟨w.heap.size + 1, 2, none⟩ = some (.string x.msg) := by rw [N4.out.e.cell]; rfl
  have g3 : W4.cell? ⟨w.heap.size + 1, 3, none⟩ = some (.slice A1 x.args.length c1) := by rw [N4.out.e.cell]; rfl
  have g4 : W4.cell? ⟨w.heap.size + 1, 4, none⟩ = some (.int .i64 x.ord) := by rw [N4.out.e.cell]; rfl
  have g5 : W4.cell? ⟨w.heap.size + 1, 5, none⟩ = some (.int .i64 x.vk) := by rw [N4.out.e.cell]; rfl
  have g6 : W4.cell? ⟨w.heap.size + 1, 6, none⟩ = some (.string x.vt) := by rw [N4.out.e.cell]; rfl
  have g7 : W4.cell? ⟨w.heap.size + 1, 7, none⟩ = some (.int .i64 x.vn) := by rw [N4.out.e.cell]; rfl
  have g8 : W4.cell? ⟨w.heap.size + 1, 8, none⟩ = some (.int .i64 x.vm) := by rw [N4.out.e.cell]; rfl
  have g9 : W4.cell? ⟨w.heap.size + 1, 9, none⟩ = some (.string x.vx) := by rw [N4.out.e.cell]; rfl
  have g10 : W4.cell? ⟨w.heap.size + 1, 10, none⟩ = some (.slice C1 x.vl.length d1) := by rw [N4.out.e.cell]; rfl
  have g11 : W4.cell? ⟨w.heap.size + 1, 11, none⟩ = some (.int .i64 x.n) := by rw [N4.out.e.cell]; rfl
  clear hr3 hb3 h10 HC2 N2 N3 R2 N1 HN
  by_cases hk : x.kind = 2
  · have hkb : (x.kind != 2) = false := by simp [hk]
    have hkc : (x.kind == 2) = true := by simp [hk]
    have HY : Hid (normE n x = ⟨x.kind, x.path, x.msg, x.args, x.ord, x.vk, x.vt, x.vn, x.vm, x.vx, x.vl, normN n x.n⟩) := Lib.hid (by unfold normE; rw [if_pos hk])
    have HE4 := Lib.hid (HEN.out W4 (HS.out.belows N4.out.low))
    have HK := Lib.hid hk
    have s0 : W4.cell? ⟨w.heap.size, 0, none⟩ = some (.slice s.Au s.up.length s.cu) := by rw [N4.out.x.cell]; rfl
    have s1 : W4.cell? ⟨w.heap.size, 1, none⟩ = some (.int .i64 s.sm) := by rw [N4.out.x.cell]; rfl
    have s2 : W4.cell? ⟨w.heap.size, 2, none⟩ = some (.int .i64 s.sc) := by rw [N4.out.x.cell]; rfl
    have s3 : W4.cell? ⟨w.heap.size, 3, none⟩ = some (.int .i64 s.sq) := by rw [N4.out.x.cell]; rfl
    have s4 : W4.cell? ⟨w.heap.size, 4, none⟩ = some (.slice s.Aa s.acts.length s.ca) := by rw [N4.out.x.cell]; rfl
    have s5 : W4.cell? ⟨w.heap.size, 5, none⟩ = some (.slice s.Af s.fl.length s.cf) := by rw [N4.out.x.cell]; rfl
    have s6 : W4.cell? ⟨w.heap.size, 6, none⟩ = some (.slice s.Al s.nl s.cl) := by rw [N4.out.x.cell]; rfl
    have s7 : W4.cell? ⟨w.heap.size, 7, none⟩ = some (.slice s.Ak s.nk s.ck) := by rw [N4.out.x.cell]; rfl
    have s8 : W4.cell? ⟨w.heap.size, 8, none⟩ = some (.int .i64 s.sd) := by rw [N4.out.x.cell]; rfl
    clear hk
    go_wp2_with fail
    (with_reducible refine HE4.out.mono ?_)
    rintro e w5 ⟨A5, c5, rfl, hb5⟩
    have N5 := Lib.hid (N4.out.below hb5)
    have hz5 := hb5.size
    have R5 : Hid (Rd (Bt (w.heap.size + 3) w5.heap.size) w5 (vs x.args) (.slice A1 x.args.length c1)) := Lib.hid ((R4.out.below hb5 (fun b hb => hb.2)).weaken (fun b hb => ⟨hb.1, Nat.lt_of_lt_of_le hb.2 hz5⟩))
    have V5 : Hid (Rd (Bt (w.heap.size + 3) w5.heap.size) w5 (vs x.vl) (.slice C1 x.vl.length d1)) := Lib.hid ((V4.out.below hb5 (fun b hb => hb.2)).weaken (fun b hb => ⟨hb.1, Nat.lt_of_lt_of_le hb.2 hz5⟩))
    have a11 : w5.cell? ⟨w.heap.size + 1, 11, none⟩ = some (.int .i64 x.n) := by rw [N5.out.e.cell]; rfl
    have af := N5.out.e.fz
    clear hb5 hW4 g0 g1 g2 g3 g4 g5 g6 g7 g8 g9 g10 g11 s0 s1 s2 s3 s4 s5 s6 s7 s8 N4 R4 V4 HE4 f10 ff
    by_cases h0 : n = 0
    · have h0b : ((n : Int) == 0) = true := by simp [h0]
      have HY2 : Hid (normN n x.n = 0) := Lib.hid (by unfold normN; rw [if_pos h0])
      obtain ⟨W6, hW6⟩ : ∃ W6, w5.setCell ⟨w.heap.size + 1, 11, none⟩ (.int .i64 (0)) = W6 := ⟨_, rfl⟩
      have N6 : Hid (NSt s w W6 #[.int .i64 x.kind, .string x.path, .string x.msg, .slice A1 x.args.length c1, .int .i64 x.ord, .int .i64 x.vk, .string x.vt, .int .i64 x.vn, .int .i64 x.vm, .string x.vx, .slice C1 x.vl.length d1, .int .i64 (0)]) := Lib.hid (by
        have := N5.out.store 11 (.int .i64 (0))
        rw [hW6] at this
        simpa using this)
      have R6 : Hid (Rd (Bt (w.heap.size + 3) W6.heap.size) W6 (vs x.args) (.slice A1 x.args.length c1)) := Lib.hid (by
        rw [← hW6, size_setCell]
        exact R5.out.setCell (p := ⟨w.heap.size + 1, 11, none⟩) (fun b hb => by have := hb.1; show b ≠ w.heap.size + 1; omega) _)
      have V6 : Hid (Rd (Bt (w.heap.size + 3) W6.heap.size) W6 (vs x.vl) (.slice C1 x.vl.length d1)) := Lib.hid (by
        rw [← hW6, size_setCell]
        exact V5.out.setCell (p := ⟨w.heap.size + 1, 11, none⟩) (fun b hb => by have := hb.1; show b ≠ w.heap.size + 1; omega) _)
      have t0 : W6.cell? ⟨w.heap.size + 1, 0, none⟩ = some (.int .i64 x.kind) := by rw [N6.out.e.cell]; rfl
      have t1 : W6.cell? ⟨w.heap.size + 1, 1, none⟩ = some (.string x.path) := by rw [N6.out.e.cell]; rfl
      have t2 : W6.cell? ⟨w.heap.size + 1, 2, none⟩ = some (.string x.msg) := by rw [N6.out.e.cell]; rfl
      have t3 : W6.cell? ⟨w.heap.size + 1, 3, none⟩ = some (.slice A1 x.args.length c1) := by rw [N6.out.e.cell]; rfl
      have t4 : W6.cell? ⟨w.heap.size + 1, 4, none⟩ = some (.int .i64 x.ord) := by rw [N6.out.e.cell]; rfl
      have t5 : W6.cell? ⟨w.heap.size + 1, 5, none⟩ = some (.int .i64 x.vk) := by rw [N6.out.e.cell]; rfl
      have t6 : W6.cell? ⟨w.heap.size + 1, 6, none⟩ = some (.string x.vt) := by rw [N6.out.e.cell]; rfl
      have t7 : W6.cell? ⟨w.heap.size + 1, 7, none⟩ = some (.int .i64 x.vn) := by rw [N6.out.e.cell]; rfl
      have t8 : W6.cell? ⟨w.heap.size + 1, 8, none⟩ = some (.int .i64 x.vm) := by rw [N6.out.e.cell]; rfl
      have t9 : W6.cell? ⟨w.heap.size + 1, 9, none⟩ = some (.string x.vx) := by rw [N6.out.e.cell]; rfl
      have t10 : W6.cell? ⟨w.heap.size + 1, 10, none⟩ = some (.slice C1 x.vl.length d1) := by rw [N6.out.e.cell]; rfl
      have t11 : W6.cell? ⟨w.heap.size + 1, 11, none⟩ = some (.int .i64 (0)) := by rw [N6.out.e.cell]; rfl
      have z0 : W6.cell? ⟨w.heap.size + 1 + 1, 0, none⟩ = some (.int .i64 0) := by rw [N6.out.r.cell]; rfl
      have z1 : W6.cell? ⟨w.heap.size + 1 + 1, 1, none⟩ = some (.string ⟨#[]⟩) := by rw [N6.out.r.cell]; rfl
      have z2 : W6.cell? ⟨w.heap.size + 1 + 1, 2, none⟩ = some (.string ⟨#[]⟩) := by rw [N6.out.r.cell]; rfl
      have z3 : W6.cell? ⟨w.heap.size + 1 + 1, 3, none⟩ = some (.slice none 0 0) := by rw [N6.out.r.cell]; rfl
      have z4 : W6.cell? ⟨w.heap.size + 1 + 1, 4, none⟩ = some (.int .i64 0) := by rw [N6.out.r.cell]; rfl
      have z5 : W6.cell? ⟨w.heap.size + 1 + 1, 5, none⟩ = some (.int .i64 0) := by rw [N6.out.r.cell]; rfl
      have z6 : W6.cell? ⟨w.heap.size + 1 + 1, 6, none⟩ = some (.string ⟨#[]⟩) := by rw [N6.out.r.cell]; rfl
      have z7 : W6.cell? ⟨w.heap.size + 1 + 1, 7, none⟩ = some (.int .i64 0) := by rw [N6.out.r.cell]; rfl
      have z8 : W6.cell? ⟨w.heap.size + 1 + 1, 8, none⟩ = some (.int .i64 0) := by rw [N6.out.r.cell]; rfl
      have z9 : W6.cell? ⟨w.heap.size + 1 + 1, 9, none⟩ = some (.string ⟨#[]⟩) := by rw [N6.out.r.cell]; rfl
      have z10 : W6.cell? ⟨w.heap.size + 1 + 1, 10, none⟩ = some (.slice none 0 0) := by rw [N6.out.r.cell]; rfl
      have z11 : W6.cell? ⟨w.heap.size + 1 + 1, 11, none⟩ = some (.int .i64 0) := by rw [N6.out.r.cell]; rfl
      have zf := N6.out.r.fz
      clear h0
      go_wp2_with fail
      rw [HY.out, HY2.out]
      exact norm_end (y := ⟨x.kind, x.path, x.msg, x.args, x.ord, x.vk, x.vt, x.vn, x.vm, x.vx, x.vl, 0⟩) N6.out R6.out V6.out rfl rfl
    · have h0b : ((n : Int) == 0) = false := by rw [beq_eq_false_iff_ne]; omega
      have hn0 : (0 : Int) < n := by omega
      obtain ⟨m, hm⟩ : ∃ m, x.n.tmod n = m := ⟨_, rfl⟩
      have hm1 : m < n := by rw [← hm]; exact Int.tmod_lt_of_pos _ hn0
      have hm2 : -(n : Int) < m := by rw [← hm]; have := Int.lt_tmod_of_pos x.n hn0; omega
      by_cases hm0 : m < 0
      · have HY2 : Hid (normN n x.n = m + n) := Lib.hid (by unfold normN; rw [if_neg h0, hm, if_pos hm0])
        obtain ⟨W6, hW6⟩ : ∃ W6, w5.setCell ⟨w.heap.size + 1, 11, none⟩ (.int .i64 (m)) = W6 := ⟨_, rfl⟩
        have N6 : Hid (NSt s w W6 #[.int .i64 x.kind, .string x.path, .string x.msg, .slice A1 x.args.length c1, .int .i64 x.ord, .int .i64 x.vk, .string x.vt, .int .i64 x.vn, .int .i64 x.vm, .string x.vx, .slice C1 x.vl.length d1, .int .i64 (m)]) := Lib.hid (by
          have := N5.out.store 11 (.int .i64 (m))
          rw [hW6] at this
          simpa using this)
        have R6 : Hid (Rd (Bt (w.heap.size + 3) W6.heap.size) W6 (vs x.args) (.slice A1 x.args.length c1)) := Lib.hid (by
          rw [← hW6, size_setCell]
          exact R5.out.setCell (p := ⟨w.heap.size + 1, 11, none⟩) (fun b hb => by have := hb.1; show b ≠ w.heap.size + 1; omega) _)
        have V6 : Hid (Rd (Bt (w.heap.size + 3) W6.heap.size) W6 (vs x.vl) (.slice C1 x.vl.length d1)) := Lib.hid (by
          rw [← hW6, size_setCell]
          exact V5.out.setCell (p := ⟨w.heap.size + 1, 11, none⟩) (fun b hb => by have := hb.1; show b ≠ w.heap.size + 1; omega) _)
        have b11 : W6.cell? ⟨w.heap.size + 1, 11, none⟩ = some (.int .i64 m) := by rw [N6.out.e.cell]; rfl
        have bf := N6.out.e.fz
        obtain ⟨W7, hW7⟩ : ∃ W7, W6.setCell ⟨w.heap.size + 1, 11, none⟩ (.int .i64 (m + n)) = W7 := ⟨_, rfl⟩
        have N7 : Hid (NSt s w W7 #[.int .i64 x.kind, .string x.path, .string x.msg, .slice A1 x.args.length c1, .int .i64 x.ord, .int .i64 x.vk, .string x.vt, .int .i64 x.vn, .int .i64 x.vm, .string x.vx, .slice C1 x.vl.length d1, .int .i64 (m + n)]) := Lib.hid (by
          have := N6.out.store 11 (.int .i64 (m + n))
          rw [hW7] at this
          simpa using this)
        have R7 : Hid (Rd (Bt (w.heap.size + 3) W7.heap.size) W7 (vs x.args) (.slice A1 x.args.length c1)) := Lib.hid (by
          rw [← hW7, size_setCell]
          exact R6.out.setCell (p := ⟨w.heap.size + 1, 11, none⟩) (fun b hb => by have := hb.1; show b ≠ w.heap.size + 1; omega) _)
        have V7 : Hid (Rd (Bt (w.heap.size + 3) W7.heap.size) W7 (vs x.vl) (.slice C1 x.vl.length d1)) := Lib.hid (by
          rw [← hW7, size_setCell]
          exact V6.out.setCell (p := ⟨w.heap.size + 1, 11, none⟩) (fun b hb => by have := hb.1; show b ≠ w.heap.size + 1; omega) _)
        have t0 : W7.cell? ⟨w.heap.size + 1, 0, none⟩ = some (.int .i64 x.kind) := by rw [N7.out.e.cell]; rfl
        have t1 : W7.cell? ⟨w.heap.size + 1, 1, none⟩ = some (.string x.path) := by rw [N7.out.e.cell]; rfl
        have t2 : W7.cell? ⟨w.heap.size + 1, 2, none⟩ = some (.string x.msg) := by rw [N7.out.e.cell]; rfl
        have t3 : W7.cell? ⟨w.heap.size + 1, 3, none⟩ = some (.slice A1 x.args.length c1) := by rw [N7.out.e.cell]; rfl
        have t4 : W7.cell? ⟨w.heap.size + 1, 4, none⟩ = some (.int .i64 x.ord) := by rw [N7.out.e.cell]; rfl
        have t5 : W7.cell? ⟨w.heap.size + 1, 5, none⟩ = some (.int .i64 x.vk) := by rw [N7.out.e.cell]; rfl
        have t6 : W7.cell? ⟨w.heap.size + 1, 6, none⟩ = some (.string x.vt) := by rw [N7.out.e.cell]; rfl
        have t7 : W7.cell? ⟨w.heap.size + 1, 7, none⟩ = some (.int .i64 x.vn) := by rw [N7.out.e.cell]; rfl
        have t8 : W7.cell? ⟨w.heap.size + 1, 8, none⟩ = some (.int .i64 x.vm) := by rw [N7.out.e.cell]; rfl
        have t9 : W7.cell? ⟨w.heap.size + 1, 9, none⟩ = some (.string x.vx) := by rw [N7.out.e.cell]; rfl
        have t10 : W7.cell? ⟨w.heap.size + 1, 10, none⟩ = some (.slice C1 x.vl.length d1) := by rw [N7.out.e.cell]; rfl
        have t11 : W7.cell? ⟨w.heap.size + 1, 11, none⟩ = some (.int .i64 (m + n)) := by rw [N7.out.e.cell]; rfl
        have z0 : W7.cell? ⟨w.heap.size + 1 + 1, 0, none⟩ = some (.int .i64 0) := by rw [N7.out.r.cell]; rfl
        have z1 : W7.cell? ⟨w.heap.size + 1 + 1, 1, none⟩ = some (.string ⟨#[]⟩) := by rw [N7.out.r.cell]; rfl
        have z2 : W7.cell? ⟨w.heap.size + 1 + 1, 2, none⟩ = some (.string ⟨#[]⟩) := by rw [N7.out.r.cell]; rfl
        have z3 : W7.cell? ⟨w.heap.size + 1 + 1, 3, none⟩ = some (.slice none 0 0) := by rw [N7.out.r.cell]; rfl
        have z4 : W7.cell? ⟨w.heap.size + 1 + 1, 4, none⟩ = some (.int .i64 0) := by rw [N7.out.r.cell]; rfl
        have z5 : W7.cell? ⟨w.heap.size + 1 + 1, 5, none⟩ = some (.int .i64 0) := by rw [N7.out.r.cell]; rfl
        have z6 : W7.cell? ⟨w.heap.size + 1 + 1, 6, none⟩ = some (.string ⟨#[]⟩) := by rw [N7.out.r.cell]; rfl
        have z7 : W7.cell? ⟨w.heap.size + 1 + 1, 7, none⟩ = some (.int .i64 0) := by rw [N7.out.r.cell]; rfl
        have z8 : W7.cell? ⟨w.heap.size + 1 + 1, 8, none⟩ = some (.int .i64 0) := by rw [N7.out.r.cell]; rfl
        have z9 : W7.cell? ⟨w.heap.size + 1 + 1, 9, none⟩ = some (.string ⟨#[]⟩) := by rw [N7.out.r.cell]; rfl
        have z10 : W7.cell? ⟨w.heap.size + 1 + 1, 10, none⟩ = some (.slice none 0 0) := by rw [N7.out.r.cell]; rfl
        have z11 : W7.cell? ⟨w.heap.size + 1 + 1, 11, none⟩ = some (.int .i64 0) := by rw [N7.out.r.cell]; rfl
        have zf := N7.out.r.fz
        go_wp2_with fail
        rw [HY.out, HY2.out]
        exact norm_end (y := ⟨x.kind, x.path, x.msg, x.args, x.ord, x.vk, x.vt, x.vn, x.vm, x.vx, x.vl, m + n⟩) N7.out R7.out V7.out rfl rfl
      · have HY2 : Hid (normN n x.n = m) := Lib.hid (by unfold normN; rw [if_neg h0, hm, if_neg hm0])
        obtain ⟨W6, hW6⟩ : ∃ W6, w5.setCell ⟨w.heap.size + 1, 11, none⟩ (.int .i64 (m)) = W6 := ⟨_, rfl⟩
        have N6 : Hid (NSt s w W6 #[.int .i64 x.kind, .string x.path, .string x.msg, .slice A1 x.args.length c1, .int .i64 x.ord, .int .i64 x.vk, .string x.vt, .int .i64 x.vn, .int .i64 x.vm, .string x.vx, .slice C1 x.vl.length d1, .int .i64 (m)]) := Lib.hid (by
          have := N5.out.store 11 (.int .i64 (m))
          rw [hW6] at this
          simpa using this)
        have R6 : Hid (Rd (Bt (w.heap.size + 3) W6.heap.size) W6 (vs x.args) (.slice A1 x.args.length c1)) := Lib.hid (by
          rw [← hW6, size_setCell]
          exact R5.out.setCell (p := ⟨w.heap.size + 1, 11, none⟩) (fun b hb => by have := hb.1; show b ≠ w.heap.size + 1; omega) _)
        have V6 : Hid (Rd (Bt (w.heap.size + 3) W6.heap.size) W6 (vs x.vl) (.slice C1 x.vl.length d1)) := Lib.hid (by
          rw [← hW6, size_setCell]
          exact V5.out.setCell (p := ⟨w.heap.size + 1, 11, none⟩) (fun b hb => by have := hb.1; show b ≠ w.heap.size + 1; omega) _)
        have t0 : W6.cell? ⟨w.heap.size + 1, 0, none⟩ = some (.int .i64 x.kind) := by rw [N6.out.e.cell]; rfl
        have t1 : W6.cell? ⟨w.heap.size + 1, 1, none⟩ = some (.string x.path) := by rw [N6.out.e.cell]; rfl
        have t2 : W6.cell? ⟨w.heap.size + 1, 2, none⟩ = some (.string x.msg) := by rw [N6.out.e.cell]; rfl
        have t3 : W6.cell? ⟨w.heap.size + 1, 3, none⟩ = some (.slice A1 x.args.length c1) := by rw [N6.out.e.cell]; rfl
        have t4 : W6.cell? ⟨w.heap.size + 1, 4, none⟩ = some (.int .i64 x.ord) := by rw [N6.out.e.cell]; rfl
        have t5 : W6.cell? ⟨w.heap.size + 1, 5, none⟩ = some (.int .i64 x.vk) := by rw [N6.out.e.cell]; rfl
        have t6 : W6.cell? ⟨w.heap.size + 1, 6, none⟩ = some (.string x.vt) := by rw [N6.out.e.cell]; rfl
        have t7 : W6.cell? ⟨w.heap.size + 1, 7, none⟩ = some (.int .i64 x.vn) := by rw [N6.out.e.cell]; rfl
        have t8 : W6.cell? ⟨w.heap.size + 1, 8, none⟩ = some (.int .i64 x.vm) := by rw [N6.out.e.cell]; rfl
        have t9 : W6.cell? ⟨w.heap.size + 1, 9, none⟩ = some (.string x.vx) := by rw [N6.out.e.cell]; rfl
        have t10 : W6.cell? ⟨w.heap.size + 1, 10, none⟩ = some (.slice C1 x.vl.length d1) := by rw [N6.out.e.cell]; rfl
        have t11 : W6.cell? ⟨w.heap.size + 1, 11, none⟩ = some (.int .i64 (m)) := by rw [N6.out.e.cell]; rfl
        have z0 : W6.cell? ⟨w.heap.size + 1 + 1, 0, none⟩ = some (.int .i64 0) := by rw [N6.out.r.cell]; rfl
        have z1 : W6.cell? ⟨w.heap.size + 1 + 1, 1, none⟩ = some (.string ⟨#[]⟩) := by rw [N6.out.r.cell]; rfl
        have z2 : W6.cell? ⟨w.heap.size + 1 + 1, 2, none⟩ = some (.string ⟨#[]⟩) := by rw [N6.out.r.cell]; rfl
        have z3 : W6.cell? ⟨w.heap.size + 1 + 1, 3, none⟩ = some (.slice none 0 0) := by rw [N6.out.r.cell]; rfl
        have z4 : W6.cell? ⟨w.heap.size + 1 + 1, 4, none⟩ = some (.int .i64 0) := by rw [N6.out.r.cell]; rfl
        have z5 : W6.cell? ⟨w.heap.size + 1 + 1, 5, none⟩ = some (.int .i64 0) := by rw [N6.out.r.cell]; rfl
        have z6 : W6.cell? ⟨w.heap.size + 1 + 1, 6, none⟩ = some (.string ⟨#[]⟩) := by rw [N6.out.r.cell]; rfl
        have z7 : W6.cell? ⟨w.heap.size + 1 + 1, 7, none⟩ = some (.int .i64 0) := by rw [N6.out.r.cell]; rfl
        have z8 : W6.cell? ⟨w.heap.size + 1 + 1, 8, none⟩ = some (.int .i64 0) := by rw [N6.out.r.cell]; rfl
        have z9 : W6.cell? ⟨w.heap.size + 1 + 1, 9, none⟩ = some (.string ⟨#[]⟩) := by rw [N6.out.r.cell]; rfl
        have z10 : W6.cell? ⟨w.heap.size + 1 + 1, 10, none⟩ = some (.slice none 0 0) := by rw [N6.out.r.cell]; rfl
        have z11 : W6.cell? ⟨w.heap.size + 1 + 1, 11, none⟩ = some (.int .i64 0) := by rw [N6.out.r.cell]; rfl
        have zf := N6.out.r.fz
        go_wp2_with fail
        rw [HY.out, HY2.out]
        exact norm_end (y := ⟨x.kind, x.path, x.msg, x.args, x.ord, x.vk, x.vt, x.vn, x.vm, x.vx, x.vl, m⟩) N6.out R6.out V6.out rfl rfl
  · have hkb : (x.kind != 2) = true := by simp [hk]
    have hkc : (x.kind == 2) = false := by simp [hk]
    have HY : Hid (normE n x = x) := Lib.hid (by unfold normE; rw [if_neg hk])
    have z0 : W4.cell? ⟨w.heap.size + 1 + 1, 0, none⟩ = some (.int .i64 0) := by rw [N4.out.r.cell]; rfl
    have z1 : W4.cell? ⟨w.heap.size + 1 + 1, 1, none⟩ = some (.string ⟨#[]⟩) := by rw [N4.out.r.cell]; rfl
    have z2 : W4.cell? ⟨w.heap.size + 1 + 1, 2, none⟩ = some (.string ⟨#[]⟩) := by rw [N4.out.r.cell]; rfl
    have z3 : W4.cell? ⟨w.heap.size + 1 + 1, 3, none⟩ = some (.slice none 0 0) := by rw [N4.out.r.cell]; rfl
    have z4 : W4.cell? ⟨w.heap.size + 1 + 1, 4, none⟩ = some (.int .i64 0) := by rw [N4.out.r.cell]; rfl
    have z5 : W4.cell? ⟨w.heap.size + 1 + 1, 5, none⟩ = some (.int .i64 0) := by rw [N4.out.r.cell]; rfl
    have z6 : W4.cell? ⟨w.heap.size + 1 + 1, 6, none⟩ = some (.string ⟨#[]⟩) := by rw [N4.out.r.cell]; rfl
    have z7 : W4.cell? ⟨w.heap.size + 1 + 1, 7, none⟩ = some (.int .i64 0) := by rw [N4.out.r.cell]; rfl
    have z8 : W4.cell? ⟨w.heap.size + 1 + 1, 8, none⟩ = some (.int .i64 0) := by rw [N4.out.r.cell]; rfl
    have z9 : W4.cell? ⟨w.heap.size + 1 + 1, 9, none⟩ = some (.string ⟨#[]⟩) := by rw [N4.out.r.cell]; rfl
    have z10 : W4.cell? ⟨w.heap.size + 1 + 1, 10, none⟩ = some (.slice none 0 0) := by rw [N4.out.r.cell]; rfl
    have z11 : W4.cell? ⟨w.heap.size + 1 + 1, 11, none⟩ = some (.int .i64 0) := by rw [N4.out.r.cell]; rfl
    have zf := N4.out.r.fz
    clear hk
    go_wp2_with fail
    rw [HY.out]
    exact norm_end N4.out R4.out V4.out rfl rfl
end Go.Proofs.YtlbmfgiepcemdaaGreat
