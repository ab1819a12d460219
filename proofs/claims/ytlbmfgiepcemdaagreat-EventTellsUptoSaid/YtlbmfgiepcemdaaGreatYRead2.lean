/- ref12.Read: it comes to what value.Read comes to. Conditions: those in each statement. -/
import Derived.Test.YtlbmfgiepcemdaaGreatYTake
import Derived.Test.YtlbmfgiepcemdaaGreatYR12BR12C
namespace Go.Proofs.YtlbmfgiepcemdaaGreat
open Go.RowKit

def Read2Post (b : Nat) (o : Option (V × RS)) (w : World) (e : Ending) (w' : World) : Prop :=
  Chg (fun k => k = b) w w' ∧
  match o with
  | none => e = .returned (.tuple #[.agg #[.int .i64 0, .string ⟨#[]⟩, .int .i64 0, .int .i64 0, .string ⟨#[]⟩, .slice none 0 0], .bool false]) ∧ R2At w' b RS.bad
  | some (v, r') => ∃ A c, e = .returned (.tuple #[.agg #[.int .i64 v.kind, .string v.t, .int .i64 v.n, .int .i64 v.m, .string v.s, .slice A v.l.length c], .bool true]) ∧ Rd (Bt w.heap.size w'.heap.size) w' (vs v.l) (.slice A v.l.length c) ∧ R2At w' b r'
theorem takeR_gone {r : RS} (h : Gone r) (n : Int) : takeR r n = RS.bad := by unfold takeR; rw [if_pos (.inl h.1)]
theorem takeR_zero {r : RS} (h : r.f = false) : takeR r 0 = r := by
  unfold takeR
  rw [if_neg (by rw [h]; intro h; rcases h with h | h | h; · cases h
                 · omega
                 · omega)]
  obtain ⟨s, f⟩ := r
  have h' : f = false := h
  subst h'
  simp
/-- the end of a call that fails -/
theorem read2_fail {b : Nat} {w0 W : World} (hb : b < w0.heap.size) (hc : Chg (fun k => k = b) w0 W) (hr : R2At W b RS.bad) (hz : CellsAt W w0.heap.size #[.int .i64 0, .string ⟨#[]⟩, .int .i64 0, .int .i64 0, .string ⟨#[]⟩, .slice none 0 0] 35) {a : Act}
    (h4 : a.tmps.getD 2 undef = .pointer (some ⟨w0.heap.size, 0, none⟩)) (h5 : a.tmps.getD 3 undef = .bool false) (hd : a.defers = []) :
    bodyPost Tryz.prog Tryz.f67 (Read2Post b none w0) Exit.ret a ((((((W.setCell ⟨w0.heap.size, 0, none⟩ (.int .i64 0)).setCell ⟨w0.heap.size, 1, none⟩ (.string ⟨#[]⟩)).setCell ⟨w0.heap.size, 2, none⟩ (.int .i64 0)).setCell ⟨w0.heap.size, 3, none⟩ (.int .i64 0)).setCell ⟨w0.heap.size, 4, none⟩ (.string ⟨#[]⟩)).setCell ⟨w0.heap.size, 5, none⟩ (.slice none 0 0)) := by
  refine bodyPost_ret (v := ZT) ?_ hd ⟨six_chg hc (.inr (Nat.le_refl _)) _ _ _ _ _ _, rfl, hr.keep (six_one _ _ _ _ _ _) (by omega)⟩
  have := results_cell_tmp Tryz.results67 a.tmps _ w0.heap.size _ _ (0, 0) _ h4 (six_set (.int .i64 0) (.string ⟨#[]⟩) (.int .i64 0) (.int .i64 0) (.string ⟨#[]⟩) (.slice none 0 0) hz) Tryz.underlying35 rfl sizeV6
  rw [h5] at this
  exact this
theorem read2_done {b : Nat} {w0 W : World} {v : V} {r' : RS} {A : Option Addr} {c : Nat} (hb : b < w0.heap.size) (hc : Chg (fun k => k = b) w0 W) (hr : R2At W b r') (hz : CellsAt W w0.heap.size #[.int .i64 0, .string ⟨#[]⟩, .int .i64 0, .int .i64 0, .string ⟨#[]⟩, .slice none 0 0] 35) (hrd : Rd (Bt (w0.heap.size + 1) W.heap.size) W (vs v.l) (.slice A v.l.length c)) {a : Act}
    (h4 : a.tmps.getD 2 undef = .pointer (some ⟨w0.heap.size, 0, none⟩)) (h5 : a.tmps.getD 3 undef = .bool true) (hd : a.defers = []) :
    bodyPost Tryz.prog Tryz.f67 (Read2Post b (some (v, r')) w0) Exit.ret a ((((((W.setCell ⟨w0.heap.size, 0, none⟩ (.int .i64 v.kind)).setCell ⟨w0.heap.size, 1, none⟩ (.string v.t)).setCell ⟨w0.heap.size, 2, none⟩ (.int .i64 v.n)).setCell ⟨w0.heap.size, 3, none⟩ (.int .i64 v.m)).setCell ⟨w0.heap.size, 4, none⟩ (.string v.s)).setCell ⟨w0.heap.size, 5, none⟩ (.slice A v.l.length c)) := by
  have := results_cell_tmp Tryz.results67 a.tmps _ w0.heap.size _ _ (0, 0) _ h4 (six_set (.int .i64 v.kind) (.string v.t) (.int .i64 v.n) (.int .i64 v.m) (.string v.s) (.slice A v.l.length c) hz) Tryz.underlying35 rfl sizeV6
  rw [h5] at this
  have hc1 := six_one (w := W) (g := w0.heap.size) (.int .i64 v.kind) (.string v.t) (.int .i64 v.n) (.int .i64 v.m) (.string v.s) (.slice A v.l.length c)
  have h1 := hc1.rd (ok := Bt (w0.heap.size + 1) W.heap.size) (fun b hb => ⟨hb.2, by have := hb.1; omega⟩) hrd
  exact bodyPost_ret this hd ⟨six_chg hc (.inr (Nat.le_refl _)) _ _ _ _ _ _, A, c, rfl, h1.weaken (fun b hb => ⟨by have := hb.1; omega, Nat.lt_of_lt_of_le hb.2 hc1.size⟩), hr.keep (six_one _ _ _ _ _ _) (by omega)⟩

theorem tkS_fine {r : RS} {v : V} {r' : RS} {l' : Nat} (hf : Sane r) (hz : r.s.size ≤ 4294967296) (h : tkS 16385 r 16384 = some (v, r', l')) (hg : ¬ Gone r') : DecFine r v r' := by
  have hf0 : r.f = false := by
    rcases hf with hf | hf
    · exact hf
    · rw [tkS_empty _ _ _ hf] at h; cases h
  rcases tkS_alike 16385 r 16384 with e | ⟨_, v2, r2, l2, e', hg'⟩
  · exact decS_fine _ _ _ _ _ _ hf0 hz (e ▸ h)
  · rw [h] at e'
    injection e' with e'
    injection e' with _ e'
    injection e' with e' _
    exact absurd (e' ▸ hg') hg
set_option maxHeartbeats 8000000 in
set_option maxRecDepth 100000 in
theorem read2_any (b : Nat) (r : RS) (w : World) (hr : R2At w b r) (hf : Sane r) (hs : r.s.size ≤ 1048576) : Calls Tryz.prog 67 #[.pointer (some ⟨b, 0, none⟩)] w (Read2Post b (readS r) w) := by
  have hb := hr.lt
  obtain ⟨W, hW⟩ : ∃ W, w.alloc (.cells #[.int .i64 0, .string ⟨#[]⟩, .int .i64 0, .int .i64 0, .string ⟨#[]⟩, .slice none 0 0] 35) = W := ⟨_, rfl⟩
  have hA : Below w.heap.size w W := by rw [← hW]; exact (Below.refl _ _).alloc (Nat.le_refl _) _
  have HSZ : Hid (W.heap.size = w.heap.size + 1) := Lib.hid (by rw [← hW]; simp)
  have HZ : Hid (CellsAt W w.heap.size #[.int .i64 0, .string ⟨#[]⟩, .int .i64 0, .int .i64 0, .string ⟨#[]⟩, .slice none 0 0] 35) := Lib.hid (by rw [← hW]; exact CellsAt.new w _ _)
  have hd := take2_any 16385 b r 16384 W (by omega) (by omega) (by omega) (hr.below hA)
  rw [show ((16384 : Nat) : Int) = 16384 from rfl] at hd
  have HD := Lib.hid hd
  clear hd
  have HA := Lib.hid hA
  have HDF : Hid (∀ v r' l', tkS 16385 r 16384 = some (v, r', l') → ¬ Gone r' → DecFine r v r') := Lib.hid (fun v r' l' h hg => tkS_fine hf (by omega) h hg)
  have HRS : Hid (∀ v r' l', tkS 16385 r 16384 = some (v, r', l') → r'.s.size ≤ 4294967296) := Lib.hid (fun v r' l' h => by have := (tkS_le _ _ _ _ _ _ h).2; omega)
  have HO : Hid (readS r = (tkS 16385 r 16384).bind fun p => if p.2.1.s.size = 0 ∧ doneB p.2.1 = false then none else if rightP nodeP p.1 then some (p.1, p.2.1) else none) := Lib.hid (by rw [← rreadS_eq hf (by omega)]; rfl)
  generalize readS r = O at *
  generalize tkS 16385 r 16384 = d at *
  clear hA hr
  go_enter Tryz.func67, Tryz.ntmps67
  go_wp2_with fail
  clear hW
  (with_reducible refine HD.out.mono ?_)
  rintro e w3 ⟨hc3, hp3⟩
  have HC3 : Hid (Chg (fun k => k = b) w w3) := Lib.hid ((Chg.of_below HA.out).trans hc3 (fun k hk => .inl hk))
  have Z3 := Lib.hid (HZ.out.keep hc3 (by omega))
  have hsz := hc3.size
  have hsz2 := HSZ.out
  have hb3 : w.heap.size + 1 ≤ w3.heap.size := by omega
  clear HD HZ hc3 hsz hsz2
  cases d with
  | none =>
    obtain ⟨rfl, r3, hr3, hrs⟩ := hp3
    have HN : Hid (O = none) := Lib.hid (by rw [HO.out]; rfl)
    have R3 := Lib.hid hr3
    clear hr3 HO HDF HRS
    have hal : Below w3.heap.size w3 (w3.alloc (.cells #[.int .i64 0, .string ⟨#[]⟩, .int .i64 0, .int .i64 0, .string ⟨#[]⟩, .slice none 0 0] 35)) := (Below.refl _ _).alloc (Nat.le_refl _) _
    have HAL := Lib.hid hal
    have X3 : Hid (CellsAt (w3.alloc (.cells #[.int .i64 0, .string ⟨#[]⟩, .int .i64 0, .int .i64 0, .string ⟨#[]⟩, .slice none 0 0] 35)) w3.heap.size #[.int .i64 0, .string ⟨#[]⟩, .int .i64 0, .int .i64 0, .string ⟨#[]⟩, .slice none 0 0] 35) := Lib.hid (CellsAt.new w3 _ _)
    clear hal
    go_wp2_with fail
    (with_reducible refine (r2take_any b r3 0 _ (R3.out.below HAL.out) hrs).mono ?_)
    rintro e w4 ⟨rfl, hc4, hr4⟩
    have Z4 : Hid (CellsAt w4 w.heap.size #[.int .i64 0, .string ⟨#[]⟩, .int .i64 0, .int .i64 0, .string ⟨#[]⟩, .slice none 0 0] 35) := Lib.hid ((Z3.out.keep (M := fun k => k = b) (Chg.of_below HAL.out) (by omega)).keep hc4 (by omega))
    have X4 : Hid (CellsAt w4 w3.heap.size #[.int .i64 0, .string ⟨#[]⟩, .int .i64 0, .int .i64 0, .string ⟨#[]⟩, .slice none 0 0] 35) := Lib.hid (X3.out.keep hc4 (by have := HC3.out.size; omega))
    have HC4 := Lib.hid ((HC3.out.thenBelow HAL.out).next hc4)
    have hrs4 : (takeR r3 0).s.size ≤ 4294967296 := Nat.le_trans (takeR_size _ _) hrs
    generalize takeR r3 0 = r4 at *
    have R4 := Lib.hid hr4
    clear hr4 hc4
    by_cases hz : r4.s.size = 0
    · have hzb : ((r4.s.size : Int) == 0) = true := by simp [hz]
      go_wp2_with fail
      (with_reducible refine (r2left_any b r4 w4 R4.out).mono ?_)
      rintro e w5 ⟨rfl, rfl⟩
      go_wp2_with fail
      (with_reducible refine (r2done_any b r4 w4 R4.out).mono ?_)
      rintro e w5 ⟨rfl, rfl⟩
      cases doneB r4 <;> dsimp only
      ·
        go_wp2_with fail
        (with_reducible refine (r2take_any b r4 (-1) _ R4.out hrs4).mono ?_)
        rintro e w6 ⟨rfl, hc6, hr6⟩
        rw [takeR_neg] at hr6
        have R6 := Lib.hid hr6
        have Z6 := Lib.hid (Z4.out.keep hc6 (by omega))
        have HC6 := Lib.hid (HC4.out.next hc6)
        clear hc6 hr6
        have z0 : w6.cell? ⟨w.heap.size, 0, none⟩ = some (.int .i64 0) := by rw [Z6.out.cell]; rfl
        have z1 : w6.cell? ⟨w.heap.size, 1, none⟩ = some (.string ⟨#[]⟩) := by rw [Z6.out.cell]; rfl
        have z2 : w6.cell? ⟨w.heap.size, 2, none⟩ = some (.int .i64 0) := by rw [Z6.out.cell]; rfl
        have z3 : w6.cell? ⟨w.heap.size, 3, none⟩ = some (.int .i64 0) := by rw [Z6.out.cell]; rfl
        have z4 : w6.cell? ⟨w.heap.size, 4, none⟩ = some (.string ⟨#[]⟩) := by rw [Z6.out.cell]; rfl
        have z5 : w6.cell? ⟨w.heap.size, 5, none⟩ = some (.slice none 0 0) := by rw [Z6.out.cell]; rfl
        have zf := Z6.out.fz
        go_wp2_with fail
        rw [HN.out]
        exact read2_fail hb HC6.out R6.out Z6.out rfl rfl rfl
      ·
        go_wp2_with fail
        (with_reducible refine (r2take_any b r4 (-1) _ R4.out hrs4).mono ?_)
        rintro e w6 ⟨rfl, hc6, hr6⟩
        rw [takeR_neg] at hr6
        have R6 := Lib.hid hr6
        have Z6 := Lib.hid (Z4.out.keep hc6 (by omega))
        have HC6 := Lib.hid (HC4.out.next hc6)
        clear hc6 hr6
        have z0 : w6.cell? ⟨w.heap.size, 0, none⟩ = some (.int .i64 0) := by rw [Z6.out.cell]; rfl
        have z1 : w6.cell? ⟨w.heap.size, 1, none⟩ = some (.string ⟨#[]⟩) := by rw [Z6.out.cell]; rfl
        have z2 : w6.cell? ⟨w.heap.size, 2, none⟩ = some (.int .i64 0) := by rw [Z6.out.cell]; rfl
        have z3 : w6.cell? ⟨w.heap.size, 3, none⟩ = some (.int .i64 0) := by rw [Z6.out.cell]; rfl
        have z4 : w6.cell? ⟨w.heap.size, 4, none⟩ = some (.string ⟨#[]⟩) := by rw [Z6.out.cell]; rfl
        have z5 : w6.cell? ⟨w.heap.size, 5, none⟩ = some (.slice none 0 0) := by rw [Z6.out.cell]; rfl
        have zf := Z6.out.fz
        go_wp2_with fail
        rw [HN.out]
        exact read2_fail hb HC6.out R6.out Z6.out rfl rfl rfl
    · have hzb : ((r4.s.size : Int) == 0) = false := by rw [beq_eq_false_iff_ne]; omega
      go_wp2_with fail
      (with_reducible refine (r2left_any b r4 w4 R4.out).mono ?_)
      rintro e w5 ⟨rfl, rfl⟩
      go_wp2_with fail
      (with_reducible refine (r2take_any b r4 (-1) _ R4.out hrs4).mono ?_)
      rintro e w6 ⟨rfl, hc6, hr6⟩
      rw [takeR_neg] at hr6
      have R6 := Lib.hid hr6
      have Z6 := Lib.hid (Z4.out.keep hc6 (by omega))
      have HC6 := Lib.hid (HC4.out.next hc6)
      clear hc6 hr6
      have z0 : w6.cell? ⟨w.heap.size, 0, none⟩ = some (.int .i64 0) := by rw [Z6.out.cell]; rfl
      have z1 : w6.cell? ⟨w.heap.size, 1, none⟩ = some (.string ⟨#[]⟩) := by rw [Z6.out.cell]; rfl
      have z2 : w6.cell? ⟨w.heap.size, 2, none⟩ = some (.int .i64 0) := by rw [Z6.out.cell]; rfl
      have z3 : w6.cell? ⟨w.heap.size, 3, none⟩ = some (.int .i64 0) := by rw [Z6.out.cell]; rfl
      have z4 : w6.cell? ⟨w.heap.size, 4, none⟩ = some (.string ⟨#[]⟩) := by rw [Z6.out.cell]; rfl
      have z5 : w6.cell? ⟨w.heap.size, 5, none⟩ = some (.slice none 0 0) := by rw [Z6.out.cell]; rfl
      have zf := Z6.out.fz
      go_wp2_with fail
      rw [HN.out]
      exact read2_fail hb HC6.out R6.out Z6.out rfl rfl rfl
  | some p =>
    obtain ⟨x, r3, l3⟩ := p
    obtain ⟨A, c, rfl, hx, hr3⟩ := hp3
    have hrs := HRS.out _ _ _ rfl
    have R3 := Lib.hid hr3
    have HX := Lib.hid (hx.weaken (ok' := Bt (w.heap.size + 1) w3.heap.size) (fun q hq => ⟨by have := hq.1; have := HSZ.out; omega, hq.2⟩))
    clear hr3 hx HRS
    have hl30 : ¬ (l3 : Int) < 0 := by omega
    have hl31 : decide ((l3 : Int) < 0) = false := decide_eq_false hl30
    have hal : Below w3.heap.size w3 (w3.alloc (.cells #[.int .i64 x.kind, .string x.t, .int .i64 x.n, .int .i64 x.m, .string x.s, .slice A x.l.length c] 35)) := (Below.refl _ _).alloc (Nat.le_refl _) _
    have HAL := Lib.hid hal
    have X3 : Hid (CellsAt (w3.alloc (.cells #[.int .i64 x.kind, .string x.t, .int .i64 x.n, .int .i64 x.m, .string x.s, .slice A x.l.length c] 35)) w3.heap.size #[.int .i64 x.kind, .string x.t, .int .i64 x.n, .int .i64 x.m, .string x.s, .slice A x.l.length c] 35) := Lib.hid (CellsAt.new w3 _ _)
    clear hal
    go_wp2_with fail
    (with_reducible refine (r2take_any b r3 0 _ (R3.out.below HAL.out) hrs).mono ?_)
    rintro e w4 ⟨rfl, hc4, hr4⟩
    have Z4 : Hid (CellsAt w4 w.heap.size #[.int .i64 0, .string ⟨#[]⟩, .int .i64 0, .int .i64 0, .string ⟨#[]⟩, .slice none 0 0] 35) := Lib.hid ((Z3.out.keep (M := fun k => k = b) (Chg.of_below HAL.out) (by omega)).keep hc4 (by omega))
    have X4 : Hid (CellsAt w4 w3.heap.size #[.int .i64 x.kind, .string x.t, .int .i64 x.n, .int .i64 x.m, .string x.s, .slice A x.l.length c] 35) := Lib.hid (X3.out.keep hc4 (by have := HC3.out.size; omega))
    have HC4 := Lib.hid ((HC3.out.thenBelow HAL.out).next hc4)
    by_cases hg : Gone r3
    · have HN : Hid (O = none) := Lib.hid (by rw [HO.out, Option.bind_some, if_pos (gone_not_done hg)])
      rw [takeR_gone hg] at hr4
      have R4 := Lib.hid hr4
      have hD : doneB RS.bad = false := rfl
      have hrb : RS.bad.s.size ≤ 4294967296 := Nat.zero_le _
      have hzb : ((RS.bad.s.size : Int) == 0) = true := rfl
      clear hr4 hc4 HO HDF hg
      generalize RS.bad = rb at R4 hD hrb hzb
      go_wp2_with fail
      (with_reducible refine (r2left_any b rb w4 R4.out).mono ?_)
      rintro e w5 ⟨rfl, rfl⟩
      go_wp2_with fail
      (with_reducible refine (r2done_any b rb w4 R4.out).mono ?_)
      rintro e w5 ⟨rfl, rfl⟩
      rw [hD]
      go_wp2_with fail
      (with_reducible refine (r2take_any b rb (-1) _ R4.out hrb).mono ?_)
      rintro e w6 ⟨rfl, hc6, hr6⟩
      rw [takeR_neg] at hr6
      have R6 := Lib.hid hr6
      have Z6 := Lib.hid (Z4.out.keep hc6 (by omega))
      have HC6 := Lib.hid (HC4.out.next hc6)
      clear hc6 hr6
      have z0 : w6.cell? ⟨w.heap.size, 0, none⟩ = some (.int .i64 0) := by rw [Z6.out.cell]; rfl
      have z1 : w6.cell? ⟨w.heap.size, 1, none⟩ = some (.string ⟨#[]⟩) := by rw [Z6.out.cell]; rfl
      have z2 : w6.cell? ⟨w.heap.size, 2, none⟩ = some (.int .i64 0) := by rw [Z6.out.cell]; rfl
      have z3 : w6.cell? ⟨w.heap.size, 3, none⟩ = some (.int .i64 0) := by rw [Z6.out.cell]; rfl
      have z4 : w6.cell? ⟨w.heap.size, 4, none⟩ = some (.string ⟨#[]⟩) := by rw [Z6.out.cell]; rfl
      have z5 : w6.cell? ⟨w.heap.size, 5, none⟩ = some (.slice none 0 0) := by rw [Z6.out.cell]; rfl
      have zf := Z6.out.fz
      go_wp2_with fail
      rw [HN.out]
      exact read2_fail hb HC6.out R6.out Z6.out rfl rfl rfl
    · obtain ⟨f1, f2, f3, f4⟩ := HDF.out _ _ _ rfl hg
      rw [takeR_zero f1] at hr4
      have R4 := Lib.hid hr4
      have hbk : x.bulk ≤ 2097152 := by omega
      have hnd : ¬ (r3.s.size = 0 ∧ doneB r3 = false) := fun h => hg (not_done_gone h.1 h.2)
      obtain ⟨g, hgg⟩ : ∃ g, rightP nodeP x = g := ⟨_, rfl⟩
      have HR : Hid (∀ W, Rd (Lt W.heap.size) W (vs x.l) (.slice A x.l.length c) → Calls Tryz.prog 55 #[.agg #[.int .i64 x.kind, .string x.t, .int .i64 x.n, .int .i64 x.m, .string x.s, .slice A x.l.length c]] W fun e w' => e = .returned (.bool g) ∧ Below W.heap.size W w') := Lib.hid (fun W h => by
        rw [← hgg]
        obtain ⟨k, t, n, m, s, l⟩ := x
        exact rright_any k t n m s l A c W hbk h)
      have HO2 : Hid (O = if g then some (x, r3) else none) := Lib.hid (by rw [HO.out, Option.bind_some, if_neg hnd, hgg])
      have HX4 := Lib.hid (hc4.rd (fun q hq => ⟨Nat.lt_of_lt_of_le hq.2 HAL.out.size, by have := hq.1; omega⟩) (HX.out.below HAL.out (fun q hq => hq.2)))
      have hsz4 := Nat.le_trans HAL.out.size hc4.size
      have x0 : w4.cell? ⟨w3.heap.size, 0, none⟩ = some (.int .i64 x.kind) := by rw [X4.out.cell]; rfl
      have x1 : w4.cell? ⟨w3.heap.size, 1, none⟩ = some (.string x.t) := by rw [X4.out.cell]; rfl
      have x2 : w4.cell? ⟨w3.heap.size, 2, none⟩ = some (.int .i64 x.n) := by rw [X4.out.cell]; rfl
      have x3 : w4.cell? ⟨w3.heap.size, 3, none⟩ = some (.int .i64 x.m) := by rw [X4.out.cell]; rfl
      have x4 : w4.cell? ⟨w3.heap.size, 4, none⟩ = some (.string x.s) := by rw [X4.out.cell]; rfl
      have x5 : w4.cell? ⟨w3.heap.size, 5, none⟩ = some (.slice A x.l.length c) := by rw [X4.out.cell]; rfl
      clear hr4 hc4 HO HDF hg hgg f1 f2 f3 f4
      by_cases hz : r3.s.size = 0
      · have hzb : ((r3.s.size : Int) == 0) = true := by simp [hz]
        have hD : doneB r3 = true := by cases h : doneB r3 with | true => rfl | false => exact absurd ⟨hz, h⟩ hnd
        clear hnd
        go_wp2_with fail
        (with_reducible refine (r2left_any b r3 w4 R4.out).mono ?_)
        rintro e w5 ⟨rfl, rfl⟩
        go_wp2_with fail
        (with_reducible refine (r2done_any b r3 w4 R4.out).mono ?_)
        rintro e w5 ⟨rfl, rfl⟩
        rw [hD]
        go_wp2_with fail
        (with_reducible refine (HR.out _ ?_).mono ?_)
        · exact HX4.out.weaken (fun q hq => Nat.lt_of_lt_of_le hq.2 hsz4)
        rintro e w5 ⟨rfl, hb5⟩
        have R5 := Lib.hid (R4.out.below hb5)
        have Z5 := Lib.hid (Z4.out.keep (M := fun k => k = b) (Chg.of_below hb5) (by omega))
        have X5 : Hid (CellsAt w5 w3.heap.size #[.int .i64 x.kind, .string x.t, .int .i64 x.n, .int .i64 x.m, .string x.s, .slice A x.l.length c] 35) := Lib.hid (X4.out.keep (M := fun k => k = b) (Chg.of_below hb5) (by have := HC3.out.size; omega))
        have HC5 := Lib.hid (HC4.out.thenBelow hb5)
        have HX5 := Lib.hid ((HX4.out.below hb5 (fun q hq => Nat.lt_of_lt_of_le hq.2 hsz4)).weaken (ok' := Bt (w.heap.size + 1) w5.heap.size) (fun q hq => ⟨hq.1, Nat.lt_of_lt_of_le hq.2 (Nat.le_trans hsz4 hb5.size)⟩))
        clear hb5 x0 x1 x2 x3 x4 x5 HR
        cases g with
        | false =>
          have HN : Hid (O = none) := Lib.hid (by rw [HO2.out]; rfl)
          go_wp2_with fail
          (with_reducible refine (r2take_any b r3 (-1) _ R5.out hrs).mono ?_)
          rintro e w6 ⟨rfl, hc6, hr6⟩
          rw [takeR_neg] at hr6
          have R6 := Lib.hid hr6
          have Z6 := Lib.hid (Z5.out.keep hc6 (by omega))
          have HC6 := Lib.hid (HC5.out.next hc6)
          clear hc6 hr6
          have z0 : w6.cell? ⟨w.heap.size, 0, none⟩ = some (.int .i64 0) := by rw [Z6.out.cell]; rfl
          have z1 : w6.cell? ⟨w.heap.size, 1, none⟩ = some (.string ⟨#[]⟩) := by rw [Z6.out.cell]; rfl
          have z2 : w6.cell? ⟨w.heap.size, 2, none⟩ = some (.int .i64 0) := by rw [Z6.out.cell]; rfl
          have z3 : w6.cell? ⟨w.heap.size, 3, none⟩ = some (.int .i64 0) := by rw [Z6.out.cell]; rfl
          have z4 : w6.cell? ⟨w.heap.size, 4, none⟩ = some (.string ⟨#[]⟩) := by rw [Z6.out.cell]; rfl
          have z5 : w6.cell? ⟨w.heap.size, 5, none⟩ = some (.slice none 0 0) := by rw [Z6.out.cell]; rfl
          have zf := Z6.out.fz
          go_wp2_with fail
          rw [HN.out]
          exact read2_fail hb HC6.out R6.out Z6.out rfl rfl rfl
        | true =>
          have HN : Hid (O = some (x, r3)) := Lib.hid (by rw [HO2.out]; rfl)
          have z0 : w5.cell? ⟨w.heap.size, 0, none⟩ = some (.int .i64 0) := by rw [Z5.out.cell]; rfl
          have z1 : w5.cell? ⟨w.heap.size, 1, none⟩ = some (.string ⟨#[]⟩) := by rw [Z5.out.cell]; rfl
          have z2 : w5.cell? ⟨w.heap.size, 2, none⟩ = some (.int .i64 0) := by rw [Z5.out.cell]; rfl
          have z3 : w5.cell? ⟨w.heap.size, 3, none⟩ = some (.int .i64 0) := by rw [Z5.out.cell]; rfl
          have z4 : w5.cell? ⟨w.heap.size, 4, none⟩ = some (.string ⟨#[]⟩) := by rw [Z5.out.cell]; rfl
          have z5 : w5.cell? ⟨w.heap.size, 5, none⟩ = some (.slice none 0 0) := by rw [Z5.out.cell]; rfl
          have zf := Z5.out.fz
          have x0 : w5.cell? ⟨w3.heap.size, 0, none⟩ = some (.int .i64 x.kind) := by rw [X5.out.cell]; rfl
          have x1 : w5.cell? ⟨w3.heap.size, 1, none⟩ = some (.string x.t) := by rw [X5.out.cell]; rfl
          have x2 : w5.cell? ⟨w3.heap.size, 2, none⟩ = some (.int .i64 x.n) := by rw [X5.out.cell]; rfl
          have x3 : w5.cell? ⟨w3.heap.size, 3, none⟩ = some (.int .i64 x.m) := by rw [X5.out.cell]; rfl
          have x4 : w5.cell? ⟨w3.heap.size, 4, none⟩ = some (.string x.s) := by rw [X5.out.cell]; rfl
          have x5 : w5.cell? ⟨w3.heap.size, 5, none⟩ = some (.slice A x.l.length c) := by rw [X5.out.cell]; rfl
          go_wp2_with fail
          rw [HN.out]
          exact read2_done hb HC5.out R5.out Z5.out HX5.out rfl rfl rfl
      · have hzb : ((r3.s.size : Int) == 0) = false := by rw [beq_eq_false_iff_ne]; omega
        clear hnd
        go_wp2_with fail
        (with_reducible refine (r2left_any b r3 w4 R4.out).mono ?_)
        rintro e w5 ⟨rfl, rfl⟩
        go_wp2_with fail
        (with_reducible refine (HR.out _ ?_).mono ?_)
        · exact HX4.out.weaken (fun q hq => Nat.lt_of_lt_of_le hq.2 hsz4)
        rintro e w5 ⟨rfl, hb5⟩
        have R5 := Lib.hid (R4.out.below hb5)
        have Z5 := Lib.hid (Z4.out.keep (M := fun k => k = b) (Chg.of_below hb5) (by omega))
        have X5 : Hid (CellsAt w5 w3.heap.size #[.int .i64 x.kind, .string x.t, .int .i64 x.n, .int .i64 x.m, .string x.s, .slice A x.l.length c] 35) := Lib.hid (X4.out.keep (M := fun k => k = b) (Chg.of_below hb5) (by have := HC3.out.size; omega))
        have HC5 := Lib.hid (HC4.out.thenBelow hb5)
        have HX5 := Lib.hid ((HX4.out.below hb5 (fun q hq => Nat.lt_of_lt_of_le hq.2 hsz4)).weaken (ok' := Bt (w.heap.size + 1) w5.heap.size) (fun q hq => ⟨hq.1, Nat.lt_of_lt_of_le hq.2 (Nat.le_trans hsz4 hb5.size)⟩))
        clear hb5 x0 x1 x2 x3 x4 x5 HR
        cases g with
        | false =>
          have HN : Hid (O = none) := Lib.hid (by rw [HO2.out]; rfl)
          go_wp2_with fail
          (with_reducible refine (r2take_any b r3 (-1) _ R5.out hrs).mono ?_)
          rintro e w6 ⟨rfl, hc6, hr6⟩
          rw [takeR_neg] at hr6
          have R6 := Lib.hid hr6
          have Z6 := Lib.hid (Z5.out.keep hc6 (by omega))
          have HC6 := Lib.hid (HC5.out.next hc6)
          clear hc6 hr6
          have z0 : w6.cell? ⟨w.heap.size, 0, none⟩ = some (.int .i64 0) := by rw [Z6.out.cell]; rfl
          have z1 : w6.cell? ⟨w.heap.size, 1, none⟩ = some (.string ⟨#[]⟩) := by rw [Z6.out.cell]; rfl
          have z2 : w6.cell? ⟨w.heap.size, 2, none⟩ = some (.int .i64 0) := by rw [Z6.out.cell]; rfl
          have z3 : w6.cell? ⟨w.heap.size, 3, none⟩ = some (.int .i64 0) := by rw [Z6.out.cell]; rfl
          have z4 : w6.cell? ⟨w.heap.size, 4, none⟩ = some (.string ⟨#[]⟩) := by rw [Z6.out.cell]; rfl
          have z5 : w6.cell? ⟨w.heap.size, 5, none⟩ = some (.slice none 0 0) := by rw [Z6.out.cell]; rfl
          have zf := Z6.out.fz
          go_wp2_with fail
          rw [HN.out]
          exact read2_fail hb HC6.out R6.out Z6.out rfl rfl rfl
        | true =>
          have HN : Hid (O = some (x, r3)) := Lib.hid (by rw [HO2.out]; rfl)
          have z0 : w5.cell? ⟨w.heap.size, 0, none⟩ = some (.int .i64 0) := by rw [Z5.out.cell]; rfl
          have z1 : w5.cell? ⟨w.heap.size, 1, none⟩ = some (.string ⟨#[]⟩) := by rw [Z5.out.cell]; rfl
          have z2 : w5.cell? ⟨w.heap.size, 2, none⟩ = some (.int .i64 0) := by rw [Z5.out.cell]; rfl
          have z3 : w5.cell? ⟨w.heap.size, 3, none⟩ = some (.int .i64 0) := by rw [Z5.out.cell]; rfl
          have z4 : w5.cell? ⟨w.heap.size, 4, none⟩ = some (.string ⟨#[]⟩) := by rw [Z5.out.cell]; rfl
          have z5 : w5.cell? ⟨w.heap.size, 5, none⟩ = some (.slice none 0 0) := by rw [Z5.out.cell]; rfl
          have zf := Z5.out.fz
          have x0 : w5.cell? ⟨w3.heap.size, 0, none⟩ = some (.int .i64 x.kind) := by rw [X5.out.cell]; rfl
          have x1 : w5.cell? ⟨w3.heap.size, 1, none⟩ = some (.string x.t) := by rw [X5.out.cell]; rfl
          have x2 : w5.cell? ⟨w3.heap.size, 2, none⟩ = some (.int .i64 x.n) := by rw [X5.out.cell]; rfl
          have x3 : w5.cell? ⟨w3.heap.size, 3, none⟩ = some (.int .i64 x.m) := by rw [X5.out.cell]; rfl
          have x4 : w5.cell? ⟨w3.heap.size, 4, none⟩ = some (.string x.s) := by rw [X5.out.cell]; rfl
          have x5 : w5.cell? ⟨w3.heap.size, 5, none⟩ = some (.slice A x.l.length c) := by rw [X5.out.cell]; rfl
          go_wp2_with fail
          rw [HN.out]
          exact read2_done hb HC5.out R5.out Z5.out HX5.out rfl rfl rfl
end Go.Proofs.YtlbmfgiepcemdaaGreat
