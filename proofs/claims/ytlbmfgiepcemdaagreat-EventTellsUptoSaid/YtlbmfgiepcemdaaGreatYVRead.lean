/- value.Read: a valid value read from a code.Reader. Conditions: those in each statement. -/
import Derived.Test.YtlbmfgiepcemdaaGreatYDec
import Derived.Test.YtlbmfgiepcemdaaGreatYDecQDecB
import Derived.Test.YtlbmfgiepcemdaaGreatYPathNodeANode
namespace Go.Proofs.YtlbmfgiepcemdaaGreat
open Go.RowKit

def readS (r : RS) : Option (V × RS) := (decS 16385 r 16384).bind fun p => if rightP nodeP p.1 then some (p.1, p.2.1) else none
def ReadPost (b : Nat) (o : Option (V × RS)) (w : World) (e : Ending) (w' : World) : Prop :=
  Chg (fun k => k = b) w w' ∧
  match o with
  | none => e = .returned (.tuple #[.agg #[.int .i64 0, .string ⟨#[]⟩, .int .i64 0, .int .i64 0, .string ⟨#[]⟩, .slice none 0 0], .bool false]) ∧ RdrAt w' b RS.bad
  | some (v, r') => ∃ A c, e = .returned (.tuple #[.agg #[.int .i64 v.kind, .string v.t, .int .i64 v.n, .int .i64 v.m, .string v.s, .slice A v.l.length c], .bool true]) ∧ Rd (Bt w.heap.size w'.heap.size) w' (vs v.l) (.slice A v.l.length c) ∧ RdrAt w' b r'
/-- a reader that has failed has nothing left -/
def Sane (r : RS) : Prop := r.f = false ∨ r.s.size = 0
theorem sane_bad : Sane RS.bad := .inr rfl
theorem sane_num {r : RS} (h : Sane r) : Sane (numR r) := by
  rcases h with h | h
  · rcases numR_took h with e | ⟨e, _⟩
    · rw [e]; exact sane_bad
    · exact .inl e
  · have := numR_size r
    exact .inr (by omega)
theorem sane_take {r : RS} {n : Int} : Sane (takeR r n) := by
  rcases takeR_took (r := r) (n := n) with e | ⟨e, _⟩
  · rw [e]; exact sane_bad
  · exact .inl e
theorem sane_text {r : RS} : Sane (textR r) := sane_take
theorem takeR_neg (r : RS) : takeR r (-1) = RS.bad := by unfold takeR; rw [if_pos (.inr (.inl (by omega)))]
theorem readS_fine {r : RS} {v : V} {r' : RS} (hf : r.f = false) (hz : r.s.size ≤ 4294967296) (h : readS r = some (v, r')) : DecFine r v r' ∧ rightP nodeP v = true := by
  unfold readS at h
  cases h1 : decS 16385 r 16384 with
  | none => rw [h1] at h; cases h
  | some p =>
    obtain ⟨x, r1, l1⟩ := p
    rw [h1, Option.bind_some] at h
    cases h2 : rightP nodeP x with
    | false => rw [h2] at h; cases h
    | true =>
      rw [h2] at h
      cases h
      exact ⟨decS_fine _ _ _ _ _ _ hf hz h1, h2⟩
/-- the end of a call that fails -/
theorem read_fail {b : Nat} {w0 W : World} (hb : b < w0.heap.size) (hc : Chg (fun k => k = b) w0 W) (hr : RdrAt W b RS.bad) (hz : CellsAt W w0.heap.size #[.int .i64 0, .string ⟨#[]⟩, .int .i64 0, .int .i64 0, .string ⟨#[]⟩, .slice none 0 0] 35) {a : Act}
    (h4 : a.tmps.getD 2 undef = .pointer (some ⟨w0.heap.size, 0, none⟩)) (h5 : a.tmps.getD 3 undef = .bool false) (hd : a.defers = []) :
    bodyPost Tryz.prog Tryz.f64 (ReadPost b none w0) Exit.ret a ((((((W.setCell ⟨w0.heap.size, 0, none⟩ (.int .i64 0)).setCell ⟨w0.heap.size, 1, none⟩ (.string ⟨#[]⟩)).setCell ⟨w0.heap.size, 2, none⟩ (.int .i64 0)).setCell ⟨w0.heap.size, 3, none⟩ (.int .i64 0)).setCell ⟨w0.heap.size, 4, none⟩ (.string ⟨#[]⟩)).setCell ⟨w0.heap.size, 5, none⟩ (.slice none 0 0)) := by
  refine bodyPost_ret (v := ZT) ?_ hd ⟨six_chg hc (.inr (Nat.le_refl _)) _ _ _ _ _ _, rfl, hr.keep (six_one _ _ _ _ _ _) (by omega)⟩
  have := results_cell_tmp Tryz.results64 a.tmps _ w0.heap.size _ _ (0, 0) _ h4 (six_set (.int .i64 0) (.string ⟨#[]⟩) (.int .i64 0) (.int .i64 0) (.string ⟨#[]⟩) (.slice none 0 0) hz) Tryz.underlying35 rfl sizeV6
  rw [h5] at this
  exact this
theorem read_done {b : Nat} {w0 W : World} {v : V} {r' : RS} {A : Option Addr} {c : Nat} (hb : b < w0.heap.size) (hc : Chg (fun k => k = b) w0 W) (hr : RdrAt W b r') (hz : CellsAt W w0.heap.size #[.int .i64 0, .string ⟨#[]⟩, .int .i64 0, .int .i64 0, .string ⟨#[]⟩, .slice none 0 0] 35) (hrd : Rd (Bt (w0.heap.size + 1) W.heap.size) W (vs v.l) (.slice A v.l.length c)) {a : Act}
    (h4 : a.tmps.getD 2 undef = .pointer (some ⟨w0.heap.size, 0, none⟩)) (h5 : a.tmps.getD 3 undef = .bool true) (hd : a.defers = []) :
    bodyPost Tryz.prog Tryz.f64 (ReadPost b (some (v, r')) w0) Exit.ret a ((((((W.setCell ⟨w0.heap.size, 0, none⟩ (.int .i64 v.kind)).setCell ⟨w0.heap.size, 1, none⟩ (.string v.t)).setCell ⟨w0.heap.size, 2, none⟩ (.int .i64 v.n)).setCell ⟨w0.heap.size, 3, none⟩ (.int .i64 v.m)).setCell ⟨w0.heap.size, 4, none⟩ (.string v.s)).setCell ⟨w0.heap.size, 5, none⟩ (.slice A v.l.length c)) := by
  have := results_cell_tmp Tryz.results64 a.tmps _ w0.heap.size _ _ (0, 0) _ h4 (six_set (.int .i64 v.kind) (.string v.t) (.int .i64 v.n) (.int .i64 v.m) (.string v.s) (.slice A v.l.length c) hz) Tryz.underlying35 rfl sizeV6
  rw [h5] at this
  have hc1 := six_one (w := W) (g := w0.heap.size) (.int .i64 v.kind) (.string v.t) (.int .i64 v.n) (.int .i64 v.m) (.string v.s) (.slice A v.l.length c)
  have h1 := hc1.rd (ok := Bt (w0.heap.size + 1) W.heap.size) (fun b hb => ⟨hb.2, by have := hb.1; omega⟩) hrd
  exact bodyPost_ret this hd ⟨six_chg hc (.inr (Nat.le_refl _)) _ _ _ _ _ _, A, c, rfl, h1.weaken (fun b hb => ⟨by have := hb.1; omega, Nat.lt_of_lt_of_le hb.2 hc1.size⟩), hr.keep (six_one _ _ _ _ _ _) (by omega)⟩

set_option maxHeartbeats 4000000 in
set_option maxRecDepth 100000 in
theorem vread_any (b : Nat) (r : RS) (w : World) (hr : RdrAt w b r) (hf : Sane r) (hs : r.s.size ≤ 1048576) : Calls Tryz.prog 64 #[.pointer (some ⟨b, 0, none⟩)] w (ReadPost b (readS r) w) := by
  have hb := hr.lt
  obtain ⟨W, hW⟩ : ∃ W, (w.alloc (.cells #[.int .i64 0, .string ⟨#[]⟩, .int .i64 0, .int .i64 0, .string ⟨#[]⟩, .slice none 0 0] 35)).alloc (.cells #[.int .i64 16384] 3) = W := ⟨_, rfl⟩
  have hA : Below w.heap.size w W := by rw [← hW]; exact ((Below.refl _ _).alloc (Nat.le_refl _) _).alloc (by simp) _
  have HSZ : Hid (W.heap.size = w.heap.size + 2) := Lib.hid (by rw [← hW]; simp)
  have hZ : CellsAt W w.heap.size #[.int .i64 0, .string ⟨#[]⟩, .int .i64 0, .int .i64 0, .string ⟨#[]⟩, .slice none 0 0] 35 := by
    rw [← hW]; exact (CellsAt.new w _ _).keep ((Chg.refl (fun _ => False) _).alloc _) (fun h => h)
  have hL : CellsAt W (w.heap.size + 1) #[.int .i64 ((16384 : Nat) : Int)] 3 := by
    have := CellsAt.new (w.alloc (.cells #[.int .i64 0, .string ⟨#[]⟩, .int .i64 0, .int .i64 0, .string ⟨#[]⟩, .slice none 0 0] 35)) #[.int .i64 16384] 3
    rw [World.size_alloc, hW] at this
    exact this
  have HZ := Lib.hid hZ
  have HD := Lib.hid (decode_any 16385 b (w.heap.size + 1) r 16384 W (by omega) (by omega) (by omega) (by omega) (hr.below hA) hL)
  have HA := Lib.hid hA
  have HDF : Hid (∀ v r' l', decS 16385 r 16384 = some (v, r', l') → DecFine r v r') := Lib.hid (fun v r' l' h => by
    rcases hf with hf | hf
    · exact decS_fine _ _ _ _ _ _ hf (by omega) h
    · rw [decS, if_pos (.inr hf)] at h; cases h)
  have HO : Hid (readS r = (decS 16385 r 16384).bind fun p => if rightP nodeP p.1 then some (p.1, p.2.1) else none) := Lib.hid rfl
  generalize readS r = O at *
  generalize decS 16385 r 16384 = d at *
  clear hA hZ hL hr
  go_enter Tryz.func64, Tryz.ntmps64
  go_wp2_with fail
  clear hW
  (with_reducible refine HD.out.mono ?_)
  rintro e w3 ⟨hc3, hp3⟩
  have HC3 : Hid (Chg (fun k => k = b) w w3) := Lib.hid ((Chg.of_below HA.out).trans hc3 (fun k hk => by
    rcases hk with rfl | rfl
    · exact .inl rfl
    · exact .inr (by omega)))
  have Z3 := Lib.hid (HZ.out.keep hc3 (by omega))
  have hsz := hc3.size
  have hsz2 := HSZ.out
  have hb3 : w.heap.size + 2 ≤ w3.heap.size := by omega
  clear HD HZ hc3 hsz hsz2
  cases d with
  | none =>
    obtain ⟨rfl, ⟨r3, hr3, hrs⟩, n3, hl3⟩ := hp3
    have HN : Hid (O = none) := Lib.hid (by rw [HO.out]; rfl)
    have R3 := Lib.hid hr3
    clear hr3 hl3 HO
    have hal : Below w3.heap.size w3 (w3.alloc (.cells #[.int .i64 0, .string ⟨#[]⟩, .int .i64 0, .int .i64 0, .string ⟨#[]⟩, .slice none 0 0] 35)) := (Below.refl _ _).alloc (Nat.le_refl _) _
    have HAL := Lib.hid hal
    clear hal
    go_wp2_with fail
    (with_reducible refine (take_any b r3 (-1) _ (R3.out.below HAL.out) hrs).mono ?_)
    rintro e w4 ⟨rfl, hc4, hr4⟩
    rw [takeR_neg] at hr4
    have R4 := Lib.hid hr4
    have Z4 : Hid (CellsAt w4 w.heap.size #[.int .i64 0, .string ⟨#[]⟩, .int .i64 0, .int .i64 0, .string ⟨#[]⟩, .slice none 0 0] 35) := Lib.hid ((Z3.out.keep (M := fun k => k = b) (Chg.of_below HAL.out) (by omega)).keep hc4 (by omega))
    have HC4 := Lib.hid ((HC3.out.thenBelow HAL.out).next hc4)
    clear hc4 hr4
    have z0 : w4.cell? ⟨w.heap.size, 0, none⟩ = some (.int .i64 0) := by rw [Z4.out.cell]; rfl
    have z1 : w4.cell? ⟨w.heap.size, 1, none⟩ = some (.string ⟨#[]⟩) := by rw [Z4.out.cell]; rfl
    have z2 : w4.cell? ⟨w.heap.size, 2, none⟩ = some (.int .i64 0) := by rw [Z4.out.cell]; rfl
    have z3 : w4.cell? ⟨w.heap.size, 3, none⟩ = some (.int .i64 0) := by rw [Z4.out.cell]; rfl
    have z4 : w4.cell? ⟨w.heap.size, 4, none⟩ = some (.string ⟨#[]⟩) := by rw [Z4.out.cell]; rfl
    have z5 : w4.cell? ⟨w.heap.size, 5, none⟩ = some (.slice none 0 0) := by rw [Z4.out.cell]; rfl
    have zf := Z4.out.fz
    go_wp2_with fail
    rw [HN.out]
    exact read_fail hb HC4.out R4.out Z4.out rfl rfl rfl
  | some p =>
    obtain ⟨x, r3, l3⟩ := p
    obtain ⟨A, c, rfl, hx, hr3, hl3⟩ := hp3
    obtain ⟨f1, f2, f3, f4⟩ := HDF.out _ _ _ rfl
    have hal : Below w3.heap.size w3 (w3.alloc (.cells #[.int .i64 x.kind, .string x.t, .int .i64 x.n, .int .i64 x.m, .string x.s, .slice A x.l.length c] 35)) := (Below.refl _ _).alloc (Nat.le_refl _) _
    have HAL := Lib.hid hal
    have R3 := Lib.hid hr3
    have hbk : x.bulk ≤ 2097152 := by omega
    have HX := Lib.hid (hx.weaken (ok' := Bt (w.heap.size + 1) w3.heap.size) (fun q hq => ⟨by have := hq.1; have := HSZ.out; omega, hq.2⟩))
    obtain ⟨g, hg⟩ : ∃ g, rightP nodeP x = g := ⟨_, rfl⟩
    have HR : Hid (∀ W, Rd (Lt W.heap.size) W (vs x.l) (.slice A x.l.length c) → Calls Tryz.prog 52 #[.agg #[.int .i64 x.kind, .string x.t, .int .i64 x.n, .int .i64 x.m, .string x.s, .slice A x.l.length c]] W fun e w' => e = .returned (.bool g) ∧ Below W.heap.size W w') := Lib.hid (fun W h => by
      rw [← hg]
      obtain ⟨k, t, n, m, s, l⟩ := x
      exact right_of nodeP k t n m s l A c W hbk (nodeOk_all _ hbk) h)
    have HO2 : Hid (O = if g then some (x, r3) else none) := Lib.hid (by rw [HO.out, Option.bind_some, hg])
    have hr3s : r3.s.size ≤ 4294967296 := by omega
    clear hal hr3 hl3 hx f1 f2 f3 f4 HO HDF hg
    go_wp2_with fail
    (with_reducible refine (HR.out _ ?_).mono ?_)
    · exact (HX.out.below HAL.out (fun q hq => hq.2)).weaken (fun q hq => Nat.lt_of_lt_of_le hq.2 HAL.out.size)
    rintro e w4 ⟨rfl, hb4⟩
    have B4 := Lib.hid (HAL.out.trans (hb4.mono HAL.out.size))
    have X4 : Hid (CellsAt w4 w3.heap.size #[.int .i64 x.kind, .string x.t, .int .i64 x.n, .int .i64 x.m, .string x.s, .slice A x.l.length c] 35) := Lib.hid ((hb4.block w3.heap.size (by simp)).trans (CellsAt.new w3 _ _))
    clear hb4 HR
    cases g with
    | false =>
      have HN : Hid (O = none) := Lib.hid (by rw [HO2.out]; rfl)
      go_wp2_with fail
      (with_reducible refine (take_any b r3 (-1) _ (R3.out.below B4.out) hr3s).mono ?_)
      rintro e w5 ⟨rfl, hc4, hr4⟩
      rw [takeR_neg] at hr4
      have R4 := Lib.hid hr4
      have Z4 : Hid (CellsAt w5 w.heap.size #[.int .i64 0, .string ⟨#[]⟩, .int .i64 0, .int .i64 0, .string ⟨#[]⟩, .slice none 0 0] 35) := Lib.hid ((Z3.out.keep (M := fun k => k = b) (Chg.of_below B4.out) (by omega)).keep hc4 (by omega))
      have HC4 := Lib.hid ((HC3.out.thenBelow B4.out).next hc4)
      clear hc4 hr4
      have z0 : w5.cell? ⟨w.heap.size, 0, none⟩ = some (.int .i64 0) := by rw [Z4.out.cell]; rfl
      have z1 : w5.cell? ⟨w.heap.size, 1, none⟩ = some (.string ⟨#[]⟩) := by rw [Z4.out.cell]; rfl
      have z2 : w5.cell? ⟨w.heap.size, 2, none⟩ = some (.int .i64 0) := by rw [Z4.out.cell]; rfl
      have z3 : w5.cell? ⟨w.heap.size, 3, none⟩ = some (.int .i64 0) := by rw [Z4.out.cell]; rfl
      have z4 : w5.cell? ⟨w.heap.size, 4, none⟩ = some (.string ⟨#[]⟩) := by rw [Z4.out.cell]; rfl
      have z5 : w5.cell? ⟨w.heap.size, 5, none⟩ = some (.slice none 0 0) := by rw [Z4.out.cell]; rfl
      have zf := Z4.out.fz
      go_wp2_with fail
      rw [HN.out]
      exact read_fail hb HC4.out R4.out Z4.out rfl rfl rfl
    | true =>
      have HN : Hid (O = some (x, r3)) := Lib.hid (by rw [HO2.out]; rfl)
      have R4 := Lib.hid (R3.out.below B4.out)
      have Z4 : Hid (CellsAt w4 w.heap.size #[.int .i64 0, .string ⟨#[]⟩, .int .i64 0, .int .i64 0, .string ⟨#[]⟩, .slice none 0 0] 35) := Lib.hid (Z3.out.keep (M := fun k => k = b) (Chg.of_below B4.out) (by omega))
      have HC4 := Lib.hid (HC3.out.thenBelow B4.out)
      have HX4 := Lib.hid ((HX.out.below B4.out (fun q hq => hq.2)).weaken (ok' := Bt (w.heap.size + 1) w4.heap.size) (fun q hq => ⟨hq.1, Nat.lt_of_lt_of_le hq.2 B4.out.size⟩))
      have z0 : w4.cell? ⟨w.heap.size, 0, none⟩ = some (.int .i64 0) := by rw [Z4.out.cell]; rfl
      have z1 : w4.cell? ⟨w.heap.size, 1, none⟩ = some (.string ⟨#[]⟩) := by rw [Z4.out.cell]; rfl
      have z2 : w4.cell? ⟨w.heap.size, 2, none⟩ = some (.int .i64 0) := by rw [Z4.out.cell]; rfl
      have z3 : w4.cell? ⟨w.heap.size, 3, none⟩ = some (.int .i64 0) := by rw [Z4.out.cell]; rfl
      have z4 : w4.cell? ⟨w.heap.size, 4, none⟩ = some (.string ⟨#[]⟩) := by rw [Z4.out.cell]; rfl
      have z5 : w4.cell? ⟨w.heap.size, 5, none⟩ = some (.slice none 0 0) := by rw [Z4.out.cell]; rfl
      have zf := Z4.out.fz
      have x0 : w4.cell? ⟨w3.heap.size, 0, none⟩ = some (.int .i64 x.kind) := by rw [X4.out.cell]; rfl
      have x1 : w4.cell? ⟨w3.heap.size, 1, none⟩ = some (.string x.t) := by rw [X4.out.cell]; rfl
      have x2 : w4.cell? ⟨w3.heap.size, 2, none⟩ = some (.int .i64 x.n) := by rw [X4.out.cell]; rfl
      have x3 : w4.cell? ⟨w3.heap.size, 3, none⟩ = some (.int .i64 x.m) := by rw [X4.out.cell]; rfl
      have x4 : w4.cell? ⟨w3.heap.size, 4, none⟩ = some (.string x.s) := by rw [X4.out.cell]; rfl
      have x5 : w4.cell? ⟨w3.heap.size, 5, none⟩ = some (.slice A x.l.length c) := by rw [X4.out.cell]; rfl
      go_wp2_with fail
      rw [HN.out]
      exact read_done hb HC4.out R4.out Z4.out HX4.out rfl rfl rfl
end Go.Proofs.YtlbmfgiepcemdaaGreat
