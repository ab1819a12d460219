/- net.step at an amendment and at other commands; net.step whole. Conditions: those in each statement. -/
import Derived.Test.YtlnfdpdancolmaaDoorYStep
namespace Go.Proofs.YtlnfdpdancolmaaDoor
open Go.RowKit

set_option maxHeartbeats 800000 in
set_option maxRecDepth 100000 in
theorem step_other (B : Nat) (l : List Out) (x : Cmd) (v : Value) (A : Option Addr) (c : Nat) (w : World) (hB : B ≤ w.heap.size) (h1 : x.kind ≠ 1) (h2 : x.kind ≠ 2) (h3 : x.kind ≠ 3) (h4 : x.kind ≠ 4) :
    Calls Tryd.prog 32 #[v, .agg #[.string x.key, .int .i64 x.kind, .string x.of, .string x.new, .string x.name, .slice A x.args.length c]] w (StepPost B l x w) := by
  have HE : Hid (stepE l x = 1) := Lib.hid (by unfold stepE; rw [if_neg h2, if_neg h3, if_neg h1, if_neg h4])
  have k1 : (x.kind == 1) = false := by simpa using h1
  have k2 : (x.kind == 2) = false := by simpa using h2
  have k3 : (x.kind == 3) = false := by simpa using h3
  have k4 : (x.kind == 4) = false := by simpa using h4
  clear h1 h2 h3 h4
  go_enter Tryd.func32, Tryd.ntmps32
  go_wp2_with fail
  go_ret2
  exact .inr ⟨by rw [HE.out]; decide, by rw [HE.out]; rfl, ((Below.refl _ _).alloc (Nat.le_refl _) _).mono hB⟩

/-- the last part of an amendment: the row i is written -/
theorem amend_fin {B : Nat} {l : List Out} {x : Cmd} {g c0 i : Nat} {w w3 w4 : World} {A4 : Option Addr} {c4 : Nat} (hi : i < l.length) (O3 : Owned B 45 5 l.length (rowsOut l) w3 (.slice (some ⟨g, 0, none⟩) l.length c0)) (hgB : B ≤ g) (hg3 : g < w3.heap.size) (hB3 : B ≤ w3.heap.size) (B3 : Below B w w3) (hb4 : Below w3.heap.size w3 w4)
    (hr4 : Rd (Bt w3.heap.size w4.heap.size) w4 (vs x.args) (.slice A4 x.args.length c4)) :
    Owned B 45 5 (l.set i (made x)).length (rowsOut (l.set i (made x))) (w4.setCells g (i * 5) [.string x.new, .string x.name, .slice A4 x.args.length c4, .bool false, .int .i64 0]) (.slice (some ⟨g, 0, none⟩) l.length c0) ∧
    Below B w (w4.setCells g (i * 5) [.string x.new, .string x.name, .slice A4 x.args.length c4, .bool false, .int .i64 0]) := by
  refine ⟨?_, below_setCells g hgB _ _ (B3.trans (hb4.mono hB3))⟩
  rw [List.length_set]
  refine (O3.below hb4).setRow (i := i) hi rfl (fun j u hj => ?_) (fun a _ hne => rowsOut_set_ne l i a _ hne)
  rw [rowsOut_set l i _ hi]
  refine cells_rdOut (x := made x) ?_ j u hj
  refine hr4.weaken (fun b hb => ?_)
  have h1 : w3.heap.size ≤ b := hb.1
  exact ⟨⟨by omega, hb.2⟩, by omega⟩

set_option maxHeartbeats 800000 in
set_option maxRecDepth 100000 in
theorem step_amend (B : Nat) (l : List Out) (x : Cmd) (v : Value) (A : Option Addr) (c : Nat) (w : World) (hO : Owned B 45 5 l.length (rowsOut l) w v) (hn : l.length ≤ 2097152) (hB : B ≤ w.heap.size) (hk : x.kind = 4)
    (hx : Rd (Lt B) w (vs x.args) (.slice A x.args.length c)) (hxb : bulkV x.args ≤ 2097152) :
    Calls Tryd.prog 32 #[v, .agg #[.string x.key, .int .i64 x.kind, .string x.of, .string x.new, .string x.name, .slice A x.args.length c]] w (StepPost B l x w) := by
  obtain ⟨A0, c0, rfl, hr⟩ := hO.form
  have hE : stepE l x = if findI l x.of < 0 then 5 else if x.new.toList.isEmpty then 1 else if (x.new.toList == x.of.toList) = false ∧ 0 ≤ findI l x.new then 4 else 0 := by
    unfold stepE; rw [if_neg (by omega), if_neg (by omega), if_neg (by omega), if_pos hk]
  have hX : stepR l x = l.set (findI l x.of).toNat (made x) := by unfold stepR; rw [if_neg (by omega), if_neg (by omega), if_neg (by omega)]
  rw [hk]
  have HEE := Lib.hid hE
  have HXX := Lib.hid hX
  have HO := Lib.hid hO
  have HR := Lib.hid hr
  have HXR := Lib.hid hx
  have HF := Lib.hid (findI_cases l x.of)
  have HF2 := Lib.hid (findI_cases l x.new)
  clear hO hr hk hE hX hx
  go_enter Tryd.func32, Tryd.ntmps32
  go_wp2_with fail
  (with_reducible refine (find_any l A0 l.length c0 x.of _ ?_ (by omega)).mono ?_)
  · exact HR.out.allocs _
  rintro e w2 ⟨rfl, hb⟩
  have hfi : idx (hasKey x.of) l = findI l x.of := rfl
  rw [hfi]
  clear hfi
  have bx1 : w2.cell? ⟨w.heap.size, 1, none⟩ = some (.int .i64 4) := (hb.cell (p := ⟨w.heap.size, 1, none⟩) (by simp)).trans (by simp)
  have bx2 : w2.cell? ⟨w.heap.size, 2, none⟩ = some (.string x.of) := (hb.cell (p := ⟨w.heap.size, 2, none⟩) (by simp)).trans (by simp)
  have bx3 : w2.cell? ⟨w.heap.size, 3, none⟩ = some (.string x.new) := (hb.cell (p := ⟨w.heap.size, 3, none⟩) (by simp)).trans (by simp)
  have bx4 : w2.cell? ⟨w.heap.size, 4, none⟩ = some (.string x.name) := (hb.cell (p := ⟨w.heap.size, 4, none⟩) (by simp)).trans (by simp)
  have bx5 : w2.cell? ⟨w.heap.size, 5, none⟩ = some (.slice A x.args.length c) := (hb.cell (p := ⟨w.heap.size, 5, none⟩) (by simp)).trans (by simp)
  have hbw : Below w.heap.size w w2 := ((Below.refl _ _).alloc (Nat.le_refl _) _).trans (hb.mono (by simp))
  have hw2 : w.heap.size < w2.heap.size := by have := hb.size; simp at this; omega
  have O2 := Lib.hid (HO.out.below hbw)
  have B2 := Lib.hid (hbw.mono hB)
  clear hb hbw
  rcases HF.out with hf | ⟨i, o, hf, hi, hg, hp⟩
  · rw [hf]
    have HE : Hid (stepE l x = 5) := Lib.hid (by rw [HEE.out, hf]; rfl)
    clear hf
    go_wp2_with fail
    go_ret2
    exact .inr ⟨by rw [HE.out]; decide, by rw [HE.out]; rfl, B2.out⟩
  rw [hf]
  have hE2 : stepE l x = if x.new.toList.isEmpty then 1 else if (x.new.toList == x.of.toList) = false ∧ 0 ≤ findI l x.new then 4 else 0 := by
    rw [HEE.out, hf]; exact if_neg (by omega)
  have HX : Hid (stepR l x = l.set i (made x)) := Lib.hid (by rw [HXX.out, hf, Int.toNat_natCast])
  have HE2 := Lib.hid hE2
  clear hf hg hp hE2 HEE HXX
  cases hem : x.new.toList.isEmpty with
  | true =>
    have HE : Hid (stepE l x = 1) := Lib.hid (by rw [HE2.out, hem]; rfl)
    have hnil : x.new.toList = [] := by simpa using hem
    go_wp2_with fail
    go_ret2
    exact .inr ⟨by rw [HE.out]; decide, by rw [HE.out]; rfl, B2.out⟩
  | false =>
    have hE3 : stepE l x = if (x.new.toList == x.of.toList) = false ∧ 0 ≤ findI l x.new then 4 else 0 := by rw [HE2.out, hem]; rfl
    have HE3 := Lib.hid hE3
    clear hE3 HE2
    have hil : ((i : Int) == (l.length : Int)) = false := by simp; omega
    obtain ⟨g, rfl⟩ : ∃ g, A0 = some ⟨g, 0, none⟩ := by
      rcases O2.out with ⟨_, h0⟩ | ⟨g, c', hv, _⟩
      · omega
      · injection hv with hv; exact ⟨g, hv⟩
    obtain ⟨hgB, hg0⟩ : B ≤ g ∧ g < w.heap.size := by
      rcases HO.out with ⟨_, h0⟩ | ⟨g', c', hv, hB', _, _, hbk, _⟩
      · omega
      · injection hv with hv; injection hv with hv; injection hv with hv; subst hv; exact ⟨hB', hbk.lt⟩
    have hgw : w.heap.size ≠ g := by omega
    have il0 : (0 : Int) ≤ (i : Int) := by omega
    have il1 : (i : Int) < (l.length : Int) := by omega
    -- the way to the store, in whatever world the search for the new key has left
    cases hof : (x.new.toList == x.of.toList) with
    | true =>
      have hof2 : (x.new.toList != x.of.toList) = false := by rw [bne, hof]; rfl
      have HE : Hid (stepE l x = 0) := Lib.hid (by rw [HE3.out, hof]; exact if_neg (fun h => by cases h.1))
      have X2 : Hid (Rd (Lt w2.heap.size) w2 (vs x.args) (.slice A x.args.length c)) := Lib.hid ((HXR.out.below B2.out (fun _ h => h)).weaken (fun b hb => by unfold Lt at *; omega))
      obtain ⟨fz, hsm⟩ : (∀ j, w2.frozen? ⟨g, j, none⟩ = false) ∧ (∀ j, j < l.length * 5 → (w2.cell? ⟨g, j, none⟩).isSome = true) := by
        rcases O2.out with ⟨_, h0⟩ | ⟨g', c', hv, _, hnc, _, hbk, _⟩
        · omega
        · injection hv with hv _ hv3
          injection hv with hv; injection hv with hv; subst hv hv3
          exact ⟨hbk.frozen, fun j hj => hbk.some (by omega)⟩
      have FZ := Lib.hid fz
      have SM := Lib.hid hsm
      clear fz hsm
      have e3 : w2.drew.cell? ⟨w.heap.size, 3, none⟩ = some (.string x.new) := bx3
      have e4 : w2.drew.cell? ⟨w.heap.size, 4, none⟩ = some (.string x.name) := bx4
      have e5 : w2.drew.cell? ⟨w.heap.size, 5, none⟩ = some (.slice A x.args.length c) := bx5
      go_wp2_with fail
      go_region_held3 (fun W => W.cell? ⟨w.heap.size, 3, none⟩ = some (.string x.new) ∧ W.cell? ⟨w.heap.size, 4, none⟩ = some (.string x.name) ∧ W.cell? ⟨w.heap.size, 5, none⟩ = some (.slice A x.args.length c)) (first | with_reducible exact ⟨bx3, bx4, bx5⟩ | with_reducible exact ⟨e3, e4, e5⟩ | with_reducible exact ⟨y3, y4, y5⟩ | exact ⟨(far5 hgw).trans y3, (far5 hgw).trans y4, (far5 hgw).trans y5⟩)
        (first | (go_at_call 48; refine (clone_values (l := x.args) ?_ hxb).mono ?_; (exact X2.out.drew); rintro e w4 ⟨v4, rfl, hr4, hb4⟩; obtain ⟨A4, c4, rfl, _⟩ := hr4.sl_inv; have y3 : w4.cell? ⟨w.heap.size, 3, none⟩ = some (.string x.new) := (hb4.cell (p := ⟨w.heap.size, 3, none⟩) hw2).trans bx3; have y4 : w4.cell? ⟨w.heap.size, 4, none⟩ = some (.string x.name) := (hb4.cell (p := ⟨w.heap.size, 4, none⟩) hw2).trans bx4; have y5 : w4.cell? ⟨w.heap.size, 5, none⟩ = some (.slice A x.args.length c) := (hb4.cell (p := ⟨w.heap.size, 5, none⟩) hw2).trans bx5; have f4 : ∀ j, w4.frozen? ⟨g, j, none⟩ = false := fun j => (hb4.frozen (p := ⟨g, j, none⟩) (by show g < w2.heap.size; omega)).trans (FZ.out j); obtain ⟨u0, u1, u2, u3, u4, hu0, hu1, hu2, hu3, hu4⟩ := five_cells (w := w4) (g := g) (o := i * 5) (n := l.length * 5) (fun j hj => by rw [hb4.cell (p := ⟨g, j, none⟩) (by show g < w2.heap.size; omega)]; exact SM.out j hj) (by omega); have R4 := Lib.hid hr4; have B4 := Lib.hid hb4; clear hr4 hb4))
      have FIN := Lib.hid (amend_fin (x := x) hi O2.out hgB (by omega) (by omega) B2.out (((Below.refl w2.heap.size w2).drew).trans B4.out) R4.out)
      go_wp2_with fail
      go_ret2
      refine .inl ⟨HE.out, .slice (some ⟨g, 0, none⟩) l.length c0, rfl, ?_, FIN.out.2⟩
      rw [HX.out]
      exact FIN.out.1
    | false =>
      have hof2 : (x.new.toList != x.of.toList) = true := by rw [bne, hof]; rfl
      go_wp2_with fail
      (with_reducible refine (find_any l (some ⟨g, 0, none⟩) l.length c0 x.new w2 ?_ (by omega)).mono ?_)
      · exact O2.out.rd.weaken (fun b hb => hb.2)
      rintro e w3 ⟨rfl, hb⟩
      have hfi : idx (hasKey x.new) l = findI l x.new := rfl
      rw [hfi]
      clear hfi
      have d3 := (hb.cell (p := ⟨w.heap.size, 3, none⟩) hw2).trans bx3
      have d4 := (hb.cell (p := ⟨w.heap.size, 4, none⟩) hw2).trans bx4
      have d5 := (hb.cell (p := ⟨w.heap.size, 5, none⟩) hw2).trans bx5
      have O3 := Lib.hid (O2.out.below hb)
      have B3 := Lib.hid (B2.out.trans (hb.mono (by omega)))
      have hz3 := hb.size
      clear hb bx1 bx2 bx3 bx4 bx5
      rcases HF2.out with hf | ⟨i', o', hf, hi', hg', hp'⟩
      · rw [hf]
        have HE : Hid (stepE l x = 0) := Lib.hid (by rw [HE3.out, hf]; exact if_neg (fun h => by have := h.2; omega))
        clear hf
        have X3 : Hid (Rd (Lt w3.heap.size) w3 (vs x.args) (.slice A x.args.length c)) := Lib.hid ((HXR.out.below B3.out (fun _ h => h)).weaken (fun b hb => by unfold Lt at *; omega))
        obtain ⟨fz, hsm⟩ : (∀ j, w3.frozen? ⟨g, j, none⟩ = false) ∧ (∀ j, j < l.length * 5 → (w3.cell? ⟨g, j, none⟩).isSome = true) := by
          rcases O3.out with ⟨_, h0⟩ | ⟨g', c', hv, _, hnc, _, hbk, _⟩
          · omega
          · injection hv with hv _ hv3
            injection hv with hv; injection hv with hv; subst hv hv3
            exact ⟨hbk.frozen, fun j hj => hbk.some (by omega)⟩
        have FZ := Lib.hid fz
        have SM := Lib.hid hsm
        clear fz hsm
        have e3 : w3.drew.cell? ⟨w.heap.size, 3, none⟩ = some (.string x.new) := d3
        have e4 : w3.drew.cell? ⟨w.heap.size, 4, none⟩ = some (.string x.name) := d4
        have e5 : w3.drew.cell? ⟨w.heap.size, 5, none⟩ = some (.slice A x.args.length c) := d5
        have hw3 : w.heap.size < w3.heap.size := by omega
        go_wp2_with fail
        go_region_held3 (fun W => W.cell? ⟨w.heap.size, 3, none⟩ = some (.string x.new) ∧ W.cell? ⟨w.heap.size, 4, none⟩ = some (.string x.name) ∧ W.cell? ⟨w.heap.size, 5, none⟩ = some (.slice A x.args.length c)) (first | with_reducible exact ⟨d3, d4, d5⟩ | with_reducible exact ⟨e3, e4, e5⟩ | with_reducible exact ⟨y3, y4, y5⟩ | exact ⟨(far5 hgw).trans y3, (far5 hgw).trans y4, (far5 hgw).trans y5⟩)
          (first | (go_at_call 48; refine (clone_values (l := x.args) ?_ hxb).mono ?_; (exact X3.out.drew); rintro e w4 ⟨v4, rfl, hr4, hb4⟩; obtain ⟨A4, c4, rfl, _⟩ := hr4.sl_inv; have y3 : w4.cell? ⟨w.heap.size, 3, none⟩ = some (.string x.new) := (hb4.cell (p := ⟨w.heap.size, 3, none⟩) hw3).trans d3; have y4 : w4.cell? ⟨w.heap.size, 4, none⟩ = some (.string x.name) := (hb4.cell (p := ⟨w.heap.size, 4, none⟩) hw3).trans d4; have y5 : w4.cell? ⟨w.heap.size, 5, none⟩ = some (.slice A x.args.length c) := (hb4.cell (p := ⟨w.heap.size, 5, none⟩) hw3).trans d5; have f4 : ∀ j, w4.frozen? ⟨g, j, none⟩ = false := fun j => (hb4.frozen (p := ⟨g, j, none⟩) (by show g < w3.heap.size; omega)).trans (FZ.out j); obtain ⟨u0, u1, u2, u3, u4, hu0, hu1, hu2, hu3, hu4⟩ := five_cells (w := w4) (g := g) (o := i * 5) (n := l.length * 5) (fun j hj => by rw [hb4.cell (p := ⟨g, j, none⟩) (by show g < w3.heap.size; omega)]; exact SM.out j hj) (by omega); have R4 := Lib.hid hr4; have B4 := Lib.hid hb4; clear hr4 hb4))
        have FIN := Lib.hid (amend_fin (x := x) hi O3.out hgB (by omega) (by omega) B3.out (((Below.refl w3.heap.size w3).drew).trans B4.out) R4.out)
        go_wp2_with fail
        go_ret2
        refine .inl ⟨HE.out, .slice (some ⟨g, 0, none⟩) l.length c0, rfl, ?_, FIN.out.2⟩
        rw [HX.out]
        exact FIN.out.1
      · rw [hf]
        have HE : Hid (stepE l x = 4) := Lib.hid (by rw [HE3.out, hf, hof]; exact if_pos ⟨rfl, by omega⟩)
        clear hf hg' hp'
        go_wp2_with fail
        go_ret2
        exact .inr ⟨by rw [HE.out]; decide, by rw [HE.out]; rfl, B3.out⟩

/-- net.step -/
theorem step_any (B : Nat) (l : List Out) (x : Cmd) (v : Value) (A : Option Addr) (c : Nat) (w : World) (hO : Owned B 45 5 l.length (rowsOut l) w v) (hn : l.length ≤ 2097152) (hB : B ≤ w.heap.size)
    (hx : Rd (Lt B) w (vs x.args) (.slice A x.args.length c)) (hxb : bulkV x.args ≤ 2097152) :
    Calls Tryd.prog 32 #[v, .agg #[.string x.key, .int .i64 x.kind, .string x.of, .string x.new, .string x.name, .slice A x.args.length c]] w (StepPost B l x w) := by
  by_cases h1 : x.kind = 1
  · exact step_do B l x v A c w hO hn hB h1 hx hxb
  by_cases h2 : x.kind = 2
  · exact step_undo B l x v A c w hO hn hB h2
  by_cases h3 : x.kind = 3
  · exact step_part B l x v A c w hO hn hB h3
  by_cases h4 : x.kind = 4
  · exact step_amend B l x v A c w hO hn hB h4 hx hxb
  · exact step_other B l x v A c w hB h1 h2 h3 h4
end Go.Proofs.YtlnfdpdancolmaaDoor
