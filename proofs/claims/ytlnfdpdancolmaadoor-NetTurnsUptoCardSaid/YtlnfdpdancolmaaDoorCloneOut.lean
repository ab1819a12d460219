/- clone of Out: a copy in new memory, and a slice of copies (written by wip/tools/gen_clone.py). Conditions: those in each statement. -/
import Derived.Test.YtlnfdpdancolmaaDoorEach
namespace Go.Proofs.YtlnfdpdancolmaaDoor
open Go.RowKit

theorem infoOut : (Tryd.prog.info? 45).map (fun i => (i.zero, i.size, i.bytes)) = some (some (.agg #[.string ⟨#[]⟩, .string ⟨#[]⟩, .slice none 0 0, .bool false, .int .i64 0]), 5, 72) := by kernel_rfl

def CloneOutPost (x : Out) (w : World) (e : Ending) (w' : World) : Prop :=
  ∃ A c, e = .returned (.agg #[.string x.key, .string x.name, .slice A x.args.length c, .bool x.part, .int .i64 x.tick]) ∧ Rd (Bt w.heap.size w'.heap.size) w' (vs x.args) (.slice A x.args.length c) ∧ Below w.heap.size w w'

set_option maxHeartbeats 1000000 in
theorem clone_Out (x : Out) (A : Option Addr) (c : Nat) (w : World) (hr : Rd (Lt w.heap.size) w (vs x.args) (.slice A x.args.length c)) (hbk : bulkV x.args ≤ 2097152) :
    Calls Tryd.prog 46 #[.agg #[.string x.key, .string x.name, .slice A x.args.length c, .bool x.part, .int .i64 x.tick]] w (CloneOutPost x w) := by
  have HR := Lib.hid hr
  clear hr
  go_enter Tryd.func46, Tryd.ntmps46
  go_wp2_with fail
  (with_reducible refine (clone_values (l := x.args) ?_ hbk).mono ?_)
  · exact (HR.out.allocs _).allocs _
  rintro e w3 ⟨v, rfl, hr, hb⟩
  obtain ⟨A', c', rfl, _⟩ := hr.sl_inv
  have q0 : w3.cell? ⟨w.heap.size, 0, none⟩ = some (.string x.key) := (hb.cell (p := ⟨w.heap.size, 0, none⟩) (by simp; omega)).trans (by simp)
  have q1 : w3.cell? ⟨w.heap.size, 1, none⟩ = some (.string x.name) := (hb.cell (p := ⟨w.heap.size, 1, none⟩) (by simp; omega)).trans (by simp)
  have q2 : w3.cell? ⟨w.heap.size, 2, none⟩ = some (.slice A x.args.length c) := (hb.cell (p := ⟨w.heap.size, 2, none⟩) (by simp; omega)).trans (by simp)
  have q3 : w3.cell? ⟨w.heap.size, 3, none⟩ = some (.bool x.part) := (hb.cell (p := ⟨w.heap.size, 3, none⟩) (by simp; omega)).trans (by simp)
  have q4 : w3.cell? ⟨w.heap.size, 4, none⟩ = some (.int .i64 x.tick) := (hb.cell (p := ⟨w.heap.size, 4, none⟩) (by simp; omega)).trans (by simp)
  have z0 : w3.cell? ⟨w.heap.size + 1, 0, none⟩ = some (.string ⟨#[]⟩) := (hb.cell (p := ⟨w.heap.size + 1, 0, none⟩) (by simp)).trans (by simp)
  have z1 : w3.cell? ⟨w.heap.size + 1, 1, none⟩ = some (.string ⟨#[]⟩) := (hb.cell (p := ⟨w.heap.size + 1, 1, none⟩) (by simp)).trans (by simp)
  have z2 : w3.cell? ⟨w.heap.size + 1, 2, none⟩ = some (.slice none 0 0) := (hb.cell (p := ⟨w.heap.size + 1, 2, none⟩) (by simp)).trans (by simp)
  have z3 : w3.cell? ⟨w.heap.size + 1, 3, none⟩ = some (.bool false) := (hb.cell (p := ⟨w.heap.size + 1, 3, none⟩) (by simp)).trans (by simp)
  have z4 : w3.cell? ⟨w.heap.size + 1, 4, none⟩ = some (.int .i64 0) := (hb.cell (p := ⟨w.heap.size + 1, 4, none⟩) (by simp)).trans (by simp)
  have f0 : ∀ j, w3.frozen? ⟨w.heap.size, j, none⟩ = false := fun j => (hb.frozen (p := ⟨w.heap.size, j, none⟩) (by simp; omega)).trans (by simp)
  have f1 : ∀ j, w3.frozen? ⟨w.heap.size + 1, j, none⟩ = false := fun j => (hb.frozen (p := ⟨w.heap.size + 1, j, none⟩) (by simp)).trans (by simp)
  have hz := hb.size
  have HB := Lib.hid hb
  have HR3 := Lib.hid hr
  clear hb hr
  simp only [World.size_alloc] at hz
  go_wp2_with fail
  refine bodyPost_ret (v := .agg #[.string x.key, .string x.name, .slice A' x.args.length c', .bool x.part, .int .i64 x.tick]) (by simp [results, Tryd.results46, go_sem, z0, z1, z2, z3, z4]) rfl ⟨A', c', rfl, ?_, ?_⟩
  · have h0 : ∀ b, Bt (w.heap.size + 1 + 1) w3.heap.size b → b ≠ w.heap.size := fun b hb => by have := hb.1; omega
    have h1 : ∀ b, Bt (w.heap.size + 1 + 1) w3.heap.size b → b ≠ w.heap.size + 1 := fun b hb => by have := hb.1; omega
    have hr : Rd (Bt (w.heap.size + 1 + 1) w3.heap.size) w3 (vs x.args) (.slice A' x.args.length c') := by simpa using HR3.out
    refine Rd.weaken (ok := Bt (w.heap.size + 1 + 1) w3.heap.size) (fun b hb => ⟨by have := hb.1; omega, by simp only [size_setCell]; exact hb.2⟩) ?_
    exact (((((hr.setCell h0 _).setCell h1 _).setCell h1 _).setCell h1 _).setCell h1 _).setCell h1 _
  · have hb : Below w.heap.size w w3 := (((Below.refl _ _).alloc (Nat.le_refl _) _).alloc (by simp) _).trans (HB.out.mono (by simp; omega))
    exact (((((hb.setCell (Nat.le_refl _) _).setCell (by simp) _).setCell (by simp) _).setCell (by simp) _).setCell (by simp) _).setCell (by simp) _

set_option maxHeartbeats 1000000 in
theorem each_Out (l : List Out) (A : Option Addr) (n c : Nat) (w : World) (hr : Rd (Lt w.heap.size) w (slOut l) (.slice A n c)) (hb : bulkOut l ≤ 2097152) :
    Calls Tryd.prog 45 #[.slice A n c, .func (.func 46) #[] #[]] w (OwnPost 45 5 l.length (rowsOut l) w) := by
  have hl := slOut_len hr
  have hn : n ≤ 2097152 := by have := bulkOut_len l; omega
  obtain ⟨i0, hi, hz0, hz1, hz2⟩ := info_parts infoOut
  have q22 : ∀ (w : World) (a : Option Addr) (n c n' c' : Nat), (binOp .eql 22 (.slice a n c) (.slice none n' c')).run Tryd.prog w = .ok (.bool a.isNone) w := fun w a n c n' c' => Lib.run_eql_slice_nil w _ _ a n c n' c' Tryd.underlying22
  have HR := Lib.hid hr
  have HL := Lib.hid hl.1
  have HBK := Lib.hid hb
  cases A with
  | none =>
    have hz : n = 0 := by
      rcases Nat.eq_zero_or_pos n with h | h
      · exact h
      · obtain ⟨b, off, _, e, _⟩ := slOut_at hr h
        cases e
    subst hz
    clear hr hl hb
    go_enter Tryd.func45, Tryd.ntmps45
    go_wp2_with fail
    go_ret
    refine ⟨.slice none 0 0, rfl, ?_, Below.refl _ _⟩
    have := HL.out
    rw [← this]
    exact Owned.nil _ _ _ _ _
  | some ad =>
    have hmk : ∀ W : World, (Instr.makeSlice 22 (.int .i64 (n : Int)) (.int .i64 (n : Int))).run Tryd.prog W = .ok (.slice (some ⟨W.heap.size, 0, none⟩) n n) (W.alloc (.cells (madeCells (Value.agg #[.string ⟨#[]⟩, .string ⟨#[]⟩, .slice none 0 0, .bool false, .int .i64 0]).cells (n * 5)) 45)) := fun W => by
      have := run_make_rowN (P := Tryd.prog) 22 45 i0 _ Tryd.underlying22 hi hz0 .i64 .i64 n n (Nat.le_refl _) (by rw [hz2]; omega) (by omega) W
      rw [hz1] at this
      exact this
    clear hr hl hb
    generalize hmd : madeCells (Value.agg #[.string ⟨#[]⟩, .string ⟨#[]⟩, .slice none 0 0, .bool false, .int .i64 0]).cells (n * 5) = made at hmk
    have hms : made.size = n * 5 := by rw [← hmd]; exact size_madeCells _ _
    have HMS := Lib.hid hms
    clear hmd hms
    go_enter Tryd.func45, Tryd.ntmps45
    go_wp2_with fail
    go_loopw [15] (fun i wr => ∃ k : Nat, k ≤ n ∧ i = .int .i64 k ∧ Hid (Filled 45 (w.heap.size + 1) w.heap.size 5 n k (rowsOut l) wr) ∧ Hid (Below w.heap.size w wr)) (fun i _ => n - (intOf i).toNat)
    case atStart =>
      refine ⟨0, by omega, rfl, Lib.hid ⟨?_, fun a ha => absurd ha (by omega)⟩, Lib.hid ((Below.refl _ _).alloc (Nat.le_refl _) _)⟩
      rw [← HMS.out]
      exact Blk.new _ _ _
    case round =>
      obtain ⟨k, hk, rfl, HF, HB⟩ := hrel
      by_cases hlt : k < n
      · obtain ⟨b, off, x, e, hlb, hget, A', c', h2⟩ := slOut_at (HR.out.below HB.out (fun _ h => h)) hlt
        injection e with e
        subst e
        obtain ⟨d0, d1, d2, d3, d4, r5⟩ := h2
        have hbs := HB.out.size
        have hxb : bulkV x.args ≤ 2097152 := by have := bulkOut_get hget; unfold Out.bulk at this; have := HBK.out; omega
        have R5 := Lib.hid (r5.weaken (ok' := Lt wr.heap.size) (fun b hb => Nat.lt_of_lt_of_le hb hbs))
        have HG := Lib.hid hget
        clear r5 hget
        go_wp2_with fail
        (with_reducible refine (clone_Out x A' c' _ ?_ hxb).mono ?_)
        · exact R5.out.allocs _
        rintro e w4 ⟨A4, c4', rfl, hr4, hb4⟩
        simp only [World.size_alloc] at hr4
        have hbr : Below wr.heap.size wr w4 := ((Below.refl _ _).alloc (Nat.le_refl _) _).trans (hb4.mono (by simp))
        have F4 := Lib.hid (HF.out.below hbr)
        have B4 := Lib.hid (HB.out.trans (hbr.mono hbs))
        have f0 := F4.out.1.frozen
        have h4s := fun j (hj : j < n * 5) => F4.out.1.some hj
        obtain ⟨u0, hu0⟩ : ∃ u, w4.cell? ⟨w.heap.size, k * 5, none⟩ = some u := Option.isSome_iff_exists.1 (h4s (k * 5) (by omega))
        obtain ⟨u1, hu1⟩ : ∃ u, w4.cell? ⟨w.heap.size, k * 5 + 1, none⟩ = some u := Option.isSome_iff_exists.1 (h4s (k * 5 + 1) (by omega))
        obtain ⟨u2, hu2⟩ : ∃ u, w4.cell? ⟨w.heap.size, k * 5 + 2, none⟩ = some u := Option.isSome_iff_exists.1 (h4s (k * 5 + 2) (by omega))
        obtain ⟨u3, hu3⟩ : ∃ u, w4.cell? ⟨w.heap.size, k * 5 + 3, none⟩ = some u := Option.isSome_iff_exists.1 (h4s (k * 5 + 3) (by omega))
        obtain ⟨u4, hu4⟩ : ∃ u, w4.cell? ⟨w.heap.size, k * 5 + 4, none⟩ = some u := Option.isSome_iff_exists.1 (h4s (k * 5 + 4) (by omega))
        have HS : Hid (Filled 45 (w.heap.size + 1) w.heap.size 5 n (k + 1) (rowsOut l) (w4.setCells w.heap.size (k * 5) [Value.string x.key, .string x.name, .slice A4 x.args.length c4', .bool x.part, .int .i64 x.tick])) := Lib.hid (F4.out.step (by omega) hlt rfl (fun j u hj => by
          rw [rowsOut_get HG.out]
          exact cells_rdOut (hr4.weaken (fun b hb => ⟨by have := hb.1; omega, hb.2⟩)) j u hj))
        have HT : Hid (Below w.heap.size w (w4.setCells w.heap.size (k * 5) [Value.string x.key, .string x.name, .slice A4 x.args.length c4', .bool x.part, .int .i64 x.tick])) := Lib.hid (below_setCells _ (Nat.le_refl _) _ _ B4.out)
        clear h4s hb4 hr4 hbr
        go_wp2_with fail
        exact ⟨⟨k + 1, by omega, by go_num, HS, HT⟩, by simp [intOf]; omega⟩
      · obtain rfl : k = n := by omega
        go_wp2_with fail
        go_ret
        refine ⟨_, rfl, ?_, HB.out⟩
        have := HL.out
        have hd := HF.out.done (by omega) w.heap.size (Nat.le_refl _) (by omega)
        rw [← this]
        exact hd
end Go.Proofs.YtlnfdpdancolmaaDoor
