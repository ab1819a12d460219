/- event.copies: copies of values at all levels. Conditions: those in each statement. -/
import Derived.Test.YtlbmfgiepcemdaaDecP
import Derived.Laws.MakeOwn
namespace Go.Proofs.Ytlbmfgiepcemdaa
open Go.RowKit

theorem run_make_rowN {P : Program} (t e : TypeId) (i : TypeInfo) (z : Value) (ht : P.underlying t = some (.slice e)) (hi : P.info? e = some i) (hz : i.zero = some z)
    (kl kc : IntKind) (n c : Nat) (hnc : n ≤ c) (hbytes : i.bytes * c ≤ 281474976710656) (h63 : c ≤ 9223372036854775807) (w : World) :
    (Instr.makeSlice t (.int kl (n : Int)) (.int kc (c : Int))).run P w = .ok (.slice (some ⟨w.heap.size, 0, none⟩) n c) (w.alloc (.cells (madeCells z.cells (c * i.size)) e)) := by
  have hb : (i.bytes : Int) * (c : Int) ≤ 281474976710656 := by
    have h : ((i.bytes * c : Nat) : Int) ≤ 281474976710656 := by omega
    rwa [Int.natCast_mul] at h
  have hr := run_make (P := P) w t e i z ht hi hz kl kc n c (by omega) (by omega) hb (by omega)
  simp only [Int.toNat_natCast] at hr
  exact hr
theorem infoV : (Try.prog.info? 28).map (fun i => (i.zero, i.size, i.bytes)) = some (some (.agg #[.int .i64 0, .string ⟨#[]⟩, .int .i64 0, .int .i64 0, .string ⟨#[]⟩, .slice none 0 0]), 6, 80) := by kernel_rfl

set_option maxHeartbeats 1000000 in
theorem copies_any : ∀ (N : Nat) (l : List V), bulkV l ≤ N → N ≤ 2097152 → ∀ (A : Option Addr) (n c : Nat) (w : World), Rd (Lt w.heap.size) w (vs l) (.slice A n c) →
    Calls Try.prog 34 #[.slice A n c] w (ClonePost (vs l) w) := by
  intro N
  induction N with
  | zero =>
    intro l hb hN A n c w hr
    obtain ⟨rfl, _⟩ := vs_len hr
    have hz : l = [] := List.eq_nil_of_length_eq_zero (by have := bulkV_len l; omega)
    subst hz
    clear hr hb
    go_enter Try.func34, Try.ntmps34
    go_wp2_with fail
    go_ret
    exact ⟨.slice none 0 0, rfl, Rd.sl_nil, Below.refl _ _⟩
  | succ N ih =>
    intro l hb hN A n c w hr
    obtain ⟨rfl, hn1, hn2⟩ := vs_len hr
    have hn : l.length ≤ 2097152 := by have := bulkV_len l; omega
    have HR := Lib.hid hr
    by_cases h0 : l.length = 0
    · have hz : l = [] := List.eq_nil_of_length_eq_zero h0
      subst hz
      clear hr ih hb
      go_enter Try.func34, Try.ntmps34
      go_wp2_with fail
      go_ret
      exact ⟨.slice none 0 0, rfl, Rd.sl_nil, Below.refl _ _⟩
    · have hne : ((l.length : Int) == 0) = false := by rw [beq_eq_false_iff_ne]; omega
      obtain ⟨i0, hi, hz0, hz1, hz2⟩ := info_parts infoV
      have hmk : ∀ W : World, (Instr.makeSlice 26 (.int .i64 (l.length : Int)) (.int .i64 (l.length : Int))).run Try.prog W = .ok (.slice (some ⟨W.heap.size, 0, none⟩) l.length l.length) (W.alloc (.cells (madeCells (Value.agg #[.int .i64 0, .string ⟨#[]⟩, .int .i64 0, .int .i64 0, .string ⟨#[]⟩, .slice none 0 0]).cells (l.length * 6)) 28)) := fun W => by
        have := run_make_rowN (P := Try.prog) 26 28 i0 _ Try.underlying26 hi hz0 .i64 .i64 l.length l.length (Nat.le_refl _) (by rw [hz2]; omega) (by omega) W
        rw [hz1] at this
        exact this
      have HV : Hid (∀ (i : Nat) k t n m s l', l[i]? = some (V.mk k t n m s l') → ∀ W A c, Rd (Lt W.heap.size) W (vs l') (.slice A l'.length c) → Calls Try.prog 34 #[.slice A l'.length c] W (ClonePost (vs l') W)) := Lib.hid (fun i k t n m s l' h W A' c' hr' => by
        have hbk := bulkV_get _ _ _ h
        rw [bulk_mk] at hbk
        exact ih l' (by omega) (by omega) A' l'.length c' W hr')
      clear hr ih hb hi hz0 hz1 hz2
      generalize hmd : madeCells (Value.agg #[.int .i64 0, .string ⟨#[]⟩, .int .i64 0, .int .i64 0, .string ⟨#[]⟩, .slice none 0 0]).cells (l.length * 6) = made at hmk
      have hms : made.size = l.length * 6 := by rw [← hmd]; exact size_madeCells _ _
      have HMS := Lib.hid hms
      clear hmd hms
      go_enter Try.func34, Try.ntmps34
      go_wp2_with fail
      go_loopw [14] (fun i wr => ∃ k : Nat, k ≤ l.length ∧ i = .int .i64 k ∧ Hid (Filled 28 (w.heap.size + 1) w.heap.size 6 l.length k (rowsV l) wr) ∧ Hid (Below w.heap.size w wr)) (fun i _ => l.length - (intOf i).toNat)
      case atStart =>
        refine ⟨0, by omega, rfl, Lib.hid ⟨?_, fun a ha => absurd ha (by omega)⟩, Lib.hid ((Below.refl _ _).alloc (Nat.le_refl _) _)⟩
        rw [← HMS.out]
        exact Blk.new _ _ _
      case round =>
        obtain ⟨k, hk, rfl, HF, HB⟩ := hrel
        by_cases hlt : k < l.length
        · obtain ⟨b, off, kd, t, n', m, s, l', A', c', e, hlb, hget, h2⟩ := vs_at (HR.out.below HB.out (fun _ h => h)) hlt
          subst e
          obtain ⟨c0, c1, c2, c3, c4, c5, r5⟩ := h2
          have hbs := HB.out.size
          have hgl : w.heap.size < wr.heap.size := HF.out.1.lt
          have HC := Lib.hid (HV.out k kd t n' m s l' hget)
          have R5 := Lib.hid (r5.weaken (ok' := Lt wr.heap.size) (fun b hb => Nat.lt_of_lt_of_le hb hbs))
          have HG := Lib.hid hget
          clear r5 hget
          go_wp2_with fail
          (with_reducible refine (HC.out _ A' c' ?_).mono ?_)
          · exact R5.out.allocs _
          rintro e w4 ⟨v4, rfl, hr4, hb4⟩
          obtain ⟨A4, c4', rfl, _⟩ := hr4.sl_inv
          simp only [World.size_alloc] at hr4
          have hx4 : w4.heap[wr.heap.size]? = some (.cells #[.int .i64 kd, .string t, .int .i64 n', .int .i64 m, .string s, .slice A' l'.length c'] 28 (0, 0)) := (hb4.block _ (by simp)).trans (heap_alloc_new wr _)
          have X4 : CellsAt w4 wr.heap.size #[.int .i64 kd, .string t, .int .i64 n', .int .i64 m, .string s, .slice A' l'.length c'] 28 := hx4
          have x0 : w4.cell? ⟨wr.heap.size, 0, none⟩ = some (.int .i64 kd) := by rw [X4.cell]; rfl
          have x1 : w4.cell? ⟨wr.heap.size, 1, none⟩ = some (.string t) := by rw [X4.cell]; rfl
          have x2 : w4.cell? ⟨wr.heap.size, 2, none⟩ = some (.int .i64 n') := by rw [X4.cell]; rfl
          have x3 : w4.cell? ⟨wr.heap.size, 3, none⟩ = some (.int .i64 m) := by rw [X4.cell]; rfl
          have x4 : w4.cell? ⟨wr.heap.size, 4, none⟩ = some (.string s) := by rw [X4.cell]; rfl
          have x5 : w4.cell? ⟨wr.heap.size, 5, none⟩ = some (.slice A' l'.length c') := by rw [X4.cell]; rfl
          have xf := X4.fz
          have hbr : Below wr.heap.size wr (w4.setCell ⟨wr.heap.size, 5, none⟩ (.slice A4 l'.length c4')) := (((Below.refl _ _).alloc (Nat.le_refl _) _).trans (hb4.mono (by simp))).setCell (p := ⟨wr.heap.size, 5, none⟩) (Nat.le_refl _) _
          have F4 := Lib.hid (HF.out.below hbr)
          have B4 := Lib.hid (HB.out.trans (hbr.mono hbs))
          have hr5 : Rd (Bt (wr.heap.size + 1) w4.heap.size) (w4.setCell ⟨wr.heap.size, 5, none⟩ (.slice A4 l'.length c4')) (vs l') (.slice A4 l'.length c4') := hr4.setCell (p := ⟨wr.heap.size, 5, none⟩) (fun b hb => by have := hb.1; show b ≠ wr.heap.size; omega) _
          obtain ⟨w5, hw5⟩ : ∃ w5, w4.setCell ⟨wr.heap.size, 5, none⟩ (.slice A4 l'.length c4') = w5 := ⟨_, rfl⟩
          have hz5 : w5.heap.size = w4.heap.size := by rw [← hw5, size_setCell]
          have X5 : CellsAt w5 wr.heap.size #[.int .i64 kd, .string t, .int .i64 n', .int .i64 m, .string s, .slice A4 l'.length c4'] 28 := by
            have := X4.set 5 (.slice A4 l'.length c4')
            rw [hw5] at this
            simpa using this
          have y0 : w5.cell? ⟨wr.heap.size, 0, none⟩ = some (.int .i64 kd) := by rw [X5.cell]; rfl
          have y1 : w5.cell? ⟨wr.heap.size, 1, none⟩ = some (.string t) := by rw [X5.cell]; rfl
          have y2 : w5.cell? ⟨wr.heap.size, 2, none⟩ = some (.int .i64 n') := by rw [X5.cell]; rfl
          have y3 : w5.cell? ⟨wr.heap.size, 3, none⟩ = some (.int .i64 m) := by rw [X5.cell]; rfl
          have y4 : w5.cell? ⟨wr.heap.size, 4, none⟩ = some (.string s) := by rw [X5.cell]; rfl
          have y5 : w5.cell? ⟨wr.heap.size, 5, none⟩ = some (.slice A4 l'.length c4') := by rw [X5.cell]; rfl
          rw [hw5] at F4 B4 hr5
          have f0 := F4.out.1.frozen
          have h4s := fun j (hj : j < l.length * 6) => F4.out.1.some hj
          obtain ⟨u0, hu0⟩ : ∃ u, w5.cell? ⟨w.heap.size, k * 6, none⟩ = some u := Option.isSome_iff_exists.1 (h4s (k * 6) (by omega))
          obtain ⟨u1, hu1⟩ : ∃ u, w5.cell? ⟨w.heap.size, k * 6 + 1, none⟩ = some u := Option.isSome_iff_exists.1 (h4s (k * 6 + 1) (by omega))
          obtain ⟨u2, hu2⟩ : ∃ u, w5.cell? ⟨w.heap.size, k * 6 + 2, none⟩ = some u := Option.isSome_iff_exists.1 (h4s (k * 6 + 2) (by omega))
          obtain ⟨u3, hu3⟩ : ∃ u, w5.cell? ⟨w.heap.size, k * 6 + 3, none⟩ = some u := Option.isSome_iff_exists.1 (h4s (k * 6 + 3) (by omega))
          obtain ⟨u4, hu4⟩ : ∃ u, w5.cell? ⟨w.heap.size, k * 6 + 4, none⟩ = some u := Option.isSome_iff_exists.1 (h4s (k * 6 + 4) (by omega))
          obtain ⟨u5, hu5⟩ : ∃ u, w5.cell? ⟨w.heap.size, k * 6 + 5, none⟩ = some u := Option.isSome_iff_exists.1 (h4s (k * 6 + 5) (by omega))
          have HS : Hid (Filled 28 (w.heap.size + 1) w.heap.size 6 l.length (k + 1) (rowsV l) (w5.setCells w.heap.size (k * 6) [.int .i64 kd, .string t, .int .i64 n', .int .i64 m, .string s, .slice A4 l'.length c4'])) := Lib.hid (F4.out.step (by omega) hlt rfl (fun j u hj => by
            rw [rowsV_get l k _ HG.out]
            exact cells_rdV (hr5.weaken (fun b hb => ⟨by have := hb.1; omega, by have := hb.2; omega⟩)) j u hj))
          have HT : Hid (Below w.heap.size w (w5.setCells w.heap.size (k * 6) [.int .i64 kd, .string t, .int .i64 n', .int .i64 m, .string s, .slice A4 l'.length c4'])) := Lib.hid (below_setCells _ (Nat.le_refl _) _ _ B4.out)
          clear h4s hb4 hr4 hbr hr5 X4 X5 hx4 hz5
          go_wp2_with fail
          exact ⟨⟨k + 1, by omega, by go_num, HS, HT⟩, by simp [intOf]; omega⟩
        · obtain rfl : k = l.length := by omega
          go_wp2_with fail
          go_ret
          exact ⟨_, rfl, (HF.out.done (by omega) w.heap.size (Nat.le_refl _) (by omega)).rd, HB.out⟩
theorem copies_of {l : List V} {A : Option Addr} {n c : Nat} {w : World} (hb : bulkV l ≤ 2097152) (hr : Rd (Lt w.heap.size) w (vs l) (.slice A n c)) :
    Calls Try.prog 34 #[.slice A n c] w (ClonePost (vs l) w) := copies_any (bulkV l) l (Nat.le_refl _) hb A n c w hr
end Go.Proofs.Ytlbmfgiepcemdaa
