/- clone.Each at values: a new slice of copies. Conditions: those in each statement. -/
import Derived.Test.YtlnfdpdancolmaaDoorClone
import Derived.Laws.MakeOwn
namespace Go.Proofs.YtlnfdpdancolmaaDoor
open Go.RowKit

theorem run_make_rowN {P : Program} (t e : TypeId) (i : TypeInfo) (z : Value) (ht : P.underlying t = some (.slice e)) (hi : P.info? e = some i) (hz : i.zero = some z)
    (kl kc : IntKind) (n c : Nat) (hnc : n ≤ c) (hbytes : i.bytes * c ≤ 281474976710656) (h63 : c ≤ 9223372036854775807) (w : World) :
    (Instr.makeSlice t (.int kl (n : Int)) (.int kc (c : Int))).run P w = .ok (.slice (some ⟨w.heap.size, 0, none⟩) n c) (w.alloc (.cells (madeCells z.cells (c * i.size)) e)) := by
  have hb : (i.bytes : Int) * (c : Int) ≤ 281474976710656 := by
    have h : ((i.bytes * c : Nat) : Int) ≤ 281474976710656 := by omega
    rwa [Int.natCast_mul] at h
  have hr := run_make (P := P) w t e i z ht hi hz kl kc n c (by omega) (by omega) hb (by omega)
  simp only [Int.toNat_natCast] at hr
  exact hr

theorem infoV : (Tryd.prog.info? 52).map (fun i => (i.zero, i.size, i.bytes)) = some (some (.agg #[.int .i64 0, .string ⟨#[]⟩, .int .i64 0, .int .i64 0, .string ⟨#[]⟩, .slice none 0 0]), 6, 80) := by kernel_rfl

set_option maxHeartbeats 1000000 in
theorem eachV_of (l : List V) (A : Option Addr) (n c : Nat) (w : World) (hr : Rd (Lt w.heap.size) w (vs l) (.slice A n c)) (hb : bulkV l ≤ 2097152)
    (hv : ∀ (i : Nat) k t n m s l', l[i]? = some (V.mk k t n m s l') → ∀ W A c, Rd (Lt W.heap.size) W (vs l') (.slice A l'.length c) → Calls Tryd.prog 68 #[.agg #[.int .i64 k, .string t, .int .i64 n, .int .i64 m, .string s, .slice A l'.length c]] W (CloneVPost k t n m s l' W)) :
    Calls Tryd.prog 67 #[.slice A n c, .func (.func 68) #[] #[]] w (OwnPost 52 6 l.length (rowsV l) w) := by
  have hl := vs_len hr
  have hn : n ≤ 2097152 := by have := bulkV_len l; omega
  obtain ⟨i0, hi, hz0, hz1, hz2⟩ := info_parts infoV
  have q22 : ∀ (w : World) (a : Option Addr) (n c n' c' : Nat), (binOp .eql 30 (.slice a n c) (.slice none n' c')).run Tryd.prog w = .ok (.bool a.isNone) w := fun w a n c n' c' => Lib.run_eql_slice_nil w _ _ a n c n' c' Tryd.underlying30
  have HR := Lib.hid hr
  have HV := Lib.hid hv
  have HL := Lib.hid hl.1
  cases A with
  | none =>
    have hz : n = 0 := by
      rcases Nat.eq_zero_or_pos n with h | h
      · exact h
      · obtain ⟨b, off, _, _, _, _, _, _, _, _, e, _⟩ := vs_at hr h
        cases e
    subst hz
    clear hr hv hl hb
    go_enter Tryd.func67, Tryd.ntmps67
    go_wp2_with fail
    go_ret
    refine ⟨.slice none 0 0, rfl, ?_, Below.refl _ _⟩
    have := HL.out
    rw [← this]
    exact Owned.nil _ _ _ _ _
  | some ad =>
    have hmk : ∀ W : World, (Instr.makeSlice 30 (.int .i64 (n : Int)) (.int .i64 (n : Int))).run Tryd.prog W = .ok (.slice (some ⟨W.heap.size, 0, none⟩) n n) (W.alloc (.cells (madeCells (Value.agg #[.int .i64 0, .string ⟨#[]⟩, .int .i64 0, .int .i64 0, .string ⟨#[]⟩, .slice none 0 0]).cells (n * 6)) 52)) := fun W => by
      have := run_make_rowN (P := Tryd.prog) 30 52 i0 _ Tryd.underlying30 hi hz0 .i64 .i64 n n (Nat.le_refl _) (by rw [hz2]; omega) (by omega) W
      rw [hz1] at this
      exact this
    clear hr hv hl hb
    generalize hmd : madeCells (Value.agg #[.int .i64 0, .string ⟨#[]⟩, .int .i64 0, .int .i64 0, .string ⟨#[]⟩, .slice none 0 0]).cells (n * 6) = made at hmk
    have hms : made.size = n * 6 := by rw [← hmd]; exact size_madeCells _ _
    have HMS := Lib.hid hms
    clear hmd hms
    go_enter Tryd.func67, Tryd.ntmps67
    go_wp2_with fail
    go_loopw [15] (fun i wr => ∃ k : Nat, k ≤ n ∧ i = .int .i64 k ∧ Hid (Filled 52 (w.heap.size + 1) w.heap.size 6 n k (rowsV l) wr) ∧ Hid (Below w.heap.size w wr)) (fun i _ => n - (intOf i).toNat)
    case atStart =>
      refine ⟨0, by omega, rfl, Lib.hid ⟨?_, fun a ha => absurd ha (by omega)⟩, Lib.hid ((Below.refl _ _).alloc (Nat.le_refl _) _)⟩
      rw [← HMS.out]
      exact Blk.new _ _ _
    case round =>
      obtain ⟨k, hk, rfl, HF, HB⟩ := hrel
      by_cases hlt : k < n
      · obtain ⟨b, off, kd, t, n', m, s, l', A', c', e, hlb, hget, h2⟩ := vs_at (HR.out.below HB.out (fun _ h => h)) hlt
        injection e with e
        subst e
        obtain ⟨c0, c1, c2, c3, c4, c5, r5⟩ := h2
        have hbs := HB.out.size
        have HC := Lib.hid (HV.out k kd t n' m s l' hget)
        have R5 := Lib.hid (r5.weaken (ok' := Lt wr.heap.size) (fun b hb => Nat.lt_of_lt_of_le hb hbs))
        have HG := Lib.hid hget
        clear r5 hget
        go_wp2_with fail
        (with_reducible refine (HC.out _ A' c' ?_).mono ?_)
        · exact R5.out.allocs _
        rintro e w4 ⟨A4, c4', rfl, hr4, hb4⟩
        simp only [World.size_alloc] at hr4
        have hbr : Below wr.heap.size wr w4 := ((Below.refl _ _).alloc (Nat.le_refl _) _).trans (hb4.mono (by simp))
        have F4 := Lib.hid (HF.out.below hbr)
        have B4 := Lib.hid (HB.out.trans (hbr.mono hbs))
        have f0 := F4.out.1.frozen
        have h4s := fun j (hj : j < n * 6) => F4.out.1.some hj
        obtain ⟨u0, hu0⟩ : ∃ u, w4.cell? ⟨w.heap.size, k * 6, none⟩ = some u := Option.isSome_iff_exists.1 (h4s (k * 6) (by omega))
        obtain ⟨u1, hu1⟩ : ∃ u, w4.cell? ⟨w.heap.size, k * 6 + 1, none⟩ = some u := Option.isSome_iff_exists.1 (h4s (k * 6 + 1) (by omega))
        obtain ⟨u2, hu2⟩ : ∃ u, w4.cell? ⟨w.heap.size, k * 6 + 2, none⟩ = some u := Option.isSome_iff_exists.1 (h4s (k * 6 + 2) (by omega))
        obtain ⟨u3, hu3⟩ : ∃ u, w4.cell? ⟨w.heap.size, k * 6 + 3, none⟩ = some u := Option.isSome_iff_exists.1 (h4s (k * 6 + 3) (by omega))
        obtain ⟨u4, hu4⟩ : ∃ u, w4.cell? ⟨w.heap.size, k * 6 + 4, none⟩ = some u := Option.isSome_iff_exists.1 (h4s (k * 6 + 4) (by omega))
        obtain ⟨u5, hu5⟩ : ∃ u, w4.cell? ⟨w.heap.size, k * 6 + 5, none⟩ = some u := Option.isSome_iff_exists.1 (h4s (k * 6 + 5) (by omega))
        have HS : Hid (Filled 52 (w.heap.size + 1) w.heap.size 6 n (k + 1) (rowsV l) (w4.setCells w.heap.size (k * 6) [.int .i64 kd, .string t, .int .i64 n', .int .i64 m, .string s, .slice A4 l'.length c4'])) := Lib.hid (F4.out.step (by omega) hlt rfl (fun j u hj => by
          rw [rowsV_get l k _ HG.out]
          exact cells_rdV (hr4.weaken (fun b hb => ⟨by have := hb.1; omega, hb.2⟩)) j u hj))
        have HT : Hid (Below w.heap.size w (w4.setCells w.heap.size (k * 6) [.int .i64 kd, .string t, .int .i64 n', .int .i64 m, .string s, .slice A4 l'.length c4'])) := Lib.hid (below_setCells _ (Nat.le_refl _) _ _ B4.out)
        clear h4s hb4 hr4 hbr
        go_wp2_with fail
        exact ⟨⟨k + 1, by omega, by go_num, HS, HT⟩, by simp [intOf]; omega⟩
      · obtain rfl : k = n := by omega
        go_wp2_with fail
        go_ret
        refine ⟨_, rfl, ?_, HB.out⟩
        have := HL.out
        have hd := HF.out.done (by omega) w.heap.size (Nat.le_refl _) (by omega)
        rw [← this]
        exact hd

set_option maxHeartbeats 400000 in
/-- clone.Values -/
theorem values_any : ∀ (N : Nat) (l : List V), bulkV l ≤ N → N ≤ 2097152 → ∀ (A : Option Addr) (n c : Nat) (w : World), Rd (Lt w.heap.size) w (vs l) (.slice A n c) →
    Calls Tryd.prog 48 #[.slice A n c] w (ClonePost (vs l) w) := by
  intro N
  induction N with
  | zero =>
    intro l hb hN A n c w hr
    have hl := vs_len hr
    have hz : l = [] := List.eq_nil_of_length_eq_zero (by have := bulkV_len l; omega)
    subst hz
    have HE := Lib.hid (eachV_of [] A n c w hr (by omega) (fun i k t n m s l' h => by simp at h))
    clear hr hl hb
    go_enter Tryd.func48, Tryd.ntmps48
    go_wp2_with fail
    (with_reducible refine HE.out.mono ?_)
    rintro e w1 ⟨v, rfl, hr, hb⟩
    have HP := Lib.hid hr
    have HB := Lib.hid hb
    clear hr hb
    go_wp2_with fail
    go_ret
    exact ⟨v, rfl, HP.out.rd, HB.out⟩
  | succ N ih =>
    intro l hb hN A n c w hr
    have HE := Lib.hid (eachV_of l A n c w hr (by omega) (fun i k t n m s l' h W A' c' hr' => by
      have hbk := bulkV_get _ _ _ h
      rw [bulk_mk] at hbk
      exact cvalue_of k t n m s l' A' c' W hr' (fun W' hW' => ih l' (by omega) (by omega) A' l'.length c' W' hW')))
    clear hr hb ih
    go_enter Tryd.func48, Tryd.ntmps48
    go_wp2_with fail
    (with_reducible refine HE.out.mono ?_)
    rintro e w1 ⟨v, rfl, hr, hb⟩
    have HP := Lib.hid hr
    have HB := Lib.hid hb
    clear hr hb
    go_wp2_with fail
    go_ret
    exact ⟨v, rfl, HP.out.rd, HB.out⟩

theorem clone_values {l : List V} {A : Option Addr} {n c : Nat} {w : World} (hr : Rd (Lt w.heap.size) w (vs l) (.slice A n c)) (hb : bulkV l ≤ 2097152) :
    Calls Tryd.prog 48 #[.slice A n c] w (ClonePost (vs l) w) := values_any (bulkV l) l (Nat.le_refl _) hb A n c w hr
theorem clone_value {k : Int} {t : ByteArray} {n m : Int} {s : ByteArray} {l : List V} {A : Option Addr} {c : Nat} {w : World} (hr : Rd (Lt w.heap.size) w (vs l) (.slice A l.length c)) (hb : bulkV l ≤ 2097152) :
    Calls Tryd.prog 68 #[.agg #[.int .i64 k, .string t, .int .i64 n, .int .i64 m, .string s, .slice A l.length c]] w (CloneVPost k t n m s l w) :=
  cvalue_of k t n m s l A c w hr (fun _ hW => clone_values hW hb)
end Go.Proofs.YtlnfdpdancolmaaDoor
