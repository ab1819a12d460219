/- ref12.open and Plain: they come to what event.stored and event.plain come to. Conditions: those in each statement. ref23.in. Conditions: those in each statement. ref23.letter. Conditions: those in each statement. -/
import Derived.Test.YtlbmfgiepcemdaaGreatYR12BR12C
import Derived.Test.YtlbmfgiepcemdaaGreatYEvSameStored
import Derived.Test.YtlbmfgiepcemdaaGreatYEvRight
namespace Go.Proofs.YtlbmfgiepcemdaaGreat
open Go.RowKit Go.Sort

set_option maxHeartbeats 2000000 in
theorem ropen_any : ∀ (N : Nat) (k : Int) (t : ByteArray) (n m : Int) (s : ByteArray) (l : List V) (A : Option Addr) (c : Nat) (w : World), (V.mk k t n m s l).bulk ≤ N → N ≤ 2097152 → Rd (Lt w.heap.size) w (vs l) (.slice A l.length c) →
    Calls Tryz.prog 56 #[.agg #[.int .i64 k, .string t, .int .i64 n, .int .i64 m, .string s, .slice A l.length c]] w fun e w' => e = .returned (.bool (storedV (.mk k t n m s l))) ∧ Below w.heap.size w w' := by
  intro N
  induction N with
  | zero =>
    intro k t n m s l A c w hb
    rw [bulk_mk] at hb
    omega
  | succ N ih =>
    intro k t n m s l A c w hb hN hr
    rw [bulk_mk] at hb
    have hll := bulkV_len l
    have HR := Lib.hid hr
    have IH := Lib.hid ih
    have HU : Hid (storedV (.mk k t n m s l) = (storedL l && !((k == 9) || (k == 10)))) := Lib.hid (by rw [storedV, Bool.and_comm])
    generalize storedV (.mk k t n m s l) = R at *
    clear hr ih
    go_enter Tryz.func56, Tryz.ntmps56
    go_wp2_with fail
    go_loopw [3] (fun s3 wr => ∃ (i : Nat), i ≤ l.length ∧ s3 = .int .i64 i ∧ Hid (∀ (j : Nat) (v : V), j < i → l[j]? = some v → storedV v = true) ∧ Hid (Below (w.heap.size + 1) (w.alloc (.cells #[.int .i64 k, .string t, .int .i64 n, .int .i64 m, .string s, .slice A l.length c] 35)) wr)) (fun s3 _ => l.length - (intOf s3).toNat)
    case atStart => exact ⟨0, by omega, rfl, Lib.hid (fun j v h => absurd h (by omega)), Lib.hid (Below.refl _ _)⟩
    case round =>
      obtain ⟨i, hi, rfl, HQ, HB⟩ := hrel
      have hbx : wr.heap[w.heap.size]? = some (.cells #[.int .i64 k, .string t, .int .i64 n, .int .i64 m, .string s, .slice A l.length c] 35 (0, 0)) := (HB.out.block w.heap.size (by omega)).trans (heap_alloc_new w _)
      have hc5 : wr.cell? ⟨w.heap.size, 5, none⟩ = some (.slice A l.length c) := by rw [Lib.cell_of_heap hbx]; rfl
      have hbw : Below w.heap.size w wr := ((Below.refl w.heap.size w).alloc (Nat.le_refl _) _).trans (HB.out.mono (by omega))
      have hwz : w.heap.size + 1 ≤ wr.heap.size := by have := HB.out.size; simpa using this
      by_cases hlt : i < l.length
      · clear hbx
        obtain ⟨b, off, kd, t', n', m', s', l', A', c', e, hlb, hget, h2⟩ := vs_at (HR.out.belows hbw) hlt
        subst e
        obtain ⟨c0, c1, c2, c3, c4, c5, r5⟩ := h2
        have hbk := bulkV_get _ _ _ hget
        have HC := Lib.hid (IH.out kd t' n' m' s' l' A' c' wr (by omega) (by omega) r5)
        have HG := Lib.hid hget
        have HBW := Lib.hid hbw
        clear r5 hget hbw
        cases hq : storedV (.mk kd t' n' m' s' l') with
        | false =>
          have HE : Hid (R = false) := Lib.hid (by rw [HU.out, storedL_at l i _ HG.out hq]; rfl)
          rw [hq] at HC
          clear hq
          go_wp2_with fail
          (with_reducible refine HC.out.mono ?_)
          rintro e w4 ⟨rfl, hb4⟩
          have B4 := Lib.hid (HBW.out.trans (hb4.mono HBW.out.size))
          clear hb4
          go_wp2_with fail
          go_ret
          exact ⟨by rw [HE.out]; rfl, B4.out⟩
        | true =>
          have HQ2 : Hid (∀ (j : Nat) (v : V), j < i + 1 → l[j]? = some v → storedV v = true) := Lib.hid (fun j v hj hv => by
            rcases Nat.lt_or_eq_of_le (Nat.lt_succ_iff.1 hj) with h | h
            · exact HQ.out j v h hv
            · subst h
              rw [HG.out] at hv
              rw [← Option.some.inj hv]; exact hq)
          rw [hq] at HC
          clear hq HBW
          go_wp2_with fail
          (with_reducible refine HC.out.mono ?_)
          rintro e w4 ⟨rfl, hb4⟩
          have B4 := Lib.hid (HB.out.trans (hb4.mono hwz))
          clear hb4
          go_wp2_with fail
          exact ⟨⟨i + 1, by omega, by go_num, HQ2, B4⟩, by simp [intOf]; omega⟩
      · obtain rfl : i = l.length := by omega
        have HE : Hid (R = !((k == 9) || (k == 10))) := Lib.hid (by
          rw [HU.out, storedL_all l (fun j v hv => HQ.out j v (List.getElem?_eq_some_iff.1 hv).1 hv), Bool.true_and])
        have HBW := Lib.hid hbw
        have q0 : wr.cell? ⟨w.heap.size, 0, none⟩ = some (.int .i64 k) := by rw [Lib.cell_of_heap hbx]; rfl
        clear hbw HQ hbx
        cases h9 : (k == 9) with
        | true =>
          rw [h9] at HE
          have hn9 : (k != 9) = false := by rw [bne, h9]; rfl
          go_wp2_with fail
          go_ret
          exact ⟨by rw [HE.out]; rfl, HBW.out⟩
        | false =>
          rw [h9] at HE
          have hn9 : (k != 9) = true := by rw [bne, h9]; rfl
          cases h10 : (k == 10) with
          | true =>
            rw [h10] at HE
            have hn10 : (k != 10) = false := by rw [bne, h10]; rfl
            go_wp2_with fail
            go_ret
            exact ⟨by rw [HE.out]; rfl, HBW.out⟩
          | false =>
            rw [h10] at HE
            have hn10 : (k != 10) = true := by rw [bne, h10]; rfl
            go_wp2_with fail
            go_ret
            exact ⟨by rw [HE.out]; rfl, HBW.out⟩
set_option maxHeartbeats 1000000 in
theorem rplain_any (k : Int) (t : ByteArray) (n m : Int) (s : ByteArray) (l : List V) (A : Option Addr) (c : Nat) (w : World) (hb : (V.mk k t n m s l).bulk ≤ 2097152) (hr : Rd (Lt w.heap.size) w (vs l) (.slice A l.length c)) :
    Calls Tryz.prog 24 #[.agg #[.int .i64 k, .string t, .int .i64 n, .int .i64 m, .string s, .slice A l.length c]] w fun e w' => e = .returned (.bool (plainV (.mk k t n m s l))) ∧ Below w.heap.size w w' := by
  have HS := Lib.hid (fun W h => ropen_any _ k t n m s l A c W (Nat.le_refl _) hb h)
  have HC := Lib.hid (fun W h => rright_any k t n m s l A c W hb h)
  have HR := Lib.hid hr
  obtain ⟨R, hR⟩ : ∃ R, plainV (.mk k t n m s l) = R := ⟨_, rfl⟩
  have HU : Hid (R = (rightP nodeP (.mk k t n m s l) && storedV (.mk k t n m s l))) := Lib.hid (by rw [← hR, plainV])
  rw [hR]
  generalize rightP nodeP (.mk k t n m s l) = g1 at *
  generalize storedV (.mk k t n m s l) = g2 at *
  clear hR hr
  go_enter Tryz.func24, Tryz.ntmps24
  go_wp2_with fail
  (with_reducible refine (HC.out _ (HR.out.allocs _)).mono ?_)
  rintro e w1 ⟨rfl, hb1⟩
  have B1 := Lib.hid (((Below.refl w.heap.size w).alloc (Nat.le_refl _) _).trans (hb1.mono (by simp)))
  have hX := (hb1.block w.heap.size (by simp)).trans (heap_alloc_new w (.cells #[.int .i64 k, .string t, .int .i64 n, .int .i64 m, .string s, .slice A l.length c] 35))
  have x0 : w1.cell? ⟨w.heap.size, 0, none⟩ = some (.int .i64 k) := by rw [Lib.cell_of_heap hX]; rfl
  have x1 : w1.cell? ⟨w.heap.size, 1, none⟩ = some (.string t) := by rw [Lib.cell_of_heap hX]; rfl
  have x2 : w1.cell? ⟨w.heap.size, 2, none⟩ = some (.int .i64 n) := by rw [Lib.cell_of_heap hX]; rfl
  have x3 : w1.cell? ⟨w.heap.size, 3, none⟩ = some (.int .i64 m) := by rw [Lib.cell_of_heap hX]; rfl
  have x4 : w1.cell? ⟨w.heap.size, 4, none⟩ = some (.string s) := by rw [Lib.cell_of_heap hX]; rfl
  have x5 : w1.cell? ⟨w.heap.size, 5, none⟩ = some (.slice A l.length c) := by rw [Lib.cell_of_heap hX]; rfl
  clear hb1 hX
  cases g1 with
  | false =>
    go_wp2_with fail
    go_ret
    exact ⟨by rw [HU.out]; rfl, B1.out⟩
  | true =>
    go_wp2_with fail
    (with_reducible refine (HS.out _ (HR.out.belows B1.out)).mono ?_)
    rintro e w2 ⟨rfl, hb2⟩
    have B2 := Lib.hid (B1.out.trans (hb2.mono B1.out.size))
    clear hb2
    go_wp2_with fail
    go_ret
    exact ⟨by rw [HU.out]; rfl, B2.out⟩
end Go.Proofs.YtlbmfgiepcemdaaGreat
namespace Go.Proofs.YtlbmfgiepcemdaaGreat
open Go.RowKit Go.Sort

theorem in23_any (n m : Int) (w : World) : Calls Tryz.prog 23 #[.int .i64 n, .int .i64 m] w fun e w' => e = .returned (.bool (decide (0 ≤ n ∧ n ≤ m))) ∧ w = w' := by
  by_cases h0 : 0 ≤ n
  · by_cases h1 : n ≤ m
    · have HE : Hid (decide (0 ≤ n ∧ n ≤ m) = true) := Lib.hid (decide_eq_true ⟨h0, h1⟩)
      rw [HE.out]
      have d0 : decide (0 ≤ n) = true := decide_eq_true h0
      have d1 : decide (n ≤ m) = true := decide_eq_true h1
      clear HE
      go_enter Tryz.func23, Tryz.ntmps23
      go_wp2_with fail
      go_ret
      exact ⟨rfl, rfl⟩
    · have HE : Hid (decide (0 ≤ n ∧ n ≤ m) = false) := Lib.hid (decide_eq_false (fun h => h1 h.2))
      rw [HE.out]
      have d0 : decide (0 ≤ n) = true := decide_eq_true h0
      have d1 : decide (n ≤ m) = false := decide_eq_false h1
      clear HE
      go_enter Tryz.func23, Tryz.ntmps23
      go_wp2_with fail
      go_ret
      exact ⟨rfl, rfl⟩
  · have HE : Hid (decide (0 ≤ n ∧ n ≤ m) = false) := Lib.hid (decide_eq_false (fun h => h0 h.1))
    rw [HE.out]
    have d0 : decide (0 ≤ n) = false := decide_eq_false h0
    clear HE
    go_enter Tryz.func23, Tryz.ntmps23
    go_wp2_with fail
    go_ret
    exact ⟨rfl, rfl⟩
end Go.Proofs.YtlbmfgiepcemdaaGreat
namespace Go.Proofs.YtlbmfgiepcemdaaGreat
open Go.RowKit Go.Sort

def letterE (x : Ev) : Bool := letterB x && x.args.all plainV
set_option maxHeartbeats 4000000 in
set_option maxRecDepth 100000 in
theorem letter23_any (x : Ev) (A B : Option Addr) (c d : Nat) (w : World) (h1 : bulkV x.args ≤ 2097152) (hp : x.path.size ≤ 2097152) (hm : x.msg.size ≤ 2097152) (ra : Rd (Lt w.heap.size) w (vs x.args) (.slice A x.args.length c)) :
    Calls Tryz.prog 21 #[.agg #[.int .i64 x.kind, .string x.path, .string x.msg, .slice A x.args.length c, .int .i64 x.ord, .int .i64 x.vk, .string x.vt, .int .i64 x.vn, .int .i64 x.vm, .string x.vx, .slice B x.vl.length d, .int .i64 x.n]] w fun e w' => e = .returned (.bool (letterE x)) ∧ Below w.heap.size w w' := by
  have HP := Lib.hid (fun W => rpath_any x.path W hp)
  have HR := Lib.hid ra
  have hll := bulkV_len x.args
  obtain ⟨R, hR⟩ : ∃ R, letterE x = R := ⟨_, rfl⟩
  have HU : Hid (R = ((pathS x.path && decide (1 ≤ x.msg.size ∧ x.msg.size ≤ 200 ∧ x.args.length ≤ 4096)) && x.args.all plainV)) := Lib.hid (by rw [← hR]; rfl)
  rw [hR]
  generalize pathS x.path = g at *
  clear hR ra
  go_enter Tryz.func21, Tryz.ntmps21
  go_wp2_with fail
  (with_reducible refine (HP.out _).mono ?_)
  rintro e w1 ⟨rfl, hb1⟩
  have X1 : Hid (CellsAt w1 w.heap.size #[.int .i64 x.kind, .string x.path, .string x.msg, .slice A x.args.length c, .int .i64 x.ord, .int .i64 x.vk, .string x.vt, .int .i64 x.vn, .int .i64 x.vm, .string x.vx, .slice B x.vl.length d, .int .i64 x.n] 37) := Lib.hid ((hb1.block w.heap.size (by simp)).trans (CellsAt.new w _ _))
  have B1 := Lib.hid (((Below.refl w.heap.size w).alloc (Nat.le_refl _) _).trans (hb1.mono (by simp)))
  have p2 : w1.cell? ⟨w.heap.size, 2, none⟩ = some (.string x.msg) := by rw [X1.out.cell]; rfl
  have p3 : w1.cell? ⟨w.heap.size, 3, none⟩ = some (.slice A x.args.length c) := by rw [X1.out.cell]; rfl
  clear hb1 HP
  cases g with
  | false =>
    have HE : Hid (R = false) := Lib.hid (by rw [HU.out]; rfl)
    go_wp2_with fail
    go_ret
    exact ⟨by rw [HE.out]; rfl, B1.out⟩
  | true =>
    by_cases q1 : x.msg.size < 1
    · have HE : Hid (R = false) := Lib.hid (by rw [HU.out, decide_eq_false (by omega)]; rfl)
      have d1 : decide ((x.msg.size : Int) < 1) = true := decide_eq_true (by omega)
      go_wp2_with fail
      go_ret
      exact ⟨by rw [HE.out]; rfl, B1.out⟩
    · have d1 : decide ((x.msg.size : Int) < 1) = false := decide_eq_false (by omega)
      by_cases q2 : 200 < x.msg.size
      · have HE : Hid (R = false) := Lib.hid (by rw [HU.out, decide_eq_false (by omega)]; rfl)
        have d2 : decide ((200 : Int) < (x.msg.size : Int)) = true := decide_eq_true (by omega)
        go_wp2_with fail
        go_ret
        exact ⟨by rw [HE.out]; rfl, B1.out⟩
      · have d2 : decide ((200 : Int) < (x.msg.size : Int)) = false := decide_eq_false (by omega)
        by_cases q3 : 4096 < x.args.length
        · have HE : Hid (R = false) := Lib.hid (by rw [HU.out, decide_eq_false (by omega)]; rfl)
          have d3 : decide ((4096 : Int) < (x.args.length : Int)) = true := decide_eq_true (by omega)
          go_wp2_with fail
          go_ret
          exact ⟨by rw [HE.out]; rfl, B1.out⟩
        · have d3 : decide ((4096 : Int) < (x.args.length : Int)) = false := decide_eq_false (by omega)
          have HE : Hid (R = x.args.all plainV) := Lib.hid (by rw [HU.out, decide_eq_true (by omega)]; rfl)
          clear HU
          go_wp2_with fail
          clear p2 p3
          go_loopw [4] (fun s4 wr => ∃ i : Nat, i ≤ x.args.length ∧ s4 = .int .i64 i ∧ Hid (∀ (j : Nat) (v : V), j < i → x.args[j]? = some v → plainV v = true) ∧ Hid (Below w.heap.size w wr) ∧ Hid (CellsAt wr w.heap.size #[.int .i64 x.kind, .string x.path, .string x.msg, .slice A x.args.length c, .int .i64 x.ord, .int .i64 x.vk, .string x.vt, .int .i64 x.vn, .int .i64 x.vm, .string x.vx, .slice B x.vl.length d, .int .i64 x.n] 37)) (fun s4 _ => x.args.length - (intOf s4).toNat)
          case atStart => exact ⟨0, by omega, rfl, Lib.hid (fun j v h => absurd h (by omega)), B1, X1⟩
          case round =>
            obtain ⟨i, hi, rfl, HQ, HB, HX⟩ := hrel
            have p3 : wr.cell? ⟨w.heap.size, 3, none⟩ = some (.slice A x.args.length c) := by rw [HX.out.cell]; rfl
            by_cases hlt : i < x.args.length
            · obtain ⟨b, off, kd, t', n', m', s', l', A', c', e, hlb, hget, h2⟩ := vs_at (HR.out.belows HB.out) hlt
              subst e
              obtain ⟨c0, c1, c2, c3, c4, c5, r5⟩ := h2
              have hbk := bulkV_get _ _ _ hget
              have HG := Lib.hid hget
              have HC := Lib.hid (rplain_any kd t' n' m' s' l' A' c' wr (by omega) r5)
              obtain ⟨g, hg⟩ : ∃ g, plainV (.mk kd t' n' m' s' l') = g := ⟨_, rfl⟩
              rw [hg] at HC
              have HGV := Lib.hid hg
              have hgl := HX.out.lt
              clear r5 hget hg hbk
              go_wp2_with fail
              (with_reducible refine HC.out.mono ?_)
              rintro e w4 ⟨rfl, hb4⟩
              have B4 := Lib.hid (HB.out.trans (hb4.mono HB.out.size))
              have X4 := Lib.hid (show CellsAt w4 w.heap.size _ _ from (hb4.block w.heap.size hgl).trans HX.out)
              clear hb4
              cases g with
              | false =>
                have HF := Lib.hid (all_no HG.out HGV.out)
                go_wp2_with fail
                go_ret
                exact ⟨by rw [HE.out, HF.out]; rfl, B4.out⟩
              | true =>
                have HQ2 : Hid (∀ (j : Nat) (v : V), j < i + 1 → x.args[j]? = some v → plainV v = true) := Lib.hid (fun j v hj hv => by
                  rcases Nat.lt_or_ge j i with h | h
                  · exact HQ.out j v h hv
                  · obtain rfl : j = i := by omega
                    rw [HG.out] at hv
                    rw [← Option.some.inj hv]; exact HGV.out)
                go_wp2_with fail
                exact ⟨⟨i + 1, by omega, by go_num, HQ2, B4, X4⟩, by simp [intOf]; omega⟩
            · have HT := Lib.hid (all_yes (fun j v hv => HQ.out j v (by have := (List.getElem?_eq_some_iff.1 hv).1; omega) hv))
              go_wp2_with fail
              go_ret
              exact ⟨by rw [HE.out, HT.out]; rfl, HB.out⟩
end Go.Proofs.YtlbmfgiepcemdaaGreat
