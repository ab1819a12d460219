/- ref12.Right, bytes, Bytes: they come to what value.Right and value.Bytes come to. Conditions: those in each statement. ref39.Pairs: which requests of a list are matched, one by one. Conditions: those in each statement. -/
import Derived.Test.YtlnfdpdancolmaaDoorYR12B
import Derived.Lib.QuietBelow
import Derived.Test.YtlnfdpdancolmaaDoorYAlikeR39AMaps
import Derived.Test.YtlnfdpdancolmaaDoorYOnlyR39Q
import Derived.Laws.OwnMore
namespace Go.Proofs.YtlnfdpdancolmaaDoor
open Go.RowKit Go.Sort

set_option maxHeartbeats 1000000 in
theorem rright_any (k : Int) (t : ByteArray) (n m : Int) (s : ByteArray) (l : List V) (A : Option Addr) (c : Nat) (w : World) (hb : (V.mk k t n m s l).bulk ≤ 2097152) (hr : Rd (Lt w.heap.size) w (vs l) (.slice A l.length c)) :
    Calls Tryd.prog 76 #[.agg #[.int .i64 k, .string t, .int .i64 n, .int .i64 m, .string s, .slice A l.length c]] w fun e w' => e = .returned (.bool (rightP nodeP (.mk k t n m s l))) ∧ Below w.heap.size w w' := by
  have HR := Lib.hid hr
  have HC := Lib.hid (fun W h => rNodes_any _ k t n m s l A c W (Nat.le_refl _) hb h)
  have HD := Lib.hid (fun W h => rnodes_any _ k t n m s l A c W (Nat.le_refl _) hb h)
  have HU := Lib.hid (rright_eq (.mk k t n m s l))
  have hcb := count_bulk (.mk k t n m s l)
  clear hr
  generalize (V.mk k t n m s l).count = q at *
  generalize rightP nodeP (.mk k t n m s l) = R at *
  generalize allN rnodeP (.mk k t n m s l) = RN at *
  by_cases hq : q ≤ 16384
  · have HE : Hid (R = RN) := Lib.hid (by rw [← HU.out, decide_eq_true hq, Bool.true_and])
    have hq' : (q : Int) ≤ 16384 := by omega
    go_enter Tryd.func76, Tryd.ntmps76
    go_wp2_with fail
    (with_reducible refine (HC.out _ ?_).mono ?_)
    · exact HR.out.allocs _
    rintro e w1 ⟨rfl, hb1⟩
    have hbx : w1.heap[w.heap.size]? = some (.cells #[.int .i64 k, .string t, .int .i64 n, .int .i64 m, .string s, .slice A l.length c] 52 (0, 0)) := (hb1.block w.heap.size (by simp)).trans (heap_alloc_new w _)
    have c0 : w1.cell? ⟨w.heap.size, 0, none⟩ = some (.int .i64 k) := by rw [Lib.cell_of_heap hbx]; rfl
    have c1 : w1.cell? ⟨w.heap.size, 1, none⟩ = some (.string t) := by rw [Lib.cell_of_heap hbx]; rfl
    have c2 : w1.cell? ⟨w.heap.size, 2, none⟩ = some (.int .i64 n) := by rw [Lib.cell_of_heap hbx]; rfl
    have c3 : w1.cell? ⟨w.heap.size, 3, none⟩ = some (.int .i64 m) := by rw [Lib.cell_of_heap hbx]; rfl
    have c4 : w1.cell? ⟨w.heap.size, 4, none⟩ = some (.string s) := by rw [Lib.cell_of_heap hbx]; rfl
    have c5 : w1.cell? ⟨w.heap.size, 5, none⟩ = some (.slice A l.length c) := by rw [Lib.cell_of_heap hbx]; rfl
    have HB := Lib.hid (((Below.refl _ _).alloc (Nat.le_refl w.heap.size) _).trans (hb1.mono (by simp)))
    have R1 := Lib.hid ((HR.out.allocs _).belows hb1)
    clear hb1 hbx
    go_wp2_with fail
    (with_reducible refine (HD.out _ R1.out).mono ?_)
    rintro e w2 ⟨rfl, hb2⟩
    have HB2 := Lib.hid (HB.out.trans (hb2.mono HB.out.size))
    clear hb2
    go_wp2_with fail
    go_ret
    exact ⟨by rw [HE.out]; rfl, HB2.out⟩
  · have HE : Hid (R = false) := Lib.hid (by rw [← HU.out, decide_eq_false hq, Bool.false_and])
    have hq' : ¬ (q : Int) ≤ 16384 := by omega
    have hq2 : decide ((q : Int) ≤ 16384) = false := decide_eq_false hq'
    go_enter Tryd.func76, Tryd.ntmps76
    go_wp2_with fail
    (with_reducible refine (HC.out _ ?_).mono ?_)
    · exact HR.out.allocs _
    rintro e w1 ⟨rfl, hb1⟩
    have HB := Lib.hid (((Below.refl _ _).alloc (Nat.le_refl w.heap.size) _).trans (hb1.mono (by simp)))
    clear hb1
    go_wp2_with fail
    go_ret
    exact ⟨by rw [HE.out]; rfl, HB.out⟩

theorem bytes_mk_toList (s : ByteArray) : (⟨s.data.toList.toArray⟩ : ByteArray) = s := by
  apply bytes_ext
  rw [ByteArray.toList_eq]
theorem bytesVs_take_len (l : List V) (i : Nat) : (bytesVs (l.take i)).length ≤ 9 * bulkV l := Nat.le_trans (bytesVs_len _) (Nat.mul_le_mul_left _ (bulkV_take l i))

set_option maxHeartbeats 4000000 in
set_option maxRecDepth 100000 in
theorem rbytes_any : ∀ (N : Nat) (k : Int) (t : ByteArray) (n m : Int) (s : ByteArray) (l : List V) (A : Option Addr) (c : Nat) (w : World), (V.mk k t n m s l).bulk ≤ N → N ≤ 2097152 → (V.mk k t n m s l).Wf → Rd (Lt w.heap.size) w (vs l) (.slice A l.length c) →
    Calls Tryd.prog 77 #[.agg #[.int .i64 k, .string t, .int .i64 n, .int .i64 m, .string s, .slice A l.length c]] w fun e w' => e = .returned (.string ⟨(bytesV (.mk k t n m s l)).toArray⟩) ∧ Below w.heap.size w w' := by
  intro N
  induction N with
  | zero =>
    intro k t n m s l A c w hb
    rw [bulk_mk] at hb
    omega
  | succ N ih =>
    intro k t n m s l A c w hb hN hwf hr
    rw [bulk_mk] at hb
    rw [V.Wf] at hwf
    obtain ⟨⟨k0, k1⟩, ⟨n0, n1⟩, ⟨m0, m1⟩, hwl⟩ := hwf
    have hll := bulkV_len l
    have HR := Lib.hid hr
    have IH := Lib.hid ih
    have HW := Lib.hid hwl
    have h0 := numZ_size k
    have h1 := textB_size t
    have h2 := intB_size n
    have h3 := intB_size m
    have h4 := textB_size s
    have h5 := numB_size l.length
    obtain ⟨W, hW⟩ : ∃ W, w.alloc (.cells #[.int .i64 k, .string t, .int .i64 n, .int .i64 m, .string s, .slice A l.length c] 52) = W := ⟨_, rfl⟩
    have hbx : W.heap[w.heap.size]? = some (.cells #[.int .i64 k, .string t, .int .i64 n, .int .i64 m, .string s, .slice A l.length c] 52 (0, 0)) := by rw [← hW]; exact heap_alloc_new w _
    have HBX := Lib.hid hbx
    have HWB : Hid (Below w.heap.size w W) := Lib.hid (by rw [← hW]; exact (Below.refl _ _).alloc (Nat.le_refl _) _)
    have HWZ : Hid (W.heap.size = w.heap.size + 1) := Lib.hid (by rw [← hW]; simp)
    have c0 : ∀ d os, (grow (redrawn W d) os).cell? ⟨w.heap.size, 0, none⟩ = some (.int .i64 k) := fun d os => cell_regrown (by rw [Lib.cell_of_heap hbx]; rfl) d os
    have c1 : ∀ d os, (grow (redrawn W d) os).cell? ⟨w.heap.size, 1, none⟩ = some (.string t) := fun d os => cell_regrown (by rw [Lib.cell_of_heap hbx]; rfl) d os
    have c2 : ∀ d os, (grow (redrawn W d) os).cell? ⟨w.heap.size, 2, none⟩ = some (.int .i64 n) := fun d os => cell_regrown (by rw [Lib.cell_of_heap hbx]; rfl) d os
    have c3 : ∀ d os, (grow (redrawn W d) os).cell? ⟨w.heap.size, 3, none⟩ = some (.int .i64 m) := fun d os => cell_regrown (by rw [Lib.cell_of_heap hbx]; rfl) d os
    have c4 : ∀ d os, (grow (redrawn W d) os).cell? ⟨w.heap.size, 4, none⟩ = some (.string s) := fun d os => cell_regrown (by rw [Lib.cell_of_heap hbx]; rfl) d os
    have c5 : ∀ d os, (grow (redrawn W d) os).cell? ⟨w.heap.size, 5, none⟩ = some (.slice A l.length c) := fun d os => cell_regrown (by rw [Lib.cell_of_heap hbx]; rfl) d os
    have K0 := Lib.hid (fun d os => Calls.regrown_of (rnum_int k k1 (grow (redrawn W d) os)))
    have K1 := Lib.hid (fun d os => Calls.regrown_of (rtext_any t (by omega) (grow (redrawn W d) os)))
    have K2 := Lib.hid (fun d os => Calls.regrown_of (rint_any n (grow (redrawn W d) os)))
    have K3 := Lib.hid (fun d os => Calls.regrown_of (rint_any m (grow (redrawn W d) os)))
    have K4 := Lib.hid (fun d os => Calls.regrown_of (rtext_any s (by omega) (grow (redrawn W d) os)))
    have K5 := Lib.hid (fun d os => Calls.regrown_of (rnum_any l.length (by omega) (grow (redrawn W d) os)))
    have HY : Hid (bytesV (.mk k t n m s l) = (numZ k ++ textB t ++ intB n ++ intB m ++ textB s ++ numB l.length).data.toList ++ bytesVs l) := Lib.hid (by rw [bytesV]; simp [ByteArray.data_append])
    obtain ⟨x0, e0⟩ : ∃ x, numZ k = x := ⟨_, rfl⟩
    obtain ⟨x1, e1⟩ : ∃ x, textB t = x := ⟨_, rfl⟩
    obtain ⟨x2, e2⟩ : ∃ x, intB n = x := ⟨_, rfl⟩
    obtain ⟨x3, e3⟩ : ∃ x, intB m = x := ⟨_, rfl⟩
    obtain ⟨x4, e4⟩ : ∃ x, textB s = x := ⟨_, rfl⟩
    obtain ⟨x5, e5⟩ : ∃ x, numB l.length = x := ⟨_, rfl⟩
    rw [e0, e1, e2, e3, e4, e5] at HY
    rw [e0] at h0 K0
    rw [e1] at h1 K1
    rw [e2] at h2 K2
    rw [e3] at h3 K3
    rw [e4] at h4 K4
    rw [e5] at h5 K5
    have z1 : ¬ 9223372036854775807 < x0.size + x1.size := by omega
    have z2 : ¬ 9223372036854775807 < x0.size + x1.size + x2.size := by omega
    have z3 : ¬ 9223372036854775807 < x0.size + x1.size + x2.size + x3.size := by omega
    have z4 : ¬ 9223372036854775807 < x0.size + x1.size + x2.size + x3.size + x4.size := by omega
    have z5 : ¬ 9223372036854775807 < x0.size + x1.size + x2.size + x3.size + x4.size + x5.size := by omega
    clear hr ih hwl hbx e0 e1 e2 e3 e4 e5
    go_enter Tryd.func77, Tryd.ntmps77
    go_wp2_with fail
    clear hW
    refine wp_region_quiet_below (by kernel_rfl) (by kernel_rfl) ?_
    repeat (quiet_step (first | with_reducible exact K0.out _ _ | with_reducible exact K1.out _ _ | with_reducible exact K2.out _ _ | with_reducible exact K3.out _ _ | with_reducible exact K4.out _ _ | with_reducible exact K5.out _ _))
    refine wpQuiet_nil ?_
    intro _ hw'
    obtain ⟨⟨dq, osq⟩, hw''⟩ := hw'
    subst hw''
    clear c0 c1 c2 c3 c4 c5 K0 K1 K2 K3 K4 K5
    have hb1 := below_regrown W dq osq
    obtain ⟨w1, hw1⟩ : ∃ w1, grow (redrawn W dq) osq = w1 := ⟨_, rfl⟩
    rw [hw1] at hb1 ⊢
    have HB1 := Lib.hid (HWB.out.trans (hb1.mono (by rw [HWZ.out]; omega)))
    have HB2 := Lib.hid hb1
    clear hw1 hb1
    obtain ⟨hd, hhd⟩ : ∃ hd, x0 ++ x1 ++ x2 ++ x3 ++ x4 ++ x5 = hd := ⟨_, rfl⟩
    have hhs : hd.size ≤ 54 + t.size + s.size := by rw [← hhd]; simp only [ByteArray.size_append]; omega
    have HH := Lib.hid hhd
    rw [hhd] at HY
    go_wp2_with fail
    rw [HH.out]
    clear hhd HH z1 z2 z3 z4 z5 h0 h1 h2 h3 h4 h5
    go_loopw [3, 4] (fun s3 s4 wr => ∃ (i : Nat) (acc : ByteArray), i ≤ l.length ∧ s4 = .int .i64 i ∧ s3 = .string acc ∧ Hid (acc.data.toList = hd.data.toList ++ bytesVs (l.take i)) ∧ Hid (Below W.heap.size W wr)) (fun _ s4 _ => l.length - (intOf s4).toNat)
    case atStart => exact ⟨0, hd, by omega, rfl, rfl, Lib.hid (by simp [bytesVs]), HB2⟩
    case round =>
      obtain ⟨i, acc, hi, rfl, rfl, HQ, HB⟩ := hrel
      have hbw : Below w.heap.size w wr := HWB.out.trans (HB.out.mono (by rw [HWZ.out]; omega))
      have hc5 : wr.cell? ⟨w.heap.size, 5, none⟩ = some (.slice A l.length c) := by rw [Lib.cell_of_heap ((HB.out.block w.heap.size (by rw [HWZ.out]; omega)).trans HBX.out)]; rfl
      have hbt := bytesVs_take_len l i
      have hacc : acc.size ≤ 54 + t.size + s.size + 9 * bulkV l := by
        have := congrArg List.length HQ.out
        rw [List.length_append, size_toList, size_toList] at this
        omega
      by_cases hlt : i < l.length
      · obtain ⟨b, off, kd, t', n', m', s', l', A', c', e, hlb, hget, h2⟩ := vs_at (HR.out.belows hbw) hlt
        subst e
        obtain ⟨c0, c1, c2, c3, c4, c5, r5⟩ := h2
        have hbk := bulkV_get _ _ _ hget
        have HC := Lib.hid (IH.out kd t' n' m' s' l' A' c' wr (by omega) (by omega) (WfV_get _ _ _ HW.out hget) r5)
        have hyl := bytesV_len (.mk kd t' n' m' s' l')
        have HQ2 : Hid ((acc ++ ⟨(bytesV (.mk kd t' n' m' s' l')).toArray⟩).data.toList = hd.data.toList ++ bytesVs (l.take (i + 1))) := Lib.hid (by
          rw [ByteArray.data_append, Array.toList_append, HQ.out, bytesVs_snoc l i _ hget, List.append_assoc])
        obtain ⟨y, hy⟩ : ∃ y : ByteArray, ⟨(bytesV (.mk kd t' n' m' s' l')).toArray⟩ = y := ⟨_, rfl⟩
        have hys : y.size ≤ 9 * (V.mk kd t' n' m' s' l').bulk := by rw [← hy]; simpa [ByteArray.size] using hyl
        rw [hy] at HC HQ2
        have HWS := Lib.hid HB.out.size
        clear r5 hget hy HQ hbw
        go_wp2_with fail
        (with_reducible refine HC.out.mono ?_)
        rintro e w4 ⟨rfl, hb4⟩
        have B4 := Lib.hid (HB.out.trans (hb4.mono HWS.out))
        clear hb4
        go_wp2_with fail
        exact ⟨⟨i + 1, acc ++ y, by omega, by go_num, rfl, HQ2, B4⟩, by simp [intOf]; omega⟩
      · obtain rfl : i = l.length := by omega
        have HE : Hid ((⟨(bytesV (.mk k t n m s l)).toArray⟩ : ByteArray) = acc) := Lib.hid (by
          rw [HY.out]
          have := HQ.out
          rw [List.take_length] at this
          rw [← this, bytes_mk_toList])
        have HBW := Lib.hid hbw
        clear hbw HQ
        go_wp2_with fail
        go_ret
        exact ⟨by rw [HE.out]; rfl, HBW.out⟩

set_option maxHeartbeats 1000000 in
/-- ref12.Bytes comes to what value.Bytes comes to -/
theorem rBytes_any (k : Int) (t : ByteArray) (n m : Int) (s : ByteArray) (l : List V) (A : Option Addr) (c : Nat) (w : World) (hb : (V.mk k t n m s l).bulk ≤ 2097152) (hwf : (V.mk k t n m s l).Wf) (hr : Rd (Lt w.heap.size) w (vs l) (.slice A l.length c)) :
    Calls Tryd.prog 62 #[.agg #[.int .i64 k, .string t, .int .i64 n, .int .i64 m, .string s, .slice A l.length c]] w fun e w' => e = .returned (.string (bytesP nodeP (.mk k t n m s l))) ∧ Below w.heap.size w w' := by
  have HR := Lib.hid hr
  have HC := Lib.hid (fun W h => rright_any k t n m s l A c W hb h)
  have HD := Lib.hid (fun W h => rbytes_any _ k t n m s l A c W (Nat.le_refl _) hb hwf h)
  have HU : Hid (bytesP nodeP (.mk k t n m s l) = if rightP nodeP (.mk k t n m s l) then ⟨(bytesV (.mk k t n m s l)).toArray⟩ else ⟨#[]⟩) := Lib.hid rfl
  clear hr hwf
  generalize bytesP nodeP (.mk k t n m s l) = R at *
  generalize rightP nodeP (.mk k t n m s l) = rp at *
  cases rp with
  | false =>
    go_enter Tryd.func62, Tryd.ntmps62
    go_wp2_with fail
    (with_reducible refine (HC.out _ ?_).mono ?_)
    · exact HR.out.allocs _
    rintro e w1 ⟨rfl, hb1⟩
    have HB := Lib.hid hb1
    clear hb1
    go_wp2_with fail
    go_ret
    exact ⟨by rw [HU.out]; rfl, ((Below.refl _ _).alloc (Nat.le_refl _) _).trans (HB.out.mono (by simp))⟩
  | true =>
    go_enter Tryd.func62, Tryd.ntmps62
    go_wp2_with fail
    (with_reducible refine (HC.out _ ?_).mono ?_)
    · exact HR.out.allocs _
    rintro e w1 ⟨rfl, hb1⟩
    have hbx : w1.heap[w.heap.size]? = some (.cells #[.int .i64 k, .string t, .int .i64 n, .int .i64 m, .string s, .slice A l.length c] 52 (0, 0)) := (hb1.block w.heap.size (by simp)).trans (heap_alloc_new w _)
    have c0 : w1.cell? ⟨w.heap.size, 0, none⟩ = some (.int .i64 k) := by rw [Lib.cell_of_heap hbx]; rfl
    have c1 : w1.cell? ⟨w.heap.size, 1, none⟩ = some (.string t) := by rw [Lib.cell_of_heap hbx]; rfl
    have c2 : w1.cell? ⟨w.heap.size, 2, none⟩ = some (.int .i64 n) := by rw [Lib.cell_of_heap hbx]; rfl
    have c3 : w1.cell? ⟨w.heap.size, 3, none⟩ = some (.int .i64 m) := by rw [Lib.cell_of_heap hbx]; rfl
    have c4 : w1.cell? ⟨w.heap.size, 4, none⟩ = some (.string s) := by rw [Lib.cell_of_heap hbx]; rfl
    have c5 : w1.cell? ⟨w.heap.size, 5, none⟩ = some (.slice A l.length c) := by rw [Lib.cell_of_heap hbx]; rfl
    have HB := Lib.hid (((Below.refl _ _).alloc (Nat.le_refl w.heap.size) _).trans (hb1.mono (by simp)))
    have R1 := Lib.hid ((HR.out.allocs _).belows hb1)
    clear hb1 hbx
    go_wp2_with fail
    (with_reducible refine (HD.out _ R1.out).mono ?_)
    rintro e w2 ⟨rfl, hb2⟩
    have HB2 := Lib.hid (HB.out.trans (hb2.mono HB.out.size))
    clear hb2
    go_wp2_with fail
    go_ret
    exact ⟨by rw [HU.out]; rfl, HB2.out⟩
end Go.Proofs.YtlnfdpdancolmaaDoor
namespace Go.Proofs.YtlnfdpdancolmaaDoor
open Go.RowKit Go.Sort

/-- block g is the row of the marks u -/
def MarksAt (B g : Nat) (u : List Bool) (w : World) : Prop := B ≤ g ∧ w.heap[g]? = some (.cells (u.map Value.bool).toArray 4 (0, 0))
section
variable {B g : Nat} {u : List Bool} {w w' : World}
theorem MarksAt.lt (h : MarksAt B g u w) : g < w.heap.size := (Array.getElem?_eq_some_iff.1 h.2).1
theorem MarksAt.below (h : MarksAt B g u w) (hb : Below w.heap.size w w') : MarksAt B g u w' := ⟨h.1, (hb.block g h.lt).trans h.2⟩
theorem MarksAt.cell (h : MarksAt B g u w) {k : Nat} {b : Bool} (hk : u[k]? = some b) : w.cell? ⟨g, k, none⟩ = some (.bool b) := by
  rw [Lib.cell_of_heap h.2]; simp [hk]
theorem MarksAt.frozen (h : MarksAt B g u w) (j : Nat) : w.frozen? ⟨g, j, none⟩ = false := by simp [World.frozen?, h.2]
theorem MarksAt.set (h : MarksAt B g u w) (k : Nat) (b : Bool) : MarksAt B g (u.set k b) (w.setCell ⟨g, k, none⟩ (.bool b)) := by
  refine ⟨h.1, ?_⟩
  have h1 : (w.setCell ⟨g, k, none⟩ (.bool b)).heap[g]? = some (.cells ((u.map Value.bool).toArray.setIfInBounds k (.bool b)) 4 (0, 0)) := by simp [World.setCell, Array.getElem?_modify, h.2]
  rw [h1, List.map_set]; simp
theorem PairsTo.marks {B' : Nat} {a b : List Req} {i : Nat} {v : Value} (h : PairsTo B' a b i w v) (hm : MarksAt B g u w) (k : Nat) (z : Value) : PairsTo B' a b i (w.setCell ⟨g, k, none⟩ z) v :=
  h.keep (fun g' hg' => Below.heap_setCell _ _ _ _ (by
    obtain ⟨ps, h1, _⟩ := h
    obtain ⟨_, cur, hc⟩ := own_block h1 g' hg'
    show g' ≠ g
    intro h
    rw [h, hm.2] at hc
    have := Option.some.inj hc
    injection this with _ h _
    exact absurd h (by decide)))
end
theorem infoBool : (Tryd.prog.info? 4).map (fun i => (i.zero, i.size, i.bytes)) = some (some (.bool false), 1, 1) := by kernel_rfl
/-- none of the first k free ones of b is alike to x -/
def NoneYet (x : Req) (b : List Req) (u : List Bool) (k : Nat) : Prop := ∀ (j : Nat) (y : Req), j < k → b[j]? = some y → u[j]? = some false → alikeB x y = false
theorem NoneYet.step {x : Req} {b : List Req} {u : List Bool} {k : Nat} (h : NoneYet x b u k) (h1 : ∀ y, b[k]? = some y → u[k]? = some false → alikeB x y = false) : NoneYet x b u (k + 1) := fun j y hj hy hu => by
  rcases Nat.lt_or_ge j k with hjk | hjk
  · exact h j y hjk hy hu
  · obtain rfl : j = k := by omega
    exact h1 y hy hu

set_option maxHeartbeats 8000000 in
set_option maxRecDepth 100000 in
theorem rpairs_any (l l' : List Req) (A : Option Addr) (n c : Nat) (A' : Option Addr) (n' c' : Nat) (w : World) (hb : bulkReq l ≤ 2097152) (hb' : bulkReq l' ≤ 2097152)
    (hr : Rd (Lt w.heap.size) w (slReq l) (.slice A n c)) (hr' : Rd (Lt w.heap.size) w (slReq l') (.slice A' n' c')) :
    Calls Tryd.prog 50 #[.slice A n c, .slice A' n' c'] w (PairsPost l l' w) := by
  have hl := slReq_len hr
  have hl' := slReq_len hr'
  have hln := bulkReq_len l
  have hln' := bulkReq_len l'
  obtain ⟨i0, hi, hz0, hz1, hz2⟩ := info_parts infoPair
  have HI := Lib.hid (And.intro hi (And.intro hz0 (And.intro hz1 hz2)))
  have HL := Lib.hid hl.1
  have HL' := Lib.hid hl'.1
  have hn : n ≤ 2097152 := by omega
  have hn' : n' ≤ 2097152 := by omega
  have HR := Lib.hid hr
  have HR' := Lib.hid hr'
  have hmk : ∀ W : World, (Instr.makeSlice 98 (.int .i64 (n' : Int)) (.int .i64 (n' : Int))).run Tryd.prog W = .ok (.slice (some ⟨W.heap.size, 0, none⟩) n' n') (W.alloc (.cells (madeCells #[.bool false] n') 4)) := fun W => by
    obtain ⟨ib, hbi, hb0, hb1, hb2⟩ := info_parts infoBool
    have := run_make_rowN (P := Tryd.prog) 98 4 ib _ Tryd.underlying98 hbi hb0 .i64 .i64 n' n' (Nat.le_refl _) (by rw [hb2]; omega) (by omega) W
    rw [hb1, Nat.mul_one] at this
    exact this
  obtain ⟨made, hmd⟩ : ∃ made, madeCells #[.bool false] n' = made := ⟨_, rfl⟩
  have HM : Hid (made = ((List.replicate n' false).map Value.bool).toArray) := Lib.hid (by
    rw [← hmd, List.map_replicate, ← toList_madeCells_one])
  rw [hmd] at hmk
  clear hr hr' hl hl' hi hz0 hz1 hz2 hmd
  go_enter Tryd.func50, Tryd.ntmps50
  go_wp2_with fail
  go_loopw [5, 7] (fun s5 s7 wr => ∃ (i : Nat) (v : Value) (u : List Bool), i ≤ n ∧ s7 = .int .i64 i ∧ v = s5 ∧ Hid (Below w.heap.size w wr) ∧ Hid (MarksAt w.heap.size w.heap.size u wr) ∧ Hid (UInv l l' u i) ∧ Hid (PairsTo w.heap.size l l' i wr v)) (fun _ s7 _ => n - (intOf s7).toNat)
  case atStart =>
    refine ⟨0, _, List.replicate n' false, by omega, rfl, rfl, Lib.hid ((Below.refl _ _).alloc (Nat.le_refl _) _), Lib.hid ⟨Nat.le_refl _, ?_⟩, Lib.hid ?_, Lib.hid ⟨[], World.ownsRow_nil _ _ _ _, rfl, by simp⟩⟩
    · rw [HM.out]; exact heap_alloc_new w _
    · have := UInv.start l l'
      rwa [← HL'.out] at this
  case round =>
    obtain ⟨i, vq, u, hi, rfl, hvq, HB, HMK, HU, HP⟩ := hrel
    rename World => wo
    subst hvq
    by_cases hlt : i < n
    · obtain ⟨b, off, x, e, hlb, hget, A2, c2, hat⟩ := slReq_at (HR.out.belows HB.out) hlt
      subst e
      obtain ⟨p0, p1, p2, p3, p4, p5, p6, p7, r2⟩ := hat
      have hbx := bulkReq_get hget
      unfold Req.bulk at hbx
      have R2 := Lib.hid r2
      have HGET := Lib.hid hget
      have hlbw : b < wo.heap.size := hlb
      clear hget r2 hlb
      go_wp2_with fail
      go_loopw [5, 8] (fun s5 s8 ws => ∃ k : Nat, k ≤ n' ∧ s8 = .int .i64 k ∧ s5 = vq ∧ Hid (Below wo.heap.size wo ws) ∧ Hid (NoneYet x l' u k)) (fun _ s8 _ => n' - (intOf s8).toNat)
      case atStart => exact ⟨0, by omega, rfl, rfl, Lib.hid (Below.refl _ _), Lib.hid (fun j y hj => absurd hj (by omega))⟩
      case round =>
        obtain ⟨k, hk, rfl, h5, HS, HN⟩ := hrel
        subst h5
        have HBS := Lib.hid (HB.out.trans (HS.out.mono HB.out.size))
        by_cases hlt' : k < n'
        · obtain ⟨b', off', y, e, hlb', hget', A3, c3, hat'⟩ := slReq_at (HR'.out.belows HBS.out) hlt'
          subst e
          obtain ⟨q0, q1, q2, q3, q4, q5, q6, q7, r3⟩ := hat'
          have hby := bulkReq_get hget'
          unfold Req.bulk at hby
          have R3 := Lib.hid r3
          have HGET' := Lib.hid hget'
          have hlbw' : b' < wr.heap.size := hlb'
          have hul : u.length = n' := by rw [HL'.out]; exact HU.out.1
          have hub : u[k]? = some u[k] := List.getElem?_eq_getElem (by omega)
          obtain ⟨ub, hue⟩ : ∃ ub, u[k] = ub := ⟨_, rfl⟩
          rw [hue] at hub
          have HUB := Lib.hid hub
          have MK := Lib.hid (HMK.out.below HS.out)
          have hcu := MK.out.cell HUB.out
          clear hget' r3 hlb' hul hue hub
          cases ub with
          | true =>
            have HN2 : Hid (NoneYet x l' u (k + 1)) := Lib.hid (HN.out.step (fun y _ h => by rw [HUB.out] at h; cases h))
            clear p0 p1 p2 p3 p4 p5 p6 p7 q0 q1 q2 q3 q4 q5 q6 q7
            go_wp2_with fail
            go_quiet (fail)
            have HS2 := Lib.hid (HS.out.trans ((below_drewN (Below.refl wr.heap.size wr) nq).mono HS.out.size))
            go_wp2_with fail
            exact ⟨⟨k + 1, by omega, by go_num, rfl, HS2, HN2⟩, by simp [intOf]; omega⟩
          | false =>
            obtain ⟨R, hal⟩ : ∃ R, alikeB x y = R := ⟨_, rfl⟩
            have HC : Hid (∀ W, Rd (Lt W.heap.size) W (vs x.args) (.slice A2 x.args.length c2) → Rd (Lt W.heap.size) W (vs y.args) (.slice A3 y.args.length c3) → _) := Lib.hid (fun W h1 h2 => ralike_any x y A2 A3 c2 c3 W (by omega) (by omega) h1 h2)
            rw [hal] at HC
            have HAL := Lib.hid hal
            clear hal
            have hcx : ∀ d os, (grow (redrawn wr d) os).cell? ⟨w.heap.size, k, none⟩ = some (.bool false) := fun d os => cell_regrown hcu d os
            have K0 := Lib.hid (fun d os => Calls.regrown_of (HC.out (grow (redrawn wr d) os) ((R2.out.belows HS.out).belows (below_regrown wr d os)) (R3.out.belows (below_regrown wr d os))))
            have hcA : ∀ o v, wo.cell? ⟨b, o, none⟩ = some v → ∀ d os, (grow (redrawn wr d) os).cell? ⟨b, o, none⟩ = some v := fun o v h d os => cell_regrown ((HS.out.cell (p := ⟨b, o, none⟩) hlbw).trans h) d os
            have m0 := hcA _ _ p0
            have m1 := hcA _ _ p1
            have m2 := hcA _ _ p2
            have m3 := hcA _ _ p3
            have m4 := hcA _ _ p4
            have m5 := hcA _ _ p5
            have m6 := hcA _ _ p6
            have m7 := hcA _ _ p7
            have o0 := fun d os => cell_regrown q0 d os
            have o1 := fun d os => cell_regrown q1 d os
            have o2 := fun d os => cell_regrown q2 d os
            have o3 := fun d os => cell_regrown q3 d os
            have o4 := fun d os => cell_regrown q4 d os
            have o5 := fun d os => cell_regrown q5 d os
            have o6 := fun d os => cell_regrown q6 d os
            have o7 := fun d os => cell_regrown q7 d os
            clear p0 p1 p2 p3 p4 p5 p6 p7 q0 q1 q2 q3 q4 q5 q6 q7 hcA hcu
            go_wp2_with fail
            refine wp_region_quiet_below (by kernel_rfl) (by kernel_rfl) ?_
            repeat (go_big_quiet_step (first | with_reducible exact K0.out _ _))
            refine wpQuiet_nil ?_
            intro _ hw'
            obtain ⟨⟨dq, osq⟩, hw''⟩ := hw'
            subst hw''
            clear m0 m1 m2 m3 m4 m5 m6 m7 o0 o1 o2 o3 o4 o5 o6 o7 K0 hcx HC
            have hb1 := below_regrown wr dq osq
            obtain ⟨w1, hw1⟩ : ∃ w1, grow (redrawn wr dq) osq = w1 := ⟨_, rfl⟩
            rw [hw1] at hb1 ⊢
            have B1 := Lib.hid hb1
            clear hw1 hb1
            cases R with
            | false =>
              have HN2 : Hid (NoneYet x l' u (k + 1)) := Lib.hid (HN.out.step (fun y' hy _ => by rw [HGET'.out] at hy; rw [← Option.some.inj hy]; exact HAL.out))
              have HS2 := Lib.hid (HS.out.trans (B1.out.mono HS.out.size))
              go_wp2_with fail
              exact ⟨⟨k + 1, by omega, by go_num, rfl, HS2, HN2⟩, by simp [intOf]; omega⟩
            | true =>
              have MK1 := Lib.hid (MK.out.below B1.out)
              have hc1 := MK1.out.cell HUB.out
              have hf1 := MK1.out.frozen k
              have HUM := Lib.hid (HU.out.found HGET.out HGET'.out HUB.out HAL.out)
              have HB1 := Lib.hid (HBS.out.trans (B1.out.mono HBS.out.size))
              have MK2 := Lib.hid (MK1.out.set k true)
              obtain ⟨ps, hps, hpi, hpl⟩ := (((HP.out.below HS.out).below B1.out).marks MK1.out k (.bool true)).below ((Below.refl _ _).alloc (Nat.le_refl _) (.cells #[.int .i64 i, .int .i64 k] 72))
              have HXO := Lib.hid hps
              have HPI := Lib.hid hpi
              clear hps hpi
              go_wp2_with (at_builtin; refine wpList_append_own_at _ rfl _ _ 70 rfl w.heap.size 72 i0 _ 2 16 Tryd.underlying70 HI.out.1 HI.out.2.1 HI.out.2.2.1 HI.out.2.2.2 rfl (by decide) _ _ _ rfl HXO.out ⟨w1.heap.size, 0, none⟩ 1 1 [.int .i64 (i : Int), .int .i64 (k : Int)] rfl rfl ?c1 ?c2 ?c3 ?c4 ?c5 ?_)
              case c1 =>
                intro j u hj
                rw [Addr.add_lit, Nat.zero_add, ← size_setCell w1 ⟨w.heap.size, k, none⟩ (.bool true)]
                match j with
                | 0 => simp at hj; subst hj; exact (cell_new _ _ _ 0)
                | 1 => simp at hj; subst hj; exact (cell_new _ _ _ 1)
                | j + 2 => simp at hj
              case c2 => intro u hu; simp at hu; rcases hu with rfl | rfl <;> rfl
              case c3 => unfold maxLen; omega
              case c4 => omega
              case c5 => have := HB1.out.size; simp; omega
              intro v' w3 ho3 hg3 _ _
              have hbm : Below w.heap.size w ((w1.setCell ⟨w.heap.size, k, none⟩ (.bool true)).alloc (.cells #[.int .i64 i, .int .i64 k] 72)) := (HB1.out.setCell (p := ⟨w.heap.size, k, none⟩) (Nat.le_refl _) _).alloc (by rw [size_setCell]; exact HB1.out.size) _
              have B3 := Lib.hid (hbm.grown hg3 hbm.size (fun q hq => (own_block HXO.out q hq).1))
              have MK3 : Hid (MarksAt w.heap.size w.heap.size (u.set k true) w3) := Lib.hid (by
                have h2 := MK2.out.below ((Below.refl _ _).alloc (Nat.le_refl _) (.cells #[.int .i64 i, .int .i64 k] 72))
                refine ⟨h2.1, (hg3.block _ h2.lt (fun h => ?_)).trans h2.2⟩
                obtain ⟨_, cur, hc⟩ := own_block HXO.out _ h.symm
                rw [h2.2] at hc
                have := Option.some.inj hc
                injection this with _ h _
                exact absurd h (by decide))
              have P3 : Hid (PairsTo w.heap.size l l' (i + 1) w3 v') := Lib.hid ⟨ps ++ [(i, (k : Int))], by
                rw [List.length_append, List.length_singleton, List.flatMap_append, List.flatMap_singleton]; exact ho3, by
                rw [List.map_append, HPI.out, idxs_succ, HUM.out.2]; simp, by rw [List.length_append, List.length_singleton]; omega⟩
              have U3 := Lib.hid HUM.out.1
              clear ho3 hg3 hbm
              go_wp2_with fail
              exact ⟨⟨i + 1, v', u.set k true, by omega, by go_num, rfl, B3, MK3, U3, P3⟩, by simp [intOf]; omega⟩
        · obtain rfl : k = n' := by omega
          have HM2 := Lib.hid (HU.out.missed HGET.out (fun j y h1 h2 => HN.out j y (by have := (List.getElem?_eq_some_iff.1 h1).1; have := HL'.out; omega) h1 h2))
          have MK3 := Lib.hid (HMK.out.below HS.out)
          have P3 := Lib.hid ((HP.out.below HS.out).skip HM2.out.2)
          have U3 := Lib.hid HM2.out.1
          clear p0 p1 p2 p3 p4 p5 p6 p7
          go_wp2_with fail
          exact ⟨⟨i + 1, _, u, by omega, by go_num, rfl, HBS, MK3, U3, P3⟩, by simp [intOf]; omega⟩
    · obtain rfl : i = n := by omega
      go_wp2_with fail
      go_ret
      have h := HP.out
      rw [HL.out] at h
      exact ⟨_, rfl, h, HB.out⟩
end Go.Proofs.YtlnfdpdancolmaaDoor
