/- retroactlaw23.size and few: how much a list of events holds. Conditions: those in each statement. -/
import Derived.Test.YtlbmfgiepcemdaaGreatYEvWrite
import Derived.Lib.QuietBelow
namespace Go.Proofs.YtlbmfgiepcemdaaGreat
open Go.RowKit Go.Sort

def sizeV : Nat → V → Nat
  | 0, _ => 100000
  | D + 1, .mk _ t _ _ s l => 1 + t.size + s.size + (l.map (sizeV D)).sum
theorem sizeV_le : ∀ (D : Nat) (v : V), sizeV D v ≤ 100000 * v.bulk
  | 0, .mk k t n m s l => by rw [sizeV, bulk_mk]; omega
  | D + 1, .mk k t n m s l => by
    have h : ∀ l : List V, (l.map (sizeV D)).sum ≤ 100000 * bulkV l := by
      intro l
      induction l with
      | nil => simp
      | cons x r ih => rw [List.map_cons, List.sum_cons, bulkV_cons]; have := sizeV_le D x; omega
    have := h l
    rw [sizeV, bulk_mk]; omega
theorem bulk_le_size : ∀ (D : Nat) (v : V), sizeV D v < 100000 → v.bulk ≤ 7 * sizeV D v
  | 0, _, h => by rw [sizeV] at h; omega
  | D + 1, .mk k t n m s l, h => by
    have hl : ∀ l : List V, (l.map (sizeV D)).sum < 100000 → bulkV l ≤ 7 * (l.map (sizeV D)).sum := by
      intro l
      induction l with
      | nil => intro _; rw [bulkV]; omega
      | cons x r ih =>
        intro h
        rw [List.map_cons, List.sum_cons] at h ⊢
        rw [bulkV_cons]
        have h1 := bulk_le_size D x (by omega)
        have h2 := ih (by omega)
        omega
    rw [sizeV] at h ⊢
    rw [bulk_mk]
    have := hl l (by omega)
    omega
def sumV (D : Nat) (l : List V) : Nat := (l.map (sizeV D)).sum
theorem sumV_nil (D : Nat) : sumV D [] = 0 := rfl
theorem sumV_snoc {D : Nat} {l : List V} {i : Nat} {v : V} (h : l[i]? = some v) : sumV D (l.take (i + 1)) = sumV D (l.take i) + sizeV D v := by
  unfold sumV
  rw [List.take_add_one, h, List.map_append, List.sum_append]; simp
theorem sumV_le (D : Nat) : ∀ l : List V, sumV D l ≤ 100000 * bulkV l
  | [] => by simp [sumV]
  | x :: r => by
    have h1 := sizeV_le D x
    have h2 := sumV_le D r
    unfold sumV at h2 ⊢
    rw [List.map_cons, List.sum_cons, bulkV_cons]; omega
theorem sumV_take (D : Nat) (l : List V) (i : Nat) : sumV D (l.take i) ≤ 100000 * bulkV l := Nat.le_trans (sumV_le D _) (Nat.mul_le_mul_left _ (bulkV_take l i))
set_option maxHeartbeats 2000000 in
theorem size_any : ∀ (D : Nat) (k : Int) (t : ByteArray) (n m : Int) (s : ByteArray) (l : List V) (A : Option Addr) (c : Nat) (w : World), D ≤ 21 → (V.mk k t n m s l).bulk ≤ 2097152 → Rd (Lt w.heap.size) w (vs l) (.slice A l.length c) →
    Calls Tryz.prog 17 #[.agg #[.int .i64 k, .string t, .int .i64 n, .int .i64 m, .string s, .slice A l.length c], .int .i64 ((D : Int) - 1)] w fun e w' => e = .returned (.int .i64 (sizeV D (.mk k t n m s l) : Nat)) ∧ Below w.heap.size w w' := by
  intro D
  induction D with
  | zero =>
    intro k t n m s l A c w _ hb hr
    clear hr
    have hd : (((0 : Nat) : Int) - 1) = -1 := rfl
    rw [hd]
    clear hd
    go_enter Tryz.func17, Tryz.ntmps17
    go_wp2_with fail
    go_ret
    exact ⟨rfl, (Below.refl _ _).alloc (Nat.le_refl _) _⟩
  | succ D ih =>
    intro k t n m s l A c w hD hb hr
    have hz := sizeV_le (D + 1) (.mk k t n m s l)
    rw [bulk_mk] at hb
    have hll := bulkV_len l
    have HR := Lib.hid hr
    have IH := Lib.hid ih
    have HU : Hid (sizeV (D + 1) (.mk k t n m s l) = 1 + t.size + s.size + sumV D l) := Lib.hid (by rw [sizeV]; rfl)
    rw [show ((D + 1 : Nat) : Int) - 1 = (D : Int) by omega]
    clear hr ih hz
    generalize sizeV (D + 1) (.mk k t n m s l) = R at *
    go_enter Tryz.func17, Tryz.ntmps17
    go_wp2_with fail
    go_loopw [5, 6] (fun s5 s6 wr => ∃ i : Nat, i ≤ l.length ∧ s6 = .int .i64 i ∧ s5 = .int .i64 ((1 + t.size + s.size + sumV D (l.take i) : Nat) : Int) ∧ Hid (Below w.heap.size w wr) ∧ Hid (wr.cell? ⟨w.heap.size, 5, none⟩ = some (.slice A l.length c) ∧ w.heap.size < wr.heap.size)) (fun _ s6 _ => l.length - (intOf s6).toNat)
    case atStart => exact ⟨0, by omega, rfl, by rw [List.take_zero, sumV_nil]; go_num, Lib.hid ((Below.refl _ _).alloc (Nat.le_refl _) _), Lib.hid ⟨cell_new _ _ _ _, by simp⟩⟩
    case round =>
      obtain ⟨i, hi, rfl, rfl, HB, HC0⟩ := hrel
      obtain ⟨q5, q6⟩ := HC0.out
      have hst := sumV_take D l i
      by_cases hlt : i < l.length
      · obtain ⟨b, off, kd, t', n', m', s', l', A', c', e, hlb, hget, h2⟩ := vs_at (HR.out.belows HB.out) hlt
        subst e
        obtain ⟨c0, c1, c2, c3, c4, c5, r5⟩ := h2
        have hbk := bulkV_get _ _ _ hget
        have hsz := sizeV_le D (.mk kd t' n' m' s' l')
        have HG := Lib.hid (sumV_snoc (D := D) hget)
        have HC : Hid (∀ W, Rd (Lt W.heap.size) W (vs l') (.slice A' l'.length c') → Calls Tryz.prog 17 #[.agg #[.int .i64 kd, .string t', .int .i64 n', .int .i64 m', .string s', .slice A' l'.length c'], .int .i64 ((D : Int) - 1)] W fun e w' => e = .returned (.int .i64 (sizeV D (.mk kd t' n' m' s' l') : Nat)) ∧ Below W.heap.size W w') := Lib.hid (fun W h => IH.out kd t' n' m' s' l' A' c' W (by omega) (by omega) h)
        generalize sizeV D (.mk kd t' n' m' s' l') = z at *
        generalize sumV D (l.take i) = y at *
        have hzb : z ≤ 209715200000 := by omega
        have hyb : y ≤ 209715200000 := by omega
        have R5 := Lib.hid r5
        have HBS := Lib.hid HB.out.size
        clear r5 hget hbk hsz hst
        go_wp2_with fail
        (with_reducible refine (HC.out _ R5.out).mono ?_)
        rintro e w4 ⟨rfl, hb4⟩
        have B4 := Lib.hid (HB.out.trans (hb4.mono HBS.out))
        have HC4 : Hid (w4.cell? ⟨w.heap.size, 5, none⟩ = some (.slice (some ⟨b, off, none⟩) l.length c) ∧ w.heap.size < w4.heap.size) := Lib.hid ⟨(hb4.cell (p := ⟨w.heap.size, 5, none⟩) q6).trans q5, Nat.lt_of_lt_of_le q6 hb4.size⟩
        clear hb4 q5 q6 c0 c1 c2 c3 c4 c5 HC
        go_wp2_with fail
        exact ⟨⟨i + 1, by omega, by go_num, by rw [HG.out]; go_num, B4, HC4⟩, by simp [intOf]; omega⟩
      · obtain rfl : i = l.length := by omega
        have HT : Hid (1 + t.size + s.size + sumV D (l.take l.length) = R) := Lib.hid (by rw [HU.out, List.take_length])
        go_wp2_with fail
        go_ret
        exact ⟨by rw [← HT.out]; go_num, HB.out⟩
def evS (x : Ev) : Nat := x.path.size + x.msg.size + sizeV 21 x.val + sumV 21 x.args
def sumE (l : List Ev) : Nat := (l.map evS).sum
theorem sumE_snoc {l : List Ev} {i : Nat} {x : Ev} (h : l[i]? = some x) : sumE (l.take (i + 1)) = sumE (l.take i) + evS x := by
  unfold sumE
  rw [List.take_add_one, h, List.map_append, List.sum_append]; simp
theorem evS_le (x : Ev) : evS x ≤ 100000 * x.size := by
  unfold evS Ev.size
  have h1 := sizeV_le 21 x.val
  have h2 := sumV_le 21 x.args
  omega
theorem sumE_le : ∀ l : List Ev, (∀ x ∈ l, x.size ≤ 2097152) → sumE l ≤ 209715200000 * l.length
  | [], _ => by simp [sumE]
  | x :: r, h => by
    have h1 := evS_le x
    have h2 := h x List.mem_cons_self
    have h3 := sumE_le r (fun y hy => h y (List.mem_cons_of_mem _ hy))
    unfold sumE at h3 ⊢
    rw [List.map_cons, List.sum_cons, List.length_cons]
    omega
def fewS (l : List Ev) : Bool := decide (l.length ≤ 200 ∧ sumE (l.take 201) ≤ 3000)
set_option maxHeartbeats 4000000 in
set_option maxRecDepth 100000 in
theorem few_any (l : List Ev) (A : Option Addr) (n c : Nat) (w : World) (hz : ∀ x ∈ l, x.size ≤ 2097152) (hr : Rd (Lt w.heap.size) w (slEv l) (.slice A n c)) :
    Calls Tryz.prog 5 #[.slice A n c] w fun e w' => e = .returned (.bool (fewS l)) ∧ Below w.heap.size w w' := by
  obtain ⟨rfl, hn1, hn2⟩ := slEv_len hr
  have HR := Lib.hid hr
  have HZ := Lib.hid hz
  clear hr hz
  obtain ⟨R, hR⟩ : ∃ R, fewS l = R := ⟨_, rfl⟩
  have HU : Hid (R = decide (l.length ≤ 200 ∧ sumE (l.take 201) ≤ 3000)) := Lib.hid (by rw [← hR]; rfl)
  rw [hR]
  clear hR
  go_enter Tryz.func5, Tryz.ntmps5
  go_wp2_with fail
  go_loopw [3, 4] (fun s3 s4 wr => ∃ (i N : Nat), i ≤ l.length ∧ i ≤ 201 ∧ s4 = .int .i64 i ∧ s3 = .int .i64 N ∧ Hid (N = sumE (l.take i)) ∧ N ≤ 209715200000 * i ∧ Hid (Below w.heap.size w wr)) (fun _ s4 _ => 201 - (intOf s4).toNat)
  case atStart => exact ⟨0, 0, by omega, by omega, rfl, rfl, Lib.hid rfl, by omega, Lib.hid (Below.refl _ _)⟩
  case round =>
    rename World => wo
    obtain ⟨i, N, hi, hi2, rfl, rfl, HN, hN, HB⟩ := hrel
    by_cases hlt : i < l.length
    · by_cases h201 : i < 201
      · have hlt2 : decide ((i : Int) < (l.length : Int)) = true := by simp; omega
        have h2012 : decide ((i : Int) < 201) = true := by simp; omega
        obtain ⟨b, off, x, e, hlb, hget, A3, c3, A10, c10, hat⟩ := slEv_at HR.out hlt
        subst e
        obtain ⟨p0, p1, p2, p3, p4, p5, p6, p7, p8, p9, p10, p11, r3, r10⟩ := hat
        have HLB : Hid (b < w.heap.size) := Lib.hid hlb
        have hbx := HZ.out x (List.mem_of_getElem? hget)
        have hev := evS_le x
        have HSN := Lib.hid (sumE_snoc hget)
        unfold Ev.size at hbx hev
        have hvb : x.val.bulk = 7 + x.vt.size + x.vx.size + bulkV x.vl := by unfold Ev.val; rw [bulk_mk]
        have hzv := sizeV_le 21 x.val
        have HEV : Hid (evS x = x.path.size + x.msg.size + sizeV 21 x.val + sumV 21 x.args) := Lib.hid rfl
        have R3 := Lib.hid r3
        have R10 := Lib.hid r10
        have hin : (i : Int) < l.length := by omega
        have K0 := Lib.hid (fun d os => Calls.regrown_of (size_any 21 x.vk x.vt x.vn x.vm x.vx x.vl A10 c10 (grow (redrawn wo d) os) (by omega) (by rw [bulk_mk]; omega) ((R10.out.belows HB.out).belows (below_regrown wo d os))))
        rw [show ((21 : Nat) : Int) - 1 = 20 by omega] at K0
        have HZV : Hid (sizeV 21 (.mk x.vk x.vt x.vn x.vm x.vx x.vl) = sizeV 21 x.val) := Lib.hid rfl
        rw [HZV.out] at K0
        generalize sizeV 21 x.val = z at *
        have m1 := fun d os => cell_regrown ((HB.out.cell (p := ⟨b, _, none⟩) HLB.out).trans p1) d os
        have m2 := fun d os => cell_regrown ((HB.out.cell (p := ⟨b, _, none⟩) HLB.out).trans p2) d os
        have m5 := fun d os => cell_regrown ((HB.out.cell (p := ⟨b, _, none⟩) HLB.out).trans p5) d os
        have m6 := fun d os => cell_regrown ((HB.out.cell (p := ⟨b, _, none⟩) HLB.out).trans p6) d os
        have m7 := fun d os => cell_regrown ((HB.out.cell (p := ⟨b, _, none⟩) HLB.out).trans p7) d os
        have m8 := fun d os => cell_regrown ((HB.out.cell (p := ⟨b, _, none⟩) HLB.out).trans p8) d os
        have m9 := fun d os => cell_regrown ((HB.out.cell (p := ⟨b, _, none⟩) HLB.out).trans p9) d os
        have m10 := fun d os => cell_regrown ((HB.out.cell (p := ⟨b, _, none⟩) HLB.out).trans p10) d os
        have P3 := Lib.hid p3
        have hi201 : N ≤ 209715200000 * 200 := by omega
        have hzz : z ≤ 209715200000 := by omega
        have i1 : IntKind.i64.wrap ((N : Int) + (x.path.size : Int)) = (N : Int) + (x.path.size : Int) := IntWalk.i64_in _ (by omega)
        have i2 : IntKind.i64.wrap ((N : Int) + (x.path.size : Int) + (x.msg.size : Int)) = (N : Int) + (x.path.size : Int) + (x.msg.size : Int) := IntWalk.i64_in _ (by omega)
        have i3 : IntKind.i64.wrap ((N : Int) + (x.path.size : Int) + (x.msg.size : Int) + (z : Int)) = (N : Int) + (x.path.size : Int) + (x.msg.size : Int) + (z : Int) := IntWalk.i64_in _ (by omega)
        have I1 := Lib.hid i1
        have I2 := Lib.hid i2
        have I3 := Lib.hid i3
        clear i1 i2 i3 p0 p1 p2 p3 p4 p5 p6 p7 p8 p9 p10 p11 r3 r10 hget HZV hzv hvb
        go_wp2_with fail
        have i1 := I1.out
        have i2 := I2.out
        have i3 := I3.out
        refine wp_region_quiet_below (by kernel_rfl) (by kernel_rfl) ?_
        repeat (go_big_quiet_step (first | with_reducible exact K0.out _ _))
        refine wpQuiet_nil ?_
        intro _ hw'
        obtain ⟨⟨dq, osq⟩, hw''⟩ := hw'
        subst hw''
        clear m1 m2 m5 m6 m7 m8 m9 m10 K0 i1 i2 i3
        have hb1 := below_regrown wo dq osq
        obtain ⟨w1, hw1⟩ : ∃ w1, grow (redrawn wo dq) osq = w1 := ⟨_, rfl⟩
        rw [hw1] at hb1 ⊢
        have HB2 := Lib.hid (HB.out.trans (hb1.mono HB.out.size))
        have HB3 := Lib.hid hb1
        clear hw1 hb1
        go_wp2_with fail
        go_loopw [3, 5] (fun s3 s5 wr => ∃ (j M : Nat), j ≤ x.args.length ∧ s5 = .int .i64 j ∧ s3 = .int .i64 M ∧ Hid (M = N + x.path.size + x.msg.size + z + sumV 21 (x.args.take j)) ∧ Hid (Below w.heap.size w wr)) (fun _ s5 _ => x.args.length - (intOf s5).toNat)
        case atStart => exact ⟨0, N + x.path.size + x.msg.size + z, by omega, rfl, by go_num, Lib.hid (by rw [List.take_zero, sumV_nil]; rfl), HB2⟩
        case round =>
          obtain ⟨j, M, hj, rfl, rfl, HM, HBR⟩ := hrel
          have q3 : wr.cell? ⟨b, off + i * 12 + 3, none⟩ = some (.slice A3 x.args.length c3) := (HBR.out.cell (p := ⟨b, _, none⟩) HLB.out).trans P3.out
          have hst := sumV_take 21 x.args j
          by_cases hjl : j < x.args.length
          · obtain ⟨b5, off5, kd, t', n', m', s', l', A', c', e, hlb5, hget5, h2⟩ := vs_at (R3.out.below HBR.out (fun _ h => h)) hjl
            obtain ⟨c0, c1, c2, c4, c5, c6, r5⟩ := h2
            have hbk := bulkV_get _ _ _ hget5
            have hsz := sizeV_le 21 (.mk kd t' n' m' s' l')
            have HG := Lib.hid (sumV_snoc (D := 21) hget5)
            have HC : Hid (∀ W, Rd (Lt W.heap.size) W (vs l') (.slice A' l'.length c') → Calls Tryz.prog 17 #[.agg #[.int .i64 kd, .string t', .int .i64 n', .int .i64 m', .string s', .slice A' l'.length c'], .int .i64 20] W fun e w' => e = .returned (.int .i64 (sizeV 21 (.mk kd t' n' m' s' l') : Nat)) ∧ Below W.heap.size W w') := Lib.hid (fun W h => size_any 21 kd t' n' m' s' l' A' c' W (by omega) (by omega) h)
            have HMM := HM.out
            generalize sizeV 21 (.mk kd t' n' m' s' l') = y at *
            generalize sumV 21 (x.args.take j) = u at *
            have hMb : M ≤ 83886080000000 := by omega
            have hyb : y ≤ 209715200000 := by omega
            have R5 : Hid (Rd (Lt wr.heap.size) wr (vs l') (.slice A' l'.length c')) := Lib.hid (r5.weaken (fun b hb => Nat.lt_of_lt_of_le hb HBR.out.size))
            have hal := bulkV_len x.args
            have hal2 : x.args.length ≤ 2097152 := by omega
            clear r5 hget5 hbk hsz hst HMM hev hbx hal
            subst e
            go_wp2_with fail
            (with_reducible refine (HC.out _ R5.out).mono ?_)
            rintro e w4 ⟨rfl, hb4⟩
            have B4 := Lib.hid (HBR.out.trans (hb4.mono HBR.out.size))
            clear hb4 q3 c0 c1 c2 c4 c5 c6 HC
            go_wp2_with fail
            exact ⟨⟨j + 1, M + y, by omega, by go_num, by go_num, Lib.hid (by rw [HG.out, HM.out]; omega), B4⟩, by simp [intOf]; omega⟩
          · obtain rfl : j = x.args.length := by omega
            have HM2 : Hid (M = N + evS x) := Lib.hid (by rw [HM.out, HEV.out, List.take_length]; omega)
            have hMb : M ≤ 209715200000 * (i + 1) := by have := HM2.out; omega
            go_wp2_with fail
            exact ⟨⟨i + 1, M, by omega, by omega, by go_num, rfl, Lib.hid (by rw [HM2.out, HN.out, HSN.out]), hMb, HBR⟩, by simp [intOf]; omega⟩
      · obtain rfl : i = 201 := by omega
        have hf : Hid (R = false) := Lib.hid (by rw [HU.out]; simp; omega)
        have hl200 : ¬ (l.length : Int) ≤ 200 := by omega
        go_wp2_with fail
        go_ret
        exact ⟨by rw [hf.out]; rfl, HB.out⟩
    · obtain rfl : i = l.length := by omega
      have hlt2 : decide ((l.length : Int) < (l.length : Int)) = false := by simp
      by_cases h200 : l.length ≤ 200
      · have h2001 : (l.length : Int) ≤ 200 := by omega
        have h2002 : decide ((l.length : Int) ≤ 200) = true := by simp; omega
        have HNN : Hid (N = sumE (l.take 201)) := Lib.hid (by rw [HN.out, List.take_length, List.take_of_length_le (by omega)])
        have HF : Hid (R = decide (N ≤ 3000)) := Lib.hid (by rw [HU.out, ← HNN.out]; simp [h200])
        go_wp2_with fail
        go_ret
        exact ⟨by rw [HF.out]; simp; omega, HB.out⟩
      · have h2001 : ¬ (l.length : Int) ≤ 200 := by omega
        have hf : Hid (R = false) := Lib.hid (by rw [HU.out]; simp; omega)
        go_wp2_with fail
        go_ret
        exact ⟨by rw [hf.out]; rfl, HB.out⟩
end Go.Proofs.YtlbmfgiepcemdaaGreat
