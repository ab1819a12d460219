/- ref23.All at two slices of the same events: true. Conditions: those in each statement. -/
import Derived.Test.YtlbmfgiepcemdaaEvRSame
import Derived.Test.YtlbmfgiepcemdaaEvWrite
import Derived.Lib.QuietBelow
namespace Go.Proofs.Ytlbmfgiepcemdaa
open Go.RowKit Go.Sort

theorem eqE_self (x : Ev) : eqE x x = true := (eqE_iff x x).2 rfl
set_option maxHeartbeats 4000000 in
set_option maxRecDepth 100000 in
theorem rall_same (l : List Ev) (A A' : Option Addr) (n c c' : Nat) (w : World) (hn : n ≤ 1048576) (hb : ∀ x ∈ l, x.size ≤ 2097152) (hr : Rd (Lt w.heap.size) w (slEv l) (.slice A n c)) (hr' : Rd (Lt w.heap.size) w (slEv l) (.slice A' n c')) :
    Calls Try.prog 10 #[.slice A n c, .slice A' n c'] w fun e w' => e = .returned (.bool true) ∧ Below w.heap.size w w' := by
  have HR := Lib.hid hr
  have HR' := Lib.hid hr'
  have HBZ := Lib.hid hb
  clear hr hr' hb
  go_enter Try.func10, Try.ntmps10
  go_wp2_with fail
  go_loopw [5] (fun s5 wr => ∃ i : Nat, i ≤ n ∧ s5 = .int .i64 i ∧ Hid (Below w.heap.size w wr)) (fun s5 _ => n - (intOf s5).toNat)
  case atStart => exact ⟨0, by omega, rfl, Lib.hid (Below.refl _ _)⟩
  case round =>
    obtain ⟨i, hi, rfl, HB⟩ := hrel
    by_cases hlt : i < n
    · obtain ⟨b, off, x, e, hlb, hget, A3, c3, A10, c10, hat⟩ := slEv_at (HR.out.belows HB.out) hlt
      subst e
      obtain ⟨b', off', y, e, hlb', hget', A4, c4, A11, c11, hat'⟩ := slEv_at (HR'.out.belows HB.out) hlt
      subst e
      rw [hget] at hget'
      obtain rfl := Option.some.inj hget'
      obtain ⟨p0, p1, p2, p3, p4, p5, p6, p7, p8, p9, p10, p11, r3, r10⟩ := hat
      obtain ⟨q0, q1, q2, q3, q4, q5, q6, q7, q8, q9, q10, q11, s3, s10⟩ := hat'
      have hbx := HBZ.out x (List.mem_of_getElem? hget)
      unfold Ev.size at hbx
      have hvb : x.val.bulk = 7 + x.vt.size + x.vx.size + bulkV x.vl := by unfold Ev.val; rw [bulk_mk]
      have R3 := Lib.hid r3
      have R10 := Lib.hid r10
      have T3 := Lib.hid s3
      have T10 := Lib.hid s10
      have hin : (i : Int) < n := by omega
      have K0 := Lib.hid (fun d os => Calls.regrown_of (revsame_any x x A3 A4 A10 A11 c3 c4 c10 c11 (grow (redrawn wr d) os) (by omega) (by omega) (by omega) (by omega) (R3.out.belows (below_regrown wr d os)) (T3.out.belows (below_regrown wr d os)) (R10.out.belows (below_regrown wr d os)) (T10.out.belows (below_regrown wr d os))))
      rw [eqE_self] at K0
      have m0 := fun d os => cell_regrown p0 d os
      have o0 := fun d os => cell_regrown q0 d os
      have m1 := fun d os => cell_regrown p1 d os
      have o1 := fun d os => cell_regrown q1 d os
      have m2 := fun d os => cell_regrown p2 d os
      have o2 := fun d os => cell_regrown q2 d os
      have m3 := fun d os => cell_regrown p3 d os
      have o3 := fun d os => cell_regrown q3 d os
      have m4 := fun d os => cell_regrown p4 d os
      have o4 := fun d os => cell_regrown q4 d os
      have m5 := fun d os => cell_regrown p5 d os
      have o5 := fun d os => cell_regrown q5 d os
      have m6 := fun d os => cell_regrown p6 d os
      have o6 := fun d os => cell_regrown q6 d os
      have m7 := fun d os => cell_regrown p7 d os
      have o7 := fun d os => cell_regrown q7 d os
      have m8 := fun d os => cell_regrown p8 d os
      have o8 := fun d os => cell_regrown q8 d os
      have m9 := fun d os => cell_regrown p9 d os
      have o9 := fun d os => cell_regrown q9 d os
      have m10 := fun d os => cell_regrown p10 d os
      have o10 := fun d os => cell_regrown q10 d os
      have m11 := fun d os => cell_regrown p11 d os
      have o11 := fun d os => cell_regrown q11 d os
      clear p0 p1 p2 p3 p4 p5 p6 p7 p8 p9 p10 p11 q0 q1 q2 q3 q4 q5 q6 q7 q8 q9 q10 q11 r3 r10 s3 s10 hget hget' hbx hvb
      go_wp2_with fail
      refine wp_region_quiet_below (by kernel_rfl) (by kernel_rfl) ?_
      repeat (go_big_quiet_step (first | with_reducible exact K0.out _ _))
      refine wpQuiet_nil ?_
      intro _ hw'
      obtain ⟨⟨dq, osq⟩, hw''⟩ := hw'
      subst hw''
      clear m0 m1 m2 m3 m4 m5 m6 m7 m8 m9 m10 m11 o0 o1 o2 o3 o4 o5 o6 o7 o8 o9 o10 o11 K0
      have hb1 := below_regrown wr dq osq
      obtain ⟨w1, hw1⟩ : ∃ w1, grow (redrawn wr dq) osq = w1 := ⟨_, rfl⟩
      rw [hw1] at hb1 ⊢
      have HB2 := Lib.hid (HB.out.trans (hb1.mono HB.out.size))
      clear hw1 hb1
      go_wp2_with fail
      exact ⟨⟨i + 1, by omega, by go_num, HB2⟩, by simp [intOf]; omega⟩
    · go_wp2_with fail
      go_ret
      exact ⟨rfl, HB.out⟩
end Go.Proofs.Ytlbmfgiepcemdaa
