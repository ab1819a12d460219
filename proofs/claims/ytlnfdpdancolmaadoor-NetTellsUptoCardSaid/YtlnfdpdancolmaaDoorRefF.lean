/- ref44.Fold. Conditions: those in each statement. -/
import Derived.Test.YtlnfdpdancolmaaDoorRefE
import Derived.Test.YtlnfdpdancolmaaDoorPlainN
namespace Go.Proofs.YtlnfdpdancolmaaDoor
open Go.RowKit

set_option maxHeartbeats 4000000 in
set_option maxRecDepth 100000 in
theorem rfold_any (l : List Out) (cs : List Cmd) (A A' : Option Addr) (n c m c' : Nat) (w : World) (hr : Rd (Lt w.heap.size) w (slOut l) (.slice A n c)) (hr' : Rd (Lt w.heap.size) w (slCmd cs) (.slice A' m c')) (hn : n ≤ 1048576) (hm : m ≤ 1048576) :
    Calls Tryd.prog 16 #[.slice A n c, .slice A' m c'] w (RPost (foldS l cs).1 (foldS l cs).2 w) := by
  have hl := slOut_len hr
  have hl' := slCmd_len hr'
  have HL := Lib.hid hl.1
  have HL' := Lib.hid hl'.1
  have HR := Lib.hid hr
  have HR' := Lib.hid hr'
  clear hr hr' hl hl'
  go_enter Tryd.func16, Tryd.ntmps16
  go_wp2_with fail
  go_loopw [0, 6] (fun s0 s6 wr => ∃ (i : Nat) (L : List Out) (A0 : Option Addr) (c0 : Nat), i ≤ m ∧ s6 = .int .i64 i ∧ s0 = .slice A0 L.length c0 ∧ L.length ≤ n + i ∧ Hid (Rd (Lt wr.heap.size) wr (slOut L) (.slice A0 L.length c0)) ∧ Hid (foldS l (cs.take i) = (L, 0)) ∧ Hid (Below w.heap.size w wr)) (fun _ s6 _ => m - (intOf s6).toNat)
  case atStart =>
    refine ⟨0, l, A, c, by omega, rfl, by rw [HL.out], by have := HL.out; omega, Lib.hid ?_, Lib.hid (by rw [List.take_zero, foldS]), Lib.hid (Below.refl _ _)⟩
    rw [← HL.out]; exact HR.out
  case round =>
    obtain ⟨i, L, A0, c0, hi, rfl, rfl, hLl, RL, FL, HB⟩ := hrel
    by_cases hlt : i < m
    · obtain ⟨b, off, x, e, hlb, hget, A5, c5, hat⟩ := slCmd_at (HR'.out.belows HB.out) hlt
      subst e
      obtain ⟨p0, p1, p2, p3, p4, p5, r5⟩ := hat
      have HC := Lib.hid (rapply_any L x A0 A5 L.length c0 c5 wr RL.out (by omega) r5)
      have hsl := stepR_len L x
      have HG := Lib.hid hget
      have hlbw : b < wr.heap.size := hlb
      clear r5 hget hlb
      by_cases he : stepE L x = 0
      · have HF : Hid (foldS L [x] = (stepR L x, 0)) := Lib.hid (by rw [foldS_one, if_pos he])
        have HF2 : Hid (foldS l (cs.take (i + 1)) = (stepR L x, 0)) := Lib.hid (by rw [take_snoc HG.out, foldS_ok l _ _ L FL.out, HF.out])
        clear he
        go_wp2_with fail
        (with_reducible refine HC.out.mono ?_)
        rintro _ w5 ⟨A6, c6, hv5, hr6, hb5⟩
        rw [HF.out] at hv5 hr6
        subst hv5
        have R6 := Lib.hid hr6
        have B5 := Lib.hid (HB.out.trans (hb5.mono HB.out.size))
        clear hr6 hb5
        generalize hN : stepR L x = N at *
        clear hN
        go_wp2_with fail
        exact ⟨⟨i + 1, N, A6, c6, by omega, by go_num, rfl, by omega, R6, HF2, B5⟩, by simp [intOf]; omega⟩
      · have HF : Hid (foldS L [x] = ([], stepE L x)) := Lib.hid (by rw [foldS_one, if_neg he])
        have HF2 : Hid (foldS l cs = ([], stepE L x)) := Lib.hid (by
          rw [take_rest HG.out, foldS_ok l _ _ L FL.out, foldS, if_neg he])
        have heb : (stepE L x != 0) = true := by simp [he]
        generalize hE : stepE L x = E at *
        clear hE he
        go_wp2_with fail
        (with_reducible refine HC.out.mono ?_)
        rintro _ w5 ⟨A6, c6, hv5, hr6, hb5⟩
        rw [HF.out] at hv5 hr6
        subst hv5
        have B5 := Lib.hid (HB.out.trans (hb5.mono HB.out.size))
        clear hr6 hb5
        go_wp2_with fail
        go_ret2
        rw [HF2.out]
        exact ⟨none, 0, rfl, Rd.sl_nil, B5.out⟩
    · have HF2 : Hid (foldS l cs = (L, 0)) := Lib.hid (by
        have := FL.out
        rwa [List.take_of_length_le (by have := HL'.out; omega)] at this)
      go_wp2_with fail
      go_ret2
      rw [HF2.out]
      exact ⟨A0, c0, rfl, RL.out, HB.out⟩
end Go.Proofs.YtlnfdpdancolmaaDoor
