/- NetKeeps: it returns true. Conditions: those in each statement. -/
import Derived.Test.YtlnfdpdancolmaaDoorSmall
import Derived.Test.YtlnfdpdancolmaaDoorPlainN
namespace Go.Proofs.YtlnfdpdancolmaaDoor
open Go.RowKit

theorem below_drew_n {w : World} (q : Nat) : Below w.heap.size w (w.drewN q) := below_drewN (Below.refl _ _) q
theorem Owned.rdOut {B : Nat} {L : List Out} {w : World} {v : Value} (h : Owned B 45 5 L.length (rowsOut L) w v) : ∃ A c, v = .slice A L.length c ∧ Rd (Lt w.heap.size) w (slOut L) (.slice A L.length c) := by
  obtain ⟨A, c, rfl, h2⟩ := h.form
  exact ⟨A, c, rfl, h2⟩

set_option maxHeartbeats 8000000 in
set_option maxRecDepth 100000 in
theorem keeps_any (l : List Out) (cs : List Cmd) (A A' : Option Addr) (n c m c' : Nat) (w : World) (hr : Rd (Lt w.heap.size) w (slOut l) (.slice A n c)) (hr' : Rd (Lt w.heap.size) w (slCmd cs) (.slice A' m c')) (hb : bulkOut l + bulkCmd cs ≤ 2097152) (hR : Row32 w 0 64 kF) :
    Calls Tryd.prog 6 #[.slice A n c, .slice A' m c'] w fun e w' => e = .returned (.bool true) ∧ Below w.heap.size w w' := by
  have hl := slOut_len hr
  have hl' := slCmd_len hr'
  have hln := bulkOut_len l
  have hln' := bulkCmd_len cs
  have HL := Lib.hid hl.1
  have HL' := Lib.hid hl'.1
  have HS := Lib.hid (small_any w hR)
  have HR := Lib.hid hr
  have HR' := Lib.hid hr'
  have hn : n ≤ 2097152 := by omega
  have hm : m ≤ 2097152 := by omega
  clear hr hr' hR hl hl'
  go_enter Tryd.func6, Tryd.ntmps6
  go_wp2_with fail
  (with_reducible refine HS.out.mono ?_)
  rintro _ w1 ⟨rfl, hb1⟩
  have B1 := Lib.hid hb1
  have R1 := Lib.hid (HR.out.belows hb1)
  have Q1 := Lib.hid (HR'.out.belows hb1)
  clear hb1
  go_wp2_with fail
  (with_reducible refine (outs_any R1.out (by omega)).mono ?_)
  rintro _ w2' ⟨b1, rfl, q1, rfl⟩
  obtain ⟨w2, hw2⟩ : ∃ w2, w2 = w1.drewN q1 := ⟨_, rfl⟩
  have h12 : Below w1.heap.size w1 w2 := by rw [hw2]; exact below_drew_n q1
  have B2 := Lib.hid (B1.out.trans (h12.mono B1.out.size))
  have R2 := Lib.hid (R1.out.belows h12)
  have Q2 := Lib.hid (Q1.out.belows h12)
  rw [← hw2]
  clear hw2 h12 B1 R1 Q1
  cases b1 with
  | false =>
    go_wp2_with fail
    go_ret
    exact ⟨rfl, B2.out⟩
  | true =>
    go_wp2_with fail
    (with_reducible refine (commands_any Q2.out (by omega)).mono ?_)
    rintro _ w3' ⟨b2, rfl, q2, rfl⟩
    obtain ⟨w3, hw3⟩ : ∃ w3, w3 = w2.drewN q2 := ⟨_, rfl⟩
    have h23 : Below w2.heap.size w2 w3 := by rw [hw3]; exact below_drew_n q2
    have B3 := Lib.hid (B2.out.trans (h23.mono B2.out.size))
    have R3 := Lib.hid (R2.out.belows h23)
    have Q3 := Lib.hid (Q2.out.belows h23)
    rw [← hw3]
    clear hw3 h23 B2 R2 Q2
    cases b2 with
    | false =>
      go_wp2_with fail
      go_ret
      exact ⟨rfl, B3.out⟩
    | true =>
      go_wp2_with fail
      (with_reducible refine (distinct_any R3.out (by omega)).mono ?_)
      rintro _ w4' ⟨b3, rfl, hdist, q3, rfl⟩
      obtain ⟨w4, hw4⟩ : ∃ w4, w4 = w3.drewN q3 := ⟨_, rfl⟩
      have h34 : Below w3.heap.size w3 w4 := by rw [hw4]; exact below_drew_n q3
      have B4 := Lib.hid (B3.out.trans (h34.mono B3.out.size))
      have R4 := Lib.hid (R3.out.belows h34)
      have HD := Lib.hid hdist
      rw [← hw4]
      clear hw4 h34 B3 R3 Q3 hdist
      cases b3 with
      | false =>
        go_wp2_with fail
        go_ret
        exact ⟨rfl, B4.out⟩
      | true =>
        have D4 := Lib.hid (HD.out.1 rfl)
        clear HD
        go_wp2_with fail
        go_loopw [0, 6] (fun s0 s6 wr => ∃ (i : Nat) (L : List Out) (A c : _), i ≤ m ∧ s6 = .int .i64 i ∧ s0 = .slice A L.length c ∧ L.length ≤ 2097152 ∧ Hid (Rd (Lt wr.heap.size) wr (slOut L) (.slice A L.length c)) ∧ Hid (Distinct L) ∧ Hid (bulkOut L ≤ bulkOut l + bulkCmd (cs.take i)) ∧ Hid (Below w.heap.size w wr)) (fun _ s6 _ => m - (intOf s6).toNat)
        case atStart =>
          refine ⟨0, l, A, c, by omega, rfl, by rw [HL.out], by omega, Lib.hid ?_, D4, Lib.hid (by simp [bulkCmd]), B4⟩
          rw [← HL.out]; exact R4.out
        case round =>
          clear R4 D4 B4
          obtain ⟨i, L, A0, c0, hi, rfl, rfl, hLl, RL, DL, BL, HB⟩ := hrel
          by_cases hlt : i < m
          · obtain ⟨b, off, x, e, hlb, hget, A5, c5, hat⟩ := slCmd_at (HR'.out.belows HB.out) hlt
            subst e
            obtain ⟨p0, p1, p2, p3, p4, p5, r5⟩ := hat
            have htk := bulkCmd_take cs i x hget
            have hsu := bulkCmd_succ cs i x hget
            have hsb := step_bulk L x
            have hbl := BL.out
            have HC := Lib.hid (apply_any L x A0 A5 L.length c0 c5 wr RL.out (by omega) r5 (by omega))
            have HBN : Hid (bulkOut (stepR L x) ≤ bulkOut l + bulkCmd (cs.take (i + 1))) := Lib.hid (by omega)
            have hbn2 : bulkOut (stepR L x) ≤ 2097152 := by omega
            have hlbw : b < wr.heap.size := hlb
            clear r5 hget htk hsu hsb
            by_cases he : stepE L x = 0
            · have HF : Hid (foldS L [x] = (stepR L x, 0)) := Lib.hid (by rw [foldS_one, if_pos he])
              have HDN := Lib.hid (step_distinct DL.out he)
              have hkd := step_kind he
              have hln2 := bulkOut_len (stepR L x)
              clear he
              go_wp2_with fail
              (with_reducible refine HC.out.mono ?_)
              rintro _ w5 ⟨v5, hv5, ho5, hb5⟩
              rw [HF.out] at hv5 ho5
              obtain ⟨A6, c6, rfl, hr6⟩ := ho5.rdOut
              subst hv5
              have B5 := Lib.hid (HB.out.trans (hb5.mono HB.out.size))
              have R6 := Lib.hid hr6
              have p1' : w5.cell? ⟨b, off + i * 6 + 1, none⟩ = some (.int .i64 x.kind) := (hb5.cell (p := ⟨b, off + i * 6 + 1, none⟩) hlbw).trans p1
              have hlb5 : b < w5.heap.size := Nat.lt_of_lt_of_le hlbw hb5.size
              clear ho5 hb5 hr6
              generalize hN : stepR L x = N at *
              clear hN
              go_wp2_with fail
              (with_reducible refine (distinct_any R6.out hbn2).mono ?_)
              rintro _ w6' ⟨b6, rfl, hd6, q6, rfl⟩
              obtain rfl : b6 = true := hd6.2 HDN.out
              obtain ⟨w6, hw6⟩ : ∃ w6, w6 = w5.drewN q6 := ⟨_, rfl⟩
              have h56 : Below w5.heap.size w5 w6 := by rw [hw6]; exact below_drew_n q6
              have B6 := Lib.hid (B5.out.trans (h56.mono B5.out.size))
              have R7 := Lib.hid (R6.out.belows h56)
              have p1'' : w6.cell? ⟨b, off + i * 6 + 1, none⟩ = some (.int .i64 x.kind) := (h56.cell (p := ⟨b, off + i * 6 + 1, none⟩) hlb5).trans p1'
              rw [← hw6]
              clear hw6 h56 hd6 B5 R6
              have hin : (i : Int) < m := by omega
              rcases hkd with ⟨hk, hl⟩ | ⟨hk, hl⟩ | ⟨hk, hl⟩
              · rw [hk] at p1''
                have hg : (N.length : Int) - L.length = 1 := by omega
                have hl3 : N.length ≤ 2097152 := by omega
                clear hl
                clear hk
                go_wp2_with fail
                exact ⟨⟨i + 1, N, A6, c6, by omega, by go_num, rfl, by omega, R7, HDN, HBN, B6⟩, by simp [intOf]; omega⟩
              · rw [hk] at p1''
                have hg : (N.length : Int) - L.length = -1 := by omega
                have hl3 : N.length ≤ 2097152 := by omega
                clear hl
                clear hk
                go_wp2_with fail
                exact ⟨⟨i + 1, N, A6, c6, by omega, by go_num, rfl, by omega, R7, HDN, HBN, B6⟩, by simp [intOf]; omega⟩
              · have hg : (N.length : Int) - L.length = 0 := by omega
                have hl3 : N.length ≤ 2097152 := by omega
                clear hl
                rcases hk with hk | hk
                · rw [hk] at p1''
                  clear hk
                  go_wp2_with fail
                  exact ⟨⟨i + 1, N, A6, c6, by omega, by go_num, rfl, by omega, R7, HDN, HBN, B6⟩, by simp [intOf]; omega⟩
                · rw [hk] at p1''
                  clear hk
                  go_wp2_with fail
                  exact ⟨⟨i + 1, N, A6, c6, by omega, by go_num, rfl, by omega, R7, HDN, HBN, B6⟩, by simp [intOf]; omega⟩
            · have HF : Hid (foldS L [x] = ([], stepE L x)) := Lib.hid (by rw [foldS_one, if_neg he])
              generalize hE : stepE L x = E at *
              have heb : (E != 0) = true := by simp [he]
              clear hE he
              go_wp2_with fail
              (with_reducible refine HC.out.mono ?_)
              rintro _ w5 ⟨v5, hv5, ho5, hb5⟩
              rw [HF.out] at hv5 ho5
              obtain ⟨A6, c6, rfl, hr6⟩ := ho5.rdOut
              subst hv5
              have B5 := Lib.hid (HB.out.trans (hb5.mono HB.out.size))
              have R5 := Lib.hid (RL.out.belows hb5)
              have BL2 : Hid (bulkOut L ≤ bulkOut l + bulkCmd (cs.take (i + 1))) := Lib.hid (by
                have h1 := BL.out
                have : bulkCmd (cs.take i) ≤ bulkCmd (cs.take (i + 1)) := by
                  rw [List.take_add_one]; unfold bulkCmd; rw [List.map_append, List.sum_append]; omega
                omega)
              clear ho5 hb5 hr6
              go_wp2_with fail
              exact ⟨⟨i + 1, L, A0, c0, by omega, by go_num, rfl, by omega, R5, DL, BL2, B5⟩, by simp [intOf]; omega⟩
          · go_wp2_with fail
            go_ret
            exact ⟨rfl, HB.out⟩
end Go.Proofs.YtlnfdpdancolmaaDoor
