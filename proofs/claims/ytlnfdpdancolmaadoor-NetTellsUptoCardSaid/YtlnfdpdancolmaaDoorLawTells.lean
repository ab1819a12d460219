/- NetTells: it returns true. Conditions: those in each statement. -/
import Derived.Test.YtlnfdpdancolmaaDoorLawKeeps
import Derived.Test.YtlnfdpdancolmaaDoorRefF
namespace Go.Proofs.YtlnfdpdancolmaaDoor
open Go.RowKit

theorem fold_bulk : ∀ (cs : List Cmd) (l : List Out), bulkOut (foldS l cs).1 ≤ bulkOut l + bulkCmd cs
  | [], l => by rw [foldS]; exact Nat.le_add_right _ _
  | c :: r, l => by
    rw [foldS]
    have h0 : bulkCmd (c :: r) = c.bulk + bulkCmd r := by unfold bulkCmd; rw [List.map_cons, List.sum_cons]
    split
    · have := fold_bulk r (stepR l c)
      have := step_bulk l c
      omega
    · show bulkOut [] ≤ _
      have : bulkOut ([] : List Out) = 0 := rfl
      omega

set_option maxHeartbeats 8000000 in
set_option maxRecDepth 100000 in
theorem tells_any (l : List Out) (cs : List Cmd) (A A' : Option Addr) (n c m c' : Nat) (w : World) (hr : Rd (Lt w.heap.size) w (slOut l) (.slice A n c)) (hr' : Rd (Lt w.heap.size) w (slCmd cs) (.slice A' m c')) (hb : bulkOut l + bulkCmd cs ≤ 1048576) (hR : Row32 w 0 64 kF) :
    Calls Tryd.prog 3 #[.slice A n c, .slice A' m c'] w fun e w' => e = .returned (.bool true) ∧ Below w.heap.size w w' := by
  have hl := slOut_len hr
  have hl' := slCmd_len hr'
  have hln := bulkOut_len l
  have hln' := bulkCmd_len cs
  have HL := Lib.hid hl.1
  have HL' := Lib.hid hl'.1
  have HS := Lib.hid (small_any w hR)
  have HR := Lib.hid hr
  have HR' := Lib.hid hr'
  have hn : n ≤ 1048576 := by omega
  have hm : m ≤ 1048576 := by omega
  clear hr hr' hR hl hl'
  go_enter Tryd.func3, Tryd.ntmps3
  go_wp2_with fail
  (with_reducible refine HS.out.mono ?_)
  rintro _ w1 ⟨rfl, hb1⟩
  have B1 := Lib.hid hb1
  have R1 := Lib.hid (HR.out.belows hb1)
  have Q1 := Lib.hid (HR'.out.belows hb1)
  clear hb1
  go_wp2_with fail
  (with_reducible refine (outs_any R1.out (by omega)).mono ?_)
  rintro _ w2' ⟨b1, rfl, q1, rfl⟩
  obtain ⟨w2, hw2⟩ : ∃ w2, w2 = w1.drewN q1 := ⟨_, rfl⟩
  have h12 : Below w1.heap.size w1 w2 := by rw [hw2]; exact below_drew_n q1
  have B2 := Lib.hid (B1.out.trans (h12.mono B1.out.size))
  have Q2 := Lib.hid (Q1.out.belows h12)
  rw [← hw2]
  clear hw2 h12 B1 R1 Q1
  cases b1 with
  | false =>
    go_wp2_with fail
    go_ret
    exact ⟨rfl, B2.out⟩
  | true =>
    go_wp2_with fail
    (with_reducible refine (commands_any Q2.out (by omega)).mono ?_)
    rintro _ w3' ⟨b2, rfl, q2, rfl⟩
    obtain ⟨w3, hw3⟩ : ∃ w3, w3 = w2.drewN q2 := ⟨_, rfl⟩
    have h23 : Below w2.heap.size w2 w3 := by rw [hw3]; exact below_drew_n q2
    have B3 := Lib.hid (B2.out.trans (h23.mono B2.out.size))
    rw [← hw3]
    clear hw3 h23 B2 Q2
    cases b2 with
    | false =>
      go_wp2_with fail
      go_ret
      exact ⟨rfl, B3.out⟩
    | true =>
      obtain ⟨ns, hns, hna, hsr⟩ := ocs_of_rd HR.out
      have hnl : ns.length = n := by rw [HL.out, ← hns, List.length_map]
      have HNS := Lib.hid hns
      have HNA := Lib.hid hna
      have B4 := Lib.hid (B3.out.alloc B3.out.size (.cells #[] 45))
      have HS1 : Hid (∀ W, Below w.heap.size w W → SrcAt W A ns) := Lib.hid (fun W hW => hsr.below hW (src_lt hsr))
      clear hns hna hsr
      go_wp2_with (at_builtin; refine wp_append_oc rfl _ _ rfl w.heap.size ?c1 (.slice (some ⟨w3.heap.size, 0, none⟩) 0 0) [] rfl ?c2 A n c ns hnl rfl (HS1.out _ B4.out) ?c3 ?_)
      case c1 => exact B4.out.size
      case c2 => exact own_empty _ _ B3.out.size _ rfl
      case c3 => simpa using (by omega : n ≤ 4194304)
      intro v5 w5 hown hgr
      have hb5 : Below w.heap.size w w5 := B4.out.grown hgr B4.out.size (fun q hq => by
        have : w3.heap.size = q := by simpa [Value.ownBlock] using hq
        have := B3.out.size
        omega)
      have hown1 : w5.ownsRow w.heap.size 45 5 v5 ns.length (ns.flatMap OC.cells) := by
        first | exact hown | (rw [hnl]; exact hown) | simpa using hown
      obtain ⟨A5, c5, rfl⟩ := own_slice hown1
      have hrd := outs_of_own hown1 (fun z hz => (HNA.out.below hb5 (Nat.le_refl _) z hz).weaken (fun b hb => Nat.lt_of_lt_of_le hb hb5.size))
      rw [HNS.out] at hrd
      rw [hnl] at hrd
      have R5 := Lib.hid hrd
      have B5 := Lib.hid hb5
      clear hown hown1 hgr hb5 hrd HS1 HNA B4 B3
      rw [hnl]
      clear hnl HNS ns
      go_wp2_with fail
      go_loopw [6, 7] (fun s6 s7 wr => ∃ (i : Nat) (L : List Out) (A0 : Option Addr) (c0 : Nat), i ≤ m ∧ s7 = .int .i64 i ∧ s6 = .slice A0 L.length c0 ∧ L.length ≤ 2097152 ∧ Hid (Rd (Lt wr.heap.size) wr (slOut L) (.slice A0 L.length c0)) ∧ Hid (bulkOut L ≤ bulkOut l + bulkCmd (cs.take i)) ∧ Hid (Below w.heap.size w wr)) (fun _ s7 _ => m - (intOf s7).toNat)
      case atStart =>
        refine ⟨0, l, A5, c5, by omega, rfl, by rw [HL.out], by omega, Lib.hid ?_, Lib.hid (by simp [bulkCmd]), B5⟩
        rw [← HL.out]; exact R5.out
      case round =>
        clear R5 B5
        obtain ⟨i, L, A0, c0, hi, rfl, rfl, hLl, RL, BL, HB⟩ := hrel
        by_cases hlt : i < m
        · obtain ⟨b, off, x, e, hlb, hget, A6, c6, hat⟩ := slCmd_at (HR'.out.belows HB.out) hlt
          subst e
          obtain ⟨p0, p1, p2, p3, p4, p5, r5⟩ := hat
          have htk := bulkCmd_take cs i x hget
          have hsu := bulkCmd_succ cs i x hget
          have hfb := fold_bulk [x] L
          have hx1 : bulkCmd [x] = x.bulk := by simp [bulkCmd]
          have hbl := BL.out
          have HC := Lib.hid (apply_any L x A0 A6 L.length c0 c6 wr RL.out (by omega) r5 (by omega))
          have HBN : Hid (bulkOut (foldS L [x]).1 ≤ bulkOut l + bulkCmd (cs.take (i + 1))) := Lib.hid (by omega)
          have hbn2 : bulkOut (foldS L [x]).1 ≤ 1048576 := by omega
          have hln2 := bulkOut_len (foldS L [x]).1
          have BL2 : Hid (bulkOut L ≤ bulkOut l + bulkCmd (cs.take (i + 1))) := Lib.hid (by omega)
          have hlbw : b < wr.heap.size := hlb
          have R5 := Lib.hid r5
          have HRA : Hid (∀ W, Below wr.heap.size wr W → Calls Tryd.prog 13 #[.slice A0 L.length c0, .agg #[.string x.key, .int .i64 x.kind, .string x.of, .string x.new, .string x.name, .slice A6 x.args.length c6]] W (RPost (foldS L [x]).1 (foldS L [x]).2 W)) := Lib.hid (fun W hW => rapply_any L x A0 A6 L.length c0 c6 W (RL.out.belows hW) hLl (R5.out.belows hW))
          clear r5 hget htk hsu hfb hx1 hlb
          generalize hFF : foldS L [x] = FF at *
          obtain ⟨N, E⟩ := FF
          have HFF := Lib.hid hFF
          clear hFF
          go_wp2_with fail
          (with_reducible refine HC.out.mono ?_)
          rintro _ w6 ⟨v6, hv6, ho6, hb6⟩
          rw [HFF.out] at hv6 ho6
          obtain ⟨A7, c7, rfl, hr7⟩ := ho6.rdOut
          subst hv6
          have R7 := Lib.hid hr7
          have B6 := Lib.hid hb6
          have q0 : w6.cell? ⟨b, off + i * 6, none⟩ = some (.string x.key) := (hb6.cell (p := ⟨b, off + i * 6, none⟩) hlbw).trans p0
          have q1 : w6.cell? ⟨b, off + i * 6 + 1, none⟩ = some (.int .i64 x.kind) := (hb6.cell (p := ⟨b, off + i * 6 + 1, none⟩) hlbw).trans p1
          have q2 : w6.cell? ⟨b, off + i * 6 + 2, none⟩ = some (.string x.of) := (hb6.cell (p := ⟨b, off + i * 6 + 2, none⟩) hlbw).trans p2
          have q3 : w6.cell? ⟨b, off + i * 6 + 3, none⟩ = some (.string x.new) := (hb6.cell (p := ⟨b, off + i * 6 + 3, none⟩) hlbw).trans p3
          have q4 : w6.cell? ⟨b, off + i * 6 + 4, none⟩ = some (.string x.name) := (hb6.cell (p := ⟨b, off + i * 6 + 4, none⟩) hlbw).trans p4
          have q5 : w6.cell? ⟨b, off + i * 6 + 5, none⟩ = some (.slice A6 x.args.length c6) := (hb6.cell (p := ⟨b, off + i * 6 + 5, none⟩) hlbw).trans p5
          have HRB := Lib.hid (HRA.out w6 hb6)
          clear ho6 hb6 hr7 HC HRA p0 p1 p2 p3 p4 p5
          go_wp2_with fail
          (with_reducible refine HRB.out.mono ?_)
          rintro _ w7 ⟨A8, c8, rfl, hr8, hb7⟩
          have R8 := Lib.hid hr8
          have S7 := Lib.hid (R7.out.belows hb7)
          have B7 := Lib.hid (B6.out.trans (hb7.mono B6.out.size))
          have HEQ := Lib.hid (rEqual_same N A7 A8 N.length c7 c8 w7 hbn2 S7.out R8.out)
          clear hr8 hb7 HRB B6 q0 q1 q2 q3 q4 q5
          go_wp2_with fail
          (with_reducible refine HEQ.out.mono ?_)
          rintro _ w8 ⟨rfl, hb8⟩
          have T8 := Lib.hid (S7.out.belows hb8)
          have L8 := Lib.hid (RL.out.belows (B7.out.trans (hb8.mono B7.out.size)))
          have B8 := Lib.hid (HB.out.trans ((B7.out.trans (hb8.mono B7.out.size)).mono HB.out.size))
          clear hb8 HEQ
          by_cases he : E = 0
          · subst he
            go_wp2_with fail
            exact ⟨⟨i + 1, N, A7, c7, by omega, by go_num, rfl, by omega, T8, HBN, B8⟩, by simp [intOf]; omega⟩
          · have heb : (E == 0) = false := by simpa using he
            clear he
            go_wp2_with fail
            exact ⟨⟨i + 1, L, A0, c0, by omega, by go_num, rfl, by omega, L8, BL2, B8⟩, by simp [intOf]; omega⟩
        · have HFO := Lib.hid (fold_any l cs A A' n c m c' wr (HR.out.belows HB.out) (by omega) (HR'.out.belows HB.out) (by omega))
          have HRF : Hid (∀ W, Below w.heap.size w W → Calls Tryd.prog 16 #[.slice A n c, .slice A' m c'] W (RPost (foldS l cs).1 (foldS l cs).2 W)) := Lib.hid (fun W hW => rfold_any l cs A A' n c m c' W (HR.out.belows hW) (HR'.out.belows hW) hn hm)
          have hfb := fold_bulk cs l
          generalize hFF : foldS l cs = FF at *
          obtain ⟨N, E⟩ := FF
          have HFF := Lib.hid hFF
          clear hFF
          have hbn : bulkOut N ≤ 1048576 := Nat.le_trans hfb hb
          clear hfb
          go_wp2_with fail
          (with_reducible refine HFO.out.mono ?_)
          rintro _ w6 ⟨v6, hv6, ho6, hb6⟩
          rw [HFF.out] at hv6 ho6
          obtain ⟨A7, c7, rfl, hr7⟩ := ho6.rdOut
          subst hv6
          have R7 := Lib.hid hr7
          have B6 := Lib.hid (HB.out.trans (hb6.mono HB.out.size))
          clear ho6 hb6 hr7 HFO
          go_wp2_with fail
          (with_reducible refine (HRF.out _ B6.out).mono ?_)
          rintro _ w7 ⟨A8, c8, rfl, hr8, hb7⟩
          have R8 := Lib.hid hr8
          have S7 := Lib.hid (R7.out.belows hb7)
          have B7 := Lib.hid (B6.out.trans (hb7.mono B6.out.size))
          have HEQ := Lib.hid (rEqual_same N A7 A8 N.length c7 c8 w7 hbn S7.out R8.out)
          clear hr8 hb7
          go_wp2_with fail
          (with_reducible refine HEQ.out.mono ?_)
          rintro _ w8 ⟨rfl, hb8⟩
          have B8 := Lib.hid (B7.out.trans (hb8.mono B7.out.size))
          clear hb8
          go_wp2_with fail
          go_ret
          exact ⟨rfl, B8.out⟩
end Go.Proofs.YtlnfdpdancolmaaDoor
