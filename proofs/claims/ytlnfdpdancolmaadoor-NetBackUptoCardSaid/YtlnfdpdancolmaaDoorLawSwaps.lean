/- NetSwaps: it returns true. Conditions: those in each statement. -/
import Derived.Test.YtlnfdpdancolmaaDoorLawKeeps
import Derived.Test.YtlnfdpdancolmaaDoorPlainS
namespace Go.Proofs.YtlnfdpdancolmaaDoor
open Go.RowKit

/-- a box that holds a command -/
def CB (w : World) (b : Nat) (x : Cmd) (A : Option Addr) (c : Nat) : Prop := b < w.heap.size ∧ CmdAt (Lt w.heap.size) w b 0 x A c
theorem CB.belows {w w' : World} {b : Nat} {x : Cmd} {A : Option Addr} {c : Nat} (h : CB w b x A c) (hb : Below w.heap.size w w') : CB w' b x A c := by
  obtain ⟨hl, q0, q1, q2, q3, q4, q5, s5⟩ := h
  exact ⟨Nat.lt_of_lt_of_le hl hb.size, (hb.cell (p := ⟨b, 0, none⟩) hl).trans q0, (hb.cell (p := ⟨b, 0 + 1, none⟩) hl).trans q1, (hb.cell (p := ⟨b, 0 + 2, none⟩) hl).trans q2, (hb.cell (p := ⟨b, 0 + 3, none⟩) hl).trans q3, (hb.cell (p := ⟨b, 0 + 4, none⟩) hl).trans q4, (hb.cell (p := ⟨b, 0 + 5, none⟩) hl).trans q5, s5.belows hb⟩
theorem CB.new (w : World) (x : Cmd) (A : Option Addr) (c : Nat) (h : Rd (Lt w.heap.size) w (vs x.args) (.slice A x.args.length c)) : CB (w.alloc (.cells #[.string x.key, .int .i64 x.kind, .string x.of, .string x.new, .string x.name, .slice A x.args.length c] 32)) w.heap.size x A c :=
  ⟨by simp, cell_new _ _ _ _, cell_new _ _ _ _, cell_new _ _ _ _, cell_new _ _ _ _, cell_new _ _ _ _, cell_new _ _ _ _, h.allocs _⟩
/-- two commands in a new block -/
theorem cmds2 (w : World) (x y : Cmd) (A1 A2 : Option Addr) (c1 c2 : Nat) (hx : Rd (Lt w.heap.size) w (vs x.args) (.slice A1 x.args.length c1)) (hy : Rd (Lt w.heap.size) w (vs y.args) (.slice A2 y.args.length c2)) :
    Rd (Lt (w.alloc (.cells #[.string x.key, .int .i64 x.kind, .string x.of, .string x.new, .string x.name, .slice A1 x.args.length c1, .string y.key, .int .i64 y.kind, .string y.of, .string y.new, .string y.name, .slice A2 y.args.length c2] 32)).heap.size) (w.alloc (.cells #[.string x.key, .int .i64 x.kind, .string x.of, .string x.new, .string x.name, .slice A1 x.args.length c1, .string y.key, .int .i64 y.kind, .string y.of, .string y.new, .string y.name, .slice A2 y.args.length c2] 32)) (slCmd [x, y]) (.slice (some ⟨w.heap.size, 0, none⟩) 2 2) := by
  refine Rd.sl_mk (Nat.le_refl _) (by omega) fun _ => ⟨w.heap.size, 0, rfl, by unfold Lt; simp, fun i hi => ?_⟩
  have hi : i < 2 := hi
  match i, hi with
  | 0, _ =>
    rw [rowsCmd_get (x := x) rfl]
    exact row_of_CmdAt (A5 := A1) (c5 := c1) ⟨cell_new _ _ _ _, cell_new _ _ _ _, cell_new _ _ _ _, cell_new _ _ _ _, cell_new _ _ _ _, cell_new _ _ _ _, hx.allocs _⟩
  | 1, _ =>
    rw [rowsCmd_get (x := y) rfl]
    exact row_of_CmdAt (A5 := A2) (c5 := c2) ⟨cell_new _ _ _ _, cell_new _ _ _ _, cell_new _ _ _ _, cell_new _ _ _ _, cell_new _ _ _ _, cell_new _ _ _ _, hy.allocs _⟩

set_option maxHeartbeats 8000000 in
set_option maxRecDepth 100000 in
theorem swaps_any (l : List Out) (x y : Cmd) (A A1 A2 : Option Addr) (n c c1 c2 : Nat) (w : World) (hr : Rd (Lt w.heap.size) w (slOut l) (.slice A n c)) (hx : Rd (Lt w.heap.size) w (vs x.args) (.slice A1 x.args.length c1)) (hy : Rd (Lt w.heap.size) w (vs y.args) (.slice A2 y.args.length c2)) (hb : bulkOut l + x.bulk + y.bulk ≤ 1048576) (hR : Row32 w 0 64 kF) :
    Calls Tryd.prog 8 #[.slice A n c, .agg #[.string x.key, .int .i64 x.kind, .string x.of, .string x.new, .string x.name, .slice A1 x.args.length c1], .agg #[.string y.key, .int .i64 y.kind, .string y.of, .string y.new, .string y.name, .slice A2 y.args.length c2]] w fun e w' => e = .returned (.bool true) ∧ Below w.heap.size w w' := by
  have hw0 : 0 < w.heap.size := World.block_lt_of_cell? w _ (hR 0 (by omega))
  have hl := slOut_len hr
  have hln := bulkOut_len l
  have hf1 := fold2_bulk l x y
  have hf2 := fold2_bulk l y x
  have hcb : bulkCmd [x, y] ≤ 1048576 := by simp [bulkCmd]; omega
  have hcb2 : bulkCmd [y, x] ≤ 1048576 := by simp [bulkCmd]; omega
  have k1 : Below w.heap.size w (w.alloc (.cells #[.string x.key, .int .i64 x.kind, .string x.of, .string x.new, .string x.name, .slice A1 x.args.length c1] 32)) := (Below.refl _ _).alloc (Nat.le_refl _) _
  have k2 : Below w.heap.size w ((w.alloc (.cells #[.string x.key, .int .i64 x.kind, .string x.of, .string x.new, .string x.name, .slice A1 x.args.length c1] 32)).alloc (.cells #[.string y.key, .int .i64 y.kind, .string y.of, .string y.new, .string y.name, .slice A2 y.args.length c2] 32)) := k1.alloc k1.size _
  have k3 : Below (w.alloc (.cells #[.string x.key, .int .i64 x.kind, .string x.of, .string x.new, .string x.name, .slice A1 x.args.length c1] 32)).heap.size (w.alloc (.cells #[.string x.key, .int .i64 x.kind, .string x.of, .string x.new, .string x.name, .slice A1 x.args.length c1] 32)) ((w.alloc (.cells #[.string x.key, .int .i64 x.kind, .string x.of, .string x.new, .string x.name, .slice A1 x.args.length c1] 32)).alloc (.cells #[.string y.key, .int .i64 y.kind, .string y.of, .string y.new, .string y.name, .slice A2 y.args.length c2] 32)) := (Below.refl _ _).alloc (Nat.le_refl _) _
  have C0 := Lib.hid ((CB.new w x A1 c1 hx).belows k3)
  have D0 := Lib.hid (CB.new _ y A2 c2 (hy.belows k1))
  have HS := Lib.hid (small_any _ (hR.below k2 hw0))
  have B0 := Lib.hid k2
  have R0 := Lib.hid (hr.belows k2)
  rw [World.size_alloc] at D0
  clear hr hR hl hx hy k1 k2 k3
  go_enter Tryd.func8, Tryd.ntmps8
  go_wp2_with fail
  (with_reducible refine HS.out.mono ?_)
  rintro _ w1 ⟨rfl, hb1⟩
  have B1 := Lib.hid (B0.out.trans (hb1.mono B0.out.size))
  have R1 := Lib.hid (R0.out.belows hb1)
  have C1 := Lib.hid (C0.out.belows hb1)
  have D1 := Lib.hid (D0.out.belows hb1)
  clear hb1 B0 R0 C0 D0 HS
  go_wp2_with fail
  (with_reducible refine (outs_any R1.out (by omega)).mono ?_)
  rintro _ w2' ⟨b1, rfl, q1, rfl⟩
  obtain ⟨w2, hw2⟩ : ∃ w2, w2 = w1.drewN q1 := ⟨_, rfl⟩
  have h12 : Below w1.heap.size w1 w2 := by rw [hw2]; exact below_drew_n q1
  have B2 := Lib.hid (B1.out.trans (h12.mono B1.out.size))
  have R2 := Lib.hid (R1.out.belows h12)
  have C2 := Lib.hid (C1.out.belows h12)
  have D2 := Lib.hid (D1.out.belows h12)
  rw [← hw2]
  clear hw2 h12 B1 R1 C1 D1
  cases b1 with
  | false =>
    go_wp2_with fail
    go_ret
    exact ⟨rfl, B2.out⟩
  | true =>
    have HQ := Lib.hid (commands_any (cmds2 w2 x y A1 A2 c1 c2 C2.out.2.2.2.2.2.2.2 D2.out.2.2.2.2.2.2.2) hcb)
    obtain ⟨_, p0, p1, p2, p3, p4, p5, _⟩ := C2.out
    obtain ⟨_, q0, q1, q2, q3, q4, q5, _⟩ := D2.out
    rw [Nat.zero_add] at p1 p2 p3 p4 p5 q1 q2 q3 q4 q5
    go_wp2_with fail
    (with_reducible refine HQ.out.mono ?_)
    rintro _ w3' ⟨b2, rfl, qq, rfl⟩
    obtain ⟨w3, hw3⟩ : ∃ w3, w3 = (w2.alloc (.cells #[.string x.key, .int .i64 x.kind, .string x.of, .string x.new, .string x.name, .slice A1 x.args.length c1, .string y.key, .int .i64 y.kind, .string y.of, .string y.new, .string y.name, .slice A2 y.args.length c2] 32)).drewN qq := ⟨_, rfl⟩
    have h23 : Below w2.heap.size w2 w3 := by rw [hw3]; exact ((Below.refl _ _).alloc (Nat.le_refl _) _).trans ((below_drew_n qq).mono (by simp))
    have B3 := Lib.hid (B2.out.trans (h23.mono B2.out.size))
    have R3 := Lib.hid (R2.out.belows h23)
    have C3 := Lib.hid (C2.out.belows h23)
    have D3 := Lib.hid (D2.out.belows h23)
    rw [← hw3]
    clear hw3 h23 B2 R2 C2 D2 HQ p0 p1 p2 p3 p4 p5 q0 q1 q2 q3 q4 q5
    cases b2 with
    | false =>
      go_wp2_with fail
      go_ret
      exact ⟨rfl, B3.out⟩
    | true =>
      go_wp2_with fail
      (with_reducible refine (distinct_any R3.out (by omega)).mono ?_)
      rintro _ w4' ⟨b3, rfl, hdist, q3, rfl⟩
      obtain ⟨w4, hw4⟩ : ∃ w4, w4 = w3.drewN q3 := ⟨_, rfl⟩
      have h34 : Below w3.heap.size w3 w4 := by rw [hw4]; exact below_drew_n q3
      have B4 := Lib.hid (B3.out.trans (h34.mono B3.out.size))
      have R4 := Lib.hid (R3.out.belows h34)
      have C4 := Lib.hid (C3.out.belows h34)
      have D4 := Lib.hid (D3.out.belows h34)
      have HD := Lib.hid hdist
      rw [← hw4]
      clear hw4 h34 B3 R3 C3 D3 hdist
      cases b3 with
      | false =>
        go_wp2_with fail
        go_ret
        exact ⟨rfl, B4.out⟩
      | true =>
        have E4 := Lib.hid (HD.out.1 rfl)
        have HF1 := Lib.hid (fold_any l [x, y] A (some ⟨w4.heap.size, 0, none⟩) n c 2 2 (w4.alloc (.cells #[.string x.key, .int .i64 x.kind, .string x.of, .string x.new, .string x.name, .slice A1 x.args.length c1, .string y.key, .int .i64 y.kind, .string y.of, .string y.new, .string y.name, .slice A2 y.args.length c2] 32)) (R4.out.allocs _) (by omega) (cmds2 w4 x y A1 A2 c1 c2 C4.out.2.2.2.2.2.2.2 D4.out.2.2.2.2.2.2.2) hcb)
        obtain ⟨_, p0, p1, p2, p3, p4, p5, _⟩ := C4.out
        obtain ⟨_, q0, q1, q2, q3, q4, q5, _⟩ := D4.out
        rw [Nat.zero_add] at p1 p2 p3 p4 p5 q1 q2 q3 q4 q5
        clear HD
        cases e1 : (x.of.toList == y.of.toList) with
        | true =>
          go_wp2_with fail
          go_ret
          exact ⟨rfl, B4.out⟩
        | false =>
        cases e2 : (x.of.toList == y.new.toList) with
        | true =>
          go_wp2_with fail
          go_ret
          exact ⟨rfl, B4.out⟩
        | false =>
        cases e3 : (x.new.toList == y.of.toList) with
        | true =>
          go_wp2_with fail
          go_ret
          exact ⟨rfl, B4.out⟩
        | false =>
        cases e4 : (x.new.toList == y.new.toList) with
        | true =>
          go_wp2_with fail
          go_ret
          exact ⟨rfl, B4.out⟩
        | false =>
        have HP := Lib.hid (swaps_plain E4.out (c := x) (d := y) ⟨by simpa using e1, by simpa using e2, by simpa using e3, by simpa using e4⟩)
        go_wp2_with fail
        (with_reducible refine HF1.out.mono ?_)
        rintro _ w5 ⟨v5, hv5, ho5, hb5'⟩
        have hb5 : Below w4.heap.size w4 w5 := ((Below.refl _ _).alloc (Nat.le_refl _) _).trans (hb5'.mono (by simp))
        have B5 := Lib.hid (B4.out.trans (hb5.mono B4.out.size))
        have R5 := Lib.hid (R4.out.belows hb5)
        have C5 := Lib.hid (C4.out.belows hb5)
        have D5 := Lib.hid (D4.out.belows hb5)
        obtain ⟨A6, c6, rfl, hr6⟩ := ho5.rdOut
        have S5 := Lib.hid hr6
        subst hv5
        clear hb5 hb5' B4 R4 C4 D4 HF1 ho5 hr6 p0 p1 p2 p3 p4 p5 q0 q1 q2 q3 q4 q5 e1 e2 e3 e4 E4
        generalize hF1 : foldS l [x, y] = F1 at *
        obtain ⟨L1, E1⟩ := F1
        have HE1 := Lib.hid hF1
        clear hF1
        have HF2 := Lib.hid (fold_any l [y, x] A (some ⟨w5.heap.size, 0, none⟩) n c 2 2 (w5.alloc (.cells #[.string y.key, .int .i64 y.kind, .string y.of, .string y.new, .string y.name, .slice A2 y.args.length c2, .string x.key, .int .i64 x.kind, .string x.of, .string x.new, .string x.name, .slice A1 x.args.length c1] 32)) (R5.out.allocs _) (by omega) (cmds2 w5 y x A2 A1 c2 c1 D5.out.2.2.2.2.2.2.2 C5.out.2.2.2.2.2.2.2) hcb2)
        obtain ⟨_, p0, p1, p2, p3, p4, p5, _⟩ := C5.out
        obtain ⟨_, q0, q1, q2, q3, q4, q5, _⟩ := D5.out
        rw [Nat.zero_add] at p1 p2 p3 p4 p5 q1 q2 q3 q4 q5
        go_wp2_with fail
        (with_reducible refine HF2.out.mono ?_)
        rintro _ w6 ⟨v6, hv6, ho6, hb6'⟩
        have hb6 : Below w5.heap.size w5 w6 := ((Below.refl _ _).alloc (Nat.le_refl _) _).trans (hb6'.mono (by simp))
        have B6 := Lib.hid (B5.out.trans (hb6.mono B5.out.size))
        have S6 := Lib.hid (S5.out.belows hb6)
        obtain ⟨A7, c7, rfl, hr7⟩ := ho6.rdOut
        have T6 := Lib.hid hr7
        subst hv6
        clear hb6 hb6' B5 R5 C5 D5 S5 HF2 ho6 hr7 p0 p1 p2 p3 p4 p5 q0 q1 q2 q3 q4 q5
        generalize hF2 : foldS l [y, x] = F2 at *
        obtain ⟨L2, E2⟩ := F2
        have HE2 := Lib.hid hF2
        clear hF2
        have P1 : E1 = 0 ↔ E2 = 0 := HP.out.1
        by_cases z1 : E1 = 0
        · have z2 := P1.1 z1
          subst z1 z2
          have HP2 : Hid ((decide (L1.length = L2.length) && sameS L1 L2) = true) := Lib.hid (HP.out.2 rfl)
          have hL1 : bulkOut L1 ≤ 1048576 := by have : bulkOut L1 ≤ _ := hf1; omega
          have hL2 : bulkOut L2 ≤ 1048576 := by have : bulkOut L2 ≤ _ := hf2; omega
          have HSa := Lib.hid (netsame_any L1 L2 A6 L1.length c6 A7 L2.length c7 w6 hL1 hL2 S6.out T6.out)
          clear P1 HP hf1 hf2
          go_wp2_with fail
          (with_reducible refine HSa.out.mono ?_)
          rintro _ w7 ⟨rfl, hb7⟩
          rw [HP2.out]
          have B7 := Lib.hid (B6.out.trans (hb7.mono B6.out.size))
          clear hb7
          go_wp2_with fail
          go_ret
          exact ⟨rfl, B7.out⟩
        · have z2 : ¬ E2 = 0 := fun h => z1 (P1.2 h)
          have y1 : (E1 != 0) = true := by simp [z1]
          have y2 : (E1 == 0) = false := by simp [z1]
          have y3 : (E2 == 0) = false := by simp [z2]
          clear P1 HP z1 z2 hf1 hf2
          go_wp2_with fail
          go_ret
          exact ⟨rfl, B6.out⟩
end Go.Proofs.YtlnfdpdancolmaaDoor
