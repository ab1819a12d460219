/- NetBack: it returns true. Printed by wip/tools/gen_back.py. Conditions: those in each statement. -/
import Derived.Test.YtlnfdpdancolmaaDoorLawSwaps
import Derived.Test.YtlnfdpdancolmaaDoorRefSame
import Derived.Test.YtlnfdpdancolmaaDoorPlainB
import Derived.Deep.QuietTactic
import Derived.BigQuiet
import Derived.StillTailTactics
namespace Go.Proofs.YtlnfdpdancolmaaDoor
open Go.RowKit

/-- an own box that holds an effect -/
def OB (B : Nat) (w : World) (b : Nat) (x : Out) (A : Option Addr) (c : Nat) : Prop := B ≤ b ∧ Blk w b 45 5 ∧ OutAt (Lt B) w b 0 x A c
theorem OB.keep {B : Nat} {w w' : World} {b : Nat} {x : Out} {A : Option Addr} {c : Nat} (h : OB B w b x A c) (hb : Below w.heap.size w w') : OB B w' b x A c := by
  obtain ⟨h0, hk, q0, q1, q2, q3, q4, s2⟩ := h
  have hl := hk.lt
  exact ⟨h0, hk.below hb hl, (hb.cell (p := ⟨b, 0, none⟩) hl).trans q0, (hb.cell (p := ⟨b, 0 + 1, none⟩) hl).trans q1, (hb.cell (p := ⟨b, 0 + 2, none⟩) hl).trans q2, (hb.cell (p := ⟨b, 0 + 3, none⟩) hl).trans q3, (hb.cell (p := ⟨b, 0 + 4, none⟩) hl).trans q4, s2.below hb (fun b hb' => by have : b < B := hb'; omega)⟩
theorem OB.new (w : World) : OB w.heap.size (w.alloc (.cells #[.string ⟨#[]⟩, .string ⟨#[]⟩, .slice none 0 0, .bool false, .int .i64 0] 45)) w.heap.size zeroO none 0 :=
  ⟨Nat.le_refl _, Blk.new _ _ _, cell_new _ _ _ _, cell_new _ _ _ _, cell_new _ _ _ _, cell_new _ _ _ _, cell_new _ _ _ _, Rd.sl_nil⟩
theorem OB.some {B : Nat} {w : World} {b : Nat} {x : Out} {A : Option Addr} {c : Nat} (h : OB B w b x A c) (j : Nat) (hj : j < 5) : (w.cell? ⟨b, j, none⟩).isSome = true := by
  obtain ⟨_, _, q0, q1, q2, q3, q4, _⟩ := h
  match j, hj with
  | 0, _ => rw [q0]; rfl
  | 1, _ => rw [q1]; rfl
  | 2, _ => rw [q2]; rfl
  | 3, _ => rw [q3]; rfl
  | 4, _ => rw [q4]; rfl
theorem OB.store {B : Nat} {w : World} {b : Nat} {x y : Out} {A A' : Option Addr} {c c' : Nat} (h : OB B w b x A c) (hy : Rd (Lt B) w (vs y.args) (.slice A' y.args.length c')) :
    OB B (((((w.setCell ⟨b, 0, none⟩ (.string y.key)).setCell ⟨b, 1, none⟩ (.string y.name)).setCell ⟨b, 2, none⟩ (.slice A' y.args.length c')).setCell ⟨b, 3, none⟩ (.bool y.part)).setCell ⟨b, 4, none⟩ (.int .i64 y.tick)) b y A' c' ∧
    Below b w (((((w.setCell ⟨b, 0, none⟩ (.string y.key)).setCell ⟨b, 1, none⟩ (.string y.name)).setCell ⟨b, 2, none⟩ (.slice A' y.args.length c')).setCell ⟨b, 3, none⟩ (.bool y.part)).setCell ⟨b, 4, none⟩ (.int .i64 y.tick)) := by
  have e : (((((w.setCell ⟨b, 0, none⟩ (.string y.key)).setCell ⟨b, 1, none⟩ (.string y.name)).setCell ⟨b, 2, none⟩ (.slice A' y.args.length c')).setCell ⟨b, 3, none⟩ (.bool y.part)).setCell ⟨b, 4, none⟩ (.int .i64 y.tick)) = w.setCells b 0 [.string y.key, .string y.name, .slice A' y.args.length c', .bool y.part, .int .i64 y.tick] := rfl
  rw [e]
  have hs : ∀ k, k < [Value.string y.key, .string y.name, .slice A' y.args.length c', .bool y.part, .int .i64 y.tick].length → (w.cell? ⟨b, 0 + k, none⟩).isSome = true := fun k hk => by rw [Nat.zero_add]; exact h.some k hk
  have hc : ∀ k u, k < 5 → [Value.string y.key, .string y.name, .slice A' y.args.length c', .bool y.part, .int .i64 y.tick][k]? = Option.some u → (w.setCells b 0 [.string y.key, .string y.name, .slice A' y.args.length c', .bool y.part, .int .i64 y.tick]).cell? ⟨b, k, none⟩ = Option.some u := fun k u hk hu => by
    have := World.cell?_setCells_in b _ 0 w hs k hk
    rw [Nat.zero_add] at this
    rw [this]; rw [List.getElem?_eq_getElem hk] at hu; exact hu
  refine ⟨⟨h.1, h.2.1.setCells _ _ _, hc 0 _ (by omega) rfl, hc 1 _ (by omega) rfl, hc 2 _ (by omega) rfl, hc 3 _ (by omega) rfl, hc 4 _ (by omega) rfl, hy.setCells (fun k hk => by have : k < B := hk; have := h.1; omega) _ _⟩, below_setCells b (Nat.le_refl _) _ _ (Below.refl _ _)⟩

set_option maxHeartbeats 16000000 in
set_option maxRecDepth 100000 in
theorem back_any (l : List Out) (x : Cmd) (A A1 : Option Addr) (n c c1 : Nat) (w : World) (hr : Rd (Lt w.heap.size) w (slOut l) (.slice A n c)) (hx : Rd (Lt w.heap.size) w (vs x.args) (.slice A1 x.args.length c1)) (hb : bulkOut l + x.bulk ≤ 1048576) (hR : Row32 w 0 64 kF) :
    Calls Tryd.prog 7 #[.slice A n c, .agg #[.string x.key, .int .i64 x.kind, .string x.of, .string x.new, .string x.name, .slice A1 x.args.length c1]] w fun e w' => e = .returned (.bool true) ∧ Below w.heap.size w w' := by
  have hw0 : 0 < w.heap.size := World.block_lt_of_cell? w _ (hR 0 (by omega))
  have hl := slOut_len hr
  have hln := bulkOut_len l
  have hcb : bulkCmd [x] ≤ 1048576 := by simp [bulkCmd]; omega
  have HL := Lib.hid hl.1
  have hn : n ≤ 1048576 := by omega
  have k1 : Below w.heap.size w (w.alloc (.cells #[.string x.key, .int .i64 x.kind, .string x.of, .string x.new, .string x.name, .slice A1 x.args.length c1] 32)) := (Below.refl _ _).alloc (Nat.le_refl _) _
  have C0 := Lib.hid (CB.new w x A1 c1 hx)
  have HS := Lib.hid (small_any _ (hR.below k1 hw0))
  have B0 := Lib.hid k1
  have R0 := Lib.hid (hr.belows k1)
  clear hr hR hl hx k1
  go_enter Tryd.func7, Tryd.ntmps7
  go_wp2_with fail
  (with_reducible refine HS.out.mono ?_)
  rintro _ w1 ⟨rfl, hb1⟩
  have B1 := Lib.hid (B0.out.trans (hb1.mono B0.out.size))
  have R1 := Lib.hid (R0.out.belows hb1)
  have C1 := Lib.hid (C0.out.belows hb1)
  clear hb1 B0 R0 C0 HS
  go_wp2_with fail
  (with_reducible refine (outs_any R1.out (by omega)).mono ?_)
  rintro _ w2' ⟨b1, rfl, q1, rfl⟩
  obtain ⟨w2, hw2⟩ : ∃ w2, w2 = w1.drewN q1 := ⟨_, rfl⟩
  have h12 : Below w1.heap.size w1 w2 := by rw [hw2]; exact below_drew_n q1
  have B2 := Lib.hid (B1.out.trans (h12.mono B1.out.size))
  have R2 := Lib.hid (R1.out.belows h12)
  have C2 := Lib.hid (C1.out.belows h12)
  rw [← hw2]
  clear hw2 h12 B1 R1 C1
  cases b1 with
  | false =>
    go_wp2_with fail
    go_ret
    exact ⟨rfl, B2.out⟩
  | true =>
    have hq1 : Rd (Lt (w2.alloc (.cells #[.string x.key, .int .i64 x.kind, .string x.of, .string x.new, .string x.name, .slice A1 x.args.length c1] 32)).heap.size) (w2.alloc (.cells #[.string x.key, .int .i64 x.kind, .string x.of, .string x.new, .string x.name, .slice A1 x.args.length c1] 32)) (slCmd [x]) (.slice (some ⟨w2.heap.size, 0, none⟩) 1 1) := slCmd_one (by unfold Lt; simp) (CB.new w2 x A1 c1 C2.out.2.2.2.2.2.2.2).2
    have HQ := Lib.hid (commands_any hq1 hcb)
    obtain ⟨_, p0, p1, p2, p3, p4, p5, _⟩ := C2.out
    rw [Nat.zero_add] at p1 p2 p3 p4 p5
    clear hq1
    go_wp2_with fail
    (with_reducible refine HQ.out.mono ?_)
    rintro _ w3' ⟨b2, rfl, qq, rfl⟩
    obtain ⟨w3, hw3⟩ : ∃ w3, w3 = (w2.alloc (.cells #[.string x.key, .int .i64 x.kind, .string x.of, .string x.new, .string x.name, .slice A1 x.args.length c1] 32)).drewN qq := ⟨_, rfl⟩
    have h23 : Below w2.heap.size w2 w3 := by rw [hw3]; exact ((Below.refl _ _).alloc (Nat.le_refl _) _).trans ((below_drew_n qq).mono (by simp))
    have B3 := Lib.hid (B2.out.trans (h23.mono B2.out.size))
    have R3 := Lib.hid (R2.out.belows h23)
    have C3 := Lib.hid (C2.out.belows h23)
    rw [← hw3]
    clear hw3 h23 B2 R2 C2 HQ p0 p1 p2 p3 p4 p5
    cases b2 with
    | false =>
      go_wp2_with fail
      go_ret
      exact ⟨rfl, B3.out⟩
    | true =>
      go_wp2_with fail
      (with_reducible refine (distinct_any R3.out (by omega)).mono ?_)
      rintro _ w4' ⟨b3, rfl, hdist, q3, rfl⟩
      obtain ⟨w4, hw4⟩ : ∃ w4, w4 = w3.drewN q3 := ⟨_, rfl⟩
      have h34 : Below w3.heap.size w3 w4 := by rw [hw4]; exact below_drew_n q3
      have B4 := Lib.hid (B3.out.trans (h34.mono B3.out.size))
      have R4 := Lib.hid (R3.out.belows h34)
      have C4 := Lib.hid (C3.out.belows h34)
      have HD := Lib.hid hdist
      rw [← hw4]
      clear hw4 h34 B3 R3 C3 hdist
      cases b3 with
      | false =>
        go_wp2_with fail
        go_ret
        exact ⟨rfl, B4.out⟩
      | true =>
        have E4 := Lib.hid (HD.out.1 rfl)
        have HA := Lib.hid (apply_any l x A A1 n c c1 w4 R4.out (by omega) C4.out.2.2.2.2.2.2.2 (by omega))
        have hsb := step_bulk l x
        obtain ⟨_, p0, p1, p2, p3, p4, p5, _⟩ := C4.out
        rw [Nat.zero_add] at p1 p2 p3 p4 p5
        clear HD
        by_cases he : stepE l x = 0
        · have HF : Hid (foldS l [x] = (stepR l x, 0)) := Lib.hid (by rw [foldS_one, if_pos he])
          have HE0 := Lib.hid he
          clear he
          go_wp2_with fail
          (with_reducible refine HA.out.mono ?_)
          rintro _ w5 ⟨v5, hv5, ho5, hb5⟩
          rw [HF.out] at hv5 ho5
          obtain ⟨A6, c6, rfl, hr6⟩ := ho5.rdOut
          subst hv5
          have B5 := Lib.hid (B4.out.trans (hb5.mono B4.out.size))
          have R5 := Lib.hid (R4.out.belows hb5)
          have C5 := Lib.hid (C4.out.belows hb5)
          have N5 := Lib.hid hr6
          clear ho5 hb5 hr6 HA HF p0 p1 p2 p3 p4 p5 R4 C4 B4
          obtain ⟨hcl, p0, p1, p2, p3, p4, p5, _⟩ := C5.out
          rw [Nat.zero_add] at p1 p2 p3 p4 p5
          have hcl1 : w.heap.size < w5.heap.size := hcl
          by_cases k3 : x.kind = 3
          · rw [k3] at p1
            go_wp2_with fail
            go_ret
            exact ⟨rfl, B5.out⟩
          · have k3b : (x.kind == 3) = false := by simpa using k3
            have K3 := Lib.hid k3
            clear k3
            go_wp2_with fail
            have O0 := Lib.hid (OB.new w5)
            have B6 : Hid (Below w5.heap.size w5 (w5.alloc (.cells #[.string ⟨#[]⟩, .string ⟨#[]⟩, .slice none 0 0, .bool false, .int .i64 0] 45))) := Lib.hid ((Below.refl _ _).alloc (Nat.le_refl _) _)
            clear p0 p1 p2 p3 p4 p5 k3b
            go_loopw [9] (fun s9 wr => ∃ (i : Nat) (o : Out) (A2 : Option Addr) (c2 : Nat), i ≤ n ∧ s9 = .int .i64 i ∧ Hid (OB w5.heap.size wr w5.heap.size o A2 c2) ∧ Hid (Below w5.heap.size w5 wr) ∧ Hid (o = zeroO ∨ o ∈ l) ∧ Hid (∀ (j : Nat) (p : Out), j < i → l[j]? = some p → p.key.toList = x.of.toList → x.kind ≠ 1 → o = p)) (fun s9 _ => n - (intOf s9).toNat)
            case atStart =>
              exact ⟨0, zeroO, none, 0, by omega, rfl, O0, B6, Lib.hid (.inl rfl), Lib.hid (fun j _ hj => absurd hj (by omega))⟩
            case round =>
              clear O0 B6
              obtain ⟨i, o, A2, c2, hi, rfl, OBX, HB, HZ, HW⟩ := hrel
              obtain ⟨hcw, p0, p1, p2, p3, p4, p5, _⟩ := C5.out.belows HB.out
              have hcw1 : w.heap.size < wr.heap.size := hcw
              rw [Nat.zero_add] at p1 p2 p3 p4 p5
              obtain ⟨hbl, hbk0, z0, z1, z2, z3, z4, _⟩ := OBX.out
              have hbw := hbk0.lt
              have fz := hbk0.frozen
              clear hbk0
              rw [Nat.zero_add] at z1 z2 z3 z4
              by_cases hlt : i < n
              · obtain ⟨b, off, y, e, hlb, hget, A7, c7, hat⟩ := slOut_at (R5.out.below HB.out (fun _ h => h)) hlt
                subst e
                obtain ⟨y0, y1, y2, y3, y4, ry⟩ := hat
                have HG := Lib.hid hget
                have RY := Lib.hid ry
                have hlb1 : b < w5.heap.size := hlb
                have hlb2 : b < wr.heap.size := Nat.lt_of_lt_of_le hlb HB.out.size
                have i0 : (0 : Int) ≤ (i : Int) := by omega
                have i1 : (i : Int) < (n : Int) := by omega
                clear hget ry hlb
                have HWN : ((y.key.toList == x.of.toList) = false ∨ (x.kind != 1) = false) → Hid (∀ (j : Nat) (p : Out), j < i + 1 → l[j]? = some p → p.key.toList = x.of.toList → x.kind ≠ 1 → o = p) := fun hc => Lib.hid (fun j p hj hp hk h1 => by
                  rcases Nat.lt_or_ge j i with hji | hji
                  · exact HW.out j p hji hp hk h1
                  · obtain rfl : j = i := by omega
                    rw [HG.out] at hp
                    obtain rfl := Option.some.inj hp
                    rcases hc with hc | hc
                    · simp [hk] at hc
                    · simp [h1] at hc)
                have HWN := Lib.hid HWN
                cases e1 : (y.key.toList == x.of.toList) with
                | false =>
                  have HN := HWN.out (.inl e1)
                  go_wp2_with fail
                  go_quiet (fail)
                  go_wp2_with fail
                  refine ⟨⟨i + 1, o, A2, c2, by omega, by go_num, Lib.hid ?_, Lib.hid ?_, HZ, HN⟩, by simp [intOf]; omega⟩
                  · exact OBX.out.keep (below_drew_n _)
                  · exact HB.out.trans ((below_drew_n _).mono HB.out.size)
                | true =>
                  cases e2 : (x.kind != 1) with
                  | false =>
                    have HN := HWN.out (.inr e2)
                    go_wp2_with fail
                    go_quiet (fail)
                    go_wp2_with fail
                    refine ⟨⟨i + 1, o, A2, c2, by omega, by go_num, Lib.hid ?_, Lib.hid ?_, HZ, HN⟩, by simp [intOf]; omega⟩
                    · exact OBX.out.keep (below_drew_n _)
                    · exact HB.out.trans ((below_drew_n _).mono HB.out.size)
                  | true =>
                    go_wp2_with fail
                    go_quiet (fail)
                    go_wp2_with fail
                    have hk1 : ∀ q, OB w5.heap.size (wr.drewN q) w5.heap.size o A2 c2 := fun q => OBX.out.keep (below_drew_n _)
                    refine ⟨⟨i + 1, y, A7, c7, by omega, by go_num, Lib.hid ?_, Lib.hid ?_, Lib.hid (.inr (List.mem_of_getElem? HG.out)), Lib.hid ?_⟩, by simp [intOf]; omega⟩
                    · exact ((hk1 _).store (RY.out.drewN _)).1
                    · exact (HB.out.trans ((below_drew_n _).mono HB.out.size)).trans ((hk1 _).store (RY.out.drewN _)).2
                    · intro j p hj hp hk h1
                      rcases Nat.lt_or_ge j i with hji | hji
                      · exact same_key E4.out (List.mem_of_getElem? HG.out) (List.mem_of_getElem? hp) ((by simpa using e1 : y.key.toList = x.of.toList).trans hk.symm)
                      · obtain rfl : j = i := by omega
                        rw [HG.out] at hp
                        exact Option.some.inj hp
              · have hW : ∀ p ∈ l, p.key.toList = x.of.toList → x.kind ≠ 1 → o = p := fun p hp hk h1 => by
                  obtain ⟨j, hj⟩ := List.mem_iff_getElem?.1 hp
                  exact HW.out j p (by have := (List.getElem?_eq_some_iff.1 hj).1; have := HL.out; omega) hj hk h1
                have BP := Lib.hid (back_plain E4.out HE0.out K3.out hW)
                have hbb : (backC x o).bulk ≤ 1048576 := Nat.le_trans (back_bulk HE0.out K3.out hW) hb
                have hTn : (stepR (stepR l x) (backC x o)).length = n := by rw [BP.out.2.1, HL.out]
                have hk3 : (backC x o).kind ≠ 3 := by
                  unfold backC
                  split
                  · simp
                  · split <;> simp
                have HTE := Lib.hid (step_each (step_distinct E4.out HE0.out) BP.out.1 hk3 (B := 1048576) (by omega) hbb)
                have hle : ∀ p ∈ l, bulkV p.args ≤ 1048576 := fun p hp => by
                  obtain ⟨j, hj⟩ := List.mem_iff_getElem?.1 hp
                  have := bulkOut_get hj
                  unfold Out.bulk at this
                  omega
                have HLE := Lib.hid hle
                have HA2 : ∀ (Aq : Option Addr) (cq : Nat), Rd (Lt wr.heap.size) wr (vs (backC x o).args) (.slice Aq (backC x o).args.length cq) → ∀ W, Below wr.heap.size wr W → Calls Tryd.prog 12 #[.slice A6 (stepR l x).length c6, .agg #[.string (backC x o).key, .int .i64 (backC x o).kind, .string (backC x o).of, .string (backC x o).new, .string (backC x o).name, .slice Aq (backC x o).args.length cq]] W (fun e w7 => ∃ A7 c7, e = .returned (.tuple #[.slice A7 n c7, .int .i64 0]) ∧ Rd (Lt w7.heap.size) w7 (slOut (stepR (stepR l x) (backC x o))) (.slice A7 n c7) ∧ Below wr.heap.size wr w7) := fun Aq cq hq W hW => by
                  refine (apply_any (stepR l x) (backC x o) A6 Aq _ c6 cq W ((N5.out.belows HB.out).belows hW) (by omega) (hq.belows hW) hbb).mono ?_
                  rintro _ w7 ⟨v7, hv7, ho7, hb7⟩
                  rw [foldS_one, if_pos BP.out.1] at hv7 ho7
                  obtain ⟨A7, c7, rfl, hr7⟩ := ho7.rdOut
                  rw [hTn] at hv7 hr7
                  exact ⟨A7, c7, hv7, hr7, hW.trans (hb7.mono hW.size)⟩
                have rb : Rd (Lt wr.heap.size) wr (vs o.args) (.slice A2 o.args.length c2) := OBX.out.2.2.2.2.2.2.2.weaken (fun b hb' => Nat.lt_of_lt_of_le hb' HB.out.size)
                clear hW HZ HW
                have hkk : x.kind = 1 ∨ x.kind = 2 ∨ x.kind = 4 := by
                  have := K3.out
                  rcases step_kind HE0.out with ⟨k, _⟩ | ⟨k, _⟩ | ⟨k, _⟩ <;> omega
                rcases hkk with kk | kk | kk
                · have HA3 : Hid (∀ W, Below wr.heap.size wr W → Calls Tryd.prog 12 #[.slice A6 (stepR l x).length c6, .agg #[.string ⟨#[]⟩, .int .i64 2, .string x.new, .string ⟨#[]⟩, .string ⟨#[]⟩, .slice none 0 0]] W (fun e w7 => ∃ A7 c7, e = .returned (.tuple #[.slice A7 n c7, .int .i64 0]) ∧ Rd (Lt w7.heap.size) w7 (slOut (stepR (stepR l x) (backC x o))) (.slice A7 n c7) ∧ Below wr.heap.size wr w7)) := Lib.hid (by
                    have h := HA2 (none) (0) (by rw [backC1 o kk]; exact Rd.sl_nil)
                    generalize stepR (stepR l x) (backC x o) = T at *
                    rw [backC1 o kk] at h
                    exact h)
                  generalize stepR (stepR l x) (backC x o) = T at *
                  rw [kk] at p1
                  clear HA2 hk3 hbb rb kk
                  go_wp2_with fail
                  (with_reducible refine (HA3.out _ ?_).mono ?_)
                  · repeat first | exact Below.refl _ _ | refine Below.setCell ?_ (by simp) _ | refine Below.alloc ?_ (by simp) _
                  rintro _ w7 ⟨A8, c8, rfl, hr8, hb8⟩
                  have T8 := Lib.hid hr8
                  have R8 := Lib.hid ((R5.out.belows HB.out).belows hb8)
                  have B8 := Lib.hid ((B5.out.trans (HB.out.mono B5.out.size)).trans (hb8.mono (Nat.le_trans B5.out.size HB.out.size)))
                  clear hr8 hb8 HA3 p0 p1 p2 p3 p4 p5 z0 z1 z2 z3 z4 fz
                  go_wp2_with fail
                  go_loopw [13, 14, 15] (fun s13 _ _ wr => ∃ i : Nat, i ≤ n ∧ s13 = .int .i64 i ∧ Hid (Below w7.heap.size w7 wr)) (fun s13 _ _ _ => n - (intOf s13).toNat)
                  case atStart => exact ⟨0, by omega, rfl, Lib.hid (Below.refl _ _)⟩
                  case round =>
                    obtain ⟨a, ha, rfl, HB9⟩ := hrel
                    by_cases hlt2 : a < n
                    · obtain ⟨b, off, y, e, hlb, hget, A9, c9, hat⟩ := slOut_at (R8.out.below HB9.out (fun _ h => h)) hlt2
                      subst e
                      obtain ⟨y0, y1, y2, y3, y4, ry⟩ := hat
                      have HY := Lib.hid hget
                      clear hget
                      have i2 : (0 : Int) ≤ (a : Int) := by omega
                      have i3 : (a : Int) < (n : Int) := by omega
                      go_wp2_with fail
                      clear y0 y1 y2 y3 y4 ry
                      go_loopw [14, 15] (fun s14 s15 wr => ∃ (k : Nat) (f : Bool), k ≤ n ∧ s15 = .int .i64 k ∧ s14 = .bool f ∧ Hid (∀ (j : Nat) (q : Out), j < k → T[j]? = some q → q.key = y.key → q.name = y.name → q.args = y.args → f = true) ∧ Hid (Below w7.heap.size w7 wr)) (fun _ s15 _ => n - (intOf s15).toNat)
                      case atStart => exact ⟨0, false, by omega, rfl, rfl, Lib.hid (fun j _ hj => absurd hj (by omega)), HB9⟩
                      case round =>
                        obtain ⟨k, f, hk, rfl, rfl, HF, HBA⟩ := hrel
                        by_cases hlt3 : k < n
                        · obtain ⟨b', off', q, e, hlb', hget', A10, c10, hat'⟩ := slOut_at (T8.out.below HBA.out (fun _ h => h)) hlt3
                          subst e
                          obtain ⟨q0, q1, q2, q3, q4, rq⟩ := hat'
                          obtain ⟨b2, off2, y', e, hlb2, hget2, A11, c11, hat2⟩ := slOut_at (R8.out.below HBA.out (fun _ h => h)) hlt2
                          injection e with e
                          injection e with e1 e2
                          subst e1 e2
                          rw [HY.out] at hget2
                          obtain rfl := Option.some.inj hget2
                          obtain ⟨y0, y1, y2, y3, y4, ry⟩ := hat2
                          have HQ := Lib.hid hget'
                          have hlq : b' < wr.heap.size := Nat.lt_of_lt_of_le hlb' HBA.out.size
                          have hly : b < wr.heap.size := Nat.lt_of_lt_of_le hlb2 HBA.out.size
                          have RQ := Lib.hid (rq.weaken (ok' := Lt wr.heap.size) (fun b hb' => Nat.lt_of_lt_of_le hb' HBA.out.size))
                          have RY := Lib.hid (ry.weaken (ok' := Lt wr.heap.size) (fun b hb' => Nat.lt_of_lt_of_le hb' HBA.out.size))
                          have i4 : (0 : Int) ≤ (k : Int) := by omega
                          have i5 : (k : Int) < (n : Int) := by omega
                          clear hget' hget2 rq ry hlb' hlb2 hlb
                          have HNX : Hid (∀ g : Bool, (f = true → g = true) → (q.key = y.key → q.name = y.name → q.args = y.args → g = true) → ∀ (j : Nat) (q : Out), j < k + 1 → T[j]? = some q → q.key = y.key → q.name = y.name → q.args = y.args → g = true) := Lib.hid (fun g h1 h2 j q' hj hq' e1 e2 e3 => by
                            rcases Nat.lt_or_ge j k with hjk | hjk
                            · exact h1 (HF.out j q' hjk hq' e1 e2 e3)
                            · obtain rfl : j = k := by omega
                              rw [HQ.out] at hq'
                              obtain rfl := Option.some.inj hq'
                              exact h2 e1 e2 e3)
                          cases f with
                          | true =>
                            go_wp2_with fail
                            go_quiet (fail)
                            go_wp2_with fail
                            refine ⟨⟨k + 1, true, by omega, by go_num, rfl, Lib.hid (HNX.out true (fun _ => rfl) (fun _ _ _ => rfl)), Lib.hid (HBA.out.trans ((below_drew_n _).mono HBA.out.size))⟩, by simp [intOf]; omega⟩
                          | false =>
                            cases e1 : (q.key.toList == y.key.toList) with
                            | false =>
                              have HN2 := Lib.hid (HNX.out false (fun h => h) (fun h _ _ => by rw [h] at e1; simp at e1))
                              go_wp2_with fail
                              go_quiet (fail)
                              go_wp2_with fail
                              refine ⟨⟨k + 1, false, by omega, by go_num, rfl, HN2, Lib.hid (HBA.out.trans ((below_drew_n _).mono HBA.out.size))⟩, by simp [intOf]; omega⟩
                            | true =>
                              cases e2 : (q.name.toList == y.name.toList) with
                              | false =>
                                have HN2 := Lib.hid (HNX.out false (fun h => h) (fun _ h _ => by rw [h] at e2; simp at e2))
                                go_wp2_with fail
                                go_quiet (fail)
                                go_wp2_with fail
                                refine ⟨⟨k + 1, false, by omega, by go_num, rfl, HN2, Lib.hid (HBA.out.trans ((below_drew_n _).mono HBA.out.size))⟩, by simp [intOf]; omega⟩
                              | true =>
                                have HC : Hid (∀ W, Rd (Lt W.heap.size) W (vs q.args) (.slice A10 q.args.length c10) → Rd (Lt W.heap.size) W (vs y.args) (.slice A11 y.args.length c11) → Calls Tryd.prog 26 #[.slice A10 q.args.length c10, .slice A11 y.args.length c11] W fun e w' => e = .returned (.bool (eqVs q.args y.args)) ∧ Below W.heap.size W w') := Lib.hid (fun W h1 h2 => rsameOk (HTE.out q (List.mem_of_getElem? HQ.out)) y.args A10 A11 _ _ c10 c11 W (HLE.out y (List.mem_of_getElem? HY.out)) h1 h2)
                                have HN2 := Lib.hid (HNX.out (eqVs q.args y.args) (fun h => by cases h) (fun _ _ h => (eqVs_iff _ _).2 h))
                                generalize eqVs q.args y.args = g at *
                                go_wp2_with fail
                                go_still_tail 37, (by kernel_rfl)
                                change wpList _ _ _ _ _ wr.drew
                                go_wp2_with fail
                                (with_reducible refine (HC.out _ RQ.out.drew RY.out.drew).mono ?_)
                                rintro _ w9 ⟨rfl, hb9⟩
                                have B9 := Lib.hid (HBA.out.drew.trans (hb9.mono HBA.out.size))
                                clear hb9
                                go_wp2_with fail
                                exact ⟨⟨k + 1, g, by omega, by go_num, rfl, HN2, B9⟩, by simp [intOf]; omega⟩
                        · have hf : f = true := by
                            obtain ⟨q, hq, e1, e2, e3⟩ := BP.out.2.2 y (List.mem_of_getElem? HY.out)
                            obtain ⟨j, hj⟩ := List.mem_iff_getElem?.1 hq
                            exact HF.out j q (by have := (List.getElem?_eq_some_iff.1 hj).1; omega) hj e1 e2 e3
                          subst hf
                          go_wp2_with fail
                          exact ⟨⟨a + 1, by omega, by go_num, HBA⟩, by simp [intOf]; omega⟩
                    · go_wp2_with fail
                      go_ret
                      exact ⟨rfl, B8.out.trans (HB9.out.mono B8.out.size)⟩
                · have HA3 : Hid (∀ W, Below wr.heap.size wr W → Calls Tryd.prog 12 #[.slice A6 (stepR l x).length c6, .agg #[.string ⟨#[]⟩, .int .i64 1, .string ⟨#[]⟩, .string o.key, .string o.name, .slice A2 o.args.length c2]] W (fun e w7 => ∃ A7 c7, e = .returned (.tuple #[.slice A7 n c7, .int .i64 0]) ∧ Rd (Lt w7.heap.size) w7 (slOut (stepR (stepR l x) (backC x o))) (.slice A7 n c7) ∧ Below wr.heap.size wr w7)) := Lib.hid (by
                    have h := HA2 (A2) (c2) (by rw [backC2 o kk]; exact rb)
                    generalize stepR (stepR l x) (backC x o) = T at *
                    rw [backC2 o kk] at h
                    exact h)
                  generalize stepR (stepR l x) (backC x o) = T at *
                  rw [kk] at p1
                  clear HA2 hk3 hbb rb kk
                  go_wp2_with fail
                  (with_reducible refine (HA3.out _ ?_).mono ?_)
                  · repeat first | exact Below.refl _ _ | refine Below.setCell ?_ (by simp) _ | refine Below.alloc ?_ (by simp) _
                  rintro _ w7 ⟨A8, c8, rfl, hr8, hb8⟩
                  have T8 := Lib.hid hr8
                  have R8 := Lib.hid ((R5.out.belows HB.out).belows hb8)
                  have B8 := Lib.hid ((B5.out.trans (HB.out.mono B5.out.size)).trans (hb8.mono (Nat.le_trans B5.out.size HB.out.size)))
                  clear hr8 hb8 HA3 p0 p1 p2 p3 p4 p5 z0 z1 z2 z3 z4 fz
                  go_wp2_with fail
                  go_loopw [13, 14, 15] (fun s13 _ _ wr => ∃ i : Nat, i ≤ n ∧ s13 = .int .i64 i ∧ Hid (Below w7.heap.size w7 wr)) (fun s13 _ _ _ => n - (intOf s13).toNat)
                  case atStart => exact ⟨0, by omega, rfl, Lib.hid (Below.refl _ _)⟩
                  case round =>
                    obtain ⟨a, ha, rfl, HB9⟩ := hrel
                    by_cases hlt2 : a < n
                    · obtain ⟨b, off, y, e, hlb, hget, A9, c9, hat⟩ := slOut_at (R8.out.below HB9.out (fun _ h => h)) hlt2
                      subst e
                      obtain ⟨y0, y1, y2, y3, y4, ry⟩ := hat
                      have HY := Lib.hid hget
                      clear hget
                      have i2 : (0 : Int) ≤ (a : Int) := by omega
                      have i3 : (a : Int) < (n : Int) := by omega
                      go_wp2_with fail
                      clear y0 y1 y2 y3 y4 ry
                      go_loopw [14, 15] (fun s14 s15 wr => ∃ (k : Nat) (f : Bool), k ≤ n ∧ s15 = .int .i64 k ∧ s14 = .bool f ∧ Hid (∀ (j : Nat) (q : Out), j < k → T[j]? = some q → q.key = y.key → q.name = y.name → q.args = y.args → f = true) ∧ Hid (Below w7.heap.size w7 wr)) (fun _ s15 _ => n - (intOf s15).toNat)
                      case atStart => exact ⟨0, false, by omega, rfl, rfl, Lib.hid (fun j _ hj => absurd hj (by omega)), HB9⟩
                      case round =>
                        obtain ⟨k, f, hk, rfl, rfl, HF, HBA⟩ := hrel
                        by_cases hlt3 : k < n
                        · obtain ⟨b', off', q, e, hlb', hget', A10, c10, hat'⟩ := slOut_at (T8.out.below HBA.out (fun _ h => h)) hlt3
                          subst e
                          obtain ⟨q0, q1, q2, q3, q4, rq⟩ := hat'
                          obtain ⟨b2, off2, y', e, hlb2, hget2, A11, c11, hat2⟩ := slOut_at (R8.out.below HBA.out (fun _ h => h)) hlt2
                          injection e with e
                          injection e with e1 e2
                          subst e1 e2
                          rw [HY.out] at hget2
                          obtain rfl := Option.some.inj hget2
                          obtain ⟨y0, y1, y2, y3, y4, ry⟩ := hat2
                          have HQ := Lib.hid hget'
                          have hlq : b' < wr.heap.size := Nat.lt_of_lt_of_le hlb' HBA.out.size
                          have hly : b < wr.heap.size := Nat.lt_of_lt_of_le hlb2 HBA.out.size
                          have RQ := Lib.hid (rq.weaken (ok' := Lt wr.heap.size) (fun b hb' => Nat.lt_of_lt_of_le hb' HBA.out.size))
                          have RY := Lib.hid (ry.weaken (ok' := Lt wr.heap.size) (fun b hb' => Nat.lt_of_lt_of_le hb' HBA.out.size))
                          have i4 : (0 : Int) ≤ (k : Int) := by omega
                          have i5 : (k : Int) < (n : Int) := by omega
                          clear hget' hget2 rq ry hlb' hlb2 hlb
                          have HNX : Hid (∀ g : Bool, (f = true → g = true) → (q.key = y.key → q.name = y.name → q.args = y.args → g = true) → ∀ (j : Nat) (q : Out), j < k + 1 → T[j]? = some q → q.key = y.key → q.name = y.name → q.args = y.args → g = true) := Lib.hid (fun g h1 h2 j q' hj hq' e1 e2 e3 => by
                            rcases Nat.lt_or_ge j k with hjk | hjk
                            · exact h1 (HF.out j q' hjk hq' e1 e2 e3)
                            · obtain rfl : j = k := by omega
                              rw [HQ.out] at hq'
                              obtain rfl := Option.some.inj hq'
                              exact h2 e1 e2 e3)
                          cases f with
                          | true =>
                            go_wp2_with fail
                            go_quiet (fail)
                            go_wp2_with fail
                            refine ⟨⟨k + 1, true, by omega, by go_num, rfl, Lib.hid (HNX.out true (fun _ => rfl) (fun _ _ _ => rfl)), Lib.hid (HBA.out.trans ((below_drew_n _).mono HBA.out.size))⟩, by simp [intOf]; omega⟩
                          | false =>
                            cases e1 : (q.key.toList == y.key.toList) with
                            | false =>
                              have HN2 := Lib.hid (HNX.out false (fun h => h) (fun h _ _ => by rw [h] at e1; simp at e1))
                              go_wp2_with fail
                              go_quiet (fail)
                              go_wp2_with fail
                              refine ⟨⟨k + 1, false, by omega, by go_num, rfl, HN2, Lib.hid (HBA.out.trans ((below_drew_n _).mono HBA.out.size))⟩, by simp [intOf]; omega⟩
                            | true =>
                              cases e2 : (q.name.toList == y.name.toList) with
                              | false =>
                                have HN2 := Lib.hid (HNX.out false (fun h => h) (fun _ h _ => by rw [h] at e2; simp at e2))
                                go_wp2_with fail
                                go_quiet (fail)
                                go_wp2_with fail
                                refine ⟨⟨k + 1, false, by omega, by go_num, rfl, HN2, Lib.hid (HBA.out.trans ((below_drew_n _).mono HBA.out.size))⟩, by simp [intOf]; omega⟩
                              | true =>
                                have HC : Hid (∀ W, Rd (Lt W.heap.size) W (vs q.args) (.slice A10 q.args.length c10) → Rd (Lt W.heap.size) W (vs y.args) (.slice A11 y.args.length c11) → Calls Tryd.prog 26 #[.slice A10 q.args.length c10, .slice A11 y.args.length c11] W fun e w' => e = .returned (.bool (eqVs q.args y.args)) ∧ Below W.heap.size W w') := Lib.hid (fun W h1 h2 => rsameOk (HTE.out q (List.mem_of_getElem? HQ.out)) y.args A10 A11 _ _ c10 c11 W (HLE.out y (List.mem_of_getElem? HY.out)) h1 h2)
                                have HN2 := Lib.hid (HNX.out (eqVs q.args y.args) (fun h => by cases h) (fun _ _ h => (eqVs_iff _ _).2 h))
                                generalize eqVs q.args y.args = g at *
                                go_wp2_with fail
                                go_still_tail 37, (by kernel_rfl)
                                change wpList _ _ _ _ _ wr.drew
                                go_wp2_with fail
                                (with_reducible refine (HC.out _ RQ.out.drew RY.out.drew).mono ?_)
                                rintro _ w9 ⟨rfl, hb9⟩
                                have B9 := Lib.hid (HBA.out.drew.trans (hb9.mono HBA.out.size))
                                clear hb9
                                go_wp2_with fail
                                exact ⟨⟨k + 1, g, by omega, by go_num, rfl, HN2, B9⟩, by simp [intOf]; omega⟩
                        · have hf : f = true := by
                            obtain ⟨q, hq, e1, e2, e3⟩ := BP.out.2.2 y (List.mem_of_getElem? HY.out)
                            obtain ⟨j, hj⟩ := List.mem_iff_getElem?.1 hq
                            exact HF.out j q (by have := (List.getElem?_eq_some_iff.1 hj).1; omega) hj e1 e2 e3
                          subst hf
                          go_wp2_with fail
                          exact ⟨⟨a + 1, by omega, by go_num, HBA⟩, by simp [intOf]; omega⟩
                    · go_wp2_with fail
                      go_ret
                      exact ⟨rfl, B8.out.trans (HB9.out.mono B8.out.size)⟩
                · have HA3 : Hid (∀ W, Below wr.heap.size wr W → Calls Tryd.prog 12 #[.slice A6 (stepR l x).length c6, .agg #[.string ⟨#[]⟩, .int .i64 4, .string x.new, .string o.key, .string o.name, .slice A2 o.args.length c2]] W (fun e w7 => ∃ A7 c7, e = .returned (.tuple #[.slice A7 n c7, .int .i64 0]) ∧ Rd (Lt w7.heap.size) w7 (slOut (stepR (stepR l x) (backC x o))) (.slice A7 n c7) ∧ Below wr.heap.size wr w7)) := Lib.hid (by
                    have h := HA2 (A2) (c2) (by rw [backC4 o kk]; exact rb)
                    generalize stepR (stepR l x) (backC x o) = T at *
                    rw [backC4 o kk] at h
                    exact h)
                  generalize stepR (stepR l x) (backC x o) = T at *
                  rw [kk] at p1
                  clear HA2 hk3 hbb rb kk
                  go_wp2_with fail
                  (with_reducible refine (HA3.out _ ?_).mono ?_)
                  · repeat first | exact Below.refl _ _ | refine Below.setCell ?_ (by simp) _ | refine Below.alloc ?_ (by simp) _
                  rintro _ w7 ⟨A8, c8, rfl, hr8, hb8⟩
                  have T8 := Lib.hid hr8
                  have R8 := Lib.hid ((R5.out.belows HB.out).belows hb8)
                  have B8 := Lib.hid ((B5.out.trans (HB.out.mono B5.out.size)).trans (hb8.mono (Nat.le_trans B5.out.size HB.out.size)))
                  clear hr8 hb8 HA3 p0 p1 p2 p3 p4 p5 z0 z1 z2 z3 z4 fz
                  go_wp2_with fail
                  go_loopw [13, 14, 15] (fun s13 _ _ wr => ∃ i : Nat, i ≤ n ∧ s13 = .int .i64 i ∧ Hid (Below w7.heap.size w7 wr)) (fun s13 _ _ _ => n - (intOf s13).toNat)
                  case atStart => exact ⟨0, by omega, rfl, Lib.hid (Below.refl _ _)⟩
                  case round =>
                    obtain ⟨a, ha, rfl, HB9⟩ := hrel
                    by_cases hlt2 : a < n
                    · obtain ⟨b, off, y, e, hlb, hget, A9, c9, hat⟩ := slOut_at (R8.out.below HB9.out (fun _ h => h)) hlt2
                      subst e
                      obtain ⟨y0, y1, y2, y3, y4, ry⟩ := hat
                      have HY := Lib.hid hget
                      clear hget
                      have i2 : (0 : Int) ≤ (a : Int) := by omega
                      have i3 : (a : Int) < (n : Int) := by omega
                      go_wp2_with fail
                      clear y0 y1 y2 y3 y4 ry
                      go_loopw [14, 15] (fun s14 s15 wr => ∃ (k : Nat) (f : Bool), k ≤ n ∧ s15 = .int .i64 k ∧ s14 = .bool f ∧ Hid (∀ (j : Nat) (q : Out), j < k → T[j]? = some q → q.key = y.key → q.name = y.name → q.args = y.args → f = true) ∧ Hid (Below w7.heap.size w7 wr)) (fun _ s15 _ => n - (intOf s15).toNat)
                      case atStart => exact ⟨0, false, by omega, rfl, rfl, Lib.hid (fun j _ hj => absurd hj (by omega)), HB9⟩
                      case round =>
                        obtain ⟨k, f, hk, rfl, rfl, HF, HBA⟩ := hrel
                        by_cases hlt3 : k < n
                        · obtain ⟨b', off', q, e, hlb', hget', A10, c10, hat'⟩ := slOut_at (T8.out.below HBA.out (fun _ h => h)) hlt3
                          subst e
                          obtain ⟨q0, q1, q2, q3, q4, rq⟩ := hat'
                          obtain ⟨b2, off2, y', e, hlb2, hget2, A11, c11, hat2⟩ := slOut_at (R8.out.below HBA.out (fun _ h => h)) hlt2
                          injection e with e
                          injection e with e1 e2
                          subst e1 e2
                          rw [HY.out] at hget2
                          obtain rfl := Option.some.inj hget2
                          obtain ⟨y0, y1, y2, y3, y4, ry⟩ := hat2
                          have HQ := Lib.hid hget'
                          have hlq : b' < wr.heap.size := Nat.lt_of_lt_of_le hlb' HBA.out.size
                          have hly : b < wr.heap.size := Nat.lt_of_lt_of_le hlb2 HBA.out.size
                          have RQ := Lib.hid (rq.weaken (ok' := Lt wr.heap.size) (fun b hb' => Nat.lt_of_lt_of_le hb' HBA.out.size))
                          have RY := Lib.hid (ry.weaken (ok' := Lt wr.heap.size) (fun b hb' => Nat.lt_of_lt_of_le hb' HBA.out.size))
                          have i4 : (0 : Int) ≤ (k : Int) := by omega
                          have i5 : (k : Int) < (n : Int) := by omega
                          clear hget' hget2 rq ry hlb' hlb2 hlb
                          have HNX : Hid (∀ g : Bool, (f = true → g = true) → (q.key = y.key → q.name = y.name → q.args = y.args → g = true) → ∀ (j : Nat) (q : Out), j < k + 1 → T[j]? = some q → q.key = y.key → q.name = y.name → q.args = y.args → g = true) := Lib.hid (fun g h1 h2 j q' hj hq' e1 e2 e3 => by
                            rcases Nat.lt_or_ge j k with hjk | hjk
                            · exact h1 (HF.out j q' hjk hq' e1 e2 e3)
                            · obtain rfl : j = k := by omega
                              rw [HQ.out] at hq'
                              obtain rfl := Option.some.inj hq'
                              exact h2 e1 e2 e3)
                          cases f with
                          | true =>
                            go_wp2_with fail
                            go_quiet (fail)
                            go_wp2_with fail
                            refine ⟨⟨k + 1, true, by omega, by go_num, rfl, Lib.hid (HNX.out true (fun _ => rfl) (fun _ _ _ => rfl)), Lib.hid (HBA.out.trans ((below_drew_n _).mono HBA.out.size))⟩, by simp [intOf]; omega⟩
                          | false =>
                            cases e1 : (q.key.toList == y.key.toList) with
                            | false =>
                              have HN2 := Lib.hid (HNX.out false (fun h => h) (fun h _ _ => by rw [h] at e1; simp at e1))
                              go_wp2_with fail
                              go_quiet (fail)
                              go_wp2_with fail
                              refine ⟨⟨k + 1, false, by omega, by go_num, rfl, HN2, Lib.hid (HBA.out.trans ((below_drew_n _).mono HBA.out.size))⟩, by simp [intOf]; omega⟩
                            | true =>
                              cases e2 : (q.name.toList == y.name.toList) with
                              | false =>
                                have HN2 := Lib.hid (HNX.out false (fun h => h) (fun _ h _ => by rw [h] at e2; simp at e2))
                                go_wp2_with fail
                                go_quiet (fail)
                                go_wp2_with fail
                                refine ⟨⟨k + 1, false, by omega, by go_num, rfl, HN2, Lib.hid (HBA.out.trans ((below_drew_n _).mono HBA.out.size))⟩, by simp [intOf]; omega⟩
                              | true =>
                                have HC : Hid (∀ W, Rd (Lt W.heap.size) W (vs q.args) (.slice A10 q.args.length c10) → Rd (Lt W.heap.size) W (vs y.args) (.slice A11 y.args.length c11) → Calls Tryd.prog 26 #[.slice A10 q.args.length c10, .slice A11 y.args.length c11] W fun e w' => e = .returned (.bool (eqVs q.args y.args)) ∧ Below W.heap.size W w') := Lib.hid (fun W h1 h2 => rsameOk (HTE.out q (List.mem_of_getElem? HQ.out)) y.args A10 A11 _ _ c10 c11 W (HLE.out y (List.mem_of_getElem? HY.out)) h1 h2)
                                have HN2 := Lib.hid (HNX.out (eqVs q.args y.args) (fun h => by cases h) (fun _ _ h => (eqVs_iff _ _).2 h))
                                generalize eqVs q.args y.args = g at *
                                go_wp2_with fail
                                go_still_tail 37, (by kernel_rfl)
                                change wpList _ _ _ _ _ wr.drew
                                go_wp2_with fail
                                (with_reducible refine (HC.out _ RQ.out.drew RY.out.drew).mono ?_)
                                rintro _ w9 ⟨rfl, hb9⟩
                                have B9 := Lib.hid (HBA.out.drew.trans (hb9.mono HBA.out.size))
                                clear hb9
                                go_wp2_with fail
                                exact ⟨⟨k + 1, g, by omega, by go_num, rfl, HN2, B9⟩, by simp [intOf]; omega⟩
                        · have hf : f = true := by
                            obtain ⟨q, hq, e1, e2, e3⟩ := BP.out.2.2 y (List.mem_of_getElem? HY.out)
                            obtain ⟨j, hj⟩ := List.mem_iff_getElem?.1 hq
                            exact HF.out j q (by have := (List.getElem?_eq_some_iff.1 hj).1; omega) hj e1 e2 e3
                          subst hf
                          go_wp2_with fail
                          exact ⟨⟨a + 1, by omega, by go_num, HBA⟩, by simp [intOf]; omega⟩
                    · go_wp2_with fail
                      go_ret
                      exact ⟨rfl, B8.out.trans (HB9.out.mono B8.out.size)⟩
        · have heb : (stepE l x != 0) = true := by simp [he]
          have HF : Hid (foldS l [x] = ([], stepE l x)) := Lib.hid (by rw [foldS_one, if_neg he])
          generalize hE : stepE l x = E at *
          clear hE he
          go_wp2_with fail
          (with_reducible refine HA.out.mono ?_)
          rintro _ w5 ⟨v5, hv5, ho5, hb5⟩
          rw [HF.out] at hv5 ho5
          obtain ⟨A6, c6, rfl, hr6⟩ := ho5.rdOut
          subst hv5
          have B5 := Lib.hid (B4.out.trans (hb5.mono B4.out.size))
          clear ho5 hb5 hr6
          go_wp2_with fail
          go_ret
          exact ⟨rfl, B5.out⟩
end Go.Proofs.YtlnfdpdancolmaaDoor
