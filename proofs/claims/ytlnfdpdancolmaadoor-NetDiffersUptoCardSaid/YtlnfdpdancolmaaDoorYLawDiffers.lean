/- NetDiffers: it returns true. Conditions: those in each statement. -/
import Derived.Test.YtlnfdpdancolmaaDoorYKeyAllR39KR44E
import Derived.Test.YtlnfdpdancolmaaDoorYR44PR44S
import Derived.Test.YtlnfdpdancolmaaDoorYSmall
import Derived.Test.YtlnfdpdancolmaaDoorYFoldFlatGuardsDistinct
import Derived.Test.YtlnfdpdancolmaaDoorYNetSame
namespace Go.Proofs.YtlnfdpdancolmaaDoor
open Go.RowKit Go.Sort

theorem below_drewD {w : World} (q : Nat) : Below w.heap.size w (w.drewN q) := below_drewN (Below.refl _ _) q
theorem Owned.rdOutD {B : Nat} {L : List Out} {w : World} {v : Value} (h : Owned B 45 5 L.length (rowsOut L) w v) : ∃ A c, v = .slice A L.length c ∧ Rd (Lt w.heap.size) w (slOut L) (.slice A L.length c) := by
  obtain ⟨A, c, rfl, h2⟩ := h.form
  exact ⟨A, c, rfl, h2⟩
set_option maxHeartbeats 2000000 in
theorem requests20 {ok : Nat → Prop} {l : List Req} {A : Option Addr} {n c : Nat} {w : World} (hr : Rd ok w (slReq l) (.slice A n c)) (hb : bulkReq l ≤ 2097152) :
    Calls Tryd.prog 17 #[.slice A n c] w fun e w' => ∃ b : Bool, e = .returned (.bool b) ∧ (b = true → n ≤ 20) ∧ ∃ q, w' = w.drewN q := by
  have hl := slReq_len hr
  have hn : n ≤ 2097152 := by have := bulkReq_len l; omega
  have HR := Lib.hid hr
  have HB := Lib.hid hb
  clear hl hr hb
  go_enter Tryd.func17, Tryd.ntmps17
  go_wp2_with fail
  go_loopw [3] (fun i wr => ∃ k q : Nat, k ≤ n ∧ i = .int .i64 k ∧ wr = w.drewN q) (fun i _ => n - (intOf i).toNat)
  case atStart => exact ⟨0, 0, by omega, rfl, rfl⟩
  case round =>
    obtain ⟨k, q, hk, rfl, rfl⟩ := hrel
    by_cases hlt : k < n
    · by_cases h40 : k < 30
      · obtain ⟨b, off, x, rfl, _, hget, A2, c2', h2⟩ := slReq_at HR.out hlt
        obtain ⟨c0, c1, c2, c3, c4, c5, c6, c7, r5⟩ := h2
        have hbk := bulkReq_get hget
        unfold Req.bulk at hbk
        have hts : x.path.size ≤ 2097152 ∧ x.name.size ≤ 2097152 ∧ x.reply.size ≤ 2097152 := by have := HB.out; omega
        have HC := Lib.hid (fun (W : World) (hW : Rd ok W (vs x.args) (.slice A2 x.args.length c2')) => flat4 hW (by have := HB.out; omega))
        have HR5 := Lib.hid r5
        clear r5 hget hbk
        generalize flatB x.args = fb at HC
        have i0 : (0 : Int) ≤ (k : Int) := by omega
        have i1 : (k : Int) < (n : Int) := by omega
        have s1 : IntKind.i64.wrap ((x.path.size : Int) + (x.name.size : Int)) = (x.path.size : Int) + (x.name.size : Int) := IntWalk.i64_in _ (by omega)
        have s2 : IntKind.i64.wrap ((x.path.size : Int) + (x.name.size : Int) + (x.reply.size : Int)) = (x.path.size : Int) + (x.name.size : Int) + (x.reply.size : Int) := IntWalk.i64_in _ (by omega)
        by_cases hs : (300 : Int) < (x.path.size : Int) + (x.name.size : Int) + (x.reply.size : Int)
        · have hd : decide ((300 : Int) < (x.path.size : Int) + (x.name.size : Int) + (x.reply.size : Int)) = true := by simpa using hs
          go_wp2_with fail
          go_quiet (fail)
          go_wp2_with fail
          go_ret
          exact ⟨false, rfl, (fun h => by cases h), _, World.drewN_drewN _ _ _⟩
        · have hd : decide ((300 : Int) < (x.path.size : Int) + (x.name.size : Int) + (x.reply.size : Int)) = false := by simpa using hs
          go_wp2_with fail
          go_quiet ((go_at_call 27; exact quiet_add_left (HC.out _ (HR5.out.drewN _))))
          cases fb
          · go_wp2_with fail
            go_ret
            exact ⟨false, rfl, (fun h => by cases h), _, World.drewN_drewN _ _ _⟩
          · go_wp2_with fail
            go_roundw
            case rel => exact ⟨k + 1, _, by omega, by go_num, rfl⟩
            case measure => simp [intOf]; omega
      · go_wp2_with fail
        go_ret
        exact ⟨_, rfl, (fun h => by simp at h; omega), q, rfl⟩
    · go_wp2_with fail
      all_goals
        go_ret
        exact ⟨_, rfl, (fun h => by simp at h; omega), q, rfl⟩

theorem effD_bulk : ∀ l : List Req, bulkOut (effS kfG l) ≤ bulkReq l + 64 * l.length
  | [] => by simp [effS, bulkOut]
  | r :: l => by
    have h := effD_bulk l
    have e : effS kfG (r :: l) = effR kfG r :: effS kfG l := rfl
    have e2 : bulkReq (r :: l) = r.bulk + bulkReq l := by unfold bulkReq; rw [List.map_cons, List.sum_cons]
    have e3 : (effR kfG r).bulk = 6 + (kfG r).size + r.name.size + bulkV r.args := rfl
    rw [e, bulkOut_cons, e2, e3, kfG_size, List.length_cons]
    unfold Req.bulk
    omega
theorem only_bulk (a b : List Req) : bulkOut (effS kfG (onlyS a b)) ≤ bulkReq a + 64 * a.length := by
  have h1 := effD_bulk (onlyS a b)
  have h2 := onlyS_bulk a b
  have h3 : (onlyS a b).length ≤ a.length := by
    unfold onlyS onlyTo
    refine Nat.le_trans (List.length_filterMap_le _ _) ?_
    simp
  omega

set_option maxHeartbeats 8000000 in
set_option maxRecDepth 100000 in
theorem differs_any (a b : List Req) (x y : List Out) (A A' A2 A3 : Option Addr) (n c n' c' n2 c2 n3 c3 : Nat) (w : World) (hr : Rd (Lt w.heap.size) w (slReq a) (.slice A n c)) (hr' : Rd (Lt w.heap.size) w (slReq b) (.slice A' n' c')) (hx : Rd (Lt w.heap.size) w (slOut x) (.slice A2 n2 c2)) (hy : Rd (Lt w.heap.size) w (slOut y) (.slice A3 n3 c3))
    (hwf : ∀ r ∈ a, r.Wf) (hwf' : ∀ r ∈ b, r.Wf) (hb : bulkReq a + bulkReq b + bulkOut x + bulkOut y ≤ 1048576) (hR : Row32 w 0 64 kF) :
    Calls Tryd.prog 4 #[.slice A n c, .slice A' n' c', .slice A2 n2 c2, .slice A3 n3 c3] w fun e w' => e = .returned (.bool true) ∧ Below w.heap.size w w' := by
  have hw0 : 0 < w.heap.size := World.block_lt_of_cell? w _ (hR 0 (by omega))
  have hl := slReq_len hr
  have hl' := slReq_len hr'
  have hln := bulkReq_len a
  have hln' := bulkReq_len b
  have HL := Lib.hid hl.1
  have HL' := Lib.hid hl'.1
  have KA : Hid (∀ r ∈ a, KeyOk kfG r) := Lib.hid (fun r hr => by
    obtain ⟨i, hi⟩ := List.mem_iff_getElem?.1 hr
    have := bulkReq_get hi
    exact keyOk_all r (by omega) (hwf r hr).1)
  have KB : Hid (∀ r ∈ b, KeyOk kfG r) := Lib.hid (fun r hr => by
    obtain ⟨i, hi⟩ := List.mem_iff_getElem?.1 hr
    have := bulkReq_get hi
    exact keyOk_all r (by omega) (hwf' r hr).1)
  have WA : Hid (∀ r ∈ a, WfV r.args) := Lib.hid (fun r hr => (hwf r hr).1)
  have WB : Hid (∀ r ∈ b, WfV r.args) := Lib.hid (fun r hr => (hwf' r hr).1)
  have HS := Lib.hid (small_any w hR)
  have HA := Lib.hid hr
  have HB := Lib.hid hr'
  have HX := Lib.hid hx
  have HY := Lib.hid hy
  have HRR := Lib.hid hR
  have hn : n ≤ 2097152 := by omega
  have hn' : n' ≤ 2097152 := by omega
  clear hr hr' hx hy hR hl hl' hwf hwf'
  go_enter Tryd.func4, Tryd.ntmps4
  go_wp2_with fail
  (with_reducible refine HS.out.mono ?_)
  rintro _ w1 ⟨rfl, hb1⟩
  have B1 := Lib.hid hb1
  clear hb1 HS
  go_wp2_with fail
  (with_reducible refine (requests20 (HA.out.belows B1.out) (by omega)).mono ?_)
  rintro _ w2' ⟨b1, rfl, hl20, q1, rfl⟩
  obtain ⟨w2, hw2⟩ : ∃ w2, w2 = w1.drewN q1 := ⟨_, rfl⟩
  have h12 : Below w1.heap.size w1 w2 := by rw [hw2]; exact below_drewD q1
  have B2 := Lib.hid (B1.out.trans (h12.mono B1.out.size))
  rw [← hw2]
  clear hw2 h12 B1
  cases b1 with
  | false =>
    go_wp2_with fail
    go_ret
    exact ⟨rfl, B2.out⟩
  | true =>
    have hn20 : n ≤ 20 := hl20 rfl
    clear hl20
    go_wp2_with fail
    (with_reducible refine (requests20 (HB.out.belows B2.out) (by omega)).mono ?_)
    rintro _ w3' ⟨b2, rfl, hl20, q2, rfl⟩
    obtain ⟨w3, hw3⟩ : ∃ w3, w3 = w2.drewN q2 := ⟨_, rfl⟩
    have h23 : Below w2.heap.size w2 w3 := by rw [hw3]; exact below_drewD q2
    have B3 := Lib.hid (B2.out.trans (h23.mono B2.out.size))
    rw [← hw3]
    clear hw3 h23 B2
    cases b2 with
    | false =>
      go_wp2_with fail
      go_ret
      exact ⟨rfl, B3.out⟩
    | true =>
      have hn20' : n' ≤ 20 := hl20 rfl
      clear hl20
      go_wp2_with fail
      (with_reducible refine (outs_any (HX.out.belows B3.out) (by omega)).mono ?_)
      rintro _ w4' ⟨b3, rfl, q3, rfl⟩
      obtain ⟨w4, hw4⟩ : ∃ w4, w4 = w3.drewN q3 := ⟨_, rfl⟩
      have h34 : Below w3.heap.size w3 w4 := by rw [hw4]; exact below_drewD q3
      have B4 := Lib.hid (B3.out.trans (h34.mono B3.out.size))
      rw [← hw4]
      clear hw4 h34 B3
      cases b3 with
      | false =>
        go_wp2_with fail
        go_ret
        exact ⟨rfl, B4.out⟩
      | true =>
        go_wp2_with fail
        (with_reducible refine (outs_any (HY.out.belows B4.out) (by omega)).mono ?_)
        rintro _ w5' ⟨b4, rfl, q4, rfl⟩
        obtain ⟨w5, hw5⟩ : ∃ w5, w5 = w4.drewN q4 := ⟨_, rfl⟩
        have h45 : Below w4.heap.size w4 w5 := by rw [hw5]; exact below_drewD q4
        have B5 := Lib.hid (B4.out.trans (h45.mono B4.out.size))
        rw [← hw5]
        clear hw5 h45 B4
        cases b4 with
        | false =>
          go_wp2_with fail
          go_ret
          exact ⟨rfl, B5.out⟩
        | true =>
          have HU : Hid (bulkOut (effS kfG (onlyS a b)) ≤ 2097152 ∧ bulkOut (effS kfG (onlyS b a)) ≤ 2097152) := Lib.hid (by
            have := only_bulk a b
            have := only_bulk b a
            have := HL.out
            have := HL'.out
            omega)
          go_wp2_with fail
          (with_reducible refine (diff_any kfG a b A n c A' n' c' w5 (by omega) (by omega) KA.out KB.out compat_kfG (HA.out.belows B5.out) (HB.out.belows B5.out) ?_).mono ?_)
          · exact HRR.out.below B5.out hw0
          rintro _ w6 ⟨v1, v2, rfl, ho1, ho2, hb6⟩
          obtain ⟨A6, c6, rfl, hr6⟩ := ho1.rdOutD
          obtain ⟨A7, c7, rfl, hr7⟩ := ho2.rdOutD
          have B6 := Lib.hid (B5.out.trans (hb6.mono B5.out.size))
          have R6 := Lib.hid hr6
          have R7 := Lib.hid hr7
          clear ho1 ho2 hb6 hr6 hr7 B5
          go_wp2_with fail
          (with_reducible refine (rdiff_any a b A n c A' n' c' w6 (by omega) (by omega) WA.out WB.out (HA.out.belows B6.out) (HB.out.belows B6.out)).mono ?_)
          rintro _ w7 ⟨A8, n8, c8, A9, n9, c9, rfl, hr8, hr9, hb7⟩
          obtain rfl := (slOut_len hr8).1
          obtain rfl := (slOut_len hr9).1
          have B7 := Lib.hid (B6.out.trans (hb7.mono B6.out.size))
          have Q6 := Lib.hid (R6.out.belows hb7)
          have Q7 := Lib.hid (R7.out.belows hb7)
          have Q8 := Lib.hid hr8
          have Q9 := Lib.hid hr9
          clear hr8 hr9 hb7 B6 R6 R7
          generalize effS kfG (onlyS a b) = D1 at *
          generalize effS kfG (onlyS b a) = D2 at *
          go_wp2_with fail
          go_loopw [14] (fun s14 wr => ∃ i : Nat, i ≤ n ∧ s14 = .int .i64 i ∧ Hid (Below w7.heap.size w7 wr)) (fun s14 _ => n - (intOf s14).toNat)
          case atStart => exact ⟨0, by omega, rfl, Lib.hid (Below.refl _ _)⟩
          case round =>
            obtain ⟨i, hi, rfl, HBL⟩ := hrel
            have HBW := Lib.hid (B7.out.trans (HBL.out.mono B7.out.size))
            by_cases hlt : i < n
            · obtain ⟨bk, off, r, e, hlb, hget, A10, c10, hat⟩ := slReq_at (HA.out.belows HBW.out) hlt
              subst e
              obtain ⟨p0, p1, p2, p3, p4, p5, p6, p7, r3⟩ := hat
              have hkr := KA.out r (List.mem_of_getElem? hget)
              have hwr := WA.out r (List.mem_of_getElem? hget)
              have hrb := bulkReq_get hget
              have R3 := Lib.hid r3
              have K0 := Lib.hid (fun d os => Calls.regrown_of (netkey_of hkr (grow (redrawn wr d) os) A10 c10 (R3.out.belows (below_regrown wr d os)) ((HRR.out.below HBW.out hw0).below (below_regrown wr d os) (Nat.lt_of_lt_of_le hw0 HBW.out.size))))
              have K1 := Lib.hid (fun d os => Calls.regrown_of (rkey44_any r A10 c10 (grow (redrawn wr d) os) (by omega) hwr (R3.out.belows (below_regrown wr d os))))
              have m0 := fun d os => cell_regrown p0 d os
              have m1 := fun d os => cell_regrown p1 d os
              have m2 := fun d os => cell_regrown p2 d os
              have m3 := fun d os => cell_regrown p3 d os
              have m4 := fun d os => cell_regrown p4 d os
              have m5 := fun d os => cell_regrown p5 d os
              have m6 := fun d os => cell_regrown p6 d os
              have m7 := fun d os => cell_regrown p7 d os
              obtain ⟨ky, hky⟩ : ∃ z, kfG r = z := ⟨_, rfl⟩
              rw [hky] at K0 K1
              clear p0 p1 p2 p3 p4 p5 p6 p7 r3 hget hrb hkr hwr hky
              go_wp2_with fail
              refine wp_region_quiet_below (by kernel_rfl) (by kernel_rfl) ?_
              repeat (go_big_quiet_step (first | with_reducible exact K0.out _ _ | with_reducible exact K1.out _ _))
              refine wpQuiet_nil ?_
              intro _ hw'
              obtain ⟨⟨dq, osq⟩, hw''⟩ := hw'
              subst hw''
              clear m0 m1 m2 m3 m4 m5 m6 m7 K0 K1
              have hb1 := below_regrown wr dq osq
              obtain ⟨w8, hw8⟩ : ∃ w8, grow (redrawn wr dq) osq = w8 := ⟨_, rfl⟩
              rw [hw8] at hb1 ⊢
              have HB2 := Lib.hid (HBL.out.trans (hb1.mono HBL.out.size))
              clear hw8 hb1
              go_wp2_with fail
              exact ⟨⟨i + 1, by omega, by go_num, HB2⟩, by simp [intOf]; omega⟩
            · have U6 := Lib.hid (Q6.out.belows HBL.out)
              have U7 := Lib.hid (Q7.out.belows HBL.out)
              have U8 := Lib.hid (Q8.out.belows HBL.out)
              have U9 := Lib.hid (Q9.out.belows HBL.out)
              clear Q6 Q7 Q8 Q9
              go_wp2_with fail
              (with_reducible refine (rEqual_same D1 A6 A8 _ c6 c8 wr HU.out.1 U6.out U8.out).mono ?_)
              rintro _ wa ⟨rfl, hba⟩
              have V7 := Lib.hid (U7.out.belows hba)
              have V9 := Lib.hid (U9.out.belows hba)
              have Ba := Lib.hid (HBW.out.trans (hba.mono HBW.out.size))
              clear hba U6 U7 U8 U9 HBL
              go_wp2_with fail
              (with_reducible refine (rEqual_same D2 A7 A9 _ c7 c9 wa HU.out.2 V7.out V9.out).mono ?_)
              rintro _ wb ⟨rfl, hbb⟩
              have Bb := Lib.hid (Ba.out.trans (hbb.mono Ba.out.size))
              clear hbb V7 V9 Ba
              go_wp2_with fail
              (with_reducible refine (netsame_any x y A2 n2 c2 A3 n3 c3 wb (by omega) (by omega) (HX.out.belows Bb.out) (HY.out.belows Bb.out)).mono ?_)
              rintro _ wc ⟨rfl, hbc⟩
              have Bc := Lib.hid (Bb.out.trans (hbc.mono Bb.out.size))
              clear hbc Bb
              obtain ⟨S, hS⟩ : ∃ S, (decide (x.length = y.length) && sameS x y) = S := ⟨_, rfl⟩
              have HC : Hid (∀ W, Below w.heap.size w W → Calls Tryd.prog 23 #[.slice A2 n2 c2, .slice A3 n3 c3] W fun e w' => e = .returned (.bool S) ∧ Below W.heap.size W w') := Lib.hid (fun W hW => by
                rw [← hS]; exact rsame44_any x y A2 n2 c2 A3 n3 c3 W (by omega) (by omega) (HX.out.belows hW) (HY.out.belows hW))
              rw [hS]
              clear hS
              go_wp2_with fail
              (with_reducible refine (HC.out wc Bc.out).mono ?_)
              rintro _ wd ⟨rfl, hbd⟩
              have Bd := Lib.hid (Bc.out.trans (hbd.mono Bc.out.size))
              clear hbd Bc HC
              have HC2 : Hid (∀ W, Below w.heap.size w W → Calls Tryd.prog 22 #[.slice A2 n2 c2, .slice A2 n2 c2] W fun e w' => e = .returned (.bool true) ∧ Below W.heap.size W w') := Lib.hid (fun W hW => by
                rw [← same_self x]; exact netsame_any x x A2 n2 c2 A2 n2 c2 W (by omega) (by omega) (HX.out.belows hW) (HX.out.belows hW))
              cases S with
              | false =>
                go_wp2_with fail
                (with_reducible refine (HC2.out wd Bd.out).mono ?_)
                rintro _ we ⟨rfl, hbe⟩
                have Be := Lib.hid (Bd.out.trans (hbe.mono Bd.out.size))
                clear hbe Bd HC2
                go_wp2_with fail
                go_ret
                exact ⟨rfl, Be.out⟩
              | true =>
                go_wp2_with fail
                (with_reducible refine (HC2.out wd Bd.out).mono ?_)
                rintro _ we ⟨rfl, hbe⟩
                have Be := Lib.hid (Bd.out.trans (hbe.mono Bd.out.size))
                clear hbe Bd HC2
                go_wp2_with fail
                go_ret
                exact ⟨rfl, Be.out⟩
end Go.Proofs.YtlnfdpdancolmaaDoor
