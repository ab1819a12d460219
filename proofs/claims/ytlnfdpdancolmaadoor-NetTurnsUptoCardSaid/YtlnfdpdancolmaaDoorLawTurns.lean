/- NetTurns: it returns true. Conditions: those in each statement. -/
import Derived.Test.YtlnfdpdancolmaaDoorTurnsP
import Derived.Deep.QuietTactic
import Derived.BigQuiet
import Derived.StillTailTactics
namespace Go.Proofs.YtlnfdpdancolmaaDoor
open Go.RowKit

set_option maxHeartbeats 8000000 in
set_option maxRecDepth 100000 in
theorem turns_any (a b : List Req) (A A' : Option Addr) (n c n' c' : Nat) (w : World) (hr : Rd (Lt w.heap.size) w (slReq a) (.slice A n c)) (hr' : Rd (Lt w.heap.size) w (slReq b) (.slice A' n' c')) (hwf : ∀ r ∈ a, r.Wf) (hwf' : ∀ r ∈ b, r.Wf) (hb : bulkReq a + bulkReq b ≤ 1048576) (hR : Row32 w 0 64 kF) :
    Calls Tryd.prog 5 #[.slice A n c, .slice A' n' c'] w fun e w' => e = .returned (.bool true) ∧ Below w.heap.size w w' := by
  have hw0 : 0 < w.heap.size := World.block_lt_of_cell? w _ (hR 0 (by omega))
  have hl := slReq_len hr
  have hl' := slReq_len hr'
  have hln := bulkReq_len a
  have hln' := bulkReq_len b
  have HL := Lib.hid hl.1
  have HL' := Lib.hid hl'.1
  have KA : Hid (∀ r ∈ a, KeyOk kfG r) := Lib.hid (fun r hr => by
    obtain ⟨i, hi⟩ := List.mem_iff_getElem?.1 hr
    have := bulkReq_get hi
    exact keyOk_all r (by omega) (hwf r hr).1)
  have KB : Hid (∀ r ∈ b, KeyOk kfG r) := Lib.hid (fun r hr => by
    obtain ⟨i, hi⟩ := List.mem_iff_getElem?.1 hr
    have := bulkReq_get hi
    exact keyOk_all r (by omega) (hwf' r hr).1)
  have HS := Lib.hid (small_any w hR)
  have HR := Lib.hid hr
  have HR' := Lib.hid hr'
  have HRR := Lib.hid hR
  have hn : n ≤ 2097152 := by omega
  have hn' : n' ≤ 2097152 := by omega
  clear hr hr' hR hl hl' hwf hwf'
  go_enter Tryd.func5, Tryd.ntmps5
  go_wp2_with fail
  (with_reducible refine HS.out.mono ?_)
  rintro _ w1 ⟨rfl, hb1⟩
  have B1 := Lib.hid hb1
  have R1 := Lib.hid (HR.out.belows hb1)
  have Q1 := Lib.hid (HR'.out.belows hb1)
  clear hb1
  go_wp2_with fail
  (with_reducible refine (requests_len R1.out (by omega)).mono ?_)
  rintro _ w2' ⟨b1, rfl, hl20, q1, rfl⟩
  obtain ⟨w2, hw2⟩ : ∃ w2, w2 = w1.drewN q1 := ⟨_, rfl⟩
  have h12 : Below w1.heap.size w1 w2 := by rw [hw2]; exact below_drew_n q1
  have B2 := Lib.hid (B1.out.trans (h12.mono B1.out.size))
  have R2 := Lib.hid (R1.out.belows h12)
  have Q2 := Lib.hid (Q1.out.belows h12)
  rw [← hw2]
  clear hw2 h12 B1 R1 Q1 HR HR' HS
  cases b1 with
  | false =>
    go_wp2_with fail
    go_ret
    exact ⟨rfl, B2.out⟩
  | true =>
    have hn20 : n ≤ 20 := hl20 rfl
    clear hl20
    go_wp2_with fail
    (with_reducible refine (requests_len Q2.out (by omega)).mono ?_)
    rintro _ w3' ⟨b2, rfl, hl20, q2, rfl⟩
    obtain ⟨w3, hw3⟩ : ∃ w3, w3 = w2.drewN q2 := ⟨_, rfl⟩
    have h23 : Below w2.heap.size w2 w3 := by rw [hw3]; exact below_drew_n q2
    have B3 := Lib.hid (B2.out.trans (h23.mono B2.out.size))
    have R3 := Lib.hid (R2.out.belows h23)
    have Q3 := Lib.hid (Q2.out.belows h23)
    rw [← hw3]
    clear hw3 h23 B2 R2 Q2
    cases b2 with
    | false =>
      go_wp2_with fail
      go_ret
      exact ⟨rfl, B3.out⟩
    | true =>
      have hn20' : n' ≤ 20 := hl20 rfl
      clear hl20
      have HA : Hid (bulkOut (effS kfG a) ≤ 1049856) := Lib.hid (by have := effG_bulk a; have := HL.out; omega)
      have HBk : Hid (bulkOut (effS kfG b) ≤ 1049856) := Lib.hid (by have := effG_bulk b; have := HL'.out; omega)
      go_wp2_with fail
      (with_reducible refine (diff_first a A n c w3 HL.out (by omega) KA.out R3.out ?_).mono ?_)
      · exact HRR.out.below B3.out hw0
      rintro _ w4 ⟨v1, A4, c4, rfl, hr4, hb4⟩
      have B4 := Lib.hid (B3.out.trans (hb4.mono B3.out.size))
      have R4 := Lib.hid (R3.out.belows hb4)
      have Q4 := Lib.hid (Q3.out.belows hb4)
      have S4 := Lib.hid hr4
      clear hb4 hr4 B3 R3 Q3
      go_wp2_with fail
      (with_reducible refine (diff_first b A' n' c' w4 HL'.out (by omega) KB.out Q4.out ?_).mono ?_)
      · exact HRR.out.below B4.out hw0
      rintro _ w5 ⟨v2, A5, c5, rfl, hr5, hb5⟩
      have B5 := Lib.hid (B4.out.trans (hb5.mono B4.out.size))
      have R5 := Lib.hid (R4.out.belows hb5)
      have Q5 := Lib.hid (Q4.out.belows hb5)
      have S5 := Lib.hid (S4.out.belows hb5)
      have T5 := Lib.hid hr5
      clear hb5 hr5 B4 R4 Q4 S4
      go_wp2_with fail
      (with_reducible refine (distinct_any S5.out (by have := HA.out; omega)).mono ?_)
      rintro _ w6' ⟨b3, rfl, hdist, q3, rfl⟩
      obtain ⟨w6, hw6⟩ : ∃ w6, w6 = w5.drewN q3 := ⟨_, rfl⟩
      have h56 : Below w5.heap.size w5 w6 := by rw [hw6]; exact below_drew_n q3
      have B6 := Lib.hid (B5.out.trans (h56.mono B5.out.size))
      have R6 := Lib.hid (R5.out.belows h56)
      have Q6 := Lib.hid (Q5.out.belows h56)
      have S6 := Lib.hid (S5.out.belows h56)
      have T6 := Lib.hid (T5.out.belows h56)
      have HD := Lib.hid hdist
      rw [← hw6]
      clear hw6 h56 B5 R5 Q5 S5 T5 hdist
      cases b3 with
      | false =>
        go_wp2_with fail
        go_ret
        exact ⟨rfl, B6.out⟩
      | true =>
        have DA := Lib.hid (HD.out.1 rfl)
        clear HD
        go_wp2_with fail
        (with_reducible refine (distinct_any T6.out (by have := HBk.out; omega)).mono ?_)
        rintro _ w7' ⟨b4, rfl, hdist, q4, rfl⟩
        obtain ⟨w7, hw7⟩ : ∃ w7, w7 = w6.drewN q4 := ⟨_, rfl⟩
        have h67 : Below w6.heap.size w6 w7 := by rw [hw7]; exact below_drew_n q4
        have B7 := Lib.hid (B6.out.trans (h67.mono B6.out.size))
        have R7 := Lib.hid (R6.out.belows h67)
        have Q7 := Lib.hid (Q6.out.belows h67)
        have S7 := Lib.hid (S6.out.belows h67)
        have T7 := Lib.hid (T6.out.belows h67)
        have HD := Lib.hid hdist
        rw [← hw7]
        clear hw7 h67 B6 R6 Q6 S6 T6 hdist
        cases b4 with
        | false =>
          go_wp2_with fail
          go_ret
          exact ⟨rfl, B7.out⟩
        | true =>
          have DB := Lib.hid (HD.out.1 rfl)
          clear HD
          have ha4 := (slOut_len S7.out).2
          have ha5 := (slOut_len T7.out).2
          go_wp2_with fail
          go_loopw [10, 11] (fun s10 _ wr => ∃ i : Nat, i ≤ n ∧ s10 = .int .i64 i ∧ Hid (Below w7.heap.size w7 wr) ∧ Hid (∀ (j : Nat) (x : Req), j < i → a[j]? = some x → ∀ y ∈ b, kfG x = kfG y → alikeB x y = true)) (fun s10 _ _ => n - (intOf s10).toNat)
          case atStart => exact ⟨0, by omega, rfl, Lib.hid (Below.refl _ _), Lib.hid (fun j _ hj => absurd hj (by omega))⟩
          case round =>
            obtain ⟨i, hi, rfl, HB, HP⟩ := hrel
            by_cases hlt : i < n
            · obtain ⟨ba, offa, x, e, _, hgx, _⟩ := slReq_at R7.out hlt
              subst e
              obtain ⟨bx, offx, ox, e, _, hgox, _⟩ := slOut_at S7.out hlt
              subst e
              rw [effS_get, hgx] at hgox
              obtain rfl : effR kfG x = ox := Option.some.inj hgox
              have HX := Lib.hid hgx
              clear hgx hgox
              have i2 : (0 : Int) ≤ (i : Int) := by omega
              have i3 : (i : Int) < (n : Int) := by omega
              go_wp2_with fail
              go_loopw [11] (fun s11 wr => ∃ k : Nat, k ≤ n' ∧ s11 = .int .i64 k ∧ Hid (Below w7.heap.size w7 wr) ∧ Hid (∀ (j : Nat) (y : Req), j < k → b[j]? = some y → kfG x = kfG y → alikeB x y = true)) (fun s11 _ => n' - (intOf s11).toNat)
              case atStart => exact ⟨0, by omega, rfl, HB, Lib.hid (fun j _ hj => absurd hj (by omega))⟩
              case round =>
                obtain ⟨k, hk, rfl, HC, HQ⟩ := hrel
                clear HB
                by_cases hlt2 : k < n'
                · obtain ⟨ba', offa', x', e, hla, hg1, Aa, ca, hata⟩ := slReq_at (R7.out.below HC.out (fun _ h => h)) hlt
                  injection e with e
                  injection e with e1 e2
                  subst e1 e2
                  rw [HX.out] at hg1
                  obtain rfl := Option.some.inj hg1
                  obtain ⟨bx', offx', ox, e, hlx, hg2, Ax, cx, hatx⟩ := slOut_at (S7.out.below HC.out (fun _ h => h)) hlt
                  injection e with e
                  injection e with e1 e2
                  subst e1 e2
                  rw [effS_get, HX.out] at hg2
                  obtain rfl : effR kfG x = ox := Option.some.inj hg2
                  obtain ⟨bb, offb, y, e, hlb, hgy, Ab, cb, hatb⟩ := slReq_at (Q7.out.below HC.out (fun _ h => h)) hlt2
                  subst e
                  obtain ⟨by', offy, oy, e, hly, hgoy, Ay, cy, haty⟩ := slOut_at (T7.out.below HC.out (fun _ h => h)) hlt2
                  subst e
                  rw [effS_get, hgy] at hgoy
                  obtain rfl : effR kfG y = oy := Option.some.inj hgoy
                  have HY := Lib.hid hgy
                  obtain ⟨a0, a1, a2, a3, a4, a5, a6, a7, _⟩ := hata
                  obtain ⟨b0, b1, b2, b3, b4, b5, b6, b7, _⟩ := hatb
                  have x0 : wr.cell? ⟨bx, offx + i * 5, none⟩ = some (.string (kfG x)) := hatx.1
                  have y0 : wr.cell? ⟨by', offy + k * 5, none⟩ = some (.string (kfG y)) := haty.1
                  clear hatx haty
                  have hla' : ba < wr.heap.size := Nat.lt_of_lt_of_le hla HC.out.size
                  have hlb' : bb < wr.heap.size := Nat.lt_of_lt_of_le hlb HC.out.size
                  have hlx' : bx < wr.heap.size := Nat.lt_of_lt_of_le hlx HC.out.size
                  have hly' : by' < wr.heap.size := Nat.lt_of_lt_of_le hly HC.out.size
                  have i4 : (0 : Int) ≤ (k : Int) := by omega
                  have i5 : (k : Int) < (n' : Int) := by omega
                  clear hg1 hg2 hgy hgoy hla hlb hlx hly
                  have HNX : Hid ((kfG x = kfG y → alikeB x y = true) → ∀ (j : Nat) (z : Req), j < k + 1 → b[j]? = some z → kfG x = kfG z → alikeB x z = true) := Lib.hid (fun h2 j z hj hz e1 => by
                    rcases Nat.lt_or_ge j k with hjk | hjk
                    · exact HQ.out j z hjk hz e1
                    · obtain rfl : j = k := by omega
                      rw [HY.out] at hz
                      obtain rfl := Option.some.inj hz
                      exact h2 e1)
                  have HAL : Hid (x.path = y.path → x.ord = y.ord → (decide (([effR kfG x] : List Out).length = ([effR kfG y] : List Out).length) && sameS [effR kfG x] [effR kfG y]) = true → alikeB x y = true) := Lib.hid (fun h1 h2 h3 => alike_of_same h1 h2 h3)
                  have HSM : Hid (∀ W k1 k2, Below wr.heap.size wr W → 1 ≤ k1 → k1 ≤ 9223372036854775807 → 1 ≤ k2 → k2 ≤ 9223372036854775807 → Calls Tryd.prog 22 #[.slice (some ⟨bx, offx + i * 5, none⟩) 1 k1, .slice (some ⟨by', offy + k * 5, none⟩) 1 k2] W (SamePost [effR kfG x] [effR kfG y] W)) := Lib.hid (fun W k1 k2 hW h1 h2 h3 h4 => netsame_any _ _ _ 1 k1 _ 1 k2 W (by
                      have := bulkOut_get (l := effS kfG a) (i := i) (x := effR kfG x) (by rw [effS_get, HX.out]; rfl)
                      have := HA.out
                      rw [bulkOut_cons]; have : bulkOut ([] : List Out) = 0 := rfl
                      omega) (by
                      have := bulkOut_get (l := effS kfG b) (i := k) (x := effR kfG y) (by rw [effS_get, HY.out]; rfl)
                      have := HBk.out
                      rw [bulkOut_cons]; have : bulkOut ([] : List Out) = 0 := rfl
                      omega) (((slOut_single (S7.out.belows HC.out) hlt (by rw [effS_get, HX.out]; rfl) k1 h1 h2)).belows hW) (((slOut_single (T7.out.belows HC.out) hlt2 (by rw [effS_get, HY.out]; rfl) k2 h3 h4)).belows hW))
                  generalize alikeB x y = al at HAL HNX
                  generalize effR kfG x = ex at HAL HSM
                  generalize effR kfG y = ey at HAL HSM
                  generalize hkx : kfG x = kx at *
                  generalize hky : kfG y = ky at *
                  clear hkx hky
                  cases e1 : (kx.toList == ky.toList) with
                  | false =>
                    have HN2 := Lib.hid (HNX.out (fun h => by rw [h] at e1; simp at e1))
                    clear HNX HAL HSM
                    go_wp2_with fail
                    go_quiet (fail)
                    go_wp2_with fail
                    refine ⟨⟨k + 1, by omega, by go_num, Lib.hid (HC.out.trans ((below_drew_n _).mono HC.out.size)), HN2⟩, by simp [intOf]; omega⟩
                  | true =>
                    cases e2 : (x.path.toList == y.path.toList) with
                    | false =>
                      have f2 : (x.path.toList != y.path.toList) = true := by simp [bne, e2]
                      go_wp2_with fail
                      go_quiet (fail)
                      go_wp2_with fail
                      go_ret
                      exact ⟨rfl, B7.out.trans ((HC.out.trans ((below_drew_n _).mono HC.out.size)).mono B7.out.size)⟩
                    | true =>
                      have f2 : (x.path.toList != y.path.toList) = false := by simp [bne, e2]
                      cases e3 : (x.ord == y.ord) with
                      | false =>
                        have f3 : (x.ord != y.ord) = true := by simp [bne, e3]
                        go_wp2_with fail
                        go_quiet (fail)
                        go_wp2_with fail
                        go_ret
                        exact ⟨rfl, B7.out.trans ((HC.out.trans ((below_drew_n _).mono HC.out.size)).mono B7.out.size)⟩
                      | true =>
                        have f3 : (x.ord != y.ord) = false := by simp [bne, e3]
                        have HAL2 := Lib.hid (HAL.out (bytes_ext (by simpa using e2)) (by simpa using e3))
                        clear HAL
                        have j1 : (i : Int) + 1 ≤ (c4 : Int) := by omega
                        have j2 : (k : Int) + 1 ≤ (c5 : Int) := by omega
                        have j3 : (i : Int) ≤ (i : Int) + 1 := by omega
                        have j4 : (k : Int) ≤ (k : Int) + 1 := by omega
                        have j5 : IntKind.i64.wrap ((i : Int) + 1) = (i : Int) + 1 := IntWalk.i64_in _ (by omega)
                        have j6 : IntKind.i64.wrap ((k : Int) + 1) = (k : Int) + 1 := IntWalk.i64_in _ (by omega)
                        have j7 : (c4 : Int) ≤ 9223372036854775807 := by omega
                        have j8 : (c5 : Int) ≤ 9223372036854775807 := by omega
                        go_wp2_with fail
                        go_still_tail 47, (by kernel_rfl)
                        change wpList _ _ _ _ _ wr.drew
                        go_wp2_with fail
                        (with_reducible refine (HSM.out _ _ _ ((Below.refl _ _).drew) (by omega) (by omega) (by omega) (by omega)).mono ?_)
                        rintro _ w9 ⟨rfl, hb9⟩
                        have B9 := Lib.hid (HC.out.drew.trans (hb9.mono HC.out.size))
                        clear hb9 HSM
                        generalize (decide (([ex] : List Out).length = ([ey] : List Out).length) && sameS [ex] [ey]) = g at *
                        cases g with
                        | false =>
                          go_wp2_with fail
                          go_ret
                          exact ⟨rfl, B7.out.trans (B9.out.mono B7.out.size)⟩
                        | true =>
                          have HN2 := Lib.hid (HNX.out (fun _ => HAL2.out rfl))
                          clear HNX HAL2
                          go_wp2_with fail
                          exact ⟨⟨k + 1, by omega, by go_num, B9, HN2⟩, by simp [intOf]; omega⟩
                · go_wp2_with fail
                  refine ⟨⟨i + 1, by omega, by go_num, HC, Lib.hid (fun j z hj hz y hy e => ?_)⟩, by simp [intOf]; omega⟩
                  rcases Nat.lt_or_ge j i with hji | hji
                  · exact HP.out j z hji hz y hy e
                  · obtain rfl : j = i := by omega
                    rw [HX.out] at hz
                    obtain rfl := Option.some.inj hz
                    obtain ⟨q, hq⟩ := List.mem_iff_getElem?.1 hy
                    exact HQ.out q y (by have := (List.getElem?_eq_some_iff.1 hq).1; have := HL'.out; omega) hq e
            · have HPP : Hid (∀ x ∈ a, ∀ y ∈ b, kfG x = kfG y → alikeB x y = true) := Lib.hid (fun x hx => by
                obtain ⟨j, hj⟩ := List.mem_iff_getElem?.1 hx
                exact HP.out j x (by have := (List.getElem?_eq_some_iff.1 hj).1; have := HL.out; omega) hj)
              have B8 := Lib.hid (B7.out.trans (HB.out.mono B7.out.size))
              have R8 := Lib.hid (R7.out.belows HB.out)
              have Q8 := Lib.hid (Q7.out.belows HB.out)
              have S8 := Lib.hid (S7.out.belows HB.out)
              have T8 := Lib.hid (T7.out.belows HB.out)
              clear HP HB R7 Q7 S7 T7 B7
              obtain ⟨X, Y, hX, hY, hsX, hsY⟩ := turns_plain compat_kfG DA.out DB.out HPP.out
              have hbA := effG_bulk (onlyS a b)
              have hbA2 := onlyS_bulk a b
              have hbA3 := onlyS_len a b
              have hbB := effG_bulk (onlyS b a)
              have hbB2 := onlyS_bulk b a
              have hbB3 := onlyS_len b a
              have hbT1 : bulkCmd (turnS [] (effS kfG a)) ≤ _ := turn_bulk [] a
              have hbT2 := turn_bulk (onlyS a b) (onlyS b a)
              have hbX := foldS_bulk (turnS [] (effS kfG a)) []
              rw [hX] at hbX
              have hbY := foldS_bulk (turnS (effS kfG (onlyS a b)) (effS kfG (onlyS b a))) X
              rw [hY] at hbY
              have z0 : bulkOut ([] : List Out) = 0 := rfl
              have hal := HL.out
              have hbl := HL'.out
              have HU : Hid (bulkOut (effS kfG (onlyS a b)) ≤ 2097152 ∧ bulkOut (effS kfG (onlyS b a)) ≤ 2097152 ∧ bulkCmd (turnS [] (effS kfG a)) ≤ 2097152 ∧ bulkCmd (turnS (effS kfG (onlyS a b)) (effS kfG (onlyS b a))) ≤ 2097152 ∧ bulkOut X ≤ 2097152 ∧ bulkOut Y ≤ 2097152) := Lib.hid (by
                have hbX : bulkOut X ≤ _ := hbX
                have hbY : bulkOut Y ≤ _ := hbY
                simp only [List.length_nil] at hbT1
                refine ⟨by omega, by omega, by omega, by omega, by omega, by omega⟩)
              have HXY := Lib.hid (And.intro hX (And.intro hY (And.intro hsX hsY)))
              clear hbA hbA2 hbA3 hbB hbB2 hbB3 hbT1 hbT2 hbX hbY z0 hal hbl hX hY hsX hsY HPP DA DB
              go_wp2_with fail
              (with_reducible refine (diff_both a b A n c A' n' c' _ (by omega) (by omega) KA.out KB.out R8.out Q8.out ?_).mono ?_)
              · exact HRR.out.below B8.out hw0
              rintro _ w9 ⟨Au, nu, cu, Ad, nd, cd, rfl, hru, hrd, hb9⟩
              have B9 := Lib.hid (B8.out.trans (hb9.mono B8.out.size))
              have S9 := Lib.hid (S8.out.belows hb9)
              have T9 := Lib.hid (T8.out.belows hb9)
              have U9 := Lib.hid hru
              have V9 := Lib.hid hrd
              clear hb9 hru hrd B8 R8 Q8 S8 T8
              go_wp2_with fail
              (with_reducible refine (turn_to [] (effS kfG a) none 0 0 A4 n c4 w9 (by simp [bulkOut]) (by have := HA.out; omega) (slOut_nil _ _) S9.out).mono ?_)
              rintro _ w10 ⟨At, nt, ct, rfl, hrt, hb10⟩
              have B10 := Lib.hid (B9.out.trans (hb10.mono B9.out.size))
              have S10 := Lib.hid (S9.out.belows hb10)
              have T10 := Lib.hid (T9.out.belows hb10)
              have U10 := Lib.hid (U9.out.belows hb10)
              have V10 := Lib.hid (V9.out.belows hb10)
              have W10 := Lib.hid hrt
              clear hb10 hrt B9 S9 T9 U9 V9
              go_wp2_with fail
              (with_reducible refine (fold_to [] (turnS [] (effS kfG a)) X HXY.out.1 none At 0 0 nt ct w10 (slOut_nil _ _) (by simp [bulkOut]) W10.out HU.out.2.2.1).mono ?_)
              rintro _ w11 ⟨Ax, cx, rfl, hrx, hb11⟩
              have B11 := Lib.hid (B10.out.trans (hb11.mono B10.out.size))
              have S11 := Lib.hid (S10.out.belows hb11)
              have T11 := Lib.hid (T10.out.belows hb11)
              have U11 := Lib.hid (U10.out.belows hb11)
              have V11 := Lib.hid (V10.out.belows hb11)
              have X11 := Lib.hid hrx
              clear hb11 hrx B10 S10 T10 U10 V10 W10
              go_wp2_with fail
              (with_reducible refine (turn_to (effS kfG (onlyS a b)) (effS kfG (onlyS b a)) Au nu cu Ad nd cd w11 HU.out.1 HU.out.2.1 U11.out V11.out).mono ?_)
              rintro _ w12 ⟨At2, nt2, ct2, rfl, hrt, hb12⟩
              have B12 := Lib.hid (B11.out.trans (hb12.mono B11.out.size))
              have S12 := Lib.hid (S11.out.belows hb12)
              have T12 := Lib.hid (T11.out.belows hb12)
              have X12 := Lib.hid (X11.out.belows hb12)
              have W12 := Lib.hid hrt
              clear hb12 hrt B11 S11 T11 U11 V11 X11
              go_wp2_with fail
              (with_reducible refine (fold_to X (turnS (effS kfG (onlyS a b)) (effS kfG (onlyS b a))) Y HXY.out.2.1 Ax At2 X.length cx nt2 ct2 w12 X12.out HU.out.2.2.2.2.1 W12.out HU.out.2.2.2.1).mono ?_)
              rintro _ w13 ⟨Ay, cy, rfl, hry, hb13⟩
              have B13 := Lib.hid (B12.out.trans (hb13.mono B12.out.size))
              have S13 := Lib.hid (S12.out.belows hb13)
              have T13 := Lib.hid (T12.out.belows hb13)
              have X13 := Lib.hid (X12.out.belows hb13)
              have Y13 := Lib.hid hry
              clear hb13 hry B12 S12 T12 X12 W12
              go_wp2_with fail
              (with_reducible refine (netsame_any X (effS kfG a) Ax X.length cx A4 n c4 w13 HU.out.2.2.2.2.1 (by have := HA.out; omega) X13.out S13.out).mono ?_)
              rintro _ w14 ⟨rfl, hb14⟩
              rw [HXY.out.2.2.1]
              have B14 := Lib.hid (B13.out.trans (hb14.mono B13.out.size))
              have T14 := Lib.hid (T13.out.belows hb14)
              have Y14 := Lib.hid (Y13.out.belows hb14)
              clear hb14 B13 S13 T13 X13 Y13
              go_wp2_with fail
              (with_reducible refine (netsame_any Y (effS kfG b) Ay Y.length cy A5 n' c5 w14 HU.out.2.2.2.2.2 (by have := HBk.out; omega) Y14.out T14.out).mono ?_)
              rintro _ w15 ⟨rfl, hb15⟩
              rw [HXY.out.2.2.2]
              have B15 := Lib.hid (B14.out.trans (hb15.mono B14.out.size))
              clear hb15
              go_wp2_with fail
              go_ret
              exact ⟨rfl, B15.out⟩
end Go.Proofs.YtlnfdpdancolmaaDoor
