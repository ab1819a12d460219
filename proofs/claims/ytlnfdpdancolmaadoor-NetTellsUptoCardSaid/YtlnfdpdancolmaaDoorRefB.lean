/- ref44.Find, equal, Equal. Conditions: those in each statement. -/
import Derived.Test.YtlnfdpdancolmaaDoorRefA
import Derived.Test.YtlnfdpdancolmaaDoorRefSame
namespace Go.Proofs.YtlnfdpdancolmaaDoor
open Go.RowKit

set_option maxHeartbeats 1000000 in
theorem rfind_any (l : List Out) (A : Option Addr) (n c : Nat) (key : ByteArray) (w : World) (hr : Rd (Lt w.heap.size) w (slOut l) (.slice A n c)) (hn : n ≤ 4194304) :
    Calls Tryd.prog 28 #[.slice A n c, .string key] w fun e w' => e = .returned (.int .i64 (findI l key)) ∧ w' = w := by
  have hl := slOut_len hr
  have HR := Lib.hid hr
  have HL := Lib.hid hl.1
  clear hr hl
  go_enter Tryd.func28, Tryd.ntmps28
  go_wp2_with fail
  go_loop [5] (fun s5 => ∃ k : Nat, k ≤ n ∧ s5 = .int .i64 k ∧ Hid (∀ (i : Nat) (y : Out), i < k → l[i]? = some y → hasKey key y = false)) (fun s5 => n - (intOf s5).toNat)
  case atStart => exact ⟨0, by omega, rfl, Lib.hid (fun i y h => absurd h (by omega))⟩
  case round =>
    obtain ⟨k, hk, rfl, HN⟩ := hrel
    by_cases hlt : k < n
    · obtain ⟨b, off, x, rfl, _, hget, A', c', h2⟩ := slOut_at HR.out hlt
      obtain ⟨d0, d1, d2, d3, d4, _⟩ := h2
      have HG := Lib.hid hget
      clear hget
      cases hp : (x.key.toList == key.toList) with
      | true =>
        have HI : Hid (findI l key = (k : Int)) := Lib.hid (idx_yes HN.out HG.out hp)
        go_wp2_with fail
        go_ret
        exact ⟨by rw [HI.out]; rfl, rfl⟩
      | false =>
        have HI : Hid (∀ (i : Nat) (y : Out), i < k + 1 → l[i]? = some y → hasKey key y = false) := Lib.hid (fun i y h hy => by
          rcases Nat.lt_or_ge i k with h1 | h1
          · exact HN.out i y h1 hy
          · obtain rfl : i = k := by omega
            rw [HG.out] at hy
            obtain rfl := Option.some.inj hy
            exact hp)
        go_wp2_with fail
        exact ⟨⟨k + 1, by omega, by go_num, HI⟩, by simp [intOf]; omega⟩
    · have HI : Hid (findI l key = -1) := Lib.hid (idx_no (fun i y hy => HN.out i y (by have := (List.getElem?_eq_some_iff.1 hy).1; have := HL.out; omega) hy))
      go_wp2_with fail
      go_ret
      exact ⟨by rw [HI.out]; rfl, rfl⟩

/-- equality of effects, with their ticks if told so -/
def eqOT (x y : Out) (t : Bool) : Bool := (x.key.toList == y.key.toList) && ((x.name.toList == y.name.toList) && ((x.part == y.part) && (eqVs x.args y.args && (!t || (x.tick == y.tick)))))
theorem eqOT_self (x : Out) (t : Bool) : eqOT x x t = true := by unfold eqOT; simp [(eqVs_iff x.args x.args).2 rfl]

set_option maxHeartbeats 4000000 in
theorem requalO (x y : Out) (t : Bool) (A A' : Option Addr) (c c' : Nat) (w : World) (hb : bulkV x.args ≤ 1048576) (hb' : bulkV y.args ≤ 1048576) (hr : Rd (Lt w.heap.size) w (vs x.args) (.slice A x.args.length c)) (hr' : Rd (Lt w.heap.size) w (vs y.args) (.slice A' y.args.length c')) :
    Calls Tryd.prog 30 #[.agg #[.string x.key, .string x.name, .slice A x.args.length c, .bool x.part, .int .i64 x.tick], .agg #[.string y.key, .string y.name, .slice A' y.args.length c', .bool y.part, .int .i64 y.tick], .bool t] w fun e w' => e = .returned (.bool (eqOT x y t)) ∧ Below w.heap.size w w' := by
  have HR := Lib.hid hr
  have HR' := Lib.hid hr'
  have HS := Lib.hid (rsameOk hb)
  unfold RSameOk at HS
  clear hr hr'
  have HU : Hid (eqOT x y t = ((x.key.toList == y.key.toList) && ((x.name.toList == y.name.toList) && ((x.part == y.part) && (eqVs x.args y.args && (!t || (x.tick == y.tick))))))) := Lib.hid rfl
  generalize eqOT x y t = R at *
  have fin : ∀ x y : Obj, Below w.heap.size w ((w.alloc x).alloc y) := fun x y => ((Below.refl _ _).alloc (Nat.le_refl _) _).alloc (by simp) _
  have FIN := Lib.hid fin
  clear fin
  cases h1 : (x.key.toList == y.key.toList) with
  | false =>
    rw [h1] at HU
    go_enter Tryd.func30, Tryd.ntmps30
    go_wp2_with fail
    go_ret
    exact ⟨by rw [HU.out]; rfl, FIN.out _ _⟩
  | true =>
    rw [h1] at HU
    cases h2 : (x.name.toList == y.name.toList) with
    | false =>
      rw [h2] at HU
      go_enter Tryd.func30, Tryd.ntmps30
      go_wp2_with fail
      go_ret
      exact ⟨by rw [HU.out]; rfl, FIN.out _ _⟩
    | true =>
      rw [h2] at HU
      cases h3 : (x.part == y.part) with
      | false =>
        rw [h3] at HU
        go_enter Tryd.func30, Tryd.ntmps30
        go_wp2_with fail
        go_ret
        exact ⟨by rw [HU.out]; rfl, FIN.out _ _⟩
      | true =>
        rw [h3] at HU
        generalize hg : eqVs x.args y.args = g at *
        have HC : Hid (∀ W, Rd (Lt W.heap.size) W (vs x.args) (.slice A x.args.length c) → Rd (Lt W.heap.size) W (vs y.args) (.slice A' y.args.length c') → Calls Tryd.prog 26 #[.slice A x.args.length c, .slice A' y.args.length c'] W fun e w' => e = .returned (.bool g) ∧ Below W.heap.size W w') := Lib.hid (fun W h1 h2 => by rw [← hg]; exact HS.out y.args A A' _ _ c c' W hb' h1 h2)
        clear hg HS
        go_enter Tryd.func30, Tryd.ntmps30
        go_wp2_with fail
        (with_reducible refine (HC.out _ ?_ ?_).mono ?_)
        · exact (HR.out.allocs _).allocs _
        · exact (HR'.out.allocs _).allocs _
        rintro e w1 ⟨rfl, hb1⟩
        have t0 : w1.cell? ⟨w.heap.size, 4, none⟩ = some (.int .i64 x.tick) := (hb1.cell (p := ⟨w.heap.size, 4, none⟩) (by simp; omega)).trans (by simp)
        have t1 : w1.cell? ⟨w.heap.size + 1, 4, none⟩ = some (.int .i64 y.tick) := (hb1.cell (p := ⟨w.heap.size + 1, 4, none⟩) (by simp)).trans (by simp)
        have HB1 := Lib.hid ((FIN.out _ _).trans (hb1.mono (by simp; omega)))
        clear hb1
        cases g with
        | false =>
          go_wp2_with fail
          go_ret
          exact ⟨by rw [HU.out]; rfl, HB1.out⟩
        | true =>
          cases t with
          | false =>
            go_wp2_with fail
            go_ret
            exact ⟨by rw [HU.out]; rfl, HB1.out⟩
          | true =>
            go_wp2_with fail
            go_ret
            exact ⟨by rw [HU.out]; simp, HB1.out⟩

set_option maxHeartbeats 4000000 in
theorem rEqual_same (l : List Out) (A A' : Option Addr) (n c c' : Nat) (w : World) (hb : bulkOut l ≤ 1048576) (hr : Rd (Lt w.heap.size) w (slOut l) (.slice A n c)) (hr' : Rd (Lt w.heap.size) w (slOut l) (.slice A' n c')) :
    Calls Tryd.prog 14 #[.slice A n c, .slice A' n c'] w fun e w' => e = .returned (.bool true) ∧ Below w.heap.size w w' := by
  have hl := slOut_len hr
  have hln := bulkOut_len l
  have HR := Lib.hid hr
  have HR' := Lib.hid hr'
  have hn : n ≤ 1048576 := by omega
  clear hr hr' hl
  go_enter Tryd.func14, Tryd.ntmps14
  go_wp2_with fail
  go_loopw [5] (fun s5 wr => ∃ i : Nat, i ≤ n ∧ s5 = .int .i64 i ∧ Hid (Below w.heap.size w wr)) (fun s5 _ => n - (intOf s5).toNat)
  case atStart => exact ⟨0, by omega, rfl, Lib.hid (Below.refl _ _)⟩
  case round =>
    obtain ⟨i, hi, rfl, HB⟩ := hrel
    by_cases hlt : i < n
    · obtain ⟨b, off, x, e, hlb, hget, A2, c2, hat⟩ := slOut_at (HR.out.belows HB.out) hlt
      subst e
      obtain ⟨b', off', y, e, hlb', hget', A3, c3, hat'⟩ := slOut_at (HR'.out.belows HB.out) hlt
      subst e
      rw [hget] at hget'
      obtain rfl := Option.some.inj hget'
      obtain ⟨p0, p1, p2, p3, p4, r2⟩ := hat
      obtain ⟨q0, q1, q2, q3, q4, r2'⟩ := hat'
      have hbk := bulkOut_get hget
      unfold Out.bulk at hbk
      have HC : Hid (∀ W, Rd (Lt W.heap.size) W (vs x.args) (.slice A2 x.args.length c2) → Rd (Lt W.heap.size) W (vs x.args) (.slice A3 x.args.length c3) → _) := Lib.hid (fun W h1 h2 => requalO x x true A2 A3 c2 c3 W (by omega) (by omega) h1 h2)
      rw [eqOT_self] at HC
      have R2 := Lib.hid r2
      have R2' := Lib.hid r2'
      have hlb1 : b < wr.heap.size := hlb
      have hlb2 : b' < wr.heap.size := hlb'
      have hin : (i : Int) < n := by omega
      clear r2 r2' hget hget' hbk hlb hlb'
      go_wp2_with fail
      go_region_with (first | (go_at_call 30; refine (HC.out _ R2.out.drew R2'.out.drew).mono ?_; rintro e w4 ⟨rfl, hb4⟩; have B4 := Lib.hid (HB.out.drew.trans (hb4.mono HB.out.size)); clear hb4))
      all_goals (
        go_wp2_with fail
        exact ⟨⟨i + 1, by omega, by go_num, B4⟩, by simp [intOf]; omega⟩)
    · go_wp2_with fail
      go_ret
      exact ⟨rfl, HB.out⟩
end Go.Proofs.YtlnfdpdancolmaaDoor
