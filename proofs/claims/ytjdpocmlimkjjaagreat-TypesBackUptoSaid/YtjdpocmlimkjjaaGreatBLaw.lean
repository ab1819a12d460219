/- types.Same. Conditions: those in each statement. The law's weight of a type, and Few. Conditions: those in each statement. TypesBack. Conditions: those in each statement. Arguments that read as data, opened: types as plain Lean data, with how much they hold. Conditions: those in each statement. -/
import Derived.Test.YtjdpocmlimkjjaaGreatQ17
import Derived.Lib.QuietBelow
import Derived.BigQuiet
import Derived.Test.YtjdpocmlimkjjaaGreatBPlain
import Derived.Test.YtjdpocmlimkjjaaGreatQ52
import Derived.Test.YtjdpocmlimkjjaaGreatQ29
import Derived.Test.YtjdpocmlimkjjaaGreatRows
import Derived.Test.YtjdpocmlimkjjaaGreatQ06
import Derived.ChangeArms
namespace Go.Proofs.YtjdpocmlimkjjaaGreat
open Go.RowKit Go.Sort

theorem sameTs_cons (a b : Ty) (r s : List Ty) : zqO (a :: r) (b :: s) = (zsk a b && zqO r s) := by rw [zqO]
theorem sameTs_nil (s : List Ty) : zqO [] s = true := by
  rw [zqO]
  intro a r b s h
  cases h
def SmAt (t : Ty) : Prop := ∀ (u : Ty) (A : Option Addr) (c : Nat) (A' : Option Addr) (c' : Nat) (w : World), Rd (Lt w.heap.size) w (ys t.args) (.slice A t.args.length c) → Rd (Lt w.heap.size) w (ys u.args) (.slice A' u.args.length c') →
  Calls Tryz.prog 19 #[.agg #[.int .i64 t.kind, .string t.name, .slice A t.args.length c], .agg #[.int .i64 u.kind, .string u.name, .slice A' u.args.length c']] w fun e w' => e = .returned (.bool (zsk t u)) ∧ Below w.heap.size w w'
set_option maxHeartbeats 16000000 in
set_option maxRecDepth 100000 in
theorem sm_step (k : Int) (nm : ByteArray) (l : List Ty) (IH : ∀ t ∈ l, SmAt t) : SmAt (.mk k nm l) := by
  intro u A c A' c' w h h'
  obtain ⟨k', nm', l'⟩ := u
  replace h : Rd (Lt w.heap.size) w (ys l) (.slice A l.length c) := h
  replace h' : Rd (Lt w.heap.size) w (ys l') (.slice A' l'.length c') := h'
  show Calls Tryz.prog 19 #[.agg #[.int .i64 k, .string nm, .slice A l.length c], .agg #[.int .i64 k', .string nm', .slice A' l'.length c']] w fun e w' => e = .returned (.bool (zsk (.mk k nm l) (.mk k' nm' l'))) ∧ Below w.heap.size w w'
  rw [zsk]
  have hl := zmv h
  have hl' := zmv h'
  have hn : l.length ≤ 9223372036854775807 := Nat.le_trans hl.2.1 hl.2.2
  have hn' : l'.length ≤ 9223372036854775807 := Nat.le_trans hl'.2.1 hl'.2.2
  have b1 := zag w (.cells #[.int .i64 k, .string nm, .slice A l.length c] 55)
  have c1 := zac.new w #[.int .i64 k, .string nm, .slice A l.length c] 55
  obtain ⟨w1, h1⟩ : ∃ W, w.alloc (.cells #[.int .i64 k, .string nm, .slice A l.length c] 55) = W := ⟨_, rfl⟩
  have s1 : w.heap.size + 1 ≤ w1.heap.size := by rw [← h1]; simp
  rw [h1] at b1 c1
  have b2 := zag w1 (.cells #[.int .i64 k', .string nm', .slice A' l'.length c'] 55)
  have c2 := zac.new w1 #[.int .i64 k', .string nm', .slice A' l'.length c'] 55
  obtain ⟨w2, h2⟩ : ∃ W, w1.alloc (.cells #[.int .i64 k', .string nm', .slice A' l'.length c'] 55) = W := ⟨_, rfl⟩
  have s2 : w1.heap.size + 1 ≤ w2.heap.size := by rw [← h2]; simp
  rw [h2] at b2 c2
  have c1' := zaa b2 c1
  have x0 : w2.cell? ⟨w.heap.size, 0, none⟩ = some (.int .i64 k) := c1'.cell 0
  have x1 : w2.cell? ⟨w.heap.size, 1, none⟩ = some (.string nm) := c1'.cell 1
  have x2 : w2.cell? ⟨w.heap.size, 2, none⟩ = some (.slice A l.length c) := c1'.cell 2
  have y0 : w2.cell? ⟨w1.heap.size, 0, none⟩ = some (.int .i64 k') := c2.cell 0
  have y1 : w2.cell? ⟨w1.heap.size, 1, none⟩ = some (.string nm') := c2.cell 1
  have y2 : w2.cell? ⟨w1.heap.size, 2, none⟩ = some (.slice A' l'.length c') := c2.cell 2
  have HC1 := Lib.hid c1'
  have HC2 := Lib.hid c2
  have HB := Lib.hid (zab b1 b2 b1.size)
  have HR := Lib.hid h
  have HR' := Lib.hid h'
  have HI := Lib.hid IH
  clear b1 b2 c1 c1' c2 hl hl' h h' IH
  by_cases hk : k = k'
  · have ek : (k != k') = false := by simp [hk]
    rw [decide_eq_true hk, Bool.true_and]
    by_cases hm : nm = nm'
    · have em : (nm.toList == nm'.toList) = true := by simp [hm]
      rw [decide_eq_true hm, Bool.true_and]
      by_cases hll : l.length = l'.length
      · have ell : ((l.length : Int) != (l'.length : Int)) = false := by simp [hll]
        rw [decide_eq_true hll, Bool.true_and]
        obtain ⟨r, hr⟩ : ∃ r, zqO l l' = r := ⟨_, rfl⟩
        have HA0 : Hid (zqO (l.drop 0) (l'.drop 0) = r) := Lib.hid hr
        rw [hr]
        have hll1 : l.length ≤ l'.length := Nat.le_of_eq hll
        have hll2 : l'.length ≤ l.length := Nat.le_of_eq hll.symm
        clear hr hk hm hll
        have HD0 : Hid (Below w2.heap.size w2 w2) := Lib.hid (Below.refl _ _)
        go_enter Tryz.func19, Tryz.ntmps19
        go_wp2_with fail
        clear h1 h2 x0 x1 x2 y0 y1 y2 ek em ell
        go_loopw [30] (fun s wr => ∃ i : Nat, i ≤ l.length ∧ s = .int .i64 i ∧ Hid (zqO (l.drop i) (l'.drop i) = r) ∧ Hid (Below w2.heap.size w2 wr)) (fun s _ => l.length - (intOf s).toNat)
        case atStart => exact ⟨0, by omega, rfl, HA0, HD0⟩
        case round =>
          clear HA0 HD0
          obtain ⟨i, hi, rfl, HA, HD⟩ := hrel
          have sB := HD.out.size
          have HBW := Lib.hid (zab HB.out HD.out HB.out.size)
          by_cases hlt : i < l.length
          · obtain ⟨b, off, y, e, hlb, hget, Ay, cy, p0, p1, p2, r5⟩ := zjY (HR.out.belows HBW.out) hlt
            subst e
            obtain ⟨b', off', y', e, hlb', hget', Ay', cy', p0', p1', p2', r5'⟩ := zjY (HR'.out.belows HBW.out) (show i < l'.length by omega)
            subst e
            have hin : (i : Int) < l.length := by omega
            have hin' : (i : Int) < l'.length := by omega
            have q := HA.out
            rw [zak hget, zak hget', sameTs_cons] at q
            have z2 : wr.cell? ⟨w.heap.size, 2, none⟩ = _ := (zaa HD.out HC1.out).cell 2
            have z2' : wr.cell? ⟨w1.heap.size, 2, none⟩ = _ := (zaa HD.out HC2.out).cell 2
            replace z2 : wr.cell? ⟨w.heap.size, 2, none⟩ = some (.slice (some ⟨b, off, none⟩) l.length c) := z2
            replace z2' : wr.cell? ⟨w1.heap.size, 2, none⟩ = some (.slice (some ⟨b', off', none⟩) l'.length c') := z2'
            have K0 : Hid (∀ d os, Calls Tryz.prog 19 #[.agg #[.int .i64 y.kind, .string y.name, .slice Ay y.args.length cy], .agg #[.int .i64 y'.kind, .string y'.name, .slice Ay' y'.args.length cy']] (grow (redrawn wr d) os) fun e w' => e = .returned (.bool (zsk y y')) ∧ ∃ p : Regrown, w' = grow (redrawn wr p.d) p.os) :=
              Lib.hid (fun d os => Calls.regrown_of (by have t := HI.out y (List.mem_of_getElem? hget) y' Ay cy Ay' cy' (grow (redrawn wr d) os) (r5.belows (below_regrown wr d os)) (r5'.belows (below_regrown wr d os)); exact t))
            have o0 := fun d os => cell_regrown p0 d os
            have o1 := fun d os => cell_regrown p1 d os
            have o2 := fun d os => cell_regrown p2 d os
            have o3 := fun d os => cell_regrown p0' d os
            have o4 := fun d os => cell_regrown p1' d os
            have o5 := fun d os => cell_regrown p2' d os
            have o6 := fun d os => cell_regrown z2 d os
            have o7 := fun d os => cell_regrown z2' d os
            clear HA r5 r5' hget hget' hlb hlb'
            obtain ⟨v, hv⟩ : ∃ v, zsk y y' = v := ⟨_, rfl⟩
            rw [hv] at q K0
            have HQ := Lib.hid q
            clear q hv
            go_wp2_with fail
            refine wp_region_quiet_below (by kernel_rfl) (by kernel_rfl) ?_
            repeat (go_big_quiet_step (first | with_reducible exact K0.out _ _))
            refine wpQuiet_nil ?_
            intro _ hw'
            obtain ⟨⟨dq, osq⟩, hw''⟩ := hw'
            subst hw''
            have HD2 := Lib.hid (zab HD.out (below_regrown wr dq osq) HD.out.size)
            have HBL := Lib.hid (zab HBW.out (below_regrown wr dq osq) HBW.out.size)
            cases v with
            | false =>
              go_wp2_with fail
              go_ret
              exact ⟨by rw [← HQ.out]; rfl, HBL.out⟩
            | true =>
              go_wp2_with fail
              exact ⟨⟨i + 1, by omega, by go_num, Lib.hid (by have q := HQ.out; simpa using q), HD2⟩, by simp [intOf]; omega⟩
          · have HQ : Hid (true = r) := Lib.hid (by
              have q := HA.out
              rw [List.drop_eq_nil_of_le (by omega), sameTs_nil] at q
              exact q)
            clear HA
            go_wp2_with fail
            go_ret
            exact ⟨by rw [← HQ.out]; rfl, HBW.out⟩
      · have ell : ((l.length : Int) != (l'.length : Int)) = true := by simp; omega
        rw [decide_eq_false hll]
        clear hk hm hll
        go_enter Tryz.func19, Tryz.ntmps19
        go_wp2_with fail
        go_ret
        exact ⟨rfl, HB.out⟩
    · have em := zez hm
      rw [decide_eq_false hm]
      clear hk hm
      go_enter Tryz.func19, Tryz.ntmps19
      go_wp2_with fail
      go_ret
      exact ⟨rfl, HB.out⟩
  · have ek : (k != k') = true := by rw [bne_iff_ne]; exact hk
    rw [decide_eq_false hk]
    clear hk
    go_enter Tryz.func19, Tryz.ntmps19
    go_wp2_with fail
    go_ret
    exact ⟨rfl, HB.out⟩
theorem same_any : ∀ t : Ty, SmAt t
  | .mk k n a => sm_step k n a (fun x _hx => same_any x)
end Go.Proofs.YtjdpocmlimkjjaaGreat

namespace Go.Proofs.YtjdpocmlimkjjaaGreat
open Go.RowKit

def WgtAt (t : Ty) : Prop := ∀ (d : Int) (A : Option Addr) (c : Nat) (w : World), -1 ≤ d → d ≤ 100 → t.bsz ≤ 4194304 → Rd (Lt w.heap.size) w (ys t.args) (.slice A t.args.length c) →
  Calls Tryz.prog 41 #[.agg #[.int .i64 t.kind, .string t.name, .slice A t.args.length c], .int .i64 d] w fun e w' => e = .returned (.int .i64 (weightT t d)) ∧ Below w.heap.size w w'
set_option maxHeartbeats 8000000 in
set_option maxRecDepth 100000 in
theorem wgt_step (k : Int) (nm : ByteArray) (l : List Ty) (IH : ∀ t ∈ l, WgtAt t) : WgtAt (.mk k nm l) := by
  intro d A c w hd1 hd2 hsz h
  replace h : Rd (Lt w.heap.size) w (ys l) (.slice A l.length c) := h
  show Calls Tryz.prog 41 #[.agg #[.int .i64 k, .string nm, .slice A l.length c], .int .i64 d] w fun e w' => e = .returned (.int .i64 (weightT (.mk k nm l) d)) ∧ Below w.heap.size w w'
  rw [bsz_mk] at hsz
  have hbl := bsz_len l
  have hwl := weightL_le l 100 (d - 1)
  rw [weightT]
  have hl := zmv h
  have hn : l.length ≤ 9223372036854775807 := Nat.le_trans hl.2.1 hl.2.2
  have b1 := zag w (.cells #[.int .i64 k, .string nm, .slice A l.length c] 55)
  have c1 := zac.new w #[.int .i64 k, .string nm, .slice A l.length c] 55
  obtain ⟨w1, h1⟩ : ∃ W, w.alloc (.cells #[.int .i64 k, .string nm, .slice A l.length c] 55) = W := ⟨_, rfl⟩
  rw [h1] at b1 c1
  have x1 : w1.cell? ⟨w.heap.size, 1, none⟩ = some (.string nm) := c1.cell 1
  have x2 : w1.cell? ⟨w.heap.size, 2, none⟩ = some (.slice A l.length c) := c1.cell 2
  have HC := Lib.hid c1
  have HB1 := Lib.hid b1
  have HR := Lib.hid h
  have HI := Lib.hid IH
  have hw0 : IntKind.i64.wrap (1 + (nm.size : Int)) = 1 + (nm.size : Int) := IntWalk.i64_in _ (by omega)
  clear b1 c1 hl h IH
  by_cases hd : d < 0
  · rw [if_pos hd]
    go_enter Tryz.func41, Tryz.ntmps41
    go_wp2_with fail
    go_ret
    exact ⟨rfl, HB1.out⟩
  · rw [if_neg hd]
    have hwd : IntKind.i64.wrap (d - 1) = d - 1 := IntWalk.i64_in _ (by omega)
    obtain ⟨T, hT⟩ : ∃ T, (1 + (nm.size : Int)) + weightL l 100 (d - 1) = T := ⟨_, rfl⟩
    have HA0 : Hid (∃ v : Int, 1 + (nm.size : Int) = v ∧ 0 ≤ v ∧ v + weightL (l.drop 0) (100 - 0) (d - 1) = T) := Lib.hid ⟨_, rfl, by omega, hT⟩
    have hT1 : T ≤ 1099511627776 := by omega
    have hT0 : 0 ≤ T := by omega
    rw [hT]
    clear hT hwl
    have HD0 : Hid (Below w1.heap.size w1 w1) := Lib.hid (Below.refl _ _)
    go_enter Tryz.func41, Tryz.ntmps41
    go_wp2_with fail
    clear h1 x1 x2 hw0
    go_loopw [5, 6] (fun sv s wr => ∃ (i : Nat) (v : Int), i ≤ l.length ∧ i ≤ 100 ∧ sv = .int .i64 v ∧ s = .int .i64 i ∧ 0 ≤ v ∧ Hid (v + weightL (l.drop i) (100 - i) (d - 1) = T) ∧ Hid (Below w1.heap.size w1 wr)) (fun _ s _ => l.length - (intOf s).toNat)
    case atStart =>
      obtain ⟨v, rfl, hv, hq⟩ := HA0.out
      exact ⟨0, _, by omega, by omega, rfl, rfl, hv, Lib.hid hq, HD0⟩
    case round =>
      clear HA0 HD0
      obtain ⟨i, v, hi, hi2, rfl, rfl, hv, HA, HD⟩ := hrel
      have sB := HD.out.size
      have HBW := Lib.hid (zab HB1.out HD.out HB1.out.size)
      have z2 : wr.cell? ⟨w.heap.size, 2, none⟩ = some (.slice A l.length c) := (zaa HD.out HC.out).cell 2
      by_cases hlt : i < l.length
      · have hin : (i : Int) < l.length := by omega
        by_cases h100 : i < 100
        · have hin2 : (i : Int) < 100 := by omega
          obtain ⟨b, off, y, e, hlb, hget, Ay, cy, p0, p1, p2, r5⟩ := zjY (HR.out.belows HBW.out) hlt
          subst e
          have q := HA.out
          rw [zak hget, show 100 - i = (100 - (i + 1)) + 1 by omega, weightL_cons] at q
          have hm := List.mem_of_getElem? hget
          have hy := bsz_mem hm
          have hw1 := weightT_le y (d - 1)
          have hw2 := weightL_le (l.drop (i + 1)) (100 - (i + 1)) (d - 1)
          have KU := Lib.hid (HI.out y hm (d - 1) Ay cy wr (by omega) (by omega) (by omega) (r5.belows (Below.refl _ _)))
          obtain ⟨x, hx⟩ : ∃ x, weightT y (d - 1) = x := ⟨_, rfl⟩
          rw [hx] at q KU hw1
          have hwx : IntKind.i64.wrap (v + x) = v + x := IntWalk.i64_in _ (by omega)
          have HQ := Lib.hid (show (v + x) + weightL (l.drop (i + 1)) (100 - (i + 1)) (d - 1) = T by omega)
          have hvx : 0 ≤ v + x := by omega
          clear HA r5 hget hlb q hx hm hw1 hw2 hy
          go_wp2_with fail
          (with_reducible refine KU.out.mono ?_)
          rintro e w4 ⟨rfl, hb4⟩
          have HD2 := Lib.hid (zab HD.out hb4 HD.out.size)
          clear hb4
          go_wp2_with fail
          exact ⟨⟨i + 1, v + x, by omega, by omega, rfl, by go_num, hvx, HQ, HD2⟩, by simp [intOf]; omega⟩
        · have hq : v = T := by
            have q := HA.out
            rw [show 100 - i = 0 by omega, weightL_zero] at q
            omega
          have hin2 : ¬ (i : Int) < 100 := by omega
          have hmx : IntKind.i64.wrap ((l.length : Int) - 100) = (l.length : Int) - 100 := IntWalk.i64_in _ (by omega)
          have hmy : IntKind.i64.wrap (1000 * max 0 ((l.length : Int) - 100)) = 1000 * max 0 ((l.length : Int) - 100) := IntWalk.i64_in _ (by omega)
          have hmz : IntKind.i64.wrap (T + 1000 * max 0 ((l.length : Int) - 100)) = T + 1000 * max 0 ((l.length : Int) - 100) := IntWalk.i64_in _ (by omega)
          clear HA
          subst hq
          go_wp2_with fail
          all_goals
            go_ret
            refine ⟨?_, HBW.out⟩
            show Ending.returned (Value.int .i64 _) = Ending.returned (Value.int .i64 _)
            congr 2 <;> omega
      · have hq : v = T := by
          have q := HA.out
          rw [List.drop_eq_nil_of_le (by omega), weightL_nil] at q
          omega
        have hmx : IntKind.i64.wrap ((l.length : Int) - 100) = (l.length : Int) - 100 := IntWalk.i64_in _ (by omega)
        have hmy : IntKind.i64.wrap (1000 * max 0 ((l.length : Int) - 100)) = 1000 * max 0 ((l.length : Int) - 100) := IntWalk.i64_in _ (by omega)
        have hmz : IntKind.i64.wrap (T + 1000 * max 0 ((l.length : Int) - 100)) = T + 1000 * max 0 ((l.length : Int) - 100) := IntWalk.i64_in _ (by omega)
        clear HA
        subst hq
        go_wp2_with fail
        all_goals
          go_ret
          refine ⟨?_, HBW.out⟩
          show Ending.returned (Value.int .i64 _) = Ending.returned (Value.int .i64 _)
          congr 2 <;> omega
theorem weight_any : ∀ t : Ty, WgtAt t
  | .mk k n a => wgt_step k n a (fun x _hx => weight_any x)
set_option maxRecDepth 100000 in
theorem fewT_any (t : Ty) (A : Option Addr) (c : Nat) (w : World) (hsz : t.bsz ≤ 4194304) (h : Rd (Lt w.heap.size) w (ys t.args) (.slice A t.args.length c)) :
    Calls Tryz.prog 13 #[.agg #[.int .i64 t.kind, .string t.name, .slice A t.args.length c]] w fun e w' => e = .returned (.bool (decide (weightT t 12 ≤ 260))) ∧ Below w.heap.size w w' := by
  have b1 := zag w (.cells #[.int .i64 t.kind, .string t.name, .slice A t.args.length c] 55)
  have c1 := zac.new w #[.int .i64 t.kind, .string t.name, .slice A t.args.length c] 55
  obtain ⟨w1, h1⟩ : ∃ W, w.alloc (.cells #[.int .i64 t.kind, .string t.name, .slice A t.args.length c] 55) = W := ⟨_, rfl⟩
  rw [h1] at b1 c1
  have x0 : w1.cell? ⟨w.heap.size, 0, none⟩ = some (.int .i64 t.kind) := c1.cell 0
  have x1 : w1.cell? ⟨w.heap.size, 1, none⟩ = some (.string t.name) := c1.cell 1
  have x2 : w1.cell? ⟨w.heap.size, 2, none⟩ = some (.slice A t.args.length c) := c1.cell 2
  have K := Lib.hid (weight_any t 12 A c w1 (by omega) (by omega) hsz (h.belows b1))
  have HB1 := Lib.hid b1
  clear b1 c1 h
  go_enter Tryz.func13, Tryz.ntmps13
  go_wp2_with fail
  (with_reducible refine K.out.mono ?_)
  rintro e w2 ⟨rfl, hb⟩
  have HB2 := Lib.hid (zab HB1.out hb HB1.out.size)
  clear hb
  go_wp2_with fail
  go_ret
  exact ⟨rfl, HB2.out⟩
end Go.Proofs.YtjdpocmlimkjjaaGreat

namespace Go.Proofs.YtjdpocmlimkjjaaGreat
open Go.RowKit

theorem fit_bsz : ∀ t : Ty, t.bsz ≤ 2097152 → t.fit = true
  | .mk k n a => fun h => by
    rw [bsz_mk] at h
    have hl : ∀ l : List Ty, bszL l ≤ 2097152 → (∀ x ∈ l, x.bsz ≤ 2097152 → x.fit = true) → zlZ l = true := by
      intro l
      induction l with
      | nil => intro _ _; rw [zlZ]
      | cons x r ih =>
        intro h1 h2
        rw [bszL_cons] at h1
        rw [zlZ, h2 x (by simp) (by omega), ih (by omega) (fun y hy => h2 y (by simp [hy]))]
        rfl
    rw [Ty.fit, decide_eq_true (by omega), hl a (by omega) (fun x _hx => fit_bsz x)]
    rfl
theorem src_node {s : ByteArray} {a0 a1 a2 : Int} {N : Nd} (h : zdC s = .ok (.mk 1 ⟨#[]⟩ 0 0 [.mk 4 (⟨#[101]⟩ : ByteArray) 0 a0 [.mk 7 (⟨#[120]⟩ : ByteArray) 0 a1 [N], .mk 12 (⟨#[117, 110, 105, 116]⟩ : ByteArray) 0 a2 []]])) : N.fit = true ∧ N.size ≤ 2097152 := by
  obtain ⟨l, hl, hf, hs, _⟩ := zeV h
  injection hl with _ _ _ _ hl
  subst hl
  have f1 := zay (zaM hf (List.mem_cons_self ..))
  have f2 := zay (zaM f1 (List.mem_cons_self ..))
  refine ⟨zaM f2 (List.mem_cons_self ..), ?_⟩
  rw [zat, zaE, zat, zaE, zat] at hs
  omega
set_option maxHeartbeats 16000000 in
set_option maxRecDepth 100000 in
theorem law_back (t : Ty) (A : Option Addr) (c : Nat) (w : World) (hsz : t.bsz ≤ 4194304) (h : Rd (Lt w.heap.size) w (ys t.args) (.slice A t.args.length c)) :
    Calls Tryz.prog 5 #[.agg #[.int .i64 t.kind, .string t.name, .slice A t.args.length c]] w fun e w' => e = .returned (.bool true) ∧ Below w.heap.size w w' := by
  have b1 := zag w (.cells #[.int .i64 t.kind, .string t.name, .slice A t.args.length c] 55)
  have c1 := zac.new w #[.int .i64 t.kind, .string t.name, .slice A t.args.length c] 55
  obtain ⟨w1, h1⟩ : ∃ W, w.alloc (.cells #[.int .i64 t.kind, .string t.name, .slice A t.args.length c] 55) = W := ⟨_, rfl⟩
  rw [h1] at b1 c1
  have HC1 := Lib.hid c1
  have HB1 := Lib.hid b1
  have HR := Lib.hid h
  have KM := Lib.hid (zoS w1)
  clear b1 c1 h
  go_enter Tryz.func5, Tryz.ntmps5
  go_wp2_with fail
  clear h1
  (with_reducible refine KM.out.mono ?_)
  rintro e w2 ⟨rfl, hb⟩
  have HC2 := Lib.hid (zaa hb HC1.out)
  have HB2 := Lib.hid (zab HB1.out hb HB1.out.size)
  have HW2 := Lib.hid (zab HB1.out hb HB1.out.size)
  clear hb HC1 HB1 KM
  have x0 : w2.cell? ⟨w.heap.size, 0, none⟩ = some (.int .i64 t.kind) := HC2.out.cell 0
  have x1 : w2.cell? ⟨w.heap.size, 1, none⟩ = some (.string t.name) := HC2.out.cell 1
  have x2 : w2.cell? ⟨w.heap.size, 2, none⟩ = some (.slice A t.args.length c) := HC2.out.cell 2
  have KF := Lib.hid (fewT_any t A c w2 hsz (HR.out.belows HB2.out))
  go_wp2_with fail
  (with_reducible refine KF.out.mono ?_)
  rintro e w3 ⟨rfl, hb⟩
  have HC3 := Lib.hid (zaa hb HC2.out)
  have HB3 := Lib.hid (zab HB2.out hb HB2.out.size)
  clear hb HC2 HB2 HW2 KF x0 x1 x2
  by_cases hfew : weightT t 12 ≤ 260
  · rw [decide_eq_true hfew]
    obtain ⟨hbz, hhg⟩ := few_of t 12 (by omega) hfew
    have hb260 : t.bsz ≤ 260 := by omega
    have hh13 : t.hgt ≤ 13 := by omega
    have hft := fit_bsz t (by omega)
    have hsl := (show_len t).1
    clear hfew hbz hhg
    have x0 : w3.cell? ⟨w.heap.size, 0, none⟩ = some (.int .i64 t.kind) := HC3.out.cell 0
    have x1 : w3.cell? ⟨w.heap.size, 1, none⟩ = some (.string t.name) := HC3.out.cell 1
    have x2 : w3.cell? ⟨w.heap.size, 2, none⟩ = some (.slice A t.args.length c) := HC3.out.cell 2
    have KS := Lib.hid (zmm t A c w3 hft (by omega) (HR.out.belows HB3.out))
    go_wp2_with fail
    (with_reducible refine KS.out.mono ?_)
    rintro e w4 ⟨rfl, hb⟩
    have HC4 := Lib.hid (zaa hb HC3.out)
    have HB4 := Lib.hid (zab HB3.out hb HB3.out.size)
    clear hb HC3 HB3 KS x0 x1 x2
    have x0 : w4.cell? ⟨w.heap.size, 0, none⟩ = some (.int .i64 t.kind) := HC4.out.cell 0
    have x1 : w4.cell? ⟨w.heap.size, 1, none⟩ = some (.string t.name) := HC4.out.cell 1
    have x2 : w4.cell? ⟨w.heap.size, 2, none⟩ = some (.slice A t.args.length c) := HC4.out.cell 2
    have KFm := Lib.hid (zhn t A c w4 hft (HR.out.belows HB4.out))
    go_wp2_with fail
    (with_reducible refine KFm.out.mono ?_)
    rintro e w5 ⟨rfl, hb⟩
    have HC5 := Lib.hid (zaa hb HC4.out)
    have HB5 := Lib.hid (zab HB4.out hb HB4.out.size)
    clear hb HC4 HB4 KFm x0 x1 x2
    cases hfm : zbJ t with
    | false =>
      have hs0 : zqA t = ⟨#[]⟩ := by unfold zqA; rw [hfm, if_neg (by simp)]
      rw [hs0]
      have es : ((⟨#[]⟩ : ByteArray).toList == []) = true := by kernel_rfl
      go_wp2_with fail
      go_ret
      exact ⟨rfl, HB5.out⟩
    | true =>
      have hs0 : zqA t = ⟨(zdq t).toArray⟩ := by unfold zqA; rw [hfm, if_pos rfl]
      obtain ⟨s, hs⟩ : ∃ s, zqA t = s := ⟨_, rfl⟩
      rw [hs]
      have hsd : s.data.toList = zdq t := by rw [← hs, hs0]
      have HS := Lib.hid hs
      clear hs hs0
      obtain ⟨src, hsrc⟩ : ∃ src : ByteArray, (⟨#[101, 102, 102, 101, 99, 116, 32, 101, 40, 120, 58, 32]⟩ : ByteArray) ++ s ++ (⟨#[41, 58, 32, 117, 110, 105, 116]⟩ : ByteArray) = src := ⟨_, rfl⟩
      have hlist : src.data.toList = [101, 102, 102, 101, 99, 116, 32, 101, 40, 120, 58, 32] ++ (zdq t ++ [41, 58, 32, 117, 110, 105, 116]) := by
        rw [← hsrc, ← hsd]
        simp [ByteArray.data_append]
      obtain ⟨a0, a1, a2, N, hp, hr⟩ := src_parse t hfm hb260 hh13 src hlist
      obtain ⟨hNf, hNs⟩ := src_node hp
      have KP := fun (W : World) => zkP src W
      unfold zhi at KP
      rw [hp] at KP
      obtain ⟨k2, hk2⟩ : ∃ k : Nd, Nd.mk 12 (⟨#[117, 110, 105, 116]⟩ : ByteArray) 0 a2 [] = k := ⟨_, rfl⟩
      rw [hk2] at KP
      have HP : Hid (∀ W : World, Calls Tryz.prog 7 #[.string src] W fun e w' => Below W.heap.size W w' ∧ ∃ A c, e = .returned (.tuple #[.agg #[.int .i64 1, .string ⟨#[]⟩, .int .i64 0, .int .i64 0, .slice A 1 c], .int .i64 0, .int .i64 0]) ∧ Rd (Bt W.heap.size w'.heap.size) w' (ns [.mk 4 (⟨#[101]⟩ : ByteArray) 0 a0 [.mk 7 (⟨#[120]⟩ : ByteArray) 0 a1 [N], k2]]) (.slice A 1 c)) := Lib.hid KP
      clear hk2
      have hs1 : s.size ≤ 4000 := by rw [← size_list, hsd]; omega
      have hs2 : ((⟨#[101, 102, 102, 101, 99, 116, 32, 101, 40, 120, 58, 32]⟩ : ByteArray) ++ s).size ≤ 4012 := by rw [ByteArray.size_append]; show 12 + s.size ≤ _; omega
      clear KP hp hlist hfm
      go_wp2_with fail
      (refine (HP.out w5).mono ?_)
      rintro e w6 ⟨hb, A6, c6, rfl, hR6⟩
      have HC6 := Lib.hid (zaa hb HC5.out)
      have HB6 := Lib.hid (zab HB5.out hb HB5.out.size)
      obtain ⟨B6, o6, x6, e6, l6, hx6, A7, c7, p0, p1, p2, p3, p4, hR7⟩ := zbN hR6 (i := 0) (by simp)
      obtain rfl : Nd.mk 4 (⟨#[101]⟩ : ByteArray) 0 a0 [.mk 7 (⟨#[120]⟩ : ByteArray) 0 a1 [N], k2] = x6 := by simpa using hx6
      replace p4 : w6.cell? ⟨B6, o6 + 0 * 5 + 4, none⟩ = some (.slice A7 2 c7) := p4
      replace hR7 : Rd (Bt w5.heap.size w6.heap.size) w6 (ns [.mk 7 (⟨#[120]⟩ : ByteArray) 0 a1 [N], k2]) (.slice A7 2 c7) := hR7
      obtain ⟨B7, o7, x7, e7, l7, hx7, A8, c8, q0, q1, q2, q3, q4, hR8⟩ := zbN hR7 (i := 0) (by simp)
      obtain rfl : Nd.mk 7 (⟨#[120]⟩ : ByteArray) 0 a1 [N] = x7 := by simpa using hx7
      replace q4 : w6.cell? ⟨B7, o7 + 0 * 5 + 4, none⟩ = some (.slice A8 1 c8) := q4
      replace hR8 : Rd (Bt w5.heap.size w6.heap.size) w6 (ns [N]) (.slice A8 1 c8) := hR8
      obtain ⟨B8, o8, x8, e8, l8, hx8, A9, c9, r0, r1, r2, r3, r4, hR9⟩ := zbN hR8 (i := 0) (by simp)
      obtain rfl : N = x8 := by simpa using hx8
      rw [Nat.zero_mul, Nat.add_zero] at p4 q4 r0 r1 r2 r3 r4
      subst e6 e7 e8
      have hb7 := zag w6 (.cells #[.int .i64 1, .string ⟨#[]⟩, .int .i64 0, .int .i64 0, .slice (some ⟨B6, o6, none⟩) 1 c6] 25)
      have c7x := zac.new w6 #[.int .i64 1, .string ⟨#[]⟩, .int .i64 0, .int .i64 0, .slice (some ⟨B6, o6, none⟩) 1 c6] 25
      obtain ⟨w7, h7⟩ : ∃ W, w6.alloc (.cells #[.int .i64 1, .string ⟨#[]⟩, .int .i64 0, .int .i64 0, .slice (some ⟨B6, o6, none⟩) 1 c6] 25) = W := ⟨_, rfl⟩
      rw [h7] at hb7 c7x
      have y4 : w7.cell? ⟨w6.heap.size, 4, none⟩ = some (.slice (some ⟨B6, o6, none⟩) 1 c6) := c7x.cell 4
      replace p4 := (hb7.cell (p := ⟨B6, o6 + 4, none⟩) l6.2).trans p4
      replace q4 := (hb7.cell (p := ⟨B7, o7 + 4, none⟩) l7.2).trans q4
      replace r0 := (hb7.cell (p := ⟨B8, o8, none⟩) l8.2).trans r0
      replace r1 := (hb7.cell (p := ⟨B8, o8 + 1, none⟩) l8.2).trans r1
      replace r2 := (hb7.cell (p := ⟨B8, o8 + 2, none⟩) l8.2).trans r2
      replace r3 := (hb7.cell (p := ⟨B8, o8 + 3, none⟩) l8.2).trans r3
      replace r4 := (hb7.cell (p := ⟨B8, o8 + 4, none⟩) l8.2).trans r4
      have KR := Lib.hid (zpU N A9 c9 w7 hNf hNs ((hR9.weaken (fun b hb => hb.2)).belows hb7))
      have HC7 := Lib.hid (zaa hb7 HC6.out)
      have HB7 := Lib.hid (zab HB6.out hb7 HB6.out.size)
      clear hb hb7 c7x HC5 HB5 HC6 HB6 HP hR6 hR7 hR8 hR9 p0 p1 p2 p3 q0 q1 q2 q3 hx6 hx7 hx8 hs1 hs2 l6 l7 l8
      go_wp2_with fail
      clear h7
      (refine KR.out.mono ?_)
      rintro e w8 ⟨hb, hp⟩
      rw [hr] at hp
      obtain ⟨Au, cu, rfl, hRu⟩ := hp
      have hC8 := zaa hb HC7.out
      have hB8 := zab HB7.out hb HB7.out.size
      have hb9 := zag w8 (.cells #[.int .i64 t.kind, .string t.name, .slice Au t.args.length cu] 55)
      have c9x := zac.new w8 #[.int .i64 t.kind, .string t.name, .slice Au t.args.length cu] 55
      obtain ⟨w9, h9⟩ : ∃ W, w8.alloc (.cells #[.int .i64 t.kind, .string t.name, .slice Au t.args.length cu] 55) = W := ⟨_, rfl⟩
      rw [h9] at hb9 c9x
      have HC9 := Lib.hid (zaa hb9 hC8)
      have HB9 := Lib.hid (zab hB8 hb9 hB8.size)
      have HU9 := Lib.hid c9x
      have HRu := Lib.hid ((hRu.weaken (fun b hb => hb.2)).belows hb9)
      clear hb hb9 c9x hC8 hB8 hRu hr KR HC7 HB7 y4 p4 q4 r0 r1 r2 r3 r4
      have x0 : w9.cell? ⟨w.heap.size, 0, none⟩ = some (.int .i64 t.kind) := HC9.out.cell 0
      have x1 : w9.cell? ⟨w.heap.size, 1, none⟩ = some (.string t.name) := HC9.out.cell 1
      have x2 : w9.cell? ⟨w.heap.size, 2, none⟩ = some (.slice A t.args.length c) := HC9.out.cell 2
      have z0 : w9.cell? ⟨w8.heap.size, 0, none⟩ = some (.int .i64 t.kind) := HU9.out.cell 0
      have z1 : w9.cell? ⟨w8.heap.size, 1, none⟩ = some (.string t.name) := HU9.out.cell 1
      have z2 : w9.cell? ⟨w8.heap.size, 2, none⟩ = some (.slice Au t.args.length cu) := HU9.out.cell 2
      have K1 := Lib.hid (same_any t t A c Au cu w9 (HR.out.belows HB9.out) HRu.out)
      rw [same_self] at K1
      go_wp2_with fail
      clear h9
      (with_reducible refine K1.out.mono ?_)
      rintro e wa ⟨rfl, hb⟩
      have HCa := Lib.hid (zaa hb HC9.out)
      have HBa := Lib.hid (zab HB9.out hb HB9.out.size)
      have HUa := Lib.hid (zaa hb HU9.out)
      have HRa := Lib.hid (HRu.out.belows hb)
      clear hb K1 HC9 HB9 HU9 HRu x0 x1 x2 z0 z1 z2
      have x0 : wa.cell? ⟨w.heap.size, 0, none⟩ = some (.int .i64 t.kind) := HCa.out.cell 0
      have x1 : wa.cell? ⟨w.heap.size, 1, none⟩ = some (.string t.name) := HCa.out.cell 1
      have x2 : wa.cell? ⟨w.heap.size, 2, none⟩ = some (.slice A t.args.length c) := HCa.out.cell 2
      have z0 : wa.cell? ⟨w8.heap.size, 0, none⟩ = some (.int .i64 t.kind) := HUa.out.cell 0
      have z1 : wa.cell? ⟨w8.heap.size, 1, none⟩ = some (.string t.name) := HUa.out.cell 1
      have z2 : wa.cell? ⟨w8.heap.size, 2, none⟩ = some (.slice Au t.args.length cu) := HUa.out.cell 2
      have K1 := Lib.hid (same_any t t Au cu A c wa HRa.out (HR.out.belows HBa.out))
      rw [same_self] at K1
      go_wp2_with fail
      (with_reducible refine K1.out.mono ?_)
      rintro e wb ⟨rfl, hb⟩
      have HBb := Lib.hid (zab HBa.out hb HBa.out.size)
      have HUb := Lib.hid (zaa hb HUa.out)
      have HRb := Lib.hid (HRa.out.belows hb)
      clear hb K1 HCa HBa HUa HRa x0 x1 x2 z0 z1 z2
      have z0 : wb.cell? ⟨w8.heap.size, 0, none⟩ = some (.int .i64 t.kind) := HUb.out.cell 0
      have z1 : wb.cell? ⟨w8.heap.size, 1, none⟩ = some (.string t.name) := HUb.out.cell 1
      have z2 : wb.cell? ⟨w8.heap.size, 2, none⟩ = some (.slice Au t.args.length cu) := HUb.out.cell 2
      have KS := Lib.hid (zmm t Au cu wb hft (by omega) HRb.out)
      rw [HS.out] at KS
      have es : (s.toList == s.toList) = true := by simp
      go_wp2_with fail
      (with_reducible refine KS.out.mono ?_)
      rintro e wc ⟨rfl, hb⟩
      have HBc := Lib.hid (zab HBb.out hb HBb.out.size)
      clear hb
      go_wp2_with fail
      go_ret
      exact ⟨rfl, HBc.out⟩
  · rw [decide_eq_false hfew]
    go_wp2_with fail
    go_ret
    exact ⟨rfl, HB3.out⟩
end Go.Proofs.YtjdpocmlimkjjaaGreat

namespace Go.Proofs.YtjdpocmlimkjjaaGreat
open Go.RowKit

theorem list_of {α : Type} {p : Nat → α → Prop} : ∀ n : Nat, (∀ i, i < n → ∃ a, p i a) → ∃ l : List α, l.length = n ∧ ∀ i a, l[i]? = some a → p i a
  | 0, _ => ⟨[], rfl, fun i a h => by simp at h⟩
  | n + 1, h => by
    obtain ⟨l, h1, h2⟩ := list_of n (fun i hi => h i (by omega))
    obtain ⟨a, ha⟩ := h n (by omega)
    refine ⟨l ++ [a], by simp [h1], fun i b hb => ?_⟩
    rcases Nat.lt_or_ge i n with hi | hi
    · rw [List.getElem?_append_left (by omega)] at hb
      exact h2 i b hb
    · rw [List.getElem?_append_right (by omega)] at hb
      have hl := (List.getElem?_eq_some_iff.1 hb).1
      simp at hl
      obtain rfl : i = n := by omega
      rw [h1, Nat.sub_self] at hb
      simp at hb
      rw [← hb]; exact ha
theorem sum_le {α β : Type} (f : α → Nat) (g : β → Nat) : ∀ (l : List α) (m : List β), l.length = m.length → (∀ (i : Nat) (a : α) (b : β), l[i]? = some a → m[i]? = some b → f a ≤ g b) → (l.map f).sum ≤ (m.map g).sum
  | [], m, h, _ => by simp
  | a :: l, [], h, _ => by simp at h
  | a :: l, b :: m, h, hf => by
    have h1 := hf 0 a b rfl rfl
    have h2 := sum_le f g l m (by simpa using h) (fun i x y hx hy => hf (i + 1) x y (by simpa using hx) (by simpa using hy))
    simp only [List.map_cons, List.sum_cons]; omega
theorem bulkAll_sum {H : Type} : ∀ l : List (DataW H), Rows.uptoBulkAll l = (l.map Rows.uptoBulk).sum
  | [] => by simp [Rows.uptoBulkAll]
  | d :: r => by simp [Rows.uptoBulkAll, bulkAll_sum r]

section
variable {H : Type} {enc : TypeId × Value → H} {W : World}
/-- cells read by place -/
theorem cells_at {a : Addr} {n : Nat} {cs : List Value} (h : W.cells? 0 a n = some cs) : cs.length = n ∧ ∀ j u, cs[j]? = some u → W.cell? (a.add j) = some u := by
  obtain ⟨_, h1, h2⟩ := World.cells?_some h
  refine ⟨h1, fun j u hj => ?_⟩
  have hl : j < cs.length := (List.getElem?_eq_some_iff.1 hj).1
  rw [h2 j (by omega)]; exact hj
theorem open_rows {t e : TypeId} {k n : Nat} {cs : List Value} {x : DataW H × List MemPlace} (ht : Tryz.prog.underlying t = some (.slice e)) (hc : Tryz.prog.cellsOf e = k) (hk : 0 < k) {α : Type} (row : α → Nat → D) (rows : List α → Nat → Nat → D) (hrows : ∀ l i a, l[i]? = some a → rows l i = row a) (bulk : α → Nat) (Q : α → Prop)
    (helem : ∀ cs x, DataW.trod enc Tryz.prog W 0 (fun _ => true) true n e cs = some x → ∃ a : α, (∀ j u, cs[j]? = some u → Rd (Lt W.heap.size) W (row a j) u) ∧ bulk a ≤ Rows.uptoBulk x.1 ∧ Q a)
    (h : DataW.trod enc Tryz.prog W 0 (fun _ => true) true (n + 1) t cs = some x) :
    ∃ A c, ∃ l : List α, cs = [.slice A l.length c] ∧ Rd (Lt W.heap.size) W (.sl k l.length (rows l)) (.slice A l.length c) ∧ (l.map bulk).sum + 1 ≤ Rows.uptoBulk x.1 ∧ ∀ a ∈ l, Q a := by
  rcases DataW.trod_slice ht h with ⟨rfl, rfl⟩ | ⟨a, len, cap, elems, rest, m, hm, rfl, rfl, _, hl, hcm, hel, hat, _, _⟩
  · exact ⟨none, 0, [], rfl, Rd.sl_nil, by simp [Rows.uptoBulk], fun a ha => absurd ha (by simp)⟩
  · obtain rfl : n = m := by omega
    rw [hc] at hat
    have each : ∀ i, i < len → ∃ b : α, (∀ j, j < k → ∃ u, W.cell? ((a.add (i * k)).add j) = some u ∧ Rd (Lt W.heap.size) W (row b j) u) ∧ (∀ y, elems[i]? = some y → bulk b ≤ Rows.uptoBulk y.1) ∧ Q b := fun i hi => by
      have h1 := hat i hi
      have hi2 : elems[i]? = some elems[i] := List.getElem?_eq_getElem (by omega)
      rw [hi2] at h1
      obtain ⟨cs', h2, h3⟩ := Option.bind_eq_some_iff.1 h1
      obtain ⟨hl2, hce⟩ := cells_at h2
      obtain ⟨b, hb1, hb2, hb3⟩ := helem cs' _ h3
      refine ⟨b, fun j hj => ?_, fun y hy => ?_, hb3⟩
      · have hu : cs'[j]? = some (cs'[j]'(by omega)) := List.getElem?_eq_getElem (by omega)
        exact ⟨_, hce j _ hu, hb1 j _ hu⟩
      · rw [hi2] at hy; rw [← Option.some.inj hy]; exact hb2
    obtain ⟨l, hll, hlp⟩ := list_of len each
    subst hll
    refine ⟨some a, cap, l, rfl, ?_, ?_, fun b hb => ?_⟩
    · refine Rd.sl_mk hl (by unfold maxLen at hcm; exact hcm) fun hpos => ?_
      have h0 : l[0]? = some l[0] := List.getElem?_eq_getElem hpos
      obtain ⟨u, hu, _⟩ := (hlp 0 _ h0).1 0 hk
      have ha0 : (a.add (0 * k)).add 0 = a := by simp [Addr.add]
      rw [ha0] at hu
      have hsp : a.spot = none := by
        unfold World.cell? at hu
        split at hu
        · split at hu
          · cases hu
          · rename_i h; simpa using h
        · cases hu
      obtain ⟨ab, ao, asp⟩ := a
      have hsp : asp = none := hsp
      subst hsp
      refine ⟨ab, ao, rfl, World.block_lt_of_cell? W _ hu, fun i hi j hj => ?_⟩
      have hi2 : l[i]? = some l[i] := List.getElem?_eq_getElem hi
      obtain ⟨u, hu, hd⟩ := (hlp i _ hi2).1 j hj
      rw [Addr.add_lit, Addr.add_lit] at hu
      exact ⟨u, hu, by rw [hrows l i _ hi2]; exact hd⟩
    · have := sum_le bulk (fun y : DataW H × List MemPlace => Rows.uptoBulk y.1) l elems (by omega) (fun i b y hb hy => (hlp i b hb).2.1 y hy)
      simp only [Rows.uptoBulk, bulkAll_sum, List.map_map]
      have h2 : (elems.map (Rows.uptoBulk ∘ fun y => y.1)).sum = (elems.map fun y : DataW H × List MemPlace => Rows.uptoBulk y.1).sum := rfl
      rw [h2]; omega
    · obtain ⟨i, hi⟩ := List.mem_iff_getElem?.1 hb
      exact (hlp i b hi).2.2
theorem take1 {l : List Value} {k : Nat} {v : Value} (h : (l.drop k).take 1 = [v]) : l[k]? = some v := by
  have := congrArg (fun m => m[0]?) h
  simpa [List.getElem?_take, List.getElem?_drop] using this
theorem bszL_sum : ∀ l : List Ty, bszL l = (l.map Ty.bsz).sum
  | [] => by rw [bszL_nil]; rfl
  | v :: r => by rw [bszL_cons, bszL_sum r]; rfl
/-- one type, given how a slice of types opens -/
theorem open_ty (m : Nat) (ih : ∀ (cs : List Value) (x : DataW H × List MemPlace), DataW.trod enc Tryz.prog W 0 (fun _ => true) true m 53 cs = some x → ∃ A c, ∃ l : List Ty, cs = [.slice A l.length c] ∧ Rd (Lt W.heap.size) W (ys l) (.slice A l.length c) ∧ bszL l + 1 ≤ Rows.uptoBulk x.1)
    (cs : List Value) (x : DataW H × List MemPlace) (hx : DataW.trod enc Tryz.prog W 0 (fun _ => true) true (m + 1) 55 cs = some x) :
    ∃ (a : Ty) (A : Option Addr) (c : Nat), cs = [.int .i64 a.kind, .string a.name, .slice A a.args.length c] ∧ Rd (Lt W.heap.size) W (ys a.args) (.slice A a.args.length c) ∧ a.bsz ≤ Rows.uptoBulk x.1 := by
  obtain ⟨xs, m', hm, rfl, hlen, hxs, hfl⟩ := DataW.trod_struct Tryz.underlying55 hx
  obtain rfl : m = m' := by omega
  have g0 : DataW.trod enc Tryz.prog W 0 (fun _ => true) true m 3 ((cs.drop 0).take (Tryz.prog.cellsOf 3)) = xs[0]? := hfl 0 _ rfl
  have g1 : DataW.trod enc Tryz.prog W 0 (fun _ => true) true m 9 ((cs.drop 1).take (Tryz.prog.cellsOf 9)) = xs[1]? := hfl 1 _ rfl
  have g2 : DataW.trod enc Tryz.prog W 0 (fun _ => true) true m 53 ((cs.drop 2).take (Tryz.prog.cellsOf 53)) = xs[2]? := hfl 2 _ rfl
  have hs : xs.length = 3 := hxs
  obtain ⟨x0, x1, x2, rfl⟩ : ∃ x0 x1 x2, xs = [x0, x1, x2] := by
    match xs, hs with
    | [x0, x1, x2], _ => exact ⟨_, _, _, rfl⟩
  have cc3 : Tryz.prog.cellsOf 3 = 1 := by kernel_rfl
  have cc9 : Tryz.prog.cellsOf 9 = 1 := by kernel_rfl
  have cc30 : Tryz.prog.cellsOf 53 = 1 := by kernel_rfl
  obtain ⟨kd, e0, f0, w0⟩ := DataW.trod_int Tryz.underlying3 g0
  obtain ⟨t, e1, f1, _⟩ := DataW.trod_string Tryz.underlying9 g1
  obtain ⟨A', c', l', e2, r2, b2⟩ := ih _ _ g2
  rw [cc3] at e0
  rw [cc9] at e1
  rw [cc30] at e2
  have hlen : cs.length = 3 := hlen.trans (by kernel_rfl)
  refine ⟨.mk kd t l', A', c', ?_, r2, ?_⟩
  · apply List.ext_getElem?
    intro j
    match j with
    | 0 => exact take1 e0
    | 1 => exact take1 e1
    | 2 => exact take1 e2
    | j + 3 => rw [List.getElem?_eq_none (by omega), List.getElem?_eq_none (by simp)]
  · rw [bsz_mk]
    subst f0 f1
    simp only [List.map_cons, List.map_nil, Rows.uptoBulk, Rows.uptoBulkAll]
    have : t.data.toList.length = t.size := rfl
    omega
/-- a slice of types -/
theorem open_types : ∀ (N fuel : Nat), fuel ≤ N → ∀ (cs : List Value) (x : DataW H × List MemPlace), DataW.trod enc Tryz.prog W 0 (fun _ => true) true fuel 53 cs = some x →
    ∃ A c, ∃ l : List Ty, cs = [.slice A l.length c] ∧ Rd (Lt W.heap.size) W (ys l) (.slice A l.length c) ∧ bszL l + 1 ≤ Rows.uptoBulk x.1 := by
  intro N
  induction N with
  | zero =>
    intro fuel hf cs x h
    obtain rfl : fuel = 0 := by omega
    simp [DataW.trod] at h
  | succ N ih =>
    intro fuel hf cs x h
    cases fuel with
    | zero => simp [DataW.trod] at h
    | succ n =>
      obtain ⟨A, c, l, h1, h2, h3, _⟩ := open_rows (k := 3) Tryz.underlying53 (by kernel_rfl) (by omega) Ty.row znu ziv Ty.bsz (fun _ => True) (fun cs x hx => by
        cases n with
        | zero => simp [DataW.trod] at hx
        | succ m =>
          obtain ⟨a, A, c, rfl, hr, hb⟩ := open_ty m (fun cs x => ih m (by omega) cs x) cs x hx
          exact ⟨a, fun j u hj => zpy hr j u hj, hb, trivial⟩) h
      exact ⟨A, c, l, h1, h2, by rw [bszL_sum]; exact h3⟩
/-- a type -/
theorem open_type (fuel : Nat) (cs : List Value) (x : DataW H × List MemPlace) (hx : DataW.trod enc Tryz.prog W 0 (fun _ => true) true fuel 55 cs = some x) :
    ∃ (a : Ty) (A : Option Addr) (c : Nat), cs = [.int .i64 a.kind, .string a.name, .slice A a.args.length c] ∧ Rd (Lt W.heap.size) W (ys a.args) (.slice A a.args.length c) ∧ a.bsz ≤ Rows.uptoBulk x.1 := by
  cases fuel with
  | zero => simp [DataW.trod] at hx
  | succ m => exact open_ty m (fun cs x => open_types m m (Nat.le_refl _) cs x) cs x hx
end
end Go.Proofs.YtjdpocmlimkjjaaGreat
