/- flat of the statements' package: it returns a bool that depends on the values alone, and writes nothing. Conditions: those in each statement. -/
import Derived.Test.YtlnfdpdancolmaaDoorProg
import Derived.Test.YtlnfdpdancolmaaDoorStructs
namespace Go.Proofs.YtlnfdpdancolmaaDoor
open Go.RowKit

/-- one value passes, if its elements do -/
def flat1 (f : List V → Bool) (v : V) : Bool := !decide (100 < v.s.size) && !decide (100 < v.t.size) && f v.l
/-- what flat comes to, with fuel -/
def flatN : Nat → List V → Int → Bool
  | 0, _, _ => true
  | N + 1, l, d => !decide (5 < l.length) && !(decide (0 < l.length) && d == 0) && l.all (flat1 fun r => flatN N r (d - 1))

set_option maxHeartbeats 400000 in
theorem flat_none (A : Option Addr) (c : Nat) (deep : Int) (w : World) : Calls Tryd.prog 27 #[.slice A 0 c, .int .i64 deep] w fun e w' => e = .returned (.bool true) ∧ w = w' := by
  go_enter Tryd.func27, Tryd.ntmps27
  go_wp2_with fail
  go_loop [5] (fun i => i = .int .i64 0) (fun _ => 0)
  case atStart => rfl
  case round =>
    subst hrel
    go_wp2_with fail
    go_ret
    exact ⟨rfl, rfl⟩

theorem all_snoc {l : List V} {f : V → Bool} {k : Nat} {v : V} (h : (l.take k).all f = true) (hv : l[k]? = some v) (hf : f v = true) : (l.take (k + 1)).all f = true := by
  rw [List.take_add_one, hv, List.all_append, h]; simp [hf]
theorem all_no {l : List V} {f : V → Bool} {k : Nat} {v : V} (hv : l[k]? = some v) (hf : f v = false) : l.all f = false := by
  rw [List.all_eq_false]
  exact ⟨v, List.mem_of_getElem? hv, by simp [hf]⟩

set_option maxHeartbeats 1000000 in
theorem flat_any (ok : Nat → Prop) : ∀ (N : Nat) (l : List V) (A : Option Addr) (n c : Nat) (deep : Int) (w : World), bulkV l ≤ N → N ≤ 2097152 → Rd ok w (vs l) (.slice A n c) → 0 ≤ deep → deep ≤ 100 →
    Calls Tryd.prog 27 #[.slice A n c, .int .i64 deep] w fun e w' => e = .returned (.bool (flatN N l deep)) ∧ w = w' := by
  intro N
  induction N with
  | zero =>
    intro l A n c deep w hb hN hr h0 h1
    have hl := vs_len hr
    have hz : n = 0 := by have := bulkV_len l; omega
    subst hz
    exact flat_none A c deep w
  | succ N ih =>
    intro l A n c deep w hb hN hr h0 h1
    have hl := vs_len hr
    have hn : n ≤ 2097152 := by have := bulkV_len l; omega
    by_cases hn0 : n = 0
    · subst hn0
      have hz : l = [] := List.eq_nil_of_length_eq_zero hl.1.symm
      subst hz
      exact flat_none A c deep w
    have hp : 0 < n := by omega
    have HB := Lib.hid hb
    have HR := Lib.hid hr
    have IH := Lib.hid ih
    have HL := Lib.hid hl.1
    clear hl hb hr ih hn0
    by_cases h5 : 5 < n
    · have HF : Hid (flatN (N + 1) l deep = false) := Lib.hid (by
        have := HL.out; have h5' : 5 < l.length := by omega
        simp [flatN, h5'])
      go_enter Tryd.func27, Tryd.ntmps27
      go_wp2_with fail
      go_ret
      exact ⟨by rw [HF.out]; rfl, rfl⟩
    · by_cases hd : deep = 0
      · subst hd
        have HF : Hid (flatN (N + 1) l 0 = false) := Lib.hid (by
          have := HL.out; have h5' : 0 < l.length := by omega
          simp [flatN, h5'])
        go_enter Tryd.func27, Tryd.ntmps27
        go_wp2_with fail
        go_ret
        exact ⟨by rw [HF.out]; rfl, rfl⟩
      · have hd1 : 1 ≤ deep := by omega
        have hde : (deep == 0) = false := by simpa using hd
        have HF : Hid (flatN (N + 1) l deep = l.all (flat1 fun r => flatN N r (deep - 1))) := Lib.hid (by
          have := HL.out; have h5' : ¬ 5 < l.length := by omega
          rw [flatN, hde]; simp [h5'])
        clear hd
        go_enter Tryd.func27, Tryd.ntmps27
        go_wp2_with fail
        go_loop [5] (fun i => ∃ k : Nat, k ≤ n ∧ i = .int .i64 k ∧ Hid ((l.take k).all (flat1 fun r => flatN N r (deep - 1)) = true)) (fun i => n - (intOf i).toNat)
        case atStart => exact ⟨0, by omega, rfl, Lib.hid rfl⟩
        case round =>
          obtain ⟨k, hk, rfl, HK⟩ := hrel
          by_cases hlt : k < n
          · obtain ⟨b, off, kd, t, n', m, s, l', A', c', rfl, _, hget, h2⟩ := vs_at HR.out hlt
            obtain ⟨c0, c1, c2, c3, c4, c5, r5⟩ := h2
            have hbk := bulkV_get _ _ _ hget
            rw [bulk_mk] at hbk
            have hts : t.size ≤ 2097152 ∧ s.size ≤ 2097152 := by have := HB.out; omega
            have HC := Lib.hid (IH.out l' A' l'.length c' (deep - 1) w (by have := HB.out; omega) (by omega) r5 (by omega) (by omega))
            have HG := Lib.hid hget
            clear r5 hget hbk
            by_cases hs : 100 < s.size
            · have HE : Hid (flatN (N + 1) l deep = false) := Lib.hid (by rw [HF.out]; exact all_no HG.out (by simp [flat1, V.s, hs]))
              go_wp2_with fail
              go_ret
              exact ⟨by rw [HE.out]; rfl, rfl⟩
            · by_cases ht : 100 < t.size
              · have HE : Hid (flatN (N + 1) l deep = false) := Lib.hid (by rw [HF.out]; exact all_no HG.out (by simp [flat1, V.t, ht]))
                go_wp2_with fail
                go_ret
                exact ⟨by rw [HE.out]; rfl, rfl⟩
              · cases hbb : flatN N l' (deep - 1) with
                | false =>
                  have HE : Hid (flatN (N + 1) l deep = false) := Lib.hid (by rw [HF.out]; exact all_no HG.out (by simp [flat1, V.l, hbb]))
                  rw [hbb] at HC
                  clear hbb
                  go_wp2_with fail
                  (with_reducible refine HC.out.mono ?_)
                  rintro e w' ⟨rfl, rfl⟩
                  go_wp2_with fail
                  go_ret
                  exact ⟨by rw [HE.out]; rfl, rfl⟩
                | true =>
                  have HE : Hid ((l.take (k + 1)).all (flat1 fun r => flatN N r (deep - 1)) = true) := Lib.hid (all_snoc HK.out HG.out (by simp [flat1, V.l, V.s, V.t, hbb, hs, ht]))
                  rw [hbb] at HC
                  clear hbb
                  go_wp2_with fail
                  (with_reducible refine HC.out.mono ?_)
                  rintro e w' ⟨rfl, rfl⟩
                  go_wp2_with fail
                  go_round
                  case rel => exact ⟨k + 1, by omega, by go_num, HE⟩
                  case measure => simp [intOf]; omega
          · have HE : Hid (flatN (N + 1) l deep = true) := Lib.hid (by
              rw [HF.out, ← HK.out, List.take_of_length_le (by have := HL.out; omega)])
            go_wp2_with fail
            go_ret
            exact ⟨by rw [HE.out]; rfl, rfl⟩

/-- what flat comes to at depth 4 -/
def flatB (l : List V) : Bool := flatN (bulkV l) l 4
theorem flat4 {ok : Nat → Prop} {l : List V} {A : Option Addr} {n c : Nat} {w : World} (hr : Rd ok w (vs l) (.slice A n c)) (hb : bulkV l ≤ 2097152) :
    Calls Tryd.prog 27 #[.slice A n c, .int .i64 4] w fun e w' => e = .returned (.bool (flatB l)) ∧ w = w' :=
  flat_any ok (bulkV l) l A n c 4 w (Nat.le_refl _) hb hr (by omega) (by omega)
end Go.Proofs.YtlnfdpdancolmaaDoor
