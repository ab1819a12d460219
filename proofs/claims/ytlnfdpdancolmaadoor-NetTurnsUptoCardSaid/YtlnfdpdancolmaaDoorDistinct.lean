/- distinct of the statements' package. Conditions: those in each statement. -/
import Derived.Test.YtlnfdpdancolmaaDoorGuards
namespace Go.Proofs.YtlnfdpdancolmaaDoor
open Go.RowKit

/-- all keys of l are distinct and not empty -/
def Distinct (l : List Out) : Prop := ∀ (i : Nat) (o : Out), l[i]? = some o → o.key.toList ≠ [] ∧ ∀ (k : Nat) (p : Out), k < i → l[k]? = some p → p.key.toList ≠ o.key.toList

def DistPost (l : List Out) (w : World) (e : Ending) (w' : World) : Prop := ∃ b : Bool, e = .returned (.bool b) ∧ (b = true ↔ Distinct l) ∧ ∃ q, w' = w.drewN q

set_option maxHeartbeats 1000000 in
theorem distinct_any {ok : Nat → Prop} {l : List Out} {A : Option Addr} {n c : Nat} {w : World} (hr : Rd ok w (slOut l) (.slice A n c)) (hb : bulkOut l ≤ 2097152) :
    Calls Tryd.prog 24 #[.slice A n c] w (DistPost l w) := by
  have hl := slOut_len hr
  have hn : n ≤ 2097152 := by have := bulkOut_len l; omega
  have HR := Lib.hid hr
  have HL := Lib.hid hl.1
  clear hl hr hb
  go_enter Tryd.func24, Tryd.ntmps24
  go_wp2_with fail
  go_loopw [3, 4] (fun i _ wr => ∃ k q : Nat, k ≤ n ∧ i = .int .i64 k ∧ wr = w.drewN q ∧ Hid (∀ (j : Nat) (o : Out), j < k → l[j]? = some o → o.key.toList ≠ [] ∧ ∀ (k : Nat) (p : Out), k < j → l[k]? = some p → p.key.toList ≠ o.key.toList)) (fun i _ _ => n - (intOf i).toNat)
  case atStart => exact ⟨0, 0, by omega, rfl, rfl, Lib.hid (fun j o h => absurd h (by omega))⟩
  case round =>
    obtain ⟨k, q, hk, rfl, rfl, HK⟩ := hrel
    by_cases hlt : k < n
    · obtain ⟨b, off, x, rfl, _, hget, A2, c2, h2⟩ := slOut_at HR.out hlt
      obtain ⟨d0, _, _, _, _, _⟩ := h2
      have HG := Lib.hid hget
      clear hget
      go_wp2_with fail
      obtain ⟨wo, hwo⟩ : ∃ wo : World, wo = w.drewN q := ⟨_, rfl⟩
      have HWO := Lib.hid hwo
      clear hwo
      go_loopw [4] (fun i wr => ∃ j q : Nat, j ≤ k ∧ i = .int .i64 j ∧ wr = w.drewN q ∧ Hid (∀ (m : Nat) (p : Out), m < j → l[m]? = some p → p.key.toList ≠ x.key.toList)) (fun i _ => k - (intOf i).toNat)
      case atStart => exact ⟨0, q, by omega, rfl, rfl, Lib.hid (fun m p h => absurd h (by omega))⟩
      case round =>
        obtain ⟨j, q', hj, rfl, rfl, HJ⟩ := hrel
        by_cases hlt2 : j < k
        · obtain ⟨b', off', y, he, _, hget', A2', c2', h2'⟩ := slOut_at HR.out (i := j) (by omega)
          obtain ⟨d1, _, _, _, _, _⟩ := h2'
          injection he with he
          injection he with he1 he2
          subst he1 he2
          have HG' := Lib.hid hget'
          clear hget'
          have i0 : (0 : Int) ≤ (k : Int) := by omega
          have i1 : (k : Int) < (n : Int) := by omega
          have i2 : (0 : Int) ≤ (j : Int) := by omega
          have i3 : (j : Int) < (n : Int) := by omega
          cases hyx : (y.key.toList == x.key.toList) with
          | true =>
            have HE : Hid (¬ Distinct l) := Lib.hid (fun hd => (hd k x HG.out).2 j y hlt2 HG'.out (by simpa using hyx))
            go_wp2_with fail
            go_quiet (fail)
            go_wp2_with fail
            go_ret
            exact ⟨false, rfl, ⟨fun h => Bool.noConfusion h, fun h => absurd h HE.out⟩, _, World.drewN_drewN _ _ _⟩
          | false =>
            have HE : Hid (∀ (m : Nat) (p : Out), m < j + 1 → l[m]? = some p → p.key.toList ≠ x.key.toList) := Lib.hid (fun m p h hm => by
              rcases Nat.lt_or_ge m j with h1 | h1
              · exact HJ.out m p h1 hm
              · obtain rfl : m = j := by omega
                rw [HG'.out] at hm
                injection hm with hm
                subst hm
                simpa using hyx)
            go_wp2_with fail
            go_quiet (fail)
            go_wp2_with fail
            go_roundw
            case rel => exact ⟨j + 1, _, by omega, by go_num, rfl, HE⟩
            case measure => simp [intOf]; omega
        · cases hem : x.key.toList.isEmpty with
          | true =>
            have HE : Hid (¬ Distinct l) := Lib.hid (fun hd => (hd k x HG.out).1 (by simpa using hem))
            go_wp2_with fail
            go_ret
            exact ⟨false, rfl, ⟨fun h => Bool.noConfusion h, fun h => absurd h HE.out⟩, q', rfl⟩
          | false =>
            have HE : Hid (∀ (j : Nat) (o : Out), j < k + 1 → l[j]? = some o → o.key.toList ≠ [] ∧ ∀ (k : Nat) (p : Out), k < j → l[k]? = some p → p.key.toList ≠ o.key.toList) := Lib.hid (fun i o h ho => by
              rcases Nat.lt_or_ge i k with h1 | h1
              · exact HK.out i o h1 ho
              · obtain rfl : i = k := by omega
                rw [HG.out] at ho
                injection ho with ho
                subst ho
                exact ⟨fun he => (by rw [he] at hem; cases hem), fun m p hm hp => HJ.out m p (by omega) hp⟩)
            go_wp2_with fail
            go_roundw
            case rel => exact ⟨k + 1, q', by omega, by go_num, rfl, HE⟩
            case measure => simp [intOf]; omega
    · go_wp2_with fail
      go_ret
      exact ⟨true, rfl, ⟨fun _ => fun i o hi => HK.out i o (by
        have := HL.out
        have : i < l.length := (List.getElem?_eq_some_iff.1 hi).1
        omega) hi, fun _ => rfl⟩, q, rfl⟩
end Go.Proofs.YtlnfdpdancolmaaDoor
