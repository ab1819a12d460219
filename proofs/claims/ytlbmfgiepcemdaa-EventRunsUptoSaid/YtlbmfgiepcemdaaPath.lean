/- strings.Cut at a dot, value.Path. Conditions: those in each statement. -/
import Derived.Test.YtlbmfgiepcemdaaParse
import Derived.Test.YtlbmfgiepcemdaaShelf
import Derived.Lib.IndexLaws
namespace Go.Proofs.Ytlbmfgiepcemdaa
open Go.RowKit

/-- where the first dot is, -1 if there is none -/
def dotAt (s : ByteArray) : Int := Lib.indexByte s.data.toList 46
theorem dotAt_cases (s : ByteArray) : dotAt s = -1 ∨ ∃ i : Nat, dotAt s = (i : Int) ∧ i < s.size := by
  have h := Lib.indexByte_ge s.data.toList 46
  rcases Int.lt_or_le (dotAt s) 0 with h1 | h1
  · left; unfold dotAt at h1 ⊢; omega
  · obtain ⟨i, hi⟩ := Int.eq_ofNat_of_zero_le h1
    refine .inr ⟨i, hi, ?_⟩
    have h2 := (Lib.indexByte_some (l := s.data.toList) (c := 46) (o := i) hi).1
    have := (List.getElem?_eq_some_iff.1 h2).1
    rwa [size_toList] at this
def cutA (s : ByteArray) : ByteArray := if dotAt s < 0 then s else s.extract 0 (dotAt s).toNat
def cutR (s : ByteArray) : ByteArray := if dotAt s < 0 then ⟨#[]⟩ else s.extract ((dotAt s).toNat + 1) s.size
def cutF (s : ByteArray) : Bool := decide (0 ≤ dotAt s)
theorem cutA_size (s : ByteArray) : (cutA s).size ≤ s.size := by
  unfold cutA
  split
  · exact Nat.le_refl _
  · rw [ByteArray.size_extract]; omega
theorem cutR_size (s : ByteArray) : (cutR s).size ≤ s.size := by
  unfold cutR
  split
  · exact Nat.zero_le _
  · rw [ByteArray.size_extract]; omega
theorem cutR_less (s : ByteArray) (h : cutF s = true) : (cutR s).size + 1 ≤ s.size := by
  have h := of_decide_eq_true h
  rcases dotAt_cases s with h1 | ⟨i, h1, h2⟩
  · omega
  · unfold cutR
    rw [if_neg (by omega), ByteArray.size_extract, h1]; omega

def CutPost (s : ByteArray) (w : World) (e : Ending) (w' : World) : Prop := e = .returned (.tuple #[.string (cutA s), .string (cutR s), .bool (cutF s)]) ∧ ∃ n, w' = w.drewN n
set_option maxHeartbeats 1000000 in
set_option maxRecDepth 100000 in
theorem cut_lite (s : ByteArray) (w : World) (hs : s.size ≤ 2097152) : Calls Try.prog 54 #[.string s, .string ⟨#[46]⟩] w (CutPost s w) := by
  have HX := Lib.hid (Try.stringslite_Index_one s 46 w)
  rw [show Lib.indexByte s.data.toList 46 = dotAt s from rfl] at HX
  rcases dotAt_cases s with h | ⟨i, h, hi⟩
  · have HA : Hid (cutA s = s ∧ cutR s = ⟨#[]⟩ ∧ cutF s = false) := Lib.hid (by
      unfold cutA cutR cutF; rw [h]; exact ⟨rfl, rfl, rfl⟩)
    rw [h] at HX
    clear h
    go_enter Try.func54, Try.ntmps54
    go_wp2_with fail
    (with_reducible refine HX.out.mono ?_)
    rintro e w1 ⟨rfl, rfl⟩
    go_wp2_with fail
    go_ret3
    exact ⟨by rw [HA.out.1, HA.out.2.1, HA.out.2.2]; rfl, 0, rfl⟩
  · have HA : Hid (cutA s = s.extract 0 i ∧ cutR s = s.extract (i + 1) s.size ∧ cutF s = true) := Lib.hid (by
      unfold cutA cutR cutF; rw [h, if_neg (by omega), if_neg (by omega)]; exact ⟨rfl, rfl, decide_eq_true (by omega)⟩)
    rw [h] at HX
    clear h
    have c1 : (0 : Int) ≤ i := by omega
    have c2 : (i : Int) ≤ s.size := by omega
    have c3 : (0 : Int) ≤ (i : Int) + 1 := by omega
    have c4 : (i : Int) + 1 ≤ s.size := by omega
    go_enter Try.func54, Try.ntmps54
    go_wp2_with fail
    (with_reducible refine HX.out.mono ?_)
    rintro e w1 ⟨rfl, rfl⟩
    go_wp2_with fail
    go_region
    go_wp2_with fail
    go_ret3
    exact ⟨by rw [HA.out.1, HA.out.2.1, HA.out.2.2]; rfl, 1, rfl⟩
set_option maxHeartbeats 1000000 in
theorem cut_any (s : ByteArray) (w : World) (hs : s.size ≤ 2097152) : Calls Try.prog 38 #[.string s, .string ⟨#[46]⟩] w (CutPost s w) := by
  have HX := Lib.hid (cut_lite s w hs)
  go_enter Try.func38, Try.ntmps38
  go_wp2_with fail
  (with_reducible refine HX.out.mono ?_)
  rintro e w1 ⟨rfl, n, rfl⟩
  go_wp2_with fail
  go_ret3
  exact ⟨rfl, n, rfl⟩

/-- what follows the first part of a path, with fuel -/
def pathGo : Nat → ByteArray → Bool → Bool
  | _, _, false => true
  | 0, _, true => true
  | f + 1, r, true => (parseS (cutA r) 0 9007199254740992).2 && pathGo f (cutR r) (cutF r)
/-- value.Path -/
def pathS (s : ByteArray) : Bool := decide (s.size ≤ 200) && (decide (cutA s = ⟨#[48]⟩) && pathGo (s.size + 1) (cutR s) (cutF s))
/-- how much of a path is left -/
def pathLeft : Value → Value → Nat
  | .string r, .bool true => r.size + 1
  | _, _ => 0
theorem eq_zero_iff (s : ByteArray) : (s.toList == [48]) = decide (s = ⟨#[48]⟩) := by
  cases h : (s.toList == [48]) with
  | true =>
    have h := eq_of_beq h
    rw [decide_eq_true (bytes_ext (by rw [h, ByteArray.toList_eq]))]
  | false =>
    rw [decide_eq_false]
    intro e
    rw [e, ByteArray.toList_eq] at h
    simp at h
set_option maxHeartbeats 1000000 in
set_option maxRecDepth 100000 in
theorem path_any (s : ByteArray) (w : World) (hs : s.size ≤ 2097152) : Calls Try.prog 18 #[.string s] w fun e w' => e = .returned (.bool (pathS s)) ∧ Below w.heap.size w w' := by
  have HU : Hid (pathS s = (decide (s.size ≤ 200) && (decide (cutA s = ⟨#[48]⟩) && pathGo (s.size + 1) (cutR s) (cutF s)))) := Lib.hid rfl
  generalize pathS s = R at *
  by_cases h2 : s.size ≤ 200
  · have h2' : ¬ (200 : Int) < s.size := by omega
    have HC := Lib.hid (cut_any s w hs)
    have HZ := Lib.hid (eq_zero_iff (cutA s))
    have HV : Hid (R = (decide (cutA s = ⟨#[48]⟩) && pathGo (s.size + 1) (cutR s) (cutF s))) := Lib.hid (by rw [HU.out, decide_eq_true h2]; rfl)
    have hsz := cutR_size s
    clear HU
    cases hz : ((cutA s).toList == [48]) with
    | false =>
      have HE : Hid (R = false) := Lib.hid (by rw [HV.out, ← HZ.out, hz]; rfl)
      clear HZ HV
      go_enter Try.func18, Try.ntmps18
      go_wp2_with fail
      (with_reducible refine HC.out.mono ?_)
      rintro e w1 ⟨rfl, n, rfl⟩
      go_wp2_with fail
      go_ret
      exact ⟨by rw [HE.out]; rfl, below_drewN (Below.refl _ _) n⟩
    | true =>
      have HE : Hid (R = pathGo (s.size + 1) (cutR s) (cutF s)) := Lib.hid (by rw [HV.out, ← HZ.out, hz]; rfl)
      clear HZ HV
      go_enter Try.func18, Try.ntmps18
      go_wp2_with fail
      (with_reducible refine HC.out.mono ?_)
      rintro e w1 ⟨rfl, n, rfl⟩
      go_wp2_with fail
      go_loopw [4, 5] (fun s4 s5 wr => ∃ (f : Nat) (r : ByteArray) (m : Bool), s4 = .string r ∧ s5 = .bool m ∧ r.size ≤ 200 ∧ Hid (m = true → r.size < f) ∧ Hid (R = pathGo f r m) ∧ Hid (Below w.heap.size w wr)) (fun s4 s5 _ => pathLeft s4 s5)
      case atStart => exact ⟨s.size + 1, cutR s, cutF s, rfl, rfl, by omega, Lib.hid (fun _ => by omega), HE, Lib.hid (below_drewN (Below.refl _ _) n)⟩
      case round =>
        obtain ⟨f, r, m, rfl, rfl, hr, hf, HP, HB⟩ := hrel
        cases m with
        | false =>
          have HT : Hid (R = true) := Lib.hid (by rw [HP.out]; cases f <;> rfl)
          go_wp2_with fail
          go_ret
          exact ⟨by rw [HT.out]; rfl, HB.out⟩
        | true =>
          obtain ⟨f', rfl⟩ : ∃ f', f = f' + 1 := ⟨f - 1, by have := hf.out rfl; omega⟩
          have HQ : Hid (R = ((parseS (cutA r) 0 9007199254740992).2 && pathGo f' (cutR r) (cutF r))) := Lib.hid (by rw [HP.out]; rfl)
          have ha := cutA_size r
          have hc := cutR_size r
          have HL := Lib.hid (cutR_less r)
          have HCC := Lib.hid (fun W => cut_any r W (by omega))
          have HPP := Lib.hid (fun W => parse_any (cutA r) 0 9007199254740992 W (by omega))
          clear HP HC HE
          go_wp2_with fail
          (with_reducible refine (HCC.out _).mono ?_)
          rintro e w2 ⟨rfl, q, rfl⟩
          go_wp2_with fail
          (with_reducible refine (HPP.out _).mono ?_)
          rintro e w3 ⟨rfl, hb3⟩
          have HB3 := Lib.hid ((below_drewN HB.out q).trans (hb3.mono (Nat.le_trans HB.out.size (Nat.le_refl _))))
          clear hb3
          obtain ⟨P, hP⟩ : ∃ P, parseS (cutA r) 0 9007199254740992 = P := ⟨_, rfl⟩
          rw [hP] at HQ ⊢
          clear hP HPP HCC
          obtain ⟨pn, pb⟩ := P
          cases pb with
          | false =>
            have HT : Hid (R = false) := Lib.hid HQ.out
            go_wp2_with fail
            go_ret
            exact ⟨by rw [HT.out]; rfl, HB3.out⟩
          | true =>
            have HT : Hid (R = pathGo f' (cutR r) (cutF r)) := Lib.hid HQ.out
            clear HQ
            go_wp2_with fail
            refine ⟨⟨f', cutR r, cutF r, rfl, rfl, by omega, Lib.hid (fun h => ?_), HT, HB3⟩, ?_⟩
            · have := hf.out trivial
              have := HL.out h
              omega
            · show pathLeft (.string (cutR r)) (.bool (cutF r)) < r.size + 1
              cases hF : cutF r with
              | true =>
                have := HL.out hF
                show (cutR r).size + 1 < r.size + 1
                omega
              | false => exact Nat.succ_pos _
  · have h2' : (200 : Int) < s.size := by omega
    have HE : Hid (R = false) := Lib.hid (by rw [HU.out, decide_eq_false h2]; rfl)
    clear HU
    go_enter Try.func18, Try.ntmps18
    go_wp2_with fail
    go_ret
    exact ⟨by rw [HE.out]; rfl, Below.refl _ _⟩
end Go.Proofs.Ytlbmfgiepcemdaa
