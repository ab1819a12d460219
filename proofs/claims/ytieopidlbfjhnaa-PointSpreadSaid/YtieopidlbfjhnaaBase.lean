/- Words for slices of ints and the reading functions of package point (Right, Near, Gap, inner), has and Same. Conditions: those in each statement. -/
import Derived.Test.YtieopidlbfjhnaaProg
import Derived.WalkKit
import Derived.LoopTactic
import Derived.Outline
import Derived.Below
import Derived.Deep.QuietTactic
import Derived.BigQuiet
import Derived.Deep.Draws
import Derived.Lib.Hide
import Derived.RegionTactic
import Derived.WalkLawsBesides
namespace Go.Proofs.Ytieopidlbfjhnaa
open Go.RowKit

/-- the element at k, 0 beyond the end -/
def el (zs : List Int) (k : Nat) : Int := zs.getD k 0

/-- the slice value at address A with n elements reads as zs -/
def Ints (w : World) (A : Option Addr) (n : Nat) (zs : List Int) : Prop :=
  zs.length = n ∧ (0 < n → ∃ b off, A = some ⟨b, off, none⟩ ∧ ∀ j, j < n → w.cell? ⟨b, off + j, none⟩ = some (.int .i64 (el zs j)))

def top50 : Int := 1125899906842624

/-- valid at index i -/
def OkAt (zs : List Int) (i : Nat) : Prop := 0 ≤ el zs i ∧ el zs i ≤ 1125899906842624 ∧ (0 < i → el zs (i - 1) < el zs i)
def Valid (zs : List Int) : Prop := zs.length ≤ 64 ∧ ∀ i, i < zs.length → OkAt zs i

theorem Ints.below {w w' : World} {A : Option Addr} {n : Nat} {zs : List Int} (h : Ints w A n zs) (hb : Below w.heap.size w w') : Ints w' A n zs :=
  ⟨h.1, fun hn => by
    obtain ⟨b, off, e, hc⟩ := h.2 hn
    refine ⟨b, off, e, fun j hj => ?_⟩
    have h1 := hc j hj
    have hlt : b < w.heap.size := World.block_lt_of_cell? w ⟨b, off + j, none⟩ h1
    rw [hb.cell (p := ⟨b, off + j, none⟩) hlt]; exact h1⟩

set_option maxHeartbeats 400000 in
theorem right_yes (A : Option Addr) (n c : Nat) (zs : List Int) (w : World) (h : Ints w A n zs) (hv : Valid zs) :
    Calls Try.prog 7 #[.slice A n c] w fun e w' => e = .returned (.bool true) ∧ w = w' := by
  obtain ⟨hl, hc⟩ := h
  obtain ⟨h64, hok⟩ := hv
  have hn : n ≤ 64 := by omega
  have hN : zs.length ≤ n ∧ n ≤ zs.length := by omega
  have HC := Lib.hid hc
  have HO := Lib.hid hok
  clear hc hok hl
  go_enter Try.func7, Try.ntmps7
  go_wp2
  go_loop [10] (fun i => ∃ k : Nat, k ≤ n ∧ i = .int .i64 k) (fun i => n - (intOf i).toNat)
  case atStart => exact ⟨0, by omega, rfl⟩
  case round =>
    obtain ⟨k, hk, rfl⟩ := hrel
    by_cases hlt : k < n
    · obtain ⟨b, off, rfl, hcell⟩ := HC.out (by omega)
      obtain ⟨o1, o2, o3⟩ := HO.out k (by omega)
      have c0 := hcell k hlt
      by_cases hk0 : 0 < k
      · have c1 := hcell (k - 1) (by omega)
        have o3' := o3 hk0
        obtain ⟨j, rfl⟩ : ∃ j, k = j + 1 := ⟨k - 1, by omega⟩
        simp only [Nat.add_sub_cancel] at c1 o3'
        clear hcell o3
        go_wp2
        go_round
        case rel => exact ⟨j + 1 + 1, by omega, by go_num⟩
        case measure => simp [intOf]; omega
      · obtain rfl : k = 0 := by omega
        rw [Nat.add_zero] at c0
        clear hcell o3
        go_wp2
        go_round
        case rel => exact ⟨0 + 1, by omega, by go_num⟩
        case measure => simp [intOf]; omega
    · go_wp2
      go_ret
      exact ⟨rfl, rfl⟩

set_option maxHeartbeats 400000 in
theorem right_no (A : Option Addr) (n c : Nat) (zs : List Int) (w : World) (h : Ints w A n zs) (hn : n ≤ 9223372036854775807) (hv : ¬ Valid zs) :
    Calls Try.prog 7 #[.slice A n c] w fun e w' => e = .returned (.bool false) ∧ w = w' := by
  obtain ⟨hl, hc⟩ := h
  by_cases h64 : n ≤ 64
  · have hN : zs.length ≤ n ∧ n ≤ zs.length := by omega
    have HC := Lib.hid hc
    have HO : Hid (¬ ∀ i, i < n → OkAt zs i) := Lib.hid (fun hh => hv ⟨by omega, by rw [hl]; exact hh⟩)
    clear hc hl hv
    go_enter Try.func7, Try.ntmps7
    go_wp2
    go_loop [10] (fun i => ∃ k : Nat, k ≤ n ∧ i = .int .i64 k ∧ Hid (∀ i, i < k → OkAt zs i)) (fun i => n - (intOf i).toNat)
    case atStart => exact ⟨0, by omega, rfl, Lib.hid (fun i hi => absurd hi (by omega))⟩
    case round =>
      obtain ⟨k, hk, rfl, HK⟩ := hrel
      by_cases hlt : k < n
      · obtain ⟨b, off, rfl, hcell⟩ := HC.out (by omega)
        have c0 := hcell k hlt
        have HN : Hid (OkAt zs k → ∀ i, i < k + 1 → OkAt zs i) := Lib.hid (fun ho i hi => by
          rcases Nat.lt_or_ge i k with hik | hik
          · exact HK.out i hik
          · obtain rfl : i = k := by omega
            exact ho)
        by_cases o1 : el zs k < 0
        · by_cases hk0 : 0 < k
          · clear hcell
            go_wp2
            go_ret
            exact ⟨rfl, rfl⟩
          · obtain rfl : k = 0 := by omega
            rw [Nat.add_zero] at c0
            clear hcell
            go_wp2
            go_ret
            exact ⟨rfl, rfl⟩
        · by_cases o2 : 1125899906842624 < el zs k
          · by_cases hk0 : 0 < k
            · clear hcell
              go_wp2
              go_ret
              exact ⟨rfl, rfl⟩
            · obtain rfl : k = 0 := by omega
              rw [Nat.add_zero] at c0
              clear hcell
              go_wp2
              go_ret
              exact ⟨rfl, rfl⟩
          · by_cases hk0 : 0 < k
            · have c1 := hcell (k - 1) (by omega)
              obtain ⟨j, rfl⟩ : ∃ j, k = j + 1 := ⟨k - 1, by omega⟩
              simp only [Nat.add_sub_cancel] at c1
              clear hcell
              by_cases o3 : el zs j < el zs (j + 1)
              · go_wp2
                go_round
                case rel => exact ⟨j + 1 + 1, by omega, by go_num, Lib.hid (HN.out ⟨by omega, by omega, fun _ => o3⟩)⟩
                case measure => simp [intOf]; omega
              · go_wp2
                go_ret
                exact ⟨rfl, rfl⟩
            · obtain rfl : k = 0 := by omega
              rw [Nat.add_zero] at c0
              clear hcell
              go_wp2
              go_round
              case rel => exact ⟨0 + 1, by omega, by go_num, Lib.hid (HN.out ⟨by omega, by omega, fun h => absurd h (by omega)⟩)⟩
              case measure => simp [intOf]; omega
      · exact absurd (fun i hi => HK.out i (by omega)) HO.out
  · go_enter Try.func7, Try.ntmps7
    go_wp2
    go_ret
    exact ⟨rfl, rfl⟩

/-- what Near gives: the last element that is not greater than t -/
def NearIs (zs : List Int) (t r : Int) (ok : Bool) : Prop :=
  (ok = true ∧ ∃ i, i < zs.length ∧ el zs i = r ∧ r ≤ t ∧ ∀ j, i < j → j < zs.length → t < el zs j) ∨
  (ok = false ∧ r = 0 ∧ ∀ j, j < zs.length → t < el zs j)

def NearPost (zs : List Int) (t : Int) (w : World) (e : Ending) (w' : World) : Prop := ∃ r ok, e = .returned (.tuple #[.int .i64 r, .bool ok]) ∧ NearIs zs t r ok ∧ w = w'

set_option maxHeartbeats 400000 in
theorem near_any (A : Option Addr) (n c : Nat) (zs : List Int) (t : Int) (w : World) (h : Ints w A n zs) (hn : n ≤ 9223372036854775807) :
    Calls Try.prog 10 #[.slice A n c, .int .i64 t] w (NearPost zs t w) := by
  obtain ⟨hl, hc⟩ := h
  have hN : zs.length ≤ n ∧ n ≤ zs.length := by omega
  have HC := Lib.hid hc
  clear hc hl
  go_enter Try.func10, Try.ntmps10
  go_wp2
  go_loop [6] (fun i => ∃ k : Nat, k ≤ n ∧ i = .int .i64 ((k : Int) - 1) ∧ Hid (∀ j, k ≤ j → j < zs.length → t < el zs j)) (fun i => (intOf i + 1).toNat)
  case atStart => exact ⟨n, by omega, rfl, Lib.hid (fun j h1 h2 => absurd h2 (by omega))⟩
  case round =>
    obtain ⟨k, hk, rfl, HK⟩ := hrel
    by_cases hlt : 0 < k
    · obtain ⟨b, off, rfl, hcell⟩ := HC.out (by omega)
      obtain ⟨j, rfl⟩ : ∃ j, k = j + 1 := ⟨k - 1, by omega⟩
      have c0 := hcell j (by omega)
      have ej : ((j + 1 : Nat) : Int) - 1 = (j : Int) := by omega
      rw [ej]
      clear hcell ej
      by_cases o : el zs j ≤ t
      · go_wp2
        go_ret2
        exact ⟨el zs j, true, rfl, .inl ⟨rfl, j, by omega, rfl, o, fun i h1 h2 => HK.out i (by omega) h2⟩, rfl⟩
      · go_wp2
        go_round
        case rel => exact ⟨j, by omega, rfl, Lib.hid (fun i h1 h2 => by
          rcases Nat.lt_or_ge j i with hik | hik
          · exact HK.out i (by omega) h2
          · obtain rfl : i = j := by omega
            omega)⟩
        case measure => simp [intOf]
    · obtain rfl : k = 0 := by omega
      go_wp2
      go_ret2
      exact ⟨0, false, rfl, .inr ⟨rfl, rfl, fun j hj => HK.out j (by omega) hj⟩, rfl⟩

set_option maxHeartbeats 400000 in
theorem has_yes (A : Option Addr) (n c : Nat) (zs : List Int) (t : Int) (w : World) (h : Ints w A n zs) (hn : n ≤ 9223372036854775807) (hi : ∃ i, i < zs.length ∧ el zs i = t) :
    Calls Try.prog 9 #[.slice A n c, .int .i64 t] w fun e w' => e = .returned (.bool true) ∧ w = w' := by
  obtain ⟨hl, hc⟩ := h
  have hN : zs.length ≤ n ∧ n ≤ zs.length := by omega
  have HC := Lib.hid hc
  have HI := Lib.hid hi
  clear hc hl hi
  go_enter Try.func9, Try.ntmps9
  go_wp2
  go_loop [5] (fun i => ∃ k : Nat, k ≤ n ∧ i = .int .i64 k ∧ Hid (∀ j, j < k → el zs j ≠ t)) (fun i => n - (intOf i).toNat)
  case atStart => exact ⟨0, by omega, rfl, Lib.hid (fun j h1 => absurd h1 (by omega))⟩
  case round =>
    obtain ⟨k, hk, rfl, HK⟩ := hrel
    by_cases hlt : k < n
    · obtain ⟨b, off, rfl, hcell⟩ := HC.out (by omega)
      have c0 := hcell k (by omega)
      clear hcell
      by_cases o : el zs k = t
      · have o' : (el zs k == t) = true := by simpa using o
        clear o
        go_wp2
        go_ret
        exact ⟨rfl, rfl⟩
      · have o' : (el zs k == t) = false := by simpa using o
        have HO := Lib.hid o
        clear o
        go_wp2
        go_round
        case rel => exact ⟨k + 1, by omega, by go_num, Lib.hid (fun i h1 => by
          rcases Nat.lt_or_ge i k with hik | hik
          · exact HK.out i (by omega)
          · obtain rfl : i = k := by omega
            exact HO.out)⟩
        case measure => simp [intOf]; omega
    · obtain ⟨i, hi1, hi2⟩ := HI.out
      exact absurd hi2 (HK.out i (by omega))

set_option maxHeartbeats 400000 in
theorem has_no (A : Option Addr) (n c : Nat) (zs : List Int) (t : Int) (w : World) (h : Ints w A n zs) (hn : n ≤ 9223372036854775807) (hi : ∀ i, i < zs.length → el zs i ≠ t) :
    Calls Try.prog 9 #[.slice A n c, .int .i64 t] w fun e w' => e = .returned (.bool false) ∧ w = w' := by
  obtain ⟨hl, hc⟩ := h
  have hN : zs.length ≤ n ∧ n ≤ zs.length := by omega
  have HC := Lib.hid hc
  have HI := Lib.hid hi
  clear hc hl hi
  go_enter Try.func9, Try.ntmps9
  go_wp2
  go_loop [5] (fun i => ∃ k : Nat, k ≤ n ∧ i = .int .i64 k) (fun i => n - (intOf i).toNat)
  case atStart => exact ⟨0, by omega, rfl⟩
  case round =>
    obtain ⟨k, hk, rfl⟩ := hrel
    by_cases hlt : k < n
    · obtain ⟨b, off, rfl, hcell⟩ := HC.out (by omega)
      have c0 := hcell k (by omega)
      have o' : (el zs k == t) = false := by simpa using HI.out k (by omega)
      clear hcell
      go_wp2
      go_round
      case rel => exact ⟨k + 1, by omega, by go_num⟩
      case measure => simp [intOf]; omega
    · go_wp2
      go_ret
      exact ⟨rfl, rfl⟩
end Go.Proofs.Ytieopidlbfjhnaa
