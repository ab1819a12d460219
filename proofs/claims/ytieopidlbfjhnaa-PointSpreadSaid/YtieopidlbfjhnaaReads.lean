/- The walks of Same, Gap and inner. Conditions: those in each statement. -/
import Derived.Test.YtieopidlbfjhnaaBase
namespace Go.Proofs.Ytieopidlbfjhnaa
open Go.RowKit

theorem Ints.drewN {w : World} {A : Option Addr} {n : Nat} {zs : List Int} (h : Ints w A n zs) (q : Nat) : Ints (w.drewN q) A n zs := h

def Quiet (v : Value) (w : World) (e : Ending) (w' : World) : Prop := e = .returned v ∧ ∃ q, w' = w.drewN q

set_option maxHeartbeats 400000 in
theorem same_yes (A B : Option Addr) (n c d : Nat) (zs : List Int) (w : World) (h : Ints w A n zs) (g : Ints w B n zs) (hn : n ≤ 9223372036854775807) :
    Calls Try.prog 12 #[.slice A n c, .slice B n d] w (Quiet (.bool true) w) := by
  obtain ⟨hl, hc⟩ := h
  obtain ⟨_, gc⟩ := g
  have hN : zs.length ≤ n ∧ n ≤ zs.length := by omega
  have HC := Lib.hid hc
  have GC := Lib.hid gc
  clear hc hl gc
  go_enter Try.func12, Try.ntmps12
  go_wp2
  go_loopw [5] (fun i wr => ∃ k q : Nat, k ≤ n ∧ i = .int .i64 k ∧ wr = w.drewN q) (fun i _ => n - (intOf i).toNat)
  case atStart => exact ⟨0, 0, by omega, rfl, rfl⟩
  case round =>
    obtain ⟨k, q, hk, rfl, rfl⟩ := hrel
    by_cases hlt : k < n
    · obtain ⟨b, off, rfl, hcell⟩ := HC.out (by omega)
      obtain ⟨b', off', rfl, gcell⟩ := GC.out (by omega)
      have c0 := hcell k (by omega)
      have c1 := gcell k (by omega)
      have o' : (el zs k != el zs k) = false := by simp
      have h0 : (0 : Int) ≤ (k : Int) := by omega
      have h1 : (k : Int) < (n : Int) := by omega
      clear hcell gcell
      go_wp2
      go_quiet (fail)
      go_wp2
      go_roundw
      case rel => exact ⟨k + 1, _, by omega, by go_num, rfl⟩
      case measure => simp [intOf]; omega
    · go_wp2
      go_ret
      exact ⟨rfl, q, rfl⟩

/-- the largest difference of neighbours among the first k elements -/
def GapTo (zs : List Int) (k : Nat) (g : Int) : Prop :=
  0 ≤ g ∧ g ≤ 1125899906842624 ∧ (∀ i, 0 < i → i < k → el zs i - el zs (i - 1) ≤ g) ∧ (g = 0 ∨ ∃ i, 0 < i ∧ i < k ∧ g = el zs i - el zs (i - 1))

def GapPost (zs : List Int) (w : World) (e : Ending) (w' : World) : Prop := ∃ g, e = .returned (.int .i64 g) ∧ GapTo zs zs.length g ∧ ∃ q, w' = w.drewN q

theorem gap_step {zs : List Int} {k : Nat} {g : Int} (h : GapTo zs k g) (hk : 0 < k) (h1 : 0 ≤ el zs (k - 1)) (h2 : el zs k ≤ 1125899906842624) :
    GapTo zs (k + 1) (if g < el zs k - el zs (k - 1) then el zs k - el zs (k - 1) else g) := by
  obtain ⟨a, a', b, c⟩ := h
  refine ⟨by split <;> omega, by split <;> omega, fun i i1 i2 => ?_, ?_⟩
  · rcases Nat.lt_or_ge i k with hik | hik
    · have := b i i1 hik; split <;> omega
    · obtain rfl : i = k := by omega
      split <;> omega
  · by_cases hg : g < el zs k - el zs (k - 1)
    · rw [if_pos hg]; exact .inr ⟨k, hk, by omega, rfl⟩
    · rw [if_neg hg]
      rcases c with c | ⟨i, i1, i2, i3⟩
      · exact .inl c
      · exact .inr ⟨i, i1, by omega, i3⟩

set_option maxHeartbeats 1000000 in
theorem gap_any (A : Option Addr) (n c : Nat) (zs : List Int) (w : World) (h : Ints w A n zs) (hv : Valid zs) :
    Calls Try.prog 11 #[.slice A n c] w (GapPost zs w) := by
  have HR := Lib.hid (right_yes A n c zs w h hv)
  obtain ⟨hl, hc⟩ := h
  obtain ⟨h64, hok⟩ := hv
  have hn : n ≤ 64 := by omega
  have hN : zs.length ≤ n ∧ n ≤ zs.length := by omega
  have HC := Lib.hid hc
  have HO := Lib.hid hok
  clear hc hok hl
  go_enter Try.func11, Try.ntmps11
  go_wp2_with fail
  refine HR.out.mono ?_
  rintro e w' ⟨rfl, rfl⟩
  clear HR
  go_wp2
  go_loopw [3, 10] (fun g i wr => ∃ (k q : Nat) (G : Int), k ≤ n ∧ i = .int .i64 k ∧ g = .int .i64 G ∧ Hid (GapTo zs k G) ∧ wr = w.drewN q) (fun _ i _ => n - (intOf i).toNat)
  case atStart => exact ⟨0, 0, 0, by omega, rfl, rfl, Lib.hid ⟨by omega, by omega, fun i _ h => absurd h (by omega), .inl rfl⟩, rfl⟩
  case round =>
    obtain ⟨k, q, G, hk, rfl, rfl, HG, rfl⟩ := hrel
    by_cases hlt : k < n
    · obtain ⟨b, off, rfl, hcell⟩ := HC.out (by omega)
      obtain ⟨o1, o2, o3⟩ := HO.out k (by omega)
      have c0 := hcell k hlt
      by_cases hk0 : 0 < k
      · obtain ⟨j, rfl⟩ : ∃ j, k = j + 1 := ⟨k - 1, by omega⟩
        have c1 := hcell j (by omega)
        obtain ⟨p1, p2, _⟩ := HO.out j (by omega)
        have HS := Lib.hid (gap_step HG.out (by omega) p1 o2)
        simp only [Nat.add_sub_cancel] at o3 HS
        have hs := o3 (by omega)
        have hg1 := HG.out.1
        have hg2 := HG.out.2.1
        have i0 : (0 : Int) ≤ (j : Int) + 1 := by omega
        have i1 : (j : Int) + 1 < (n : Int) := by omega
        have i2 : (j : Int) + 1 - 1 = (j : Int) := by omega
        have i3 : (0 : Int) ≤ (j : Int) := by omega
        have i4 : (j : Int) < (n : Int) := by omega
        clear hcell o3
        go_wp2
        go_region
        go_wp2
        go_roundw
        case rel => exact ⟨j + 1 + 1, _, _, by omega, by go_num, rfl, HS, rfl⟩
        case measure => simp [intOf]; omega
      · obtain rfl : k = 0 := by omega
        rw [Nat.add_zero] at c0
        have HG0 : Hid (GapTo zs (0 + 1) G) := Lib.hid ⟨HG.out.1, HG.out.2.1, fun i a b => absurd a (by omega), by
          rcases HG.out.2.2.2 with c | ⟨i, i1, i2, _⟩
          · exact .inl c
          · omega⟩
        clear hcell o3
        go_wp2
        go_roundw
        case rel => exact ⟨0 + 1, q, G, by omega, by go_num, rfl, HG0, rfl⟩
        case measure => simp [intOf]; omega
    · go_wp2
      go_ret
      exact ⟨G, rfl, by
        have hk2 : zs.length = k := by omega
        rw [hk2]; exact HG.out, q, rfl⟩

/-- the index b is inner, and no inner element leaves a smaller gap -/
def InnerTo (zs : List Int) (k b : Nat) : Prop := 1 ≤ b ∧ b + 1 < zs.length ∧ ∀ j, j < k → el zs (b + 1) - el zs (b - 1) ≤ el zs (j + 2) - el zs j

def InnerPost (zs : List Int) (w : World) (e : Ending) (w' : World) : Prop := ∃ b : Nat, e = .returned (.int .i64 (b : Int)) ∧ InnerTo zs (zs.length - 2) b ∧ ∃ q, w' = w.drewN q

theorem inner_turn {zs : List Int} {k d : Nat} (h : el zs (k + 2) - el zs k < el zs (d + 2) - el zs d) (hb : ∀ j, j < k → el zs (d + 1 + 1) - el zs (d + 1 - 1) ≤ el zs (j + 2) - el zs j) (hl : k + 2 < zs.length) : InnerTo zs (k + 1) (k + 1) := by
  refine ⟨by omega, by omega, fun j hj => ?_⟩
  simp only [Nat.add_sub_cancel] at hb ⊢
  rcases Nat.lt_or_ge j k with hik | hik
  · have := hb j hik
    have e : d + 1 + 1 = d + 2 := rfl
    have e2 : k + 1 + 1 = k + 2 := rfl
    rw [e] at this; rw [e2]; omega
  · obtain rfl : j = k := by omega
    exact Int.le_refl _
theorem inner_stay {zs : List Int} {k d : Nat} (h : ¬ el zs (k + 2) - el zs k < el zs (d + 2) - el zs d) (h1 : 1 ≤ d + 1) (h2 : d + 1 + 1 < zs.length) (hb : ∀ j, j < k → el zs (d + 1 + 1) - el zs (d + 1 - 1) ≤ el zs (j + 2) - el zs j) : InnerTo zs (k + 1) (d + 1) := by
  refine ⟨h1, h2, fun j hj => ?_⟩
  rcases Nat.lt_or_ge j k with hik | hik
  · exact hb j hik
  · obtain rfl : j = k := by omega
    show el zs (d + 2) - el zs d ≤ _
    omega

set_option maxHeartbeats 2000000 in
theorem inner_any (A : Option Addr) (n c : Nat) (zs : List Int) (w : World) (h : Ints w A n zs) (h3 : 3 ≤ n) (hn : n ≤ 65) (hok : ∀ i, i < zs.length → 0 ≤ el zs i ∧ el zs i ≤ 1125899906842624) :
    Calls Try.prog 16 #[.slice A n c] w (InnerPost zs w) := by
  obtain ⟨hl, hc⟩ := h
  have hN : zs.length ≤ n ∧ n ≤ zs.length := by omega
  obtain ⟨b, off, rfl, hcell⟩ := hc (by omega)
  have HC := Lib.hid hcell
  have HO := Lib.hid hok
  clear hc hok hl hcell
  go_enter Try.func16, Try.ntmps16
  go_wp2
  go_loopw [3, 8] (fun g i wr => ∃ (k q B : Nat), k + 2 ≤ n ∧ i = .int .i64 k ∧ g = .int .i64 B ∧ Hid (InnerTo zs k B) ∧ wr = w.drewN q) (fun _ i _ => n - (intOf i).toNat)
  case atStart => exact ⟨0, 0, 1, by omega, rfl, rfl, Lib.hid ⟨by omega, by omega, fun j h => absurd h (by omega)⟩, rfl⟩
  case round =>
    obtain ⟨k, q, B, hk, rfl, rfl, HB, rfl⟩ := hrel
    by_cases hlt : k + 2 < n
    · obtain ⟨b1, b2, b3⟩ := HB.out
      obtain ⟨d, rfl⟩ : ∃ d, B = d + 1 := ⟨B - 1, by omega⟩
      have c0 := HC.out k (by omega)
      have c2 := HC.out (k + 2) (by omega)
      have d0 := HC.out d (by omega)
      have d2 := HC.out (d + 2) (by omega)
      have x0 := HO.out k (by omega)
      have x2 := HO.out (k + 2) (by omega)
      have y0 := HO.out d (by omega)
      have y2 := HO.out (d + 2) (by omega)
      have HB3 := Lib.hid b3
      clear b3
      have i0 : (0 : Int) ≤ (k : Int) := by omega
      have i1 : (k : Int) + 2 < (n : Int) := by omega
      have i2 : (k : Int) < (n : Int) := by omega
      have i3 : (0 : Int) ≤ (k : Int) + 2 := by omega
      have j0 : (0 : Int) ≤ (d : Int) := by omega
      have j1 : (d : Int) + 2 < (n : Int) := by omega
      have j2 : (d : Int) < (n : Int) := by omega
      have j3 : (0 : Int) ≤ (d : Int) + 2 := by omega
      have e1 : ((d + 1 : Nat) : Int) = (d : Int) + 1 := by omega
      rw [e1]
      clear e1
      have HN : Hid ((el zs (k + 2) - el zs k < el zs (d + 2) - el zs d → InnerTo zs (k + 1) (k + 1)) ∧ (¬ el zs (k + 2) - el zs k < el zs (d + 2) - el zs d → InnerTo zs (k + 1) (d + 1))) :=
        Lib.hid ⟨fun hh => inner_turn hh HB3.out (by omega), fun hh => inner_stay hh b1 b2 HB3.out⟩
      have s1 : IntKind.i64.wrap ((k : Int) + 2) = (k : Int) + 2 := IntWalk.i64_in _ (by omega)
      have s2 : IntKind.i64.wrap ((d : Int) + 1 + 1) = (d : Int) + 1 + 1 := IntWalk.i64_in _ (by omega)
      have s3 : IntKind.i64.wrap ((d : Int) + 1 - 1) = (d : Int) + 1 - 1 := IntWalk.i64_in _ (by omega)
      have s4 : ((k : Int) + 2).toNat = k + 2 := by omega
      have s5 : ((d : Int) + 1 + 1).toNat = d + 2 := by omega
      have s6 : ((d : Int) + 1 - 1).toNat = d := by omega
      have s7 : IntKind.i64.wrap (el zs (k + 2) - el zs k) = el zs (k + 2) - el zs k := IntWalk.i64_in _ (by omega)
      have s8 : IntKind.i64.wrap (el zs (d + 2) - el zs d) = el zs (d + 2) - el zs d := IntWalk.i64_in _ (by omega)
      go_wp2_with fail
      go_quiet (fail)
      clear s1 s2 s3 s4 s5 s6 s7 s8
      go_wp2
      · go_roundw
        case rel => exact ⟨k + 1, _, k + 1, by omega, by go_num, by go_num, Lib.hid (HN.out.1 ‹_›), rfl⟩
        case measure => simp [intOf]; omega
      · go_roundw
        case rel => exact ⟨k + 1, _, d + 1, by omega, by go_num, by go_num, Lib.hid (HN.out.2 (by omega)), rfl⟩
        case measure => simp [intOf]; omega
    · go_wp2
      go_ret
      exact ⟨B, rfl, ⟨HB.out.1, HB.out.2.1, fun j hj => HB.out.2.2 j (by omega)⟩, q, rfl⟩
end Go.Proofs.Ytieopidlbfjhnaa
