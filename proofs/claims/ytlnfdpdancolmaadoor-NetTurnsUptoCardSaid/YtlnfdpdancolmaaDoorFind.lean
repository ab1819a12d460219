/- net.find: the index of the first effect with a key, or -1. Conditions: those in each statement. -/
import Derived.Test.YtlnfdpdancolmaaDoorCloneOut
namespace Go.Proofs.YtlnfdpdancolmaaDoor
open Go.RowKit

/-- the index of the first element with the property, or -1 -/
def idx {α : Type} (p : α → Bool) (l : List α) : Int := match l.findIdx? p with | some i => (i : Int) | none => -1
theorem idx_yes {α : Type} {p : α → Bool} {l : List α} {k : Nat} {x : α} (h : ∀ i y, i < k → l[i]? = some y → p y = false) (hx : l[k]? = some x) (hp : p x = true) : idx p l = (k : Int) := by
  unfold idx
  have : l.findIdx? p = some k := by
    rw [List.findIdx?_eq_some_iff_getElem]
    have hk : k < l.length := (List.getElem?_eq_some_iff.1 hx).1
    refine ⟨hk, by rw [List.getElem?_eq_getElem hk] at hx; injection hx with hx; rw [hx]; exact hp, fun j hj => ?_⟩
    have := h j l[j] hj (List.getElem?_eq_getElem (by omega))
    simp [this]
  rw [this]
theorem idx_no {α : Type} {p : α → Bool} {l : List α} (h : ∀ (i : Nat) y, l[i]? = some y → p y = false) : idx p l = -1 := by
  unfold idx
  have : l.findIdx? p = none := by
    rw [List.findIdx?_eq_none_iff]
    intro x hx
    obtain ⟨i, hi⟩ := List.getElem?_of_mem hx
    exact h i x hi
  rw [this]

def hasKey (key : ByteArray) (o : Out) : Bool := o.key.toList == key.toList

set_option maxHeartbeats 400000 in
theorem find1_any (x : Out) (A : Option Addr) (c : Nat) (key : ByteArray) (kb : Nat) (w : World) (hk : w.cell? ⟨kb, 0, none⟩ = some (.string key)) :
    Calls Tryd.prog 66 #[.agg #[.string x.key, .string x.name, .slice A x.args.length c, .bool x.part, .int .i64 x.tick], .pointer (some ⟨kb, 0, none⟩)] w fun e w' => e = .returned (.bool (hasKey key x)) ∧ Below w.heap.size w w' := by
  have hlt := World.block_lt_of_cell? w _ hk
  have hk2 : ∀ o, (w.alloc o).cell? ⟨kb, 0, none⟩ = some (.string key) := fun o => (World.cell?_alloc_lt w o ⟨kb, 0, none⟩ hlt).trans hk
  go_enter Tryd.func66, Tryd.ntmps66
  go_wp2_with fail
  go_ret
  exact ⟨rfl, (Below.refl _ _).alloc (Nat.le_refl _) _⟩

def IdxPost (p : Out → Bool) (l : List Out) (w : World) (e : Ending) (w' : World) : Prop := e = .returned (.int .i64 (idx p l)) ∧ Below w.heap.size w w'

set_option maxHeartbeats 1000000 in
theorem indexFind (l : List Out) (A : Option Addr) (n c : Nat) (key : ByteArray) (kb : Nat) (w : World) (hr : Rd (Lt w.heap.size) w (slOut l) (.slice A n c)) (hn : n ≤ 4194304) (hk : w.cell? ⟨kb, 0, none⟩ = some (.string key)) :
    Calls Tryd.prog 39 #[.slice A n c, .func (.func 66) #[] #[.pointer (some ⟨kb, 0, none⟩)]] w (IdxPost (hasKey key) l w) := by
  have hl := slOut_len hr
  have hkl := World.block_lt_of_cell? w _ hk
  have HR := Lib.hid hr
  have HL := Lib.hid hl.1
  have HK := Lib.hid hk
  clear hr hl hk
  go_enter Tryd.func39, Tryd.ntmps39
  go_wp2_with fail
  go_loopw [8] (fun i wr => ∃ k : Nat, k ≤ n ∧ i = .int .i64 k ∧ Hid (∀ (i : Nat) (y : Out), i < k → l[i]? = some y → hasKey key y = false) ∧ Hid (Below w.heap.size w wr)) (fun i _ => n - (intOf i).toNat)
  case atStart => exact ⟨0, by omega, rfl, Lib.hid (fun i y h => absurd h (by omega)), Lib.hid (Below.refl _ _)⟩
  case round =>
    obtain ⟨k, hk, rfl, HN, HB⟩ := hrel
    by_cases hlt : k < n
    · obtain ⟨b, off, x, rfl, _, hget, A', c', h2⟩ := slOut_at (HR.out.below HB.out (fun _ h => h)) hlt
      obtain ⟨d0, d1, d2, d3, d4, _⟩ := h2
      have HG := Lib.hid hget
      have HC := Lib.hid (find1_any x A' c' key kb wr ((HB.out.cell (p := ⟨kb, 0, none⟩) hkl).trans HK.out))
      clear hget
      cases hp : hasKey key x with
      | true =>
        have HI := Lib.hid (idx_yes HN.out HG.out hp)
        rw [hp] at HC
        clear hp
        go_wp2_with fail
        (with_reducible refine HC.out.mono ?_)
        rintro e w4 ⟨rfl, hb4⟩
        have B4 := Lib.hid (HB.out.trans (hb4.mono HB.out.size))
        clear hb4
        go_wp2_with fail
        go_ret
        exact ⟨by rw [HI.out]; rfl, B4.out⟩
      | false =>
        have HI : Hid (∀ (i : Nat) (y : Out), i < k + 1 → l[i]? = some y → hasKey key y = false) := Lib.hid (fun i y h hy => by
          rcases Nat.lt_or_ge i k with h1 | h1
          · exact HN.out i y h1 hy
          · obtain rfl : i = k := by omega
            rw [HG.out] at hy
            injection hy with hy
            rw [← hy]; exact hp)
        rw [hp] at HC
        clear hp
        go_wp2_with fail
        (with_reducible refine HC.out.mono ?_)
        rintro e w4 ⟨rfl, hb4⟩
        have B4 := Lib.hid (HB.out.trans (hb4.mono HB.out.size))
        clear hb4
        go_wp2_with fail
        go_roundw
        case rel => exact ⟨k + 1, by omega, by go_num, HI, B4⟩
        case measure => simp [intOf]; omega
    · have HI := Lib.hid (idx_no (p := hasKey key) (l := l) (fun i y hy => HN.out i y (by
        have := (List.getElem?_eq_some_iff.1 hy).1
        have := HL.out
        omega) hy))
      go_wp2_with fail
      go_ret
      exact ⟨by rw [HI.out]; rfl, HB.out⟩

set_option maxHeartbeats 400000 in
theorem find_any (l : List Out) (A : Option Addr) (n c : Nat) (key : ByteArray) (w : World) (hr : Rd (Lt w.heap.size) w (slOut l) (.slice A n c)) (hn : n ≤ 4194304) :
    Calls Tryd.prog 47 #[.slice A n c, .string key] w (IdxPost (hasKey key) l w) := by
  have HR := Lib.hid hr
  clear hr
  go_enter Tryd.func47, Tryd.ntmps47
  go_wp2_with fail
  (with_reducible refine (indexFind l A n c key w.heap.size _ ?_ hn ?_).mono ?_)
  · exact HR.out.allocs _
  · simp
  rintro e w1 ⟨rfl, hb⟩
  have HB : Hid (Below w.heap.size w w1) := Lib.hid (((Below.refl _ _).alloc (Nat.le_refl _) _).trans (hb.mono (by simp)))
  clear hb
  go_wp2_with fail
  go_ret
  exact ⟨rfl, HB.out⟩
end Go.Proofs.YtlnfdpdancolmaaDoor
