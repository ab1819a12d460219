/- net.equal, and slices.IndexFunc with it. Conditions: those in each statement. -/
import Derived.Test.YtlnfdpdancolmaaDoorSame
import Derived.Test.YtlnfdpdancolmaaDoorDelete
namespace Go.Proofs.YtlnfdpdancolmaaDoor
open Go.RowKit

/-- equal but for the tick -/
def eqO (a b : Out) : Bool := (a.key.toList == b.key.toList) && ((a.name.toList == b.name.toList) && ((a.part == b.part) && eqVs a.args b.args))
theorem eqO_iff (a b : Out) : eqO a b = true ↔ a.key = b.key ∧ a.name = b.name ∧ a.part = b.part ∧ a.args = b.args := by
  unfold eqO
  simp only [Bool.and_eq_true, beq_iff_eq, eqVs_iff]
  constructor
  · rintro ⟨h1, h2, h3, h4⟩; exact ⟨bytes_ext h1, bytes_ext h2, h3, h4⟩
  · rintro ⟨h1, h2, h3, h4⟩; exact ⟨by rw [h1], by rw [h2], h3, h4⟩

set_option maxHeartbeats 4000000 in
theorem nequal_any (x y : Out) (A : Option Addr) (c : Nat) (A' : Option Addr) (c' : Nat) (w : World) (hb : bulkV x.args ≤ 2097152) (hb' : bulkV y.args ≤ 2097152)
    (hr : Rd (Lt w.heap.size) w (vs x.args) (.slice A x.args.length c)) (hr' : Rd (Lt w.heap.size) w (vs y.args) (.slice A' y.args.length c')) :
    Calls Tryd.prog 41 #[.agg #[.string x.key, .string x.name, .slice A x.args.length c, .bool x.part, .int .i64 x.tick], .agg #[.string y.key, .string y.name, .slice A' y.args.length c', .bool y.part, .int .i64 y.tick]] w
      fun e w' => e = .returned (.bool (eqO x y)) ∧ Below w.heap.size w w' := by
  have HS := sameOk hb
  unfold SameOk at HS
  have HC := Lib.hid (HS y.args A A' x.args.length y.args.length c c')
  have HR := Lib.hid hr
  have HR' := Lib.hid hr'
  clear hr hr' HS
  have HU : Hid (eqO x y = ((x.key.toList == y.key.toList) && ((x.name.toList == y.name.toList) && ((x.part == y.part) && eqVs x.args y.args)))) := Lib.hid rfl
  generalize eqO x y = R at *
  have fin : ∀ a b : Obj, Below w.heap.size w ((w.alloc a).alloc b) := fun a b => ((Below.refl _ _).alloc (Nat.le_refl _) _).alloc (by simp) _
  have FIN := Lib.hid fin
  clear fin
  cases h1 : (x.key.toList == y.key.toList) with
  | false =>
    rw [h1] at HU
    go_enter Tryd.func41, Tryd.ntmps41
    go_wp2_with fail
    go_ret
    exact ⟨by rw [HU.out]; rfl, FIN.out _ _⟩
  | true =>
    rw [h1] at HU
    cases h2 : (x.name.toList == y.name.toList) with
    | false =>
      rw [h2] at HU
      go_enter Tryd.func41, Tryd.ntmps41
      go_wp2_with fail
      go_ret
      exact ⟨by rw [HU.out]; rfl, FIN.out _ _⟩
    | true =>
      rw [h2] at HU
      cases h3 : (x.part == y.part) with
      | false =>
        rw [h3] at HU
        go_enter Tryd.func41, Tryd.ntmps41
        go_wp2_with fail
        go_ret
        exact ⟨by rw [HU.out]; rfl, FIN.out _ _⟩
      | true =>
        rw [h3] at HU
        go_enter Tryd.func41, Tryd.ntmps41
        go_wp2_with fail
        (with_reducible refine (HC.out _ hb' ?_ ?_).mono ?_)
        · exact (HR.out.allocs _).allocs _
        · exact (HR'.out.allocs _).allocs _
        rintro e w1 ⟨rfl, hb1⟩
        have HB1 := Lib.hid hb1
        clear hb1
        go_wp2_with fail
        go_ret
        exact ⟨by rw [HU.out]; simp, (FIN.out _ _).trans (HB1.out.mono (by simp; omega))⟩

/-- block ob holds y -/
def OutIn (w : World) (ob : Nat) (y : Out) (A' : Option Addr) (c' : Nat) : Prop := w.heap[ob]? = some (.cells #[.string y.key, .string y.name, .slice A' y.args.length c', .bool y.part, .int .i64 y.tick] 45 (0, 0)) ∧ Rd (Lt w.heap.size) w (vs y.args) (.slice A' y.args.length c')
theorem OutIn.below {w w' : World} {ob : Nat} {y : Out} {A' : Option Addr} {c' : Nat} (h : OutIn w ob y A' c') (hb : Below w.heap.size w w') : OutIn w' ob y A' c' :=
  ⟨(hb.block ob (Array.getElem?_eq_some_iff.1 h.1).1).trans h.1, h.2.belows hb⟩

set_option maxHeartbeats 2000000 in
theorem same1_any (x y : Out) (A : Option Addr) (c : Nat) (A' : Option Addr) (c' ob : Nat) (w : World) (hb : bulkV x.args ≤ 2097152) (hb' : bulkV y.args ≤ 2097152)
    (hr : Rd (Lt w.heap.size) w (vs x.args) (.slice A x.args.length c)) (ho : OutIn w ob y A' c') :
    Calls Tryd.prog 40 #[.agg #[.string x.key, .string x.name, .slice A x.args.length c, .bool x.part, .int .i64 x.tick], .pointer (some ⟨ob, 0, none⟩)] w fun e w' => e = .returned (.bool (eqO x y)) ∧ Below w.heap.size w w' := by
  have hol : ob < w.heap.size := (Array.getElem?_eq_some_iff.1 ho.1).1
  have hbx := (Below.heap_alloc w (.cells #[.string x.key, .string x.name, .slice A x.args.length c, .bool x.part, .int .i64 x.tick] 45) ob hol).trans ho.1
  have q0 := (Lib.cell_of_heap hbx 0).trans rfl
  have q1 := (Lib.cell_of_heap hbx 1).trans rfl
  have q2 := (Lib.cell_of_heap hbx 2).trans rfl
  have q3 := (Lib.cell_of_heap hbx 3).trans rfl
  have q4 := (Lib.cell_of_heap hbx 4).trans rfl
  have HK := Lib.hid (nequal_any x y A c A' c' _ hb hb' (hr.allocs (.cells #[.string x.key, .string x.name, .slice A x.args.length c, .bool x.part, .int .i64 x.tick] 45)) (ho.2.allocs _))
  have hne : w.heap.size ≠ ob := by omega
  clear hbx ho hr
  go_enter Tryd.func40, Tryd.ntmps40
  go_wp2_with fail
  (with_reducible refine HK.out.mono ?_)
  rintro e w1 ⟨rfl, hb1⟩
  have HB := Lib.hid hb1
  clear hb1
  go_wp2_with fail
  go_ret
  exact ⟨rfl, ((Below.refl _ _).alloc (Nat.le_refl _) _).trans (HB.out.mono (by simp))⟩

set_option maxHeartbeats 2000000 in
theorem indexSame (l : List Out) (A : Option Addr) (n c : Nat) (y : Out) (A' : Option Addr) (c' ob : Nat) (w : World) (hr : Rd (Lt w.heap.size) w (slOut l) (.slice A n c)) (hn : n ≤ 4194304) (hbl : ∀ x ∈ l, bulkV x.args ≤ 2097152) (hb' : bulkV y.args ≤ 2097152) (ho : OutIn w ob y A' c') :
    Calls Tryd.prog 39 #[.slice A n c, .func (.func 40) #[] #[.pointer (some ⟨ob, 0, none⟩)]] w (IdxPost (fun x => eqO x y) l w) := by
  have hl := slOut_len hr
  have HR := Lib.hid hr
  have HL := Lib.hid hl.1
  have HO := Lib.hid ho
  have HBL := Lib.hid hbl
  clear hr hl ho hbl
  go_enter Tryd.func39, Tryd.ntmps39
  go_wp2_with fail
  go_loopw [8] (fun i wr => ∃ k : Nat, k ≤ n ∧ i = .int .i64 k ∧ Hid (∀ (i : Nat) (x : Out), i < k → l[i]? = some x → eqO x y = false) ∧ Hid (Below w.heap.size w wr)) (fun i _ => n - (intOf i).toNat)
  case atStart => exact ⟨0, by omega, rfl, Lib.hid (fun i y h => absurd h (by omega)), Lib.hid (Below.refl _ _)⟩
  case round =>
    obtain ⟨k, hk, rfl, HN, HB⟩ := hrel
    by_cases hlt : k < n
    · obtain ⟨b, off, x, e, hlb, hget, A2, c2, h2⟩ := slOut_at (HR.out.belows HB.out) hlt
      subst e
      obtain ⟨d0, d1, d2, d3, d4, r2⟩ := h2
      have HG := Lib.hid hget
      have HC := Lib.hid (same1_any x y A2 c2 A' c' ob wr (HBL.out x (List.mem_of_getElem? hget)) hb' r2 (HO.out.below HB.out))
      clear hget r2
      cases hp : eqO x y with
      | true =>
        have HI := Lib.hid (idx_yes (p := fun x => eqO x y) HN.out HG.out hp)
        rw [hp] at HC
        clear hp
        go_wp2_with fail
        (with_reducible refine HC.out.mono ?_)
        rintro e w4 ⟨rfl, hb4⟩
        have B4 := Lib.hid (HB.out.trans (hb4.mono HB.out.size))
        clear hb4
        go_wp2_with fail
        go_ret
        exact ⟨by rw [HI.out]; rfl, B4.out⟩
      | false =>
        have HI : Hid (∀ (i : Nat) (x : Out), i < k + 1 → l[i]? = some x → eqO x y = false) := Lib.hid (fun i z h hz => by
          rcases Nat.lt_or_ge i k with h1 | h1
          · exact HN.out i z h1 hz
          · obtain rfl : i = k := by omega
            rw [HG.out] at hz
            injection hz with hz
            rw [← hz]; exact hp)
        rw [hp] at HC
        clear hp
        go_wp2_with fail
        (with_reducible refine HC.out.mono ?_)
        rintro e w4 ⟨rfl, hb4⟩
        have B4 := Lib.hid (HB.out.trans (hb4.mono HB.out.size))
        clear hb4
        go_wp2_with fail
        exact ⟨⟨k + 1, by omega, by go_num, HI, B4⟩, by simp [intOf]; omega⟩
    · have HI := Lib.hid (idx_no (p := fun x => eqO x y) (l := l) (fun i z hz => HN.out i z (by
        have := (List.getElem?_eq_some_iff.1 hz).1
        have := HL.out
        omega) hz))
      go_wp2_with fail
      go_ret
      exact ⟨by rw [HI.out]; rfl, HB.out⟩
end Go.Proofs.YtlnfdpdancolmaaDoor
