/- clone of Out: a copy in new memory, and a slice of copies (written by wip/tools/gen_clone.py). Conditions: those in each statement. net.find: the index of the first effect with a key, or -1. Conditions: those in each statement. code.Num: the varint of a number. Conditions: those in each statement. -/
import Derived.Test.YtlnfdpdancolmaaDoorYRefSameEach
import Derived.Test.YtlnfdpdancolmaaDoorProg
import Derived.Test.YtlnfdpdancolmaaDoorYMem
import Derived.Laws.BytesArg
import Derived.Laws.BitsAllLaws
import Derived.Laws.BitsLemmas
namespace Go.Proofs.YtlnfdpdancolmaaDoor
open Go.RowKit

theorem infoOut : (Tryd.prog.info? 45).map (fun i => (i.zero, i.size, i.bytes)) = some (some (.agg #[.string ⟨#[]⟩, .string ⟨#[]⟩, .slice none 0 0, .bool false, .int .i64 0]), 5, 72) := by kernel_rfl

def CloneOutPost (x : Out) (w : World) (e : Ending) (w' : World) : Prop :=
  ∃ A c, e = .returned (.agg #[.string x.key, .string x.name, .slice A x.args.length c, .bool x.part, .int .i64 x.tick]) ∧ Rd (Bt w.heap.size w'.heap.size) w' (vs x.args) (.slice A x.args.length c) ∧ Below w.heap.size w w'

set_option maxHeartbeats 1000000 in
theorem clone_Out (x : Out) (A : Option Addr) (c : Nat) (w : World) (hr : Rd (Lt w.heap.size) w (vs x.args) (.slice A x.args.length c)) (hbk : bulkV x.args ≤ 2097152) :
    Calls Tryd.prog 46 #[.agg #[.string x.key, .string x.name, .slice A x.args.length c, .bool x.part, .int .i64 x.tick]] w (CloneOutPost x w) := by
  have HR := Lib.hid hr
  clear hr
  go_enter Tryd.func46, Tryd.ntmps46
  go_wp2_with fail
  (with_reducible refine (clone_values (l := x.args) ?_ hbk).mono ?_)
  · exact (HR.out.allocs _).allocs _
  rintro e w3 ⟨v, rfl, hr, hb⟩
  obtain ⟨A', c', rfl, _⟩ := hr.sl_inv
  have q0 : w3.cell? ⟨w.heap.size, 0, none⟩ = some (.string x.key) := (hb.cell (p := ⟨w.heap.size, 0, none⟩) (by simp; omega)).trans (by simp)
  have q1 : w3.cell? ⟨w.heap.size, 1, none⟩ = some (.string x.name) := (hb.cell (p := ⟨w.heap.size, 1, none⟩) (by simp; omega)).trans (by simp)
  have q2 : w3.cell? ⟨w.heap.size, 2, none⟩ = some (.slice A x.args.length c) := (hb.cell (p := ⟨w.heap.size, 2, none⟩) (by simp; omega)).trans (by simp)
  have q3 : w3.cell? ⟨w.heap.size, 3, none⟩ = some (.bool x.part) := (hb.cell (p := ⟨w.heap.size, 3, none⟩) (by simp; omega)).trans (by simp)
  have q4 : w3.cell? ⟨w.heap.size, 4, none⟩ = some (.int .i64 x.tick) := (hb.cell (p := ⟨w.heap.size, 4, none⟩) (by simp; omega)).trans (by simp)
  have z0 : w3.cell? ⟨w.heap.size + 1, 0, none⟩ = some (.string ⟨#[]⟩) := (hb.cell (p := ⟨w.heap.size + 1, 0, none⟩) (by simp)).trans (by simp)
  have z1 : w3.cell? ⟨w.heap.size + 1, 1, none⟩ = some (.string ⟨#[]⟩) := (hb.cell (p := ⟨w.heap.size + 1, 1, none⟩) (by simp)).trans (by simp)
  have z2 : w3.cell? ⟨w.heap.size + 1, 2, none⟩ = some (.slice none 0 0) := (hb.cell (p := ⟨w.heap.size + 1, 2, none⟩) (by simp)).trans (by simp)
  have z3 : w3.cell? ⟨w.heap.size + 1, 3, none⟩ = some (.bool false) := (hb.cell (p := ⟨w.heap.size + 1, 3, none⟩) (by simp)).trans (by simp)
  have z4 : w3.cell? ⟨w.heap.size + 1, 4, none⟩ = some (.int .i64 0) := (hb.cell (p := ⟨w.heap.size + 1, 4, none⟩) (by simp)).trans (by simp)
  have f0 : ∀ j, w3.frozen? ⟨w.heap.size, j, none⟩ = false := fun j => (hb.frozen (p := ⟨w.heap.size, j, none⟩) (by simp; omega)).trans (by simp)
  have f1 : ∀ j, w3.frozen? ⟨w.heap.size + 1, j, none⟩ = false := fun j => (hb.frozen (p := ⟨w.heap.size + 1, j, none⟩) (by simp)).trans (by simp)
  have hz := hb.size
  have HB := Lib.hid hb
  have HR3 := Lib.hid hr
  clear hb hr
  simp only [World.size_alloc] at hz
  go_wp2_with fail
  refine bodyPost_ret (v := .agg #[.string x.key, .string x.name, .slice A' x.args.length c', .bool x.part, .int .i64 x.tick]) (by simp [results, Tryd.results46, go_sem, z0, z1, z2, z3, z4]) rfl ⟨A', c', rfl, ?_, ?_⟩
  · have h0 : ∀ b, Bt (w.heap.size + 1 + 1) w3.heap.size b → b ≠ w.heap.size := fun b hb => by have := hb.1; omega
    have h1 : ∀ b, Bt (w.heap.size + 1 + 1) w3.heap.size b → b ≠ w.heap.size + 1 := fun b hb => by have := hb.1; omega
    have hr : Rd (Bt (w.heap.size + 1 + 1) w3.heap.size) w3 (vs x.args) (.slice A' x.args.length c') := by simpa using HR3.out
    refine Rd.weaken (ok := Bt (w.heap.size + 1 + 1) w3.heap.size) (fun b hb => ⟨by have := hb.1; omega, by simp only [size_setCell]; exact hb.2⟩) ?_
    exact (((((hr.setCell h0 _).setCell h1 _).setCell h1 _).setCell h1 _).setCell h1 _).setCell h1 _
  · have hb : Below w.heap.size w w3 := (((Below.refl _ _).alloc (Nat.le_refl _) _).alloc (by simp) _).trans (HB.out.mono (by simp; omega))
    exact (((((hb.setCell (Nat.le_refl _) _).setCell (by simp) _).setCell (by simp) _).setCell (by simp) _).setCell (by simp) _).setCell (by simp) _

set_option maxHeartbeats 1000000 in
theorem each_Out (l : List Out) (A : Option Addr) (n c : Nat) (w : World) (hr : Rd (Lt w.heap.size) w (slOut l) (.slice A n c)) (hb : bulkOut l ≤ 2097152) :
    Calls Tryd.prog 45 #[.slice A n c, .func (.func 46) #[] #[]] w (OwnPost 45 5 l.length (rowsOut l) w) := by
  have hl := slOut_len hr
  have hn : n ≤ 2097152 := by have := bulkOut_len l; omega
  obtain ⟨i0, hi, hz0, hz1, hz2⟩ := info_parts infoOut
  have q22 : ∀ (w : World) (a : Option Addr) (n c n' c' : Nat), (binOp .eql 22 (.slice a n c) (.slice none n' c')).run Tryd.prog w = .ok (.bool a.isNone) w := fun w a n c n' c' => Lib.run_eql_slice_nil w _ _ a n c n' c' Tryd.underlying22
  have HR := Lib.hid hr
  have HL := Lib.hid hl.1
  have HBK := Lib.hid hb
  cases A with
  | none =>
    have hz : n = 0 := by
      rcases Nat.eq_zero_or_pos n with h | h
      · exact h
      · obtain ⟨b, off, _, e, _⟩ := slOut_at hr h
        cases e
    subst hz
    clear hr hl hb
    go_enter Tryd.func45, Tryd.ntmps45
    go_wp2_with fail
    go_ret
    refine ⟨.slice none 0 0, rfl, ?_, Below.refl _ _⟩
    have := HL.out
    rw [← this]
    exact Owned.nil _ _ _ _ _
  | some ad =>
    have hmk : ∀ W : World, (Instr.makeSlice 22 (.int .i64 (n : Int)) (.int .i64 (n : Int))).run Tryd.prog W = .ok (.slice (some ⟨W.heap.size, 0, none⟩) n n) (W.alloc (.cells (madeCells (Value.agg #[.string ⟨#[]⟩, .string ⟨#[]⟩, .slice none 0 0, .bool false, .int .i64 0]).cells (n * 5)) 45)) := fun W => by
      have := run_make_rowN (P := Tryd.prog) 22 45 i0 _ Tryd.underlying22 hi hz0 .i64 .i64 n n (Nat.le_refl _) (by rw [hz2]; omega) (by omega) W
      rw [hz1] at this
      exact this
    clear hr hl hb
    generalize hmd : madeCells (Value.agg #[.string ⟨#[]⟩, .string ⟨#[]⟩, .slice none 0 0, .bool false, .int .i64 0]).cells (n * 5) = made at hmk
    have hms : made.size = n * 5 := by rw [← hmd]; exact size_madeCells _ _
    have HMS := Lib.hid hms
    clear hmd hms
    go_enter Tryd.func45, Tryd.ntmps45
    go_wp2_with fail
    go_loopw [15] (fun i wr => ∃ k : Nat, k ≤ n ∧ i = .int .i64 k ∧ Hid (Filled 45 (w.heap.size + 1) w.heap.size 5 n k (rowsOut l) wr) ∧ Hid (Below w.heap.size w wr)) (fun i _ => n - (intOf i).toNat)
    case atStart =>
      refine ⟨0, by omega, rfl, Lib.hid ⟨?_, fun a ha => absurd ha (by omega)⟩, Lib.hid ((Below.refl _ _).alloc (Nat.le_refl _) _)⟩
      rw [← HMS.out]
      exact Blk.new _ _ _
    case round =>
      obtain ⟨k, hk, rfl, HF, HB⟩ := hrel
      by_cases hlt : k < n
      · obtain ⟨b, off, x, e, hlb, hget, A', c', h2⟩ := slOut_at (HR.out.below HB.out (fun _ h => h)) hlt
        injection e with e
        subst e
        obtain ⟨d0, d1, d2, d3, d4, r5⟩ := h2
        have hbs := HB.out.size
        have hxb : bulkV x.args ≤ 2097152 := by have := bulkOut_get hget; unfold Out.bulk at this; have := HBK.out; omega
        have R5 := Lib.hid (r5.weaken (ok' := Lt wr.heap.size) (fun b hb => Nat.lt_of_lt_of_le hb hbs))
        have HG := Lib.hid hget
        clear r5 hget
        go_wp2_with fail
        (with_reducible refine (clone_Out x A' c' _ ?_ hxb).mono ?_)
        · exact R5.out.allocs _
        rintro e w4 ⟨A4, c4', rfl, hr4, hb4⟩
        simp only [World.size_alloc] at hr4
        have hbr : Below wr.heap.size wr w4 := ((Below.refl _ _).alloc (Nat.le_refl _) _).trans (hb4.mono (by simp))
        have F4 := Lib.hid (HF.out.below hbr)
        have B4 := Lib.hid (HB.out.trans (hbr.mono hbs))
        have f0 := F4.out.1.frozen
        have h4s := fun j (hj : j < n * 5) => F4.out.1.some hj
        obtain ⟨u0, hu0⟩ : ∃ u, w4.cell? ⟨w.heap.size, k * 5, none⟩ = some u := Option.isSome_iff_exists.1 (h4s (k * 5) (by omega))
        obtain ⟨u1, hu1⟩ : ∃ u, w4.cell? ⟨w.heap.size, k * 5 + 1, none⟩ = some u := Option.isSome_iff_exists.1 (h4s (k * 5 + 1) (by omega))
        obtain ⟨u2, hu2⟩ : ∃ u, w4.cell? ⟨w.heap.size, k * 5 + 2, none⟩ = some u := Option.isSome_iff_exists.1 (h4s (k * 5 + 2) (by omega))
        obtain ⟨u3, hu3⟩ : ∃ u, w4.cell? ⟨w.heap.size, k * 5 + 3, none⟩ = some u := Option.isSome_iff_exists.1 (h4s (k * 5 + 3) (by omega))
        obtain ⟨u4, hu4⟩ : ∃ u, w4.cell? ⟨w.heap.size, k * 5 + 4, none⟩ = some u := Option.isSome_iff_exists.1 (h4s (k * 5 + 4) (by omega))
        have HS : Hid (Filled 45 (w.heap.size + 1) w.heap.size 5 n (k + 1) (rowsOut l) (w4.setCells w.heap.size (k * 5) [Value.string x.key, .string x.name, .slice A4 x.args.length c4', .bool x.part, .int .i64 x.tick])) := Lib.hid (F4.out.step (by omega) hlt rfl (fun j u hj => by
          rw [rowsOut_get HG.out]
          exact cells_rdOut (hr4.weaken (fun b hb => ⟨by have := hb.1; omega, hb.2⟩)) j u hj))
        have HT : Hid (Below w.heap.size w (w4.setCells w.heap.size (k * 5) [Value.string x.key, .string x.name, .slice A4 x.args.length c4', .bool x.part, .int .i64 x.tick])) := Lib.hid (below_setCells _ (Nat.le_refl _) _ _ B4.out)
        clear h4s hb4 hr4 hbr
        go_wp2_with fail
        exact ⟨⟨k + 1, by omega, by go_num, HS, HT⟩, by simp [intOf]; omega⟩
      · obtain rfl : k = n := by omega
        go_wp2_with fail
        go_ret
        refine ⟨_, rfl, ?_, HB.out⟩
        have := HL.out
        have hd := HF.out.done (by omega) w.heap.size (Nat.le_refl _) (by omega)
        rw [← this]
        exact hd
end Go.Proofs.YtlnfdpdancolmaaDoor
namespace Go.Proofs.YtlnfdpdancolmaaDoor
open Go.RowKit

/-- the index of the first element with the property, or -1 -/
def idx {α : Type} (p : α → Bool) (l : List α) : Int := match l.findIdx? p with | some i => (i : Int) | none => -1
theorem idx_yes {α : Type} {p : α → Bool} {l : List α} {k : Nat} {x : α} (h : ∀ i y, i < k → l[i]? = some y → p y = false) (hx : l[k]? = some x) (hp : p x = true) : idx p l = (k : Int) := by
  unfold idx
  have : l.findIdx? p = some k := by
    rw [List.findIdx?_eq_some_iff_getElem]
    have hk : k < l.length := (List.getElem?_eq_some_iff.1 hx).1
    refine ⟨hk, by rw [List.getElem?_eq_getElem hk] at hx; injection hx with hx; rw [hx]; exact hp, fun j hj => ?_⟩
    have := h j l[j] hj (List.getElem?_eq_getElem (by omega))
    simp [this]
  rw [this]
theorem idx_no {α : Type} {p : α → Bool} {l : List α} (h : ∀ (i : Nat) y, l[i]? = some y → p y = false) : idx p l = -1 := by
  unfold idx
  have : l.findIdx? p = none := by
    rw [List.findIdx?_eq_none_iff]
    intro x hx
    obtain ⟨i, hi⟩ := List.getElem?_of_mem hx
    exact h i x hi
  rw [this]

def hasKey (key : ByteArray) (o : Out) : Bool := o.key.toList == key.toList

set_option maxHeartbeats 400000 in
theorem find1_any (x : Out) (A : Option Addr) (c : Nat) (key : ByteArray) (kb : Nat) (w : World) (hk : w.cell? ⟨kb, 0, none⟩ = some (.string key)) :
    Calls Tryd.prog 66 #[.agg #[.string x.key, .string x.name, .slice A x.args.length c, .bool x.part, .int .i64 x.tick], .pointer (some ⟨kb, 0, none⟩)] w fun e w' => e = .returned (.bool (hasKey key x)) ∧ Below w.heap.size w w' := by
  have hlt := World.block_lt_of_cell? w _ hk
  have hk2 : ∀ o, (w.alloc o).cell? ⟨kb, 0, none⟩ = some (.string key) := fun o => (World.cell?_alloc_lt w o ⟨kb, 0, none⟩ hlt).trans hk
  go_enter Tryd.func66, Tryd.ntmps66
  go_wp2_with fail
  go_ret
  exact ⟨rfl, (Below.refl _ _).alloc (Nat.le_refl _) _⟩

def IdxPost (p : Out → Bool) (l : List Out) (w : World) (e : Ending) (w' : World) : Prop := e = .returned (.int .i64 (idx p l)) ∧ Below w.heap.size w w'

set_option maxHeartbeats 1000000 in
theorem indexFind (l : List Out) (A : Option Addr) (n c : Nat) (key : ByteArray) (kb : Nat) (w : World) (hr : Rd (Lt w.heap.size) w (slOut l) (.slice A n c)) (hn : n ≤ 4194304) (hk : w.cell? ⟨kb, 0, none⟩ = some (.string key)) :
    Calls Tryd.prog 39 #[.slice A n c, .func (.func 66) #[] #[.pointer (some ⟨kb, 0, none⟩)]] w (IdxPost (hasKey key) l w) := by
  have hl := slOut_len hr
  have hkl := World.block_lt_of_cell? w _ hk
  have HR := Lib.hid hr
  have HL := Lib.hid hl.1
  have HK := Lib.hid hk
  clear hr hl hk
  go_enter Tryd.func39, Tryd.ntmps39
  go_wp2_with fail
  go_loopw [8] (fun i wr => ∃ k : Nat, k ≤ n ∧ i = .int .i64 k ∧ Hid (∀ (i : Nat) (y : Out), i < k → l[i]? = some y → hasKey key y = false) ∧ Hid (Below w.heap.size w wr)) (fun i _ => n - (intOf i).toNat)
  case atStart => exact ⟨0, by omega, rfl, Lib.hid (fun i y h => absurd h (by omega)), Lib.hid (Below.refl _ _)⟩
  case round =>
    obtain ⟨k, hk, rfl, HN, HB⟩ := hrel
    by_cases hlt : k < n
    · obtain ⟨b, off, x, rfl, _, hget, A', c', h2⟩ := slOut_at (HR.out.below HB.out (fun _ h => h)) hlt
      obtain ⟨d0, d1, d2, d3, d4, _⟩ := h2
      have HG := Lib.hid hget
      have HC := Lib.hid (find1_any x A' c' key kb wr ((HB.out.cell (p := ⟨kb, 0, none⟩) hkl).trans HK.out))
      clear hget
      cases hp : hasKey key x with
      | true =>
        have HI := Lib.hid (idx_yes HN.out HG.out hp)
        rw [hp] at HC
        clear hp
        go_wp2_with fail
        (with_reducible refine HC.out.mono ?_)
        rintro e w4 ⟨rfl, hb4⟩
        have B4 := Lib.hid (HB.out.trans (hb4.mono HB.out.size))
        clear hb4
        go_wp2_with fail
        go_ret
        exact ⟨by rw [HI.out]; rfl, B4.out⟩
      | false =>
        have HI : Hid (∀ (i : Nat) (y : Out), i < k + 1 → l[i]? = some y → hasKey key y = false) := Lib.hid (fun i y h hy => by
          rcases Nat.lt_or_ge i k with h1 | h1
          · exact HN.out i y h1 hy
          · obtain rfl : i = k := by omega
            rw [HG.out] at hy
            injection hy with hy
            rw [← hy]; exact hp)
        rw [hp] at HC
        clear hp
        go_wp2_with fail
        (with_reducible refine HC.out.mono ?_)
        rintro e w4 ⟨rfl, hb4⟩
        have B4 := Lib.hid (HB.out.trans (hb4.mono HB.out.size))
        clear hb4
        go_wp2_with fail
        go_roundw
        case rel => exact ⟨k + 1, by omega, by go_num, HI, B4⟩
        case measure => simp [intOf]; omega
    · have HI := Lib.hid (idx_no (p := hasKey key) (l := l) (fun i y hy => HN.out i y (by
        have := (List.getElem?_eq_some_iff.1 hy).1
        have := HL.out
        omega) hy))
      go_wp2_with fail
      go_ret
      exact ⟨by rw [HI.out]; rfl, HB.out⟩

set_option maxHeartbeats 400000 in
theorem find_any (l : List Out) (A : Option Addr) (n c : Nat) (key : ByteArray) (w : World) (hr : Rd (Lt w.heap.size) w (slOut l) (.slice A n c)) (hn : n ≤ 4194304) :
    Calls Tryd.prog 47 #[.slice A n c, .string key] w (IdxPost (hasKey key) l w) := by
  have HR := Lib.hid hr
  clear hr
  go_enter Tryd.func47, Tryd.ntmps47
  go_wp2_with fail
  (with_reducible refine (indexFind l A n c key w.heap.size _ ?_ hn ?_).mono ?_)
  · exact HR.out.allocs _
  · simp
  rintro e w1 ⟨rfl, hb⟩
  have HB : Hid (Below w.heap.size w w1) := Lib.hid (((Below.refl _ _).alloc (Nat.le_refl _) _).trans (hb.mono (by simp)))
  clear hb
  go_wp2_with fail
  go_ret
  exact ⟨rfl, HB.out⟩
end Go.Proofs.YtlnfdpdancolmaaDoor
namespace Go.Proofs.YtlnfdpdancolmaaDoor
open Go.RowKit

theorem ofInt_i64 (a : Nat) (ha : a < 9223372036854775808) : (BitVec.ofInt 64 (a : Int)).toNat = a := by
  rw [BitVec.ofInt_natCast, BitVec.toNat_ofNat]; exact Nat.mod_eq_of_lt (by omega)
theorem i64_and_nat (a b : Nat) (ha : a < 9223372036854775808) (hb : b < 9223372036854775808) : bits .and .i64 (a : Int) (b : Int) = ((a &&& b : Nat) : Int) := by
  have hx : a &&& b < 2 ^ 63 := Nat.and_lt_two_pow _ (by omega)
  show IntKind.i64.wrap ((BitVec.ofInt 64 (a : Int) &&& BitVec.ofInt 64 (b : Int)).toNat : Int) = _
  rw [BitVec.toNat_and, ofInt_i64 a ha, ofInt_i64 b hb, IntKind.wrap_i64]
  omega
theorem i64_or_nat (a b : Nat) (ha : a < 9223372036854775808) (hb : b < 9223372036854775808) : bits .or .i64 (a : Int) (b : Int) = ((a ||| b : Nat) : Int) := by
  have hx : a ||| b < 2 ^ 63 := Nat.or_lt_two_pow (by omega) (by omega)
  show IntKind.i64.wrap ((BitVec.ofInt 64 (a : Int) ||| BitVec.ofInt 64 (b : Int)).toNat : Int) = _
  rw [BitVec.toNat_or, ofInt_i64 a ha, ofInt_i64 b hb, IntKind.wrap_i64]
  omega
theorem low7 (n : Nat) (hn : n < 9223372036854775808) : bits .and .i64 (n : Int) 127 = ((n % 128 : Nat) : Int) := by
  have h := i64_and_nat n 127 hn (by omega)
  have e : n &&& 127 = n % 128 := Nat.and_two_pow_sub_one_eq_mod n 7
  rw [e] at h; exact h
theorem top7 (m : Nat) (hm : m < 128) : bits .or .i64 (m : Int) 128 = ((m + 128 : Nat) : Int) := by
  have h := i64_or_nat m 128 (by omega) (by omega)
  have e : m ||| 128 = m + 128 := by
    have := Nat.two_pow_add_eq_or_of_lt (i := 7) hm 1
    rw [Nat.or_comm]
    have e2 : 2 ^ 7 * 1 = 128 := rfl
    rw [e2] at this
    omega
  rw [e] at h; exact h

/-- the bytes of a varint, with fuel -/
def numI : Nat → Nat → List Int
  | 0, _ => []
  | f + 1, n => if n < 128 then [(n : Int)] else ((n : Int) % 128 + 128) :: numI f (n / 128)
/-- the varint of a number below 2^63 -/
def numB (n : Nat) : ByteArray := strOfNums (numI 9 n)

theorem low7' (m : Nat) (hm : m ≤ 9223372036854775807) : bits .and .i64 (m : Int) 127 = (m : Int) % 128 := by
  have := low7 m (by omega); rw [this]; omega
theorem top7' (m : Nat) : bits .or .i64 ((m : Int) % 128) 128 = (m : Int) % 128 + 128 := by
  have := top7 (m % 128) (by omega)
  have e : ((m % 128 : Nat) : Int) = (m : Int) % 128 := by omega
  rw [e] at this; rw [this]; omega

/-- how far the loop has come: xs are the bytes so far, m is the rest -/
def NumTo (n k m : Nat) (xs : List Int) (g : Nat) (wr : World) : Prop :=
  m = n / 128 ^ k ∧ xs.length = k ∧ numI 9 n = xs ++ numI (9 - k) m ∧ ∀ j, j < k → wr.cell? ⟨g, j, none⟩ = some (.int .u8 (xs.getD j 0))
theorem NumTo.step {n k m : Nat} {xs : List Int} {g : Nat} {wr : World} (h : NumTo n k m xs g wr) (hk : k ≤ 8) (hm : 128 ≤ m) {u : Value} (hu : wr.cell? ⟨g, k, none⟩ = some u) :
    NumTo n (k + 1) (m / 128) (xs ++ [(m : Int) % 128 + 128]) g (wr.setCell ⟨g, k, none⟩ (.int .u8 ((m : Int) % 128 + 128))) := by
  obtain ⟨h1, h2, h3, h4⟩ := h
  refine ⟨by rw [h1, Nat.div_div_eq_div_mul, Nat.pow_succ], by simp [h2], ?_, fun j hj => ?_⟩
  · rw [h3, show 9 - k = (9 - (k + 1)) + 1 by omega, numI, if_neg (by omega)]; simp
  · by_cases hjk : j = k
    · subst hjk
      rw [World.cell?_setCell_same _ _ _ hu, List.getD_eq_getElem?_getD, List.getElem?_append_right (by omega)]; simp [h2]
    · rw [World.cell?_setCell_other _ _ _ _ (by simp <;> omega), h4 j (by omega), List.getD_eq_getElem?_getD, List.getD_eq_getElem?_getD, List.getElem?_append_left (by omega)]
theorem NumTo.fin {n k m : Nat} {xs : List Int} {g : Nat} {wr : World} (h : NumTo n k m xs g wr) (hk : k ≤ 8) (hm : m < 128) {u : Value} (hu : wr.cell? ⟨g, k, none⟩ = some u) :
    numI 9 n = xs ++ [(m : Int)] ∧ ∀ j, j < k + 1 → (wr.setCell ⟨g, k, none⟩ (.int .u8 (m : Int))).cell? ⟨g, 0 + j, none⟩ = some (.int .u8 ((xs ++ [(m : Int)]).getD j 0)) := by
  obtain ⟨h1, h2, h3, h4⟩ := h
  refine ⟨?_, fun j hj => ?_⟩
  · rw [h3, show 9 - k = (8 - k) + 1 by omega, numI, if_pos hm]
  · rw [Nat.zero_add]
    by_cases hjk : j = k
    · subst hjk
      rw [World.cell?_setCell_same _ _ _ hu, List.getD_eq_getElem?_getD, List.getElem?_append_right (by omega)]; simp [h2]
    · rw [World.cell?_setCell_other _ _ _ _ (by simp <;> omega), h4 j (by omega), List.getD_eq_getElem?_getD, List.getD_eq_getElem?_getD, List.getElem?_append_left (by omega)]

set_option maxHeartbeats 400000 in
set_option maxRecDepth 100000 in
theorem num_any (n : Nat) (hn : n ≤ 9223372036854775807) (w : World) : Calls Tryd.prog 54 #[.int .i64 (n : Int)] w fun e w' => e = .returned (.string (numB n)) ∧ Below w.heap.size w w' := by
  go_enter Tryd.func54, Tryd.ntmps54
  go_wp2_with fail
  go_loopw [0, 4] (fun s0 s4 wr => ∃ (k m : Nat) (xs : List Int), k ≤ 8 ∧ s4 = .int .i64 k ∧ m ≤ 9223372036854775807 ∧ s0 = .int .i64 m ∧ Hid (NumTo n k m xs w.heap.size wr) ∧ Hid (Blk wr w.heap.size 100 9) ∧ Hid (Below w.heap.size w wr)) (fun s0 _ _ => (intOf s0).toNat)
  case atStart => exact ⟨0, n, [], by omega, rfl, hn, rfl, Lib.hid ⟨by simp, rfl, rfl, fun j hj => absurd hj (by omega)⟩, Lib.hid (Blk.new _ _ _), Lib.hid ((Below.refl _ _).alloc (Nat.le_refl _) _)⟩
  case round =>
    obtain ⟨k, m, xs, hk, rfl, hm, rfl, HN, HK, HB⟩ := hrel
    obtain ⟨u, hu⟩ := Option.isSome_iff_exists.1 (HK.out.some (j := k) (by omega))
    have hf := HK.out.frozen k
    have hk9 : (k : Int) < 9 := by omega
    by_cases h : 128 ≤ m
    · have hl := low7' m hm
      have ht := top7' m
      have hx : ((m : Int) % 128 + 128) % 256 = (m : Int) % 128 + 128 := by omega
      have hk7 : k ≤ 7 := by
        rcases Nat.lt_or_ge k 8 with h8 | h8
        · omega
        · obtain rfl : k = 8 := by omega
          have := HN.out.1
          have e : 128 ^ 8 = 72057594037927936 := by decide
          rw [e] at this; omega
      have HS := Lib.hid (HN.out.step hk h hu)
      have HK2 : Hid (Blk (wr.setCell ⟨w.heap.size, k, none⟩ (.int .u8 ((m : Int) % 128 + 128))) w.heap.size 100 9) := Lib.hid (HK.out.setCells w.heap.size k [.int .u8 ((m : Int) % 128 + 128)])
      have HB2 := Lib.hid (HB.out.setCell (p := ⟨w.heap.size, k, none⟩) (Nat.le_refl _) (.int .u8 ((m : Int) % 128 + 128)))
      go_wp2_with fail
      exact ⟨⟨k + 1, m / 128, _, by omega, by go_num, by omega, by go_num, HS, HK2, HB2⟩, by simp [intOf]; omega⟩
    · obtain ⟨e1, e2⟩ := HN.out.fin hk (by omega) hu
      have hcv := run_convert_bytes_arg (P := Tryd.prog) (wr.setCell ⟨w.heap.size, k, none⟩ (.int .u8 (m : Int))) 74 5 Tryd.underlying74 Tryd.underlying5 w.heap.size 0 (k + 1) 9 (xs ++ [(m : Int)]) (by have := HN.out.2.1; simp [this]) e2 9 Tryd.underlying9
      have E1 := Lib.hid e1
      have HB2 := Lib.hid (HB.out.setCell (p := ⟨w.heap.size, k, none⟩) (Nat.le_refl _) (.int .u8 (m : Int)))
      have g1 : (0 : Int) ≤ (k : Int) + 1 := by omega
      have g2 : (k : Int) + 1 ≤ 9 := by omega
      clear e1 e2
      go_wp2_with fail
      go_ret
      exact ⟨by unfold numB; rw [E1.out]; rfl, HB2.out⟩

set_option maxHeartbeats 400000 in
theorem num_neg (n : Int) (hn : n < 0) (w : World) : Calls Tryd.prog 54 #[.int .i64 n] w fun e w' => e = .returned (.string ⟨#[]⟩) ∧ w = w' := by
  go_enter Tryd.func54, Tryd.ntmps54
  go_wp2_with fail
  go_ret
  exact ⟨rfl, rfl⟩

/-- the varint of an int, empty below 0 -/
def numZ (n : Int) : ByteArray := if n < 0 then ⟨#[]⟩ else numB n.toNat
theorem num_int (n : Int) (hn : n ≤ 9223372036854775807) (w : World) : Calls Tryd.prog 54 #[.int .i64 n] w fun e w' => e = .returned (.string (numZ n)) ∧ Below w.heap.size w w' := by
  by_cases h : n < 0
  · refine (num_neg n h w).mono ?_
    rintro e w' ⟨rfl, rfl⟩
    exact ⟨by unfold numZ; rw [if_pos h], Below.refl _ _⟩
  · obtain ⟨m, rfl⟩ := Int.eq_ofNat_of_zero_le (show 0 ≤ n by omega)
    refine (num_any m (by omega) w).mono ?_
    rintro e w' ⟨rfl, hb⟩
    exact ⟨by unfold numZ; rw [if_neg h, Int.toNat_natCast], hb⟩

/-- the zigzag varint -/
def intB (n : Int) : ByteArray := if n < -1152921504606846976 ∨ 1152921504606846976 < n then ⟨#[]⟩ else if n < 0 then numB (-2 * n - 1).toNat else numB (2 * n).toNat

set_option maxHeartbeats 400000 in
theorem int_any (n : Int) (w : World) : Calls Tryd.prog 53 #[.int .i64 n] w fun e w' => e = .returned (.string (intB n)) ∧ Below w.heap.size w w' := by
  by_cases h1 : n < -1152921504606846976
  · have HE : Hid (intB n = ⟨#[]⟩) := Lib.hid (by unfold intB; rw [if_pos (.inl h1)])
    go_enter Tryd.func53, Tryd.ntmps53
    go_wp2_with fail
    go_ret
    exact ⟨by rw [HE.out]; rfl, Below.refl _ _⟩
  by_cases h2 : 1152921504606846976 < n
  · have HE : Hid (intB n = ⟨#[]⟩) := Lib.hid (by unfold intB; rw [if_pos (.inr h2)])
    go_enter Tryd.func53, Tryd.ntmps53
    go_wp2_with fail
    go_ret
    exact ⟨by rw [HE.out]; rfl, Below.refl _ _⟩
  by_cases h3 : n < 0
  · have HE : Hid (intB n = numZ (-2 * n - 1)) := Lib.hid (by
      unfold intB numZ; rw [if_neg (fun h => by omega), if_pos h3, if_neg (by omega)])
    have HC := Lib.hid (num_int (-2 * n - 1) (by omega) w)
    go_enter Tryd.func53, Tryd.ntmps53
    go_wp2_with fail
    (with_reducible refine HC.out.mono ?_)
    rintro e w1 ⟨rfl, hb⟩
    have HB := Lib.hid hb
    clear hb
    go_wp2_with fail
    go_ret
    exact ⟨by rw [HE.out]; rfl, HB.out⟩
  · have HE : Hid (intB n = numZ (2 * n)) := Lib.hid (by
      unfold intB numZ; rw [if_neg (fun h => by omega), if_neg h3, if_neg (by omega)])
    have HC := Lib.hid (num_int (2 * n) (by omega) w)
    go_enter Tryd.func53, Tryd.ntmps53
    go_wp2_with fail
    (with_reducible refine HC.out.mono ?_)
    rintro e w1 ⟨rfl, hb⟩
    have HB := Lib.hid hb
    clear hb
    go_wp2_with fail
    go_ret
    exact ⟨by rw [HE.out]; rfl, HB.out⟩

theorem numI_len : ∀ f n, (numI f n).length ≤ f
  | 0, _ => by simp [numI]
  | f + 1, n => by
    rw [numI]
    split
    · simp
    · have := numI_len f (n / 128); simp; omega
theorem numB_size (n : Nat) : (numB n).size ≤ 9 := by unfold numB; rw [strOfNums_size]; exact numI_len 9 n
theorem intB_size (n : Int) : (intB n).size ≤ 9 := by
  unfold intB
  split
  · simp [ByteArray.size]
  · split <;> exact numB_size _
/-- a string's encoding -/
def textB (s : ByteArray) : ByteArray := numB s.size ++ s
set_option maxHeartbeats 400000 in
theorem text_any (s : ByteArray) (hs : s.size ≤ 4294967296) (w : World) : Calls Tryd.prog 52 #[.string s] w fun e w' => e = .returned (.string (textB s)) ∧ Below w.heap.size w w' := by
  go_enter Tryd.func52, Tryd.ntmps52
  go_wp2_with fail
  (with_reducible refine (num_any s.size (by omega) w).mono ?_)
  rintro e w1 ⟨rfl, hb⟩
  have HB := Lib.hid hb
  clear hb
  have h9 := numB_size s.size
  go_wp2_with fail
  go_ret
  exact ⟨rfl, HB.out⟩
end Go.Proofs.YtlnfdpdancolmaaDoor
