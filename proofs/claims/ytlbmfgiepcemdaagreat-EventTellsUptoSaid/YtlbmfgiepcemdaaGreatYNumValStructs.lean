/- code.Num: the varint of a number. Conditions: those in each statement. The values of the language as plain Lean data, and how they lie in memory: six cells each. No program here. Events as plain Lean data, and how they lie in memory (written by wip/tools/gen_struct.py). No program here. -/
import Derived.Test.YtlbmfgiepcemdaaGreatProg
import Derived.Test.YtlbmfgiepcemdaaGreatMem
import Derived.Laws.BytesArg
import Derived.Laws.BitsAllLaws
import Derived.Laws.BitsLemmas
namespace Go.Proofs.YtlbmfgiepcemdaaGreat
open Go.RowKit

theorem ofInt_i64 (a : Nat) (ha : a < 9223372036854775808) : (BitVec.ofInt 64 (a : Int)).toNat = a := by
  rw [BitVec.ofInt_natCast, BitVec.toNat_ofNat]; exact Nat.mod_eq_of_lt (by omega)
theorem i64_and_nat (a b : Nat) (ha : a < 9223372036854775808) (hb : b < 9223372036854775808) : bits .and .i64 (a : Int) (b : Int) = ((a &&& b : Nat) : Int) := by
  have hx : a &&& b < 2 ^ 63 := Nat.and_lt_two_pow _ (by omega)
  show IntKind.i64.wrap ((BitVec.ofInt 64 (a : Int) &&& BitVec.ofInt 64 (b : Int)).toNat : Int) = _
  rw [BitVec.toNat_and, ofInt_i64 a ha, ofInt_i64 b hb, IntKind.wrap_i64]
  omega
theorem i64_or_nat (a b : Nat) (ha : a < 9223372036854775808) (hb : b < 9223372036854775808) : bits .or .i64 (a : Int) (b : Int) = ((a ||| b : Nat) : Int) := by
  have hx : a ||| b < 2 ^ 63 := Nat.or_lt_two_pow (by omega) (by omega)
  show IntKind.i64.wrap ((BitVec.ofInt 64 (a : Int) ||| BitVec.ofInt 64 (b : Int)).toNat : Int) = _
  rw [BitVec.toNat_or, ofInt_i64 a ha, ofInt_i64 b hb, IntKind.wrap_i64]
  omega
theorem low7 (n : Nat) (hn : n < 9223372036854775808) : bits .and .i64 (n : Int) 127 = ((n % 128 : Nat) : Int) := by
  have h := i64_and_nat n 127 hn (by omega)
  have e : n &&& 127 = n % 128 := Nat.and_two_pow_sub_one_eq_mod n 7
  rw [e] at h; exact h
theorem top7 (m : Nat) (hm : m < 128) : bits .or .i64 (m : Int) 128 = ((m + 128 : Nat) : Int) := by
  have h := i64_or_nat m 128 (by omega) (by omega)
  have e : m ||| 128 = m + 128 := by
    have := Nat.two_pow_add_eq_or_of_lt (i := 7) hm 1
    rw [Nat.or_comm]
    have e2 : 2 ^ 7 * 1 = 128 := rfl
    rw [e2] at this
    omega
  rw [e] at h; exact h

/-- the bytes of a varint, with fuel -/
def numI : Nat → Nat → List Int
  | 0, _ => []
  | f + 1, n => if n < 128 then [(n : Int)] else ((n : Int) % 128 + 128) :: numI f (n / 128)
/-- the varint of a number below 2^63 -/
def numB (n : Nat) : ByteArray := strOfNums (numI 9 n)

theorem low7' (m : Nat) (hm : m ≤ 9223372036854775807) : bits .and .i64 (m : Int) 127 = (m : Int) % 128 := by
  have := low7 m (by omega); rw [this]; omega
theorem top7' (m : Nat) : bits .or .i64 ((m : Int) % 128) 128 = (m : Int) % 128 + 128 := by
  have := top7 (m % 128) (by omega)
  have e : ((m % 128 : Nat) : Int) = (m : Int) % 128 := by omega
  rw [e] at this; rw [this]; omega

/-- how far the loop has come: xs are the bytes so far, m is the rest -/
def NumTo (n k m : Nat) (xs : List Int) (g : Nat) (wr : World) : Prop :=
  m = n / 128 ^ k ∧ xs.length = k ∧ numI 9 n = xs ++ numI (9 - k) m ∧ ∀ j, j < k → wr.cell? ⟨g, j, none⟩ = some (.int .u8 (xs.getD j 0))
theorem NumTo.step {n k m : Nat} {xs : List Int} {g : Nat} {wr : World} (h : NumTo n k m xs g wr) (hk : k ≤ 8) (hm : 128 ≤ m) {u : Value} (hu : wr.cell? ⟨g, k, none⟩ = some u) :
    NumTo n (k + 1) (m / 128) (xs ++ [(m : Int) % 128 + 128]) g (wr.setCell ⟨g, k, none⟩ (.int .u8 ((m : Int) % 128 + 128))) := by
  obtain ⟨h1, h2, h3, h4⟩ := h
  refine ⟨by rw [h1, Nat.div_div_eq_div_mul, Nat.pow_succ], by simp [h2], ?_, fun j hj => ?_⟩
  · rw [h3, show 9 - k = (9 - (k + 1)) + 1 by omega, numI, if_neg (by omega)]; simp
  · by_cases hjk : j = k
    · subst hjk
      rw [World.cell?_setCell_same _ _ _ hu, List.getD_eq_getElem?_getD, List.getElem?_append_right (by omega)]; simp [h2]
    · rw [World.cell?_setCell_other _ _ _ _ (by simp <;> omega), h4 j (by omega), List.getD_eq_getElem?_getD, List.getD_eq_getElem?_getD, List.getElem?_append_left (by omega)]
theorem NumTo.fin {n k m : Nat} {xs : List Int} {g : Nat} {wr : World} (h : NumTo n k m xs g wr) (hk : k ≤ 8) (hm : m < 128) {u : Value} (hu : wr.cell? ⟨g, k, none⟩ = some u) :
    numI 9 n = xs ++ [(m : Int)] ∧ ∀ j, j < k + 1 → (wr.setCell ⟨g, k, none⟩ (.int .u8 (m : Int))).cell? ⟨g, 0 + j, none⟩ = some (.int .u8 ((xs ++ [(m : Int)]).getD j 0)) := by
  obtain ⟨h1, h2, h3, h4⟩ := h
  refine ⟨?_, fun j hj => ?_⟩
  · rw [h3, show 9 - k = (8 - k) + 1 by omega, numI, if_pos hm]
  · rw [Nat.zero_add]
    by_cases hjk : j = k
    · subst hjk
      rw [World.cell?_setCell_same _ _ _ hu, List.getD_eq_getElem?_getD, List.getElem?_append_right (by omega)]; simp [h2]
    · rw [World.cell?_setCell_other _ _ _ _ (by simp <;> omega), h4 j (by omega), List.getD_eq_getElem?_getD, List.getD_eq_getElem?_getD, List.getElem?_append_left (by omega)]

set_option maxHeartbeats 400000 in
set_option maxRecDepth 100000 in
theorem num_any (n : Nat) (hn : n ≤ 9223372036854775807) (w : World) : Calls Tryz.prog 41 #[.int .i64 (n : Int)] w fun e w' => e = .returned (.string (numB n)) ∧ Below w.heap.size w w' := by
  go_enter Tryz.func41, Tryz.ntmps41
  go_wp2_with fail
  go_loopw [0, 4] (fun s0 s4 wr => ∃ (k m : Nat) (xs : List Int), k ≤ 8 ∧ s4 = .int .i64 k ∧ m ≤ 9223372036854775807 ∧ s0 = .int .i64 m ∧ Hid (NumTo n k m xs w.heap.size wr) ∧ Hid (Blk wr w.heap.size 107 9) ∧ Hid (Below w.heap.size w wr)) (fun s0 _ _ => (intOf s0).toNat)
  case atStart => exact ⟨0, n, [], by omega, rfl, hn, rfl, Lib.hid ⟨by simp, rfl, rfl, fun j hj => absurd hj (by omega)⟩, Lib.hid (Blk.new _ _ _), Lib.hid ((Below.refl _ _).alloc (Nat.le_refl _) _)⟩
  case round =>
    obtain ⟨k, m, xs, hk, rfl, hm, rfl, HN, HK, HB⟩ := hrel
    obtain ⟨u, hu⟩ := Option.isSome_iff_exists.1 (HK.out.some (j := k) (by omega))
    have hf := HK.out.frozen k
    have hk9 : (k : Int) < 9 := by omega
    by_cases h : 128 ≤ m
    · have hl := low7' m hm
      have ht := top7' m
      have hx : ((m : Int) % 128 + 128) % 256 = (m : Int) % 128 + 128 := by omega
      have hk7 : k ≤ 7 := by
        rcases Nat.lt_or_ge k 8 with h8 | h8
        · omega
        · obtain rfl : k = 8 := by omega
          have := HN.out.1
          have e : 128 ^ 8 = 72057594037927936 := by decide
          rw [e] at this; omega
      have HS := Lib.hid (HN.out.step hk h hu)
      have HK2 : Hid (Blk (wr.setCell ⟨w.heap.size, k, none⟩ (.int .u8 ((m : Int) % 128 + 128))) w.heap.size 107 9) := Lib.hid (HK.out.setCells w.heap.size k [.int .u8 ((m : Int) % 128 + 128)])
      have HB2 := Lib.hid (HB.out.setCell (p := ⟨w.heap.size, k, none⟩) (Nat.le_refl _) (.int .u8 ((m : Int) % 128 + 128)))
      go_wp2_with fail
      exact ⟨⟨k + 1, m / 128, _, by omega, by go_num, by omega, by go_num, HS, HK2, HB2⟩, by simp [intOf]; omega⟩
    · obtain ⟨e1, e2⟩ := HN.out.fin hk (by omega) hu
      have hcv := run_convert_bytes_arg (P := Tryz.prog) (wr.setCell ⟨w.heap.size, k, none⟩ (.int .u8 (m : Int))) 68 5 Tryz.underlying68 Tryz.underlying5 w.heap.size 0 (k + 1) 9 (xs ++ [(m : Int)]) (by have := HN.out.2.1; simp [this]) e2 9 Tryz.underlying9
      have E1 := Lib.hid e1
      have HB2 := Lib.hid (HB.out.setCell (p := ⟨w.heap.size, k, none⟩) (Nat.le_refl _) (.int .u8 (m : Int)))
      have g1 : (0 : Int) ≤ (k : Int) + 1 := by omega
      have g2 : (k : Int) + 1 ≤ 9 := by omega
      clear e1 e2
      go_wp2_with fail
      go_ret
      exact ⟨by unfold numB; rw [E1.out]; rfl, HB2.out⟩

set_option maxHeartbeats 400000 in
theorem num_neg (n : Int) (hn : n < 0) (w : World) : Calls Tryz.prog 41 #[.int .i64 n] w fun e w' => e = .returned (.string ⟨#[]⟩) ∧ w = w' := by
  go_enter Tryz.func41, Tryz.ntmps41
  go_wp2_with fail
  go_ret
  exact ⟨rfl, rfl⟩

/-- the varint of an int, empty below 0 -/
def numZ (n : Int) : ByteArray := if n < 0 then ⟨#[]⟩ else numB n.toNat
theorem num_int (n : Int) (hn : n ≤ 9223372036854775807) (w : World) : Calls Tryz.prog 41 #[.int .i64 n] w fun e w' => e = .returned (.string (numZ n)) ∧ Below w.heap.size w w' := by
  by_cases h : n < 0
  · refine (num_neg n h w).mono ?_
    rintro e w' ⟨rfl, rfl⟩
    exact ⟨by unfold numZ; rw [if_pos h], Below.refl _ _⟩
  · obtain ⟨m, rfl⟩ := Int.eq_ofNat_of_zero_le (show 0 ≤ n by omega)
    refine (num_any m (by omega) w).mono ?_
    rintro e w' ⟨rfl, hb⟩
    exact ⟨by unfold numZ; rw [if_neg h, Int.toNat_natCast], hb⟩

/-- the zigzag varint -/
def intB (n : Int) : ByteArray := if n < -1152921504606846976 ∨ 1152921504606846976 < n then ⟨#[]⟩ else if n < 0 then numB (-2 * n - 1).toNat else numB (2 * n).toNat

set_option maxHeartbeats 400000 in
theorem int_any (n : Int) (w : World) : Calls Tryz.prog 100 #[.int .i64 n] w fun e w' => e = .returned (.string (intB n)) ∧ Below w.heap.size w w' := by
  by_cases h1 : n < -1152921504606846976
  · have HE : Hid (intB n = ⟨#[]⟩) := Lib.hid (by unfold intB; rw [if_pos (.inl h1)])
    go_enter Tryz.func100, Tryz.ntmps100
    go_wp2_with fail
    go_ret
    exact ⟨by rw [HE.out]; rfl, Below.refl _ _⟩
  by_cases h2 : 1152921504606846976 < n
  · have HE : Hid (intB n = ⟨#[]⟩) := Lib.hid (by unfold intB; rw [if_pos (.inr h2)])
    go_enter Tryz.func100, Tryz.ntmps100
    go_wp2_with fail
    go_ret
    exact ⟨by rw [HE.out]; rfl, Below.refl _ _⟩
  by_cases h3 : n < 0
  · have HE : Hid (intB n = numZ (-2 * n - 1)) := Lib.hid (by
      unfold intB numZ; rw [if_neg (fun h => by omega), if_pos h3, if_neg (by omega)])
    have HC := Lib.hid (num_int (-2 * n - 1) (by omega) w)
    go_enter Tryz.func100, Tryz.ntmps100
    go_wp2_with fail
    (with_reducible refine HC.out.mono ?_)
    rintro e w1 ⟨rfl, hb⟩
    have HB := Lib.hid hb
    clear hb
    go_wp2_with fail
    go_ret
    exact ⟨by rw [HE.out]; rfl, HB.out⟩
  · have HE : Hid (intB n = numZ (2 * n)) := Lib.hid (by
      unfold intB numZ; rw [if_neg (fun h => by omega), if_neg h3, if_neg (by omega)])
    have HC := Lib.hid (num_int (2 * n) (by omega) w)
    go_enter Tryz.func100, Tryz.ntmps100
    go_wp2_with fail
    (with_reducible refine HC.out.mono ?_)
    rintro e w1 ⟨rfl, hb⟩
    have HB := Lib.hid hb
    clear hb
    go_wp2_with fail
    go_ret
    exact ⟨by rw [HE.out]; rfl, HB.out⟩

theorem numI_len : ∀ f n, (numI f n).length ≤ f
  | 0, _ => by simp [numI]
  | f + 1, n => by
    rw [numI]
    split
    · simp
    · have := numI_len f (n / 128); simp; omega
theorem numB_size (n : Nat) : (numB n).size ≤ 9 := by unfold numB; rw [strOfNums_size]; exact numI_len 9 n
theorem intB_size (n : Int) : (intB n).size ≤ 9 := by
  unfold intB
  split
  · simp [ByteArray.size]
  · split <;> exact numB_size _
/-- a string's encoding -/
def textB (s : ByteArray) : ByteArray := numB s.size ++ s
set_option maxHeartbeats 400000 in
theorem text_any (s : ByteArray) (hs : s.size ≤ 4294967296) (w : World) : Calls Tryz.prog 70 #[.string s] w fun e w' => e = .returned (.string (textB s)) ∧ Below w.heap.size w w' := by
  go_enter Tryz.func70, Tryz.ntmps70
  go_wp2_with fail
  (with_reducible refine (num_any s.size (by omega) w).mono ?_)
  rintro e w1 ⟨rfl, hb⟩
  have HB := Lib.hid hb
  clear hb
  have h9 := numB_size s.size
  go_wp2_with fail
  go_ret
  exact ⟨rfl, HB.out⟩
end Go.Proofs.YtlbmfgiepcemdaaGreat
namespace Go.Proofs.YtlbmfgiepcemdaaGreat
open Go.RowKit

inductive V where
  | mk (kind : Int) (t : ByteArray) (n m : Int) (s : ByteArray) (l : List V)

namespace V
def kind : V → Int | .mk k _ _ _ _ _ => k
def t : V → ByteArray | .mk _ t _ _ _ _ => t
def n : V → Int | .mk _ _ n _ _ _ => n
def m : V → Int | .mk _ _ _ m _ _ => m
def s : V → ByteArray | .mk _ _ _ _ s _ => s
def l : V → List V | .mk _ _ _ _ _ l => l
end V

/-- six cells -/
def fld6 (k : Int) (t : ByteArray) (n m : Int) (s : ByteArray) (d : D) : Nat → D
  | 0 => .num .i64 k
  | 1 => .str t
  | 2 => .num .i64 n
  | 3 => .num .i64 m
  | 4 => .str s
  | _ => d

mutual
/-- a value's six cells -/
def V.row : V → Nat → D
  | .mk k t n m s l => fld6 k t n m s (.sl 6 l.length (rowsV l))
def rowsV : List V → Nat → Nat → D
  | [], _, _ => .bool false
  | v :: r, i, j => match i with
    | 0 => v.row j
    | i + 1 => rowsV r i j
end

/-- a slice of values -/
def vs (l : List V) : D := .sl 6 l.length (rowsV l)

theorem rowsV_get : ∀ (l : List V) (i : Nat) (v : V), l[i]? = some v → rowsV l i = v.row
  | [], i, v, h => by simp at h
  | x :: r, 0, v, h => by simp at h; subst h; funext j; rfl
  | x :: r, i + 1, v, h => by
    have := rowsV_get r i v (by simpa using h)
    funext j
    show rowsV r i j = _
    rw [this]

mutual
/-- how much a value holds -/
def V.bulk : V → Nat
  | .mk _ t _ _ s l => 7 + t.size + s.size + bulkV l
def bulkV : List V → Nat
  | [] => 0
  | v :: r => v.bulk + bulkV r
end

theorem bulk_mk (k : Int) (t : ByteArray) (n m : Int) (s : ByteArray) (l : List V) : (V.mk k t n m s l).bulk = 7 + t.size + s.size + bulkV l := by rw [V.bulk]
theorem bulkV_cons (v : V) (r : List V) : bulkV (v :: r) = v.bulk + bulkV r := by rw [bulkV]
theorem bulkV_get : ∀ (l : List V) (i : Nat) (v : V), l[i]? = some v → v.bulk ≤ bulkV l
  | [], i, v, h => by simp at h
  | x :: r, 0, v, h => by simp at h; subst h; rw [bulkV_cons]; omega
  | x :: r, i + 1, v, h => by
    have := bulkV_get r i v (by simpa using h)
    rw [bulkV_cons]; omega
theorem bulkV_len : ∀ l : List V, 7 * l.length ≤ bulkV l
  | [] => by simp
  | .mk k t n m s l :: r => by
    have := bulkV_len r
    rw [bulkV_cons, bulk_mk, List.length_cons]; omega

mutual
theorem solid_row : ∀ (v : V) (j : Nat), Solid (v.row j)
  | .mk k t n m s l, 0 => by rw [V.row]; trivial
  | .mk k t n m s l, 1 => by rw [V.row]; trivial
  | .mk k t n m s l, 2 => by rw [V.row]; trivial
  | .mk k t n m s l, 3 => by rw [V.row]; trivial
  | .mk k t n m s l, 4 => by rw [V.row]; trivial
  | .mk k t n m s l, j + 5 => by rw [V.row]; exact ⟨by omega, fun i _ j _ => solid_rows l i j⟩
theorem solid_rows : ∀ (l : List V) (i j : Nat), Solid (rowsV l i j)
  | [], i, j => by rw [rowsV]; trivial
  | v :: r, 0, j => by rw [rowsV]; exact solid_row v j
  | v :: r, i + 1, j => by rw [rowsV]; exact solid_rows r i j
end
theorem solid_vs (l : List V) : Solid (vs l) := ⟨by omega, fun i _ j _ => solid_rows l i j⟩

section
variable {ok : Nat → Prop} {w : World}
/-- the six cells at o of block b hold the value -/
def VAt (ok : Nat → Prop) (w : World) (b o : Nat) (k : Int) (t : ByteArray) (n m : Int) (s : ByteArray) (l : List V) (A : Option Addr) (c : Nat) : Prop :=
  w.cell? ⟨b, o, none⟩ = some (.int .i64 k) ∧ w.cell? ⟨b, o + 1, none⟩ = some (.string t) ∧ w.cell? ⟨b, o + 2, none⟩ = some (.int .i64 n) ∧ w.cell? ⟨b, o + 3, none⟩ = some (.int .i64 m) ∧ w.cell? ⟨b, o + 4, none⟩ = some (.string s) ∧ w.cell? ⟨b, o + 5, none⟩ = some (.slice A l.length c) ∧ Rd ok w (vs l) (.slice A l.length c)

theorem VAt_of_row {b o : Nat} {k n m : Int} {t s : ByteArray} {l : List V} (h : RdRow ok w b o 6 (V.mk k t n m s l).row) : ∃ A c, VAt ok w b o k t n m s l A c := by
  rw [V.row] at h
  obtain ⟨u0, c0, r0⟩ := h 0 (by omega)
  obtain ⟨u1, c1, r1⟩ := h 1 (by omega)
  obtain ⟨u2, c2, r2⟩ := h 2 (by omega)
  obtain ⟨u3, c3, r3⟩ := h 3 (by omega)
  obtain ⟨u4, c4, r4⟩ := h 4 (by omega)
  obtain ⟨u5, c5, r5⟩ := h 5 (by omega)
  have e0 : u0 = .int .i64 k := r0
  have e1 : u1 = .string t := r1
  have e2 : u2 = .int .i64 n := r2
  have e3 : u3 = .int .i64 m := r3
  have e4 : u4 = .string s := r4
  have r5' : Rd ok w (vs l) u5 := r5
  obtain ⟨A, c, e5, _⟩ := r5'.sl_inv
  subst e0 e1 e2 e3 e4 e5
  exact ⟨A, c, c0, c1, c2, c3, c4, c5, r5'⟩
theorem row_of_VAt {b o : Nat} {k n m : Int} {t s : ByteArray} {l : List V} {A : Option Addr} {c : Nat} (h : VAt ok w b o k t n m s l A c) : RdRow ok w b o 6 (V.mk k t n m s l).row := by
  obtain ⟨c0, c1, c2, c3, c4, c5, r5⟩ := h
  intro j hj
  rw [V.row]
  match j, hj with
  | 0, _ => exact ⟨_, c0, rfl⟩
  | 1, _ => exact ⟨_, c1, rfl⟩
  | 2, _ => exact ⟨_, c2, rfl⟩
  | 3, _ => exact ⟨_, c3, rfl⟩
  | 4, _ => exact ⟨_, c4, rfl⟩
  | 5, _ => exact ⟨_, c5, r5⟩

theorem cells_rdV {k n m : Int} {t s : ByteArray} {l : List V} {A : Option Addr} {c : Nat} (h : Rd ok w (vs l) (.slice A l.length c)) :
    ∀ (j : Nat) (u : Value), [Value.int .i64 k, .string t, .int .i64 n, .int .i64 m, .string s, .slice A l.length c][j]? = some u → Rd ok w ((V.mk k t n m s l).row j) u := by
  intro j u hj
  rw [V.row]
  match j with
  | 0 => simp at hj; subst hj; rfl
  | 1 => simp at hj; subst hj; rfl
  | 2 => simp at hj; subst hj; rfl
  | 3 => simp at hj; subst hj; rfl
  | 4 => simp at hj; subst hj; rfl
  | 5 => simp at hj; subst hj; exact h
  | j + 6 => simp at hj

/-- element i of a slice of values -/
theorem vs_at {l : List V} {A : Option Addr} {n c : Nat} (h : Rd ok w (vs l) (.slice A n c)) {i : Nat} (hi : i < n) :
    ∃ b off k t n' m s l' A' c', A = some ⟨b, off, none⟩ ∧ ok b ∧ l[i]? = some (.mk k t n' m s l') ∧ VAt ok w b (off + i * 6) k t n' m s l' A' c' := by
  obtain ⟨A0, c0, e, _, _, h3⟩ := h.sl_inv
  injection e with e1 e2 e3
  subst e1 e2
  obtain ⟨b, off, rfl, hb, hr⟩ := h3 (by omega)
  have hv : l[i]? = some l[i] := List.getElem?_eq_getElem hi
  have h1 := hr i hi
  rw [rowsV_get l i _ hv] at h1
  cases hx : l[i] with
  | mk k t n' m s l' =>
    rw [hx] at h1 hv
    obtain ⟨A', c', h2⟩ := VAt_of_row h1
    exact ⟨b, off, k, t, n', m, s, l', A', c', rfl, hb, hv, h2⟩
theorem vs_len {l : List V} {A : Option Addr} {n c : Nat} (h : Rd ok w (vs l) (.slice A n c)) : n = l.length ∧ n ≤ c ∧ c ≤ 9223372036854775807 := by
  obtain ⟨A0, c0, e, h1, h2, _⟩ := h.sl_inv
  injection e with e1 e2 e3
  subst e1 e2 e3
  exact ⟨rfl, h1, h2⟩
end
end Go.Proofs.YtlbmfgiepcemdaaGreat
namespace Go.Proofs.YtlbmfgiepcemdaaGreat
open Go.RowKit

structure Ev where
  kind : Int
  path : ByteArray
  msg : ByteArray
  args : List V
  ord : Int
  vk : Int
  vt : ByteArray
  vn : Int
  vm : Int
  vx : ByteArray
  vl : List V
  n : Int
/-- the 12 cells of a Ev -/
def Ev.row (x : Ev) : Nat → D
  | 0 => .num .i64 x.kind
  | 1 => .str x.path
  | 2 => .str x.msg
  | 3 => vs x.args
  | 4 => .num .i64 x.ord
  | 5 => .num .i64 x.vk
  | 6 => .str x.vt
  | 7 => .num .i64 x.vn
  | 8 => .num .i64 x.vm
  | 9 => .str x.vx
  | 10 => vs x.vl
  | _ => .num .i64 x.n
def rowsEv (l : List Ev) (i : Nat) : Nat → D := match l[i]? with | some x => x.row | none => fun _ => .bool false
/-- a slice of Ev -/
def slEv (l : List Ev) : D := .sl 12 l.length (rowsEv l)
theorem rowsEv_get {l : List Ev} {i : Nat} {x : Ev} (h : l[i]? = some x) : rowsEv l i = x.row := by unfold rowsEv; rw [h]
/-- the 12 cells at o of block b hold x -/
def EvAt (ok : Nat → Prop) (w : World) (b o : Nat) (x : Ev) (A3 : Option Addr) (c3 : Nat) (A10 : Option Addr) (c10 : Nat) : Prop :=
  w.cell? ⟨b, o, none⟩ = some (.int .i64 x.kind) ∧ w.cell? ⟨b, o + 1, none⟩ = some (.string x.path) ∧ w.cell? ⟨b, o + 2, none⟩ = some (.string x.msg) ∧ w.cell? ⟨b, o + 3, none⟩ = some (.slice A3 x.args.length c3) ∧ w.cell? ⟨b, o + 4, none⟩ = some (.int .i64 x.ord) ∧ w.cell? ⟨b, o + 5, none⟩ = some (.int .i64 x.vk) ∧ w.cell? ⟨b, o + 6, none⟩ = some (.string x.vt) ∧ w.cell? ⟨b, o + 7, none⟩ = some (.int .i64 x.vn) ∧ w.cell? ⟨b, o + 8, none⟩ = some (.int .i64 x.vm) ∧ w.cell? ⟨b, o + 9, none⟩ = some (.string x.vx) ∧ w.cell? ⟨b, o + 10, none⟩ = some (.slice A10 x.vl.length c10) ∧ w.cell? ⟨b, o + 11, none⟩ = some (.int .i64 x.n) ∧ Rd ok w (vs x.args) (.slice A3 x.args.length c3) ∧ Rd ok w (vs x.vl) (.slice A10 x.vl.length c10)
section
variable {ok : Nat → Prop} {w : World}
theorem EvAt_of_row {b o : Nat} {x : Ev} (h : RdRow ok w b o 12 x.row) : ∃ A3 c3, ∃ A10 c10, EvAt ok w b o x A3 c3 A10 c10 := by
  obtain ⟨u0, q0, r0⟩ := h 0 (by omega)
  obtain ⟨u1, q1, r1⟩ := h 1 (by omega)
  obtain ⟨u2, q2, r2⟩ := h 2 (by omega)
  obtain ⟨u3, q3, r3⟩ := h 3 (by omega)
  obtain ⟨u4, q4, r4⟩ := h 4 (by omega)
  obtain ⟨u5, q5, r5⟩ := h 5 (by omega)
  obtain ⟨u6, q6, r6⟩ := h 6 (by omega)
  obtain ⟨u7, q7, r7⟩ := h 7 (by omega)
  obtain ⟨u8, q8, r8⟩ := h 8 (by omega)
  obtain ⟨u9, q9, r9⟩ := h 9 (by omega)
  obtain ⟨u10, q10, r10⟩ := h 10 (by omega)
  obtain ⟨u11, q11, r11⟩ := h 11 (by omega)
  have e0 : u0 = .int .i64 x.kind := r0
  have e1 : u1 = .string x.path := r1
  have e2 : u2 = .string x.msg := r2
  have s3 : Rd ok w (vs x.args) u3 := r3
  obtain ⟨A3, c3, e3, _⟩ := s3.sl_inv
  have e4 : u4 = .int .i64 x.ord := r4
  have e5 : u5 = .int .i64 x.vk := r5
  have e6 : u6 = .string x.vt := r6
  have e7 : u7 = .int .i64 x.vn := r7
  have e8 : u8 = .int .i64 x.vm := r8
  have e9 : u9 = .string x.vx := r9
  have s10 : Rd ok w (vs x.vl) u10 := r10
  obtain ⟨A10, c10, e10, _⟩ := s10.sl_inv
  have e11 : u11 = .int .i64 x.n := r11
  subst e0 e1 e2 e3 e4 e5 e6 e7 e8 e9 e10 e11
  exact ⟨A3, c3, A10, c10, q0, q1, q2, q3, q4, q5, q6, q7, q8, q9, q10, q11, s3, s10⟩
theorem row_of_EvAt {b o : Nat} {x : Ev} {A3 : Option Addr} {c3 : Nat} {A10 : Option Addr} {c10 : Nat} (h : EvAt ok w b o x A3 c3 A10 c10) : RdRow ok w b o 12 x.row := by
  obtain ⟨q0, q1, q2, q3, q4, q5, q6, q7, q8, q9, q10, q11, s3, s10⟩ := h
  intro j hj
  match j, hj with
  | 0, _ => exact ⟨_, q0, rfl⟩
  | 1, _ => exact ⟨_, q1, rfl⟩
  | 2, _ => exact ⟨_, q2, rfl⟩
  | 3, _ => exact ⟨_, q3, s3⟩
  | 4, _ => exact ⟨_, q4, rfl⟩
  | 5, _ => exact ⟨_, q5, rfl⟩
  | 6, _ => exact ⟨_, q6, rfl⟩
  | 7, _ => exact ⟨_, q7, rfl⟩
  | 8, _ => exact ⟨_, q8, rfl⟩
  | 9, _ => exact ⟨_, q9, rfl⟩
  | 10, _ => exact ⟨_, q10, s10⟩
  | 11, _ => exact ⟨_, q11, rfl⟩
theorem cells_rdEv {x : Ev} {A3 : Option Addr} {c3 : Nat} {A10 : Option Addr} {c10 : Nat} (h3 : Rd ok w (vs x.args) (.slice A3 x.args.length c3)) (h10 : Rd ok w (vs x.vl) (.slice A10 x.vl.length c10)) :
    ∀ (j : Nat) (u : Value), [Value.int .i64 x.kind, .string x.path, .string x.msg, .slice A3 x.args.length c3, .int .i64 x.ord, .int .i64 x.vk, .string x.vt, .int .i64 x.vn, .int .i64 x.vm, .string x.vx, .slice A10 x.vl.length c10, .int .i64 x.n][j]? = some u → Rd ok w (x.row j) u := by
  intro j u hj
  match j with
  | 0 => simp at hj; subst hj; rfl
  | 1 => simp at hj; subst hj; rfl
  | 2 => simp at hj; subst hj; rfl
  | 3 => simp at hj; subst hj; exact h3
  | 4 => simp at hj; subst hj; rfl
  | 5 => simp at hj; subst hj; rfl
  | 6 => simp at hj; subst hj; rfl
  | 7 => simp at hj; subst hj; rfl
  | 8 => simp at hj; subst hj; rfl
  | 9 => simp at hj; subst hj; rfl
  | 10 => simp at hj; subst hj; exact h10
  | 11 => simp at hj; subst hj; rfl
  | j + 12 => simp at hj
theorem slEv_at {l : List Ev} {A : Option Addr} {n c : Nat} (h : Rd ok w (slEv l) (.slice A n c)) {i : Nat} (hi : i < n) :
    ∃ b off x, A = some ⟨b, off, none⟩ ∧ ok b ∧ l[i]? = some x ∧ ∃ A3 c3, ∃ A10 c10, EvAt ok w b (off + i * 12) x A3 c3 A10 c10 := by
  obtain ⟨A0, c0, e, _, _, h3⟩ := h.sl_inv
  injection e with e1 e2 e3
  subst e1 e2
  obtain ⟨b, off, rfl, hb, hr⟩ := h3 (by omega)
  have hv : l[i]? = some l[i] := List.getElem?_eq_getElem hi
  have h1 := hr i hi
  rw [rowsEv_get hv] at h1
  exact ⟨b, off, l[i], rfl, hb, hv, EvAt_of_row h1⟩
theorem slEv_one {x : Ev} {A3 : Option Addr} {c3 : Nat} {A10 : Option Addr} {c10 : Nat} {g : Nat} (hg : ok g) (h : EvAt ok w g 0 x A3 c3 A10 c10) : Rd ok w (slEv [x]) (.slice (some ⟨g, 0, none⟩) 1 1) :=
  Rd.sl_mk (Nat.le_refl _) (by omega) fun _ => ⟨g, 0, rfl, hg, fun i hi => by
    obtain rfl : i = 0 := by simpa using hi
    have h1 := row_of_EvAt h
    rw [rowsEv_get (x := x) rfl]
    simpa using h1⟩
theorem slEv_len {l : List Ev} {A : Option Addr} {n c : Nat} (h : Rd ok w (slEv l) (.slice A n c)) : n = l.length ∧ n ≤ c ∧ c ≤ 9223372036854775807 := by
  obtain ⟨A0, c0, e, h1, h2, _⟩ := h.sl_inv
  injection e with e1 e2 e3
  subst e1 e2 e3
  exact ⟨rfl, h1, h2⟩
end
theorem solid_Ev (x : Ev) (j : Nat) : Solid (x.row j) := by
  unfold Ev.row
  split
  · exact trivial
  · exact trivial
  · exact trivial
  · exact solid_vs _
  · exact trivial
  · exact trivial
  · exact trivial
  · exact trivial
  · exact trivial
  · exact trivial
  · exact solid_vs _
  · exact trivial
theorem solid_slEv (l : List Ev) : Solid (slEv l) := ⟨by omega, fun i _ j _ => by
  cases h : l[i]? with
  | none => unfold rowsEv; rw [h]; trivial
  | some x => rw [rowsEv_get h]; exact solid_Ev x j⟩
/-- how much it holds -/
def Ev.bulk (x : Ev) : Nat := 13 + x.path.size + x.msg.size + bulkV x.args + x.vt.size + x.vx.size + bulkV x.vl
def bulkEv (l : List Ev) : Nat := (l.map Ev.bulk).sum
theorem bulkEv_get {l : List Ev} {i : Nat} {x : Ev} (h : l[i]? = some x) : x.bulk ≤ bulkEv l := by
  induction l generalizing i with
  | nil => simp at h
  | cons y r ih =>
    rw [bulkEv, List.map_cons, List.sum_cons]
    cases i with
    | zero => simp at h; subst h; omega
    | succ i =>
      have := ih (i := i) (by simpa using h)
      unfold bulkEv at this
      omega
theorem bulkEv_len (l : List Ev) : 13 * l.length ≤ bulkEv l := by
  induction l with
  | nil => simp
  | cons y r ih =>
    rw [bulkEv, List.map_cons, List.sum_cons, List.length_cons]
    have : 13 ≤ y.bulk := by unfold Ev.bulk; omega
    unfold bulkEv at ih
    omega
end Go.Proofs.YtlbmfgiepcemdaaGreat
