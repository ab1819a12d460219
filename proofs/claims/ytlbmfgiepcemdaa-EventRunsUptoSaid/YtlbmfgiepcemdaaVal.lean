/- The values of the language as plain Lean data, and how they lie in memory: six cells each. No program here. -/
import Derived.Test.YtlbmfgiepcemdaaMem
namespace Go.Proofs.Ytlbmfgiepcemdaa
open Go.RowKit

inductive V where
  | mk (kind : Int) (t : ByteArray) (n m : Int) (s : ByteArray) (l : List V)

namespace V
def kind : V → Int | .mk k _ _ _ _ _ => k
def t : V → ByteArray | .mk _ t _ _ _ _ => t
def n : V → Int | .mk _ _ n _ _ _ => n
def m : V → Int | .mk _ _ _ m _ _ => m
def s : V → ByteArray | .mk _ _ _ _ s _ => s
def l : V → List V | .mk _ _ _ _ _ l => l
end V

/-- six cells -/
def fld6 (k : Int) (t : ByteArray) (n m : Int) (s : ByteArray) (d : D) : Nat → D
  | 0 => .num .i64 k
  | 1 => .str t
  | 2 => .num .i64 n
  | 3 => .num .i64 m
  | 4 => .str s
  | _ => d

mutual
/-- a value's six cells -/
def V.row : V → Nat → D
  | .mk k t n m s l => fld6 k t n m s (.sl 6 l.length (rowsV l))
def rowsV : List V → Nat → Nat → D
  | [], _, _ => .bool false
  | v :: r, i, j => match i with
    | 0 => v.row j
    | i + 1 => rowsV r i j
end

/-- a slice of values -/
def vs (l : List V) : D := .sl 6 l.length (rowsV l)

theorem rowsV_get : ∀ (l : List V) (i : Nat) (v : V), l[i]? = some v → rowsV l i = v.row
  | [], i, v, h => by simp at h
  | x :: r, 0, v, h => by simp at h; subst h; funext j; rfl
  | x :: r, i + 1, v, h => by
    have := rowsV_get r i v (by simpa using h)
    funext j
    show rowsV r i j = _
    rw [this]

mutual
/-- how much a value holds -/
def V.bulk : V → Nat
  | .mk _ t _ _ s l => 7 + t.size + s.size + bulkV l
def bulkV : List V → Nat
  | [] => 0
  | v :: r => v.bulk + bulkV r
end

theorem bulk_mk (k : Int) (t : ByteArray) (n m : Int) (s : ByteArray) (l : List V) : (V.mk k t n m s l).bulk = 7 + t.size + s.size + bulkV l := by rw [V.bulk]
theorem bulkV_cons (v : V) (r : List V) : bulkV (v :: r) = v.bulk + bulkV r := by rw [bulkV]
theorem bulkV_get : ∀ (l : List V) (i : Nat) (v : V), l[i]? = some v → v.bulk ≤ bulkV l
  | [], i, v, h => by simp at h
  | x :: r, 0, v, h => by simp at h; subst h; rw [bulkV_cons]; omega
  | x :: r, i + 1, v, h => by
    have := bulkV_get r i v (by simpa using h)
    rw [bulkV_cons]; omega
theorem bulkV_len : ∀ l : List V, 7 * l.length ≤ bulkV l
  | [] => by simp
  | .mk k t n m s l :: r => by
    have := bulkV_len r
    rw [bulkV_cons, bulk_mk, List.length_cons]; omega

mutual
theorem solid_row : ∀ (v : V) (j : Nat), Solid (v.row j)
  | .mk k t n m s l, 0 => by rw [V.row]; trivial
  | .mk k t n m s l, 1 => by rw [V.row]; trivial
  | .mk k t n m s l, 2 => by rw [V.row]; trivial
  | .mk k t n m s l, 3 => by rw [V.row]; trivial
  | .mk k t n m s l, 4 => by rw [V.row]; trivial
  | .mk k t n m s l, j + 5 => by rw [V.row]; exact ⟨by omega, fun i _ j _ => solid_rows l i j⟩
theorem solid_rows : ∀ (l : List V) (i j : Nat), Solid (rowsV l i j)
  | [], i, j => by rw [rowsV]; trivial
  | v :: r, 0, j => by rw [rowsV]; exact solid_row v j
  | v :: r, i + 1, j => by rw [rowsV]; exact solid_rows r i j
end
theorem solid_vs (l : List V) : Solid (vs l) := ⟨by omega, fun i _ j _ => solid_rows l i j⟩

section
variable {ok : Nat → Prop} {w : World}
/-- the six cells at o of block b hold the value -/
def VAt (ok : Nat → Prop) (w : World) (b o : Nat) (k : Int) (t : ByteArray) (n m : Int) (s : ByteArray) (l : List V) (A : Option Addr) (c : Nat) : Prop :=
  w.cell? ⟨b, o, none⟩ = some (.int .i64 k) ∧ w.cell? ⟨b, o + 1, none⟩ = some (.string t) ∧ w.cell? ⟨b, o + 2, none⟩ = some (.int .i64 n) ∧ w.cell? ⟨b, o + 3, none⟩ = some (.int .i64 m) ∧ w.cell? ⟨b, o + 4, none⟩ = some (.string s) ∧ w.cell? ⟨b, o + 5, none⟩ = some (.slice A l.length c) ∧ Rd ok w (vs l) (.slice A l.length c)

theorem VAt_of_row {b o : Nat} {k n m : Int} {t s : ByteArray} {l : List V} (h : RdRow ok w b o 6 (V.mk k t n m s l).row) : ∃ A c, VAt ok w b o k t n m s l A c := by
  rw [V.row] at h
  obtain ⟨u0, c0, r0⟩ := h 0 (by omega)
  obtain ⟨u1, c1, r1⟩ := h 1 (by omega)
  obtain ⟨u2, c2, r2⟩ := h 2 (by omega)
  obtain ⟨u3, c3, r3⟩ := h 3 (by omega)
  obtain ⟨u4, c4, r4⟩ := h 4 (by omega)
  obtain ⟨u5, c5, r5⟩ := h 5 (by omega)
  have e0 : u0 = .int .i64 k := r0
  have e1 : u1 = .string t := r1
  have e2 : u2 = .int .i64 n := r2
  have e3 : u3 = .int .i64 m := r3
  have e4 : u4 = .string s := r4
  have r5' : Rd ok w (vs l) u5 := r5
  obtain ⟨A, c, e5, _⟩ := r5'.sl_inv
  subst e0 e1 e2 e3 e4 e5
  exact ⟨A, c, c0, c1, c2, c3, c4, c5, r5'⟩
theorem row_of_VAt {b o : Nat} {k n m : Int} {t s : ByteArray} {l : List V} {A : Option Addr} {c : Nat} (h : VAt ok w b o k t n m s l A c) : RdRow ok w b o 6 (V.mk k t n m s l).row := by
  obtain ⟨c0, c1, c2, c3, c4, c5, r5⟩ := h
  intro j hj
  rw [V.row]
  match j, hj with
  | 0, _ => exact ⟨_, c0, rfl⟩
  | 1, _ => exact ⟨_, c1, rfl⟩
  | 2, _ => exact ⟨_, c2, rfl⟩
  | 3, _ => exact ⟨_, c3, rfl⟩
  | 4, _ => exact ⟨_, c4, rfl⟩
  | 5, _ => exact ⟨_, c5, r5⟩

theorem cells_rdV {k n m : Int} {t s : ByteArray} {l : List V} {A : Option Addr} {c : Nat} (h : Rd ok w (vs l) (.slice A l.length c)) :
    ∀ (j : Nat) (u : Value), [Value.int .i64 k, .string t, .int .i64 n, .int .i64 m, .string s, .slice A l.length c][j]? = some u → Rd ok w ((V.mk k t n m s l).row j) u := by
  intro j u hj
  rw [V.row]
  match j with
  | 0 => simp at hj; subst hj; rfl
  | 1 => simp at hj; subst hj; rfl
  | 2 => simp at hj; subst hj; rfl
  | 3 => simp at hj; subst hj; rfl
  | 4 => simp at hj; subst hj; rfl
  | 5 => simp at hj; subst hj; exact h
  | j + 6 => simp at hj

/-- element i of a slice of values -/
theorem vs_at {l : List V} {A : Option Addr} {n c : Nat} (h : Rd ok w (vs l) (.slice A n c)) {i : Nat} (hi : i < n) :
    ∃ b off k t n' m s l' A' c', A = some ⟨b, off, none⟩ ∧ ok b ∧ l[i]? = some (.mk k t n' m s l') ∧ VAt ok w b (off + i * 6) k t n' m s l' A' c' := by
  obtain ⟨A0, c0, e, _, _, h3⟩ := h.sl_inv
  injection e with e1 e2 e3
  subst e1 e2
  obtain ⟨b, off, rfl, hb, hr⟩ := h3 (by omega)
  have hv : l[i]? = some l[i] := List.getElem?_eq_getElem hi
  have h1 := hr i hi
  rw [rowsV_get l i _ hv] at h1
  cases hx : l[i] with
  | mk k t n' m s l' =>
    rw [hx] at h1 hv
    obtain ⟨A', c', h2⟩ := VAt_of_row h1
    exact ⟨b, off, k, t, n', m, s, l', A', c', rfl, hb, hv, h2⟩
theorem vs_len {l : List V} {A : Option Addr} {n c : Nat} (h : Rd ok w (vs l) (.slice A n c)) : n = l.length ∧ n ≤ c ∧ c ≤ 9223372036854775807 := by
  obtain ⟨A0, c0, e, h1, h2, _⟩ := h.sl_inv
  injection e with e1 e2 e3
  subst e1 e2 e3
  exact ⟨rfl, h1, h2⟩
end
end Go.Proofs.Ytlbmfgiepcemdaa
