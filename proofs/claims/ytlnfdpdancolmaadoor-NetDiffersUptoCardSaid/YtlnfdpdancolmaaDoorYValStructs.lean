/- The values of the language as plain Lean data, and how they lie in memory: six cells each. No program here. Effects, commands and requests as plain Lean data, and how they lie in memory (written by wip/tools/gen_struct.py). No program here. -/
import Derived.Test.YtlnfdpdancolmaaDoorYMem
namespace Go.Proofs.YtlnfdpdancolmaaDoor
open Go.RowKit

inductive V where
  | mk (kind : Int) (t : ByteArray) (n m : Int) (s : ByteArray) (l : List V)

namespace V
def kind : V → Int | .mk k _ _ _ _ _ => k
def t : V → ByteArray | .mk _ t _ _ _ _ => t
def n : V → Int | .mk _ _ n _ _ _ => n
def m : V → Int | .mk _ _ _ m _ _ => m
def s : V → ByteArray | .mk _ _ _ _ s _ => s
def l : V → List V | .mk _ _ _ _ _ l => l
end V

/-- six cells -/
def fld6 (k : Int) (t : ByteArray) (n m : Int) (s : ByteArray) (d : D) : Nat → D
  | 0 => .num .i64 k
  | 1 => .str t
  | 2 => .num .i64 n
  | 3 => .num .i64 m
  | 4 => .str s
  | _ => d

mutual
/-- a value's six cells -/
def V.row : V → Nat → D
  | .mk k t n m s l => fld6 k t n m s (.sl 6 l.length (rowsV l))
def rowsV : List V → Nat → Nat → D
  | [], _, _ => .bool false
  | v :: r, i, j => match i with
    | 0 => v.row j
    | i + 1 => rowsV r i j
end

/-- a slice of values -/
def vs (l : List V) : D := .sl 6 l.length (rowsV l)

theorem rowsV_get : ∀ (l : List V) (i : Nat) (v : V), l[i]? = some v → rowsV l i = v.row
  | [], i, v, h => by simp at h
  | x :: r, 0, v, h => by simp at h; subst h; funext j; rfl
  | x :: r, i + 1, v, h => by
    have := rowsV_get r i v (by simpa using h)
    funext j
    show rowsV r i j = _
    rw [this]

mutual
/-- how much a value holds -/
def V.bulk : V → Nat
  | .mk _ t _ _ s l => 7 + t.size + s.size + bulkV l
def bulkV : List V → Nat
  | [] => 0
  | v :: r => v.bulk + bulkV r
end

theorem bulk_mk (k : Int) (t : ByteArray) (n m : Int) (s : ByteArray) (l : List V) : (V.mk k t n m s l).bulk = 7 + t.size + s.size + bulkV l := by rw [V.bulk]
theorem bulkV_cons (v : V) (r : List V) : bulkV (v :: r) = v.bulk + bulkV r := by rw [bulkV]
theorem bulkV_get : ∀ (l : List V) (i : Nat) (v : V), l[i]? = some v → v.bulk ≤ bulkV l
  | [], i, v, h => by simp at h
  | x :: r, 0, v, h => by simp at h; subst h; rw [bulkV_cons]; omega
  | x :: r, i + 1, v, h => by
    have := bulkV_get r i v (by simpa using h)
    rw [bulkV_cons]; omega
theorem bulkV_len : ∀ l : List V, 7 * l.length ≤ bulkV l
  | [] => by simp
  | .mk k t n m s l :: r => by
    have := bulkV_len r
    rw [bulkV_cons, bulk_mk, List.length_cons]; omega

mutual
theorem solid_row : ∀ (v : V) (j : Nat), Solid (v.row j)
  | .mk k t n m s l, 0 => by rw [V.row]; trivial
  | .mk k t n m s l, 1 => by rw [V.row]; trivial
  | .mk k t n m s l, 2 => by rw [V.row]; trivial
  | .mk k t n m s l, 3 => by rw [V.row]; trivial
  | .mk k t n m s l, 4 => by rw [V.row]; trivial
  | .mk k t n m s l, j + 5 => by rw [V.row]; exact ⟨by omega, fun i _ j _ => solid_rows l i j⟩
theorem solid_rows : ∀ (l : List V) (i j : Nat), Solid (rowsV l i j)
  | [], i, j => by rw [rowsV]; trivial
  | v :: r, 0, j => by rw [rowsV]; exact solid_row v j
  | v :: r, i + 1, j => by rw [rowsV]; exact solid_rows r i j
end
theorem solid_vs (l : List V) : Solid (vs l) := ⟨by omega, fun i _ j _ => solid_rows l i j⟩

section
variable {ok : Nat → Prop} {w : World}
/-- the six cells at o of block b hold the value -/
def VAt (ok : Nat → Prop) (w : World) (b o : Nat) (k : Int) (t : ByteArray) (n m : Int) (s : ByteArray) (l : List V) (A : Option Addr) (c : Nat) : Prop :=
  w.cell? ⟨b, o, none⟩ = some (.int .i64 k) ∧ w.cell? ⟨b, o + 1, none⟩ = some (.string t) ∧ w.cell? ⟨b, o + 2, none⟩ = some (.int .i64 n) ∧ w.cell? ⟨b, o + 3, none⟩ = some (.int .i64 m) ∧ w.cell? ⟨b, o + 4, none⟩ = some (.string s) ∧ w.cell? ⟨b, o + 5, none⟩ = some (.slice A l.length c) ∧ Rd ok w (vs l) (.slice A l.length c)

theorem VAt_of_row {b o : Nat} {k n m : Int} {t s : ByteArray} {l : List V} (h : RdRow ok w b o 6 (V.mk k t n m s l).row) : ∃ A c, VAt ok w b o k t n m s l A c := by
  rw [V.row] at h
  obtain ⟨u0, c0, r0⟩ := h 0 (by omega)
  obtain ⟨u1, c1, r1⟩ := h 1 (by omega)
  obtain ⟨u2, c2, r2⟩ := h 2 (by omega)
  obtain ⟨u3, c3, r3⟩ := h 3 (by omega)
  obtain ⟨u4, c4, r4⟩ := h 4 (by omega)
  obtain ⟨u5, c5, r5⟩ := h 5 (by omega)
  have e0 : u0 = .int .i64 k := r0
  have e1 : u1 = .string t := r1
  have e2 : u2 = .int .i64 n := r2
  have e3 : u3 = .int .i64 m := r3
  have e4 : u4 = .string s := r4
  have r5' : Rd ok w (vs l) u5 := r5
  obtain ⟨A, c, e5, _⟩ := r5'.sl_inv
  subst e0 e1 e2 e3 e4 e5
  exact ⟨A, c, c0, c1, c2, c3, c4, c5, r5'⟩
theorem row_of_VAt {b o : Nat} {k n m : Int} {t s : ByteArray} {l : List V} {A : Option Addr} {c : Nat} (h : VAt ok w b o k t n m s l A c) : RdRow ok w b o 6 (V.mk k t n m s l).row := by
  obtain ⟨c0, c1, c2, c3, c4, c5, r5⟩ := h
  intro j hj
  rw [V.row]
  match j, hj with
  | 0, _ => exact ⟨_, c0, rfl⟩
  | 1, _ => exact ⟨_, c1, rfl⟩
  | 2, _ => exact ⟨_, c2, rfl⟩
  | 3, _ => exact ⟨_, c3, rfl⟩
  | 4, _ => exact ⟨_, c4, rfl⟩
  | 5, _ => exact ⟨_, c5, r5⟩

theorem cells_rdV {k n m : Int} {t s : ByteArray} {l : List V} {A : Option Addr} {c : Nat} (h : Rd ok w (vs l) (.slice A l.length c)) :
    ∀ (j : Nat) (u : Value), [Value.int .i64 k, .string t, .int .i64 n, .int .i64 m, .string s, .slice A l.length c][j]? = some u → Rd ok w ((V.mk k t n m s l).row j) u := by
  intro j u hj
  rw [V.row]
  match j with
  | 0 => simp at hj; subst hj; rfl
  | 1 => simp at hj; subst hj; rfl
  | 2 => simp at hj; subst hj; rfl
  | 3 => simp at hj; subst hj; rfl
  | 4 => simp at hj; subst hj; rfl
  | 5 => simp at hj; subst hj; exact h
  | j + 6 => simp at hj

/-- element i of a slice of values -/
theorem vs_at {l : List V} {A : Option Addr} {n c : Nat} (h : Rd ok w (vs l) (.slice A n c)) {i : Nat} (hi : i < n) :
    ∃ b off k t n' m s l' A' c', A = some ⟨b, off, none⟩ ∧ ok b ∧ l[i]? = some (.mk k t n' m s l') ∧ VAt ok w b (off + i * 6) k t n' m s l' A' c' := by
  obtain ⟨A0, c0, e, _, _, h3⟩ := h.sl_inv
  injection e with e1 e2 e3
  subst e1 e2
  obtain ⟨b, off, rfl, hb, hr⟩ := h3 (by omega)
  have hv : l[i]? = some l[i] := List.getElem?_eq_getElem hi
  have h1 := hr i hi
  rw [rowsV_get l i _ hv] at h1
  cases hx : l[i] with
  | mk k t n' m s l' =>
    rw [hx] at h1 hv
    obtain ⟨A', c', h2⟩ := VAt_of_row h1
    exact ⟨b, off, k, t, n', m, s, l', A', c', rfl, hb, hv, h2⟩
theorem vs_len {l : List V} {A : Option Addr} {n c : Nat} (h : Rd ok w (vs l) (.slice A n c)) : n = l.length ∧ n ≤ c ∧ c ≤ 9223372036854775807 := by
  obtain ⟨A0, c0, e, h1, h2, _⟩ := h.sl_inv
  injection e with e1 e2 e3
  subst e1 e2 e3
  exact ⟨rfl, h1, h2⟩
end
end Go.Proofs.YtlnfdpdancolmaaDoor
namespace Go.Proofs.YtlnfdpdancolmaaDoor
open Go.RowKit

structure Out where
  key : ByteArray
  name : ByteArray
  args : List V
  part : Bool
  tick : Int
/-- the 5 cells of a Out -/
def Out.row (x : Out) : Nat → D
  | 0 => .str x.key
  | 1 => .str x.name
  | 2 => vs x.args
  | 3 => .bool x.part
  | _ => .num .i64 x.tick
def rowsOut (l : List Out) (i : Nat) : Nat → D := match l[i]? with | some x => x.row | none => fun _ => .bool false
/-- a slice of Out -/
def slOut (l : List Out) : D := .sl 5 l.length (rowsOut l)
theorem rowsOut_get {l : List Out} {i : Nat} {x : Out} (h : l[i]? = some x) : rowsOut l i = x.row := by unfold rowsOut; rw [h]
/-- the 5 cells at o of block b hold x -/
def OutAt (ok : Nat → Prop) (w : World) (b o : Nat) (x : Out) (A2 : Option Addr) (c2 : Nat) : Prop :=
  w.cell? ⟨b, o, none⟩ = some (.string x.key) ∧ w.cell? ⟨b, o + 1, none⟩ = some (.string x.name) ∧ w.cell? ⟨b, o + 2, none⟩ = some (.slice A2 x.args.length c2) ∧ w.cell? ⟨b, o + 3, none⟩ = some (.bool x.part) ∧ w.cell? ⟨b, o + 4, none⟩ = some (.int .i64 x.tick) ∧ Rd ok w (vs x.args) (.slice A2 x.args.length c2)
section
variable {ok : Nat → Prop} {w : World}
theorem OutAt_of_row {b o : Nat} {x : Out} (h : RdRow ok w b o 5 x.row) : ∃ A2 c2, OutAt ok w b o x A2 c2 := by
  obtain ⟨u0, q0, r0⟩ := h 0 (by omega)
  obtain ⟨u1, q1, r1⟩ := h 1 (by omega)
  obtain ⟨u2, q2, r2⟩ := h 2 (by omega)
  obtain ⟨u3, q3, r3⟩ := h 3 (by omega)
  obtain ⟨u4, q4, r4⟩ := h 4 (by omega)
  have e0 : u0 = .string x.key := r0
  have e1 : u1 = .string x.name := r1
  have s2 : Rd ok w (vs x.args) u2 := r2
  obtain ⟨A2, c2, e2, _⟩ := s2.sl_inv
  have e3 : u3 = .bool x.part := r3
  have e4 : u4 = .int .i64 x.tick := r4
  subst e0 e1 e2 e3 e4
  exact ⟨A2, c2, q0, q1, q2, q3, q4, s2⟩
theorem row_of_OutAt {b o : Nat} {x : Out} {A2 : Option Addr} {c2 : Nat} (h : OutAt ok w b o x A2 c2) : RdRow ok w b o 5 x.row := by
  obtain ⟨q0, q1, q2, q3, q4, s2⟩ := h
  intro j hj
  match j, hj with
  | 0, _ => exact ⟨_, q0, rfl⟩
  | 1, _ => exact ⟨_, q1, rfl⟩
  | 2, _ => exact ⟨_, q2, s2⟩
  | 3, _ => exact ⟨_, q3, rfl⟩
  | 4, _ => exact ⟨_, q4, rfl⟩
theorem cells_rdOut {x : Out} {A2 : Option Addr} {c2 : Nat} (h2 : Rd ok w (vs x.args) (.slice A2 x.args.length c2)) :
    ∀ (j : Nat) (u : Value), [Value.string x.key, .string x.name, .slice A2 x.args.length c2, .bool x.part, .int .i64 x.tick][j]? = some u → Rd ok w (x.row j) u := by
  intro j u hj
  match j with
  | 0 => simp at hj; subst hj; rfl
  | 1 => simp at hj; subst hj; rfl
  | 2 => simp at hj; subst hj; exact h2
  | 3 => simp at hj; subst hj; rfl
  | 4 => simp at hj; subst hj; rfl
  | j + 5 => simp at hj
theorem slOut_at {l : List Out} {A : Option Addr} {n c : Nat} (h : Rd ok w (slOut l) (.slice A n c)) {i : Nat} (hi : i < n) :
    ∃ b off x, A = some ⟨b, off, none⟩ ∧ ok b ∧ l[i]? = some x ∧ ∃ A2 c2, OutAt ok w b (off + i * 5) x A2 c2 := by
  obtain ⟨A0, c0, e, _, _, h3⟩ := h.sl_inv
  injection e with e1 e2 e3
  subst e1 e2
  obtain ⟨b, off, rfl, hb, hr⟩ := h3 (by omega)
  have hv : l[i]? = some l[i] := List.getElem?_eq_getElem hi
  have h1 := hr i hi
  rw [rowsOut_get hv] at h1
  exact ⟨b, off, l[i], rfl, hb, hv, OutAt_of_row h1⟩
theorem slOut_one {x : Out} {A2 : Option Addr} {c2 : Nat} {g : Nat} (hg : ok g) (h : OutAt ok w g 0 x A2 c2) : Rd ok w (slOut [x]) (.slice (some ⟨g, 0, none⟩) 1 1) :=
  Rd.sl_mk (Nat.le_refl _) (by omega) fun _ => ⟨g, 0, rfl, hg, fun i hi => by
    obtain rfl : i = 0 := by simpa using hi
    have h1 := row_of_OutAt h
    rw [rowsOut_get (x := x) rfl]
    simpa using h1⟩
theorem slOut_len {l : List Out} {A : Option Addr} {n c : Nat} (h : Rd ok w (slOut l) (.slice A n c)) : n = l.length ∧ n ≤ c ∧ c ≤ 9223372036854775807 := by
  obtain ⟨A0, c0, e, h1, h2, _⟩ := h.sl_inv
  injection e with e1 e2 e3
  subst e1 e2 e3
  exact ⟨rfl, h1, h2⟩
end
theorem solid_Out (x : Out) (j : Nat) : Solid (x.row j) := by
  unfold Out.row
  split
  · exact trivial
  · exact trivial
  · exact solid_vs _
  · exact trivial
  · exact trivial
theorem solid_slOut (l : List Out) : Solid (slOut l) := ⟨by omega, fun i _ j _ => by
  cases h : l[i]? with
  | none => unfold rowsOut; rw [h]; trivial
  | some x => rw [rowsOut_get h]; exact solid_Out x j⟩
/-- how much it holds -/
def Out.bulk (x : Out) : Nat := 6 + x.key.size + x.name.size + bulkV x.args
def bulkOut (l : List Out) : Nat := (l.map Out.bulk).sum
theorem bulkOut_get {l : List Out} {i : Nat} {x : Out} (h : l[i]? = some x) : x.bulk ≤ bulkOut l := by
  induction l generalizing i with
  | nil => simp at h
  | cons y r ih =>
    rw [bulkOut, List.map_cons, List.sum_cons]
    cases i with
    | zero => simp at h; subst h; omega
    | succ i =>
      have := ih (i := i) (by simpa using h)
      unfold bulkOut at this
      omega
theorem bulkOut_len (l : List Out) : 6 * l.length ≤ bulkOut l := by
  induction l with
  | nil => simp
  | cons y r ih =>
    rw [bulkOut, List.map_cons, List.sum_cons, List.length_cons]
    have : 6 ≤ y.bulk := by unfold Out.bulk; omega
    unfold bulkOut at ih
    omega

structure Cmd where
  key : ByteArray
  kind : Int
  of : ByteArray
  new : ByteArray
  name : ByteArray
  args : List V
/-- the 6 cells of a Cmd -/
def Cmd.row (x : Cmd) : Nat → D
  | 0 => .str x.key
  | 1 => .num .i64 x.kind
  | 2 => .str x.of
  | 3 => .str x.new
  | 4 => .str x.name
  | _ => vs x.args
def rowsCmd (l : List Cmd) (i : Nat) : Nat → D := match l[i]? with | some x => x.row | none => fun _ => .bool false
/-- a slice of Cmd -/
def slCmd (l : List Cmd) : D := .sl 6 l.length (rowsCmd l)
theorem rowsCmd_get {l : List Cmd} {i : Nat} {x : Cmd} (h : l[i]? = some x) : rowsCmd l i = x.row := by unfold rowsCmd; rw [h]
/-- the 6 cells at o of block b hold x -/
def CmdAt (ok : Nat → Prop) (w : World) (b o : Nat) (x : Cmd) (A5 : Option Addr) (c5 : Nat) : Prop :=
  w.cell? ⟨b, o, none⟩ = some (.string x.key) ∧ w.cell? ⟨b, o + 1, none⟩ = some (.int .i64 x.kind) ∧ w.cell? ⟨b, o + 2, none⟩ = some (.string x.of) ∧ w.cell? ⟨b, o + 3, none⟩ = some (.string x.new) ∧ w.cell? ⟨b, o + 4, none⟩ = some (.string x.name) ∧ w.cell? ⟨b, o + 5, none⟩ = some (.slice A5 x.args.length c5) ∧ Rd ok w (vs x.args) (.slice A5 x.args.length c5)
section
variable {ok : Nat → Prop} {w : World}
theorem CmdAt_of_row {b o : Nat} {x : Cmd} (h : RdRow ok w b o 6 x.row) : ∃ A5 c5, CmdAt ok w b o x A5 c5 := by
  obtain ⟨u0, q0, r0⟩ := h 0 (by omega)
  obtain ⟨u1, q1, r1⟩ := h 1 (by omega)
  obtain ⟨u2, q2, r2⟩ := h 2 (by omega)
  obtain ⟨u3, q3, r3⟩ := h 3 (by omega)
  obtain ⟨u4, q4, r4⟩ := h 4 (by omega)
  obtain ⟨u5, q5, r5⟩ := h 5 (by omega)
  have e0 : u0 = .string x.key := r0
  have e1 : u1 = .int .i64 x.kind := r1
  have e2 : u2 = .string x.of := r2
  have e3 : u3 = .string x.new := r3
  have e4 : u4 = .string x.name := r4
  have s5 : Rd ok w (vs x.args) u5 := r5
  obtain ⟨A5, c5, e5, _⟩ := s5.sl_inv
  subst e0 e1 e2 e3 e4 e5
  exact ⟨A5, c5, q0, q1, q2, q3, q4, q5, s5⟩
theorem row_of_CmdAt {b o : Nat} {x : Cmd} {A5 : Option Addr} {c5 : Nat} (h : CmdAt ok w b o x A5 c5) : RdRow ok w b o 6 x.row := by
  obtain ⟨q0, q1, q2, q3, q4, q5, s5⟩ := h
  intro j hj
  match j, hj with
  | 0, _ => exact ⟨_, q0, rfl⟩
  | 1, _ => exact ⟨_, q1, rfl⟩
  | 2, _ => exact ⟨_, q2, rfl⟩
  | 3, _ => exact ⟨_, q3, rfl⟩
  | 4, _ => exact ⟨_, q4, rfl⟩
  | 5, _ => exact ⟨_, q5, s5⟩
theorem cells_rdCmd {x : Cmd} {A5 : Option Addr} {c5 : Nat} (h5 : Rd ok w (vs x.args) (.slice A5 x.args.length c5)) :
    ∀ (j : Nat) (u : Value), [Value.string x.key, .int .i64 x.kind, .string x.of, .string x.new, .string x.name, .slice A5 x.args.length c5][j]? = some u → Rd ok w (x.row j) u := by
  intro j u hj
  match j with
  | 0 => simp at hj; subst hj; rfl
  | 1 => simp at hj; subst hj; rfl
  | 2 => simp at hj; subst hj; rfl
  | 3 => simp at hj; subst hj; rfl
  | 4 => simp at hj; subst hj; rfl
  | 5 => simp at hj; subst hj; exact h5
  | j + 6 => simp at hj
theorem slCmd_at {l : List Cmd} {A : Option Addr} {n c : Nat} (h : Rd ok w (slCmd l) (.slice A n c)) {i : Nat} (hi : i < n) :
    ∃ b off x, A = some ⟨b, off, none⟩ ∧ ok b ∧ l[i]? = some x ∧ ∃ A5 c5, CmdAt ok w b (off + i * 6) x A5 c5 := by
  obtain ⟨A0, c0, e, _, _, h3⟩ := h.sl_inv
  injection e with e1 e2 e3
  subst e1 e2
  obtain ⟨b, off, rfl, hb, hr⟩ := h3 (by omega)
  have hv : l[i]? = some l[i] := List.getElem?_eq_getElem hi
  have h1 := hr i hi
  rw [rowsCmd_get hv] at h1
  exact ⟨b, off, l[i], rfl, hb, hv, CmdAt_of_row h1⟩
theorem slCmd_one {x : Cmd} {A5 : Option Addr} {c5 : Nat} {g : Nat} (hg : ok g) (h : CmdAt ok w g 0 x A5 c5) : Rd ok w (slCmd [x]) (.slice (some ⟨g, 0, none⟩) 1 1) :=
  Rd.sl_mk (Nat.le_refl _) (by omega) fun _ => ⟨g, 0, rfl, hg, fun i hi => by
    obtain rfl : i = 0 := by simpa using hi
    have h1 := row_of_CmdAt h
    rw [rowsCmd_get (x := x) rfl]
    simpa using h1⟩
theorem slCmd_len {l : List Cmd} {A : Option Addr} {n c : Nat} (h : Rd ok w (slCmd l) (.slice A n c)) : n = l.length ∧ n ≤ c ∧ c ≤ 9223372036854775807 := by
  obtain ⟨A0, c0, e, h1, h2, _⟩ := h.sl_inv
  injection e with e1 e2 e3
  subst e1 e2 e3
  exact ⟨rfl, h1, h2⟩
end
theorem solid_Cmd (x : Cmd) (j : Nat) : Solid (x.row j) := by
  unfold Cmd.row
  split
  · exact trivial
  · exact trivial
  · exact trivial
  · exact trivial
  · exact trivial
  · exact solid_vs _
theorem solid_slCmd (l : List Cmd) : Solid (slCmd l) := ⟨by omega, fun i _ j _ => by
  cases h : l[i]? with
  | none => unfold rowsCmd; rw [h]; trivial
  | some x => rw [rowsCmd_get h]; exact solid_Cmd x j⟩
/-- how much it holds -/
def Cmd.bulk (x : Cmd) : Nat := 7 + x.key.size + x.of.size + x.new.size + x.name.size + bulkV x.args
def bulkCmd (l : List Cmd) : Nat := (l.map Cmd.bulk).sum
theorem bulkCmd_get {l : List Cmd} {i : Nat} {x : Cmd} (h : l[i]? = some x) : x.bulk ≤ bulkCmd l := by
  induction l generalizing i with
  | nil => simp at h
  | cons y r ih =>
    rw [bulkCmd, List.map_cons, List.sum_cons]
    cases i with
    | zero => simp at h; subst h; omega
    | succ i =>
      have := ih (i := i) (by simpa using h)
      unfold bulkCmd at this
      omega
theorem bulkCmd_len (l : List Cmd) : 7 * l.length ≤ bulkCmd l := by
  induction l with
  | nil => simp
  | cons y r ih =>
    rw [bulkCmd, List.map_cons, List.sum_cons, List.length_cons]
    have : 7 ≤ y.bulk := by unfold Cmd.bulk; omega
    unfold bulkCmd at ih
    omega

structure Req where
  path : ByteArray
  name : ByteArray
  args : List V
  ord : Int
  reply : ByteArray
  sent : Int
  tick : Int
  isopen : Bool
/-- the 8 cells of a Req -/
def Req.row (x : Req) : Nat → D
  | 0 => .str x.path
  | 1 => .str x.name
  | 2 => vs x.args
  | 3 => .num .i64 x.ord
  | 4 => .str x.reply
  | 5 => .num .i64 x.sent
  | 6 => .num .i64 x.tick
  | _ => .bool x.isopen
def rowsReq (l : List Req) (i : Nat) : Nat → D := match l[i]? with | some x => x.row | none => fun _ => .bool false
/-- a slice of Req -/
def slReq (l : List Req) : D := .sl 8 l.length (rowsReq l)
theorem rowsReq_get {l : List Req} {i : Nat} {x : Req} (h : l[i]? = some x) : rowsReq l i = x.row := by unfold rowsReq; rw [h]
/-- the 8 cells at o of block b hold x -/
def ReqAt (ok : Nat → Prop) (w : World) (b o : Nat) (x : Req) (A2 : Option Addr) (c2 : Nat) : Prop :=
  w.cell? ⟨b, o, none⟩ = some (.string x.path) ∧ w.cell? ⟨b, o + 1, none⟩ = some (.string x.name) ∧ w.cell? ⟨b, o + 2, none⟩ = some (.slice A2 x.args.length c2) ∧ w.cell? ⟨b, o + 3, none⟩ = some (.int .i64 x.ord) ∧ w.cell? ⟨b, o + 4, none⟩ = some (.string x.reply) ∧ w.cell? ⟨b, o + 5, none⟩ = some (.int .i64 x.sent) ∧ w.cell? ⟨b, o + 6, none⟩ = some (.int .i64 x.tick) ∧ w.cell? ⟨b, o + 7, none⟩ = some (.bool x.isopen) ∧ Rd ok w (vs x.args) (.slice A2 x.args.length c2)
section
variable {ok : Nat → Prop} {w : World}
theorem ReqAt_of_row {b o : Nat} {x : Req} (h : RdRow ok w b o 8 x.row) : ∃ A2 c2, ReqAt ok w b o x A2 c2 := by
  obtain ⟨u0, q0, r0⟩ := h 0 (by omega)
  obtain ⟨u1, q1, r1⟩ := h 1 (by omega)
  obtain ⟨u2, q2, r2⟩ := h 2 (by omega)
  obtain ⟨u3, q3, r3⟩ := h 3 (by omega)
  obtain ⟨u4, q4, r4⟩ := h 4 (by omega)
  obtain ⟨u5, q5, r5⟩ := h 5 (by omega)
  obtain ⟨u6, q6, r6⟩ := h 6 (by omega)
  obtain ⟨u7, q7, r7⟩ := h 7 (by omega)
  have e0 : u0 = .string x.path := r0
  have e1 : u1 = .string x.name := r1
  have s2 : Rd ok w (vs x.args) u2 := r2
  obtain ⟨A2, c2, e2, _⟩ := s2.sl_inv
  have e3 : u3 = .int .i64 x.ord := r3
  have e4 : u4 = .string x.reply := r4
  have e5 : u5 = .int .i64 x.sent := r5
  have e6 : u6 = .int .i64 x.tick := r6
  have e7 : u7 = .bool x.isopen := r7
  subst e0 e1 e2 e3 e4 e5 e6 e7
  exact ⟨A2, c2, q0, q1, q2, q3, q4, q5, q6, q7, s2⟩
theorem row_of_ReqAt {b o : Nat} {x : Req} {A2 : Option Addr} {c2 : Nat} (h : ReqAt ok w b o x A2 c2) : RdRow ok w b o 8 x.row := by
  obtain ⟨q0, q1, q2, q3, q4, q5, q6, q7, s2⟩ := h
  intro j hj
  match j, hj with
  | 0, _ => exact ⟨_, q0, rfl⟩
  | 1, _ => exact ⟨_, q1, rfl⟩
  | 2, _ => exact ⟨_, q2, s2⟩
  | 3, _ => exact ⟨_, q3, rfl⟩
  | 4, _ => exact ⟨_, q4, rfl⟩
  | 5, _ => exact ⟨_, q5, rfl⟩
  | 6, _ => exact ⟨_, q6, rfl⟩
  | 7, _ => exact ⟨_, q7, rfl⟩
theorem cells_rdReq {x : Req} {A2 : Option Addr} {c2 : Nat} (h2 : Rd ok w (vs x.args) (.slice A2 x.args.length c2)) :
    ∀ (j : Nat) (u : Value), [Value.string x.path, .string x.name, .slice A2 x.args.length c2, .int .i64 x.ord, .string x.reply, .int .i64 x.sent, .int .i64 x.tick, .bool x.isopen][j]? = some u → Rd ok w (x.row j) u := by
  intro j u hj
  match j with
  | 0 => simp at hj; subst hj; rfl
  | 1 => simp at hj; subst hj; rfl
  | 2 => simp at hj; subst hj; exact h2
  | 3 => simp at hj; subst hj; rfl
  | 4 => simp at hj; subst hj; rfl
  | 5 => simp at hj; subst hj; rfl
  | 6 => simp at hj; subst hj; rfl
  | 7 => simp at hj; subst hj; rfl
  | j + 8 => simp at hj
theorem slReq_at {l : List Req} {A : Option Addr} {n c : Nat} (h : Rd ok w (slReq l) (.slice A n c)) {i : Nat} (hi : i < n) :
    ∃ b off x, A = some ⟨b, off, none⟩ ∧ ok b ∧ l[i]? = some x ∧ ∃ A2 c2, ReqAt ok w b (off + i * 8) x A2 c2 := by
  obtain ⟨A0, c0, e, _, _, h3⟩ := h.sl_inv
  injection e with e1 e2 e3
  subst e1 e2
  obtain ⟨b, off, rfl, hb, hr⟩ := h3 (by omega)
  have hv : l[i]? = some l[i] := List.getElem?_eq_getElem hi
  have h1 := hr i hi
  rw [rowsReq_get hv] at h1
  exact ⟨b, off, l[i], rfl, hb, hv, ReqAt_of_row h1⟩
theorem slReq_one {x : Req} {A2 : Option Addr} {c2 : Nat} {g : Nat} (hg : ok g) (h : ReqAt ok w g 0 x A2 c2) : Rd ok w (slReq [x]) (.slice (some ⟨g, 0, none⟩) 1 1) :=
  Rd.sl_mk (Nat.le_refl _) (by omega) fun _ => ⟨g, 0, rfl, hg, fun i hi => by
    obtain rfl : i = 0 := by simpa using hi
    have h1 := row_of_ReqAt h
    rw [rowsReq_get (x := x) rfl]
    simpa using h1⟩
theorem slReq_len {l : List Req} {A : Option Addr} {n c : Nat} (h : Rd ok w (slReq l) (.slice A n c)) : n = l.length ∧ n ≤ c ∧ c ≤ 9223372036854775807 := by
  obtain ⟨A0, c0, e, h1, h2, _⟩ := h.sl_inv
  injection e with e1 e2 e3
  subst e1 e2 e3
  exact ⟨rfl, h1, h2⟩
end
theorem solid_Req (x : Req) (j : Nat) : Solid (x.row j) := by
  unfold Req.row
  split
  · exact trivial
  · exact trivial
  · exact solid_vs _
  · exact trivial
  · exact trivial
  · exact trivial
  · exact trivial
  · exact trivial
theorem solid_slReq (l : List Req) : Solid (slReq l) := ⟨by omega, fun i _ j _ => by
  cases h : l[i]? with
  | none => unfold rowsReq; rw [h]; trivial
  | some x => rw [rowsReq_get h]; exact solid_Req x j⟩
/-- how much it holds -/
def Req.bulk (x : Req) : Nat := 9 + x.path.size + x.name.size + bulkV x.args + x.reply.size
def bulkReq (l : List Req) : Nat := (l.map Req.bulk).sum
theorem bulkReq_get {l : List Req} {i : Nat} {x : Req} (h : l[i]? = some x) : x.bulk ≤ bulkReq l := by
  induction l generalizing i with
  | nil => simp at h
  | cons y r ih =>
    rw [bulkReq, List.map_cons, List.sum_cons]
    cases i with
    | zero => simp at h; subst h; omega
    | succ i =>
      have := ih (i := i) (by simpa using h)
      unfold bulkReq at this
      omega
theorem bulkReq_len (l : List Req) : 9 * l.length ≤ bulkReq l := by
  induction l with
  | nil => simp
  | cons y r ih =>
    rw [bulkReq, List.map_cons, List.sum_cons, List.length_cons]
    have : 9 ≤ y.bulk := by unfold Req.bulk; omega
    unfold bulkReq at ih
    omega
end Go.Proofs.YtlnfdpdancolmaaDoor
