/- Events as plain Lean data, and how they lie in memory (written by wip/tools/gen_struct.py). No program here. -/
import Derived.Test.YtlbmfgiepcemdaaVal
namespace Go.Proofs.Ytlbmfgiepcemdaa
open Go.RowKit

structure Ev where
  kind : Int
  path : ByteArray
  msg : ByteArray
  args : List V
  ord : Int
  vk : Int
  vt : ByteArray
  vn : Int
  vm : Int
  vx : ByteArray
  vl : List V
  n : Int
/-- the 12 cells of a Ev -/
def Ev.row (x : Ev) : Nat → D
  | 0 => .num .i64 x.kind
  | 1 => .str x.path
  | 2 => .str x.msg
  | 3 => vs x.args
  | 4 => .num .i64 x.ord
  | 5 => .num .i64 x.vk
  | 6 => .str x.vt
  | 7 => .num .i64 x.vn
  | 8 => .num .i64 x.vm
  | 9 => .str x.vx
  | 10 => vs x.vl
  | _ => .num .i64 x.n
def rowsEv (l : List Ev) (i : Nat) : Nat → D := match l[i]? with | some x => x.row | none => fun _ => .bool false
/-- a slice of Ev -/
def slEv (l : List Ev) : D := .sl 12 l.length (rowsEv l)
theorem rowsEv_get {l : List Ev} {i : Nat} {x : Ev} (h : l[i]? = some x) : rowsEv l i = x.row := by unfold rowsEv; rw [h]
/-- the 12 cells at o of block b hold x -/
def EvAt (ok : Nat → Prop) (w : World) (b o : Nat) (x : Ev) (A3 : Option Addr) (c3 : Nat) (A10 : Option Addr) (c10 : Nat) : Prop :=
  w.cell? ⟨b, o, none⟩ = some (.int .i64 x.kind) ∧ w.cell? ⟨b, o + 1, none⟩ = some (.string x.path) ∧ w.cell? ⟨b, o + 2, none⟩ = some (.string x.msg) ∧ w.cell? ⟨b, o + 3, none⟩ = some (.slice A3 x.args.length c3) ∧ w.cell? ⟨b, o + 4, none⟩ = some (.int .i64 x.ord) ∧ w.cell? ⟨b, o + 5, none⟩ = some (.int .i64 x.vk) ∧ w.cell? ⟨b, o + 6, none⟩ = some (.string x.vt) ∧ w.cell? ⟨b, o + 7, none⟩ = some (.int .i64 x.vn) ∧ w.cell? ⟨b, o + 8, none⟩ = some (.int .i64 x.vm) ∧ w.cell? ⟨b, o + 9, none⟩ = some (.string x.vx) ∧ w.cell? ⟨b, o + 10, none⟩ = some (.slice A10 x.vl.length c10) ∧ w.cell? ⟨b, o + 11, none⟩ = some (.int .i64 x.n) ∧ Rd ok w (vs x.args) (.slice A3 x.args.length c3) ∧ Rd ok w (vs x.vl) (.slice A10 x.vl.length c10)
section
variable {ok : Nat → Prop} {w : World}
theorem EvAt_of_row {b o : Nat} {x : Ev} (h : RdRow ok w b o 12 x.row) : ∃ A3 c3, ∃ A10 c10, EvAt ok w b o x A3 c3 A10 c10 := by
  obtain ⟨u0, q0, r0⟩ := h 0 (by omega)
  obtain ⟨u1, q1, r1⟩ := h 1 (by omega)
  obtain ⟨u2, q2, r2⟩ := h 2 (by omega)
  obtain ⟨u3, q3, r3⟩ := h 3 (by omega)
  obtain ⟨u4, q4, r4⟩ := h 4 (by omega)
  obtain ⟨u5, q5, r5⟩ := h 5 (by omega)
  obtain ⟨u6, q6, r6⟩ := h 6 (by omega)
  obtain ⟨u7, q7, r7⟩ := h 7 (by omega)
  obtain ⟨u8, q8, r8⟩ := h 8 (by omega)
  obtain ⟨u9, q9, r9⟩ := h 9 (by omega)
  obtain ⟨u10, q10, r10⟩ := h 10 (by omega)
  obtain ⟨u11, q11, r11⟩ := h 11 (by omega)
  have e0 : u0 = .int .i64 x.kind := r0
  have e1 : u1 = .string x.path := r1
  have e2 : u2 = .string x.msg := r2
  have s3 : Rd ok w (vs x.args) u3 := r3
  obtain ⟨A3, c3, e3, _⟩ := s3.sl_inv
  have e4 : u4 = .int .i64 x.ord := r4
  have e5 : u5 = .int .i64 x.vk := r5
  have e6 : u6 = .string x.vt := r6
  have e7 : u7 = .int .i64 x.vn := r7
  have e8 : u8 = .int .i64 x.vm := r8
  have e9 : u9 = .string x.vx := r9
  have s10 : Rd ok w (vs x.vl) u10 := r10
  obtain ⟨A10, c10, e10, _⟩ := s10.sl_inv
  have e11 : u11 = .int .i64 x.n := r11
  subst e0 e1 e2 e3 e4 e5 e6 e7 e8 e9 e10 e11
  exact ⟨A3, c3, A10, c10, q0, q1, q2, q3, q4, q5, q6, q7, q8, q9, q10, q11, s3, s10⟩
theorem row_of_EvAt {b o : Nat} {x : Ev} {A3 : Option Addr} {c3 : Nat} {A10 : Option Addr} {c10 : Nat} (h : EvAt ok w b o x A3 c3 A10 c10) : RdRow ok w b o 12 x.row := by
  obtain ⟨q0, q1, q2, q3, q4, q5, q6, q7, q8, q9, q10, q11, s3, s10⟩ := h
  intro j hj
  match j, hj with
  | 0, _ => exact ⟨_, q0, rfl⟩
  | 1, _ => exact ⟨_, q1, rfl⟩
  | 2, _ => exact ⟨_, q2, rfl⟩
  | 3, _ => exact ⟨_, q3, s3⟩
  | 4, _ => exact ⟨_, q4, rfl⟩
  | 5, _ => exact ⟨_, q5, rfl⟩
  | 6, _ => exact ⟨_, q6, rfl⟩
  | 7, _ => exact ⟨_, q7, rfl⟩
  | 8, _ => exact ⟨_, q8, rfl⟩
  | 9, _ => exact ⟨_, q9, rfl⟩
  | 10, _ => exact ⟨_, q10, s10⟩
  | 11, _ => exact ⟨_, q11, rfl⟩
theorem cells_rdEv {x : Ev} {A3 : Option Addr} {c3 : Nat} {A10 : Option Addr} {c10 : Nat} (h3 : Rd ok w (vs x.args) (.slice A3 x.args.length c3)) (h10 : Rd ok w (vs x.vl) (.slice A10 x.vl.length c10)) :
    ∀ (j : Nat) (u : Value), [Value.int .i64 x.kind, .string x.path, .string x.msg, .slice A3 x.args.length c3, .int .i64 x.ord, .int .i64 x.vk, .string x.vt, .int .i64 x.vn, .int .i64 x.vm, .string x.vx, .slice A10 x.vl.length c10, .int .i64 x.n][j]? = some u → Rd ok w (x.row j) u := by
  intro j u hj
  match j with
  | 0 => simp at hj; subst hj; rfl
  | 1 => simp at hj; subst hj; rfl
  | 2 => simp at hj; subst hj; rfl
  | 3 => simp at hj; subst hj; exact h3
  | 4 => simp at hj; subst hj; rfl
  | 5 => simp at hj; subst hj; rfl
  | 6 => simp at hj; subst hj; rfl
  | 7 => simp at hj; subst hj; rfl
  | 8 => simp at hj; subst hj; rfl
  | 9 => simp at hj; subst hj; rfl
  | 10 => simp at hj; subst hj; exact h10
  | 11 => simp at hj; subst hj; rfl
  | j + 12 => simp at hj
theorem slEv_at {l : List Ev} {A : Option Addr} {n c : Nat} (h : Rd ok w (slEv l) (.slice A n c)) {i : Nat} (hi : i < n) :
    ∃ b off x, A = some ⟨b, off, none⟩ ∧ ok b ∧ l[i]? = some x ∧ ∃ A3 c3, ∃ A10 c10, EvAt ok w b (off + i * 12) x A3 c3 A10 c10 := by
  obtain ⟨A0, c0, e, _, _, h3⟩ := h.sl_inv
  injection e with e1 e2 e3
  subst e1 e2
  obtain ⟨b, off, rfl, hb, hr⟩ := h3 (by omega)
  have hv : l[i]? = some l[i] := List.getElem?_eq_getElem hi
  have h1 := hr i hi
  rw [rowsEv_get hv] at h1
  exact ⟨b, off, l[i], rfl, hb, hv, EvAt_of_row h1⟩
theorem slEv_one {x : Ev} {A3 : Option Addr} {c3 : Nat} {A10 : Option Addr} {c10 : Nat} {g : Nat} (hg : ok g) (h : EvAt ok w g 0 x A3 c3 A10 c10) : Rd ok w (slEv [x]) (.slice (some ⟨g, 0, none⟩) 1 1) :=
  Rd.sl_mk (Nat.le_refl _) (by omega) fun _ => ⟨g, 0, rfl, hg, fun i hi => by
    obtain rfl : i = 0 := by simpa using hi
    have h1 := row_of_EvAt h
    rw [rowsEv_get (x := x) rfl]
    simpa using h1⟩
theorem slEv_len {l : List Ev} {A : Option Addr} {n c : Nat} (h : Rd ok w (slEv l) (.slice A n c)) : n = l.length ∧ n ≤ c ∧ c ≤ 9223372036854775807 := by
  obtain ⟨A0, c0, e, h1, h2, _⟩ := h.sl_inv
  injection e with e1 e2 e3
  subst e1 e2 e3
  exact ⟨rfl, h1, h2⟩
end
theorem solid_Ev (x : Ev) (j : Nat) : Solid (x.row j) := by
  unfold Ev.row
  split
  · exact trivial
  · exact trivial
  · exact trivial
  · exact solid_vs _
  · exact trivial
  · exact trivial
  · exact trivial
  · exact trivial
  · exact trivial
  · exact trivial
  · exact solid_vs _
  · exact trivial
theorem solid_slEv (l : List Ev) : Solid (slEv l) := ⟨by omega, fun i _ j _ => by
  cases h : l[i]? with
  | none => unfold rowsEv; rw [h]; trivial
  | some x => rw [rowsEv_get h]; exact solid_Ev x j⟩
/-- how much it holds -/
def Ev.bulk (x : Ev) : Nat := 13 + x.path.size + x.msg.size + bulkV x.args + x.vt.size + x.vx.size + bulkV x.vl
def bulkEv (l : List Ev) : Nat := (l.map Ev.bulk).sum
theorem bulkEv_get {l : List Ev} {i : Nat} {x : Ev} (h : l[i]? = some x) : x.bulk ≤ bulkEv l := by
  induction l generalizing i with
  | nil => simp at h
  | cons y r ih =>
    rw [bulkEv, List.map_cons, List.sum_cons]
    cases i with
    | zero => simp at h; subst h; omega
    | succ i =>
      have := ih (i := i) (by simpa using h)
      unfold bulkEv at this
      omega
theorem bulkEv_len (l : List Ev) : 13 * l.length ≤ bulkEv l := by
  induction l with
  | nil => simp
  | cons y r ih =>
    rw [bulkEv, List.map_cons, List.sum_cons, List.length_cons]
    have : 13 ≤ y.bulk := by unfold Ev.bulk; omega
    unfold bulkEv at ih
    omega
end Go.Proofs.Ytlbmfgiepcemdaa
