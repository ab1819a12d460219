/- An element of any struct appended to a row of the call's own. Conditions: those in each statement. -/
import Derived.Test.YtlbmfgiepcemdaaDecP
namespace Go.Proofs.Ytlbmfgiepcemdaa
open Go.RowKit

def rowsG {α : Type} (row : α → Nat → D) (l : List α) (i : Nat) : Nat → D := match l[i]? with | some x => row x | none => fun _ => .bool false
theorem rowsG_get {α : Type} {row : α → Nat → D} {l : List α} {i : Nat} {x : α} (h : l[i]? = some x) : rowsG row l i = row x := by unfold rowsG; rw [h]
def slG {α : Type} (k : Nat) (row : α → Nat → D) (l : List α) : D := .sl k l.length (rowsG row l)
theorem slG_at {α : Type} {k : Nat} {row : α → Nat → D} {ok : Nat → Prop} {w : World} {l : List α} {A : Option Addr} {n c : Nat} (h : Rd ok w (slG k row l) (.slice A n c)) {i : Nat} (hi : i < n) :
    ∃ b off x, A = some ⟨b, off, none⟩ ∧ ok b ∧ l[i]? = some x ∧ RdRow ok w b (off + i * k) k (row x) := by
  obtain ⟨A0, c0, e, _, _, h3⟩ := h.sl_inv
  injection e with e1 e2 e3
  subst e1 e2
  obtain ⟨b, off, rfl, hb, hr⟩ := h3 (by omega)
  have hv : l[i]? = some l[i] := List.getElem?_eq_getElem hi
  have h1 := hr i hi
  rw [rowsG_get hv] at h1
  exact ⟨b, off, l[i], rfl, hb, hv, h1⟩
theorem slG_len {α : Type} {k : Nat} {row : α → Nat → D} {ok : Nat → Prop} {w : World} {l : List α} {A : Option Addr} {n c : Nat} (h : Rd ok w (slG k row l) (.slice A n c)) : n = l.length ∧ n ≤ c ∧ c ≤ 9223372036854775807 := by
  obtain ⟨A0, c0, e, h1, h2, _⟩ := h.sl_inv
  injection e with e1 e2 e3
  subst e1 e2 e3
  exact ⟨rfl, h1, h2⟩
/-- APPEND OF ONE ELEMENT ONTO A ROW OF THE CALL's OWN -/
theorem wp_append_row {α : Type} (row : α → Nat → D) {T E : TypeId} {size bytes : Nat} {z : Value} (hinfo : (Try.prog.info? E).map (fun i => (i.zero, i.size, i.bytes)) = some (some z, size, bytes)) (hund : Try.prog.underlying T = some (.slice E)) (hzs : z.cells.size = size) (hsz : 0 < size) (hbb : bytes ≤ 8192)
    {w : World} {ops : Array Oper} {rest : List Oper} {o : Oper} {a : Act} {Q : Exit → Act → World → Prop} (hgd : o.guard = none) (s x : Operand)
    (ho : o.op = .call { callee := .builtin .append, args := #[s, x], argTypes := #[T, T] })
    (B : Nat) (hB : B ≤ w.heap.size) (v : Value) (acc : List α) (hs : a.eval s = v) (hO : Owned B E size acc.length (rowsG row acc) w v)
    (ad : Addr) (c : Nat) (y : α) (cs : List Value) (hcl : cs.length = size) (hx : a.eval x = .slice (some ad) 1 c) (hcells : ∀ (j : Nat) (u : Value), cs[j]? = some u → w.cell? (ad.add j) = some u)
    (hrd : ∀ (j : Nat) (u : Value), cs[j]? = some u → Rd (fun b => Bt B w.heap.size b ∧ some b ≠ v.ownBlock) w (row y j) u) (hlen : acc.length ≤ 2097152)
    (h : ∀ v' w', Owned B E size (acc ++ [y]).length (rowsG row (acc ++ [y])) w' v' → w.grownBy w' v.ownBlock → (∀ q, v'.ownBlock = some q → v.ownBlock = some q ∨ q = w.heap.size) → wpList Try.prog ops Q rest (a.put o.dst v') w') : wpList Try.prog ops Q (o :: rest) a w := by
  obtain ⟨i0, hi0, hz0, hz1, hz2⟩ := info_parts hinfo
  obtain ⟨xs, hown⟩ := hO.own
  have hb : (acc.length + 1) * bytes ≤ 2097153 * 8192 := Nat.mul_le_mul (by omega) hbb
  refine wpList_append_lies w hgd s x T ho B E i0 z size bytes hund hi0 hz0 hz1 hz2 hzs hsz v acc.length xs hs hown ad 1 c cs hx (by rw [hcl, Nat.one_mul]) hcells (fun u hu => ?_) (by omega) (by unfold maxLen; omega) (by omega) hB w.heap.size rfl ?_
  · obtain ⟨j, hj⟩ := List.getElem?_of_mem hu
    exact (hrd j u hj).oneCell
  intro g cap w' h2 h3 h4 _
  refine h _ w' ?_ h3 (fun q hq => by
    obtain rfl : g = q := Option.some.inj hq
    exact h4)
  have hl : (acc ++ [y]).length = acc.length + 1 := by simp
  rw [hl]
  refine hO.append hown h2 h3 h4 hcl (fun k hk => ?_) (fun j u hj => ?_)
  · have hx : acc[k]? = some acc[k] := List.getElem?_eq_getElem hk
    rw [rowsG_get hx, rowsG_get (l := acc ++ [y]) (i := k) (by rw [List.getElem?_append_left hk]; exact hx)]
  · rw [rowsG_get (l := acc ++ [y]) (i := acc.length) (x := y) (by rw [List.getElem?_append_right (Nat.le_refl _)]; simp)]
    exact hrd j u hj
end Go.Proofs.Ytlbmfgiepcemdaa
