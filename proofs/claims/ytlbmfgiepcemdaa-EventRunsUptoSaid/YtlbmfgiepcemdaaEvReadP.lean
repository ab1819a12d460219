/- Reading a list of events: an event appended to a row of the call's own; what is read. Conditions: those in each statement. -/
import Derived.Test.YtlbmfgiepcemdaaEvBytes
import Derived.Test.YtlbmfgiepcemdaaEvGroup
namespace Go.Proofs.Ytlbmfgiepcemdaa
open Go.RowKit

theorem infoE12 : (Try.prog.info? 30).map (fun i => (i.zero, i.size, i.bytes)) = some (some (.agg #[.int .i64 0, .string ⟨#[]⟩, .string ⟨#[]⟩, .slice none 0 0, .int .i64 0, .int .i64 0, .string ⟨#[]⟩, .int .i64 0, .int .i64 0, .string ⟨#[]⟩, .slice none 0 0, .int .i64 0]), 12, 160) := by kernel_rfl
def cells12 (x : Ev) (A : Option Addr) (c : Nat) (C : Option Addr) (d : Nat) : List Value := [.int .i64 x.kind, .string x.path, .string x.msg, .slice A x.args.length c, .int .i64 x.ord, .int .i64 x.vk, .string x.vt, .int .i64 x.vn, .int .i64 x.vm, .string x.vx, .slice C x.vl.length d, .int .i64 x.n]
theorem cells12_one (x : Ev) (A : Option Addr) (c : Nat) (C : Option Addr) (d : Nat) : ∀ u ∈ cells12 x A c C d, u.oneCell' = true := by
  intro u hu
  unfold cells12 at hu
  simp only [List.mem_cons, List.not_mem_nil, or_false] at hu
  rcases hu with rfl | rfl | rfl | rfl | rfl | rfl | rfl | rfl | rfl | rfl | rfl | rfl <;> rfl
/-- APPEND OF ONE EVENT ONTO A ROW OF THE CALL's OWN -/
theorem wp_append_ev {w : World} {ops : Array Oper} {rest : List Oper} {o : Oper} {a : Act} {Q : Exit → Act → World → Prop} (hgd : o.guard = none) (s x : Operand)
    (ho : o.op = .call { callee := .builtin .append, args := #[s, x], argTypes := #[22, 22] })
    (B : Nat) (hB : B ≤ w.heap.size) (v : Value) (acc : List Ev) (hs : a.eval s = v) (hO : Owned B 30 12 acc.length (rowsEv acc) w v)
    (ad : Addr) (c : Nat) (y : Ev) (A' : Option Addr) (c' : Nat) (C' : Option Addr) (d' : Nat) (hx : a.eval x = .slice (some ad) 1 c) (hcells : ∀ (j : Nat) (u : Value), (cells12 y A' c' C' d')[j]? = some u → w.cell? (ad.add j) = some u)
    (hr3 : Rd (fun b => Bt B w.heap.size b ∧ some b ≠ v.ownBlock) w (vs y.args) (.slice A' y.args.length c')) (hr10 : Rd (fun b => Bt B w.heap.size b ∧ some b ≠ v.ownBlock) w (vs y.vl) (.slice C' y.vl.length d')) (hlen : acc.length ≤ 2097152)
    (h : ∀ v' w', Owned B 30 12 (acc ++ [y]).length (rowsEv (acc ++ [y])) w' v' → w.grownBy w' v.ownBlock → (∀ q, v'.ownBlock = some q → v.ownBlock = some q ∨ q = w.heap.size) → wpList Try.prog ops Q rest (a.put o.dst v') w') : wpList Try.prog ops Q (o :: rest) a w := by
  obtain ⟨i0, hi0, hz0, hz1, hz2⟩ := info_parts infoE12
  obtain ⟨xs, hown⟩ := hO.own
  refine wpList_append_lies w hgd s x 22 ho B 30 i0 _ 12 160 Try.underlying22 hi0 hz0 hz1 hz2 rfl (by omega) v acc.length xs hs hown ad 1 c (cells12 y A' c' C' d') hx rfl hcells (cells12_one y A' c' C' d') (by omega) (by unfold maxLen; omega) (by omega) hB w.heap.size rfl ?_
  intro g cap w' h2 h3 h4 _
  refine h _ w' ?_ h3 (fun q hq => by
    obtain rfl : g = q := Option.some.inj hq
    exact h4)
  have hl : (acc ++ [y]).length = acc.length + 1 := by simp
  rw [hl]
  refine hO.append hown h2 h3 h4 rfl (fun k hk => ?_) (fun j u hj => ?_)
  · have hx : acc[k]? = some acc[k] := List.getElem?_eq_getElem hk
    rw [rowsEv_get hx, rowsEv_get (l := acc ++ [y]) (i := k) (by rw [List.getElem?_append_left hk]; exact hx)]
  · rw [rowsEv_get (l := acc ++ [y]) (i := acc.length) (x := y) (by rw [List.getElem?_append_right (Nat.le_refl _)]; simp)]
    exact cells_rdEv hr3 hr10 j u hj
/-- the groups up to N events -/
def readGo (N : Nat) : Nat → RS → List Ev → Option (List Ev × RS)
  | 0, _, _ => none
  | F + 1, r, acc =>
    if N ≤ acc.length then some (acc, r)
    else (groupS r).bind fun p => if p.2.1 < 1 ∨ ((N - acc.length : Nat) : Int) < p.2.1 then none else readGo N F p.2.2 (acc ++ List.replicate p.2.1.toNat p.1)
/-- the events that the text holds -/
def readE (s : ByteArray) : Option (List Ev) :=
  if 1048576 < numV ⟨s, false⟩ then none
  else (readGo (numV ⟨s, false⟩) (numV ⟨s, false⟩ + 1) (numR ⟨s, false⟩) []).bind fun p => if doneB p.2 && ((bytesE p.1).toList == s.toList) then some p.1 else none
end Go.Proofs.Ytlbmfgiepcemdaa
