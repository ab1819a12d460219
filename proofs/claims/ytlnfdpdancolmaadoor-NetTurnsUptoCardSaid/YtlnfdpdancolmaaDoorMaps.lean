/- Maps with string keys that a call makes itself: what look-up and store do, exactly. No program here. -/
import Derived.Test.YtlnfdpdancolmaaDoorMem
import Derived.MapKept
import Derived.Carry
namespace Go.Proofs.YtlnfdpdancolmaaDoor
open Go.RowKit Go.MapKept

/-- block m is a map that holds L, in that order -/
def MapIs (w : World) (m : Nat) (L : List (ByteArray × Value)) : Prop :=
  ∃ es clock, w.heap[m]? = some (.map es clock) ∧ es.toList.map (fun e => (e.key, e.val)) = L.map (fun p => (Value.string p.1, p.2))
/-- the first entry with a key, from place i on -/
def fnd (k : ByteArray) : List (ByteArray × Value) → Nat → Option (Nat × Value)
  | [], _ => none
  | p :: r, i => if k = p.1 then some (i, p.2) else fnd k r (i + 1)
def mget (z : Value) (L : List (ByteArray × Value)) (k : ByteArray) : Value := match fnd k L 0 with | some p => p.2 | none => z
def mput (L : List (ByteArray × Value)) (k : ByteArray) (v : Value) : List (ByteArray × Value) := match fnd k L 0 with | some p => L.set p.1 (k, v) | none => L ++ [(k, v)]

theorem findNow_str (k : ByteArray) : ∀ (es : List MapEntry) (L : List (ByteArray × Value)) (i : Nat), es.map (fun e => (e.key, e.val)) = L.map (fun p => (Value.string p.1, p.2)) → Instr.findNow .string (.string k) es i = some (fnd k L i)
  | [], L, i, h => by
    cases L with
    | nil => rfl
    | cons p r => simp at h
  | e :: es, L, i, h => by
    cases L with
    | nil => simp at h
    | cons p r =>
      simp only [List.map_cons, List.cons.injEq, Prod.mk.injEq] at h
      obtain ⟨⟨h1, h2⟩, h3⟩ := h
      have ih := findNow_str k es r (i + 1) h3
      rw [Instr.findNow, h1, fnd]
      by_cases hk : k = p.1
      · have hb : (k == p.1) = true := (bytes_beq _ _).2 hk
        rw [if_pos hk]; simp [Instr.sameNow, hb, h2]
      · have hb : (k == p.1) = false := by
          cases hq : (k == p.1) with
          | false => rfl
          | true => exact absurd ((bytes_beq _ _).1 hq) hk
        rw [if_neg hk]; simp [Instr.sameNow, hb, ih]
theorem fnd_none {k : ByteArray} : ∀ {L : List (ByteArray × Value)} {i : Nat}, (∀ p ∈ L, k ≠ p.1) → fnd k L i = none
  | [], _, _ => rfl
  | p :: r, i, h => by rw [fnd, if_neg (h p List.mem_cons_self)]; exact fnd_none fun q hq => h q (List.mem_cons_of_mem _ hq)
theorem fnd_some {k : ByteArray} : ∀ {L : List (ByteArray × Value)} {i j : Nat} {v : Value}, L[j]? = some (k, v) → (∀ q p, q < j → L[q]? = some p → k ≠ p.1) → fnd k L i = some (i + j, v)
  | [], _, _, _, h, _ => by simp at h
  | p :: r, i, 0, v, h, _ => by simp at h; subst h; rw [fnd, if_pos rfl]; rfl
  | p :: r, i, j + 1, v, h, hn => by
    rw [fnd, if_neg (hn 0 p (by omega) rfl), fnd_some (L := r) (j := j) (v := v) (by simpa using h) (fun q x hq hx => hn (q + 1) x (by omega) (by simpa using hx))]
    congr 2; omega
theorem fnd_at {k : ByteArray} : ∀ {L : List (ByteArray × Value)} {i : Nat} {p : Nat × Value}, fnd k L i = some p → i ≤ p.1 ∧ L[p.1 - i]? = some (k, p.2)
  | [], _, _, h => by simp [fnd] at h
  | q :: r, i, p, h => by
    rw [fnd] at h
    by_cases hk : k = q.1
    · rw [if_pos hk] at h
      have := Option.some.inj h
      subst this hk
      simp
    · rw [if_neg hk] at h
      obtain ⟨h1, h2⟩ := fnd_at h
      refine ⟨by omega, ?_⟩
      rw [show p.1 - i = (p.1 - (i + 1)) + 1 by omega]
      simpa using h2
theorem MapIs.lt {w : World} {m : Nat} {L : List (ByteArray × Value)} (h : MapIs w m L) : m < w.heap.size := by
  obtain ⟨es, clock, h, _⟩ := h
  exact (Array.getElem?_eq_some_iff.1 h).1
theorem MapIs.keep {w w' : World} {m : Nat} {L : List (ByteArray × Value)} (h : MapIs w m L) (hk : w'.heap[m]? = w.heap[m]?) : MapIs w' m L := by
  obtain ⟨es, clock, h, h2⟩ := h
  exact ⟨es, clock, hk.trans h, h2⟩
theorem MapIs.new (w : World) : MapIs (w.alloc (.map #[] 0)) w.heap.size [] := ⟨#[], 0, heap_alloc_new w _, rfl⟩
section
variable {P : Program} {T K E : TypeId} (hT : P.underlying T = some (.map K E)) (hK : P.underlying K = some .string)
include hT hK
theorem run_lookup_str {w : World} {m : Nat} {L : List (ByteArray × Value)} (h : MapIs w m L) {z : Value} (hz : (zeroValue E).run P w = .ok z w) (k : ByteArray) :
    (Instr.lookup T (.map (some m)) (.string k) false).run P w = .ok (mget z L k) w := by
  obtain ⟨es, clock, hb, he⟩ := h
  have hf := findNow_str k es.toList L 0 he
  have hfk := run_findKey (P := P) (w := w) hK hf
  have hck : ∀ b, (Instr.checkKey b 10000 K (.string k)).run P w = .ok () w := fun b => run_checkKey (P := P) (w := w) hK (k := .string k) trivial b 9999
  unfold mget
  cases hx : fnd k L 0 with
  | none =>
    rw [hx] at hfk
    simp [Instr.lookup, run_underlying hT, MapKept.run_getObj_map hb, hck, hfk, hz]
  | some p =>
    rw [hx] at hfk
    simp [Instr.lookup, run_underlying hT, MapKept.run_getObj_map hb, hck, hfk]
theorem run_mapUpdate_str {w : World} {m : Nat} {L : List (ByteArray × Value)} (h : MapIs w m L) (k : ByteArray) (v : Value) :
    ∃ w', (Instr.mapUpdate T (.map (some m)) (.string k) v).run P w = .ok () w' ∧ MapIs w' m (mput L k v) ∧ w.grownBy w' (some m) ∧ w'.heap.size = w.heap.size := by
  have hlt := h.lt
  obtain ⟨es, clock, hb, he⟩ := h
  have hf := findNow_str k es.toList L 0 he
  have hfk := run_findKey (P := P) (w := w) hK hf
  have hck : ∀ b, (Instr.checkKey b 10000 K (.string k)).run P w = .ok () w := fun b => run_checkKey (P := P) (w := w) hK (k := .string k) trivial b 9999
  have hgr : ∀ o : Obj, w.grownBy { w with heap := w.heap.setIfInBounds m o } (some m) := fun o =>
    ⟨rfl, rfl, rfl, by simp, fun j _ hj => (heap_set hb).2 j (fun e => hj (by rw [e]))⟩
  unfold mput
  cases hx : fnd k L 0 with
  | none =>
    rw [hx] at hfk
    refine ⟨{ w with heap := w.heap.setIfInBounds m (.map (es.push ⟨.string k, v, clock⟩) (clock + 1)) }, ?_, ⟨_, _, (heap_set hb).1, ?_⟩, hgr _, by simp⟩
    · simp [Instr.mapUpdate, run_underlying hT, MapKept.run_getObj_map hb, hck, hfk, MapKept.run_setObj_map _ hb]
    · simp [he]
  | some p =>
    rw [hx] at hfk
    obtain ⟨_, hp⟩ := fnd_at hx
    rw [Nat.sub_zero] at hp
    have hlen : es.toList.length = L.length := by simpa using congrArg List.length he
    have hpl : p.1 < L.length := (List.getElem?_eq_some_iff.1 hp).1
    have hpe : p.1 < es.size := by simpa [← hlen] using hpl
    have hke : es[p.1].key = .string k := by
      have := congrArg (fun l => l[p.1]?) he
      simp only [List.getElem?_map, hp, Array.getElem?_toList, Array.getElem?_eq_getElem hpe, Option.map_some] at this
      exact congrArg Prod.fst (Option.some.inj this)
    refine ⟨{ w with heap := w.heap.setIfInBounds m (.map (es.modify p.1 fun e => { e with key := .string k, val := v }) clock) }, ?_, ⟨_, _, (heap_set hb).1, ?_⟩, hgr _, by simp⟩
    · simp [Instr.mapUpdate, run_underlying hT, MapKept.run_getObj_map hb, hck, hfk, MapKept.run_setObj_map _ hb, Instr.keyThatStays, hpe, hke, Instr.sameBits, (bytes_beq k k).2 rfl]
    · apply List.ext_getElem?
      intro j
      have := congrArg (fun l => l[j]?) he
      simp only [List.getElem?_map, Array.getElem?_toList] at this
      simp only [List.getElem?_map, Array.getElem?_toList, Array.getElem?_modify, List.getElem?_set]
      by_cases hj : p.1 = j
      · subst hj; simp [hpl, hpe]
      · simp [hj, this]
end
end Go.Proofs.YtlnfdpdancolmaaDoor
