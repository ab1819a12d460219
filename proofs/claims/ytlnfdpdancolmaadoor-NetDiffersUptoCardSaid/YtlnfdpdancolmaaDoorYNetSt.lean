/- The map of slices of effects of net.Same in memory. No walk here. Conditions: those in each statement. -/
import Derived.Test.YtlnfdpdancolmaaDoorYEffectsDiffNetEq
import Derived.Test.YtlnfdpdancolmaaDoorYCls
namespace Go.Proofs.YtlnfdpdancolmaaDoor
open Go.RowKit

structure SE where
  key : ByteArray
  g : Nat
  cap : Nat
  L : List Out
def SE.v (e : SE) : Value := .slice (some ⟨e.g, 0, none⟩) e.L.length e.cap
def SE.Ok (B : Nat) (w : World) (e : SE) : Prop := B ≤ e.g ∧ e.L.length ≤ e.cap ∧ e.cap ≤ 9223372036854775807 ∧ Blk w e.g 45 (e.cap * 5) ∧ ∀ a, a < e.L.length → RdRow (Lt B) w e.g (a * 5) 5 (rowsOut e.L a)
def SSep (S : List SE) : Prop :=
  (∀ (i j : Nat) (e f : SE), S[i]? = some e → S[j]? = some f → e.g = f.g → i = j) ∧ (∀ (i j : Nat) (e f : SE), S[i]? = some e → S[j]? = some f → e.key = f.key → i = j)
def SI (B m : Nat) (w : World) (S : List SE) : Prop := MapIs w m (S.map fun e => (e.key, e.v)) ∧ (∀ e ∈ S, e.Ok B w) ∧ SSep S ∧ B ≤ m
section
variable {B m : Nat} {w w' : World} {S : List SE}
theorem SE.Ok.keep {e : SE} (h : e.Ok B w) (hl : ∀ k, k < B → w'.heap[k]? = w.heap[k]?) (hg : w'.heap[e.g]? = w.heap[e.g]?) : e.Ok B w' := by
  obtain ⟨h1, h2, h3, ⟨cur, h4, h4'⟩, h5⟩ := h
  exact ⟨h1, h2, h3, ⟨cur, hg.trans h4, h4'⟩, fun a ha => (h5 a ha).keep (fun b o hb => World.cell?_of_block (hl b hb)) (fun j _ => World.cell?_of_block (w := w) (a := ⟨e.g, _, none⟩) hg)⟩
theorem SE.Ok.lt {e : SE} (h : e.Ok B w) : e.g < w.heap.size := h.2.2.2.1.lt
theorem SE.Ok.ne_m {e : SE} {L : List (ByteArray × Value)} (he : e.Ok B w) (hm : MapIs w m L) : e.g ≠ m := by
  obtain ⟨_, _, _, ⟨cur, h4, _⟩, _⟩ := he
  obtain ⟨es, clock, h5, _⟩ := hm
  intro h
  rw [h, h5] at h4
  cases Option.some.inj h4
theorem SI.below (h : SI B m w S) (hb : Below w.heap.size w w') : SI B m w' S := by
  obtain ⟨h1, h2, h3, h4⟩ := h
  have hm := h1.lt
  exact ⟨h1.keep (hb.block m hm), fun e he => (h2 e he).keep (fun k hk => hb.block k (by omega)) (hb.block _ (h2 e he).lt), h3, h4⟩
theorem SI.new (w : World) : SI w.heap.size w.heap.size (w.alloc (.map #[] 0)) [] :=
  ⟨MapIs.new w, fun e he => absurd he (by simp), ⟨fun i j e f he => by simp at he, fun i j e f he => by simp at he⟩, Nat.le_refl _⟩
theorem SE.Ok.own {e : SE} (h : e.Ok B w) : ∃ xs, w.ownsRow B 45 5 (.slice (some ⟨e.g, 0, none⟩) e.L.length e.cap) e.L.length xs := by
  obtain ⟨h1, h2, h3, ⟨cur, h4, h4'⟩, _⟩ := h
  refine ⟨cur.toList.take (e.L.length * 5), ?_, .inr ⟨e.g, e.cap, cur, rfl, h1, h4, h2, h3, h4', rfl⟩⟩
  rw [List.length_take, Array.length_toList, h4']; omega
theorem SE.Ok.rd {e : SE} (h : e.Ok B w) (hB : B ≤ w.heap.size) : Rd (Lt w.heap.size) w (slOut e.L) (.slice (some ⟨e.g, 0, none⟩) e.L.length e.cap) := by
  obtain ⟨h1, h2, h3, h4, h5⟩ := h
  exact Rd.sl_mk h2 h3 fun _ => ⟨e.g, 0, rfl, h4.lt, fun i hi => by
    rw [Nat.zero_add]; exact (h5 i hi).weaken (fun b hb => Nat.lt_of_lt_of_le hb hB)⟩
/-- behind an append -/
theorem SE.Ok.append {e : SE} {o : Out} {w1 : World} {xs news : List Value} {g' cap' : Nat} (h : e.Ok B w) (hown : w.ownsRow B 45 5 (.slice (some ⟨e.g, 0, none⟩) e.L.length e.cap) e.L.length xs)
    (hown' : w1.ownsRow B 45 5 (.slice (some ⟨g', 0, none⟩) (e.L.length + 1) cap') (e.L.length + 1) (xs ++ news)) (hg : w.grownBy w1 (some e.g)) (hB : B ≤ w.heap.size) (hk : news.length = 5)
    (hnew : ∀ (j : Nat) (u : Value), news[j]? = some u → Rd (Lt B) w (o.row j) u) : SE.Ok B w1 ⟨e.key, g', cap', e.L ++ [o]⟩ := by
  have hlen : (e.L ++ [o]).length = e.L.length + 1 := by simp
  have hxl := hown.1
  have hlow : ∀ b o', Lt B b → w1.cell? ⟨b, o', none⟩ = w.cell? ⟨b, o', none⟩ := fun b o' hb => World.cell?_of_block (hg.block b (Nat.lt_of_lt_of_le hb hB) (fun h' => by
    injection h' with h'
    have h1 := h.1
    have hb' : b < B := hb
    omega))
  rcases hown'.2 with ⟨h1, _⟩ | ⟨g2, cap2, cur, h1, h2, h3, h4, h5, h6, h7⟩
  · cases h1
  · injection h1 with h1 _ h1'
    injection h1 with h1
    injection h1 with h1
    subst h1 h1'
    refine ⟨h2, by rw [hlen]; exact h4, h5, ⟨cur, h3, h6⟩, fun a ha j hj => ?_⟩
    have ha : a < e.L.length + 1 := by rwa [hlen] at ha
    have hcell : ∀ (q : Nat) (u : Value), (xs ++ news)[q]? = some u → w1.cell? ⟨g', q, none⟩ = some u := fun q u hu => by
      have := hown'.cells (g := g') rfl q u hu
      rwa [Addr.add_lit, Nat.zero_add] at this
    rcases Nat.lt_or_ge a e.L.length with hal | hal
    · obtain ⟨u, hu, hd⟩ := h.2.2.2.2 a hal j hj
      have hx : xs[a * 5 + j]? = some (xs[a * 5 + j]'(by omega)) := List.getElem?_eq_getElem (by omega)
      have hc0 := hown.cells (g := e.g) rfl (a * 5 + j) _ hx
      rw [Addr.add_lit, Nat.zero_add, hu] at hc0
      refine ⟨u, hcell _ _ ?_, ?_⟩
      · rw [List.getElem?_append_left (by omega), hx]; exact hc0.symm
      · rw [rowsOut_get (x := e.L[a]) (by rw [List.getElem?_append_left hal]; exact List.getElem?_eq_getElem hal)]
        rw [rowsOut_get (x := e.L[a]) (List.getElem?_eq_getElem hal)] at hd
        exact hd.keep hlow
    · obtain rfl : a = e.L.length := by omega
      have hx : news[j]? = some (news[j]'(by omega)) := List.getElem?_eq_getElem (by omega)
      refine ⟨_, hcell _ _ (by rw [List.getElem?_append_right (by omega), hxl, show e.L.length * 5 + j - e.L.length * 5 = j by omega]; exact hx), ?_⟩
      rw [rowsOut_get (x := o) (by rw [List.getElem?_append_right (Nat.le_refl _)]; simp)]
      exact (hnew j _ hx).keep hlow
theorem SE.Ok.first {key : ByteArray} {o : Out} {w1 : World} {news : List Value} {g' cap' : Nat}
    (hown' : w1.ownsRow B 45 5 (.slice (some ⟨g', 0, none⟩) (0 + 1) cap') (0 + 1) ([] ++ news)) (hg : w.grownBy w1 none) (hB : B ≤ w.heap.size) (hk : news.length = 5)
    (hnew : ∀ (j : Nat) (u : Value), news[j]? = some u → Rd (Lt B) w (o.row j) u) : SE.Ok B w1 ⟨key, g', cap', [o]⟩ := by
  have hlow : ∀ b o', Lt B b → w1.cell? ⟨b, o', none⟩ = w.cell? ⟨b, o', none⟩ := fun b o' hb => World.cell?_of_block (hg.block b (Nat.lt_of_lt_of_le hb hB) (fun h' => by cases h'))
  rcases hown'.2 with ⟨h1, _⟩ | ⟨g2, cap2, cur, h1, h2, h3, h4, h5, h6, h7⟩
  · cases h1
  · injection h1 with h1 _ h1'
    injection h1 with h1
    injection h1 with h1
    subst h1 h1'
    refine ⟨h2, h4, h5, ⟨cur, h3, h6⟩, fun a ha j hj => ?_⟩
    have ha : a < 1 := ha
    obtain rfl : a = 0 := by omega
    have hx : news[j]? = some (news[j]'(by omega)) := List.getElem?_eq_getElem (by omega)
    have hc := hown'.cells (g := g') rfl j _ (by rw [List.nil_append]; exact hx)
    rw [Addr.add_lit] at hc
    refine ⟨_, by rw [Nat.zero_mul]; exact hc, ?_⟩
    rw [rowsOut_get (x := o) rfl]
    exact (hnew j _ hx).keep hlow
/-- one entry changes -/
theorem SI.setE {w2 : World} (h : SI B m w S) {ei : Nat} {e e' : SE} (he : S[ei]? = some e) (hk : e'.key = e.key) (hok : e'.Ok B w2) (hg : e'.g = e.g ∨ w.heap.size ≤ e'.g) (stay : ∀ k, k < w.heap.size → k ≠ e.g → k ≠ m → w2.heap[k]? = w.heap[k]?)
    (hm2 : MapIs w2 m (mput (S.map fun e => (e.key, e.v)) e.key e'.v)) : SI B m w2 (S.set ei e') := by
  obtain ⟨k1, k2, k3, k4⟩ := h
  have hm := k1.lt
  have hee := k2 e (List.mem_of_getElem? he)
  have low : ∀ k, k < B → w2.heap[k]? = w.heap[k]? := fun k hk => stay k (by omega) (by have := hee.1; omega) (by omega)
  have hgother : ∀ (j : Nat) (f : SE), j ≠ ei → S[j]? = some f → f.g ≠ e'.g := fun j f hj hf hfg => by
    rcases hg with h | h
    · exact hj (k3.1 _ _ _ _ hf he (hfg.trans h))
    · have := (k2 f (List.mem_of_getElem? hf)).lt; omega
  refine ⟨?_, fun f hf => ?_, ⟨fun i j a b ha hb hab => ?_, fun i j a b ha hb hab => ?_⟩, k4⟩
  · have hfnd : fnd e.key (S.map fun e => (e.key, e.v)) 0 = some (ei, e.v) := by
      have := fnd_some (k := e.key) (L := S.map fun e => (e.key, e.v)) (i := 0) (j := ei) (v := e.v) (by rw [List.getElem?_map, he]; rfl) (fun q p hq hp hk => by
        rw [List.getElem?_map] at hp
        cases hs : S[q]? with
        | none => rw [hs] at hp; cases hp
        | some f =>
          rw [hs] at hp
          have hp := Option.some.inj hp
          rw [← hp] at hk
          have := k3.2 _ _ _ _ he hs hk
          omega)
      rwa [Nat.zero_add] at this
    have hL : (S.set ei e').map (fun e => (e.key, e.v)) = mput (S.map fun e => (e.key, e.v)) e.key e'.v := by
      unfold mput
      rw [hfnd, List.map_set, hk]
    rw [hL]; exact hm2
  · obtain ⟨j, hj⟩ := mem_get hf
    rcases set_get hj with ⟨rfl, rfl⟩ | ⟨hne, hj⟩
    · exact hok
    · have hfe := k2 f (List.mem_of_getElem? hj)
      exact hfe.keep low (stay _ hfe.lt (fun h => hne (k3.1 _ _ _ _ hj he h)) (hfe.ne_m k1))
  · rcases set_get ha with ⟨rfl, rfl⟩ | ⟨hni, ha'⟩ <;> rcases set_get hb with ⟨rfl, rfl⟩ | ⟨hnj, hb'⟩
    · rfl
    · exact absurd hab.symm (hgother _ _ hnj hb')
    · exact absurd hab (hgother _ _ hni ha')
    · exact k3.1 _ _ _ _ ha' hb' hab
  · rcases set_get ha with ⟨rfl, rfl⟩ | ⟨hni, ha'⟩ <;> rcases set_get hb with ⟨rfl, rfl⟩ | ⟨hnj, hb'⟩
    · rfl
    · exact k3.2 _ _ _ _ he hb' (hk.symm.trans hab)
    · exact k3.2 _ _ _ _ ha' he (hab.trans hk)
    · exact k3.2 _ _ _ _ ha' hb' hab
theorem SI.addE {w2 : World} (h : SI B m w S) {e' : SE} (hno : ∀ f ∈ S, f.key ≠ e'.key) (hok : e'.Ok B w2) (hg : w.heap.size ≤ e'.g) (stay : ∀ k, k < w.heap.size → k ≠ m → w2.heap[k]? = w.heap[k]?)
    (hm2 : MapIs w2 m (mput (S.map fun e => (e.key, e.v)) e'.key e'.v)) : SI B m w2 (S ++ [e']) := by
  obtain ⟨k1, k2, k3, k4⟩ := h
  have hm := k1.lt
  have low : ∀ k, k < B → w2.heap[k]? = w.heap[k]? := fun k hk => stay k (by omega) (by omega)
  refine ⟨?_, fun f hf => ?_, ⟨fun i j a b ha hb hab => ?_, fun i j a b ha hb hab => ?_⟩, k4⟩
  · have hfnd : fnd e'.key (S.map fun e => (e.key, e.v)) 0 = none := fnd_none (fun p hp => by
      obtain ⟨f, hf, rfl⟩ := List.mem_map.1 hp
      exact fun h => hno f hf h.symm)
    have hL : (S ++ [e']).map (fun e => (e.key, e.v)) = mput (S.map fun e => (e.key, e.v)) e'.key e'.v := by
      unfold mput
      rw [hfnd]; simp
    rw [hL]; exact hm2
  · rcases List.mem_append.1 hf with hf | hf
    · have hfe := k2 f hf
      exact hfe.keep low (stay _ hfe.lt (hfe.ne_m k1))
    · simp at hf; subst hf; exact hok
  · rcases snoc_get ha with ⟨rfl, rfl⟩ | ⟨hni, ha'⟩ <;> rcases snoc_get hb with ⟨rfl, rfl⟩ | ⟨hnj, hb'⟩
    · rfl
    · have := (k2 b (List.mem_of_getElem? hb')).lt; omega
    · have := (k2 a (List.mem_of_getElem? ha')).lt; omega
    · exact k3.1 _ _ _ _ ha' hb' hab
  · rcases snoc_get ha with ⟨rfl, rfl⟩ | ⟨hni, ha'⟩ <;> rcases snoc_get hb with ⟨rfl, rfl⟩ | ⟨hnj, hb'⟩
    · rfl
    · exact absurd hab.symm (hno b (List.mem_of_getElem? hb'))
    · exact absurd hab (hno a (List.mem_of_getElem? ha'))
    · exact k3.2 _ _ _ _ ha' hb' hab
end
/-! what the entries hold -/
def lkS (S : List SE) (k : ByteArray) : List Out := match S.find? (fun e => decide (e.key = k)) with | some e => e.L | none => []
def GInv (S : List SE) (rest : List Out) : Prop := ∀ k, lkS S k = rest.filter (fun x => decide (x.key = k))
theorem sfind_key {S : List SE} (hs : ∀ (i j : Nat) (e f : SE), S[i]? = some e → S[j]? = some f → e.key = f.key → i = j) {i : Nat} {e : SE} (he : S[i]? = some e) : S.find? (fun f => decide (f.key = e.key)) = some e := by
  cases h : S.find? (fun f => decide (f.key = e.key)) with
  | none =>
    have := List.find?_eq_none.1 h e (List.mem_of_getElem? he)
    simp at this
  | some f =>
    have h1 := List.mem_of_find?_eq_some h
    have h2 := List.find?_some h
    obtain ⟨j, hj⟩ := mem_get h1
    have h2 : f.key = e.key := by simpa using h2
    have := hs i j e f he hj h2.symm
    subst this
    rw [he] at hj; rw [hj]
theorem lkS_at {S : List SE} (hs : SSep S) {i : Nat} {e : SE} (he : S[i]? = some e) : lkS S e.key = e.L := by unfold lkS; rw [sfind_key hs.2 he]
theorem lkS_no {S : List SE} {k : ByteArray} (h : ∀ f ∈ S, f.key ≠ k) : lkS S k = [] := by
  unfold lkS
  rw [List.find?_eq_none.2 (fun f hf => by simp [h f hf])]
theorem lkS_set {S : List SE} (hs : SSep S) {i : Nat} {e e' : SE} (he : S[i]? = some e) (hk : e'.key = e.key) (k : ByteArray) : lkS (S.set i e') k = if k = e.key then e'.L else lkS S k := by
  have hi : i < S.length := (List.getElem?_eq_some_iff.1 he).1
  have hs' : ∀ (a b : Nat) (f g : SE), (S.set i e')[a]? = some f → (S.set i e')[b]? = some g → f.key = g.key → a = b := by
    intro a b f g ha hb hab
    rcases set_get ha with ⟨rfl, rfl⟩ | ⟨hni, ha'⟩ <;> rcases set_get hb with ⟨rfl, rfl⟩ | ⟨hnj, hb'⟩
    · rfl
    · exact hs.2 _ _ _ _ he hb' (hk.symm.trans hab)
    · exact hs.2 _ _ _ _ ha' he (hab.trans hk)
    · exact hs.2 _ _ _ _ ha' hb' hab
  by_cases h : k = e.key
  · rw [if_pos h, h, ← hk]
    unfold lkS
    rw [sfind_key hs' (List.getElem?_set_self hi)]
  · rw [if_neg h]
    by_cases hex : ∃ (j : Nat) (f : SE), S[j]? = some f ∧ f.key = k
    · obtain ⟨j, f, hj, hfk⟩ := hex
      have hne : i ≠ j := fun e0 => by subst e0; rw [he] at hj; rw [Option.some.inj hj] at h; exact h hfk.symm
      rw [← hfk, lkS_at hs hj]
      unfold lkS
      rw [sfind_key hs' (by rw [List.getElem?_set_ne hne]; exact hj)]
    · have h1 : lkS S k = [] := lkS_no (fun f hf hfk => by obtain ⟨j, hj⟩ := mem_get hf; exact hex ⟨j, f, hj, hfk⟩)
      rw [h1]
      refine lkS_no ?_
      intro f hf hfk
      obtain ⟨j, hj⟩ := mem_get hf
      rcases set_get hj with ⟨rfl, rfl⟩ | ⟨_, hj⟩
      · exact h (hfk.symm.trans hk)
      · exact hex ⟨j, f, hj, hfk⟩
theorem lkS_add {S : List SE} {e' : SE} (hno : ∀ f ∈ S, f.key ≠ e'.key) (k : ByteArray) : lkS (S ++ [e']) k = if k = e'.key then e'.L else lkS S k := by
  unfold lkS
  rw [List.find?_append]
  by_cases h : k = e'.key
  · rw [if_pos h, h, List.find?_eq_none.2 (fun f hf => by simp [hno f hf])]
    simp
  · rw [if_neg h]
    cases S.find? (fun e => decide (e.key = k)) with
    | some f => simp
    | none =>
      have : ¬ e'.key = k := fun h' => h h'.symm
      simp [this]
/-- net.Same's second loop -/
def sameS : List Out → List Out → Bool
  | [], _ => true
  | o :: a, rest => if rest.any (fun x => eqO x o) then sameS a (rest.eraseP fun x => eqO x o) else false
theorem filter_eraseP {α : Type} (p q : α → Bool) (h : ∀ x, p x = true → q x = true) : ∀ l : List α, (l.eraseP p).filter q = (l.filter q).eraseP p
  | [] => rfl
  | x :: r => by
    by_cases hp : p x = true
    · rw [List.eraseP_cons_of_pos hp, List.filter_cons_of_pos (h x hp), List.eraseP_cons_of_pos hp]
    · rw [List.eraseP_cons_of_neg hp]
      by_cases hq : q x = true
      · rw [List.filter_cons_of_pos hq, List.filter_cons_of_pos hq, List.eraseP_cons_of_neg hp, filter_eraseP p q h r]
      · rw [List.filter_cons_of_neg hq, List.filter_cons_of_neg hq, filter_eraseP p q h r]
theorem filter_eraseP_off {α : Type} (p q : α → Bool) (h : ∀ x, p x = true → q x = false) : ∀ l : List α, (l.eraseP p).filter q = l.filter q
  | [] => rfl
  | x :: r => by
    by_cases hp : p x = true
    · rw [List.eraseP_cons_of_pos hp, List.filter_cons_of_neg (by rw [h x hp]; simp)]
    · rw [List.eraseP_cons_of_neg hp]
      by_cases hq : q x = true
      · rw [List.filter_cons_of_pos hq, List.filter_cons_of_pos hq, filter_eraseP_off p q h r]
      · rw [List.filter_cons_of_neg hq, List.filter_cons_of_neg hq, filter_eraseP_off p q h r]
theorem eraseP_idx {α : Type} (p : α → Bool) : ∀ (l : List α) (i : Nat), l.findIdx? p = some i → l.eraseP p = l.eraseIdx i
  | [], i, h => by simp at h
  | x :: r, i, h => by
    rw [List.findIdx?_cons] at h
    by_cases hp : p x = true
    · rw [if_pos hp] at h
      have := Option.some.inj h
      subst this
      rw [List.eraseP_cons_of_pos hp]; rfl
    · rw [if_neg hp] at h
      cases hr : r.findIdx? p with
      | none => rw [hr] at h; cases h
      | some j =>
        rw [hr] at h
        have := Option.some.inj h
        subst this
        rw [List.eraseP_cons_of_neg hp, eraseP_idx p r j hr]; rfl
theorem GInv.snoc {S S' : List SE} {rest : List Out} {o : Out} (h : GInv S rest) (hk : ∀ k, lkS S' k = if k = o.key then lkS S o.key ++ [o] else lkS S k) : GInv S' (rest ++ [o]) := by
  intro k
  rw [hk, List.filter_append]
  by_cases e : k = o.key
  · rw [if_pos e, h o.key, e]; simp
  · have : ¬ o.key = k := fun h' => e h'.symm
    rw [if_neg e, h k]; simp [this]
theorem GInv.erase {S S' : List SE} {rest : List Out} {o : Out} (h : GInv S rest) (hk : ∀ k, lkS S' k = if k = o.key then (lkS S o.key).eraseP (fun x => eqO x o) else lkS S k) : GInv S' (rest.eraseP fun x => eqO x o) := by
  intro k
  rw [hk]
  by_cases e : k = o.key
  · rw [if_pos e, h o.key, e, filter_eraseP _ _ (fun x hx => by simp [((eqO_iff x o).1 hx).1])]
  · rw [if_neg e, h k, filter_eraseP_off _ _ (fun x hx => by simp [((eqO_iff x o).1 hx).1]; exact fun h' => e h'.symm)]
theorem GInv.any {S : List SE} {rest : List Out} (h : GInv S rest) (o : Out) : rest.any (fun x => eqO x o) = (lkS S o.key).any (fun x => eqO x o) := by
  rw [h o.key, List.any_filter]
  congr 1
  funext x
  cases hx : eqO x o with
  | false => simp
  | true => simp [((eqO_iff x o).1 hx).1]
end Go.Proofs.YtlnfdpdancolmaaDoor
