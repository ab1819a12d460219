/- The classes of requests of match.group in memory: a map of slices of classes, each with a slice of its own. No walk here. Conditions: those in each statement. -/
import Derived.Test.YtlnfdpdancolmaaDoorYAlikeR39AMaps
namespace Go.Proofs.YtlnfdpdancolmaaDoor
open Go.RowKit

structure Ent where
  key : ByteArray
  g : Nat
  cap : Nat
  cls : List Cl
def Ent.v (e : Ent) : Value := .slice (some ⟨e.g, 0, none⟩) e.cls.length e.cap
/-- the free ones lie in a row of ints -/
def FreeOk (fresh : Bool) (B : Nat) (w : World) (x : Cl) : Prop :=
  B ≤ x.fb ∧ x.fl ≤ x.fc ∧ x.fc ≤ 9223372036854775807 ∧ ∃ cur, w.heap[x.fb]? = some (.cells cur 3 (0, 0)) ∧ (∀ j, j < x.fl → ∃ n : Int, cur[x.fo + j]? = some (.int .i64 n)) ∧ (fresh = true → x.fo = 0 ∧ cur.size = x.fc)
def Cl.Ok (fresh : Bool) (B : Nat) (w : World) (x : Cl) : Prop := (bulkV x.first.args ≤ 2097152 ∧ Rd (Lt B) w (vs x.first.args) (.slice x.A x.first.args.length x.c)) ∧ FreeOk fresh B w x
def Ent.Ok (fresh : Bool) (B : Nat) (w : World) (e : Ent) : Prop := w.ownsRow B 97 9 e.v e.cls.length (e.cls.flatMap Cl.cells) ∧ ∀ x ∈ e.cls, x.Ok fresh B w
def Sep (S : List Ent) : Prop :=
  (∀ (i j : Nat) (e f : Ent), S[i]? = some e → S[j]? = some f → e.g = f.g → i = j) ∧ (∀ (i j : Nat) (e f : Ent), S[i]? = some e → S[j]? = some f → e.key = f.key → i = j) ∧
  (∀ (i j c d : Nat) (e f : Ent) (x y : Cl), S[i]? = some e → S[j]? = some f → e.cls[c]? = some x → f.cls[d]? = some y → x.fb = y.fb → i = j ∧ c = d)
def GI (fresh : Bool) (B m : Nat) (w : World) (S : List Ent) : Prop := MapIs w m (S.map fun e => (e.key, e.v)) ∧ (∀ e ∈ S, e.Ok fresh B w) ∧ Sep S ∧ B ≤ m

section
variable {fresh : Bool} {B m : Nat} {w w' : World} {S : List Ent}
theorem FreeOk.keep {x : Cl} (h : FreeOk fresh B w x) (hk : w'.heap[x.fb]? = w.heap[x.fb]?) : FreeOk fresh B w' x := by
  obtain ⟨h1, h2, h3, cur, h4, h5⟩ := h
  exact ⟨h1, h2, h3, cur, hk.trans h4, h5⟩
theorem FreeOk.lt {x : Cl} (h : FreeOk fresh B w x) : x.fb < w.heap.size := by
  obtain ⟨_, _, _, cur, h4, _⟩ := h
  exact (Array.getElem?_eq_some_iff.1 h4).1
theorem Cl.Ok.keep {x : Cl} (h : x.Ok fresh B w) (hl : ∀ k, k < B → w'.heap[k]? = w.heap[k]?) (hk : w'.heap[x.fb]? = w.heap[x.fb]?) : x.Ok fresh B w' :=
  ⟨⟨h.1.1, h.1.2.keep fun b _ hb => World.cell?_of_block (hl b hb)⟩, h.2.keep hk⟩
theorem Ent.Ok.block {e : Ent} (h : e.Ok fresh B w) (_hne : e.cls ≠ []) : ∃ cur, w.heap[e.g]? = some (.cells cur 97 (0, 0)) := by
  rcases h.1.2 with ⟨h1, _⟩ | ⟨g, cap, cur, h1, _, h2, _⟩
  · cases h1
  · unfold Ent.v at h1
    injection h1 with h1 _ _
    injection h1 with h1
    injection h1 with h1
    exact ⟨cur, by rw [h1]; exact h2⟩
theorem Ent.Ok.row {e : Ent} (h : e.Ok fresh B w) : B ≤ e.g ∧ ∃ cur, w.heap[e.g]? = some (.cells cur 97 (0, 0)) := by
  rcases h.1.2 with ⟨h1, _⟩ | ⟨g, cap, cur, h1, hB, h2, _⟩
  · cases h1
  · unfold Ent.v at h1
    injection h1 with h1 _ _
    injection h1 with h1
    injection h1 with h1
    exact ⟨by omega, cur, by rw [h1]; exact h2⟩
theorem Ent.Ok.lt {e : Ent} (h : e.Ok fresh B w) : e.g < w.heap.size := by
  obtain ⟨_, cur, h⟩ := h.row
  exact (Array.getElem?_eq_some_iff.1 h).1
theorem own_keep {B e k n : Nat} {v : Value} {xs : List Value} (h : w.ownsRow B e k v n xs) (hk : ∀ g, v.ownBlock = some g → w'.heap[g]? = w.heap[g]?) : w'.ownsRow B e k v n xs := by
  refine ⟨h.1, ?_⟩
  rcases h.2 with h2 | ⟨g, cap, cur, h1, h2, h3, h4⟩
  · exact .inl h2
  · exact .inr ⟨g, cap, cur, h1, h2, (hk g (by rw [h1]; rfl)).trans h3, h4⟩
theorem Ent.Ok.keep {e : Ent} (h : e.Ok fresh B w) (hl : ∀ k, k < B → w'.heap[k]? = w.heap[k]?) (hg : w'.heap[e.g]? = w.heap[e.g]?) (hk : ∀ x ∈ e.cls, w'.heap[x.fb]? = w.heap[x.fb]?) : e.Ok fresh B w' :=
  ⟨own_keep h.1 (fun g hg' => by
    have : e.g = g := Option.some.inj hg'
    rw [← this]; exact hg), fun x hx => (h.2 x hx).keep hl (hk x hx)⟩
/-- a row of ints, a row of classes and a map are three blocks -/
theorem fb_ne_g {x : Cl} {e : Ent} (hx : FreeOk fresh B w x) (he : e.Ok fresh B w) : x.fb ≠ e.g := by
  obtain ⟨_, _, _, cur, h4, _⟩ := hx
  obtain ⟨_, cur', h5⟩ := he.row
  intro h
  rw [h, h5] at h4
  have := Option.some.inj h4
  injection this with _ h _
  exact absurd h (by decide)
theorem fb_ne_m {x : Cl} {L : List (ByteArray × Value)} (hx : FreeOk fresh B w x) (hm : MapIs w m L) : x.fb ≠ m := by
  obtain ⟨_, _, _, cur, h4, _⟩ := hx
  obtain ⟨es, clock, h5, _⟩ := hm
  intro h
  rw [h, h5] at h4
  cases Option.some.inj h4
theorem g_ne_m {e : Ent} {L : List (ByteArray × Value)} (he : e.Ok fresh B w) (hm : MapIs w m L) : e.g ≠ m := by
  obtain ⟨_, cur, h4⟩ := he.row
  obtain ⟨es, clock, h5, _⟩ := hm
  intro h
  rw [h, h5] at h4
  cases Option.some.inj h4
theorem GI.below (h : GI fresh B m w S) (hb : Below w.heap.size w w') : GI fresh B m w' S := by
  obtain ⟨h1, h2, h3, h4⟩ := h
  have hm := h1.lt
  refine ⟨h1.keep (hb.block m hm), fun e he => ?_, h3, h4⟩
  exact (h2 e he).keep (fun k hk => hb.block k (by omega)) (hb.block _ (h2 e he).lt) (fun x hx => hb.block _ ((h2 e he).2 x hx).2.lt)
theorem GI.new (w : World) : GI true w.heap.size w.heap.size (w.alloc (.map #[] 0)) [] :=
  ⟨MapIs.new w, fun e he => absurd he (by simp), ⟨fun i j e f he => by simp at he, fun i j e f he => by simp at he, fun i j c d e f x y he => by simp at he⟩, Nat.le_refl _⟩
end
theorem set_get {α : Type} {l : List α} {i j : Nat} {a b : α} (h : (l.set i a)[j]? = some b) : (j = i ∧ b = a) ∨ (j ≠ i ∧ l[j]? = some b) := by
  rw [List.getElem?_set] at h
  by_cases e : i = j
  · rw [if_pos e] at h
    split at h
    · exact .inl ⟨e.symm, (Option.some.inj h).symm⟩
    · cases h
  · rw [if_neg e] at h
    exact .inr ⟨fun e' => e e'.symm, h⟩
theorem mem_get {α : Type} {l : List α} {a : α} (h : a ∈ l) : ∃ i : Nat, l[i]? = some a := List.mem_iff_getElem?.1 h
theorem flat_set {α : Type} (f : α → List Value) (k : Nat) (hf : ∀ x, (f x).length = k) (l : List α) (i j : Nat) (x x' : α) (u : Value) (hi : l[i]? = some x) (hj : j < k) (hu : f x' = (f x).set j u) : (l.set i x').flatMap f = (l.flatMap f).set (i * k + j) u := by
  induction l generalizing i with
  | nil => simp at hi
  | cons y r ih =>
    cases i with
    | zero =>
      simp at hi; subst hi
      rw [List.set_cons_zero, List.flatMap_cons, List.flatMap_cons, hu, Nat.zero_mul, Nat.zero_add, List.set_append_left _ _ (by rw [hf]; exact hj)]
    | succ i =>
      rw [List.set_cons_succ, List.flatMap_cons, List.flatMap_cons, ih i (by simpa using hi), List.set_append_right _ _ (by rw [hf, Nat.add_mul, Nat.one_mul]; omega), hf]
      congr 2
      rw [Nat.add_mul, Nat.one_mul]; omega
theorem own_set {w : World} {B e k n g cap : Nat} {xs : List Value} (h : w.ownsRow B e k (.slice (some ⟨g, 0, none⟩) n cap) n xs) (p : Nat) (u : Value) : (w.setCell ⟨g, p, none⟩ u).ownsRow B e k (.slice (some ⟨g, 0, none⟩) n cap) n (xs.set p u) := by
  refine ⟨by rw [List.length_set]; exact h.1, ?_⟩
  rcases h.2 with ⟨h2, _⟩ | ⟨g', cap', cur, h1, h2, h3, h4, h5, h6, h7⟩
  · cases h2
  · injection h1 with h1 _ h1'
    injection h1 with h1
    injection h1 with h1
    subst h1 h1'
    refine .inr ⟨g, cap, cur.setIfInBounds p u, rfl, h2, by simp [World.setCell, Array.getElem?_modify, h3], h4, h5, by simp [h6], ?_⟩
    rw [Array.toList_setIfInBounds, ← h7, List.take_set]

/-- a class's free ones change -/
theorem GI.setFree {fresh : Bool} {B m : Nat} {w w1 : World} {S : List Ent} (h : GI fresh B m w S) {ei ci : Nat} {e : Ent} {x : Cl} (he : S[ei]? = some e) (hx : e.cls[ci]? = some x) (hg : w.grownBy w1 (some x.fb)) (x' : Cl)
    (h1 : x'.first = x.first) (h2 : x'.A = x.A) (h3 : x'.c = x.c) (hfb : x'.fb = x.fb ∨ w.heap.size ≤ x'.fb) (hfree : FreeOk fresh B w1 x') :
    GI fresh B m (w1.setCell ⟨e.g, ci * 9 + 8, none⟩ x'.fv) (S.set ei { e with cls := e.cls.set ci x' }) := by
  obtain ⟨k1, k2, k3, k4⟩ := h
  have hm := k1.lt
  have hee := k2 e (List.mem_of_getElem? he)
  have hxe := hee.2 x (List.mem_of_getElem? hx)
  have hci : ci < e.cls.length := (List.getElem?_eq_some_iff.1 hx).1
  have hxB := hxe.2.1
  -- what stays
  have stay : ∀ k, k < w.heap.size → k ≠ x.fb → k ≠ e.g → (w1.setCell ⟨e.g, ci * 9 + 8, none⟩ x'.fv).heap[k]? = w.heap[k]? := fun k hk hk1 hk2 => by
    rw [Below.heap_setCell _ _ _ _ hk2]
    exact hg.block k hk (fun e => by injection e with e; exact hk1 e)
  have low : ∀ k, k < B → (w1.setCell ⟨e.g, ci * 9 + 8, none⟩ x'.fv).heap[k]? = w.heap[k]? := fun k hk => stay k (by omega) (by omega) (by have := hee.row.1; omega)
  refine ⟨?_, fun f hf => ?_, ⟨fun i j a b ha hb hab => ?_, fun i j a b ha hb hab => ?_, fun i j c d a b y z ha hb hy hz hyz => ?_⟩, k4⟩
  · have hL : (S.set ei { e with cls := e.cls.set ci x' }).map (fun e => (e.key, e.v)) = S.map (fun e => (e.key, e.v)) := by
      apply List.ext_getElem?
      intro j
      rw [List.getElem?_map, List.getElem?_map, List.getElem?_set]
      by_cases hj : ei = j
      · subst hj
        rw [if_pos rfl, if_pos (List.getElem?_eq_some_iff.1 he).1, he]
        simp [Ent.v]
      · rw [if_neg hj]
    rw [hL]
    exact k1.keep (stay m hm (fun e => fb_ne_m hxe.2 k1 e.symm) (fun e => g_ne_m hee k1 e.symm))
  · obtain ⟨j, hj⟩ := mem_get hf
    rcases set_get hj with ⟨rfl, rfl⟩ | ⟨hne, hj⟩
    · refine ⟨?_, fun y hy => ?_⟩
      · have ho : w1.ownsRow B 97 9 e.v e.cls.length (e.cls.flatMap Cl.cells) := own_keep hee.1 (fun g hg' => by
          have : e.g = g := Option.some.inj hg'
          subst this
          exact hg.block e.g hee.lt (fun h => by injection h with h; exact fb_ne_g hxe.2 hee h.symm))
        have := own_set ho (ci * 9 + 8) x'.fv
        show World.ownsRow _ B _ 9 (.slice (some ⟨e.g, 0, none⟩) (e.cls.set ci x').length e.cap) (e.cls.set ci x').length _
        rw [List.length_set, flat_set Cl.cells 9 Cl.cells_len e.cls ci 8 x x' x'.fv hx (by omega) (by simp [Cl.cells, h1, h2, h3])]
        exact this
      · obtain ⟨d, hd⟩ := mem_get hy
        rcases set_get hd with ⟨rfl, rfl⟩ | ⟨hne, hd⟩
        · refine ⟨⟨by rw [h1]; exact hxe.1.1, ?_⟩, hfree.keep (Below.heap_setCell _ _ _ _ ?_)⟩
          · rw [h1, h2, h3]
            exact hxe.1.2.keep fun b _ hb => World.cell?_of_block (low b hb)
          · rcases hfb with h | h
            · rw [h]; exact fb_ne_g hxe.2 hee
            · have := hee.lt
              show _ ≠ e.g
              omega
        · have hye := hee.2 y (List.mem_of_getElem? hd)
          exact hye.keep low (stay _ hye.2.lt (fun e => hne (k3.2.2 _ _ _ _ _ _ _ _ he he hd hx e).2) (fb_ne_g hye.2 hee))
    · have hfe := k2 f (List.mem_of_getElem? hj)
      refine hfe.keep low (stay _ hfe.lt (fun h => fb_ne_g hxe.2 hfe h.symm) (fun h => hne (k3.1 _ _ _ _ hj he h))) (fun y hy => ?_)
      obtain ⟨d, hd⟩ := mem_get hy
      have hye := hfe.2 y hy
      exact stay _ hye.2.lt (fun h => hne (k3.2.2 _ _ _ _ _ _ _ _ hj he hd hx h).1) (fb_ne_g hye.2 hee)
  · rcases set_get ha with ⟨rfl, rfl⟩ | ⟨hni, ha'⟩ <;> rcases set_get hb with ⟨rfl, rfl⟩ | ⟨hnj, hb'⟩
    · rfl
    · exact k3.1 _ _ _ _ he hb' hab
    · exact k3.1 _ _ _ _ ha' he hab
    · exact k3.1 _ _ _ _ ha' hb' hab
  · rcases set_get ha with ⟨rfl, rfl⟩ | ⟨hni, ha'⟩ <;> rcases set_get hb with ⟨rfl, rfl⟩ | ⟨hnj, hb'⟩
    · rfl
    · exact k3.2.1 _ _ _ _ he hb' hab
    · exact k3.2.1 _ _ _ _ ha' he hab
    · exact k3.2.1 _ _ _ _ ha' hb' hab
  · have key : ∀ (i c : Nat) (a : Ent) (y : Cl), (S.set ei { e with cls := e.cls.set ci x' })[i]? = some a → a.cls[c]? = some y → (i = ei ∧ c = ci ∧ y = x') ∨ (¬ (i = ei ∧ c = ci) ∧ ∃ a0, S[i]? = some a0 ∧ a0.cls[c]? = some y) := by
      intro i c a y ha hy
      rcases set_get ha with ⟨rfl, rfl⟩ | ⟨hni, ha⟩
      · rcases set_get hy with ⟨rfl, rfl⟩ | ⟨hnc, hy⟩
        · exact .inl ⟨rfl, rfl, rfl⟩
        · exact .inr ⟨fun h => hnc h.2, e, he, hy⟩
      · exact .inr ⟨fun h => hni h.1, a, ha, hy⟩
    have other : ∀ (i c : Nat) (a0 : Ent) (y : Cl), S[i]? = some a0 → a0.cls[c]? = some y → ¬ (i = ei ∧ c = ci) → y.fb ≠ x'.fb := by
      intro i c a0 y ha hy hne hyx
      have hye := (k2 a0 (List.mem_of_getElem? ha)).2 y (List.mem_of_getElem? hy)
      rcases hfb with h | h
      · exact hne (k3.2.2 _ _ _ _ _ _ _ _ ha he hy hx (hyx.trans h))
      · have := hye.2.lt; omega
    rcases key i c a y ha hy with ⟨rfl, rfl, rfl⟩ | ⟨hn1, a0, ha0, hy0⟩ <;> rcases key j d b z hb hz with ⟨rfl, rfl, rfl⟩ | ⟨hn2, b0, hb0, hz0⟩
    · exact ⟨rfl, rfl⟩
    · exact absurd hyz.symm (other j d b0 z hb0 hz0 hn2)
    · exact absurd hyz (other i c a0 y ha0 hy0 hn1)
    · exact k3.2.2 _ _ _ _ _ _ _ _ ha0 hb0 hy0 hz0 hyz

theorem own_form {w : World} {B e k n : Nat} {v : Value} {xs : List Value} (h : w.ownsRow B e k v n xs) (hn : 0 < n) : ∃ g cap, v = .slice (some ⟨g, 0, none⟩) n cap ∧ v.ownBlock = some g ∧ B ≤ g ∧ g < w.heap.size := by
  rcases h.2 with ⟨_, h0⟩ | ⟨g, cap, cur, rfl, hB, hc, _⟩
  · omega
  · exact ⟨g, cap, rfl, rfl, hB, (Array.getElem?_eq_some_iff.1 hc).1⟩
/-- a class more in an entry -/
theorem GI.putOld {fresh : Bool} {B m : Nat} {w w1 w2 : World} {S : List Ent} (h : GI fresh B m w S) {ei : Nat} {e : Ent} (he : S[ei]? = some e) (x : Cl) (hx : x.Ok fresh B w) (hxf : ∀ f ∈ S, ∀ y ∈ f.cls, y.fb ≠ x.fb) {v' : Value}
    (hown : w1.ownsRow B 97 9 v' (e.cls.length + 1) (e.cls.flatMap Cl.cells ++ x.cells)) (hg : w.grownBy w1 (some e.g)) (hat : v'.ownBlock = some e.g ∨ v'.ownBlock = some w.heap.size)
    (hg2 : w1.grownBy w2 (some m)) (hm2 : MapIs w2 m (mput (S.map fun e => (e.key, e.v)) e.key v')) :
    ∃ g' cap', v' = .slice (some ⟨g', 0, none⟩) (e.cls.length + 1) cap' ∧ GI fresh B m w2 (S.set ei ⟨e.key, g', cap', e.cls ++ [x]⟩) := by
  obtain ⟨k1, k2, k3, k4⟩ := h
  have hm := k1.lt
  have hee := k2 e (List.mem_of_getElem? he)
  obtain ⟨g', cap', rfl, hgb, hgB, hgl⟩ := own_form hown (by omega)
  rw [hgb] at hat
  have hat' : g' = e.g ∨ g' = w.heap.size := hat.elim (fun h => .inl (Option.some.inj h)) (fun h => .inr (Option.some.inj h))
  refine ⟨g', cap', rfl, ?_⟩
  have hgm : g' ≠ m := by
    rcases hat' with h | h
    · rw [h]; exact g_ne_m hee k1
    · omega
  have stay : ∀ k, k < w.heap.size → k ≠ e.g → k ≠ m → w2.heap[k]? = w.heap[k]? := fun k hk hk1 hk2 =>
    (hg2.block k (Nat.lt_of_lt_of_le hk hg.size) (fun h => by injection h with h; exact hk2 h)).trans (hg.block k hk (fun h => by injection h with h; exact hk1 h))
  have low : ∀ k, k < B → w2.heap[k]? = w.heap[k]? := fun k hk => stay k (by omega) (by have := hee.row.1; omega) (by omega)
  have hei : ei < S.length := (List.getElem?_eq_some_iff.1 he).1
  have hgother : ∀ (j : Nat) (f : Ent), j ≠ ei → S[j]? = some f → f.g ≠ g' := fun j f hj hf hfg => by
    rcases hat' with h | h
    · exact hj (k3.1 _ _ _ _ hf he (hfg.trans h))
    · have := (k2 f (List.mem_of_getElem? hf)).lt; omega
  refine ⟨?_, fun f hf => ?_, ⟨fun i j a b ha hb hab => ?_, fun i j a b ha hb hab => ?_, fun i j c d a b y z ha hb hy hz hyz => ?_⟩, k4⟩
  · have hfnd : fnd e.key (S.map fun e => (e.key, e.v)) 0 = some (ei, e.v) := by
      have := fnd_some (k := e.key) (L := S.map fun e => (e.key, e.v)) (i := 0) (j := ei) (v := e.v) (by rw [List.getElem?_map, he]; rfl) (fun q p hq hp hk => by
        rw [List.getElem?_map] at hp
        cases hs : S[q]? with
        | none => rw [hs] at hp; cases hp
        | some f =>
          rw [hs] at hp
          have hp := Option.some.inj hp
          rw [← hp] at hk
          have := k3.2.1 _ _ _ _ he hs hk
          omega)
      rwa [Nat.zero_add] at this
    have hL : (S.set ei ⟨e.key, g', cap', e.cls ++ [x]⟩).map (fun e => (e.key, e.v)) = mput (S.map fun e => (e.key, e.v)) e.key (.slice (some ⟨g', 0, none⟩) (e.cls.length + 1) cap') := by
      unfold mput
      rw [hfnd, List.map_set]
      simp [Ent.v]
    rw [hL]; exact hm2
  · obtain ⟨j, hj⟩ := mem_get hf
    rcases set_get hj with ⟨rfl, rfl⟩ | ⟨hne, hj⟩
    · refine ⟨?_, fun y hy => ?_⟩
      · show World.ownsRow w2 B _ 9 (.slice (some ⟨g', 0, none⟩) (e.cls ++ [x]).length cap') (e.cls ++ [x]).length ((e.cls ++ [x]).flatMap Cl.cells)
        rw [List.length_append, List.length_singleton, List.flatMap_append, List.flatMap_singleton]
        exact own_keep hown (fun q hq => hg2.block q (by rw [hgb] at hq; injection hq with hq; omega) (fun h => by
          rw [hgb] at hq; injection hq with hq; injection h with h; exact hgm (hq.trans h)))
      · rcases List.mem_append.1 hy with hy | hy
        · have hye := hee.2 y hy
          exact hye.keep low (stay _ hye.2.lt (fb_ne_g hye.2 hee) (fb_ne_m hye.2 k1))
        · simp at hy; subst hy
          exact hx.keep low (stay _ hx.2.lt (fb_ne_g hx.2 hee) (fb_ne_m hx.2 k1))
    · have hfe := k2 f (List.mem_of_getElem? hj)
      refine hfe.keep low (stay _ hfe.lt (fun h => hne (k3.1 _ _ _ _ hj he h)) (g_ne_m hfe k1)) (fun y hy => ?_)
      have hye := hfe.2 y hy
      exact stay _ hye.2.lt (fb_ne_g hye.2 hee) (fb_ne_m hye.2 k1)
  · rcases set_get ha with ⟨rfl, rfl⟩ | ⟨hni, ha'⟩ <;> rcases set_get hb with ⟨rfl, rfl⟩ | ⟨hnj, hb'⟩
    · rfl
    · exact absurd hab.symm (hgother _ _ hnj hb')
    · exact absurd hab (hgother _ _ hni ha')
    · exact k3.1 _ _ _ _ ha' hb' hab
  · rcases set_get ha with ⟨rfl, rfl⟩ | ⟨hni, ha'⟩ <;> rcases set_get hb with ⟨rfl, rfl⟩ | ⟨hnj, hb'⟩
    · rfl
    · exact k3.2.1 _ _ _ _ he hb' hab
    · exact k3.2.1 _ _ _ _ ha' he hab
    · exact k3.2.1 _ _ _ _ ha' hb' hab
  · have key : ∀ (i c : Nat) (a : Ent) (y : Cl), (S.set ei ⟨e.key, g', cap', e.cls ++ [x]⟩)[i]? = some a → a.cls[c]? = some y → (i = ei ∧ c = e.cls.length ∧ y = x) ∨ (∃ a0, S[i]? = some a0 ∧ a0.cls[c]? = some y) := by
      intro i c a y ha hy
      rcases set_get ha with ⟨rfl, rfl⟩ | ⟨hni, ha⟩
      · have hy : (e.cls ++ [x])[c]? = some y := hy
        rcases Nat.lt_or_ge c e.cls.length with hc | hc
        · rw [List.getElem?_append_left hc] at hy
          exact .inr ⟨e, he, hy⟩
        · rw [List.getElem?_append_right hc] at hy
          have hc2 : c - e.cls.length = 0 := by
            have := (List.getElem?_eq_some_iff.1 hy).1
            simp at this; omega
          rw [hc2] at hy
          exact .inl ⟨rfl, by omega, (Option.some.inj hy).symm⟩
      · exact .inr ⟨a, ha, hy⟩
    rcases key i c a y ha hy with ⟨rfl, rfl, rfl⟩ | ⟨a0, ha0, hy0⟩ <;> rcases key j d b z hb hz with ⟨rfl, rfl, rfl⟩ | ⟨b0, hb0, hz0⟩
    · exact ⟨rfl, rfl⟩
    · exact absurd hyz.symm (hxf b0 (List.mem_of_getElem? hb0) z (List.mem_of_getElem? hz0))
    · exact absurd hyz (hxf a0 (List.mem_of_getElem? ha0) y (List.mem_of_getElem? hy0))
    · exact k3.2.2 _ _ _ _ _ _ _ _ ha0 hb0 hy0 hz0 hyz
theorem snoc_get {α : Type} {l : List α} {j : Nat} {a b : α} (h : (l ++ [a])[j]? = some b) : (j = l.length ∧ b = a) ∨ (j < l.length ∧ l[j]? = some b) := by
  rcases Nat.lt_or_ge j l.length with hc | hc
  · rw [List.getElem?_append_left hc] at h
    exact .inr ⟨hc, h⟩
  · rw [List.getElem?_append_right hc] at h
    have hc2 : j - l.length = 0 := by
      have := (List.getElem?_eq_some_iff.1 h).1
      simp at this; omega
    rw [hc2] at h
    exact .inl ⟨by omega, (Option.some.inj h).symm⟩
/-- a new entry with one class -/
theorem GI.putNew {fresh : Bool} {B m : Nat} {w w1 w2 : World} {S : List Ent} (h : GI fresh B m w S) {key : ByteArray} (hno : ∀ f ∈ S, f.key ≠ key) (x : Cl) (hx : x.Ok fresh B w) (hxf : ∀ f ∈ S, ∀ y ∈ f.cls, y.fb ≠ x.fb) {v' : Value}
    (hown : w1.ownsRow B 97 9 v' (0 + 1) ([] ++ x.cells)) (hg : w.grownBy w1 none) (hat : v'.ownBlock = none ∨ v'.ownBlock = some w.heap.size)
    (hg2 : w1.grownBy w2 (some m)) (hm2 : MapIs w2 m (mput (S.map fun e => (e.key, e.v)) key v')) :
    ∃ g' cap', v' = .slice (some ⟨g', 0, none⟩) 1 cap' ∧ GI fresh B m w2 (S ++ [⟨key, g', cap', [x]⟩]) := by
  obtain ⟨k1, k2, k3, k4⟩ := h
  have hm := k1.lt
  obtain ⟨g', cap', rfl, hgb, hgB, hgl⟩ := own_form hown (by omega)
  rw [hgb] at hat
  have hat' : g' = w.heap.size := hat.elim (fun h => by cases h) (fun h => Option.some.inj h)
  refine ⟨g', cap', rfl, ?_⟩
  have stay : ∀ k, k < w.heap.size → k ≠ m → w2.heap[k]? = w.heap[k]? := fun k hk hk2 =>
    (hg2.block k (Nat.lt_of_lt_of_le hk hg.size) (fun h => by injection h with h; exact hk2 h)).trans (hg.block k hk (fun h => by cases h))
  have low : ∀ k, k < B → w2.heap[k]? = w.heap[k]? := fun k hk => stay k (by omega) (by omega)
  refine ⟨?_, fun f hf => ?_, ⟨fun i j a b ha hb hab => ?_, fun i j a b ha hb hab => ?_, fun i j c d a b y z ha hb hy hz hyz => ?_⟩, k4⟩
  · have hfnd : fnd key (S.map fun e => (e.key, e.v)) 0 = none := fnd_none (fun p hp => by
      obtain ⟨f, hf, rfl⟩ := List.mem_map.1 hp
      exact fun h => hno f hf h.symm)
    have hL : (S ++ [(⟨key, g', cap', [x]⟩ : Ent)]).map (fun e => (e.key, e.v)) = mput (S.map fun e => (e.key, e.v)) key (.slice (some ⟨g', 0, none⟩) (0 + 1) cap') := by
      unfold mput
      rw [hfnd]
      simp [Ent.v]
    rw [hL]; exact hm2
  · rcases List.mem_append.1 hf with hf | hf
    · have hfe := k2 f hf
      exact hfe.keep low (stay _ hfe.lt (g_ne_m hfe k1)) (fun y hy => stay _ (hfe.2 y hy).2.lt (fb_ne_m (hfe.2 y hy).2 k1))
    · simp at hf; subst hf
      refine ⟨?_, fun y hy => ?_⟩
      · show World.ownsRow w2 B _ 9 (.slice (some ⟨g', 0, none⟩) 1 cap') 1 ([x].flatMap Cl.cells)
        rw [List.flatMap_singleton]
        exact own_keep hown (fun q hq => hg2.block q (by rw [hgb] at hq; injection hq with hq; omega) (fun h => by
          rw [hgb] at hq; injection hq with hq; injection h with h; omega))
      · have hy : y ∈ [x] := hy
        simp at hy; subst hy
        exact hx.keep low (stay _ hx.2.lt (fb_ne_m hx.2 k1))
  · rcases snoc_get ha with ⟨rfl, rfl⟩ | ⟨hni, ha'⟩ <;> rcases snoc_get hb with ⟨rfl, rfl⟩ | ⟨hnj, hb'⟩
    · rfl
    · have h1 : g' = b.g := hab
      have := (k2 b (List.mem_of_getElem? hb')).lt; omega
    · have h1 : a.g = g' := hab
      have := (k2 a (List.mem_of_getElem? ha')).lt; omega
    · exact k3.1 _ _ _ _ ha' hb' hab
  · rcases snoc_get ha with ⟨rfl, rfl⟩ | ⟨hni, ha'⟩ <;> rcases snoc_get hb with ⟨rfl, rfl⟩ | ⟨hnj, hb'⟩
    · rfl
    · exact absurd hab.symm (hno b (List.mem_of_getElem? hb'))
    · exact absurd hab (hno a (List.mem_of_getElem? ha'))
    · exact k3.2.1 _ _ _ _ ha' hb' hab
  · have key2 : ∀ (i c : Nat) (a : Ent) (y : Cl), (S ++ [⟨key, g', cap', [x]⟩])[i]? = some a → a.cls[c]? = some y → (i = S.length ∧ c = 0 ∧ y = x) ∨ (∃ a0, S[i]? = some a0 ∧ a0.cls[c]? = some y) := by
      intro i c a y ha hy
      rcases snoc_get ha with ⟨rfl, rfl⟩ | ⟨hni, ha⟩
      · have hy : ([x] : List Cl)[c]? = some y := hy
        cases c with
        | zero => simp at hy; exact .inl ⟨rfl, rfl, hy.symm⟩
        | succ c => simp at hy
      · exact .inr ⟨a, ha, hy⟩
    rcases key2 i c a y ha hy with ⟨rfl, rfl, rfl⟩ | ⟨a0, ha0, hy0⟩ <;> rcases key2 j d b z hb hz with ⟨rfl, rfl, rfl⟩ | ⟨b0, hb0, hz0⟩
    · exact ⟨rfl, rfl⟩
    · exact absurd hyz.symm (hxf b0 (List.mem_of_getElem? hb0) z (List.mem_of_getElem? hz0))
    · exact absurd hyz (hxf a0 (List.mem_of_getElem? ha0) y (List.mem_of_getElem? hy0))
    · exact k3.2.2 _ _ _ _ _ _ _ _ ha0 hb0 hy0 hz0 hyz
end Go.Proofs.YtlnfdpdancolmaaDoor
