/- The bytes of a list of events, and what a round over its runs keeps. Conditions: those in each statement. -/
import Derived.Test.YtlbmfgiepcemdaaEvRuns
namespace Go.Proofs.Ytlbmfgiepcemdaa
open Go.RowKit Go.Sort Go.Shelf

/-- the bytes of a run -/
def groupB (x : Ev) (n : Nat) : List UInt8 :=
  if x.kind == 3 then (numB 3 ++ numB n).data.toList else if groupedE x then (numB 0 ++ numB n).data.toList else writeS x
def groupsA (l : List (EvA × Nat)) : List UInt8 := l.flatMap fun p => groupB p.1.x p.2
def spanE (x : Ev) : List Ev → Nat
  | [] => 0
  | y :: l => if joins x y then spanE x l + 1 else 0
def runsE : Nat → List Ev → List (Ev × Nat)
  | 0, _ => []
  | _ + 1, [] => []
  | F + 1, a :: l => (a, spanE a l + 1) :: runsE F (l.drop (spanE a l))
def groupsE (l : List (Ev × Nat)) : List UInt8 := l.flatMap fun p => groupB p.1 p.2
/-- the bytes of a list of events -/
def bytesE (l : List Ev) : ByteArray :=
  if 1048576 < l.length then ⟨#[]⟩ else if l.all rightE then ⟨((numB l.length).data.toList ++ groupsE (runsE l.length l)).toArray⟩ else ⟨#[]⟩
theorem spanE_map (x : Ev) : ∀ l : List EvA, spanE x (l.map (·.x)) = spanA x l
  | [] => rfl
  | y :: l => by rw [List.map_cons, spanE, spanA, spanE_map x l]
theorem runsE_map : ∀ (F : Nat) (l : List EvA), runsE F (l.map (·.x)) = (runsA F l).map fun p => (p.1.x, p.2)
  | 0, _ => rfl
  | _ + 1, [] => rfl
  | F + 1, a :: l => by
    rw [List.map_cons, runsE, runsA, List.map_cons, spanE_map, ← List.map_drop, runsE_map F]
theorem groupsE_map (l : List (EvA × Nat)) : groupsE (l.map fun p => (p.1.x, p.2)) = groupsA l := by
  unfold groupsE groupsA
  rw [List.flatMap_map]
theorem groupsA_snoc (l : List (EvA × Nat)) (p : EvA × Nat) : groupsA (l ++ [p]) = groupsA l ++ groupB p.1.x p.2 := by
  unfold groupsA; rw [List.flatMap_append]; simp
theorem groupB_len (x : Ev) (n : Nat) : (groupB x n).length ≤ 9 * x.size + 18 := by
  unfold groupB
  have h1 := numB_size 3
  have h2 := numB_size 0
  have h3 := numB_size n
  have h4 := writeS_len x
  split
  · rw [size_toList, ByteArray.size_append]; omega
  · split
    · rw [size_toList, ByteArray.size_append]; omega
    · omega

theorem groupsA_len : ∀ l : List (EvA × Nat), (∀ p ∈ l, p.1.x.size ≤ 2097152) → (groupsA l).length ≤ l.length * 18874386
  | [], _ => by simp [groupsA]
  | p :: l, h => by
    have h1 := groupsA_len l (fun q hq => h q (List.mem_cons_of_mem _ hq))
    have h2 := groupB_len p.1.x p.2
    have h3 := h p List.mem_cons_self
    have h4 : groupsA (p :: l) = groupB p.1.x p.2 ++ groupsA l := rfl
    rw [h4, List.length_append, List.length_cons]
    omega
/-! what a round keeps -/
theorem builderF_own {T e : TypeId} {B b : Nat} {bs : List Value} {w w' : World} {row : Option Nat} (h : Lib.IsBuilderF T e B b bs w) (hg : w.grownBy w' row) (hr : ∀ r, row = some r → ∃ o : Obj, w.heap[r]? = some o ∧ o.isCells = false) : Lib.IsBuilderF T e B b bs w' := by
  have key : ∀ p, Lib.BuilderAtF T e B b p bs w → Lib.BuilderAtF T e B b p bs w' := fun p h => by
    obtain ⟨h1, v, h2, h3, h4⟩ := h
    refine ⟨h1, v, (hg.block b (Array.getElem?_eq_some_iff.1 h2).1 (fun e => ?_)).trans h2, h3.kept hg ?_, h4⟩
    · obtain ⟨o, ho, hc⟩ := hr b e.symm
      rw [h2] at ho; cases ho; cases hc
    · cases hv : v.ownBlock with
      | none => exact .inl rfl
      | some g =>
        refine .inr fun e => ?_
        obtain ⟨o, ho, hc⟩ := hr g e.symm
        obtain ⟨c, fz, hk⟩ := Lib.ownsRowF_kind h3 g hv
        rw [hk] at ho; cases ho; cases hc
  exact h.elim (fun h => .inl (key _ h)) (fun h => .inr (key _ h))
theorem bldE_own {β : Type} {B b Bl : Nat} {w0 : World} (f : β → List UInt8) (h0 : w0.heap.size ≤ Bl) (hB : B ≤ Bl) : OwnFrom Bl (fun s W => BldE B b w0 W (f s)) := by
  intro s W W' row hs hg hr
  refine ⟨builderF_own hs.at_ hg (fun r e => (hr r e).2), hs.low.grown hg hs.le (fun k e => by have := (hr k e).1; omega), ?_, Nat.le_trans hs.le hg.size⟩
  intro k o hk hne hc
  have h1 := hs.oth k o hk hne hc
  refine (hg.block k (Array.getElem?_eq_some_iff.1 h1).1 (fun e => ?_)).trans h1
  have h2 := (hr k e.symm).1
  have h3 := (Array.getElem?_eq_some_iff.1 hk).1
  omega
theorem cellsAt_own {β : Type} (g : Nat) (cs : Array Value) (e : TypeId) : Own (fun (_ : β) W => CellsAt W g cs e) := fun _ X _ _ hs hg hrow =>
  (hg.block g hs.lt (fun e' => by obtain ⟨o, ho, hc⟩ := hrow g e'.symm; rw [show X.heap[g]? = _ from hs] at ho; cases ho; cases hc)).trans hs
theorem bldE_others {B b : Nat} {W W' : World} {bs cs : List UInt8} (h0 : Lib.IsBuilderF 64 5 B b (Lib.byteCells cs) W) (h : BldE B b W W' bs) : KeepsOthers W W' := by
  refine ⟨h.low.size, fun k _ hk hc => h.oth k _ hk (fun e => ?_) (fun c fz e => by subst e; cases hc)⟩
  obtain rfl : k = b := Option.some.inj e
  have key : ∀ p, Lib.BuilderAtF 64 5 B k p (Lib.byteCells cs) W → False := fun p h => by
    obtain ⟨_, v, h2, _⟩ := h
    rw [h2] at hk; cases hk; cases hc
  exact h0.elim (key _) (key _)
theorem below_others {W W' : World} (h : Below W.heap.size W W') : KeepsOthers W W' := ⟨h.size, fun k _ hk _ => (h.block k (Array.getElem?_eq_some_iff.1 hk).1).trans hk⟩
theorem bldE_kpR {m Bs B b : Nat} {W W' : World} {bs : List UInt8} {cs : Array Value} (hm : m ≤ B) (h : BldE B b W W' bs) (hb : CellsAt W Bs cs 22) (hne : Bs ≠ b) : KpR m Bs W W' :=
  ⟨h.low.mono hm, (h.cells hb hne (by decide)).trans (Eq.symm hb)⟩

set_option maxHeartbeats 1000000 in
set_option maxRecDepth 100000 in
theorem runs_any (A : Option Addr) (n c : Nat) (w : World) : Calls Try.prog 22 #[.slice A n c] w fun e w' => e = .returned (.func (.func 43) #[] #[.pointer (some ⟨w.heap.size, 0, none⟩)]) ∧ w' = w.alloc (.cells #[.slice A n c] 22) := by
  go_enter Try.func22, Try.ntmps22
  go_wp2_with fail
  go_ret
  exact ⟨rfl, rfl⟩
theorem stringE_kept {B b : Nat} {w0 w : World} {bs : List UInt8} (h : BldE B b w0 w bs) :
    Calls Try.prog 25 #[.pointer (some ⟨b, 0, none⟩)] w fun e w' => e = .returned (.string ⟨bs.toArray⟩) ∧ BldE B b w w' bs := by
  refine (Any.Builder_String_any_k Try.lays169 Try.Builder_Extra_169 B b bs w h.at_ h.le).mono ?_
  rintro e w' ⟨rfl, h1, h2, h3⟩
  exact ⟨rfl, h1, h2, h3, Nat.le_trans h.le h2.size⟩
/-- a run of the list -/
abbrev RunOf (zs : List EvA) : Type := { p : EvA × Nat // p.1 ∈ zs ∧ p.2 ≤ zs.length }
theorem runs_stops (n : Nat) (hn : 1 ≤ n) (m Bs b off cap : Nat) (A0 : Option Addr) (zs : List EvA) (hlen : zs.length ≤ 1048576) (hA : 0 < zs.length → A0 = some ⟨b, off, none⟩ ∧ b < m) (w : World) (hm : m ≤ w.heap.size) (hBs : CellsAt w Bs #[.slice A0 zs.length cap] 22) (hat : ∀ (i : Nat) (a : EvA), zs[i]? = some a → a.at (Lt m) w b (off + i * 12)) :
    SeqStopsK Fence.wide n Try.prog 43 #[.pointer (some ⟨Bs, 0, none⟩)] (fun x : RunOf zs => #[.agg #[.int .i64 x.1.1.x.kind, .string x.1.1.x.path, .string x.1.1.x.msg, .slice x.1.1.A x.1.1.x.args.length x.1.1.c, .int .i64 x.1.1.x.ord, .int .i64 x.1.1.x.vk, .string x.1.1.x.vt, .int .i64 x.1.1.x.vn, .int .i64 x.1.1.x.vm, .string x.1.1.x.vx, .slice x.1.1.C x.1.1.x.vl.length x.1.1.d, .int .i64 x.1.1.x.n], .int .i64 (x.1.2 : Int)]) (KpR m Bs) (fun ys => ys.map (·.1) = runsA zs.length zs) (fun _ => True) zs.length w := fun l J Jx W hW hJ _ hY h0 => by
  refine (runs1_in n hn l m Bs b off cap A0 zs hlen hA (fun pre W => ∃ pre' : List (RunOf zs), pre'.map (·.1) = pre ∧ J pre' W) (fun pre W => ∃ pre' : List (RunOf zs), Jx pre' W) ?_ W ?_ (Nat.le_trans hm hW.size) ((hW.block Bs hBs.lt).trans hBs) (fun i a hi => by
    have hi' := (List.getElem?_eq_some_iff.1 hi).1
    exact EvA.at_below (hA (by omega)).2 (hat i a hi) (hW.mono hm)) ⟨[], rfl, h0⟩).mono ?_
  · rintro pre x W1 h1 h2 ⟨pre', rfl, hj⟩ hlt
    obtain ⟨fn, tmps, assign, body, hy, hR⟩ := hY pre' ⟨x, h1, h2⟩ W1 hj (by simpa using hlt)
    refine ⟨fn, tmps, assign, body, hy, hR.mono ?_⟩
    rintro e W2 (⟨he, hj2, hk⟩ | ⟨he, hx⟩)
    · exact .inl ⟨he, ⟨_, by rw [List.map_append]; rfl, hj2⟩, hk⟩
    · exact .inr ⟨he, _, hx⟩
  · rintro s X Y row ⟨pre', h1, h2⟩ hg hr
    exact ⟨pre', h1, hJ pre' X Y row h2 hg hr⟩
  · rintro e W2 ⟨he, ⟨ys, rfl, pre', h1, h2⟩ | ⟨pre, _, pre', h2⟩⟩
    · exact ⟨he, .inl ⟨pre', h1, h2⟩⟩
    · exact ⟨he, .inr ⟨pre', trivial, h2⟩⟩
end Go.Proofs.Ytlbmfgiepcemdaa
