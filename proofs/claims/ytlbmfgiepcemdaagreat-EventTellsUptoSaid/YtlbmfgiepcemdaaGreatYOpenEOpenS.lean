/- Arguments that read as data, opened: values, events and slices of them as plain Lean data, with how much they hold. Conditions: those in each statement. An argument of type api.System that reads as data, opened as far as the scheduler reads it. Conditions: those in each statement. -/
import Derived.Test.YtlbmfgiepcemdaaGreatRows
import Derived.Test.YtlbmfgiepcemdaaGreatYEvWrite
import Derived.ChangeArms
import Derived.Test.YtlbmfgiepcemdaaGreatYR20E
namespace Go.Proofs.YtlbmfgiepcemdaaGreat
open Go.RowKit

theorem list_of {α : Type} {p : Nat → α → Prop} : ∀ n : Nat, (∀ i, i < n → ∃ a, p i a) → ∃ l : List α, l.length = n ∧ ∀ i a, l[i]? = some a → p i a
  | 0, _ => ⟨[], rfl, fun i a h => by simp at h⟩
  | n + 1, h => by
    obtain ⟨l, h1, h2⟩ := list_of n (fun i hi => h i (by omega))
    obtain ⟨a, ha⟩ := h n (by omega)
    refine ⟨l ++ [a], by simp [h1], fun i b hb => ?_⟩
    rcases Nat.lt_or_ge i n with hi | hi
    · rw [List.getElem?_append_left (by omega)] at hb
      exact h2 i b hb
    · rw [List.getElem?_append_right (by omega)] at hb
      have hl := (List.getElem?_eq_some_iff.1 hb).1
      simp at hl
      obtain rfl : i = n := by omega
      rw [h1, Nat.sub_self] at hb
      simp at hb
      rw [← hb]; exact ha
theorem sum_le {α β : Type} (f : α → Nat) (g : β → Nat) : ∀ (l : List α) (m : List β), l.length = m.length → (∀ (i : Nat) (a : α) (b : β), l[i]? = some a → m[i]? = some b → f a ≤ g b) → (l.map f).sum ≤ (m.map g).sum
  | [], m, h, _ => by simp
  | a :: l, [], h, _ => by simp at h
  | a :: l, b :: m, h, hf => by
    have h1 := hf 0 a b rfl rfl
    have h2 := sum_le f g l m (by simpa using h) (fun i x y hx hy => hf (i + 1) x y (by simpa using hx) (by simpa using hy))
    simp only [List.map_cons, List.sum_cons]; omega
theorem bulkAll_sum {H : Type} : ∀ l : List (DataW H), Rows.uptoBulkAll l = (l.map Rows.uptoBulk).sum
  | [] => by simp [Rows.uptoBulkAll]
  | d :: r => by simp [Rows.uptoBulkAll, bulkAll_sum r]

def cells12E (x : Ev) (A : Option Addr) (c : Nat) (C : Option Addr) (d : Nat) : List Value := [.int .i64 x.kind, .string x.path, .string x.msg, .slice A x.args.length c, .int .i64 x.ord, .int .i64 x.vk, .string x.vt, .int .i64 x.vn, .int .i64 x.vm, .string x.vx, .slice C x.vl.length d, .int .i64 x.n]
section
variable {H : Type} {enc : TypeId × Value → H} {W : World}
/-- cells read by place -/
theorem cells_at {a : Addr} {n : Nat} {cs : List Value} (h : W.cells? 0 a n = some cs) : cs.length = n ∧ ∀ j u, cs[j]? = some u → W.cell? (a.add j) = some u := by
  obtain ⟨_, h1, h2⟩ := World.cells?_some h
  refine ⟨h1, fun j u hj => ?_⟩
  have hl : j < cs.length := (List.getElem?_eq_some_iff.1 hj).1
  rw [h2 j (by omega)]; exact hj
theorem open_rows {t e : TypeId} {k n : Nat} {cs : List Value} {x : DataW H × List MemPlace} (ht : Tryz.prog.underlying t = some (.slice e)) (hc : Tryz.prog.cellsOf e = k) (hk : 0 < k) {α : Type} (row : α → Nat → D) (rows : List α → Nat → Nat → D) (hrows : ∀ l i a, l[i]? = some a → rows l i = row a) (bulk : α → Nat) (Q : α → Prop)
    (helem : ∀ cs x, DataW.trod enc Tryz.prog W 0 (fun _ => true) true n e cs = some x → ∃ a : α, (∀ j u, cs[j]? = some u → Rd (Lt W.heap.size) W (row a j) u) ∧ bulk a ≤ Rows.uptoBulk x.1 ∧ Q a)
    (h : DataW.trod enc Tryz.prog W 0 (fun _ => true) true (n + 1) t cs = some x) :
    ∃ A c, ∃ l : List α, cs = [.slice A l.length c] ∧ Rd (Lt W.heap.size) W (.sl k l.length (rows l)) (.slice A l.length c) ∧ (l.map bulk).sum + 1 ≤ Rows.uptoBulk x.1 ∧ ∀ a ∈ l, Q a := by
  rcases DataW.trod_slice ht h with ⟨rfl, rfl⟩ | ⟨a, len, cap, elems, rest, m, hm, rfl, rfl, _, hl, hcm, hel, hat, _, _⟩
  · exact ⟨none, 0, [], rfl, Rd.sl_nil, by simp [Rows.uptoBulk], fun a ha => absurd ha (by simp)⟩
  · obtain rfl : n = m := by omega
    rw [hc] at hat
    have each : ∀ i, i < len → ∃ b : α, (∀ j, j < k → ∃ u, W.cell? ((a.add (i * k)).add j) = some u ∧ Rd (Lt W.heap.size) W (row b j) u) ∧ (∀ y, elems[i]? = some y → bulk b ≤ Rows.uptoBulk y.1) ∧ Q b := fun i hi => by
      have h1 := hat i hi
      have hi2 : elems[i]? = some elems[i] := List.getElem?_eq_getElem (by omega)
      rw [hi2] at h1
      obtain ⟨cs', h2, h3⟩ := Option.bind_eq_some_iff.1 h1
      obtain ⟨hl2, hce⟩ := cells_at h2
      obtain ⟨b, hb1, hb2, hb3⟩ := helem cs' _ h3
      refine ⟨b, fun j hj => ?_, fun y hy => ?_, hb3⟩
      · have hu : cs'[j]? = some (cs'[j]'(by omega)) := List.getElem?_eq_getElem (by omega)
        exact ⟨_, hce j _ hu, hb1 j _ hu⟩
      · rw [hi2] at hy; rw [← Option.some.inj hy]; exact hb2
    obtain ⟨l, hll, hlp⟩ := list_of len each
    subst hll
    refine ⟨some a, cap, l, rfl, ?_, ?_, fun b hb => ?_⟩
    · refine Rd.sl_mk hl (by unfold maxLen at hcm; exact hcm) fun hpos => ?_
      have h0 : l[0]? = some l[0] := List.getElem?_eq_getElem hpos
      obtain ⟨u, hu, _⟩ := (hlp 0 _ h0).1 0 hk
      have ha0 : (a.add (0 * k)).add 0 = a := by simp [Addr.add]
      rw [ha0] at hu
      have hsp : a.spot = none := by
        unfold World.cell? at hu
        split at hu
        · split at hu
          · cases hu
          · rename_i h; simpa using h
        · cases hu
      obtain ⟨ab, ao, asp⟩ := a
      have hsp : asp = none := hsp
      subst hsp
      refine ⟨ab, ao, rfl, World.block_lt_of_cell? W _ hu, fun i hi j hj => ?_⟩
      have hi2 : l[i]? = some l[i] := List.getElem?_eq_getElem hi
      obtain ⟨u, hu, hd⟩ := (hlp i _ hi2).1 j hj
      rw [Addr.add_lit, Addr.add_lit] at hu
      exact ⟨u, hu, by rw [hrows l i _ hi2]; exact hd⟩
    · have := sum_le bulk (fun y : DataW H × List MemPlace => Rows.uptoBulk y.1) l elems (by omega) (fun i b y hb hy => (hlp i b hb).2.1 y hy)
      simp only [Rows.uptoBulk, bulkAll_sum, List.map_map]
      have h2 : (elems.map (Rows.uptoBulk ∘ fun y => y.1)).sum = (elems.map fun y : DataW H × List MemPlace => Rows.uptoBulk y.1).sum := rfl
      rw [h2]; omega
    · obtain ⟨i, hi⟩ := List.mem_iff_getElem?.1 hb
      exact (hlp i b hi).2.2
theorem wf_range {n : Int} (h : (Lit.int .i64 n).wf = true) : -9223372036854775808 ≤ n ∧ n ≤ 9223372036854775807 := by
  simp [Lit.wf, IntKind.min, IntKind.max, IntKind.signed, IntKind.bits] at h
  omega
theorem bulkV_sum : ∀ l : List V, bulkV l = (l.map V.bulk).sum
  | [] => rfl
  | v :: r => by rw [bulkV_cons, bulkV_sum r]; rfl
theorem WfV_of : ∀ l : List V, (∀ v ∈ l, v.Wf) → WfV l
  | [], _ => by rw [WfV]; trivial
  | v :: r, h => by rw [WfV]; exact ⟨h v List.mem_cons_self, WfV_of r (fun v hv => h v (List.mem_cons_of_mem _ hv))⟩
theorem take1 {l : List Value} {k : Nat} {v : Value} (h : (l.drop k).take 1 = [v]) : l[k]? = some v := by
  have := congrArg (fun m => m[0]?) h
  simpa [List.getElem?_take, List.getElem?_drop] using this
/-- a slice of values -/
theorem open_values : ∀ (N fuel : Nat), fuel ≤ N → ∀ (cs : List Value) (x : DataW H × List MemPlace), DataW.trod enc Tryz.prog W 0 (fun _ => true) true fuel 33 cs = some x →
    ∃ A c, ∃ l : List V, cs = [.slice A l.length c] ∧ Rd (Lt W.heap.size) W (vs l) (.slice A l.length c) ∧ bulkV l + 1 ≤ Rows.uptoBulk x.1 ∧ WfV l := by
  intro N
  induction N with
  | zero =>
    intro fuel hf cs x h
    obtain rfl : fuel = 0 := by omega
    simp [DataW.trod] at h
  | succ N ih =>
    intro fuel hf cs x h
    cases fuel with
    | zero => simp [DataW.trod] at h
    | succ n =>
      obtain ⟨A, c, l, h1, h2, h3, h4⟩ := open_rows (k := 6) Tryz.underlying33 (by kernel_rfl) (by omega) V.row rowsV rowsV_get V.bulk V.Wf (fun cs x hx => by
        obtain ⟨xs, m, hm, rfl, hlen, hxs, hfl⟩ := DataW.trod_struct Tryz.underlying35 hx
        have g0 : DataW.trod enc Tryz.prog W 0 (fun _ => true) true m 3 ((cs.drop 0).take (Tryz.prog.cellsOf 3)) = xs[0]? := hfl 0 _ rfl
        have g1 : DataW.trod enc Tryz.prog W 0 (fun _ => true) true m 9 ((cs.drop 1).take (Tryz.prog.cellsOf 9)) = xs[1]? := hfl 1 _ rfl
        have g2 : DataW.trod enc Tryz.prog W 0 (fun _ => true) true m 3 ((cs.drop 2).take (Tryz.prog.cellsOf 3)) = xs[2]? := hfl 2 _ rfl
        have g3 : DataW.trod enc Tryz.prog W 0 (fun _ => true) true m 3 ((cs.drop 3).take (Tryz.prog.cellsOf 3)) = xs[3]? := hfl 3 _ rfl
        have g4 : DataW.trod enc Tryz.prog W 0 (fun _ => true) true m 9 ((cs.drop 4).take (Tryz.prog.cellsOf 9)) = xs[4]? := hfl 4 _ rfl
        have g5 : DataW.trod enc Tryz.prog W 0 (fun _ => true) true m 33 ((cs.drop 5).take (Tryz.prog.cellsOf 33)) = xs[5]? := hfl 5 _ rfl
        have hs : xs.length = 6 := hxs
        obtain ⟨x0, x1, x2, x3, x4, x5, rfl⟩ : ∃ x0 x1 x2 x3 x4 x5, xs = [x0, x1, x2, x3, x4, x5] := by
          match xs, hs with
          | [x0, x1, x2, x3, x4, x5], _ => exact ⟨_, _, _, _, _, _, rfl⟩
        have cc3 : Tryz.prog.cellsOf 3 = 1 := by kernel_rfl
        have cc9 : Tryz.prog.cellsOf 9 = 1 := by kernel_rfl
        have cc30 : Tryz.prog.cellsOf 33 = 1 := by kernel_rfl
        obtain ⟨kd, e0, f0, w0⟩ := DataW.trod_int Tryz.underlying3 g0
        obtain ⟨t, e1, f1, _⟩ := DataW.trod_string Tryz.underlying9 g1
        obtain ⟨n', e2, f2, w2⟩ := DataW.trod_int Tryz.underlying3 g2
        obtain ⟨m', e3, f3, w3⟩ := DataW.trod_int Tryz.underlying3 g3
        obtain ⟨s, e4, f4, _⟩ := DataW.trod_string Tryz.underlying9 g4
        obtain ⟨A', c', l', e5, r5, b5, wf5⟩ := ih m (by omega) _ _ g5
        rw [cc3] at e0 e2 e3
        rw [cc9] at e1 e4
        rw [cc30] at e5
        have hlen : cs.length = 6 := hlen.trans (by kernel_rfl)
        refine ⟨.mk kd t n' m' s l', fun j u hj => ?_, ?_, ?_⟩
        · refine cells_rdV r5 j u ?_
          rw [← hj]
          match j with
          | 0 => exact (take1 e0).symm
          | 1 => exact (take1 e1).symm
          | 2 => exact (take1 e2).symm
          | 3 => exact (take1 e3).symm
          | 4 => exact (take1 e4).symm
          | 5 => exact (take1 e5).symm
          | j + 6 => rw [List.getElem?_eq_none (by simp), List.getElem?_eq_none (by omega)]
        · rw [bulk_mk]
          subst f0 f1 f2 f3 f4
          simp only [List.map_cons, List.map_nil, Rows.uptoBulk, Rows.uptoBulkAll]
          simp only [size_toList]
          omega
        · rw [V.Wf]; exact ⟨wf_range w0, wf_range w2, wf_range w3, wf5⟩) h
      exact ⟨A, c, l, h1, h2, by rw [bulkV_sum]; exact h3, WfV_of l h4⟩
/-- one value -/
theorem open_Value (fuel : Nat) (cs : List Value) (x : DataW H × List MemPlace) (hx : DataW.trod enc Tryz.prog W 0 (fun _ => true) true fuel 35 cs = some x) :
    ∃ v : V, ∃ A c, cs = [.int .i64 v.kind, .string v.t, .int .i64 v.n, .int .i64 v.m, .string v.s, .slice A v.l.length c] ∧ Rd (Lt W.heap.size) W (vs v.l) (.slice A v.l.length c) ∧ v.bulk ≤ Rows.uptoBulk x.1 ∧ v.Wf := by
  obtain ⟨xs, m, hm, rfl, hlen, hxs, hfl⟩ := DataW.trod_struct Tryz.underlying35 hx
  have g0 : DataW.trod enc Tryz.prog W 0 (fun _ => true) true m 3 ((cs.drop 0).take (Tryz.prog.cellsOf 3)) = xs[0]? := hfl 0 _ rfl
  have g1 : DataW.trod enc Tryz.prog W 0 (fun _ => true) true m 9 ((cs.drop 1).take (Tryz.prog.cellsOf 9)) = xs[1]? := hfl 1 _ rfl
  have g2 : DataW.trod enc Tryz.prog W 0 (fun _ => true) true m 3 ((cs.drop 2).take (Tryz.prog.cellsOf 3)) = xs[2]? := hfl 2 _ rfl
  have g3 : DataW.trod enc Tryz.prog W 0 (fun _ => true) true m 3 ((cs.drop 3).take (Tryz.prog.cellsOf 3)) = xs[3]? := hfl 3 _ rfl
  have g4 : DataW.trod enc Tryz.prog W 0 (fun _ => true) true m 9 ((cs.drop 4).take (Tryz.prog.cellsOf 9)) = xs[4]? := hfl 4 _ rfl
  have g5 : DataW.trod enc Tryz.prog W 0 (fun _ => true) true m 33 ((cs.drop 5).take (Tryz.prog.cellsOf 33)) = xs[5]? := hfl 5 _ rfl
  have hs : xs.length = 6 := hxs
  obtain ⟨x0, x1, x2, x3, x4, x5, rfl⟩ : ∃ x0 x1 x2 x3 x4 x5, xs = [x0, x1, x2, x3, x4, x5] := by
    match xs, hs with
    | [x0, x1, x2, x3, x4, x5], _ => exact ⟨_, _, _, _, _, _, rfl⟩
  have cc3 : Tryz.prog.cellsOf 3 = 1 := by kernel_rfl
  have cc9 : Tryz.prog.cellsOf 9 = 1 := by kernel_rfl
  have cc30 : Tryz.prog.cellsOf 33 = 1 := by kernel_rfl
  obtain ⟨kd, e0, f0, w0⟩ := DataW.trod_int Tryz.underlying3 g0
  obtain ⟨t, e1, f1, _⟩ := DataW.trod_string Tryz.underlying9 g1
  obtain ⟨n', e2, f2, w2⟩ := DataW.trod_int Tryz.underlying3 g2
  obtain ⟨m', e3, f3, w3⟩ := DataW.trod_int Tryz.underlying3 g3
  obtain ⟨s, e4, f4, _⟩ := DataW.trod_string Tryz.underlying9 g4
  obtain ⟨A', c', l', e5, r5, b5, wf5⟩ := open_values m m (Nat.le_refl _) _ _ g5
  rw [cc3] at e0 e2 e3
  rw [cc9] at e1 e4
  rw [cc30] at e5
  have hlen : cs.length = 6 := hlen.trans (by kernel_rfl)
  refine ⟨.mk kd t n' m' s l', A', c', ?_, r5, ?_, ?_⟩
  · apply List.ext_getElem?
    intro j
    match j with
    | 0 => exact take1 e0
    | 1 => exact take1 e1
    | 2 => exact take1 e2
    | 3 => exact take1 e3
    | 4 => exact take1 e4
    | 5 => exact take1 e5
    | j + 6 => rw [List.getElem?_eq_none (by omega), List.getElem?_eq_none (by simp)]
  · rw [bulk_mk]
    subst f0 f1 f2 f3 f4
    simp only [List.map_cons, List.map_nil, Rows.uptoBulk, Rows.uptoBulkAll]
    simp only [size_toList]
    omega
  · rw [V.Wf]; exact ⟨wf_range w0, wf_range w2, wf_range w3, wf5⟩
theorem dropTake {l : List Value} {k n : Nat} {m : List Value} (h : (l.drop k).take n = m) {j : Nat} (hj : j < n) : l[k + j]? = m[j]? := by
  rw [← h, List.getElem?_take, if_pos hj, List.getElem?_drop]
/-- what an event holds, as the bound counts it -/
def Ev.load (x : Ev) : Nat := x.path.size + x.msg.size + bulkV x.args + x.val.bulk
theorem open_Ev (fuel : Nat) (cs : List Value) (x : DataW H × List MemPlace) (hx : DataW.trod enc Tryz.prog W 0 (fun _ => true) true fuel 37 cs = some x) :
    ∃ a : Ev, ∃ A c C d, cs = cells12E a A c C d ∧ Rd (Lt W.heap.size) W (vs a.args) (.slice A a.args.length c) ∧ Rd (Lt W.heap.size) W (vs a.vl) (.slice C a.vl.length d) ∧ a.load ≤ Rows.uptoBulk x.1 ∧ a.Wf := by
  obtain ⟨xs, m, hm, rfl, hlen, hxs, hfl⟩ := DataW.trod_struct Tryz.underlying37 hx
  have g0 : DataW.trod enc Tryz.prog W 0 (fun _ => true) true m 3 ((cs.drop 0).take (Tryz.prog.cellsOf 3)) = xs[0]? := hfl 0 _ rfl
  have g1 : DataW.trod enc Tryz.prog W 0 (fun _ => true) true m 9 ((cs.drop 1).take (Tryz.prog.cellsOf 9)) = xs[1]? := hfl 1 _ rfl
  have g2 : DataW.trod enc Tryz.prog W 0 (fun _ => true) true m 9 ((cs.drop 2).take (Tryz.prog.cellsOf 9)) = xs[2]? := hfl 2 _ rfl
  have g3 : DataW.trod enc Tryz.prog W 0 (fun _ => true) true m 33 ((cs.drop 3).take (Tryz.prog.cellsOf 33)) = xs[3]? := hfl 3 _ rfl
  have g4 : DataW.trod enc Tryz.prog W 0 (fun _ => true) true m 3 ((cs.drop 4).take (Tryz.prog.cellsOf 3)) = xs[4]? := hfl 4 _ rfl
  have g5 : DataW.trod enc Tryz.prog W 0 (fun _ => true) true m 35 ((cs.drop 5).take (Tryz.prog.cellsOf 35)) = xs[5]? := hfl 5 _ rfl
  have g6 : DataW.trod enc Tryz.prog W 0 (fun _ => true) true m 3 ((cs.drop 11).take (Tryz.prog.cellsOf 3)) = xs[6]? := hfl 6 _ rfl
  have hs : xs.length = 7 := hxs
  obtain ⟨x0, x1, x2, x3, x4, x5, x6, rfl⟩ : ∃ x0 x1 x2 x3 x4 x5 x6, xs = [x0, x1, x2, x3, x4, x5, x6] := by
    match xs, hs with
    | [x0, x1, x2, x3, x4, x5, x6], _ => exact ⟨_, _, _, _, _, _, _, rfl⟩
  obtain ⟨y0, e0, f0, w0⟩ := DataW.trod_int Tryz.underlying3 g0
  obtain ⟨y1, e1, f1, _⟩ := DataW.trod_string Tryz.underlying9 g1
  obtain ⟨y2, e2, f2, _⟩ := DataW.trod_string Tryz.underlying9 g2
  obtain ⟨A3, c3, y3, e3, r3, b3, wf3⟩ := open_values m m (Nat.le_refl _) _ _ g3
  obtain ⟨y4, e4, f4, w4⟩ := DataW.trod_int Tryz.underlying3 g4
  obtain ⟨y5, A5, c5, e5, r5, b5, wf5⟩ := open_Value _ _ _ g5
  obtain ⟨y6, e6, f6, w6⟩ := DataW.trod_int Tryz.underlying3 g6
  rw [show Tryz.prog.cellsOf 9 = 1 by kernel_rfl] at e1 e2
  rw [show Tryz.prog.cellsOf 3 = 1 by kernel_rfl] at e0 e4 e6
  rw [show Tryz.prog.cellsOf 33 = 1 by kernel_rfl] at e3
  rw [show Tryz.prog.cellsOf 35 = 6 by kernel_rfl] at e5
  have hlen : cs.length = 12 := hlen.trans (by kernel_rfl)
  obtain ⟨vk, vt, vn, vm, vx, vl⟩ := y5
  refine ⟨⟨y0, y1, y2, y3, y4, vk, vt, vn, vm, vx, vl, y6⟩, A3, c3, A5, c5, ?_, r3, r5, ?_, ?_⟩
  · unfold cells12E
    apply List.ext_getElem?
    intro j
    match j with
    | 0 => exact take1 e0
    | 1 => exact take1 e1
    | 2 => exact take1 e2
    | 3 => exact take1 e3
    | 4 => exact take1 e4
    | 5 => exact dropTake e5 (j := 0) (by omega)
    | 6 => exact dropTake e5 (j := 1) (by omega)
    | 7 => exact dropTake e5 (j := 2) (by omega)
    | 8 => exact dropTake e5 (j := 3) (by omega)
    | 9 => exact dropTake e5 (j := 4) (by omega)
    | 10 => exact dropTake e5 (j := 5) (by omega)
    | 11 => exact take1 e6
    | j + 12 => rw [List.getElem?_eq_none (by omega), List.getElem?_eq_none (by simp)]
  · show y1.size + y2.size + bulkV y3 + (V.mk vk vt vn vm vx vl).bulk ≤ _
    subst f0 f1 f2 f4 f6
    simp only [List.map_cons, List.map_nil, Rows.uptoBulk, Rows.uptoBulkAll]
    simp only [size_toList]
    omega
  · exact ⟨wf_range w0, wf_range w4, wf_range w6, wf3, wf5⟩
theorem open_slEv (fuel : Nat) (cs : List Value) (x : DataW H × List MemPlace) (h : DataW.trod enc Tryz.prog W 0 (fun _ => true) true fuel 22 cs = some x) :
    ∃ A c, ∃ l : List Ev, cs = [.slice A l.length c] ∧ Rd (Lt W.heap.size) W (slEv l) (.slice A l.length c) ∧ (l.map Ev.load).sum + 1 ≤ Rows.uptoBulk x.1 ∧ ∀ a ∈ l, a.Wf := by
  cases fuel with
  | zero => simp [DataW.trod] at h
  | succ n =>
    exact open_rows (k := 12) Tryz.underlying22 (by kernel_rfl) (by omega) Ev.row rowsEv (fun l i a h => rowsEv_get h) Ev.load Ev.Wf (fun cs x hx => by
      obtain ⟨a, A, c, C, d, rfl, h1, h2, h3, h4⟩ := open_Ev n cs x hx
      exact ⟨a, cells_rdEv h1 h2, h3, h4⟩) h
theorem load_get : ∀ (l : List Ev) (x : Ev), x ∈ l → x.load ≤ (l.map Ev.load).sum
  | [], x, h => by cases h
  | y :: r, x, h => by
    rw [List.map_cons, List.sum_cons]
    rcases List.mem_cons.1 h with rfl | h
    · omega
    · have := load_get r x h; omega
theorem load_size (x : Ev) : x.size = 16 + x.load := by unfold Ev.size Ev.load; omega
end
end Go.Proofs.YtlbmfgiepcemdaaGreat
namespace Go.Proofs.YtlbmfgiepcemdaaGreat
open Go.RowKit

section
variable {H : Type} {enc : TypeId × Value → H} {W : World}
/-- a slice of any structs, opened by what holds of each one's cells -/
theorem open_slice {t e : TypeId} {k : Nat} {fuel : Nat} {cs : List Value} {x : DataW H × List MemPlace} (ht : Tryz.prog.underlying t = some (.slice e)) (hc : Tryz.prog.cellsOf e = k) (hk : 0 < k) {α : Type} (Q : α → List Value → Prop)
    (helem : ∀ n cs x, DataW.trod enc Tryz.prog W 0 (fun _ => true) true n e cs = some x → cs.length = k ∧ ∃ a : α, Q a cs)
    (h : DataW.trod enc Tryz.prog W 0 (fun _ => true) true fuel t cs = some x) :
    ∃ A c, ∃ l : List α, cs = [.slice A l.length c] ∧ l.length ≤ 9223372036854775807 ∧ (0 < l.length → ∃ b off, A = some ⟨b, off, none⟩ ∧ Lt W.heap.size b ∧ ∀ i a, l[i]? = some a → ∃ cs', cs'.length = k ∧ Q a cs' ∧ ∀ j u, cs'[j]? = some u → W.cell? ⟨b, off + i * k + j, none⟩ = some u) := by
  rcases DataW.trod_slice ht h with ⟨rfl, rfl⟩ | ⟨a, len, cap, elems, rest, m, hm, rfl, rfl, _, hl, hcm, hel, hat, _, _⟩
  · exact ⟨none, 0, [], rfl, by simp, fun h => absurd h (by simp)⟩
  · rw [hc] at hat
    have each : ∀ i, i < len → ∃ b : α, ∃ cs', cs'.length = k ∧ Q b cs' ∧ ∀ j u, cs'[j]? = some u → W.cell? ((a.add (i * k)).add j) = some u := fun i hi => by
      have h1 := hat i hi
      have hi2 : elems[i]? = some elems[i] := List.getElem?_eq_getElem (by omega)
      rw [hi2] at h1
      obtain ⟨cs', h2, h3⟩ := Option.bind_eq_some_iff.1 h1
      obtain ⟨hl2, hce⟩ := cells_at h2
      obtain ⟨hl3, b, hb⟩ := helem m cs' _ h3
      exact ⟨b, cs', hl3, hb, hce⟩
    obtain ⟨l, hll, hlp⟩ := list_of len each
    subst hll
    refine ⟨some a, cap, l, rfl, by unfold maxLen at hcm; omega, fun hpos => ?_⟩
    have h0 : l[0]? = some l[0] := List.getElem?_eq_getElem hpos
    obtain ⟨cs', hl0, _, hu⟩ := hlp 0 _ h0
    have hu := hu 0 (cs'[0]'(by omega)) (List.getElem?_eq_getElem (by omega))
    have ha0 : (a.add (0 * k)).add 0 = a := by simp [Addr.add]
    rw [ha0] at hu
    have hsp : a.spot = none := by
      unfold World.cell? at hu
      split at hu
      · split at hu
        · cases hu
        · rename_i h; simpa using h
      · cases hu
    obtain ⟨ab, ao, asp⟩ := a
    have hsp : asp = none := hsp
    subst hsp
    refine ⟨ab, ao, rfl, World.block_lt_of_cell? W _ hu, fun i b hb => ?_⟩
    obtain ⟨cs2, h1, h2, h3⟩ := hlp i b hb
    refine ⟨cs2, h1, h2, fun j u hj => ?_⟩
    have := h3 j u hj
    rw [Addr.add_lit, Addr.add_lit] at this
    exact this
/-- a slice whose elements nobody looks at -/
theorem open_anySl {t e : TypeId} {fuel : Nat} {cs : List Value} {x : DataW H × List MemPlace} (ht : Tryz.prog.underlying t = some (.slice e)) (h : DataW.trod enc Tryz.prog W 0 (fun _ => true) true fuel t cs = some x) :
    ∃ A n c, cs = [.slice A n c] ∧ n ≤ 9223372036854775807 := by
  rcases DataW.trod_slice ht h with ⟨rfl, rfl⟩ | ⟨a, len, cap, elems, rest, m, hm, rfl, rfl, _, hl, hcm, hel, hat, _, _⟩
  · exact ⟨none, 0, 0, rfl, by simp⟩
  · exact ⟨some a, len, cap, rfl, by unfold maxLen at hcm; omega⟩
def ActQ (x : Act1) (cs : List Value) : Prop := cs[0]? = some (.string x.path) ∧ cs[2]? = some (.int .i64 x.node) ∧ cs[7]? = some (.bool x.stopped) ∧ ∃ A c, cs[8]? = some (.slice A x.mail c) ∧ x.mail ≤ 9223372036854775807
theorem open_Live (n : Nat) (cs : List Value) (x : DataW H × List MemPlace) (hx : DataW.trod enc Tryz.prog W 0 (fun _ => true) true n 49 cs = some x) : cs.length = 9 ∧ ∃ a, ActQ a cs := by
  obtain ⟨xs, m, hm, rfl, hlen, hxs, hfl⟩ := DataW.trod_struct Tryz.underlying49 hx
  have g0 : DataW.trod enc Tryz.prog W 0 (fun _ => true) true m 9 ((cs.drop 0).take (Tryz.prog.cellsOf 9)) = xs[0]? := hfl 0 _ rfl
  have g2 : DataW.trod enc Tryz.prog W 0 (fun _ => true) true m 3 ((cs.drop 2).take (Tryz.prog.cellsOf 3)) = xs[2]? := hfl 2 _ rfl
  have g7 : DataW.trod enc Tryz.prog W 0 (fun _ => true) true m 4 ((cs.drop 7).take (Tryz.prog.cellsOf 4)) = xs[7]? := hfl 7 _ rfl
  have g8 : DataW.trod enc Tryz.prog W 0 (fun _ => true) true m 47 ((cs.drop 8).take (Tryz.prog.cellsOf 47)) = xs[8]? := hfl 8 _ rfl
  have hs : xs.length = 9 := hxs
  rw [List.getElem?_eq_getElem (by omega)] at g0 g2 g7 g8
  obtain ⟨y0, e0, _, _⟩ := DataW.trod_string Tryz.underlying9 g0
  obtain ⟨y2, e2, _, _⟩ := DataW.trod_int Tryz.underlying3 g2
  obtain ⟨y7, e7, _⟩ := DataW.trod_bool Tryz.underlying4 g7
  obtain ⟨A, y8, c, e8, h8⟩ := open_anySl Tryz.underlying47 g8
  rw [show Tryz.prog.cellsOf 9 = 1 by kernel_rfl] at e0
  rw [show Tryz.prog.cellsOf 3 = 1 by kernel_rfl] at e2
  rw [show Tryz.prog.cellsOf 4 = 1 by kernel_rfl] at e7
  rw [show Tryz.prog.cellsOf 47 = 1 by kernel_rfl] at e8
  exact ⟨hlen.trans (by kernel_rfl), ⟨y0, y2, y7, y8⟩, take1 e0, take1 e2, take1 e7, A, c, take1 e8, h8⟩
def FlQ (x : Int × Int) (cs : List Value) : Prop := cs[0]? = some (.int .i64 x.1) ∧ cs[1]? = some (.int .i64 x.2)
theorem open_Flight (n : Nat) (cs : List Value) (x : DataW H × List MemPlace) (hx : DataW.trod enc Tryz.prog W 0 (fun _ => true) true n 99 cs = some x) : cs.length = 7 ∧ ∃ a, FlQ a cs := by
  obtain ⟨xs, m, hm, rfl, hlen, hxs, hfl⟩ := DataW.trod_struct Tryz.underlying99 hx
  have g0 : DataW.trod enc Tryz.prog W 0 (fun _ => true) true m 3 ((cs.drop 0).take (Tryz.prog.cellsOf 3)) = xs[0]? := hfl 0 _ rfl
  have g1 : DataW.trod enc Tryz.prog W 0 (fun _ => true) true m 3 ((cs.drop 1).take (Tryz.prog.cellsOf 3)) = xs[1]? := hfl 1 _ rfl
  have hs : 2 ≤ xs.length := by rw [hxs]; exact of_decide_eq_true (by kernel_rfl)
  rw [List.getElem?_eq_getElem (by omega)] at g0 g1
  obtain ⟨y0, e0, _, _⟩ := DataW.trod_int Tryz.underlying3 g0
  obtain ⟨y1, e1, _, _⟩ := DataW.trod_int Tryz.underlying3 g1
  rw [show Tryz.prog.cellsOf 3 = 1 by kernel_rfl] at e0 e1
  exact ⟨hlen.trans (by kernel_rfl), (y0, y1), take1 e0, take1 e1⟩
theorem open_bool1 (n : Nat) (cs : List Value) (x : DataW H × List MemPlace) (hx : DataW.trod enc Tryz.prog W 0 (fun _ => true) true n 4 cs = some x) : cs.length = 1 ∧ ∃ a : Bool, cs[0]? = some (.bool a) := by
  obtain ⟨y, e, _⟩ := DataW.trod_bool Tryz.underlying4 hx
  subst e
  exact ⟨rfl, y, rfl⟩
/-- a system -/
theorem open_System (n : Nat) (cs : List Value) (x : DataW H × List MemPlace) (hx : DataW.trod enc Tryz.prog W 0 (fun _ => true) true n 29 cs = some x) :
    ∃ s : Sys, cs = (#[.slice s.Au s.up.length s.cu, .int .i64 s.sm, .int .i64 s.sc, .int .i64 s.sq, .slice s.Aa s.acts.length s.ca, .slice s.Af s.fl.length s.cf, .slice s.Al s.nl s.cl, .slice s.Ak s.nk s.ck, .int .i64 s.sd] : Array Value).toList ∧ SysAt (Lt W.heap.size) W s ∧ ActsW (Lt W.heap.size) W s := by
  obtain ⟨xs, m, hm, rfl, hlen, hxs, hfl⟩ := DataW.trod_struct Tryz.underlying29 hx
  have g0 : DataW.trod enc Tryz.prog W 0 (fun _ => true) true m 23 ((cs.drop 0).take (Tryz.prog.cellsOf 23)) = xs[0]? := hfl 0 _ rfl
  have g1 : DataW.trod enc Tryz.prog W 0 (fun _ => true) true m 3 ((cs.drop 1).take (Tryz.prog.cellsOf 3)) = xs[1]? := hfl 1 _ rfl
  have g2 : DataW.trod enc Tryz.prog W 0 (fun _ => true) true m 3 ((cs.drop 2).take (Tryz.prog.cellsOf 3)) = xs[2]? := hfl 2 _ rfl
  have g3 : DataW.trod enc Tryz.prog W 0 (fun _ => true) true m 3 ((cs.drop 3).take (Tryz.prog.cellsOf 3)) = xs[3]? := hfl 3 _ rfl
  have g4 : DataW.trod enc Tryz.prog W 0 (fun _ => true) true m 24 ((cs.drop 4).take (Tryz.prog.cellsOf 24)) = xs[4]? := hfl 4 _ rfl
  have g5 : DataW.trod enc Tryz.prog W 0 (fun _ => true) true m 25 ((cs.drop 5).take (Tryz.prog.cellsOf 25)) = xs[5]? := hfl 5 _ rfl
  have g6 : DataW.trod enc Tryz.prog W 0 (fun _ => true) true m 26 ((cs.drop 6).take (Tryz.prog.cellsOf 26)) = xs[6]? := hfl 6 _ rfl
  have g7 : DataW.trod enc Tryz.prog W 0 (fun _ => true) true m 27 ((cs.drop 7).take (Tryz.prog.cellsOf 27)) = xs[7]? := hfl 7 _ rfl
  have g8 : DataW.trod enc Tryz.prog W 0 (fun _ => true) true m 3 ((cs.drop 8).take (Tryz.prog.cellsOf 3)) = xs[8]? := hfl 8 _ rfl
  have hs : xs.length = 9 := hxs
  rw [List.getElem?_eq_getElem (by omega)] at g0 g1 g2 g3 g4 g5 g6 g7 g8
  obtain ⟨Au, cu, up, e0, un, r0⟩ := open_slice (k := 1) Tryz.underlying23 (by kernel_rfl) (by omega) (fun (a : Bool) cs => cs[0]? = some (.bool a)) open_bool1 g0
  obtain ⟨y1, e1, _, _⟩ := DataW.trod_int Tryz.underlying3 g1
  obtain ⟨y2, e2, _, _⟩ := DataW.trod_int Tryz.underlying3 g2
  obtain ⟨y3, e3, _, _⟩ := DataW.trod_int Tryz.underlying3 g3
  obtain ⟨Aa, ca, acts, e4, _, r4⟩ := open_slice (k := 9) Tryz.underlying24 (by kernel_rfl) (by omega) ActQ open_Live g4
  obtain ⟨Af, cf, fl, e5, _, r5⟩ := open_slice (k := 7) Tryz.underlying25 (by kernel_rfl) (by omega) FlQ open_Flight g5
  obtain ⟨Al, nl, cl, e6, _⟩ := open_anySl Tryz.underlying26 g6
  obtain ⟨Ak, nk, ck, e7, _⟩ := open_anySl Tryz.underlying27 g7
  obtain ⟨y8, e8, _, _⟩ := DataW.trod_int Tryz.underlying3 g8
  rw [show Tryz.prog.cellsOf 23 = 1 by kernel_rfl] at e0
  rw [show Tryz.prog.cellsOf 3 = 1 by kernel_rfl] at e1 e2 e3 e8
  rw [show Tryz.prog.cellsOf 24 = 1 by kernel_rfl] at e4
  rw [show Tryz.prog.cellsOf 25 = 1 by kernel_rfl] at e5
  rw [show Tryz.prog.cellsOf 26 = 1 by kernel_rfl] at e6
  rw [show Tryz.prog.cellsOf 27 = 1 by kernel_rfl] at e7
  have hlen : cs.length = 9 := hlen.trans (by kernel_rfl)
  refine ⟨⟨up, Au, cu, y1, y2, y3, acts, Aa, ca, fl, Af, cf, Al, nl, cl, Ak, nk, ck, y8⟩, ?_, ⟨fun h0 => ?_, un, fun h0 => ?_, fun h0 => ?_⟩, fun h0 => ?_⟩
  · apply List.ext_getElem?
    intro j
    match j with
    | 0 => exact take1 e0
    | 1 => exact take1 e1
    | 2 => exact take1 e2
    | 3 => exact take1 e3
    | 4 => exact take1 e4
    | 5 => exact take1 e5
    | 6 => exact take1 e6
    | 7 => exact take1 e7
    | 8 => exact take1 e8
    | j + 9 => rw [List.getElem?_eq_none (by omega), List.getElem?_eq_none (by simp)]
  · obtain ⟨b, off, h1, h2, h3⟩ := r0 h0
    refine ⟨b, off, h1, h2, fun i x hi => ?_⟩
    obtain ⟨cs', _, q, h4⟩ := h3 i x hi
    have := h4 0 _ q
    rwa [Nat.mul_one, Nat.add_zero] at this
  · obtain ⟨b, off, h1, h2, h3⟩ := r4 h0
    refine ⟨b, off, h1, h2, fun i x hi => ?_⟩
    obtain ⟨cs', _, ⟨q0, q2, q7, A, c, q8, qm⟩, h4⟩ := h3 i x hi
    exact ⟨h4 0 _ q0, h4 2 _ q2, h4 7 _ q7, A, c, h4 8 _ q8, qm⟩
  · obtain ⟨b, off, h1, h2, h3⟩ := r5 h0
    refine ⟨b, off, h1, h2, fun i x hi => ?_⟩
    obtain ⟨cs', _, ⟨q0, q1⟩, h4⟩ := h3 i x hi
    exact ⟨h4 0 _ q0, h4 1 _ q1⟩
  · obtain ⟨b, off, h1, h2, h3⟩ := r4 h0
    refine ⟨b, off, h1, h2, fun i hi j hj => ?_⟩
    obtain ⟨cs', hl, _, h4⟩ := h3 i _ (List.getElem?_eq_getElem hi)
    exact ⟨_, h4 j _ (List.getElem?_eq_getElem (by omega))⟩
end
end Go.Proofs.YtlbmfgiepcemdaaGreat
