/- Arguments that read as data, opened: values, events and slices of them as plain Lean data, with how much they hold. Conditions: those in each statement. -/
import Derived.Test.YtlbmfgiepcemdaaRows
import Derived.Test.YtlbmfgiepcemdaaEvWrite
import Derived.ChangeArms
namespace Go.Proofs.Ytlbmfgiepcemdaa
open Go.RowKit

theorem list_of {α : Type} {p : Nat → α → Prop} : ∀ n : Nat, (∀ i, i < n → ∃ a, p i a) → ∃ l : List α, l.length = n ∧ ∀ i a, l[i]? = some a → p i a
  | 0, _ => ⟨[], rfl, fun i a h => by simp at h⟩
  | n + 1, h => by
    obtain ⟨l, h1, h2⟩ := list_of n (fun i hi => h i (by omega))
    obtain ⟨a, ha⟩ := h n (by omega)
    refine ⟨l ++ [a], by simp [h1], fun i b hb => ?_⟩
    rcases Nat.lt_or_ge i n with hi | hi
    · rw [List.getElem?_append_left (by omega)] at hb
      exact h2 i b hb
    · rw [List.getElem?_append_right (by omega)] at hb
      have hl := (List.getElem?_eq_some_iff.1 hb).1
      simp at hl
      obtain rfl : i = n := by omega
      rw [h1, Nat.sub_self] at hb
      simp at hb
      rw [← hb]; exact ha
theorem sum_le {α β : Type} (f : α → Nat) (g : β → Nat) : ∀ (l : List α) (m : List β), l.length = m.length → (∀ (i : Nat) (a : α) (b : β), l[i]? = some a → m[i]? = some b → f a ≤ g b) → (l.map f).sum ≤ (m.map g).sum
  | [], m, h, _ => by simp
  | a :: l, [], h, _ => by simp at h
  | a :: l, b :: m, h, hf => by
    have h1 := hf 0 a b rfl rfl
    have h2 := sum_le f g l m (by simpa using h) (fun i x y hx hy => hf (i + 1) x y (by simpa using hx) (by simpa using hy))
    simp only [List.map_cons, List.sum_cons]; omega
theorem bulkAll_sum {H : Type} : ∀ l : List (DataW H), Rows.uptoBulkAll l = (l.map Rows.uptoBulk).sum
  | [] => by simp [Rows.uptoBulkAll]
  | d :: r => by simp [Rows.uptoBulkAll, bulkAll_sum r]

def cells12E (x : Ev) (A : Option Addr) (c : Nat) (C : Option Addr) (d : Nat) : List Value := [.int .i64 x.kind, .string x.path, .string x.msg, .slice A x.args.length c, .int .i64 x.ord, .int .i64 x.vk, .string x.vt, .int .i64 x.vn, .int .i64 x.vm, .string x.vx, .slice C x.vl.length d, .int .i64 x.n]
section
variable {H : Type} {enc : TypeId × Value → H} {W : World}
/-- cells read by place -/
theorem cells_at {a : Addr} {n : Nat} {cs : List Value} (h : W.cells? 0 a n = some cs) : cs.length = n ∧ ∀ j u, cs[j]? = some u → W.cell? (a.add j) = some u := by
  obtain ⟨_, h1, h2⟩ := World.cells?_some h
  refine ⟨h1, fun j u hj => ?_⟩
  have hl : j < cs.length := (List.getElem?_eq_some_iff.1 hj).1
  rw [h2 j (by omega)]; exact hj
theorem open_rows {t e : TypeId} {k n : Nat} {cs : List Value} {x : DataW H × List MemPlace} (ht : Try.prog.underlying t = some (.slice e)) (hc : Try.prog.cellsOf e = k) (hk : 0 < k) {α : Type} (row : α → Nat → D) (rows : List α → Nat → Nat → D) (hrows : ∀ l i a, l[i]? = some a → rows l i = row a) (bulk : α → Nat) (Q : α → Prop)
    (helem : ∀ cs x, DataW.trod enc Try.prog W 0 (fun _ => true) true n e cs = some x → ∃ a : α, (∀ j u, cs[j]? = some u → Rd (Lt W.heap.size) W (row a j) u) ∧ bulk a ≤ Rows.uptoBulk x.1 ∧ Q a)
    (h : DataW.trod enc Try.prog W 0 (fun _ => true) true (n + 1) t cs = some x) :
    ∃ A c, ∃ l : List α, cs = [.slice A l.length c] ∧ Rd (Lt W.heap.size) W (.sl k l.length (rows l)) (.slice A l.length c) ∧ (l.map bulk).sum + 1 ≤ Rows.uptoBulk x.1 ∧ ∀ a ∈ l, Q a := by
  rcases DataW.trod_slice ht h with ⟨rfl, rfl⟩ | ⟨a, len, cap, elems, rest, m, hm, rfl, rfl, _, hl, hcm, hel, hat, _, _⟩
  · exact ⟨none, 0, [], rfl, Rd.sl_nil, by simp [Rows.uptoBulk], fun a ha => absurd ha (by simp)⟩
  · obtain rfl : n = m := by omega
    rw [hc] at hat
    have each : ∀ i, i < len → ∃ b : α, (∀ j, j < k → ∃ u, W.cell? ((a.add (i * k)).add j) = some u ∧ Rd (Lt W.heap.size) W (row b j) u) ∧ (∀ y, elems[i]? = some y → bulk b ≤ Rows.uptoBulk y.1) ∧ Q b := fun i hi => by
      have h1 := hat i hi
      have hi2 : elems[i]? = some elems[i] := List.getElem?_eq_getElem (by omega)
      rw [hi2] at h1
      obtain ⟨cs', h2, h3⟩ := Option.bind_eq_some_iff.1 h1
      obtain ⟨hl2, hce⟩ := cells_at h2
      obtain ⟨b, hb1, hb2, hb3⟩ := helem cs' _ h3
      refine ⟨b, fun j hj => ?_, fun y hy => ?_, hb3⟩
      · have hu : cs'[j]? = some (cs'[j]'(by omega)) := List.getElem?_eq_getElem (by omega)
        exact ⟨_, hce j _ hu, hb1 j _ hu⟩
      · rw [hi2] at hy; rw [← Option.some.inj hy]; exact hb2
    obtain ⟨l, hll, hlp⟩ := list_of len each
    subst hll
    refine ⟨some a, cap, l, rfl, ?_, ?_, fun b hb => ?_⟩
    · refine Rd.sl_mk hl (by unfold maxLen at hcm; exact hcm) fun hpos => ?_
      have h0 : l[0]? = some l[0] := List.getElem?_eq_getElem hpos
      obtain ⟨u, hu, _⟩ := (hlp 0 _ h0).1 0 hk
      have ha0 : (a.add (0 * k)).add 0 = a := by simp [Addr.add]
      rw [ha0] at hu
      have hsp : a.spot = none := by
        unfold World.cell? at hu
        split at hu
        · split at hu
          · cases hu
          · rename_i h; simpa using h
        · cases hu
      obtain ⟨ab, ao, asp⟩ := a
      have hsp : asp = none := hsp
      subst hsp
      refine ⟨ab, ao, rfl, World.block_lt_of_cell? W _ hu, fun i hi j hj => ?_⟩
      have hi2 : l[i]? = some l[i] := List.getElem?_eq_getElem hi
      obtain ⟨u, hu, hd⟩ := (hlp i _ hi2).1 j hj
      rw [Addr.add_lit, Addr.add_lit] at hu
      exact ⟨u, hu, by rw [hrows l i _ hi2]; exact hd⟩
    · have := sum_le bulk (fun y : DataW H × List MemPlace => Rows.uptoBulk y.1) l elems (by omega) (fun i b y hb hy => (hlp i b hb).2.1 y hy)
      simp only [Rows.uptoBulk, bulkAll_sum, List.map_map]
      have h2 : (elems.map (Rows.uptoBulk ∘ fun y => y.1)).sum = (elems.map fun y : DataW H × List MemPlace => Rows.uptoBulk y.1).sum := rfl
      rw [h2]; omega
    · obtain ⟨i, hi⟩ := List.mem_iff_getElem?.1 hb
      exact (hlp i b hi).2.2
theorem wf_range {n : Int} (h : (Lit.int .i64 n).wf = true) : -9223372036854775808 ≤ n ∧ n ≤ 9223372036854775807 := by
  simp [Lit.wf, IntKind.min, IntKind.max, IntKind.signed, IntKind.bits] at h
  omega
theorem bulkV_sum : ∀ l : List V, bulkV l = (l.map V.bulk).sum
  | [] => rfl
  | v :: r => by rw [bulkV_cons, bulkV_sum r]; rfl
theorem WfV_of : ∀ l : List V, (∀ v ∈ l, v.Wf) → WfV l
  | [], _ => by rw [WfV]; trivial
  | v :: r, h => by rw [WfV]; exact ⟨h v List.mem_cons_self, WfV_of r (fun v hv => h v (List.mem_cons_of_mem _ hv))⟩
theorem take1 {l : List Value} {k : Nat} {v : Value} (h : (l.drop k).take 1 = [v]) : l[k]? = some v := by
  have := congrArg (fun m => m[0]?) h
  simpa [List.getElem?_take, List.getElem?_drop] using this
/-- a slice of values -/
theorem open_values : ∀ (N fuel : Nat), fuel ≤ N → ∀ (cs : List Value) (x : DataW H × List MemPlace), DataW.trod enc Try.prog W 0 (fun _ => true) true fuel 26 cs = some x →
    ∃ A c, ∃ l : List V, cs = [.slice A l.length c] ∧ Rd (Lt W.heap.size) W (vs l) (.slice A l.length c) ∧ bulkV l + 1 ≤ Rows.uptoBulk x.1 ∧ WfV l := by
  intro N
  induction N with
  | zero =>
    intro fuel hf cs x h
    obtain rfl : fuel = 0 := by omega
    simp [DataW.trod] at h
  | succ N ih =>
    intro fuel hf cs x h
    cases fuel with
    | zero => simp [DataW.trod] at h
    | succ n =>
      obtain ⟨A, c, l, h1, h2, h3, h4⟩ := open_rows (k := 6) Try.underlying26 (by kernel_rfl) (by omega) V.row rowsV rowsV_get V.bulk V.Wf (fun cs x hx => by
        obtain ⟨xs, m, hm, rfl, hlen, hxs, hfl⟩ := DataW.trod_struct Try.underlying28 hx
        have g0 : DataW.trod enc Try.prog W 0 (fun _ => true) true m 3 ((cs.drop 0).take (Try.prog.cellsOf 3)) = xs[0]? := hfl 0 _ rfl
        have g1 : DataW.trod enc Try.prog W 0 (fun _ => true) true m 9 ((cs.drop 1).take (Try.prog.cellsOf 9)) = xs[1]? := hfl 1 _ rfl
        have g2 : DataW.trod enc Try.prog W 0 (fun _ => true) true m 3 ((cs.drop 2).take (Try.prog.cellsOf 3)) = xs[2]? := hfl 2 _ rfl
        have g3 : DataW.trod enc Try.prog W 0 (fun _ => true) true m 3 ((cs.drop 3).take (Try.prog.cellsOf 3)) = xs[3]? := hfl 3 _ rfl
        have g4 : DataW.trod enc Try.prog W 0 (fun _ => true) true m 9 ((cs.drop 4).take (Try.prog.cellsOf 9)) = xs[4]? := hfl 4 _ rfl
        have g5 : DataW.trod enc Try.prog W 0 (fun _ => true) true m 26 ((cs.drop 5).take (Try.prog.cellsOf 26)) = xs[5]? := hfl 5 _ rfl
        have hs : xs.length = 6 := hxs
        obtain ⟨x0, x1, x2, x3, x4, x5, rfl⟩ : ∃ x0 x1 x2 x3 x4 x5, xs = [x0, x1, x2, x3, x4, x5] := by
          match xs, hs with
          | [x0, x1, x2, x3, x4, x5], _ => exact ⟨_, _, _, _, _, _, rfl⟩
        have cc3 : Try.prog.cellsOf 3 = 1 := by kernel_rfl
        have cc9 : Try.prog.cellsOf 9 = 1 := by kernel_rfl
        have cc30 : Try.prog.cellsOf 26 = 1 := by kernel_rfl
        obtain ⟨kd, e0, f0, w0⟩ := DataW.trod_int Try.underlying3 g0
        obtain ⟨t, e1, f1, _⟩ := DataW.trod_string Try.underlying9 g1
        obtain ⟨n', e2, f2, w2⟩ := DataW.trod_int Try.underlying3 g2
        obtain ⟨m', e3, f3, w3⟩ := DataW.trod_int Try.underlying3 g3
        obtain ⟨s, e4, f4, _⟩ := DataW.trod_string Try.underlying9 g4
        obtain ⟨A', c', l', e5, r5, b5, wf5⟩ := ih m (by omega) _ _ g5
        rw [cc3] at e0 e2 e3
        rw [cc9] at e1 e4
        rw [cc30] at e5
        have hlen : cs.length = 6 := hlen.trans (by kernel_rfl)
        refine ⟨.mk kd t n' m' s l', fun j u hj => ?_, ?_, ?_⟩
        · refine cells_rdV r5 j u ?_
          rw [← hj]
          match j with
          | 0 => exact (take1 e0).symm
          | 1 => exact (take1 e1).symm
          | 2 => exact (take1 e2).symm
          | 3 => exact (take1 e3).symm
          | 4 => exact (take1 e4).symm
          | 5 => exact (take1 e5).symm
          | j + 6 => rw [List.getElem?_eq_none (by simp), List.getElem?_eq_none (by omega)]
        · rw [bulk_mk]
          subst f0 f1 f2 f3 f4
          simp only [List.map_cons, List.map_nil, Rows.uptoBulk, Rows.uptoBulkAll]
          simp only [size_toList]
          omega
        · rw [V.Wf]; exact ⟨wf_range w0, wf_range w2, wf_range w3, wf5⟩) h
      exact ⟨A, c, l, h1, h2, by rw [bulkV_sum]; exact h3, WfV_of l h4⟩
/-- one value -/
theorem open_Value (fuel : Nat) (cs : List Value) (x : DataW H × List MemPlace) (hx : DataW.trod enc Try.prog W 0 (fun _ => true) true fuel 28 cs = some x) :
    ∃ v : V, ∃ A c, cs = [.int .i64 v.kind, .string v.t, .int .i64 v.n, .int .i64 v.m, .string v.s, .slice A v.l.length c] ∧ Rd (Lt W.heap.size) W (vs v.l) (.slice A v.l.length c) ∧ v.bulk ≤ Rows.uptoBulk x.1 ∧ v.Wf := by
  obtain ⟨xs, m, hm, rfl, hlen, hxs, hfl⟩ := DataW.trod_struct Try.underlying28 hx
  have g0 : DataW.trod enc Try.prog W 0 (fun _ => true) true m 3 ((cs.drop 0).take (Try.prog.cellsOf 3)) = xs[0]? := hfl 0 _ rfl
  have g1 : DataW.trod enc Try.prog W 0 (fun _ => true) true m 9 ((cs.drop 1).take (Try.prog.cellsOf 9)) = xs[1]? := hfl 1 _ rfl
  have g2 : DataW.trod enc Try.prog W 0 (fun _ => true) true m 3 ((cs.drop 2).take (Try.prog.cellsOf 3)) = xs[2]? := hfl 2 _ rfl
  have g3 : DataW.trod enc Try.prog W 0 (fun _ => true) true m 3 ((cs.drop 3).take (Try.prog.cellsOf 3)) = xs[3]? := hfl 3 _ rfl
  have g4 : DataW.trod enc Try.prog W 0 (fun _ => true) true m 9 ((cs.drop 4).take (Try.prog.cellsOf 9)) = xs[4]? := hfl 4 _ rfl
  have g5 : DataW.trod enc Try.prog W 0 (fun _ => true) true m 26 ((cs.drop 5).take (Try.prog.cellsOf 26)) = xs[5]? := hfl 5 _ rfl
  have hs : xs.length = 6 := hxs
  obtain ⟨x0, x1, x2, x3, x4, x5, rfl⟩ : ∃ x0 x1 x2 x3 x4 x5, xs = [x0, x1, x2, x3, x4, x5] := by
    match xs, hs with
    | [x0, x1, x2, x3, x4, x5], _ => exact ⟨_, _, _, _, _, _, rfl⟩
  have cc3 : Try.prog.cellsOf 3 = 1 := by kernel_rfl
  have cc9 : Try.prog.cellsOf 9 = 1 := by kernel_rfl
  have cc30 : Try.prog.cellsOf 26 = 1 := by kernel_rfl
  obtain ⟨kd, e0, f0, w0⟩ := DataW.trod_int Try.underlying3 g0
  obtain ⟨t, e1, f1, _⟩ := DataW.trod_string Try.underlying9 g1
  obtain ⟨n', e2, f2, w2⟩ := DataW.trod_int Try.underlying3 g2
  obtain ⟨m', e3, f3, w3⟩ := DataW.trod_int Try.underlying3 g3
  obtain ⟨s, e4, f4, _⟩ := DataW.trod_string Try.underlying9 g4
  obtain ⟨A', c', l', e5, r5, b5, wf5⟩ := open_values m m (Nat.le_refl _) _ _ g5
  rw [cc3] at e0 e2 e3
  rw [cc9] at e1 e4
  rw [cc30] at e5
  have hlen : cs.length = 6 := hlen.trans (by kernel_rfl)
  refine ⟨.mk kd t n' m' s l', A', c', ?_, r5, ?_, ?_⟩
  · apply List.ext_getElem?
    intro j
    match j with
    | 0 => exact take1 e0
    | 1 => exact take1 e1
    | 2 => exact take1 e2
    | 3 => exact take1 e3
    | 4 => exact take1 e4
    | 5 => exact take1 e5
    | j + 6 => rw [List.getElem?_eq_none (by omega), List.getElem?_eq_none (by simp)]
  · rw [bulk_mk]
    subst f0 f1 f2 f3 f4
    simp only [List.map_cons, List.map_nil, Rows.uptoBulk, Rows.uptoBulkAll]
    simp only [size_toList]
    omega
  · rw [V.Wf]; exact ⟨wf_range w0, wf_range w2, wf_range w3, wf5⟩
theorem dropTake {l : List Value} {k n : Nat} {m : List Value} (h : (l.drop k).take n = m) {j : Nat} (hj : j < n) : l[k + j]? = m[j]? := by
  rw [← h, List.getElem?_take, if_pos hj, List.getElem?_drop]
/-- what an event holds, as the bound counts it -/
def Ev.load (x : Ev) : Nat := x.path.size + x.msg.size + bulkV x.args + x.val.bulk
theorem open_Ev (fuel : Nat) (cs : List Value) (x : DataW H × List MemPlace) (hx : DataW.trod enc Try.prog W 0 (fun _ => true) true fuel 30 cs = some x) :
    ∃ a : Ev, ∃ A c C d, cs = cells12E a A c C d ∧ Rd (Lt W.heap.size) W (vs a.args) (.slice A a.args.length c) ∧ Rd (Lt W.heap.size) W (vs a.vl) (.slice C a.vl.length d) ∧ a.load ≤ Rows.uptoBulk x.1 ∧ a.Wf := by
  obtain ⟨xs, m, hm, rfl, hlen, hxs, hfl⟩ := DataW.trod_struct Try.underlying30 hx
  have g0 : DataW.trod enc Try.prog W 0 (fun _ => true) true m 3 ((cs.drop 0).take (Try.prog.cellsOf 3)) = xs[0]? := hfl 0 _ rfl
  have g1 : DataW.trod enc Try.prog W 0 (fun _ => true) true m 9 ((cs.drop 1).take (Try.prog.cellsOf 9)) = xs[1]? := hfl 1 _ rfl
  have g2 : DataW.trod enc Try.prog W 0 (fun _ => true) true m 9 ((cs.drop 2).take (Try.prog.cellsOf 9)) = xs[2]? := hfl 2 _ rfl
  have g3 : DataW.trod enc Try.prog W 0 (fun _ => true) true m 26 ((cs.drop 3).take (Try.prog.cellsOf 26)) = xs[3]? := hfl 3 _ rfl
  have g4 : DataW.trod enc Try.prog W 0 (fun _ => true) true m 3 ((cs.drop 4).take (Try.prog.cellsOf 3)) = xs[4]? := hfl 4 _ rfl
  have g5 : DataW.trod enc Try.prog W 0 (fun _ => true) true m 28 ((cs.drop 5).take (Try.prog.cellsOf 28)) = xs[5]? := hfl 5 _ rfl
  have g6 : DataW.trod enc Try.prog W 0 (fun _ => true) true m 3 ((cs.drop 11).take (Try.prog.cellsOf 3)) = xs[6]? := hfl 6 _ rfl
  have hs : xs.length = 7 := hxs
  obtain ⟨x0, x1, x2, x3, x4, x5, x6, rfl⟩ : ∃ x0 x1 x2 x3 x4 x5 x6, xs = [x0, x1, x2, x3, x4, x5, x6] := by
    match xs, hs with
    | [x0, x1, x2, x3, x4, x5, x6], _ => exact ⟨_, _, _, _, _, _, _, rfl⟩
  obtain ⟨y0, e0, f0, w0⟩ := DataW.trod_int Try.underlying3 g0
  obtain ⟨y1, e1, f1, _⟩ := DataW.trod_string Try.underlying9 g1
  obtain ⟨y2, e2, f2, _⟩ := DataW.trod_string Try.underlying9 g2
  obtain ⟨A3, c3, y3, e3, r3, b3, wf3⟩ := open_values m m (Nat.le_refl _) _ _ g3
  obtain ⟨y4, e4, f4, w4⟩ := DataW.trod_int Try.underlying3 g4
  obtain ⟨y5, A5, c5, e5, r5, b5, wf5⟩ := open_Value _ _ _ g5
  obtain ⟨y6, e6, f6, w6⟩ := DataW.trod_int Try.underlying3 g6
  rw [show Try.prog.cellsOf 9 = 1 by kernel_rfl] at e1 e2
  rw [show Try.prog.cellsOf 3 = 1 by kernel_rfl] at e0 e4 e6
  rw [show Try.prog.cellsOf 26 = 1 by kernel_rfl] at e3
  rw [show Try.prog.cellsOf 28 = 6 by kernel_rfl] at e5
  have hlen : cs.length = 12 := hlen.trans (by kernel_rfl)
  obtain ⟨vk, vt, vn, vm, vx, vl⟩ := y5
  refine ⟨⟨y0, y1, y2, y3, y4, vk, vt, vn, vm, vx, vl, y6⟩, A3, c3, A5, c5, ?_, r3, r5, ?_, ?_⟩
  · unfold cells12E
    apply List.ext_getElem?
    intro j
    match j with
    | 0 => exact take1 e0
    | 1 => exact take1 e1
    | 2 => exact take1 e2
    | 3 => exact take1 e3
    | 4 => exact take1 e4
    | 5 => exact dropTake e5 (j := 0) (by omega)
    | 6 => exact dropTake e5 (j := 1) (by omega)
    | 7 => exact dropTake e5 (j := 2) (by omega)
    | 8 => exact dropTake e5 (j := 3) (by omega)
    | 9 => exact dropTake e5 (j := 4) (by omega)
    | 10 => exact dropTake e5 (j := 5) (by omega)
    | 11 => exact take1 e6
    | j + 12 => rw [List.getElem?_eq_none (by omega), List.getElem?_eq_none (by simp)]
  · show y1.size + y2.size + bulkV y3 + (V.mk vk vt vn vm vx vl).bulk ≤ _
    subst f0 f1 f2 f4 f6
    simp only [List.map_cons, List.map_nil, Rows.uptoBulk, Rows.uptoBulkAll]
    simp only [size_toList]
    omega
  · exact ⟨wf_range w0, wf_range w4, wf_range w6, wf3, wf5⟩
theorem open_slEv (fuel : Nat) (cs : List Value) (x : DataW H × List MemPlace) (h : DataW.trod enc Try.prog W 0 (fun _ => true) true fuel 22 cs = some x) :
    ∃ A c, ∃ l : List Ev, cs = [.slice A l.length c] ∧ Rd (Lt W.heap.size) W (slEv l) (.slice A l.length c) ∧ (l.map Ev.load).sum + 1 ≤ Rows.uptoBulk x.1 ∧ ∀ a ∈ l, a.Wf := by
  cases fuel with
  | zero => simp [DataW.trod] at h
  | succ n =>
    exact open_rows (k := 12) Try.underlying22 (by kernel_rfl) (by omega) Ev.row rowsEv (fun l i a h => rowsEv_get h) Ev.load Ev.Wf (fun cs x hx => by
      obtain ⟨a, A, c, C, d, rfl, h1, h2, h3, h4⟩ := open_Ev n cs x hx
      exact ⟨a, cells_rdEv h1 h2, h3, h4⟩) h
theorem load_get : ∀ (l : List Ev) (x : Ev), x ∈ l → x.load ≤ (l.map Ev.load).sum
  | [], x, h => by cases h
  | y :: r, x, h => by
    rw [List.map_cons, List.sum_cons]
    rcases List.mem_cons.1 h with rfl | h
    · omega
    · have := load_get r x h; omega
theorem load_size (x : Ev) : x.size = 16 + x.load := by unfold Ev.size Ev.load; omega
end
end Go.Proofs.Ytlbmfgiepcemdaa
