/- Plain law: forced steps and ticks behind a list of events add few bytes. No walk here. A whole slice of events appended to an empty row of the call's own. Conditions: those in each statement. A map from uint32 to int whose values lie below a bound: what look-up, store and delete do. No program here. press.index in memory; its methods key, advance and longest. Conditions: those in each statement. -/
import Derived.Test.YtlbmfgiepcemdaaYLawEvB
import Derived.Deep.Upon
import Derived.Test.YtlbmfgiepcemdaaMem
import Derived.MapKept
import Derived.Carry
import Derived.Test.YtlbmfgiepcemdaaRdrT
import Derived.Lib.QuietBelow
namespace Go.Proofs.Ytlbmfgiepcemdaa

theorem numB_two {n : Nat} (h : n < 16384) : (numB n).size ≤ 2 := by
  unfold numB
  rw [strOfNums_size, numI]
  split
  · simp
  · rw [numI, if_pos (by omega)]; simp
theorem spanE_app (y : Ev) : ∀ t r : List Ev, spanE y (t ++ r) = if spanE y t = t.length then t.length + spanE y r else spanE y t
  | [], r => by simp [spanE]
  | x :: t, r => by
    rw [List.cons_append, spanE, spanE, spanE_app y t r]
    by_cases hj : joins y x = true
    · rw [if_pos hj, if_pos hj]
      by_cases hs : spanE y t = t.length
      · rw [if_pos hs, if_pos (by rw [hs, List.length_cons]), List.length_cons]; omega
      · rw [if_neg hs, if_neg (by rw [List.length_cons]; omega)]
    · rw [if_neg hj, if_neg hj, if_neg (by rw [List.length_cons]; omega)]
theorem spanE_rep (y x : Ev) : ∀ n, spanE y (List.replicate n x) = if joins y x then n else 0
  | 0 => by simp [spanE]
  | n + 1 => by
    rw [List.replicate_succ, spanE, spanE_rep y x n]
    by_cases hj : joins y x = true
    · simp [hj]
    · simp [hj]
theorem groupB_kind {y : Ev} (hg : groupedE y = true) {k : Nat} (hk : k < 16384) : (groupB y k).length ≤ 3 ∧ 2 ≤ (groupB y k).length := by
  have h1 := numB_two hk
  have h2 := numB_pos k
  have h3 : (numB 3).size = 1 := rfl
  have h4 : (numB 0).size = 1 := rfl
  unfold groupB
  by_cases h : (y.kind == 3) = true
  · rw [if_pos h, size_toList, ByteArray.size_append]; omega
  · rw [if_neg h, if_pos hg, size_toList, ByteArray.size_append]; omega
theorem joins_grouped {y x : Ev} (h : joins y x = true) : groupedE y = true := by
  unfold joins at h
  simp only [Bool.and_eq_true] at h
  exact h.1.1
theorem runs_nil (F : Nat) : runsE F [] = [] := by cases F <;> rfl
theorem count_rep (x : Ev) (hx : joins x x = true) (n : Nat) : ∀ (F : Nat) (l : List Ev), l.length + n ≤ F → l.length + n < 16384 → (groupsE (runsE F (l ++ List.replicate n x))).length ≤ (groupsE (runsE F l)).length + 3
  | F, [], hF, hn => by
    cases n with
    | zero => simp
    | succ m =>
      obtain ⟨F', rfl⟩ : ∃ F', F = F' + 1 := ⟨F - 1, by omega⟩
      have e : runsE (F' + 1) ([] ++ List.replicate (m + 1) x) = [(x, m + 1)] := by
        rw [List.nil_append, List.replicate_succ, runsE, spanE_rep, if_pos hx, List.drop_of_length_le (by simp), runs_nil]
      rw [e, runs_nil]
      have := (groupB_kind (joins_grouped hx) (k := m + 1) (by simp at hn; omega)).1
      show (groupB x (m + 1) ++ []).length ≤ 0 + 3
      rw [List.append_nil]; omega
  | 0, y :: t, hF, _ => by simp at hF
  | F + 1, y :: t, hF, hn => by
    rw [List.length_cons] at hF hn
    have hs := spanE_le y t
    have eL : groupsE (runsE (F + 1) (y :: t)) = groupB y (spanE y t + 1) ++ groupsE (runsE F (t.drop (spanE y t))) := rfl
    have eR : groupsE (runsE (F + 1) (y :: t ++ List.replicate n x)) = groupB y (spanE y (t ++ List.replicate n x) + 1) ++ groupsE (runsE F ((t ++ List.replicate n x).drop (spanE y (t ++ List.replicate n x)))) := rfl
    rw [eL, eR, spanE_app, spanE_rep, List.length_append, List.length_append]
    by_cases hst : spanE y t = t.length
    · rw [if_pos hst]
      by_cases hj : joins y x = true
      · rw [if_pos hj, List.drop_of_length_le (by simp), runs_nil]
        have h1 := (groupB_kind (joins_grouped hj) (k := t.length + n + 1) (by omega)).1
        have h2 := (groupB_kind (joins_grouped hj) (k := spanE y t + 1) (by omega)).2
        show (groupB y (t.length + n + 1)).length + 0 ≤ _
        omega
      · have e0 : t.length + (if joins y x = true then n else 0) = t.length := by rw [if_neg hj]; rfl
        rw [e0, hst, List.drop_append_of_le_length (Nat.le_refl _), List.drop_length]
        have := count_rep x hx n F [] (by simp; omega) (by simp; omega)
        omega
    · rw [if_neg hst, List.drop_append_of_le_length hs]
      have hd : (t.drop (spanE y t)).length = t.length - spanE y t := List.length_drop
      have := count_rep x hx n F (t.drop (spanE y t)) (by omega) (by omega)
      omega
theorem runs_fuel : ∀ (F : Nat) (l : List Ev), l.length ≤ F → runsE F l = runsE l.length l
  | F, [], _ => by rw [runs_nil, runs_nil]
  | 0, y :: t, h => by simp at h
  | F + 1, y :: t, h => by
    rw [List.length_cons] at h ⊢
    have hd : (t.drop (spanE y t)).length = t.length - spanE y t := List.length_drop
    rw [runsE, runsE, runs_fuel F (t.drop (spanE y t)) (by omega), runs_fuel t.length (t.drop (spanE y t)) (by omega)]
def stepE0 : Ev := evN 2 0
def tickE0 : Ev := evN 3 0
def moreE (l : List Ev) (a b : Nat) : List Ev := l ++ List.replicate a stepE0 ++ List.replicate b tickE0
theorem right_step0 : rightE stepE0 = true := by kernel_rfl
theorem right_tick0 : rightE tickE0 = true := by kernel_rfl
theorem moreE_right {l : List Ev} {a b : Nat} (h : l.all rightE = true) : ∀ x ∈ moreE l a b, rightE x = true := by
  intro x hx
  unfold moreE at hx
  rcases List.mem_append.1 hx with hx | hx
  · rcases List.mem_append.1 hx with hx | hx
    · exact List.all_eq_true.1 h x hx
    · rw [List.eq_of_mem_replicate hx]; exact right_step0
  · rw [List.eq_of_mem_replicate hx]; exact right_tick0
theorem moreE_len (l : List Ev) (a b : Nat) : (moreE l a b).length = l.length + a + b := by unfold moreE; simp; omega
theorem moreE_fine {l : List Ev} {a b : Nat} (h : FineL l) : FineL (moreE l a b) := by
  have hs : ∀ k, FineL (List.replicate k stepE0) := fun k x hx => by
    rw [List.eq_of_mem_replicate hx]; exact ⟨size_n 2 0, wf_n 2 0 (by omega) (by omega) (by omega) (by omega)⟩
  have ht : ∀ k, FineL (List.replicate k tickE0) := fun k x hx => by
    rw [List.eq_of_mem_replicate hx]; exact ⟨size_n 3 0, wf_n 3 0 (by omega) (by omega) (by omega) (by omega)⟩
  exact (h.append (hs a)).append (ht b)
theorem bytesE_size {l : List Ev} (hl : l.length ≤ 1048576) (h : l.all rightE = true) : (bytesE l).size = (numB l.length).size + (groupsE (runsE l.length l)).length := by
  unfold bytesE
  rw [if_neg (by omega), if_pos h]
  show ((numB l.length).data.toList ++ groupsE (runsE l.length l)).toArray.size = _
  rw [List.size_toArray, List.length_append, size_toList]
/-- AT MOST TWELVE BYTES MORE -/
theorem more_bytes {l : List Ev} {a b : Nat} (hl : l.length ≤ 200) (ha : a ≤ 2000) (hb : b ≤ 2000) (h : l.all rightE = true) : (bytesE (moreE l a b)).size ≤ (bytesE l).size + 12 := by
  have hm : (moreE l a b).all rightE = true := List.all_eq_true.2 (moreE_right h)
  have hlen := moreE_len l a b
  rw [bytesE_size (by omega) hm, bytesE_size (by omega) h]
  have h1 := numB_two (n := (moreE l a b).length) (by omega)
  have h2 := numB_pos l.length
  have e1 : (l ++ List.replicate a stepE0).length = l.length + a := by simp
  have h3 := count_rep tickE0 rfl b (moreE l a b).length (l ++ List.replicate a stepE0) (by omega) (by omega)
  have h4 := count_rep stepE0 rfl a (moreE l a b).length l (by omega) (by omega)
  rw [runs_fuel (moreE l a b).length l (by omega)] at h4
  have h5 : groupsE (runsE (moreE l a b).length (moreE l a b)) = groupsE (runsE (moreE l a b).length (l ++ List.replicate a stepE0 ++ List.replicate b tickE0)) := rfl
  rw [h5]
  omega
end Go.Proofs.Ytlbmfgiepcemdaa
namespace Go.Proofs.Ytlbmfgiepcemdaa
open Go.RowKit

theorem flat12_len {α : Type} (f : α → List Value) (hf : ∀ a, (f a).length = 12) : ∀ zs : List α, (zs.flatMap f).length = zs.length * 12
  | [] => rfl
  | z :: zs => by rw [List.flatMap_cons, List.length_append, hf, flat12_len f hf zs, List.length_cons]; omega
theorem flat12 {α : Type} (f : α → List Value) (hf : ∀ a, (f a).length = 12) : ∀ (zs : List α) (i j : Nat), j < 12 → (zs.flatMap f)[i * 12 + j]? = (zs[i]?).bind fun a => (f a)[j]?
  | [], i, j, _ => by simp
  | z :: zs, 0, j, hj => by
    rw [List.flatMap_cons, Nat.zero_mul, Nat.zero_add, List.getElem?_append_left (by rw [hf]; exact hj)]; rfl
  | z :: zs, i + 1, j, hj => by
    rw [List.flatMap_cons, List.getElem?_append_right (by rw [hf]; omega), hf, show (i + 1) * 12 + j - 12 = i * 12 + j by omega, flat12 f hf zs i j hj]; rfl
def cellsA (a : EvA) : List Value := cells12 a.x a.A a.c a.C a.d
theorem cellsA_len (a : EvA) : (cellsA a).length = 12 := rfl
theorem wp_append_evs {w : World} {ops : Array Oper} {rest : List Oper} {o : Oper} {a : Act} {Q : Exit → Act → World → Prop} (hgd : o.guard = none) (s x : Operand)
    (ho : o.op = .call { callee := .builtin .append, args := #[s, x], argTypes := #[22, 22] })
    (B0 : Nat) (hB : B0 ≤ w.heap.size) (h0 : Nat) (hh0 : B0 ≤ h0) (hcell : CellsAt w h0 #[] 30) (hs : a.eval s = .slice (some ⟨h0, 0, none⟩) 0 0)
    (l : List Ev) (A : Option Addr) (c : Nat) (hx : a.eval x = .slice A l.length c) (hr : Rd (Lt B0) w (slEv l) (.slice A l.length c)) (hlen : l.length ≤ 1048576)
    (h : ∀ v' w', Owned 0 30 12 l.length (rowsEv l) w' v' → (∀ q, v'.ownBlock = some q → B0 ≤ q) → Below B0 w w' → wpList Try.prog ops Q rest (a.put o.dst v') w') : wpList Try.prog ops Q (o :: rest) a w := by
  obtain ⟨i0, hi0, hz0, hz1, hz2⟩ := info_parts infoE12
  by_cases hl0 : l.length = 0
  · have hl : l = [] := List.eq_nil_of_length_eq_zero hl0
    subst hl
    have hsr : Src Try.prog i0.size 22 (.slice A 0 c) 0 [] w := by
      cases A with
      | none => exact Src.ofNil w Try.underlying22 c
      | some p => exact Src.ofSlice w Try.underlying22 p 0 c [] (by simp) (fun j u hu => by simp at hu) (fun u hu => by simp at hu)
    have hrun := run_append_nothing (P := Try.prog) w 22 22 o.type 30 i0 Try.underlying22 hi0 (some ⟨h0, 0, none⟩) 0 0 (Nat.le_refl _) _ hsr
    have hx0 : a.eval x = .slice A 0 c := hx
    refine wpList_plain hgd fun K hK => ?_
    unfold Oper.wp
    simp [execOp, ho, resolve, invoke, builtin, hs, hx0, hrun, Result.andThen]
    exact hK _ _ (h _ w (.inr ⟨h0, 0, rfl, by omega, by omega, by omega, ⟨#[], hcell, rfl⟩, fun k hk => absurd hk (by simp)⟩) (fun q hq => by have : h0 = q := Option.some.inj hq; omega) (Below.refl _ _))
  · obtain ⟨A0, c0, e, hnc, hcm, h3⟩ := hr.sl_inv
    injection e with e1 _ e3
    subst e1 e3
    obtain ⟨b, off, rfl, hb, hrow⟩ := h3 (by omega)
    obtain ⟨zs, hmap, hat⟩ := evAs_of (ok := Lt B0) (w := w) (b := b) (off := off) l 0 (fun i y hy => by
      have hi := (List.getElem?_eq_some_iff.1 hy).1
      have h1 := hrow i hi
      rw [rowsEv_get hy] at h1
      rw [Nat.zero_add]
      exact EvAt_of_row h1)
    have hzl : zs.length = l.length := by rw [← hmap, List.length_map]
    have hnl := flat12_len cellsA cellsA_len zs
    have hown : w.ownsRow 0 30 12 (.slice (some ⟨h0, 0, none⟩) 0 0) 0 [] := ⟨rfl, .inr ⟨h0, 0, #[], rfl, by omega, hcell, by omega, by unfold maxLen; omega, rfl, rfl⟩⟩
    have hcells : ∀ (j : Nat) (u : Value), (zs.flatMap cellsA)[j]? = some u → w.cell? ((⟨b, off, none⟩ : Addr).add j) = some u := fun j u hj => by
      have e : (j / 12) * 12 + j % 12 = j := by omega
      rw [← e, flat12 cellsA cellsA_len zs _ _ (Nat.mod_lt _ (by omega))] at hj
      obtain ⟨z, hz, hj2⟩ := Option.bind_eq_some_iff.1 hj
      obtain ⟨p0, p1, p2, p3, p4, p5, p6, p7, p8, p9, p10, p11, _, _⟩ := hat (j / 12) z hz
      rw [Addr.add_lit, show off + j = off + (0 + j / 12) * 12 + j % 12 by omega]
      generalize j % 12 = q at hj2 ⊢
      unfold cellsA cells12 at hj2
      match q with
      | 0 => simp at hj2; subst hj2; exact p0
      | 1 => simp at hj2; subst hj2; exact p1
      | 2 => simp at hj2; subst hj2; exact p2
      | 3 => simp at hj2; subst hj2; exact p3
      | 4 => simp at hj2; subst hj2; exact p4
      | 5 => simp at hj2; subst hj2; exact p5
      | 6 => simp at hj2; subst hj2; exact p6
      | 7 => simp at hj2; subst hj2; exact p7
      | 8 => simp at hj2; subst hj2; exact p8
      | 9 => simp at hj2; subst hj2; exact p9
      | 10 => simp at hj2; subst hj2; exact p10
      | 11 => simp at hj2; subst hj2; exact p11
      | q + 12 => simp at hj2
    refine wpList_append_lies w hgd s x 22 ho 0 30 i0 _ 12 160 Try.underlying22 hi0 hz0 hz1 hz2 rfl (by omega) (.slice (some ⟨h0, 0, none⟩) 0 0) 0 [] hs hown ⟨b, off, none⟩ l.length c (zs.flatMap cellsA) hx (by rw [hnl, hzl]) hcells (fun u hu => ?_) (by omega) (by unfold maxLen; omega) (by omega) (by omega) w.heap.size rfl ?_
    · obtain ⟨z, _, hu⟩ := List.mem_flatMap.1 hu
      exact cells12_one z.x z.A z.c z.C z.d u hu
    intro g cap w' h2 h3' h4 _
    rw [Nat.zero_add, List.nil_append] at h2
    rw [Nat.zero_add]
    have hgB : B0 ≤ g := by
      rcases h4 with h4 | h4
      · have : h0 = g := Option.some.inj h4
        omega
      · omega
    have hob : ∀ q, (Value.slice (some ⟨h0, 0, none⟩) 0 0).ownBlock = some q → B0 ≤ q := fun q hq => by have : h0 = q := Option.some.inj hq; omega
    refine h _ w' ?_ (fun q hq => by have : g = q := Option.some.inj hq; omega) ((Below.refl _ _).grown h3' hB hob)
    rcases h2.2 with ⟨hv, _⟩ | ⟨g', cap', cur, hv, _, hcur, hnc', hcm', hsz, _⟩
    · injection hv with hv; cases hv
    injection hv with hv1 _ hv3
    injection hv1 with hv1
    injection hv1 with hv1
    subst hv1 hv3
    refine .inr ⟨g, cap, rfl, by omega, hnc', hcm', ⟨cur, hcur, hsz⟩, fun k hk j hj => ?_⟩
    have hzk : zs[k]? = some zs[k] := List.getElem?_eq_getElem (by omega)
    obtain ⟨z, hz⟩ : ∃ z, zs[k]'(by omega) = z := ⟨_, rfl⟩
    rw [hz] at hzk
    have hlk : l[k]? = some z.x := by
      have := congrArg (fun m => m[k]?) hmap
      simp only [List.getElem?_map, hzk, Option.map_some] at this
      exact this.symm
    have hu : (zs.flatMap cellsA)[k * 12 + j]? = some ((cellsA z)[j]'(by rw [cellsA_len]; exact hj)) := by
      rw [flat12 cellsA cellsA_len zs k j hj, hzk, Option.bind_some]; exact List.getElem?_eq_getElem _
    have hc1 := h2.cells (g := g) rfl _ _ hu
    rw [Addr.add_lit, Nat.zero_add] at hc1
    refine ⟨_, hc1, ?_⟩
    rw [rowsEv_get hlk]
    obtain ⟨_, _, _, _, _, _, _, _, _, _, _, _, r3, r10⟩ := hat k _ hzk
    have keep : ∀ {d : D} {u : Value}, Rd (Lt B0) w d u → Rd (fun q => Bt 0 w'.heap.size q ∧ q ≠ g) w' d u := fun hd =>
      (hd.keep (fun q o hq => World.cell?_of_block (h3'.block q (Nat.lt_of_lt_of_le hq hB) (fun e => by have := hob q e.symm; have : q < B0 := hq; omega)))).weaken (fun q hq => ⟨⟨by omega, Nat.lt_of_lt_of_le hq (Nat.le_trans hB h3'.size)⟩, fun e => by have : q < B0 := hq; omega⟩)
    exact cells_rdEv (keep r3) (keep r10) j _ (List.getElem?_eq_getElem _)
end Go.Proofs.Ytlbmfgiepcemdaa
namespace Go.Proofs.Ytlbmfgiepcemdaa
open Go.RowKit Go.MapKept

def EntN (N : Int) (e : MapEntry) : Prop := ∃ k v : Int, e.key = .int .u32 k ∧ e.val = .int .i64 v ∧ 0 ≤ v ∧ v < N
/-- block m is a map from uint32 to int, every value from 0 on and below N -/
def MapN (w : World) (m : Nat) (N : Int) : Prop := ∃ es clock, w.heap[m]? = some (.map es clock) ∧ ∀ e ∈ es.toList, EntN N e
theorem MapN.lt {w : World} {m : Nat} {N : Int} (h : MapN w m N) : m < w.heap.size := by
  obtain ⟨es, clock, h, _⟩ := h
  exact (Array.getElem?_eq_some_iff.1 h).1
theorem MapN.keep {w w' : World} {m : Nat} {N : Int} (h : MapN w m N) (hk : w'.heap[m]? = w.heap[m]?) : MapN w' m N := by
  obtain ⟨es, clock, h, h2⟩ := h
  exact ⟨es, clock, hk.trans h, h2⟩
theorem MapN.mono {w : World} {m : Nat} {N M : Int} (h : MapN w m N) (hM : N ≤ M) : MapN w m M := by
  obtain ⟨es, clock, h, h2⟩ := h
  refine ⟨es, clock, h, fun e he => ?_⟩
  obtain ⟨k, v, h3, h4, h5, h6⟩ := h2 e he
  exact ⟨k, v, h3, h4, h5, by omega⟩
theorem MapN.new (w : World) (N : Int) : MapN (w.alloc (.map #[] 0)) w.heap.size N := ⟨#[], 0, heap_alloc_new w _, fun e he => by simp at he⟩
theorem findNow_u (k N : Int) : ∀ (es : List MapEntry) (i : Nat), (∀ e ∈ es, EntN N e) → Instr.findNow (.int .u32) (.int .u32 k) es i = some none ∨ ∃ j e, Instr.findNow (.int .u32) (.int .u32 k) es i = some (some (i + j, e.val)) ∧ es[j]? = some e ∧ e.key = .int .u32 k
  | [], i, _ => .inl rfl
  | e :: es, i, h => by
    obtain ⟨k', v, h1, h2, _⟩ := h e List.mem_cons_self
    rw [Instr.findNow, h1]
    by_cases hk : k = k'
    · subst hk
      refine .inr ⟨0, e, by simp [Instr.sameNow], rfl, h1⟩
    · have hb : (k == k') = false := by rw [beq_eq_false_iff_ne]; exact hk
      rcases findNow_u k N es (i + 1) (fun x hx => h x (List.mem_cons_of_mem _ hx)) with h3 | ⟨j, x, h3, h4, h5⟩
      · exact .inl (by simp [Instr.sameNow, hb, h3])
      · exact .inr ⟨j + 1, x, by simp [Instr.sameNow, hb, h3]; omega, by simpa using h4, h5⟩
section
variable {P : Program} {T K E : TypeId} (hT : P.underlying T = some (.map K E)) (hK : P.underlying K = some (.int .u32))
include hT hK
theorem lookup_n {w : World} {m : Nat} {N : Int} (h : MapN w m N) (hz : (zeroValue E).run P w = .ok (.int .i64 0) w) (k : Int) :
    (∃ v : Int, 0 ≤ v ∧ v < N ∧ (Instr.lookup T (.map (some m)) (.int .u32 k) false).run P w = .ok (.int .i64 v) w ∧ (Instr.lookup T (.map (some m)) (.int .u32 k) true).run P w = .ok (.tuple #[.int .i64 v, .bool true]) w) ∨
      ((Instr.lookup T (.map (some m)) (.int .u32 k) false).run P w = .ok (.int .i64 0) w ∧ (Instr.lookup T (.map (some m)) (.int .u32 k) true).run P w = .ok (.tuple #[.int .i64 0, .bool false]) w) := by
  obtain ⟨es, clock, hb, he⟩ := h
  have hck : ∀ b, (Instr.checkKey b 10000 K (.int .u32 k)).run P w = .ok () w := fun b => run_checkKey (P := P) (w := w) hK (k := .int .u32 k) (by simp [IsKey]) b 9999
  rcases findNow_u k N es.toList 0 he with hf | ⟨j, e, hf, hj, _⟩
  · have hfk := run_findKey (P := P) (w := w) hK hf
    exact .inr ⟨by simp [Instr.lookup, run_underlying hT, MapKept.run_getObj_map hb, hck, hfk, hz], by simp [Instr.lookup, run_underlying hT, MapKept.run_getObj_map hb, hck, hfk, hz]⟩
  · have hfk := run_findKey (P := P) (w := w) hK hf
    obtain ⟨k', v, h1, h2, h3, h4⟩ := he e (List.mem_of_getElem? hj)
    rw [h2] at hfk
    exact .inl ⟨v, h3, h4, by simp [Instr.lookup, run_underlying hT, MapKept.run_getObj_map hb, hck, hfk], by simp [Instr.lookup, run_underlying hT, MapKept.run_getObj_map hb, hck, hfk]⟩
theorem lookup_dn {w : World} {m : Nat} {N : Int} (h : MapN w m N) (hz : ∀ W, (zeroValue E).run P W = .ok (.int .i64 0) W) (k : Int) :
    (∃ v : Int, 0 ≤ v ∧ v < N ∧ ∀ n, (Instr.lookup T (.map (some m)) (.int .u32 k) true).run P (w.drewN n) = .ok (.tuple #[.int .i64 v, .bool true]) (w.drewN n)) ∨
      (∀ n, (Instr.lookup T (.map (some m)) (.int .u32 k) true).run P (w.drewN n) = .ok (.tuple #[.int .i64 0, .bool false]) (w.drewN n)) := by
  obtain ⟨es, clock, hb, he⟩ := h
  have hb' : ∀ n, (w.drewN n).heap[m]? = some (.map es clock) := fun _ => hb
  have hck : ∀ b (W : World), (Instr.checkKey b 10000 K (.int .u32 k)).run P W = .ok () W := fun b W => run_checkKey (P := P) (w := W) hK (k := .int .u32 k) (by simp [IsKey]) b 9999
  rcases findNow_u k N es.toList 0 he with hf | ⟨j, e, hf, hj, _⟩
  · exact .inr fun n => by
      have hfk := run_findKey (P := P) (w := w.drewN n) hK hf
      simp [Instr.lookup, run_underlying hT, MapKept.run_getObj_map (hb' n), hck, hfk, hz]
  · obtain ⟨k', v, h1, h2, h3, h4⟩ := he e (List.mem_of_getElem? hj)
    refine .inl ⟨v, h3, h4, fun n => ?_⟩
    have hfk := run_findKey (P := P) (w := w.drewN n) hK hf
    rw [h2] at hfk
    simp [Instr.lookup, run_underlying hT, MapKept.run_getObj_map (hb' n), hck, hfk]
theorem update_n {w : World} {m : Nat} {N : Int} (h : MapN w m N) (k v : Int) (h0 : 0 ≤ v) (h1 : v < N) :
    ∃ w', (Instr.mapUpdate T (.map (some m)) (.int .u32 k) (.int .i64 v)).run P w = .ok () w' ∧ MapN w' m N ∧ w.grownBy w' (some m) ∧ w'.heap.size = w.heap.size := by
  obtain ⟨es, clock, hb, he⟩ := h
  have hck : ∀ b, (Instr.checkKey b 10000 K (.int .u32 k)).run P w = .ok () w := fun b => run_checkKey (P := P) (w := w) hK (k := .int .u32 k) (by simp [IsKey]) b 9999
  have hgr : ∀ o : Obj, w.grownBy { w with heap := w.heap.setIfInBounds m o } (some m) := fun o =>
    ⟨rfl, rfl, rfl, by simp, fun j _ hj => (heap_set hb).2 j (fun e => hj (by rw [e]))⟩
  rcases findNow_u k N es.toList 0 he with hf | ⟨j, e, hf, hj, hke⟩
  · have hfk := run_findKey (P := P) (w := w) hK hf
    refine ⟨{ w with heap := w.heap.setIfInBounds m (.map (es.push ⟨.int .u32 k, .int .i64 v, clock⟩) (clock + 1)) }, ?_, ⟨_, _, (heap_set hb).1, ?_⟩, hgr _, by simp⟩
    · simp [Instr.mapUpdate, run_underlying hT, MapKept.run_getObj_map hb, hck, hfk, MapKept.run_setObj_map _ hb]
    · intro x hx
      simp at hx
      rcases hx with hx | rfl
      · exact he x (by simpa using hx)
      · exact ⟨k, v, rfl, rfl, h0, h1⟩
  · have hfk := run_findKey (P := P) (w := w) hK hf
    rw [Nat.zero_add] at hfk
    have hje : es[j]? = some e := by simpa using hj
    have hjl : j < es.size := (Array.getElem?_eq_some_iff.1 hje).1
    have hje2 : es[j] = e := (Array.getElem?_eq_some_iff.1 hje).2
    refine ⟨{ w with heap := w.heap.setIfInBounds m (.map (es.modify j fun e => { e with key := .int .u32 k, val := .int .i64 v }) clock) }, ?_, ⟨_, _, (heap_set hb).1, ?_⟩, hgr _, by simp⟩
    · simp [Instr.mapUpdate, run_underlying hT, MapKept.run_getObj_map hb, hck, hfk, MapKept.run_setObj_map _ hb, Instr.keyThatStays, hje2, hjl, hke, Instr.sameBits]
    · intro x hx
      obtain ⟨i, hi⟩ := List.mem_iff_getElem?.1 hx
      rw [Array.getElem?_toList, Array.getElem?_modify] at hi
      by_cases hij : j = i
      · subst hij
        rw [if_pos rfl, hje] at hi
        simp at hi
        subst hi
        exact ⟨k, v, rfl, rfl, h0, h1⟩
      · rw [if_neg hij] at hi
        exact he x (by rw [Array.mem_toList_iff]; exact Array.mem_of_getElem? hi)
theorem delete_n {w : World} {m : Nat} {N : Int} (h : MapN w m N) (k : Int) (ty K' : TypeId) :
    ∃ w', (Builtin.delete_ #[T, K'] ty #[.map (some m), .int .u32 k]).run P w = .ok (.tuple #[]) w' ∧ MapN w' m N ∧ w.grownBy w' (some m) ∧ w'.heap.size = w.heap.size := by
  obtain ⟨es, clock, hb, he⟩ := h
  have hck : ∀ b, (Instr.checkKey b 10000 K (.int .u32 k)).run P w = .ok () w := fun b => run_checkKey (P := P) (w := w) hK (k := .int .u32 k) (by simp [IsKey]) b 9999
  have hgr : ∀ o : Obj, w.grownBy { w with heap := w.heap.setIfInBounds m o } (some m) := fun o =>
    ⟨rfl, rfl, rfl, by simp, fun j _ hj => (heap_set hb).2 j (fun e => hj (by rw [e]))⟩
  rcases findNow_u k N es.toList 0 he with hf | ⟨j, e, hf, hj, hke⟩
  · have hfk := run_findKey (P := P) (w := w) hK hf
    refine ⟨{ w with heap := w.heap.setIfInBounds m (.map es clock) }, ?_, ⟨_, _, (heap_set hb).1, he⟩, hgr _, by simp⟩
    simp [Builtin.delete_, run_underlying hT, MapKept.run_getObj_map hb, hck, hfk, MapKept.run_setObj_map _ hb]
  · have hfk := run_findKey (P := P) (w := w) hK hf
    rw [Nat.zero_add] at hfk
    refine ⟨{ w with heap := w.heap.setIfInBounds m (.map (es.eraseIdxIfInBounds j) clock) }, ?_, ⟨_, _, (heap_set hb).1, ?_⟩, hgr _, by simp⟩
    · simp [Builtin.delete_, run_underlying hT, MapKept.run_getObj_map hb, hck, hfk, MapKept.run_setObj_map _ hb]
    · intro x hx
      refine he x ?_
      rw [Array.eraseIdxIfInBounds] at hx
      split at hx
      · rw [Array.toList_eraseIdx] at hx
        exact List.mem_of_mem_eraseIdx hx
      · exact hx
end
end Go.Proofs.Ytlbmfgiepcemdaa
namespace Go.Proofs.Ytlbmfgiepcemdaa
open Go.RowKit Go.Sort

/-- block b holds an index over s whose map is block m, N offsets entered -/
structure IxAt (W : World) (b m : Nat) (s : ByteArray) (N : Nat) (arr : Array Value) (pv : Nat → Int) : Prop where
  blk : W.heap[b]? = some (.cells arr 84 (0, 0))
  size : arr.size = 4099
  c0 : arr[0]? = some (.string s)
  c1 : arr[1]? = some (.map (some m))
  cn : arr[4098]? = some (.int .i64 N)
  cp : ∀ j, j < 4096 → arr[2 + j]? = some (.int .i64 (pv j))
  lo : ∀ o, o < N → N ≤ o + 4096 → -1 ≤ pv (o % 4096) ∧ pv (o % 4096) < o
  mp : MapN W m N
  ne : b ≠ m
section
variable {W W' : World} {b m : Nat} {s : ByteArray} {N : Nat} {arr : Array Value} {pv : Nat → Int}
theorem IxAt.cell (h : IxAt W b m s N arr pv) (j : Nat) : W.cell? ⟨b, j, none⟩ = arr[j]? := Lib.cell_of_heap h.blk j
theorem IxAt.fz (h : IxAt W b m s N arr pv) (j : Nat) : W.frozen? ⟨b, j, none⟩ = false := by simp [World.frozen?, h.blk]
theorem IxAt.blt (h : IxAt W b m s N arr pv) : b < W.heap.size := (Array.getElem?_eq_some_iff.1 h.blk).1
theorem IxAt.same (h : IxAt W b m s N arr pv) (hb : W'.heap[b]? = W.heap[b]?) (hm : W'.heap[m]? = W.heap[m]?) : IxAt W' b m s N arr pv :=
  ⟨hb.trans h.blk, h.size, h.c0, h.c1, h.cn, h.cp, h.lo, h.mp.keep hm, h.ne⟩
theorem IxAt.drewN (h : IxAt W b m s N arr pv) (n : Nat) : IxAt (W.drewN n) b m s N arr pv := h.same rfl rfl
theorem IxAt.chg {M : Nat → Prop} (h : IxAt W b m s N arr pv) (hc : Chg M W W') (h1 : ¬ M b) (h2 : ¬ M m) : IxAt W' b m s N arr pv := h.same (hc.block b h.blt h1) (hc.block m h.mp.lt h2)
/-- the map's block alone has turned -/
theorem IxAt.map (h : IxAt W b m s N arr pv) (hm : MapN W' m N) (hg : W.grownBy W' (some m)) : IxAt W' b m s N arr pv :=
  ⟨(hg.block b h.blt (fun e => h.ne (Option.some.inj e))).trans h.blk, h.size, h.c0, h.c1, h.cn, h.cp, h.lo, hm, h.ne⟩
/-- the next offset entered -/
theorem IxAt.push (h : IxAt W b m s N arr pv) {p : Int} (h0 : -1 ≤ p) (h1 : p < N) {W2 : World} (hm : MapN W2 m (N + 1 : Nat)) (hg : ((W.setCell ⟨b, 2 + N % 4096, none⟩ (.int .i64 p)).grownBy W2 (some m))) :
    ∃ arr' pv', IxAt (W2.setCell ⟨b, 4098, none⟩ (.int .i64 (N + 1 : Nat))) b m s (N + 1) arr' pv' := by
  have hz := h.size
  have hN : 2 + N % 4096 < arr.size := by omega
  have e1 : (W.setCell ⟨b, 2 + N % 4096, none⟩ (.int .i64 p)).heap[b]? = some (.cells (arr.setIfInBounds (2 + N % 4096) (.int .i64 p)) 84 (0, 0)) := by simp [World.setCell, Array.getElem?_modify, h.blk]
  have e2 : W2.heap[b]? = some (.cells (arr.setIfInBounds (2 + N % 4096) (.int .i64 p)) 84 (0, 0)) := (hg.block b (by rw [size_setCell]; exact h.blt) (fun e => h.ne (Option.some.inj e))).trans e1
  refine ⟨(arr.setIfInBounds (2 + N % 4096) (.int .i64 p)).setIfInBounds 4098 (.int .i64 (N + 1 : Nat)), fun j => if j = N % 4096 then p else pv j, ?_, by simp [hz], ?_, ?_, ?_, ?_, ?_, ?_, h.ne⟩
  · simp [World.setCell, Array.getElem?_modify, e2]
  · rw [Array.getElem?_setIfInBounds_ne (by omega), Array.getElem?_setIfInBounds_ne (by omega)]; exact h.c0
  · rw [Array.getElem?_setIfInBounds_ne (by omega), Array.getElem?_setIfInBounds_ne (by omega)]; exact h.c1
  · rw [Array.getElem?_setIfInBounds_self_of_lt (by simp [hz])]
  · intro j hj
    rw [Array.getElem?_setIfInBounds_ne (by omega)]
    by_cases hjN : j = N % 4096
    · subst hjN
      rw [Array.getElem?_setIfInBounds_self_of_lt hN, if_pos rfl]
    · rw [Array.getElem?_setIfInBounds_ne (by omega), if_neg hjN]; exact h.cp j hj
  · intro o ho1 ho2
    by_cases hoN : o = N
    · subst hoN
      rw [if_pos rfl]; exact ⟨h0, h1⟩
    · rw [if_neg (by omega)]; exact h.lo o (by omega) (by omega)
  · exact hm.keep (Below.heap_setCell _ _ _ _ (fun e => h.ne e.symm))
end
def keyT (t : ByteArray) : Int := bits .or .u32 (bits .or .u32 (bits .or .u32 (byteAt t 0) (byteAt t 1 * 256)) (byteAt t 2 * 65536)) (byteAt t 3 * 16777216)
def keyN (s : ByteArray) (i : Nat) : Int := keyT (s.extract i (i + 4))
set_option maxHeartbeats 1000000 in
set_option maxRecDepth 100000 in
theorem key_any (s : ByteArray) (b : Nat) (i : Nat) (w : World) (hc : w.cell? ⟨b, 0, none⟩ = some (.string s)) (hi : i + 4 ≤ s.size) (hs : s.size ≤ 16777216) : Calls Try.prog 51 #[.pointer (some ⟨b, 0, none⟩), .int .i64 i] w fun e w' => e = .returned (.int .u32 (keyN s i)) ∧ ∃ n, w' = w.drewN n := by
  unfold keyN
  have h1 : (i : Int) + 4 ≤ s.size := by omega
  have hx : (s.extract i (i + 4)).size = 4 := by rw [ByteArray.size_extract]; omega
  obtain ⟨t, ht⟩ : ∃ t, s.extract i (i + 4) = t := ⟨_, rfl⟩
  rw [ht] at hx ⊢
  unfold keyT
  have i0 : ∀ W : World, (Instr.index 9 (.string t) (.int .i64 0)).run Try.prog W = .ok (.int .u8 (byteAt t 0)) W := fun W => by simpa using index_str t 0 (by omega) W
  obtain ⟨hb0, hc0⟩ := byteAt_range t 0
  generalize byteAt t 0 = x0 at *
  have i1 : ∀ W : World, (Instr.index 9 (.string t) (.int .i64 1)).run Try.prog W = .ok (.int .u8 (byteAt t 1)) W := fun W => by simpa using index_str t 1 (by omega) W
  obtain ⟨hb1, hc1⟩ := byteAt_range t 1
  generalize byteAt t 1 = x1 at *
  have i2 : ∀ W : World, (Instr.index 9 (.string t) (.int .i64 2)).run Try.prog W = .ok (.int .u8 (byteAt t 2)) W := fun W => by simpa using index_str t 2 (by omega) W
  obtain ⟨hb2, hc2⟩ := byteAt_range t 2
  generalize byteAt t 2 = x2 at *
  have i3 : ∀ W : World, (Instr.index 9 (.string t) (.int .i64 3)).run Try.prog W = .ok (.int .u8 (byteAt t 3)) W := fun W => by simpa using index_str t 3 (by omega) W
  obtain ⟨hb3, hc3⟩ := byteAt_range t 3
  generalize byteAt t 3 = x3 at *
  have ht0 : (0 : Int) < t.size := by omega
  have ht1 : (1 : Int) < t.size := by omega
  have ht2 : (2 : Int) < t.size := by omega
  have ht3 : (3 : Int) < t.size := by omega
  clear hx
  go_enter Try.func51, Try.ntmps51
  go_wp2_with fail
  go_quiet (fail)
  go_wp2_with fail
  go_ret
  exact ⟨rfl, _, rfl⟩
end Go.Proofs.Ytlbmfgiepcemdaa
