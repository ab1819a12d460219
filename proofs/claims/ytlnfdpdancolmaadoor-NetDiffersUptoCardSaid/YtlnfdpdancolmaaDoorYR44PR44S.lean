/- Plain laws on ref44.Same: equal counts tell what net.Same tells. No program here but through the imports. ref44.count and ref44.Same. Conditions: those in each statement. -/
import Derived.Test.YtlnfdpdancolmaaDoorYNetSt
import Derived.Test.YtlnfdpdancolmaaDoorYRefBRefC
import Derived.Lib.QuietBelow
namespace Go.Proofs.YtlnfdpdancolmaaDoor

/-- how many elements of l are equal to o -/
def cO (l : List Out) (o : Out) : Nat := l.countP (fun x => eqO x o)
theorem eqO_refl (o : Out) : eqO o o = true := (eqO_iff o o).2 ⟨rfl, rfl, rfl, rfl⟩
theorem eqO_left {x o : Out} (h : eqO x o = true) (p : Out) : eqO x p = eqO o p := by
  obtain ⟨h1, h2, h3, h4⟩ := (eqO_iff x o).1 h
  unfold eqO
  rw [h1, h2, h3, h4]
theorem cO_cons (x : Out) (l : List Out) (p : Out) : cO (x :: l) p = cO l p + if eqO x p then 1 else 0 := by
  unfold cO
  rw [List.countP_cons]
theorem cO_erase (o p : Out) : ∀ l : List Out, l.any (fun x => eqO x o) = true → cO (l.eraseP fun x => eqO x o) p + (if eqO o p then 1 else 0) = cO l p ∧ (l.eraseP fun x => eqO x o).length + 1 = l.length
  | [], h => by simp at h
  | x :: r, h => by
    by_cases hx : eqO x o = true
    · rw [List.eraseP_cons_of_pos (p := fun x => eqO x o) hx, cO_cons, eqO_left hx p]
      exact ⟨rfl, rfl⟩
    · rw [List.any_cons] at h
      have hx' : eqO x o = false := by simpa using hx
      rw [hx', Bool.false_or] at h
      have ih := cO_erase o p r h
      rw [List.eraseP_cons_of_neg (p := fun x => eqO x o) hx, cO_cons, cO_cons, List.length_cons, List.length_cons]
      exact ⟨by omega, by omega⟩
theorem sameS_count : ∀ (a b : List Out), sameS a b = true → a.length = b.length → ∀ p, cO a p = cO b p
  | [], b, _, hl, p => by
    have : b = [] := List.eq_nil_of_length_eq_zero (by simpa using hl.symm)
    rw [this]
  | o :: a, b, h, hl, p => by
    unfold sameS at h
    by_cases hx : b.any (fun x => eqO x o) = true
    · rw [if_pos hx] at h
      obtain ⟨h1, h2⟩ := cO_erase o p b hx
      have := sameS_count a _ h (by rw [List.length_cons] at hl; omega) p
      rw [cO_cons]; omega
    · rw [if_neg hx] at h; cases h
theorem count_sameS : ∀ (a b : List Out), (∀ o ∈ a, cO a o ≤ cO b o) → sameS a b = true
  | [], _, _ => rfl
  | o :: a, b, h => by
    have h0 := h o (List.mem_cons_self ..)
    rw [cO_cons, eqO_refl, if_pos rfl] at h0
    have hx : b.any (fun x => eqO x o) = true := by
      rw [List.any_eq_true]
      have : 0 < cO b o := by omega
      obtain ⟨x, hx1, hx2⟩ := List.countP_pos_iff.1 this
      exact ⟨x, hx1, hx2⟩
    unfold sameS
    rw [if_pos hx]
    refine count_sameS a _ fun p hp => ?_
    obtain ⟨h1, _⟩ := cO_erase o p b hx
    have := h p (List.mem_cons_of_mem _ hp)
    rw [cO_cons] at this
    omega
/-- a count that differs tells that the lists are not the same -/
theorem same_no {a b : List Out} {i : Nat} {o : Out} (_ : a[i]? = some o) (hne : cO a o ≠ cO b o) : (decide (a.length = b.length) && sameS a b) = false := by
  cases h : (decide (a.length = b.length) && sameS a b) with
  | false => rfl
  | true =>
    simp at h
    exact absurd (sameS_count a b h.2 h.1 o) hne
theorem same_yes {a b : List Out} (h : ∀ (i : Nat) (o : Out), a[i]? = some o → cO a o = cO b o) : (decide (a.length = b.length) && sameS a b) = decide (a.length = b.length) := by
  rw [count_sameS a b (fun o ho => by obtain ⟨i, hi⟩ := List.mem_iff_getElem?.1 ho; rw [h i o hi]; exact Nat.le_refl _), Bool.and_true]
theorem same_self (a : List Out) : (decide (a.length = a.length) && sameS a a) = true := by
  rw [same_yes (fun _ _ _ => rfl)]; simp
end Go.Proofs.YtlnfdpdancolmaaDoor
namespace Go.Proofs.YtlnfdpdancolmaaDoor
open Go.RowKit Go.Sort

theorem eqOT_off (x y : Out) : eqOT x y false = eqO x y := by unfold eqOT eqO; simp
theorem cO_take {l : List Out} {i : Nat} {x : Out} (h : l[i]? = some x) (o : Out) : cO (l.take (i + 1)) o = cO (l.take i) o + if eqO x o then 1 else 0 := by
  unfold cO
  rw [List.take_add_one, h, List.countP_append]
  simp [List.countP_cons]
theorem cO_le (l : List Out) (o : Out) : cO l o ≤ l.length := List.countP_le_length

set_option maxHeartbeats 4000000 in
set_option maxRecDepth 100000 in
theorem rcount_any (l : List Out) (o : Out) (A A2 : Option Addr) (n c c2 : Nat) (w : World) (hb : bulkOut l ≤ 2097152) (hbo : bulkV o.args ≤ 2097152) (hr : Rd (Lt w.heap.size) w (slOut l) (.slice A n c)) (hro : Rd (Lt w.heap.size) w (vs o.args) (.slice A2 o.args.length c2)) :
    Calls Tryd.prog 43 #[.slice A n c, .agg #[.string o.key, .string o.name, .slice A2 o.args.length c2, .bool o.part, .int .i64 o.tick]] w fun e w' => e = .returned (.int .i64 (cO l o)) ∧ Below w.heap.size w w' := by
  have hl := slOut_len hr
  have hln := bulkOut_len l
  have HL := Lib.hid hl.1
  have HR := Lib.hid hr
  have HRO := Lib.hid hro
  have hn : n ≤ 2097152 := by omega
  clear hr hro hl
  obtain ⟨W, hW⟩ : ∃ W, w.alloc (.cells #[.string o.key, .string o.name, .slice A2 o.args.length c2, .bool o.part, .int .i64 o.tick] 45) = W := ⟨_, rfl⟩
  have hbx : W.heap[w.heap.size]? = some (.cells #[.string o.key, .string o.name, .slice A2 o.args.length c2, .bool o.part, .int .i64 o.tick] 45 (0, 0)) := by rw [← hW]; exact heap_alloc_new w _
  have HBX := Lib.hid hbx
  have HWB : Hid (Below w.heap.size w W) := Lib.hid (by rw [← hW]; exact (Below.refl _ _).alloc (Nat.le_refl _) _)
  have HWZ : Hid (W.heap.size = w.heap.size + 1) := Lib.hid (by rw [← hW]; simp)
  clear hbx
  go_enter Tryd.func43, Tryd.ntmps43
  go_wp2_with fail
  clear hW
  go_loopw [5, 6] (fun s5 s6 wr => ∃ (i m : Nat), i ≤ n ∧ s6 = .int .i64 i ∧ s5 = .int .i64 m ∧ m ≤ i ∧ Hid (m = cO (l.take i) o) ∧ Hid (Below W.heap.size W wr)) (fun _ s6 _ => n - (intOf s6).toNat)
  case atStart => exact ⟨0, 0, by omega, rfl, rfl, by omega, Lib.hid (by simp [cO]), Lib.hid (Below.refl _ _)⟩
  case round =>
    obtain ⟨i, m, hi, rfl, rfl, hm, HM, HB⟩ := hrel
    have HBW := Lib.hid (HWB.out.trans (HB.out.mono (by rw [HWZ.out]; omega)))
    by_cases hlt : i < n
    · obtain ⟨b, off, x, e, hlb, hget, A3, c3, hat⟩ := slOut_at (HR.out.belows HBW.out) hlt
      subst e
      obtain ⟨p0, p1, p2, p3, p4, r3⟩ := hat
      have hbk := bulkOut_get hget
      unfold Out.bulk at hbk
      obtain ⟨R, hal⟩ : ∃ R, eqO x o = R := ⟨_, rfl⟩
      have HC : Hid (∀ W, Rd (Lt W.heap.size) W (vs x.args) (.slice A3 x.args.length c3) → Rd (Lt W.heap.size) W (vs o.args) (.slice A2 o.args.length c2) → _) := Lib.hid (fun W h1 h2 => requalO x o false A3 A2 c3 c2 W (by omega) (by omega) h1 h2)
      rw [eqOT_off, hal] at HC
      have HG : Hid (cO (l.take (i + 1)) o = m + if R then 1 else 0) := Lib.hid (by rw [cO_take hget, hal, HM.out])
      have hbox := (HB.out.block w.heap.size (by rw [HWZ.out]; omega)).trans HBX.out
      have R3 := Lib.hid r3
      have K0 := Lib.hid (fun d os => Calls.regrown_of (HC.out (grow (redrawn wr d) os) (R3.out.belows (below_regrown wr d os)) ((HRO.out.belows HBW.out).belows (below_regrown wr d os))))
      have m0 := fun d os => cell_regrown p0 d os
      have m1 := fun d os => cell_regrown p1 d os
      have m2 := fun d os => cell_regrown p2 d os
      have m3 := fun d os => cell_regrown p3 d os
      have m4 := fun d os => cell_regrown p4 d os
      have o0 : ∀ d os, (grow (redrawn wr d) os).cell? ⟨w.heap.size, 0, none⟩ = some (.string o.key) := fun d os => cell_regrown (by rw [Lib.cell_of_heap hbox]; rfl) d os
      have o1 : ∀ d os, (grow (redrawn wr d) os).cell? ⟨w.heap.size, 1, none⟩ = some (.string o.name) := fun d os => cell_regrown (by rw [Lib.cell_of_heap hbox]; rfl) d os
      have o2 : ∀ d os, (grow (redrawn wr d) os).cell? ⟨w.heap.size, 2, none⟩ = some (.slice A2 o.args.length c2) := fun d os => cell_regrown (by rw [Lib.cell_of_heap hbox]; rfl) d os
      have o3 : ∀ d os, (grow (redrawn wr d) os).cell? ⟨w.heap.size, 3, none⟩ = some (.bool o.part) := fun d os => cell_regrown (by rw [Lib.cell_of_heap hbox]; rfl) d os
      have o4 : ∀ d os, (grow (redrawn wr d) os).cell? ⟨w.heap.size, 4, none⟩ = some (.int .i64 o.tick) := fun d os => cell_regrown (by rw [Lib.cell_of_heap hbox]; rfl) d os
      clear p0 p1 p2 p3 p4 r3 hget hal hbox hbk HC
      go_wp2_with fail
      refine wp_region_quiet_below (by kernel_rfl) (by kernel_rfl) ?_
      repeat (go_big_quiet_step (first | with_reducible exact K0.out _ _))
      refine wpQuiet_nil ?_
      intro _ hw'
      obtain ⟨⟨dq, osq⟩, hw''⟩ := hw'
      subst hw''
      clear m0 m1 m2 m3 m4 o0 o1 o2 o3 o4 K0
      have hb1 := below_regrown wr dq osq
      obtain ⟨w1, hw1⟩ : ∃ w1, grow (redrawn wr dq) osq = w1 := ⟨_, rfl⟩
      rw [hw1] at hb1 ⊢
      have HB2 := Lib.hid (HB.out.trans (hb1.mono HB.out.size))
      clear hw1 hb1
      cases R with
      | false =>
        have HM2 : Hid (m = cO (l.take (i + 1)) o) := Lib.hid (by rw [HG.out]; rfl)
        go_wp2_with fail
        exact ⟨⟨i + 1, m, by omega, by go_num, rfl, by omega, HM2, HB2⟩, by simp [intOf]; omega⟩
      | true =>
        have HM2 : Hid (m + 1 = cO (l.take (i + 1)) o) := Lib.hid (by rw [HG.out]; rfl)
        go_wp2_with fail
        exact ⟨⟨i + 1, m + 1, by omega, by go_num, by go_num, by omega, HM2, HB2⟩, by simp [intOf]; omega⟩
    · obtain rfl : i = n := by omega
      go_wp2_with fail
      go_ret
      have h := HM.out
      rw [HL.out, List.take_length] at h
      exact ⟨by rw [← h]; rfl, HBW.out⟩

def RSamePost (l l' : List Out) (w : World) (e : Ending) (w' : World) : Prop := e = .returned (.bool (decide (l.length = l'.length) && sameS l l')) ∧ Below w.heap.size w w'
set_option maxHeartbeats 4000000 in
set_option maxRecDepth 100000 in
theorem rsame44_any (l l' : List Out) (A : Option Addr) (n c : Nat) (A' : Option Addr) (n' c' : Nat) (w : World) (hb : bulkOut l ≤ 2097152) (hb' : bulkOut l' ≤ 2097152) (hr : Rd (Lt w.heap.size) w (slOut l) (.slice A n c)) (hr' : Rd (Lt w.heap.size) w (slOut l') (.slice A' n' c')) :
    Calls Tryd.prog 23 #[.slice A n c, .slice A' n' c'] w (RSamePost l l' w) := by
  have hl := slOut_len hr
  have hl' := slOut_len hr'
  have hln := bulkOut_len l
  have hln' := bulkOut_len l'
  have HL := Lib.hid hl.1
  have HL' := Lib.hid hl'.1
  have HR := Lib.hid hr
  have HR' := Lib.hid hr'
  have hn : n ≤ 2097152 := by omega
  have hn' : n' ≤ 2097152 := by omega
  clear hr hr' hl hl'
  go_enter Tryd.func23, Tryd.ntmps23
  go_wp2_with fail
  go_loopw [5] (fun s5 wr => ∃ i : Nat, i ≤ n ∧ s5 = .int .i64 i ∧ Hid (∀ (j : Nat) (o : Out), j < i → l[j]? = some o → cO l o = cO l' o) ∧ Hid (Below w.heap.size w wr)) (fun s5 _ => n - (intOf s5).toNat)
  case atStart => exact ⟨0, by omega, rfl, Lib.hid (fun j o h => absurd h (by omega)), Lib.hid (Below.refl _ _)⟩
  case round =>
    obtain ⟨i, hi, rfl, HE, HB⟩ := hrel
    by_cases hlt : i < n
    · obtain ⟨b, off, x, e, hlb, hget, A3, c3, hat⟩ := slOut_at (HR.out.belows HB.out) hlt
      subst e
      obtain ⟨p0, p1, p2, p3, p4, r3⟩ := hat
      have hbk := bulkOut_get hget
      unfold Out.bulk at hbk
      have hc1 := cO_le l x
      have hc2 := cO_le l' x
      have HGET := Lib.hid hget
      have R3 := Lib.hid r3
      have K0 := Lib.hid (fun d os => Calls.regrown_of (rcount_any l x _ A3 n c c3 (grow (redrawn wr d) os) hb (by omega) ((HR.out.belows HB.out).belows (below_regrown wr d os)) (R3.out.belows (below_regrown wr d os))))
      have K1 := Lib.hid (fun d os => Calls.regrown_of (rcount_any l' x A' A3 n' c' c3 (grow (redrawn wr d) os) hb' (by omega) ((HR'.out.belows HB.out).belows (below_regrown wr d os)) (R3.out.belows (below_regrown wr d os))))
      have m0 := fun d os => cell_regrown p0 d os
      have m1 := fun d os => cell_regrown p1 d os
      have m2 := fun d os => cell_regrown p2 d os
      have m3 := fun d os => cell_regrown p3 d os
      have m4 := fun d os => cell_regrown p4 d os
      obtain ⟨z1, hz1⟩ : ∃ z, cO l x = z := ⟨_, rfl⟩
      obtain ⟨z2, hz2⟩ : ∃ z, cO l' x = z := ⟨_, rfl⟩
      rw [hz1] at K0
      rw [hz2] at K1
      have HZ := Lib.hid (And.intro hz1 hz2)
      clear p0 p1 p2 p3 p4 r3 hget hbk hc1 hc2 hz1 hz2
      go_wp2_with fail
      refine wp_region_quiet_below (by kernel_rfl) (by kernel_rfl) ?_
      repeat (go_big_quiet_step (first | with_reducible exact K0.out _ _ | with_reducible exact K1.out _ _))
      refine wpQuiet_nil ?_
      intro _ hw'
      obtain ⟨⟨dq, osq⟩, hw''⟩ := hw'
      subst hw''
      clear m0 m1 m2 m3 m4 K0 K1
      have hb1 := below_regrown wr dq osq
      obtain ⟨w1, hw1⟩ : ∃ w1, grow (redrawn wr dq) osq = w1 := ⟨_, rfl⟩
      rw [hw1] at hb1 ⊢
      have HB2 := Lib.hid (HB.out.trans (hb1.mono HB.out.size))
      clear hw1 hb1
      by_cases hzz : z1 = z2
      · have hzb : ((z1 : Int) != (z2 : Int)) = false := by simp [hzz]
        have HE2 : Hid (∀ (j : Nat) (o : Out), j < i + 1 → l[j]? = some o → cO l o = cO l' o) := Lib.hid (fun j o hj ho => by
          rcases Nat.lt_or_ge j i with h | h
          · exact HE.out j o h ho
          · obtain rfl : j = i := by omega
            rw [HGET.out] at ho
            rw [← Option.some.inj ho, HZ.out.1, HZ.out.2, hzz])
        clear hzz
        go_wp2_with fail
        exact ⟨⟨i + 1, by omega, by go_num, HE2, HB2⟩, by simp [intOf]; omega⟩
      · have hzb : ((z1 : Int) != (z2 : Int)) = true := by simp; omega
        have HN := Lib.hid (same_no HGET.out (b := l') (by rw [HZ.out.1, HZ.out.2]; exact hzz))
        clear hzz
        go_wp2_with fail
        go_ret
        exact ⟨by rw [HN.out]; rfl, HB2.out⟩
    · obtain rfl : i = n := by omega
      have HY := Lib.hid (same_yes (a := l) (b := l') (fun j o ho => HE.out j o (by have := (List.getElem?_eq_some_iff.1 ho).1; have := HL.out; omega) ho))
      go_wp2_with fail
      go_ret
      refine ⟨?_, HB.out⟩
      rw [HY.out, ← HL.out, ← HL'.out]
      show Ending.returned (.bool ((i : Int) == (n' : Int))) = _
      by_cases h : i = n'
      · subst h; simp
      · simp [h]; omega
end Go.Proofs.YtlnfdpdancolmaaDoor
