/- A map from channels to bool: a set of channels. Conditions: those in each statement. The comparison of channels, and slices.SortFunc by it. Conditions: those in each statement. sched.channels: the distinct channels in order. Conditions: those in each statement. -/
import Derived.Test.YtlbmfgiepcemdaaGreatYEnabledCopies
import Derived.Laws.StructEq
import Derived.MapKept
import Derived.Carry
import Derived.WideKeyRuns
import Derived.Test.YtlbmfgiepcemdaaGreatYSrtChNilSmE
import Derived.Shelf.SlSortCmp.WholeK
import Derived.Deep.RegionHeld3
import Derived.Test.YtlbmfgiepcemdaaGreatYR20PR20R
namespace Go.Proofs.YtlbmfgiepcemdaaGreat
open Go.RowKit Go.MapKept

def chK (c : Int × Int) : Value := .agg #[.int .i64 c.1, .int .i64 c.2]
theorem part_ch (xs : Array Value) (i : Nat) (v : Value) (h : xs[i]? = some v) (w : World) : (part 3 xs i).run Tryz.prog w = .ok v w := by
  simp [part, Tryz.isAgg3, Tryz.sizeOf3, h]
theorem eq_chD (a b : Int × Int) (w : World) (d : Nat) : (Op.equalIn (d + 2) 95 (chK a) (chK b)).run Tryz.prog w = .ok (decide (a = b)) w := by
  have hu := Tryz.underlying95
  have hi := Tryz.underlying3
  have ht : Tryz.prog.underlying 95 = some (.struct (Tryz.prog.fieldsOf 95)) := by unfold Program.fieldsOf; rw [hu]
  unfold chK
  rw [run_equalIn_struct w (d + 1) 95 _ _ ht (by kernel_rfl)]
  unfold Program.fieldsOf
  rw [hu]
  simp [go_sem, hi, Op.eqFields]
  obtain ⟨a1, a2⟩ := a
  obtain ⟨b1, b2⟩ := b
  dsimp only
  by_cases h1 : a1 = b1
  · by_cases h2 : a2 = b2
    · simp [h1, h2]
    · simp [h1, h2]
  · simp [h1]
theorem eq_ch (a b : Int × Int) (w : World) : (Op.equal 95 (chK a) (chK b)).run Tryz.prog w = .ok (decide (a = b)) w := eq_chD a b w 9998
theorem check_chD (a : Int × Int) (em : Bool) (w : World) (d : Nat) : (Instr.checkKey em (d + 2) 95 (chK a)).run Tryz.prog w = .ok () w := by
  unfold chK
  have p0 := fun W => part_ch #[.int .i64 a.1, .int .i64 a.2] 0 _ rfl W
  have p1 := fun W => part_ch #[.int .i64 a.1, .int .i64 a.2] 1 _ rfl W
  simp [Instr.checkKey, run_underlying Tryz.underlying95, run_underlying Tryz.underlying3, p0, p1]
theorem check_ch (a : Int × Int) (em : Bool) (w : World) : (Instr.checkKey em 10000 95 (chK a)).run Tryz.prog w = .ok () w := check_chD a em w 9998
theorem chK_inj {a b : Int × Int} (h : chK a = chK b) : a = b := by
  unfold chK at h
  obtain ⟨a1, a2⟩ := a
  obtain ⟨b1, b2⟩ := b
  simp at h
  rw [h.1, h.2]
theorem find_ch (c : Int × Int) (w : World) : ∀ (es : List MapEntry) (i : Nat), (∀ e ∈ es, ∃ k, e.key = chK k) →
    ((Instr.findAsking 95 (chK c) es i).run Tryz.prog w = .ok none w ∧ ∀ e ∈ es, e.key ≠ chK c) ∨ ∃ j e, (Instr.findAsking 95 (chK c) es i).run Tryz.prog w = .ok (some (i + j, e.val)) w ∧ es[j]? = some e ∧ e.key = chK c
  | [], i, _ => .inl ⟨by simp [Instr.findAsking], fun e h => by cases h⟩
  | e :: es, i, h => by
    obtain ⟨k, hk⟩ := h e List.mem_cons_self
    have he := eq_ch c k w
    by_cases hck : c = k
    · subst hck
      refine .inr ⟨0, e, ?_, rfl, hk⟩
      simp [Instr.findAsking, hk, he]
    · rcases find_ch c w es (i + 1) (fun x hx => h x (List.mem_cons_of_mem _ hx)) with ⟨h1, h2⟩ | ⟨j, x, h1, h2, h3⟩
      · refine .inl ⟨?_, fun x hx => ?_⟩
        · simp [Instr.findAsking, hk, he, hck, h1]
        · rcases List.mem_cons.1 hx with rfl | hx
          · rw [hk]; exact fun e => hck (chK_inj e).symm
          · exact h2 x hx
      · refine .inr ⟨j + 1, x, ?_, by simpa using h2, h3⟩
        have e1 : i + 1 + j = i + (j + 1) := by omega
        simp [Instr.findAsking, hk, he, hck, h1, e1]
/-- block m is the set S -/
def MapC (w : World) (m : Nat) (S : List (Int × Int)) : Prop := ∃ es clock, w.heap[m]? = some (.map es clock) ∧ (∀ e ∈ es.toList, ∃ k, k ∈ S ∧ e.key = chK k ∧ e.val = .bool true) ∧ ∀ k, k ∈ S → ∃ e, e ∈ es.toList ∧ e.key = chK k
theorem MapC.lt {w : World} {m : Nat} {S : List (Int × Int)} (h : MapC w m S) : m < w.heap.size := by
  obtain ⟨es, clock, h, _⟩ := h
  exact (Array.getElem?_eq_some_iff.1 h).1
theorem MapC.keep {w w' : World} {m : Nat} {S : List (Int × Int)} (h : MapC w m S) (hk : w'.heap[m]? = w.heap[m]?) : MapC w' m S := by
  obtain ⟨es, clock, h, h2⟩ := h
  exact ⟨es, clock, hk.trans h, h2⟩
theorem MapC.new (w : World) : MapC (w.alloc (.map #[] 0)) w.heap.size [] := ⟨#[], 0, heap_alloc_new w _, fun e he => by simp at he, fun k hk => by cases hk⟩
theorem findKey_ch {w : World} (c : Int × Int) (es : List MapEntry) : (Instr.findKey 95 (chK c) es).run Tryz.prog w = (Instr.findAsking 95 (chK c) es).run Tryz.prog w :=
  run_findKey_eq w (by rw [Tryz.underlying95]) _ _
theorem lookup_c {w : World} {m : Nat} {S : List (Int × Int)} (h : MapC w m S) (c : Int × Int) : (Instr.lookup 114 (.map (some m)) (chK c) false).run Tryz.prog w = .ok (.bool (decide (c ∈ S))) w := by
  obtain ⟨es, clock, hb, h1, h2⟩ := h
  have hck := fun em => check_ch c em w
  have hz := Tryz.zeroValue4
  have hT := Tryz.underlying114
  have hfk := findKey_ch (w := w) c es.toList
  rcases find_ch c w es.toList 0 (fun e he => by obtain ⟨k, _, hk, _⟩ := h1 e he; exact ⟨k, hk⟩) with ⟨h3, h4⟩ | ⟨j, e, h3, h4, h5⟩
  · have hn : ¬ c ∈ S := fun hc => by
      obtain ⟨e, he, hk⟩ := h2 c hc
      exact h4 e he hk
    simp [Instr.lookup, run_underlying hT, MapKept.run_getObj_map hb, hck, hfk, h3, hz, hn]
  · obtain ⟨k, hk1, hk2, hk3⟩ := h1 e (List.mem_of_getElem? h4)
    have hc : c ∈ S := by rw [chK_inj (h5.symm.trans hk2)]; exact hk1
    simp [Instr.lookup, run_underlying hT, MapKept.run_getObj_map hb, hck, hfk, h3, hk3, hc]
theorem update_c {w : World} {m : Nat} {S : List (Int × Int)} (h : MapC w m S) (c : Int × Int) (hc : ¬ c ∈ S) :
    ∃ w', (Instr.mapUpdate 114 (.map (some m)) (chK c) (.bool true)).run Tryz.prog w = .ok () w' ∧ MapC w' m (S ++ [c]) ∧ w.grownBy w' (some m) ∧ w'.heap.size = w.heap.size := by
  obtain ⟨es, clock, hb, h1, h2⟩ := h
  have hck := fun em => check_ch c em w
  have hT := Tryz.underlying114
  have hfk := findKey_ch (w := w) c es.toList
  have hgr : ∀ o : Obj, w.grownBy { w with heap := w.heap.setIfInBounds m o } (some m) := fun o =>
    ⟨rfl, rfl, rfl, by simp, fun j _ hj => (heap_set hb).2 j (fun e => hj (by rw [e]))⟩
  rcases find_ch c w es.toList 0 (fun e he => by obtain ⟨k, _, hk, _⟩ := h1 e he; exact ⟨k, hk⟩) with ⟨h3, h4⟩ | ⟨j, e, h3, h4, h5⟩
  · refine ⟨{ w with heap := w.heap.setIfInBounds m (.map (es.push ⟨chK c, .bool true, clock⟩) (clock + 1)) }, ?_, ⟨_, _, (heap_set hb).1, ?_, ?_⟩, hgr _, by simp⟩
    · simp [Instr.mapUpdate, run_underlying hT, MapKept.run_getObj_map hb, hck, hfk, h3, MapKept.run_setObj_map _ hb]
    · intro x hx
      simp at hx
      rcases hx with hx | rfl
      · obtain ⟨k, k1, k2, k3⟩ := h1 x (by simpa using hx)
        exact ⟨k, List.mem_append_left _ k1, k2, k3⟩
      · exact ⟨c, by simp, rfl, rfl⟩
    · intro k hk
      rcases List.mem_append.1 hk with hk | hk
      · obtain ⟨e, he, hk⟩ := h2 k hk
        exact ⟨e, by simp; exact .inl (by simpa using he), hk⟩
      · obtain rfl := List.mem_singleton.1 hk
        exact ⟨⟨chK k, .bool true, clock⟩, by simp, rfl⟩
  · obtain ⟨k, hk1, hk2, _⟩ := h1 e (List.mem_of_getElem? h4)
    exact absurd (by rw [chK_inj (h5.symm.trans hk2)]; exact hk1) hc
end Go.Proofs.YtlbmfgiepcemdaaGreat
namespace Go.Proofs.YtlbmfgiepcemdaaGreat
open Go.RowKit Go.Lib Go.Sort Go.Shelf

set_option maxHeartbeats 1000000 in
theorem or2_any (x y : Int) (b : Nat) (w : World) (h0 : w.cell? ⟨b, 0, none⟩ = some (.int .i64 x)) (h1 : w.cell? ⟨b, 1, none⟩ = some (.int .i64 y)) :
    Calls Tryz.prog 81 #[.slice (some ⟨b, 0, none⟩) 2 2] w fun e w' => e = .returned (.int .i64 (if x = 0 then y else x)) ∧ w' = w := by
  by_cases hx : x = 0
  · have hxn : (x != 0) = false := by simp [hx]
    rw [if_pos hx]
    by_cases hy : y = 0
    · have hyn : (y != 0) = false := by simp [hy]
      have HY : Hid (y = 0) := Lib.hid hy
      clear hx hy
      go_enter Tryz.func81, Tryz.ntmps81
      go_wp2_with fail
      refine wp_loop_rounds 3 ?_
      rw [rounds_succ]
      go_wp2_with fail
      rw [rounds_succ]
      go_wp2_with fail
      rw [rounds_succ]
      go_wp2_with fail
      go_ret
      exact ⟨by rw [HY.out]; rfl, rfl⟩
    · have hyn : (y != 0) = true := by rw [bne_iff_ne]; exact hy
      clear hx hy
      go_enter Tryz.func81, Tryz.ntmps81
      go_wp2_with fail
      refine wp_loop_rounds 2 ?_
      rw [rounds_succ]
      go_wp2_with fail
      rw [rounds_succ]
      go_wp2_with fail
      go_ret
      exact ⟨rfl, rfl⟩
  · have hxn : (x != 0) = true := by rw [bne_iff_ne]; exact hx
    rw [if_neg hx]
    clear hx
    go_enter Tryz.func81, Tryz.ntmps81
    go_wp2_with fail
    refine wp_loop_rounds 1 ?_
    rw [rounds_succ]
    go_wp2_with fail
    go_ret
    exact ⟨rfl, rfl⟩
theorem drew_grow (W : World) (os : Array Obj) : (grow W os).drew = grow W.drew os := rfl
def encC (c : Int × Int) : List Value := [.int .i64 c.1, .int .i64 c.2]
def cfC (x y : Int × Int) : Int := if Lib.compareInt x.1 y.1 = 0 then Lib.compareInt x.2 y.2 else Lib.compareInt x.1 y.1
set_option maxHeartbeats 400000 in
set_option maxRecDepth 100000 in
theorem closure_ch (x y : Int × Int) (W : World) : Calls Tryz.prog 80 #[.agg #[.int .i64 x.1, .int .i64 x.2], .agg #[.int .i64 y.1, .int .i64 y.2]] W fun e w' => e = .returned (.int .i64 (cfC x y)) ∧ ∃ q os', w' = grow (W.drewN q) os' := by
  have hc1 := fun W' => AnyG.cmp_Compare_int Tryz.cmpInt x.1 y.1 W'
  have hc2 := fun W' => AnyG.cmp_Compare_int Tryz.cmpInt x.2 y.2 W'
  change ∀ W', Calls Tryz.prog 82 _ _ _ at hc1
  change ∀ W', Calls Tryz.prog 82 _ _ _ at hc2
  unfold cfC
  generalize Lib.compareInt x.1 y.1 = r1 at hc1 ⊢
  generalize Lib.compareInt x.2 y.2 = r2 at hc2 ⊢
  obtain ⟨x1, x2⟩ := x
  obtain ⟨y1, y2⟩ := y
  dsimp only at hc1 hc2 ⊢
  have hor := fun b w => or2_any r1 r2 b w
  generalize (if r1 = 0 then r2 else r1) = R at hor ⊢
  have HOR := Lib.hid hor
  clear hor
  go_enter Tryz.func80, Tryz.ntmps80
  go_wp2_with fail
  obtain ⟨W2, hW2⟩ : ∃ W2, (W.alloc (.cells #[.int .i64 x1, .int .i64 x2] 95)).alloc (.cells #[.int .i64 y1, .int .i64 y2] 95) = W2 := ⟨_, rfl⟩
  have hz : W2.heap.size = W.heap.size + 2 := by rw [← hW2]; simp
  have z0 : W2.cell? ⟨W.heap.size, 0, none⟩ = some (.int .i64 x1) := by rw [← hW2]; simp
  have z1 : W2.cell? ⟨W.heap.size, 1, none⟩ = some (.int .i64 x2) := by rw [← hW2]; simp
  have z2 : W2.cell? ⟨W.heap.size + 1, 0, none⟩ = some (.int .i64 y1) := by rw [← hW2]; simp
  have z3 : W2.cell? ⟨W.heap.size + 1, 1, none⟩ = some (.int .i64 y2) := by rw [← hW2]; simp
  have HEQ : Hid (∀ o : Obj, ∃ q os', (W2.alloc o).drew = grow (W.drewN q) os') := Lib.hid (fun o => ⟨1, _, by rw [← hW2, alloc_eq_grow W, alloc_eq_grow (grow W _), grow_grow, alloc_eq_grow, grow_grow, drew_grow]; rfl⟩)
  have n0 : (W2.alloc (.cells #[.int .i64 r1, .int .i64 r2] 3)).cell? ⟨W.heap.size + 2, 0, none⟩ = some (.int .i64 r1) := by rw [← hz]; simp
  have n1 : (W2.alloc (.cells #[.int .i64 r1, .int .i64 r2] 3)).cell? ⟨W.heap.size + 2, 1, none⟩ = some (.int .i64 r2) := by rw [← hz]; simp
  have HC1 := Lib.hid hc1
  have HC2 := Lib.hid hc2
  clear hc1 hc2
  rw [hW2]
  clear hW2
  go_region_held3 (fun w' => w'.cell? ⟨W.heap.size, 0, none⟩ = some (.int .i64 x1) ∧ w'.cell? ⟨W.heap.size, 1, none⟩ = some (.int .i64 x2) ∧ w'.cell? ⟨W.heap.size + 1, 0, none⟩ = some (.int .i64 y1) ∧ w'.cell? ⟨W.heap.size + 1, 1, none⟩ = some (.int .i64 y2))
    (first | go_keep)
    (first
      | (go_at_call 82; (with_reducible refine (HC1.out _).mono ?_); rintro e w' ⟨rfl, rfl⟩)
      | (go_at_call 82; (with_reducible refine (HC2.out _).mono ?_); rintro e w' ⟨rfl, rfl⟩)
      | (go_at_call 81; go_loud ((with_reducible refine (HOR.out _ _ (by simpa using n0) (by simpa using n1)).mono ?_); rintro e w' ⟨rfl, rfl⟩)))
  go_wp2_with fail
  go_ret
  exact ⟨rfl, HEQ.out _⟩
theorem ltOf_c (x y : Int × Int) : ltOf cfC x y = decide (x.1 < y.1 ∨ x.1 = y.1 ∧ x.2 < y.2) := by
  obtain ⟨a, b⟩ := x
  obtain ⟨c, d⟩ := y
  unfold ltOf cfC Lib.compareInt
  dsimp only
  by_cases h1 : a < c
  · simp [h1]
  · by_cases h2 : c < a
    · have h3 : ¬ a = c := by omega
      simp [h1, h2, h3]
    · obtain rfl : a = c := by omega
      by_cases h3 : b < d
      · simp [h3]
      · by_cases h4 : d < b
        · simp [h3, h4]
        · simp [h3, h4]
theorem swo_c : SWO (ltOf cfC) where
  irrefl x := by rw [ltOf_c]; simp
  trans x y z h1 h2 := by rw [ltOf_c] at *; simp at *; omega
  ntrans x y z h1 h2 := by rw [ltOf_c] at *; simp at *; omega
theorem sort_ch (blk off cap : Nat) (d : Array (Int × Int)) (w : World) (hH : HoldsK encC 2 w blk off d) (hblk : blk < w.heap.size) (hsz : d.size < 4611686018427387904) :
    Calls Tryz.prog 79 #[.slice (some ⟨blk, off, none⟩) d.size cap, .func (.func 80) #[] #[]] w fun e w' => e = .returned (.tuple #[]) ∧ ∃ n os, w' = sortWorldK encC 2 w blk off n (d.toList.mergeSort fun x y => !(ltOf cfC) y x).toArray os := by
  have eg : ∀ args w, (callFunc 80 args).run Tryz.prog w = .ok (.enter 80 args) w := enters_of Tryz.func80 (by kernel_rfl) rfl
  exact AnyQ.slices_SortFunc_total Tryz.sortCh 2 Tryz.isAgg95 Tryz.sizeOf95 encC (fun _ => rfl) (fun x v hv => by simp [encC] at hv; rcases hv with rfl | rfl <;> rfl) cfC swo_c 80 #[] blk off cap d w eg (fun _ _ _ _ x y => closure_ch x y _) hH hblk hsz (fun x y h1 h2 => by
    rw [ltOf_c] at h1 h2
    obtain ⟨a, b⟩ := x
    obtain ⟨c, d⟩ := y
    simp at h1 h2
    have e1 : a = c := by omega
    have e2 : b = d := by omega
    rw [e1, e2])
end Go.Proofs.YtlbmfgiepcemdaaGreat
namespace Go.Proofs.YtlbmfgiepcemdaaGreat
open Go.RowKit Go.Lib Go.Sort Go.Shelf

def chS (fl : List (Int × Int)) : List (Int × Int) := (fl.foldl addS []).mergeSort fun x y => !(ltOf cfC) y x
theorem chS_len (fl : List (Int × Int)) : (chS fl).length = (fl.foldl insS []).length := by unfold chS; rw [List.length_mergeSort, channels_alike]
theorem infoCh : (Tryz.prog.info? 95).map (fun i => (i.zero, i.size, i.bytes)) = some (some (.agg #[.int .i64 0, .int .i64 0]), 2, 16) := by kernel_rfl
theorem encC_flat (L : List (Int × Int)) (i : Nat) (x : Int × Int) (h : L[i]? = some x) : (flatK encC 2 L.toArray)[i * 2]! = .int .i64 x.1 ∧ (flatK encC 2 L.toArray)[i * 2 + 1]! = .int .i64 x.2 := by
  have hi := (List.getElem?_eq_some_iff.1 h).1
  have he := (List.getElem?_eq_some_iff.1 h).2
  have hd : L.toArray[i]! = x := by simp [hi, he]
  have e1 : i * 2 / 2 = i := by omega
  have e2 : i * 2 % 2 = 0 := by omega
  have e3 : (i * 2 + 1) / 2 = i := by omega
  have e4 : (i * 2 + 1) % 2 = 1 := by omega
  rw [get_flatK encC 2 L.toArray _ (by simp; omega), get_flatK encC 2 L.toArray _ (by simp; omega), e1, e2, e3, e4, hd]
  exact ⟨rfl, rfl⟩
/-- a row of the call's own is what the sort asks -/
theorem holds_of_owned {B g c : Nat} {L : List (Int × Int)} {w : World} (h : Owned B 95 2 L.length (rowsG rowC L) w (.slice (some ⟨g, 0, none⟩) L.length c)) : HoldsK encC 2 w g 0 L.toArray := by
  rcases h with ⟨e, _⟩ | ⟨g', c', e, _, _, _, ⟨cur, hcur, _⟩, hr⟩
  · cases e
  injection e with e1 _ e3
  injection e1 with e1
  injection e1 with e1
  subst e1 e3
  intro j hj
  have hj2 : j < L.length * 2 := by simpa using hj
  have hfz : w.frozen? ⟨g, 0 + j, none⟩ = false := by simp [World.frozen?, hcur]
  refine ⟨?_, hfz⟩
  clear hfz
  rw [Nat.zero_add]
  obtain ⟨i, hm⟩ : ∃ i, j = i * 2 ∨ j = i * 2 + 1 := ⟨j / 2, by omega⟩
  have hi : i < L.length := by omega
  have hx : L[i]? = some L[i] := List.getElem?_eq_getElem hi
  have h1 := hr i hi
  rw [rowsG_get hx] at h1
  obtain ⟨e1, e2⟩ := encC_flat L i _ hx
  rcases hm with rfl | rfl
  · obtain ⟨u, hu, hd⟩ := h1 0 (by omega)
    have hd2 : u = .int .i64 (L[i]).1 := hd
    rw [hd2, Nat.add_zero] at hu
    rw [e1]; exact hu
  · obtain ⟨u, hu, hd⟩ := h1 1 (by omega)
    have hd2 : u = .int .i64 (L[i]).2 := hd
    rw [hd2] at hu
    rw [e2]; exact hu
theorem rd_of_holds {ok : Nat → Prop} {g c : Nat} {L : List (Int × Int)} {w : World} (h : HoldsK encC 2 w g 0 L.toArray) (hg : ok g) (h1 : L.length ≤ c) (h2 : c ≤ 9223372036854775807) : Rd ok w (slG 2 rowC L) (.slice (some ⟨g, 0, none⟩) L.length c) := by
  refine Rd.sl_mk h1 h2 fun _ => ⟨g, 0, rfl, hg, fun i hi => ?_⟩
  have hx : L[i]? = some L[i] := List.getElem?_eq_getElem hi
  obtain ⟨e1, e2⟩ := encC_flat L i _ hx
  rw [rowsG_get hx]
  intro j hj
  have k0 := (h (i * 2) (by simp; omega)).1
  have k1 := (h (i * 2 + 1) (by simp; omega)).1
  rw [e1] at k0
  rw [e2] at k1
  match j, hj with
  | 0, _ => exact ⟨_, by rw [Nat.zero_add] at k0 ⊢; exact k0, rfl⟩
  | 1, _ => exact ⟨_, by rw [Nat.zero_add] at k1 ⊢; exact k1, rfl⟩
theorem sort_below {B g n : Nat} {D : Array (Int × Int)} {os : Array Obj} {w : World} (hB : B ≤ w.heap.size) (hg : B ≤ g) : Below B w (sortWorldK encC 2 w g 0 n D os) := by
  refine ⟨rfl, rfl, rfl, ?_, fun k hk => ?_⟩
  · show w.heap.size ≤ (Array.modify _ _ _ ++ os).size
    simp [Sort.ahead]
  · show (Array.modify _ _ _ ++ os)[k]? = _
    rw [Array.getElem?_append_left (by simp [Sort.ahead]; omega), Array.getElem?_modify, if_neg (by omega)]
    rfl
theorem fold_add {l : List (Int × Int)} {i : Nat} {c : Int × Int} (h : l[i]? = some c) : (l.take (i + 1)).foldl addS [] = addS ((l.take i).foldl addS []) c := by
  rw [List.take_add_one, h, List.foldl_append]; rfl
/-- what the rounds keep -/
structure CL (s : Sys) (w W : World) (L : List (Int × Int)) (v : Value) : Prop where
  low : Below w.heap.size w W
  x : CellsAt W w.heap.size #[.slice s.Au s.up.length s.cu, .int .i64 s.sm, .int .i64 s.sc, .int .i64 s.sq, .slice s.Aa s.acts.length s.ca, .slice s.Af s.fl.length s.cf, .slice s.Al s.nl s.cl, .slice s.Ak s.nk s.ck, .int .i64 s.sd] 29
  map : MapC W (w.heap.size + 1) L
  own : Owned (w.heap.size + 2) 95 2 L.length (rowsG rowC L) W v
theorem CL.below {s : Sys} {w W W' : World} {L : List (Int × Int)} {v : Value} (h : CL s w W L v) (hb : Below W.heap.size W W') : CL s w W' L v :=
  ⟨h.low.trans (hb.mono (by have := h.x.lt; omega)), h.x.keep (Chg.of_below (M := fun _ => False) hb) (fun h => h), h.map.keep (hb.block _ h.map.lt), h.own.below hb⟩
set_option maxHeartbeats 4000000 in
set_option maxRecDepth 100000 in
theorem channels_any (s : Sys) (w : World) (hs : SysAt (Lt w.heap.size) w s) (hf : s.fl.length ≤ 1048576) : Calls Tryz.prog 58 #[.agg #[.slice s.Au s.up.length s.cu, .int .i64 s.sm, .int .i64 s.sc, .int .i64 s.sq, .slice s.Aa s.acts.length s.ca, .slice s.Af s.fl.length s.cf, .slice s.Al s.nl s.cl, .slice s.Ak s.nk s.ck, .int .i64 s.sd]] w (ChPost (chS s.fl) w) := by
  have HS := Lib.hid hs
  have hmm := @run_makeMap Tryz.prog
  clear hs
  go_enter Tryz.func58, Tryz.ntmps58
  go_wp2_with fail
  clear hmm
  go_loopw [4, 11] (fun s4 s11 wr => ∃ (i : Nat) (L : List (Int × Int)), i ≤ s.fl.length ∧ s11 = .int .i64 i ∧ Hid (L = (s.fl.take i).foldl addS []) ∧ Hid (CL s w wr L s4)) (fun _ s11 _ => s.fl.length - (intOf s11).toNat)
  case atStart =>
    refine ⟨0, [], by omega, rfl, Lib.hid rfl, Lib.hid ⟨((Below.refl _ _).alloc (Nat.le_refl _) _).alloc (by simp) _, ?_, ?_, Owned.nil _ _ _ _ _⟩⟩
    · exact (CellsAt.new _ _ _).keep ((Chg.refl (fun _ => False) _).alloc _) (fun h => h)
    · have := MapC.new (w.alloc (.cells #[.slice s.Au s.up.length s.cu, .int .i64 s.sm, .int .i64 s.sc, .int .i64 s.sq, .slice s.Aa s.acts.length s.ca, .slice s.Af s.fl.length s.cf, .slice s.Al s.nl s.cl, .slice s.Ak s.nk s.ck, .int .i64 s.sd] 29))
      rwa [World.size_alloc] at this
  case round =>
    obtain ⟨i, L, hi, rfl, HL, HC⟩ := hrel
    have hll : L.length ≤ i := by
      rw [HL.out]
      have := addS_fold_len (s.fl.take i) []
      rw [List.length_take] at this
      simp at this; omega
    by_cases hlt : i < s.fl.length
    · obtain ⟨b, off, haf, hb, hat⟩ := HS.out.fl (by omega)
      obtain ⟨x, hx⟩ : ∃ x, s.fl[i]? = some x := ⟨_, List.getElem?_eq_getElem hlt⟩
      obtain ⟨p0, p1⟩ := hat i x hx
      have p0 := (HC.out.low.cell (p := ⟨b, _, none⟩) hb).trans p0
      have p1 := (HC.out.low.cell (p := ⟨b, _, none⟩) hb).trans p1
      have x5 : wr.cell? ⟨w.heap.size, 5, none⟩ = some (.slice s.Af s.fl.length s.cf) := by rw [HC.out.x.cell]; rfl
      rw [haf] at x5
      have HF := Lib.hid (fold_add hx)
      have hin : (i : Int) < s.fl.length := by omega
      obtain ⟨f, t⟩ := x
      dsimp only at p0 p1
      clear hat haf hx
      go_wp2_with fail
      go_region_held3 (fun w' => w'.cell? ⟨w.heap.size, 5, none⟩ = some (.slice (some ⟨b, off, none⟩) s.fl.length s.cf) ∧ w'.cell? ⟨b, off + i * 7, none⟩ = some (.int .i64 f) ∧ w'.cell? ⟨b, off + i * 7 + 1, none⟩ = some (.int .i64 t))
        (first | go_keep)
        (fail)
      obtain ⟨W, hW⟩ : ∃ W, (wr.alloc (.cells #[.int .i64 f, .int .i64 t] 95)).drew = W := ⟨_, rfl⟩
      have hbW : Below wr.heap.size wr W := by rw [← hW]; exact below_drewN ((Below.refl _ _).alloc (Nat.le_refl _) _) 1
      have hNC : CellsAt W wr.heap.size #[.int .i64 f, .int .i64 t] 95 := by rw [← hW]; exact CellsAt.new wr _ _
      have HC2 := Lib.hid (HC.out.below hbW)
      have z0 : W.cell? ⟨wr.heap.size, 0, none⟩ = some (.int .i64 f) := by rw [hNC.cell]; rfl
      have z1 : W.cell? ⟨wr.heap.size, 1, none⟩ = some (.int .i64 t) := by rw [hNC.cell]; rfl
      have hgw : w.heap.size + 1 < wr.heap.size := HC.out.map.lt
      have hgW : wr.heap.size < W.heap.size := hNC.lt
      have HBOX := Lib.hid hNC
      rw [hW]
      clear hW hbW hNC x5 p0 p1 HC
      have hlk := lookup_c HC2.out.map (f, t)
      have HU := Lib.hid (update_c HC2.out.map (f, t))
      change (Instr.lookup 114 (.map (some (w.heap.size + 1))) (.agg #[.int .i64 f, .int .i64 t]) false).run Tryz.prog W = _ at hlk
      cases hmem : decide ((f, t) ∈ L) with
      | true =>
        rw [hmem] at hlk
        have HL2 : Hid (L = (s.fl.take (i + 1)).foldl addS []) := Lib.hid (by rw [HF.out, ← HL.out]; unfold addS; rw [if_pos (by simpa using hmem)])
        clear hmem HU
        go_wp2_with fail
        exact ⟨⟨i + 1, L, by omega, by go_num, HL2, HC2⟩, by simp [intOf]; omega⟩
      | false =>
        rw [hmem] at hlk
        have HL2 : Hid (L ++ [(f, t)] = (s.fl.take (i + 1)).foldl addS []) := Lib.hid (by rw [HF.out, ← HL.out]; unfold addS; rw [if_neg (by simpa using hmem)])
        obtain ⟨W3, hrun, hMC, hgr, hsz⟩ := HU.out (by simpa using hmem)
        change (Instr.mapUpdate 114 (.map (some (w.heap.size + 1))) (.agg #[.int .i64 f, .int .i64 t]) (.bool true)).run Tryz.prog W = _ at hrun
        have hch : Chg (fun k => k = w.heap.size + 1) W W3 := Chg.of_grown hgr (fun k hk => (Option.some.inj hk).symm)
        have HM3 := Lib.hid hMC
        have HX3 := Lib.hid (HC2.out.x.keep hch (by omega))
        have HO3 := Lib.hid (HC2.out.own.chg hch (fun j hj => by omega))
        have HB3 := Lib.hid (HC2.out.low.trans (hch.below (B := w.heap.size) (by omega) (fun j hj => by omega)))
        have HN3 := HBOX.out.keep hch (by omega)
        have y0 : W3.cell? ⟨wr.heap.size, 0, none⟩ = some (.int .i64 f) := by rw [HN3.cell]; rfl
        have y1 : W3.cell? ⟨wr.heap.size, 1, none⟩ = some (.int .i64 t) := by rw [HN3.cell]; rfl
        have hgW3 : wr.heap.size < W3.heap.size := HN3.lt
        have hal : Below W3.heap.size W3 (W3.alloc (.cells #[.int .i64 f, .int .i64 t] 95)) := (Below.refl _ _).alloc (Nat.le_refl _) _
        have HAL := Lib.hid hal
        have HO4 := Lib.hid (HO3.out.below hal)
        have HOB := Lib.hid HO3.out.below_own
        obtain ⟨A, c, rfl, _⟩ := HO3.out.rd.sl_inv
        clear hmem HU hMC hgr hch hal HN3 hsz
        go_wp2_with (at_builtin; refine wp_append_row rowC infoCh Tryz.underlying92 rfl (by omega) (by omega) rfl _ _ rfl (w.heap.size + 2) (by simp; omega) (.slice A L.length c) L rfl HO4.out ⟨W3.heap.size, 0, none⟩ 1 (f, t) [.int .i64 f, .int .i64 t] rfl rfl ?cx2 ?cx3 (by omega) ?_)
        case cx2 =>
          intro j u hj
          rw [Addr.add_lit, Nat.zero_add, cell_new]
          exact List.getElem?_toArray.trans hj
        case cx3 =>
          intro j u hj
          match j with
          | 0 => simp at hj; subst hj; rfl
          | 1 => simp at hj; subst hj; rfl
          | j + 2 => simp at hj
        intro v' w10 hO10 hg10 hv10
        have hch : Chg (fun k => w.heap.size + 1 < k) W3 w10 := (Chg.of_below HAL.out).next (Chg.of_grown hg10 (fun k hk => by have := (HOB.out k (by simpa using hk)).1; omega))
        have HC10 : Hid (CL s w w10 (L ++ [(f, t)]) v') := Lib.hid ⟨HB3.out.trans (hch.below (by omega) (fun j hj => by omega)), HX3.out.keep hch (by omega), HM3.out.keep (hch.block _ (by omega) (by omega)), by simpa using hO10⟩
        generalize L ++ [(f, t)] = L2 at *
        clear hO10 hg10 hv10 hch
        go_wp2_with fail
        exact ⟨⟨i + 1, L2, by omega, by go_num, HL2, HC10⟩, by simp [intOf]; omega⟩
    · obtain rfl : i = s.fl.length := by omega
      have hin : ¬ ((s.fl.length : Int) < s.fl.length) := by omega
      have HL2 : Hid (L = s.fl.foldl addS []) := Lib.hid (by rw [HL.out, List.take_length])
      have hlw := HC.out.low.size
      rcases HC.out.own with ⟨rfl, hl0⟩ | ⟨g, c, rfl, hB, hnc, hcm, hbk, hr⟩
      · have HE : Hid (chS s.fl = []) := Lib.hid (by
          unfold chS
          rw [← HL2.out, List.length_eq_zero_iff.1 hl0, List.mergeSort_nil])
        go_wp2_with fail
        (with_reducible refine (sort_nil _ _).mono ?_)
        rintro e w1 ⟨rfl, rfl⟩
        go_wp2_with fail
        go_ret
        exact ⟨none, 0, by rw [HE.out]; rfl, by rw [HE.out]; exact Rd.sl_nil, HC.out.low⟩
      · have hH := holds_of_owned (L := L) (.inr ⟨g, c, rfl, hB, hnc, hcm, hbk, hr⟩)
        have hgl := hbk.lt
        have HSO := Lib.hid (sort_ch g 0 c L.toArray wr hH hgl (by simp; omega))
        have hsz : L.toArray.size = L.length := by simp
        rw [hsz] at HSO
        have HFIN : Hid (∀ n os, ChPost (chS s.fl) w (.returned (.slice (some ⟨g, 0, none⟩) L.length c)) (sortWorldK encC 2 wr g 0 n (L.mergeSort fun x y => !(ltOf cfC) y x).toArray os)) := Lib.hid (fun n os => by
          have hlen : (chS s.fl).length = L.length := by unfold chS; rw [List.length_mergeSort, HL2.out]
          have hb := sort_below (B := w.heap.size) (n := n) (D := (L.mergeSort fun x y => !(ltOf cfC) y x).toArray) (os := os) (w := wr) (by omega) (by omega : w.heap.size ≤ g)
          have hh := holdsK_sortWorldK_c encC 2 wr g 0 L.toArray (L.mergeSort fun x y => !(ltOf cfC) y x).toArray n os hH hgl (by simp)
          refine ⟨some ⟨g, 0, none⟩, c, by rw [hlen], ?_, HC.out.low.trans hb⟩
          have he : chS s.fl = L.mergeSort fun x y => !(ltOf cfC) y x := by unfold chS; rw [HL2.out]
          rw [he]
          refine rd_of_holds hh ⟨by omega, Nat.lt_of_lt_of_le hgl ?_⟩ (by rw [List.length_mergeSort]; exact hnc) hcm
          exact (sort_below (B := g) (w := wr) (by omega) (Nat.le_refl _)).size)
        clear hH hr hbk
        go_wp2_with fail
        (with_reducible refine HSO.out.mono ?_)
        rintro e w1 ⟨rfl, n, os, rfl⟩
        have HF9 := Lib.hid (HFIN.out n os)
        generalize sortWorldK encC 2 wr g 0 n _ os = w9 at *
        go_wp2_with fail
        go_ret
        exact HF9.out
end Go.Proofs.YtlbmfgiepcemdaaGreat
