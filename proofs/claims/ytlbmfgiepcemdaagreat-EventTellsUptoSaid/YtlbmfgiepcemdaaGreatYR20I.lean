/- ref20.insert: a channel put into ascending ones. Conditions: those in each statement. -/
import Derived.Test.YtlbmfgiepcemdaaGreatYR20PR20R
import Derived.Test.YtlbmfgiepcemdaaGreatYAppMR23D
namespace Go.Proofs.YtlbmfgiepcemdaaGreat
open Go.RowKit Go.Sort

theorem chA_len (l : List (Int × Int)) : (chA l).length = l.length := by unfold chA; rw [List.length_map]
theorem chA_get {l : List (Int × Int)} {i : Nat} {c : Int × Int} (h : l[i]? = some c) : (chA l)[i]? = some (⟨#[]⟩, c.1, c.2) := by unfold chA; rw [List.getElem?_map, h]; rfl
theorem chA_app (l m : List (Int × Int)) : chA (l ++ m) = chA l ++ chA m := by unfold chA; rw [List.map_append]
theorem chA_take (l : List (Int × Int)) (k : Nat) : chA (l.take k) = (chA l).take k := by unfold chA; rw [List.map_take]
theorem chA_drop (l : List (Int × Int)) (k : Nat) : chA (l.drop k) = (chA l).drop k := by unfold chA; rw [List.map_drop]
def InsPost (r : List (Int × Int)) (w : World) (e : Ending) (w' : World) : Prop :=
  ∃ A c, e = .returned (.slice A r.length c) ∧ Rd (Lt w'.heap.size) w' (slG 3 rowAn (chA r)) (.slice A r.length c) ∧ Below w.heap.size w w'
/-- rows of actions read whole -/
theorem rowAn_read {ok ok' : Nat → Prop} {w : World} {b off : Nat} {x : ByteArray × Int × Int} (h : RdRow ok w b off 3 (rowAn x)) : w.cell? ⟨b, off, none⟩ = some (.string x.1) ∧ w.cell? ⟨b, off + 1, none⟩ = some (.int .i64 x.2.1) ∧ w.cell? ⟨b, off + 2, none⟩ = some (.int .i64 x.2.2) ∧ RdRow ok' w b off 3 (rowAn x) := by
  obtain ⟨u0, h0, r0⟩ := h 0 (by omega)
  obtain ⟨u1, h1, r1⟩ := h 1 (by omega)
  obtain ⟨u2, h2, r2⟩ := h 2 (by omega)
  have e0 : u0 = .string x.1 := r0
  have e1 : u1 = .int .i64 x.2.1 := r1
  have e2 : u2 = .int .i64 x.2.2 := r2
  subst e0 e1 e2
  refine ⟨h0, h1, h2, fun j hj => ?_⟩
  match j, hj with
  | 0, _ => exact ⟨_, h0, rfl⟩
  | 1, _ => exact ⟨_, h1, rfl⟩
  | 2, _ => exact ⟨_, h2, rfl⟩
theorem rowsAn_app (l m : List (ByteArray × Int × Int)) (a : Nat) (h : a < l.length) : rowsG rowAn (l ++ m) a = rowsG rowAn l a := by
  have hx : l[a]? = some l[a] := List.getElem?_eq_getElem h
  rw [rowsG_get hx, rowsG_get (l := l ++ m) (i := a) (by rw [List.getElem?_append_left h]; exact hx)]
theorem rowsAn_app2 (l m : List (ByteArray × Int × Int)) (n i : Nat) (hn : n = l.length) (h : i < m.length) : rowsG rowAn (l ++ m) (n + i) = rowsG rowAn m i := by
  subst hn
  have hx : m[i]? = some m[i] := List.getElem?_eq_getElem h
  rw [rowsG_get hx, rowsG_get (l := l ++ m) (i := l.length + i) (by rw [List.getElem?_append_right (by omega), show l.length + i - l.length = i by omega]; exact hx)]
theorem owned_empty (B : Nat) (w : World) (hB : B ≤ w.heap.size) (f : Nat → Nat → D) : Owned B 91 3 0 f (w.alloc (.cells #[] 91)) (.slice (some ⟨w.heap.size, 0, none⟩) 0 0) :=
  .inr ⟨w.heap.size, 0, rfl, hB, Nat.le_refl _, by omega, ⟨#[], heap_alloc_new w _, rfl⟩, fun a ha => absurd ha (by omega)⟩
def RowsAt (w : World) (b off : Nat) (l : List (Int × Int)) : Prop := ∀ i a, l[i]? = some a → w.cell? ⟨b, off + i * 3, none⟩ = some (.string ⟨#[]⟩) ∧ w.cell? ⟨b, off + i * 3 + 1, none⟩ = some (.int .i64 a.1) ∧ w.cell? ⟨b, off + i * 3 + 2, none⟩ = some (.int .i64 a.2)
theorem RowsAt.rd {ok : Nat → Prop} {w : World} {b off : Nat} {l : List (Int × Int)} (h : RowsAt w b off l) {i : Nat} (hi : i < l.length) : RdRow ok w b (off + i * 3) 3 (rowsG rowAn (chA l) i) := by
  have hx : l[i]? = some l[i] := List.getElem?_eq_getElem hi
  obtain ⟨h0, h1, h2⟩ := h i _ hx
  rw [rowsG_get (chA_get hx)]
  intro j hj
  match j, hj with
  | 0, _ => exact ⟨_, h0, rfl⟩
  | 1, _ => exact ⟨_, h1, rfl⟩
  | 2, _ => exact ⟨_, h2, rfl⟩
theorem RowsAt.below {w w' : World} {b off : Nat} {l : List (Int × Int)} (h : RowsAt w b off l) {B : Nat} (hb : Below B w w') (hlt : b < B) : RowsAt w' b off l := fun i a ha => by
  obtain ⟨h0, h1, h2⟩ := h i a ha
  exact ⟨(hb.cell (p := ⟨b, _, none⟩) hlt).trans h0, (hb.cell (p := ⟨b, _, none⟩) hlt).trans h1, (hb.cell (p := ⟨b, _, none⟩) hlt).trans h2⟩
theorem RowsAt.drop {w : World} {b off : Nat} {l : List (Int × Int)} (h : RowsAt w b off l) (k : Nat) : RowsAt w b (off + k * 3) (l.drop k) := fun i a ha => by
  rw [List.getElem?_drop] at ha
  obtain ⟨h0, h1, h2⟩ := h (k + i) a ha
  have e : off + k * 3 + i * 3 = off + (k + i) * 3 := by omega
  rw [e]
  exact ⟨h0, h1, h2⟩
theorem RowsAt.take {w : World} {b off : Nat} {l : List (Int × Int)} (h : RowsAt w b off l) (k : Nat) : RowsAt w b off (l.take k) := fun i a ha => by
  rw [List.getElem?_take] at ha
  split at ha
  · exact h i a ha
  · cases ha
set_option maxHeartbeats 4000000 in
set_option maxRecDepth 100000 in
theorem insert_any (l : List (Int × Int)) (A : Option Addr) (c : Nat) (x : Int × Int) (w : World) (hl : l.length ≤ 1048576) (hA : l = [] → A = none ∧ c = 0) (hr : Rd (Lt w.heap.size) w (slG 3 rowAn (chA l)) (.slice A l.length c)) :
    Calls Tryz.prog 60 #[.slice A l.length c, .int .i64 x.1, .int .i64 x.2] w (InsPost (insS l x) w) := by
  have HR := Lib.hid hr
  have hlc := (slG_len hr).2.1
  have hcc := (slG_len hr).2.2
  clear hr
  by_cases hl0 : l = []
  · subst hl0
    obtain ⟨rfl, rfl⟩ := hA rfl

    have HINS : Hid (insS [] (x.1, x.2) = ([] : List (Int × Int)) ++ [((x.1, x.2) : Int × Int)] ++ []) := Lib.hid rfl
    go_enter Tryz.func60, Tryz.ntmps60
    go_wp2_with fail
    refine wp_loop_rounds 1 ?_
    rw [rounds_succ]
    have HS1 : Hid (∀ X : World, Below w.heap.size w X → 0 < 0 → ∃ b1 o1, (none : Option Addr) = some ⟨b1, o1, none⟩ ∧ ∀ i, i < 0 → RdRow (fun q => Bt w.heap.size X.heap.size q ∧ some q ≠ (Value.slice (some ⟨w.heap.size, 0, none⟩) 0 0).ownBlock) X b1 (o1 + i * 3) 3 (rowsG rowAn (chA ([] : List (Int × Int))) i)) := Lib.hid (fun X hX hm => absurd hm (by omega))
    have hal : Below w.heap.size w (w.alloc (.cells #[] 91)) := (Below.refl _ _).alloc (Nat.le_refl _) _
    have HAL := Lib.hid hal
    have HE := Lib.hid (owned_empty w.heap.size w (Nat.le_refl _) (rowsG rowAn []))
    clear hal
    go_wp2_with (at_builtin; refine wp_append_rows infoAn Tryz.underlying57 rfl (by omega) (by omega) rfl _ _ rfl w.heap.size (by simp) (.slice (some ⟨w.heap.size, 0, none⟩) 0 0) 0 (rowsG rowAn []) rfl HE.out 0 _ (none : Option Addr) (rowsG rowAn (chA ([] : List (Int × Int)))) (rowsG rowAn (chA ([] : List (Int × Int)))) rfl (HS1.out _ HAL.out) (fun a ha => absurd ha (by omega)) (fun i j _ _ => by rw [Nat.zero_add]) (by omega) ?_)
    intro v1 w1 hO1 hg1 hv1
    have HB1 := Lib.hid (HAL.out.grown hg1 (by simp) (fun k hk => by have h : some w.heap.size = some k := hk; injection h with h; omega))
    have HO1 : Hid (Owned w.heap.size 91 3 0 (rowsG rowAn (chA ([] : List (Int × Int)))) w1 v1) := Lib.hid (by simpa using hO1)
    clear hO1 hg1 hv1 HE HAL
    obtain ⟨A1, c1, rfl, _⟩ := HO1.out.rd.sl_inv
    have hb1z := HB1.out.size
    have hal : Below w1.heap.size w1 (w1.alloc (.cells #[.string ⟨#[]⟩, .int .i64 x.1, .int .i64 x.2] 91)) := (Below.refl _ _).alloc (Nat.le_refl _) _
    have HAL1 := Lib.hid hal
    have HO2 := Lib.hid (HO1.out.below hal)
    have HB2 := Lib.hid (HB1.out.trans (hal.mono hb1z))
    have HR1 : Hid (RowsAt (w1.alloc (.cells #[.string ⟨#[]⟩, .int .i64 x.1, .int .i64 x.2] 91)) w1.heap.size 0 [((x.1, x.2) : Int × Int)]) := Lib.hid (fun i a ha => by
      match i with
      | 0 =>
        obtain rfl := Option.some.inj ha
        have hn := CellsAt.new w1 #[.string ⟨#[]⟩, .int .i64 x.1, .int .i64 x.2] 91
        exact ⟨by rw [hn.cell]; rfl, by rw [hn.cell]; rfl, by rw [hn.cell]; rfl⟩
      | i + 1 => cases ha)
    clear hal HO1
    go_wp2_with (at_builtin; refine wp_append_rows infoAn Tryz.underlying57 rfl (by omega) (by omega) rfl _ _ rfl w.heap.size ?cy1 (.slice A1 0 c1) 0 (rowsG rowAn (chA ([] : List (Int × Int)))) rfl HO2.out 1 _ _ (rowsG rowAn (chA [((x.1, x.2) : Int × Int)])) (rowsG rowAn (chA (([] : List (Int × Int)) ++ [((x.1, x.2) : Int × Int)]))) rfl ?cy2 ?cy3 ?cy4 ?cy5 ?_)
    case cy1 => simp; omega
    case cy2 => exact fun _ => ⟨w1.heap.size, 0, rfl, fun i hi => HR1.out.rd (by simpa using hi)⟩
    case cy3 => exact fun a ha => by rw [chA_app]; exact rowsAn_app _ _ _ (by rw [chA_len]; exact ha)
    case cy4 => exact fun i j hi _ => by rw [chA_app, rowsAn_app2 _ _ _ _ (by rw [chA_len]; rfl) (by rw [chA_len]; simpa using hi)]
    case cy5 => omega
    intro v2 w2 hO2 hg2 hv2
    have HB3 := Lib.hid (HB2.out.grown hg2 (by simp; omega) (fun k hk => (HO2.out.below_own k (by simpa using hk)).1))
    have HO3 : Hid (Owned w.heap.size 91 3 (0 + 1) (rowsG rowAn (chA (([] : List (Int × Int)) ++ [((x.1, x.2) : Int × Int)]))) w2 v2) := Lib.hid (by simpa using hO2)
    clear hO2 hg2 hv2 HO2 HB2 HB1 HR1 HAL1
    obtain ⟨A2, c2, rfl, _⟩ := HO3.out.rd.sl_inv
    have hb3z := HB3.out.size
    go_wp2_with (at_builtin; refine wp_append_rows infoAn Tryz.underlying57 rfl (by omega) (by omega) rfl _ _ rfl w.heap.size ?cw1 (.slice A2 (0 + 1) c2) (0 + 1) (rowsG rowAn (chA (([] : List (Int × Int)) ++ [((x.1, x.2) : Int × Int)]))) rfl HO3.out 0 _ _ (rowsG rowAn (chA ([] : List (Int × Int)))) (rowsG rowAn (chA (([] : List (Int × Int)) ++ [((x.1, x.2) : Int × Int)] ++ ([] : List (Int × Int))))) rfl ?cw2 ?cw3 ?cw4 ?cw5 ?_)
    case cw1 => omega
    case cw2 => exact fun h => absurd h (by omega)
    case cw3 => exact fun a ha => by rw [chA_app (([] : List (Int × Int)) ++ [((x.1, x.2) : Int × Int)])]; exact rowsAn_app _ _ _ (by rw [chA_len, List.length_append, List.length_nil, List.length_singleton]; omega)
    case cw4 => exact fun i j hi _ => by rw [chA_app (([] : List (Int × Int)) ++ [((x.1, x.2) : Int × Int)]), rowsAn_app2 _ _ _ _ (by rw [chA_len, List.length_append, List.length_nil, List.length_singleton]) (by rw [chA_len]; exact hi)]
    case cw5 => omega
    intro v3 w3 hO4 hg3 hv3
    have hll : (insS [] (x.1, x.2)).length = 0 + 1 + 0 := by rw [HINS.out, List.length_append, List.length_append, List.length_nil, List.length_singleton]
    have hR9 : ∃ A c, v3 = .slice A (insS [] (x.1, x.2)).length c ∧ Rd (Lt w3.heap.size) w3 (slG 3 rowAn (chA (insS [] (x.1, x.2)))) (.slice A (insS [] (x.1, x.2)).length c) ∧ Below w.heap.size w w3 := by
      obtain ⟨A3, c3, e3, _⟩ := hO4.rd.sl_inv
      refine ⟨A3, c3, by rw [hll]; exact e3, ?_, HB3.out.grown hg3 hb3z (fun k hk => (HO3.out.below_own k (by simpa using hk)).1)⟩
      have h := hO4.rd
      rw [e3] at h
      unfold slG
      rw [chA_len, hll, HINS.out]
      first | exact h.weaken (fun q hq => hq.2) | (rw [List.append_assoc]; exact h.weaken (fun q hq => hq.2)) | (rw [List.append_nil, List.take_length]; exact h.weaken (fun q hq => hq.2))
    obtain ⟨A3, c3, rfl, hR3, hB4⟩ := hR9
    have HF := Lib.hid (show InsPost (insS [] (x.1, x.2)) w (.returned (.slice A3 (insS [] (x.1, x.2)).length c3)) w3 from ⟨A3, c3, rfl, hR3, hB4⟩)
    clear hR3 hB4 hO4 hg3 hv3 hll HB3 HO3
    go_wp2_with fail
    go_ret
    exact HF.out
  · have hlp : 0 < l.length := List.length_pos_iff.2 hl0
    obtain ⟨b, off, rfl, hb, hrow⟩ : ∃ b off, A = some ⟨b, off, none⟩ ∧ b < w.heap.size ∧ ∀ i a, l[i]? = some a → w.cell? ⟨b, off + i * 3, none⟩ = some (.string ⟨#[]⟩) ∧ w.cell? ⟨b, off + i * 3 + 1, none⟩ = some (.int .i64 a.1) ∧ w.cell? ⟨b, off + i * 3 + 2, none⟩ = some (.int .i64 a.2) := by
      obtain ⟨b, off, x0, e, hb, _, _⟩ := slG_at HR.out hlp
      refine ⟨b, off, e, hb, fun i a ha => ?_⟩
      have hi := (List.getElem?_eq_some_iff.1 ha).1
      obtain ⟨b', off', x1, e', hb', hx1, hrd⟩ := slG_at HR.out hi
      rw [e] at e'
      cases e'
      rw [chA_get ha] at hx1
      obtain rfl := Option.some.inj hx1
      obtain ⟨h0, h1, h2, _⟩ := rowAn_read (ok' := fun _ => True) hrd
      exact ⟨h0, h1, h2⟩
    have HRW : Hid (RowsAt w b off l) := Lib.hid hrow
    clear hrow
    go_enter Tryz.func60, Tryz.ntmps60
    go_wp2_with fail
    go_loopw [7] (fun s7 wr => ∃ k : Nat, k ≤ l.length ∧ s7 = .int .i64 k ∧ w = wr ∧ Hid (∀ j a, j < k → l[j]? = some a → ltC a x)) (fun s7 _ => l.length - (intOf s7).toNat)
    case atStart => exact ⟨0, by omega, rfl, rfl, Lib.hid (fun j a hj => absurd hj (by omega))⟩
    case round =>
      obtain ⟨k, hk, rfl, rfl, HLT⟩ := hrel
      by_cases hlt : k < l.length
      · obtain ⟨a, ha⟩ : ∃ a, l[k]? = some a := ⟨_, List.getElem?_eq_getElem hlt⟩
        obtain ⟨h0, h1, h2⟩ := HRW.out k a ha
        have HA := Lib.hid ha
        obtain ⟨a1, a2⟩ := a
        obtain ⟨x1, x2⟩ := x
        dsimp only at h1 h2
        have hin : (k : Int) < l.length := by omega
        clear ha

        by_cases g1 : a1 < x1
        · skip
          have HLT2 : Hid (∀ j a, j < k + 1 → l[j]? = some a → ltC a (x1, x2)) := Lib.hid (fun j a hj ha => by
            rcases Nat.lt_or_ge j k with h | h
            · exact HLT.out j a h ha
            · obtain rfl : j = k := by omega
              rw [HA.out] at ha
              obtain rfl := Option.some.inj ha
              exact .inl g1)
          go_wp2_with fail
          exact ⟨⟨k + 1, by omega, by go_num, trivial, HLT2⟩, by simp [intOf]; omega⟩
        · by_cases g2 : a1 = x1
          · subst g2
            have q2 : (a1 == a1) = true := by simp
            by_cases g3 : a2 < x2
            · skip
              have HLT2 : Hid (∀ j a, j < k + 1 → l[j]? = some a → ltC a (a1, x2)) := Lib.hid (fun j a hj ha => by
                rcases Nat.lt_or_ge j k with h | h
                · exact HLT.out j a h ha
                · obtain rfl : j = k := by omega
                  rw [HA.out] at ha
                  obtain rfl := Option.some.inj ha
                  exact .inr ⟨rfl, g3⟩)
              go_wp2_with fail
              exact ⟨⟨k + 1, by omega, by go_num, trivial, HLT2⟩, by simp [intOf]; omega⟩
            · by_cases g4 : a2 = x2
              · subst g4
                have q3 : (a2 == a2) = true := by simp
                have HINS : Hid (insS l (a1, a2) = l) := Lib.hid (by
                  rw [insS_at (a1, a2) l k (by omega) HLT.out (fun a ha => by
                    rw [HA.out] at ha
                    obtain rfl := Option.some.inj ha
                    exact ltC_irrefl _), if_pos HA.out])
                have HF : Hid (InsPost (insS l (a1, a2)) w (.returned (.slice (some ⟨b, off, none⟩) l.length c)) w) := Lib.hid (by
                  rw [HINS.out]
                  exact ⟨_, c, rfl, HR.out, Below.refl _ _⟩)
                go_wp2_with fail
                go_ret
                exact HF.out
              · have q3 : (a2 == x2) = false := by rw [beq_eq_false_iff_ne]; exact g4
                have HINS : Hid (insS l (a1, x2) = l.take k ++ [((a1, x2) : Int × Int)] ++ l.drop k) := Lib.hid (by
                  rw [insS_at (a1, x2) l k (by omega) HLT.out (fun a ha => by
                    rw [HA.out] at ha
                    obtain rfl := Option.some.inj ha
                    unfold ltC
                    dsimp only
                    omega), if_neg (fun h => by
                    rw [HA.out] at h
                    have h2 := Option.some.inj h
                    injection h2 with h3 h4
                    exact g4 h4), List.append_assoc]
                  rfl)
                have HS1 : Hid (∀ X : World, Below w.heap.size w X → 0 < k → ∃ b1 o1, (some (⟨b, off, none⟩ : Addr)) = some ⟨b1, o1, none⟩ ∧ ∀ i, i < k → RdRow (fun q => Bt w.heap.size X.heap.size q ∧ some q ≠ (Value.slice (some ⟨w.heap.size, 0, none⟩) 0 0).ownBlock) X b1 (o1 + i * 3) 3 (rowsG rowAn (chA (l.take k)) i)) := Lib.hid (fun X hX hm => ⟨b, off, rfl, fun i hi => ((HRW.out.below hX hb).take k).rd (by rw [List.length_take]; omega)⟩)
                have hal : Below w.heap.size w (w.alloc (.cells #[] 91)) := (Below.refl _ _).alloc (Nat.le_refl _) _
                have HAL := Lib.hid hal
                have HE := Lib.hid (owned_empty w.heap.size w (Nat.le_refl _) (rowsG rowAn []))
                clear hal
                go_wp2_with (at_builtin; refine wp_append_rows infoAn Tryz.underlying57 rfl (by omega) (by omega) rfl _ _ rfl w.heap.size (by simp) (.slice (some ⟨w.heap.size, 0, none⟩) 0 0) 0 (rowsG rowAn []) rfl HE.out k _ (some (⟨b, off, none⟩ : Addr)) (rowsG rowAn (chA (l.take k))) (rowsG rowAn (chA (l.take k))) rfl (HS1.out _ HAL.out) (fun a ha => absurd ha (by omega)) (fun i j _ _ => by rw [Nat.zero_add]) (by omega) ?_)
                intro v1 w1 hO1 hg1 hv1
                have HB1 := Lib.hid (HAL.out.grown hg1 (by simp) (fun k hk => by have h : some w.heap.size = some k := hk; injection h with h; omega))
                have HO1 : Hid (Owned w.heap.size 91 3 k (rowsG rowAn (chA (l.take k))) w1 v1) := Lib.hid (by simpa using hO1)
                clear hO1 hg1 hv1 HE HAL
                obtain ⟨A1, c1, rfl, _⟩ := HO1.out.rd.sl_inv
                have hb1z := HB1.out.size
                have hal : Below w1.heap.size w1 (w1.alloc (.cells #[.string ⟨#[]⟩, .int .i64 a1, .int .i64 x2] 91)) := (Below.refl _ _).alloc (Nat.le_refl _) _
                have HAL1 := Lib.hid hal
                have HO2 := Lib.hid (HO1.out.below hal)
                have HB2 := Lib.hid (HB1.out.trans (hal.mono hb1z))
                have HR1 : Hid (RowsAt (w1.alloc (.cells #[.string ⟨#[]⟩, .int .i64 a1, .int .i64 x2] 91)) w1.heap.size 0 [((a1, x2) : Int × Int)]) := Lib.hid (fun i a ha => by
                  match i with
                  | 0 =>
                    obtain rfl := Option.some.inj ha
                    have hn := CellsAt.new w1 #[.string ⟨#[]⟩, .int .i64 a1, .int .i64 x2] 91
                    exact ⟨by rw [hn.cell]; rfl, by rw [hn.cell]; rfl, by rw [hn.cell]; rfl⟩
                  | i + 1 => cases ha)
                clear hal HO1
                go_wp2_with (at_builtin; refine wp_append_rows infoAn Tryz.underlying57 rfl (by omega) (by omega) rfl _ _ rfl w.heap.size ?cy1 (.slice A1 k c1) k (rowsG rowAn (chA (l.take k))) rfl HO2.out 1 _ _ (rowsG rowAn (chA [((a1, x2) : Int × Int)])) (rowsG rowAn (chA ((l.take k) ++ [((a1, x2) : Int × Int)]))) rfl ?cy2 ?cy3 ?cy4 ?cy5 ?_)
                case cy1 => simp; omega
                case cy2 => exact fun _ => ⟨w1.heap.size, 0, rfl, fun i hi => HR1.out.rd (by simpa using hi)⟩
                case cy3 => exact fun a ha => by rw [chA_app]; exact rowsAn_app _ _ _ (by rw [chA_len]; rw [List.length_take]; omega)
                case cy4 => exact fun i j hi _ => by rw [chA_app, rowsAn_app2 _ _ _ _ (by rw [chA_len]; rw [List.length_take]; omega) (by rw [chA_len]; simpa using hi)]
                case cy5 => omega
                intro v2 w2 hO2 hg2 hv2
                have HB3 := Lib.hid (HB2.out.grown hg2 (by simp; omega) (fun k hk => (HO2.out.below_own k (by simpa using hk)).1))
                have HO3 : Hid (Owned w.heap.size 91 3 (k + 1) (rowsG rowAn (chA ((l.take k) ++ [((a1, x2) : Int × Int)]))) w2 v2) := Lib.hid (by simpa using hO2)
                clear hO2 hg2 hv2 HO2 HB2 HB1 HR1 HAL1
                obtain ⟨A2, c2, rfl, _⟩ := HO3.out.rd.sl_inv
                have hb3z := HB3.out.size
                go_wp2_with (at_builtin; refine wp_append_rows infoAn Tryz.underlying57 rfl (by omega) (by omega) rfl _ _ rfl w.heap.size ?cw1 (.slice A2 (k + 1) c2) (k + 1) (rowsG rowAn (chA ((l.take k) ++ [((a1, x2) : Int × Int)]))) rfl HO3.out (l.length - k) _ _ (rowsG rowAn (chA (l.drop k))) (rowsG rowAn (chA ((l.take k) ++ [((a1, x2) : Int × Int)] ++ (l.drop k)))) rfl ?cw2 ?cw3 ?cw4 ?cw5 ?_)
                case cw1 => omega
                case cw2 => exact fun _ => ⟨b, off + k * 3, rfl, fun i hi => ((HRW.out.below HB3.out hb).drop k).rd (by rw [List.length_drop]; omega)⟩
                case cw3 => exact fun a ha => by rw [chA_app ((l.take k) ++ [((a1, x2) : Int × Int)])]; exact rowsAn_app _ _ _ (by rw [chA_len, List.length_append, List.length_take, List.length_singleton]; omega)
                case cw4 => exact fun i j hi _ => by rw [chA_app ((l.take k) ++ [((a1, x2) : Int × Int)]), rowsAn_app2 _ _ _ _ (by rw [chA_len, List.length_append, List.length_take, List.length_singleton]; omega) (by rw [chA_len]; rw [List.length_drop]; omega)]
                case cw5 => omega
                intro v3 w3 hO4 hg3 hv3
                have hll : (insS l (a1, x2)).length = k + 1 + (l.length - k) := by rw [HINS.out, List.length_append, List.length_append, List.length_take, List.length_drop, List.length_singleton]; omega
                have hR9 : ∃ A c, v3 = .slice A (insS l (a1, x2)).length c ∧ Rd (Lt w3.heap.size) w3 (slG 3 rowAn (chA (insS l (a1, x2)))) (.slice A (insS l (a1, x2)).length c) ∧ Below w.heap.size w w3 := by
                  obtain ⟨A3, c3, e3, _⟩ := hO4.rd.sl_inv
                  refine ⟨A3, c3, by rw [hll]; exact e3, ?_, HB3.out.grown hg3 hb3z (fun k hk => (HO3.out.below_own k (by simpa using hk)).1)⟩
                  have h := hO4.rd
                  rw [e3] at h
                  unfold slG
                  rw [chA_len, hll, HINS.out]
                  first | exact h.weaken (fun q hq => hq.2) | (rw [List.append_assoc]; exact h.weaken (fun q hq => hq.2)) | (rw [List.append_nil, List.take_length]; exact h.weaken (fun q hq => hq.2))
                obtain ⟨A3, c3, rfl, hR3, hB4⟩ := hR9
                have HF := Lib.hid (show InsPost (insS l (a1, x2)) w (.returned (.slice A3 (insS l (a1, x2)).length c3)) w3 from ⟨A3, c3, rfl, hR3, hB4⟩)
                clear hR3 hB4 hO4 hg3 hv3 hll HB3 HO3
                go_wp2_with fail
                go_ret
                exact HF.out
          · have q2 : (a1 == x1) = false := by rw [beq_eq_false_iff_ne]; exact g2
            have HINS : Hid (insS l (x1, x2) = l.take k ++ [((x1, x2) : Int × Int)] ++ l.drop k) := Lib.hid (by
              rw [insS_at (x1, x2) l k (by omega) HLT.out (fun a ha => by
                rw [HA.out] at ha
                obtain rfl := Option.some.inj ha
                unfold ltC
                dsimp only
                omega), if_neg (fun h => by
                rw [HA.out] at h
                have h2 := Option.some.inj h
                injection h2 with h3 h4
                exact g2 h3), List.append_assoc]
              rfl)
            have HS1 : Hid (∀ X : World, Below w.heap.size w X → 0 < k → ∃ b1 o1, (some (⟨b, off, none⟩ : Addr)) = some ⟨b1, o1, none⟩ ∧ ∀ i, i < k → RdRow (fun q => Bt w.heap.size X.heap.size q ∧ some q ≠ (Value.slice (some ⟨w.heap.size, 0, none⟩) 0 0).ownBlock) X b1 (o1 + i * 3) 3 (rowsG rowAn (chA (l.take k)) i)) := Lib.hid (fun X hX hm => ⟨b, off, rfl, fun i hi => ((HRW.out.below hX hb).take k).rd (by rw [List.length_take]; omega)⟩)
            have hal : Below w.heap.size w (w.alloc (.cells #[] 91)) := (Below.refl _ _).alloc (Nat.le_refl _) _
            have HAL := Lib.hid hal
            have HE := Lib.hid (owned_empty w.heap.size w (Nat.le_refl _) (rowsG rowAn []))
            clear hal
            go_wp2_with (at_builtin; refine wp_append_rows infoAn Tryz.underlying57 rfl (by omega) (by omega) rfl _ _ rfl w.heap.size (by simp) (.slice (some ⟨w.heap.size, 0, none⟩) 0 0) 0 (rowsG rowAn []) rfl HE.out k _ (some (⟨b, off, none⟩ : Addr)) (rowsG rowAn (chA (l.take k))) (rowsG rowAn (chA (l.take k))) rfl (HS1.out _ HAL.out) (fun a ha => absurd ha (by omega)) (fun i j _ _ => by rw [Nat.zero_add]) (by omega) ?_)
            intro v1 w1 hO1 hg1 hv1
            have HB1 := Lib.hid (HAL.out.grown hg1 (by simp) (fun k hk => by have h : some w.heap.size = some k := hk; injection h with h; omega))
            have HO1 : Hid (Owned w.heap.size 91 3 k (rowsG rowAn (chA (l.take k))) w1 v1) := Lib.hid (by simpa using hO1)
            clear hO1 hg1 hv1 HE HAL
            obtain ⟨A1, c1, rfl, _⟩ := HO1.out.rd.sl_inv
            have hb1z := HB1.out.size
            have hal : Below w1.heap.size w1 (w1.alloc (.cells #[.string ⟨#[]⟩, .int .i64 x1, .int .i64 x2] 91)) := (Below.refl _ _).alloc (Nat.le_refl _) _
            have HAL1 := Lib.hid hal
            have HO2 := Lib.hid (HO1.out.below hal)
            have HB2 := Lib.hid (HB1.out.trans (hal.mono hb1z))
            have HR1 : Hid (RowsAt (w1.alloc (.cells #[.string ⟨#[]⟩, .int .i64 x1, .int .i64 x2] 91)) w1.heap.size 0 [((x1, x2) : Int × Int)]) := Lib.hid (fun i a ha => by
              match i with
              | 0 =>
                obtain rfl := Option.some.inj ha
                have hn := CellsAt.new w1 #[.string ⟨#[]⟩, .int .i64 x1, .int .i64 x2] 91
                exact ⟨by rw [hn.cell]; rfl, by rw [hn.cell]; rfl, by rw [hn.cell]; rfl⟩
              | i + 1 => cases ha)
            clear hal HO1
            go_wp2_with (at_builtin; refine wp_append_rows infoAn Tryz.underlying57 rfl (by omega) (by omega) rfl _ _ rfl w.heap.size ?cy1 (.slice A1 k c1) k (rowsG rowAn (chA (l.take k))) rfl HO2.out 1 _ _ (rowsG rowAn (chA [((x1, x2) : Int × Int)])) (rowsG rowAn (chA ((l.take k) ++ [((x1, x2) : Int × Int)]))) rfl ?cy2 ?cy3 ?cy4 ?cy5 ?_)
            case cy1 => simp; omega
            case cy2 => exact fun _ => ⟨w1.heap.size, 0, rfl, fun i hi => HR1.out.rd (by simpa using hi)⟩
            case cy3 => exact fun a ha => by rw [chA_app]; exact rowsAn_app _ _ _ (by rw [chA_len]; rw [List.length_take]; omega)
            case cy4 => exact fun i j hi _ => by rw [chA_app, rowsAn_app2 _ _ _ _ (by rw [chA_len]; rw [List.length_take]; omega) (by rw [chA_len]; simpa using hi)]
            case cy5 => omega
            intro v2 w2 hO2 hg2 hv2
            have HB3 := Lib.hid (HB2.out.grown hg2 (by simp; omega) (fun k hk => (HO2.out.below_own k (by simpa using hk)).1))
            have HO3 : Hid (Owned w.heap.size 91 3 (k + 1) (rowsG rowAn (chA ((l.take k) ++ [((x1, x2) : Int × Int)]))) w2 v2) := Lib.hid (by simpa using hO2)
            clear hO2 hg2 hv2 HO2 HB2 HB1 HR1 HAL1
            obtain ⟨A2, c2, rfl, _⟩ := HO3.out.rd.sl_inv
            have hb3z := HB3.out.size
            go_wp2_with (at_builtin; refine wp_append_rows infoAn Tryz.underlying57 rfl (by omega) (by omega) rfl _ _ rfl w.heap.size ?cw1 (.slice A2 (k + 1) c2) (k + 1) (rowsG rowAn (chA ((l.take k) ++ [((x1, x2) : Int × Int)]))) rfl HO3.out (l.length - k) _ _ (rowsG rowAn (chA (l.drop k))) (rowsG rowAn (chA ((l.take k) ++ [((x1, x2) : Int × Int)] ++ (l.drop k)))) rfl ?cw2 ?cw3 ?cw4 ?cw5 ?_)
            case cw1 => omega
            case cw2 => exact fun _ => ⟨b, off + k * 3, rfl, fun i hi => ((HRW.out.below HB3.out hb).drop k).rd (by rw [List.length_drop]; omega)⟩
            case cw3 => exact fun a ha => by rw [chA_app ((l.take k) ++ [((x1, x2) : Int × Int)])]; exact rowsAn_app _ _ _ (by rw [chA_len, List.length_append, List.length_take, List.length_singleton]; omega)
            case cw4 => exact fun i j hi _ => by rw [chA_app ((l.take k) ++ [((x1, x2) : Int × Int)]), rowsAn_app2 _ _ _ _ (by rw [chA_len, List.length_append, List.length_take, List.length_singleton]; omega) (by rw [chA_len]; rw [List.length_drop]; omega)]
            case cw5 => omega
            intro v3 w3 hO4 hg3 hv3
            have hll : (insS l (x1, x2)).length = k + 1 + (l.length - k) := by rw [HINS.out, List.length_append, List.length_append, List.length_take, List.length_drop, List.length_singleton]; omega
            have hR9 : ∃ A c, v3 = .slice A (insS l (x1, x2)).length c ∧ Rd (Lt w3.heap.size) w3 (slG 3 rowAn (chA (insS l (x1, x2)))) (.slice A (insS l (x1, x2)).length c) ∧ Below w.heap.size w w3 := by
              obtain ⟨A3, c3, e3, _⟩ := hO4.rd.sl_inv
              refine ⟨A3, c3, by rw [hll]; exact e3, ?_, HB3.out.grown hg3 hb3z (fun k hk => (HO3.out.below_own k (by simpa using hk)).1)⟩
              have h := hO4.rd
              rw [e3] at h
              unfold slG
              rw [chA_len, hll, HINS.out]
              first | exact h.weaken (fun q hq => hq.2) | (rw [List.append_assoc]; exact h.weaken (fun q hq => hq.2)) | (rw [List.append_nil, List.take_length]; exact h.weaken (fun q hq => hq.2))
            obtain ⟨A3, c3, rfl, hR3, hB4⟩ := hR9
            have HF := Lib.hid (show InsPost (insS l (x1, x2)) w (.returned (.slice A3 (insS l (x1, x2)).length c3)) w3 from ⟨A3, c3, rfl, hR3, hB4⟩)
            clear hR3 hB4 hO4 hg3 hv3 hll HB3 HO3
            go_wp2_with fail
            go_ret
            exact HF.out
      · obtain rfl : k = l.length := by omega
        obtain ⟨x1, x2⟩ := x
        have hin : ¬ ((l.length : Int) < l.length) := by omega
        have HINS : Hid (insS l (x1, x2) = l.take l.length ++ [((x1, x2) : Int × Int)] ++ []) := Lib.hid (by
          have hn : l[l.length]? = none := List.getElem?_eq_none (Nat.le_refl _)
          rw [insS_at (x1, x2) l l.length (by omega) HLT.out (fun a ha => by rw [hn] at ha; cases ha), if_neg (by rw [hn]; simp), List.append_nil, List.drop_eq_nil_of_le (Nat.le_refl _)])
        by_cases hcl : c = l.length
        · skip
          have HS1 : Hid (∀ X : World, Below w.heap.size w X → 0 < l.length → ∃ b1 o1, (some (⟨b, off, none⟩ : Addr)) = some ⟨b1, o1, none⟩ ∧ ∀ i, i < l.length → RdRow (fun q => Bt w.heap.size X.heap.size q ∧ some q ≠ (Value.slice (some ⟨w.heap.size, 0, none⟩) 0 0).ownBlock) X b1 (o1 + i * 3) 3 (rowsG rowAn (chA (l.take l.length)) i)) := Lib.hid (fun X hX hm => ⟨b, off, rfl, fun i hi => ((HRW.out.below hX hb).take l.length).rd (by rw [List.length_take]; omega)⟩)
          have hal : Below w.heap.size w (w.alloc (.cells #[] 91)) := (Below.refl _ _).alloc (Nat.le_refl _) _
          have HAL := Lib.hid hal
          have HE := Lib.hid (owned_empty w.heap.size w (Nat.le_refl _) (rowsG rowAn []))
          clear hal
          go_wp2_with (at_builtin; refine wp_append_rows infoAn Tryz.underlying57 rfl (by omega) (by omega) rfl _ _ rfl w.heap.size (by simp) (.slice (some ⟨w.heap.size, 0, none⟩) 0 0) 0 (rowsG rowAn []) rfl HE.out l.length _ (some (⟨b, off, none⟩ : Addr)) (rowsG rowAn (chA (l.take l.length))) (rowsG rowAn (chA (l.take l.length))) rfl (HS1.out _ HAL.out) (fun a ha => absurd ha (by omega)) (fun i j _ _ => by rw [Nat.zero_add]) (by omega) ?_)
          intro v1 w1 hO1 hg1 hv1
          have HB1 := Lib.hid (HAL.out.grown hg1 (by simp) (fun k hk => by have h : some w.heap.size = some k := hk; injection h with h; omega))
          have HO1 : Hid (Owned w.heap.size 91 3 l.length (rowsG rowAn (chA (l.take l.length))) w1 v1) := Lib.hid (by simpa using hO1)
          clear hO1 hg1 hv1 HE HAL
          obtain ⟨A1, c1, rfl, _⟩ := HO1.out.rd.sl_inv
          have hb1z := HB1.out.size
          have hal : Below w1.heap.size w1 (w1.alloc (.cells #[.string ⟨#[]⟩, .int .i64 x1, .int .i64 x2] 91)) := (Below.refl _ _).alloc (Nat.le_refl _) _
          have HAL1 := Lib.hid hal
          have HO2 := Lib.hid (HO1.out.below hal)
          have HB2 := Lib.hid (HB1.out.trans (hal.mono hb1z))
          have HR1 : Hid (RowsAt (w1.alloc (.cells #[.string ⟨#[]⟩, .int .i64 x1, .int .i64 x2] 91)) w1.heap.size 0 [((x1, x2) : Int × Int)]) := Lib.hid (fun i a ha => by
            match i with
            | 0 =>
              obtain rfl := Option.some.inj ha
              have hn := CellsAt.new w1 #[.string ⟨#[]⟩, .int .i64 x1, .int .i64 x2] 91
              exact ⟨by rw [hn.cell]; rfl, by rw [hn.cell]; rfl, by rw [hn.cell]; rfl⟩
            | i + 1 => cases ha)
          clear hal HO1
          go_wp2_with (at_builtin; refine wp_append_rows infoAn Tryz.underlying57 rfl (by omega) (by omega) rfl _ _ rfl w.heap.size ?cy1 (.slice A1 l.length c1) l.length (rowsG rowAn (chA (l.take l.length))) rfl HO2.out 1 _ _ (rowsG rowAn (chA [((x1, x2) : Int × Int)])) (rowsG rowAn (chA ((l.take l.length) ++ [((x1, x2) : Int × Int)]))) rfl ?cy2 ?cy3 ?cy4 ?cy5 ?_)
          case cy1 => simp; omega
          case cy2 => exact fun _ => ⟨w1.heap.size, 0, rfl, fun i hi => HR1.out.rd (by simpa using hi)⟩
          case cy3 => exact fun a ha => by rw [chA_app]; exact rowsAn_app _ _ _ (by rw [chA_len]; rw [List.length_take]; omega)
          case cy4 => exact fun i j hi _ => by rw [chA_app, rowsAn_app2 _ _ _ _ (by rw [chA_len]; rw [List.length_take]; omega) (by rw [chA_len]; simpa using hi)]
          case cy5 => omega
          intro v2 w2 hO2 hg2 hv2
          have HB3 := Lib.hid (HB2.out.grown hg2 (by simp; omega) (fun k hk => (HO2.out.below_own k (by simpa using hk)).1))
          have HO3 : Hid (Owned w.heap.size 91 3 (l.length + 1) (rowsG rowAn (chA ((l.take l.length) ++ [((x1, x2) : Int × Int)]))) w2 v2) := Lib.hid (by simpa using hO2)
          clear hO2 hg2 hv2 HO2 HB2 HB1 HR1 HAL1
          obtain ⟨A2, c2, rfl, _⟩ := HO3.out.rd.sl_inv
          have hb3z := HB3.out.size
          go_wp2_with (at_builtin; refine wp_append_rows infoAn Tryz.underlying57 rfl (by omega) (by omega) rfl _ _ rfl w.heap.size ?cw1 (.slice A2 (l.length + 1) c2) (l.length + 1) (rowsG rowAn (chA ((l.take l.length) ++ [((x1, x2) : Int × Int)]))) rfl HO3.out 0 _ _ (rowsG rowAn (chA ([] : List (Int × Int)))) (rowsG rowAn (chA ((l.take l.length) ++ [((x1, x2) : Int × Int)] ++ ([] : List (Int × Int))))) rfl ?cw2 ?cw3 ?cw4 ?cw5 ?_)
          case cw1 => omega
          case cw2 => exact fun h => absurd h (by omega)
          case cw3 => exact fun a ha => by rw [chA_app ((l.take l.length) ++ [((x1, x2) : Int × Int)])]; exact rowsAn_app _ _ _ (by rw [chA_len, List.length_append, List.length_take, List.length_singleton]; omega)
          case cw4 => exact fun i j hi _ => by rw [chA_app ((l.take l.length) ++ [((x1, x2) : Int × Int)]), rowsAn_app2 _ _ _ _ (by rw [chA_len, List.length_append, List.length_take, List.length_singleton]; omega) (by rw [chA_len]; exact hi)]
          case cw5 => omega
          intro v3 w3 hO4 hg3 hv3
          have hll : (insS l (x1, x2)).length = l.length + 1 + 0 := by rw [HINS.out, List.length_append, List.length_append, List.length_take, List.length_singleton]; simp
          have hR9 : ∃ A c, v3 = .slice A (insS l (x1, x2)).length c ∧ Rd (Lt w3.heap.size) w3 (slG 3 rowAn (chA (insS l (x1, x2)))) (.slice A (insS l (x1, x2)).length c) ∧ Below w.heap.size w w3 := by
            obtain ⟨A3, c3, e3, _⟩ := hO4.rd.sl_inv
            refine ⟨A3, c3, by rw [hll]; exact e3, ?_, HB3.out.grown hg3 hb3z (fun k hk => (HO3.out.below_own k (by simpa using hk)).1)⟩
            have h := hO4.rd
            rw [e3] at h
            unfold slG
            rw [chA_len, hll, HINS.out]
            first | exact h.weaken (fun q hq => hq.2) | (rw [List.append_assoc]; exact h.weaken (fun q hq => hq.2)) | (rw [List.append_nil, List.take_length]; exact h.weaken (fun q hq => hq.2))
          obtain ⟨A3, c3, rfl, hR3, hB4⟩ := hR9
          have HF := Lib.hid (show InsPost (insS l (x1, x2)) w (.returned (.slice A3 (insS l (x1, x2)).length c3)) w3 from ⟨A3, c3, rfl, hR3, hB4⟩)
          clear hR3 hB4 hO4 hg3 hv3 hll HB3 HO3
          go_wp2_with fail
          go_ret
          exact HF.out
        · skip
          have HS1 : Hid (∀ X : World, Below w.heap.size w X → 0 < l.length → ∃ b1 o1, (some (⟨b, off, none⟩ : Addr)) = some ⟨b1, o1, none⟩ ∧ ∀ i, i < l.length → RdRow (fun q => Bt w.heap.size X.heap.size q ∧ some q ≠ (Value.slice (some ⟨w.heap.size, 0, none⟩) 0 0).ownBlock) X b1 (o1 + i * 3) 3 (rowsG rowAn (chA (l.take l.length)) i)) := Lib.hid (fun X hX hm => ⟨b, off, rfl, fun i hi => ((HRW.out.below hX hb).take l.length).rd (by rw [List.length_take]; omega)⟩)
          have hal : Below w.heap.size w (w.alloc (.cells #[] 91)) := (Below.refl _ _).alloc (Nat.le_refl _) _
          have HAL := Lib.hid hal
          have HE := Lib.hid (owned_empty w.heap.size w (Nat.le_refl _) (rowsG rowAn []))
          clear hal
          go_wp2_with (at_builtin; refine wp_append_rows infoAn Tryz.underlying57 rfl (by omega) (by omega) rfl _ _ rfl w.heap.size (by simp) (.slice (some ⟨w.heap.size, 0, none⟩) 0 0) 0 (rowsG rowAn []) rfl HE.out l.length _ (some (⟨b, off, none⟩ : Addr)) (rowsG rowAn (chA (l.take l.length))) (rowsG rowAn (chA (l.take l.length))) rfl (HS1.out _ HAL.out) (fun a ha => absurd ha (by omega)) (fun i j _ _ => by rw [Nat.zero_add]) (by omega) ?_)
          intro v1 w1 hO1 hg1 hv1
          have HB1 := Lib.hid (HAL.out.grown hg1 (by simp) (fun k hk => by have h : some w.heap.size = some k := hk; injection h with h; omega))
          have HO1 : Hid (Owned w.heap.size 91 3 l.length (rowsG rowAn (chA (l.take l.length))) w1 v1) := Lib.hid (by simpa using hO1)
          clear hO1 hg1 hv1 HE HAL
          obtain ⟨A1, c1, rfl, _⟩ := HO1.out.rd.sl_inv
          have hb1z := HB1.out.size
          have hal : Below w1.heap.size w1 (w1.alloc (.cells #[.string ⟨#[]⟩, .int .i64 x1, .int .i64 x2] 91)) := (Below.refl _ _).alloc (Nat.le_refl _) _
          have HAL1 := Lib.hid hal
          have HO2 := Lib.hid (HO1.out.below hal)
          have HB2 := Lib.hid (HB1.out.trans (hal.mono hb1z))
          have HR1 : Hid (RowsAt (w1.alloc (.cells #[.string ⟨#[]⟩, .int .i64 x1, .int .i64 x2] 91)) w1.heap.size 0 [((x1, x2) : Int × Int)]) := Lib.hid (fun i a ha => by
            match i with
            | 0 =>
              obtain rfl := Option.some.inj ha
              have hn := CellsAt.new w1 #[.string ⟨#[]⟩, .int .i64 x1, .int .i64 x2] 91
              exact ⟨by rw [hn.cell]; rfl, by rw [hn.cell]; rfl, by rw [hn.cell]; rfl⟩
            | i + 1 => cases ha)
          clear hal HO1
          go_wp2_with (at_builtin; refine wp_append_rows infoAn Tryz.underlying57 rfl (by omega) (by omega) rfl _ _ rfl w.heap.size ?cy1 (.slice A1 l.length c1) l.length (rowsG rowAn (chA (l.take l.length))) rfl HO2.out 1 _ _ (rowsG rowAn (chA [((x1, x2) : Int × Int)])) (rowsG rowAn (chA ((l.take l.length) ++ [((x1, x2) : Int × Int)]))) rfl ?cy2 ?cy3 ?cy4 ?cy5 ?_)
          case cy1 => simp; omega
          case cy2 => exact fun _ => ⟨w1.heap.size, 0, rfl, fun i hi => HR1.out.rd (by simpa using hi)⟩
          case cy3 => exact fun a ha => by rw [chA_app]; exact rowsAn_app _ _ _ (by rw [chA_len]; rw [List.length_take]; omega)
          case cy4 => exact fun i j hi _ => by rw [chA_app, rowsAn_app2 _ _ _ _ (by rw [chA_len]; rw [List.length_take]; omega) (by rw [chA_len]; simpa using hi)]
          case cy5 => omega
          intro v2 w2 hO2 hg2 hv2
          have HB3 := Lib.hid (HB2.out.grown hg2 (by simp; omega) (fun k hk => (HO2.out.below_own k (by simpa using hk)).1))
          have HO3 : Hid (Owned w.heap.size 91 3 (l.length + 1) (rowsG rowAn (chA ((l.take l.length) ++ [((x1, x2) : Int × Int)]))) w2 v2) := Lib.hid (by simpa using hO2)
          clear hO2 hg2 hv2 HO2 HB2 HB1 HR1 HAL1
          obtain ⟨A2, c2, rfl, _⟩ := HO3.out.rd.sl_inv
          have hb3z := HB3.out.size
          go_wp2_with (at_builtin; refine wp_append_rows infoAn Tryz.underlying57 rfl (by omega) (by omega) rfl _ _ rfl w.heap.size ?cw1 (.slice A2 (l.length + 1) c2) (l.length + 1) (rowsG rowAn (chA ((l.take l.length) ++ [((x1, x2) : Int × Int)]))) rfl HO3.out 0 _ _ (rowsG rowAn (chA ([] : List (Int × Int)))) (rowsG rowAn (chA ((l.take l.length) ++ [((x1, x2) : Int × Int)] ++ ([] : List (Int × Int))))) rfl ?cw2 ?cw3 ?cw4 ?cw5 ?_)
          case cw1 => omega
          case cw2 => exact fun h => absurd h (by omega)
          case cw3 => exact fun a ha => by rw [chA_app ((l.take l.length) ++ [((x1, x2) : Int × Int)])]; exact rowsAn_app _ _ _ (by rw [chA_len, List.length_append, List.length_take, List.length_singleton]; omega)
          case cw4 => exact fun i j hi _ => by rw [chA_app ((l.take l.length) ++ [((x1, x2) : Int × Int)]), rowsAn_app2 _ _ _ _ (by rw [chA_len, List.length_append, List.length_take, List.length_singleton]; omega) (by rw [chA_len]; exact hi)]
          case cw5 => omega
          intro v3 w3 hO4 hg3 hv3
          have hll : (insS l (x1, x2)).length = l.length + 1 + 0 := by rw [HINS.out, List.length_append, List.length_append, List.length_take, List.length_singleton]; simp
          have hR9 : ∃ A c, v3 = .slice A (insS l (x1, x2)).length c ∧ Rd (Lt w3.heap.size) w3 (slG 3 rowAn (chA (insS l (x1, x2)))) (.slice A (insS l (x1, x2)).length c) ∧ Below w.heap.size w w3 := by
            obtain ⟨A3, c3, e3, _⟩ := hO4.rd.sl_inv
            refine ⟨A3, c3, by rw [hll]; exact e3, ?_, HB3.out.grown hg3 hb3z (fun k hk => (HO3.out.below_own k (by simpa using hk)).1)⟩
            have h := hO4.rd
            rw [e3] at h
            unfold slG
            rw [chA_len, hll, HINS.out]
            first | exact h.weaken (fun q hq => hq.2) | (rw [List.append_assoc]; exact h.weaken (fun q hq => hq.2)) | (rw [List.append_nil, List.take_length]; exact h.weaken (fun q hq => hq.2))
          obtain ⟨A3, c3, rfl, hR3, hB4⟩ := hR9
          have HF := Lib.hid (show InsPost (insS l (x1, x2)) w (.returned (.slice A3 (insS l (x1, x2)).length c3)) w3 from ⟨A3, c3, rfl, hR3, hB4⟩)
          clear hR3 hB4 hO4 hg3 hv3 hll HB3 HO3
          go_wp2_with fail
          go_ret
          exact HF.out
end Go.Proofs.YtlbmfgiepcemdaaGreat
