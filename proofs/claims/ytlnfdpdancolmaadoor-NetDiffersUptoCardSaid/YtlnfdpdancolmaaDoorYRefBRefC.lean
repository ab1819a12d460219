/- ref44.Find, equal, Equal. Conditions: those in each statement. ref44.put. Conditions: those in each statement. -/
import Derived.Test.YtlnfdpdancolmaaDoorYPlainNRefA
import Derived.Test.YtlnfdpdancolmaaDoorYRefSameEach
namespace Go.Proofs.YtlnfdpdancolmaaDoor
open Go.RowKit

set_option maxHeartbeats 1000000 in
theorem rfind_any (l : List Out) (A : Option Addr) (n c : Nat) (key : ByteArray) (w : World) (hr : Rd (Lt w.heap.size) w (slOut l) (.slice A n c)) (hn : n ≤ 4194304) :
    Calls Tryd.prog 28 #[.slice A n c, .string key] w fun e w' => e = .returned (.int .i64 (findI l key)) ∧ w' = w := by
  have hl := slOut_len hr
  have HR := Lib.hid hr
  have HL := Lib.hid hl.1
  clear hr hl
  go_enter Tryd.func28, Tryd.ntmps28
  go_wp2_with fail
  go_loop [5] (fun s5 => ∃ k : Nat, k ≤ n ∧ s5 = .int .i64 k ∧ Hid (∀ (i : Nat) (y : Out), i < k → l[i]? = some y → hasKey key y = false)) (fun s5 => n - (intOf s5).toNat)
  case atStart => exact ⟨0, by omega, rfl, Lib.hid (fun i y h => absurd h (by omega))⟩
  case round =>
    obtain ⟨k, hk, rfl, HN⟩ := hrel
    by_cases hlt : k < n
    · obtain ⟨b, off, x, rfl, _, hget, A', c', h2⟩ := slOut_at HR.out hlt
      obtain ⟨d0, d1, d2, d3, d4, _⟩ := h2
      have HG := Lib.hid hget
      clear hget
      cases hp : (x.key.toList == key.toList) with
      | true =>
        have HI : Hid (findI l key = (k : Int)) := Lib.hid (idx_yes HN.out HG.out hp)
        go_wp2_with fail
        go_ret
        exact ⟨by rw [HI.out]; rfl, rfl⟩
      | false =>
        have HI : Hid (∀ (i : Nat) (y : Out), i < k + 1 → l[i]? = some y → hasKey key y = false) := Lib.hid (fun i y h hy => by
          rcases Nat.lt_or_ge i k with h1 | h1
          · exact HN.out i y h1 hy
          · obtain rfl : i = k := by omega
            rw [HG.out] at hy
            obtain rfl := Option.some.inj hy
            exact hp)
        go_wp2_with fail
        exact ⟨⟨k + 1, by omega, by go_num, HI⟩, by simp [intOf]; omega⟩
    · have HI : Hid (findI l key = -1) := Lib.hid (idx_no (fun i y hy => HN.out i y (by have := (List.getElem?_eq_some_iff.1 hy).1; have := HL.out; omega) hy))
      go_wp2_with fail
      go_ret
      exact ⟨by rw [HI.out]; rfl, rfl⟩

/-- equality of effects, with their ticks if told so -/
def eqOT (x y : Out) (t : Bool) : Bool := (x.key.toList == y.key.toList) && ((x.name.toList == y.name.toList) && ((x.part == y.part) && (eqVs x.args y.args && (!t || (x.tick == y.tick)))))
theorem eqOT_self (x : Out) (t : Bool) : eqOT x x t = true := by unfold eqOT; simp [(eqVs_iff x.args x.args).2 rfl]

set_option maxHeartbeats 4000000 in
theorem requalO (x y : Out) (t : Bool) (A A' : Option Addr) (c c' : Nat) (w : World) (hb : bulkV x.args ≤ 2097152) (hb' : bulkV y.args ≤ 2097152) (hr : Rd (Lt w.heap.size) w (vs x.args) (.slice A x.args.length c)) (hr' : Rd (Lt w.heap.size) w (vs y.args) (.slice A' y.args.length c')) :
    Calls Tryd.prog 30 #[.agg #[.string x.key, .string x.name, .slice A x.args.length c, .bool x.part, .int .i64 x.tick], .agg #[.string y.key, .string y.name, .slice A' y.args.length c', .bool y.part, .int .i64 y.tick], .bool t] w fun e w' => e = .returned (.bool (eqOT x y t)) ∧ Below w.heap.size w w' := by
  have HR := Lib.hid hr
  have HR' := Lib.hid hr'
  have HS := Lib.hid (rsameOk hb)
  unfold RSameOk at HS
  clear hr hr'
  have HU : Hid (eqOT x y t = ((x.key.toList == y.key.toList) && ((x.name.toList == y.name.toList) && ((x.part == y.part) && (eqVs x.args y.args && (!t || (x.tick == y.tick))))))) := Lib.hid rfl
  generalize eqOT x y t = R at *
  have fin : ∀ x y : Obj, Below w.heap.size w ((w.alloc x).alloc y) := fun x y => ((Below.refl _ _).alloc (Nat.le_refl _) _).alloc (by simp) _
  have FIN := Lib.hid fin
  clear fin
  cases h1 : (x.key.toList == y.key.toList) with
  | false =>
    rw [h1] at HU
    go_enter Tryd.func30, Tryd.ntmps30
    go_wp2_with fail
    go_ret
    exact ⟨by rw [HU.out]; rfl, FIN.out _ _⟩
  | true =>
    rw [h1] at HU
    cases h2 : (x.name.toList == y.name.toList) with
    | false =>
      rw [h2] at HU
      go_enter Tryd.func30, Tryd.ntmps30
      go_wp2_with fail
      go_ret
      exact ⟨by rw [HU.out]; rfl, FIN.out _ _⟩
    | true =>
      rw [h2] at HU
      cases h3 : (x.part == y.part) with
      | false =>
        rw [h3] at HU
        go_enter Tryd.func30, Tryd.ntmps30
        go_wp2_with fail
        go_ret
        exact ⟨by rw [HU.out]; rfl, FIN.out _ _⟩
      | true =>
        rw [h3] at HU
        generalize hg : eqVs x.args y.args = g at *
        have HC : Hid (∀ W, Rd (Lt W.heap.size) W (vs x.args) (.slice A x.args.length c) → Rd (Lt W.heap.size) W (vs y.args) (.slice A' y.args.length c') → Calls Tryd.prog 26 #[.slice A x.args.length c, .slice A' y.args.length c'] W fun e w' => e = .returned (.bool g) ∧ Below W.heap.size W w') := Lib.hid (fun W h1 h2 => by rw [← hg]; exact HS.out y.args A A' _ _ c c' W hb' h1 h2)
        clear hg HS
        go_enter Tryd.func30, Tryd.ntmps30
        go_wp2_with fail
        (with_reducible refine (HC.out _ ?_ ?_).mono ?_)
        · exact (HR.out.allocs _).allocs _
        · exact (HR'.out.allocs _).allocs _
        rintro e w1 ⟨rfl, hb1⟩
        have t0 : w1.cell? ⟨w.heap.size, 4, none⟩ = some (.int .i64 x.tick) := (hb1.cell (p := ⟨w.heap.size, 4, none⟩) (by simp; omega)).trans (by simp)
        have t1 : w1.cell? ⟨w.heap.size + 1, 4, none⟩ = some (.int .i64 y.tick) := (hb1.cell (p := ⟨w.heap.size + 1, 4, none⟩) (by simp)).trans (by simp)
        have HB1 := Lib.hid ((FIN.out _ _).trans (hb1.mono (by simp; omega)))
        clear hb1
        cases g with
        | false =>
          go_wp2_with fail
          go_ret
          exact ⟨by rw [HU.out]; rfl, HB1.out⟩
        | true =>
          cases t with
          | false =>
            go_wp2_with fail
            go_ret
            exact ⟨by rw [HU.out]; rfl, HB1.out⟩
          | true =>
            go_wp2_with fail
            go_ret
            exact ⟨by rw [HU.out]; simp, HB1.out⟩

set_option maxHeartbeats 4000000 in
theorem rEqual_same (l : List Out) (A A' : Option Addr) (n c c' : Nat) (w : World) (hb : bulkOut l ≤ 2097152) (hr : Rd (Lt w.heap.size) w (slOut l) (.slice A n c)) (hr' : Rd (Lt w.heap.size) w (slOut l) (.slice A' n c')) :
    Calls Tryd.prog 14 #[.slice A n c, .slice A' n c'] w fun e w' => e = .returned (.bool true) ∧ Below w.heap.size w w' := by
  have hl := slOut_len hr
  have hln := bulkOut_len l
  have HR := Lib.hid hr
  have HR' := Lib.hid hr'
  have hn : n ≤ 2097152 := by omega
  clear hr hr' hl
  go_enter Tryd.func14, Tryd.ntmps14
  go_wp2_with fail
  go_loopw [5] (fun s5 wr => ∃ i : Nat, i ≤ n ∧ s5 = .int .i64 i ∧ Hid (Below w.heap.size w wr)) (fun s5 _ => n - (intOf s5).toNat)
  case atStart => exact ⟨0, by omega, rfl, Lib.hid (Below.refl _ _)⟩
  case round =>
    obtain ⟨i, hi, rfl, HB⟩ := hrel
    by_cases hlt : i < n
    · obtain ⟨b, off, x, e, hlb, hget, A2, c2, hat⟩ := slOut_at (HR.out.belows HB.out) hlt
      subst e
      obtain ⟨b', off', y, e, hlb', hget', A3, c3, hat'⟩ := slOut_at (HR'.out.belows HB.out) hlt
      subst e
      rw [hget] at hget'
      obtain rfl := Option.some.inj hget'
      obtain ⟨p0, p1, p2, p3, p4, r2⟩ := hat
      obtain ⟨q0, q1, q2, q3, q4, r2'⟩ := hat'
      have hbk := bulkOut_get hget
      unfold Out.bulk at hbk
      have HC : Hid (∀ W, Rd (Lt W.heap.size) W (vs x.args) (.slice A2 x.args.length c2) → Rd (Lt W.heap.size) W (vs x.args) (.slice A3 x.args.length c3) → _) := Lib.hid (fun W h1 h2 => requalO x x true A2 A3 c2 c3 W (by omega) (by omega) h1 h2)
      rw [eqOT_self] at HC
      have R2 := Lib.hid r2
      have R2' := Lib.hid r2'
      have hlb1 : b < wr.heap.size := hlb
      have hlb2 : b' < wr.heap.size := hlb'
      have hin : (i : Int) < n := by omega
      clear r2 r2' hget hget' hbk hlb hlb'
      go_wp2_with fail
      go_region_with (first | (go_at_call 30; refine (HC.out _ R2.out.drew R2'.out.drew).mono ?_; rintro e w4 ⟨rfl, hb4⟩; have B4 := Lib.hid (HB.out.drew.trans (hb4.mono HB.out.size)); clear hb4))
      all_goals (
        go_wp2_with fail
        exact ⟨⟨i + 1, by omega, by go_num, B4⟩, by simp [intOf]; omega⟩)
    · go_wp2_with fail
      go_ret
      exact ⟨rfl, HB.out⟩
end Go.Proofs.YtlnfdpdancolmaaDoor
namespace Go.Proofs.YtlnfdpdancolmaaDoor
open Go.RowKit

set_option maxHeartbeats 2000000 in
theorem oc_set {B : Nat} {w : World} {g cap k : Nat} {ks : List OC} (y : OC) (h : w.ownsRow B 45 5 (.slice (some ⟨g, 0, none⟩) ks.length cap) ks.length (ks.flatMap OC.cells)) (hk : k < ks.length) :
    (w.setCells g (k * 5) y.cells).ownsRow B 45 5 (.slice (some ⟨g, 0, none⟩) ks.length cap) (ks.set k y).length ((ks.set k y).flatMap OC.cells) := by
  have hcs := h.cells (g := g) rfl
  rcases h.2 with ⟨hv, _⟩ | ⟨g', cap', cur, hv, hB, hcur, hnc, hcm, hsz, htk⟩
  · injection hv with hv; cases hv
  injection hv with hv1 _ hv3
  injection hv1 with hv1
  injection hv1 with hv1
  subst hv1 hv3
  obtain ⟨cur', h1, h2⟩ := heap_setCells g y.cells (k * 5) w cur _ _ hcur
  refine ⟨OC.flat_len _, .inr ⟨g, cap, cur', by rw [List.length_set], hB, h1, by rw [List.length_set]; exact hnc, hcm, by omega, ?_⟩⟩
  rw [List.length_set]
  have hc5 : ∀ j, j < y.cells.length → (w.cell? ⟨g, k * 5 + j, none⟩).isSome = true := fun j hj => by
    rw [OC.cells_len] at hj
    rw [cell_of_row w g (k * 5 + j) cur _ _ hcur]
    have : k * 5 + 5 ≤ ks.length * 5 := row_le hk
    have : ks.length * 5 ≤ cap * 5 := Nat.mul_le_mul_right 5 hnc
    rw [Array.getElem?_eq_getElem (by omega)]; rfl
  apply List.ext_getElem?
  intro j
  by_cases hj : j < ks.length * 5
  · rw [List.getElem?_take, if_pos hj, Array.getElem?_toList]
    have hcell : (w.setCells g (k * 5) y.cells).cell? ⟨g, j, none⟩ = cur'[j]? := cell_of_row _ g j cur' _ _ h1
    rw [← hcell]
    have hd : j / 5 < ks.length := by omega
    have hm : j % 5 < 5 := Nat.mod_lt _ (by omega)
    have hx : (ks.set k y)[j / 5]? = some (if k = j / 5 then y else ks[j / 5]) := by
      rw [List.getElem?_set]
      split
      · rfl
      · exact List.getElem?_eq_getElem hd
    have hfl := flat_get OC.cells 5 OC.cells_len (ks.set k y) (j / 5) _ (j % 5) hx hm
    rw [show j / 5 * 5 + j % 5 = j by omega] at hfl
    rw [hfl]
    by_cases he : k = j / 5
    · rw [if_pos he, cell_in hc5 j (by omega) (by rw [OC.cells_len]; omega), show j - k * 5 = j % 5 by omega]
    · rw [if_neg he, cell_out j (by rw [OC.cells_len]; omega)]
      have hu : (ks.flatMap OC.cells)[j]? = ks[j / 5].cells[j % 5]? := by
        have := flat_get OC.cells 5 OC.cells_len ks (j / 5) _ (j % 5) (List.getElem?_eq_getElem hd) hm
        rwa [show j / 5 * 5 + j % 5 = j by omega] at this
      have hlt : j % 5 < (ks[j / 5]).cells.length := by rw [OC.cells_len]; exact hm
      rw [List.getElem?_eq_getElem hlt] at hu ⊢
      have := hcs j _ hu
      rw [Addr.add_lit, Nat.zero_add] at this
      exact this
  · rw [List.getElem?_take, if_neg hj, List.getElem?_eq_none (by rw [OC.flat_len, List.length_set]; omega)]
theorem oc_form {B : Nat} {w : World} {v : Value} {n : Nat} {xs : List Value} (h : w.ownsRow B 45 5 v n xs) (h0 : 0 < n) : ∃ g cap, v = .slice (some ⟨g, 0, none⟩) n cap ∧ B ≤ g ∧ g < w.heap.size ∧ n ≤ cap ∧ cap ≤ 9223372036854775807 ∧ Blk w g 45 (cap * 5) := by
  rcases h.2 with ⟨_, h1⟩ | ⟨g, cap, cur, rfl, hB, hcur, hnc, hcm, hsz, _⟩
  · omega
  · exact ⟨g, cap, rfl, hB, (Array.getElem?_eq_some_iff.1 hcur).1, hnc, hcm, cur, hcur, hsz⟩
theorem own_empty (w : World) (B : Nat) (hB : B ≤ w.heap.size) (g : Nat) (hg : w.heap.size = g) : (w.alloc (.cells #[] 45)).ownsRow B 45 5 (.slice (some ⟨g, 0, none⟩) 0 0) 0 [] := by
  subst hg
  exact World.ownsRow_made w #[] 0 hB (by unfold maxLen; omega) (by simp)
theorem set_map {ks : List OC} {k : Nat} {y : OC} : (ks.set k y).map OC.r = (ks.map OC.r).set k y.r := by rw [List.map_set]
theorem ArgsOk.set {B : Nat} {w : World} {ks : List OC} {k : Nat} {y : OC} (h : ArgsOk B w ks) (hy : Rd (Lt B) w (vs y.r.args) (.slice y.A y.r.args.length y.c)) : ArgsOk B w (ks.set k y) := fun z hz => by
  rcases List.mem_or_eq_of_mem_set hz with h1 | h1
  · exact h z h1
  · rw [h1]; exact hy

set_option maxHeartbeats 4000000 in
theorem rput_any (l : List Out) (o : Out) (A A2 : Option Addr) (n c c2 k : Nat) (w : World) (hr : Rd (Lt w.heap.size) w (slOut l) (.slice A n c)) (hn : n ≤ 2097152) (hk : k < n) (ho : Rd (Lt w.heap.size) w (vs o.args) (.slice A2 o.args.length c2)) :
    Calls Tryd.prog 29 #[.slice A n c, .int .i64 (k : Int), .agg #[.string o.key, .string o.name, .slice A2 o.args.length c2, .bool o.part, .int .i64 o.tick]] w fun e w' => ∃ g cap, e = .returned (.slice (some ⟨g, 0, none⟩) n cap) ∧ Rd (Lt w'.heap.size) w' (slOut (l.set k o)) (.slice (some ⟨g, 0, none⟩) n cap) ∧ Below w.heap.size w w' := by
  have hl := slOut_len hr
  obtain ⟨ns, hns, hna, hsr⟩ := ocs_of_rd hr
  have hnl : ns.length = n := by rw [hl.1, ← hns, List.length_map]
  have HNS := Lib.hid hns
  have HNA := Lib.hid hna
  have HO := Lib.hid ho
  have hsrc : ∀ W, Below w.heap.size w W → SrcAt W A ns := fun W hW => hsr.below hW (fun p hp h0 => by
    obtain ⟨b, off, e, hc⟩ := hsr h0
    obtain ⟨x0, _⟩ : ∃ x0, (ns.flatMap OC.cells)[0]? = some x0 := by
      have : 0 < (ns.flatMap OC.cells).length := by rw [OC.flat_len]; omega
      exact ⟨_, List.getElem?_eq_getElem this⟩
    rw [hp] at e
    injection e with e
    subst e
    exact World.block_lt_of_cell? w ⟨b, off + 0, none⟩ (hc 0 x0 (by assumption)))
  have HSRC := Lib.hid hsrc
  clear hr hl hns hna ho hsrc hsr
  have kn : (k : Int) < n := by omega
  go_enter Tryd.func29, Tryd.ntmps29
  have hbel : Below w.heap.size w ((w.alloc (.cells #[.string o.key, .string o.name, .slice A2 o.args.length c2, .bool o.part, .int .i64 o.tick] 45)).alloc (.cells #[] 45)) := ((Below.refl _ _).alloc (Nat.le_refl _) _).alloc (by simp) _
  have HBEL := Lib.hid hbel
  clear hbel
  go_wp2_with (at_builtin; refine wp_append_oc rfl _ _ rfl w.heap.size ?c1 (.slice (some ⟨w.heap.size + 1, 0, none⟩) 0 0) [] rfl ?c2 A n c ns hnl rfl (HSRC.out _ HBEL.out) ?c3 ?_)
  case c1 => simp; omega
  case c2 => exact own_empty _ _ (by rw [World.size_alloc]; omega) _ (by rw [World.size_alloc])
  case c3 => simpa using (by omega : n ≤ 4194304)
  intro v3 w3 hown hgr
  obtain ⟨g, cap, rfl, hgB, hgl, hnc, hcm, hblk⟩ := oc_form hown (by omega)
  have hW0 : Below w.heap.size w w3 := HBEL.out.grown hgr (by simp; omega) (fun q hq => by
    have : w.heap.size + 1 = q := by simpa [Value.ownBlock] using hq
    omega)
  have far : w3.heap[w.heap.size]? = some (.cells #[.string o.key, .string o.name, .slice A2 o.args.length c2, .bool o.part, .int .i64 o.tick] 45 (0, 0)) := by
    rw [hgr.block w.heap.size (by simp; omega) (by simp [Value.ownBlock]), Below.heap_alloc _ _ _ (by simp)]
    exact heap_alloc_new w _
  have o0 : w3.cell? ⟨w.heap.size, 0, none⟩ = some (.string o.key) := (Lib.cell_of_heap far 0).trans rfl
  have o1 : w3.cell? ⟨w.heap.size, 1, none⟩ = some (.string o.name) := (Lib.cell_of_heap far 1).trans rfl
  have o2 : w3.cell? ⟨w.heap.size, 2, none⟩ = some (.slice A2 o.args.length c2) := (Lib.cell_of_heap far 2).trans rfl
  have o3 : w3.cell? ⟨w.heap.size, 3, none⟩ = some (.bool o.part) := (Lib.cell_of_heap far 3).trans rfl
  have o4 : w3.cell? ⟨w.heap.size, 4, none⟩ = some (.int .i64 o.tick) := (Lib.cell_of_heap far 4).trans rfl
  have hk5 : k * 5 + 5 ≤ cap * 5 := row_le (Nat.lt_of_lt_of_le hk hnc)
  obtain ⟨u0, u1, u2, u3, u4, z0, z1, z2, z3, z4⟩ := five_cells (w := w3) (g := g) (o := k * 5) (n := cap * 5) (fun j hj => hblk.some hj) hk5
  have fz := hblk.frozen
  have HB3 := Lib.hid hW0
  have HOW := Lib.hid hown
  clear hW0 far hgr hown hblk
  go_wp2_with fail
  go_ret
  have hb4 : Below w.heap.size w (w3.setCells g (k * 5) (OC.cells ⟨o, A2, c2⟩)) := below_setCells g hgB _ _ HB3.out
  have hown4 : (w3.setCells g (k * 5) (OC.cells ⟨o, A2, c2⟩)).ownsRow w.heap.size 45 5 (.slice (some ⟨g, 0, none⟩) ns.length cap) (ns.set k ⟨o, A2, c2⟩).length ((ns.set k ⟨o, A2, c2⟩).flatMap OC.cells) := oc_set ⟨o, A2, c2⟩ (by rw [hnl]; exact HOW.out) (by omega)
  rw [hnl] at hown4
  refine ⟨g, cap, rfl, ?_, hb4⟩
  have hrd := outs_of_own hown4 (fun z hz => ((HNA.out.set (y := ⟨o, A2, c2⟩) HO.out).below hb4 (Nat.le_refl _) z hz).weaken (fun b hb => Nat.lt_of_lt_of_le hb hb4.size))
  rw [set_map, HNS.out] at hrd
  exact hrd
end Go.Proofs.YtlnfdpdancolmaaDoor
