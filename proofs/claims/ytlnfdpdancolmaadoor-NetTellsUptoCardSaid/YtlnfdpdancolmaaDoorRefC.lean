/- ref44.put. Conditions: those in each statement. -/
import Derived.Test.YtlnfdpdancolmaaDoorRefB
namespace Go.Proofs.YtlnfdpdancolmaaDoor
open Go.RowKit

set_option maxHeartbeats 2000000 in
theorem oc_set {B : Nat} {w : World} {g cap k : Nat} {ks : List OC} (y : OC) (h : w.ownsRow B 45 5 (.slice (some ⟨g, 0, none⟩) ks.length cap) ks.length (ks.flatMap OC.cells)) (hk : k < ks.length) :
    (w.setCells g (k * 5) y.cells).ownsRow B 45 5 (.slice (some ⟨g, 0, none⟩) ks.length cap) (ks.set k y).length ((ks.set k y).flatMap OC.cells) := by
  have hcs := h.cells (g := g) rfl
  rcases h.2 with ⟨hv, _⟩ | ⟨g', cap', cur, hv, hB, hcur, hnc, hcm, hsz, htk⟩
  · injection hv with hv; cases hv
  injection hv with hv1 _ hv3
  injection hv1 with hv1
  injection hv1 with hv1
  subst hv1 hv3
  obtain ⟨cur', h1, h2⟩ := heap_setCells g y.cells (k * 5) w cur _ _ hcur
  refine ⟨OC.flat_len _, .inr ⟨g, cap, cur', by rw [List.length_set], hB, h1, by rw [List.length_set]; exact hnc, hcm, by omega, ?_⟩⟩
  rw [List.length_set]
  have hc5 : ∀ j, j < y.cells.length → (w.cell? ⟨g, k * 5 + j, none⟩).isSome = true := fun j hj => by
    rw [OC.cells_len] at hj
    rw [cell_of_row w g (k * 5 + j) cur _ _ hcur]
    have : k * 5 + 5 ≤ ks.length * 5 := row_le hk
    have : ks.length * 5 ≤ cap * 5 := Nat.mul_le_mul_right 5 hnc
    rw [Array.getElem?_eq_getElem (by omega)]; rfl
  apply List.ext_getElem?
  intro j
  by_cases hj : j < ks.length * 5
  · rw [List.getElem?_take, if_pos hj, Array.getElem?_toList]
    have hcell : (w.setCells g (k * 5) y.cells).cell? ⟨g, j, none⟩ = cur'[j]? := cell_of_row _ g j cur' _ _ h1
    rw [← hcell]
    have hd : j / 5 < ks.length := by omega
    have hm : j % 5 < 5 := Nat.mod_lt _ (by omega)
    have hx : (ks.set k y)[j / 5]? = some (if k = j / 5 then y else ks[j / 5]) := by
      rw [List.getElem?_set]
      split
      · rfl
      · exact List.getElem?_eq_getElem hd
    have hfl := flat_get OC.cells 5 OC.cells_len (ks.set k y) (j / 5) _ (j % 5) hx hm
    rw [show j / 5 * 5 + j % 5 = j by omega] at hfl
    rw [hfl]
    by_cases he : k = j / 5
    · rw [if_pos he, cell_in hc5 j (by omega) (by rw [OC.cells_len]; omega), show j - k * 5 = j % 5 by omega]
    · rw [if_neg he, cell_out j (by rw [OC.cells_len]; omega)]
      have hu : (ks.flatMap OC.cells)[j]? = ks[j / 5].cells[j % 5]? := by
        have := flat_get OC.cells 5 OC.cells_len ks (j / 5) _ (j % 5) (List.getElem?_eq_getElem hd) hm
        rwa [show j / 5 * 5 + j % 5 = j by omega] at this
      have hlt : j % 5 < (ks[j / 5]).cells.length := by rw [OC.cells_len]; exact hm
      rw [List.getElem?_eq_getElem hlt] at hu ⊢
      have := hcs j _ hu
      rw [Addr.add_lit, Nat.zero_add] at this
      exact this
  · rw [List.getElem?_take, if_neg hj, List.getElem?_eq_none (by rw [OC.flat_len, List.length_set]; omega)]
theorem oc_form {B : Nat} {w : World} {v : Value} {n : Nat} {xs : List Value} (h : w.ownsRow B 45 5 v n xs) (h0 : 0 < n) : ∃ g cap, v = .slice (some ⟨g, 0, none⟩) n cap ∧ B ≤ g ∧ g < w.heap.size ∧ n ≤ cap ∧ cap ≤ 9223372036854775807 ∧ Blk w g 45 (cap * 5) := by
  rcases h.2 with ⟨_, h1⟩ | ⟨g, cap, cur, rfl, hB, hcur, hnc, hcm, hsz, _⟩
  · omega
  · exact ⟨g, cap, rfl, hB, (Array.getElem?_eq_some_iff.1 hcur).1, hnc, hcm, cur, hcur, hsz⟩
theorem own_empty (w : World) (B : Nat) (hB : B ≤ w.heap.size) (g : Nat) (hg : w.heap.size = g) : (w.alloc (.cells #[] 45)).ownsRow B 45 5 (.slice (some ⟨g, 0, none⟩) 0 0) 0 [] := by
  subst hg
  exact World.ownsRow_made w #[] 0 hB (by unfold maxLen; omega) (by simp)
theorem set_map {ks : List OC} {k : Nat} {y : OC} : (ks.set k y).map OC.r = (ks.map OC.r).set k y.r := by rw [List.map_set]
theorem ArgsOk.set {B : Nat} {w : World} {ks : List OC} {k : Nat} {y : OC} (h : ArgsOk B w ks) (hy : Rd (Lt B) w (vs y.r.args) (.slice y.A y.r.args.length y.c)) : ArgsOk B w (ks.set k y) := fun z hz => by
  rcases List.mem_or_eq_of_mem_set hz with h1 | h1
  · exact h z h1
  · rw [h1]; exact hy

set_option maxHeartbeats 4000000 in
theorem rput_any (l : List Out) (o : Out) (A A2 : Option Addr) (n c c2 k : Nat) (w : World) (hr : Rd (Lt w.heap.size) w (slOut l) (.slice A n c)) (hn : n ≤ 2097152) (hk : k < n) (ho : Rd (Lt w.heap.size) w (vs o.args) (.slice A2 o.args.length c2)) :
    Calls Tryd.prog 29 #[.slice A n c, .int .i64 (k : Int), .agg #[.string o.key, .string o.name, .slice A2 o.args.length c2, .bool o.part, .int .i64 o.tick]] w fun e w' => ∃ g cap, e = .returned (.slice (some ⟨g, 0, none⟩) n cap) ∧ Rd (Lt w'.heap.size) w' (slOut (l.set k o)) (.slice (some ⟨g, 0, none⟩) n cap) ∧ Below w.heap.size w w' := by
  have hl := slOut_len hr
  obtain ⟨ns, hns, hna, hsr⟩ := ocs_of_rd hr
  have hnl : ns.length = n := by rw [hl.1, ← hns, List.length_map]
  have HNS := Lib.hid hns
  have HNA := Lib.hid hna
  have HO := Lib.hid ho
  have hsrc : ∀ W, Below w.heap.size w W → SrcAt W A ns := fun W hW => hsr.below hW (fun p hp h0 => by
    obtain ⟨b, off, e, hc⟩ := hsr h0
    obtain ⟨x0, _⟩ : ∃ x0, (ns.flatMap OC.cells)[0]? = some x0 := by
      have : 0 < (ns.flatMap OC.cells).length := by rw [OC.flat_len]; omega
      exact ⟨_, List.getElem?_eq_getElem this⟩
    rw [hp] at e
    injection e with e
    subst e
    exact World.block_lt_of_cell? w ⟨b, off + 0, none⟩ (hc 0 x0 (by assumption)))
  have HSRC := Lib.hid hsrc
  clear hr hl hns hna ho hsrc hsr
  have kn : (k : Int) < n := by omega
  go_enter Tryd.func29, Tryd.ntmps29
  have hbel : Below w.heap.size w ((w.alloc (.cells #[.string o.key, .string o.name, .slice A2 o.args.length c2, .bool o.part, .int .i64 o.tick] 45)).alloc (.cells #[] 45)) := ((Below.refl _ _).alloc (Nat.le_refl _) _).alloc (by simp) _
  have HBEL := Lib.hid hbel
  clear hbel
  go_wp2_with (at_builtin; refine wp_append_oc rfl _ _ rfl w.heap.size ?c1 (.slice (some ⟨w.heap.size + 1, 0, none⟩) 0 0) [] rfl ?c2 A n c ns hnl rfl (HSRC.out _ HBEL.out) ?c3 ?_)
  case c1 => simp; omega
  case c2 => exact own_empty _ _ (by rw [World.size_alloc]; omega) _ (by rw [World.size_alloc])
  case c3 => simpa using (by omega : n ≤ 4194304)
  intro v3 w3 hown hgr
  obtain ⟨g, cap, rfl, hgB, hgl, hnc, hcm, hblk⟩ := oc_form hown (by omega)
  have hW0 : Below w.heap.size w w3 := HBEL.out.grown hgr (by simp; omega) (fun q hq => by
    have : w.heap.size + 1 = q := by simpa [Value.ownBlock] using hq
    omega)
  have far : w3.heap[w.heap.size]? = some (.cells #[.string o.key, .string o.name, .slice A2 o.args.length c2, .bool o.part, .int .i64 o.tick] 45 (0, 0)) := by
    rw [hgr.block w.heap.size (by simp; omega) (by simp [Value.ownBlock]), Below.heap_alloc _ _ _ (by simp)]
    exact heap_alloc_new w _
  have o0 : w3.cell? ⟨w.heap.size, 0, none⟩ = some (.string o.key) := (Lib.cell_of_heap far 0).trans rfl
  have o1 : w3.cell? ⟨w.heap.size, 1, none⟩ = some (.string o.name) := (Lib.cell_of_heap far 1).trans rfl
  have o2 : w3.cell? ⟨w.heap.size, 2, none⟩ = some (.slice A2 o.args.length c2) := (Lib.cell_of_heap far 2).trans rfl
  have o3 : w3.cell? ⟨w.heap.size, 3, none⟩ = some (.bool o.part) := (Lib.cell_of_heap far 3).trans rfl
  have o4 : w3.cell? ⟨w.heap.size, 4, none⟩ = some (.int .i64 o.tick) := (Lib.cell_of_heap far 4).trans rfl
  have hk5 : k * 5 + 5 ≤ cap * 5 := row_le (Nat.lt_of_lt_of_le hk hnc)
  obtain ⟨u0, u1, u2, u3, u4, z0, z1, z2, z3, z4⟩ := five_cells (w := w3) (g := g) (o := k * 5) (n := cap * 5) (fun j hj => hblk.some hj) hk5
  have fz := hblk.frozen
  have HB3 := Lib.hid hW0
  have HOW := Lib.hid hown
  clear hW0 far hgr hown hblk
  go_wp2_with fail
  go_ret
  have hb4 : Below w.heap.size w (w3.setCells g (k * 5) (OC.cells ⟨o, A2, c2⟩)) := below_setCells g hgB _ _ HB3.out
  have hown4 : (w3.setCells g (k * 5) (OC.cells ⟨o, A2, c2⟩)).ownsRow w.heap.size 45 5 (.slice (some ⟨g, 0, none⟩) ns.length cap) (ns.set k ⟨o, A2, c2⟩).length ((ns.set k ⟨o, A2, c2⟩).flatMap OC.cells) := oc_set ⟨o, A2, c2⟩ (by rw [hnl]; exact HOW.out) (by omega)
  rw [hnl] at hown4
  refine ⟨g, cap, rfl, ?_, hb4⟩
  have hrd := outs_of_own hown4 (fun z hz => ((HNA.out.set (y := ⟨o, A2, c2⟩) HO.out).below hb4 (Nat.le_refl _) z hz).weaken (fun b hb => Nat.lt_of_lt_of_le hb hb4.size))
  rw [set_map, HNS.out] at hrd
  exact hrd
end Go.Proofs.YtlnfdpdancolmaaDoor
