/- ref03.adds, firsts, block: the state after a block. Conditions: those in each statement. -/
import Derived.Test.YtlnfdpdancolmaaDoorYR03B
import Derived.Test.YtlnfdpdancolmaaDoorYRefBRefC
import Derived.StillTailTactics
namespace Go.Proofs.YtlnfdpdancolmaaDoor
open Go.RowKit

def kRow : Array Value := (kL.map fun x => Value.int .u32 x).toArray
set_option maxHeartbeats 400000 in
set_option maxRecDepth 100000 in
theorem adds_any (w : World) : Calls Tryd.prog 90 #[] w fun e w' => e = .returned (.slice (some ⟨w.heap.size, 0, none⟩) 64 64) ∧ w.alloc (.cells kRow 105) = w' := by
  go_enter Tryd.func90, Tryd.ntmps90
  go_wp2_with fail
  go_ret
  exact ⟨rfl, rfl⟩
set_option maxHeartbeats 400000 in
theorem firsts_any (w : World) : Calls Tryd.prog 79 #[] w fun e w' => e = .returned (.slice (some ⟨w.heap.size, 0, none⟩) 8 8) ∧ w.alloc (.cells ivS.row 105) = w' := by
  go_enter Tryd.func79, Tryd.ntmps79
  go_wp2_with fail
  go_ret
  exact ⟨rfl, rfl⟩
theorem kRow_get (w : World) : Row32 (w.alloc (.cells kRow 105)) w.heap.size 64 kF := fun j hj => by
  have hl : kL.length = 64 := rfl
  rw [cell_new]
  unfold kRow kF
  simp [hl, hj]
theorem row8_get' (v : H8) : ∀ j, j < 8 → v.row[j]? = some (.int .u32 (v.get j)) := fun j hj => by
  match j, hj with
  | 0, _ | 1, _ | 2, _ | 3, _ | 4, _ | 5, _ | 6, _ | 7, _ => rfl
/-- the cells of a state -/
def hL (v : H8) : List Int := [v.a, v.b, v.c, v.d, v.e, v.f, v.g, v.h]
theorem hL_get (v : H8) (j : Nat) (hj : j < 8) : (hL v)[j]? = some (v.get j) := by
  match j, hj with
  | 0, _ | 1, _ | 2, _ | 3, _ | 4, _ | 5, _ | 6, _ | 7, _ => rfl
theorem rorZ_2 (x : Int) : rorZ 2 x = ror 1073741824 4 x := rfl
theorem rorZ_6 (x : Int) : rorZ 6 x = ror 67108864 64 x := rfl
theorem rorZ_11 (x : Int) : rorZ 11 x = ror 2097152 2048 x := rfl
theorem rorZ_13 (x : Int) : rorZ 13 x = ror 524288 8192 x := rfl
theorem rorZ_22 (x : Int) : rorZ 22 x = ror 1024 4194304 x := rfl
theorem rorZ_25 (x : Int) : rorZ 25 x = ror 128 33554432 x := rfl
theorem addH_comm (v V : H8) : addH V v = addH v V := by
  unfold addH
  simp only [Int.add_comm]
/-- the slice of a state lies at g -/
def StAt (w : World) (g : Nat) (v : H8) : Prop := Row32 w g 8 v.get ∧ (∀ j, w.frozen? ⟨g, j, none⟩ = false) ∧ g < w.heap.size
theorem own_state {W : World} {B g c : Nat} {v : H8} (h : W.ownsRow B 105 1 (.slice (some ⟨g, 0, none⟩) 8 c) 8 (u32c (hL v))) : StAt W g v ∧ B ≤ g ∧ 8 ≤ c ∧ c ≤ 9223372036854775807 := by
  rcases h.2 with ⟨hv, _⟩ | ⟨g', cap, cur, hv, hB, hcur, hnc, hcm, hsz, htk⟩
  · injection hv with hv; cases hv
  · injection hv with h1 h2 h3
    injection h1 with h1
    injection h1 with h1
    subst h1 h3
    refine ⟨⟨fun j hj => ?_, fun j => by simp [World.frozen?, hcur], (Array.getElem?_eq_some_iff.1 hcur).1⟩, hB, hnc, hcm⟩
    have := h.cells (g := g) rfl j (.int .u32 (v.get j)) (by rw [u32c, List.getElem?_map, hL_get v j hj]; rfl)
    rw [Addr.add_lit, Nat.zero_add] at this
    exact this
theorem StAt.below {w w' : World} {g : Nat} {v : H8} (h : StAt w g v) (hb : Below w.heap.size w w') : StAt w' g v :=
  ⟨h.1.below hb h.2.2, fun j => (hb.frozen (p := ⟨g, j, none⟩) h.2.2).trans (h.2.1 j), Nat.lt_of_lt_of_le h.2.2 hb.size⟩
theorem st_new (w : World) (v : H8) : StAt (w.alloc (.cells v.row 105)) w.heap.size v :=
  ⟨fun j hj => by rw [cell_new]; exact row8_get' v j hj, fun j => frozen_new _ _ _ j, by simp⟩
theorem wL_row {B : Nat} {w0 w : World} {v : Value} {s : ByteArray} (h : OwnW B w0 w v (wL s 64)) : ∃ g c, v = .slice (some ⟨g, 0, none⟩) 64 c ∧ Row32 w g 64 (wF s) ∧ B ≤ g ∧ g < w.heap.size ∧ 64 ≤ c ∧ c ≤ 9223372036854775807 := by
  have hl := wL_length s 64
  obtain ⟨g, c, hv, hB, hlc, hcm, hgl, hcell, _⟩ := h.form (by omega)
  rw [hl] at hv hlc
  refine ⟨g, c, hv, fun j hj => ?_, hB, hgl, hlc, hcm⟩
  unfold wF
  exact hcell j _ (wL_at s hj)
def BlockPost (v : H8) (w : World) (e : Ending) (w' : World) : Prop := ∃ g c, e = .returned (.slice (some ⟨g, 0, none⟩) 8 c) ∧ 8 ≤ c ∧ c ≤ 9223372036854775807 ∧ w.heap.size ≤ g ∧ StAt w' g v ∧ Below w.heap.size w w'
set_option maxHeartbeats 4000000 in
set_option maxRecDepth 100000 in
theorem rblock_any (v : H8) (s : ByteArray) (gh ch gb ob cb : Nat) (w : World) (hg : gb < w.heap.size) (hB : BytesAt w gb ob 64 s) (hh : gh < w.heap.size) (hV : Row32 w gh 8 v.get) :
    Calls Tryd.prog 80 #[.slice (some ⟨gh, 0, none⟩) 8 ch, .slice (some ⟨gb, ob, none⟩) 64 cb] w (BlockPost (compS s v) w) := by
  have HW := Lib.hid (rwords_any s gb ob cb w hg hB)
  have HV := Lib.hid hV
  clear hB hV
  go_enter Tryd.func80, Tryd.ntmps80
  go_wp2_with fail
  (with_reducible refine HW.out.mono ?_)
  rintro e w1 ⟨vw, rfl, hO1⟩
  have O1 := Lib.hid hO1
  clear hO1 HW
  go_wp2_with fail
  (with_reducible refine (adds_any _).mono ?_)
  rintro e w2 ⟨rfl, rfl⟩
  obtain ⟨w2, hw2⟩ : ∃ w2, w1.alloc (.cells kRow 105) = w2 := ⟨_, rfl⟩
  have hk2 : Row32 w2 w1.heap.size 64 kF := by rw [← hw2]; exact kRow_get w1
  have hz2 : w2.heap.size = w1.heap.size + 1 := by rw [← hw2]; simp
  have ho2 : OwnW w.heap.size w w2 vw (wL s 64) := by rw [← hw2]; exact O1.out.alloc _
  rw [hw2]
  have K2 := Lib.hid hk2
  have O2 := Lib.hid ho2
  have Z2 := Lib.hid hz2
  clear hw2 hk2 hz2 ho2 O1
  have HBE : Hid (Below w.heap.size w (w2.alloc (.cells #[] 105))) := Lib.hid (O2.out.alloc _).2.1
  obtain ⟨i9, hi9, hz9, hy9, hx9⟩ := info_parts infoW
  have HI := Lib.hid (And.intro hi9 (And.intro hz9 (And.intro hy9 hx9)))
  clear hi9 hz9 hy9 hx9
  have E0 : Hid (World.ownsRow (w2.alloc (.cells #[] 105)) (w1.heap.size + 1) 105 1 (.slice (some ⟨w2.heap.size, 0, none⟩) 0 0) 0 []) := Lib.hid ⟨rfl, .inr ⟨w2.heap.size, 0, #[], rfl, by rw [Z2.out]; omega, heap_alloc_new w2 _, by omega, by omega, rfl, rfl⟩⟩
  have N0 : Hid (∀ j u, (u32c (hL v))[j]? = some u → (w2.alloc (.cells #[] 105)).cell? ((⟨gh, 0, none⟩ : Addr).add j) = some u) := Lib.hid (fun j u hu => by
    rw [Addr.add_lit, Nat.zero_add]
    have hj : j < 8 := by
      have := (List.getElem?_eq_some_iff.1 hu).1
      simpa [u32c, hL] using this
    rw [u32c, List.getElem?_map, hL_get v j hj] at hu
    rw [← Option.some.inj hu]
    exact (HBE.out.cell (p := ⟨gh, j, none⟩) hh).trans (HV.out j hj))
  go_wp2_with (at_builtin; refine wpList_append_lies _ rfl _ _ 112 rfl (w1.heap.size + 1) 105 i9 _ 1 4 Tryd.underlying112 HI.out.1 HI.out.2.1 HI.out.2.2.1 HI.out.2.2.2 rfl (by omega) (.slice (some ⟨w2.heap.size, 0, none⟩) 0 0) 0 [] rfl E0.out ⟨gh, 0, none⟩ 8 ch (u32c (hL v)) rfl rfl N0.out ?c1 (by omega) (by unfold maxLen; omega) (by omega) ?c2 (w2.heap.size + 1) ?c3 ?_)
  case c1 => intro u hu; obtain ⟨x, _, rfl⟩ := List.mem_map.1 hu; rfl
  case c2 => rw [World.size_alloc, Z2.out]; omega
  case c3 => simp
  intro gv cv w3 hown3 hgrow3 hat3 hlt3
  have hs3 := own_state hown3
  have hb3 : Below (w1.heap.size + 1) w2 w3 := ((Below.refl (w1.heap.size + 1) w2).alloc (by rw [Z2.out]; omega) _).grown hgrow3 (by rw [World.size_alloc, Z2.out]; omega) (fun q hq => by
    have : w2.heap.size = q := by simpa [Value.ownBlock] using hq
    rw [← this, Z2.out]; omega)
  obtain ⟨gw, cw, hvw, hrw, hBw, hgw, hcw, hcw2⟩ := wL_row O2.out
  subst hvw
  have hbw : Below w.heap.size w w3 := O2.out.2.1.trans (hb3.mono (by have := O2.out.2.2; rw [Z2.out] at this; omega))
  have hgw1 : gw < w1.heap.size + 1 := by rw [← Z2.out]; exact hgw
  have RW3 := Lib.hid (hrw.below hb3 hgw1)
  have RK3 := Lib.hid (K2.out.below hb3 (by omega))
  have HS3 := Lib.hid hs3.1
  have hgB := hs3.2.1
  have hc8 := hs3.2.2.1
  have hcx := hs3.2.2.2
  have HBW := Lib.hid hbw
  have hsz3 : w1.heap.size + 1 ≤ w3.heap.size := Nat.le_trans (by rw [Z2.out]; omega) hb3.size
  have hwz : w.heap.size ≤ w1.heap.size + 1 := by have := O2.out.2.2; rw [Z2.out] at this; exact this
  clear hown3 hgrow3 hat3 hlt3 hs3 hb3 hrw hgw hbw O2 K2 Z2 E0 N0 HBE HI
  go_wp2_with fail
  go_loopw [7, 8] (fun s7 s8 wr => ∃ (k gv cv : Nat), k ≤ 64 ∧ s8 = .int .i64 k ∧ s7 = .slice (some ⟨gv, 0, none⟩) 8 cv ∧ 8 ≤ cv ∧ cv ≤ 9223372036854775807 ∧ w.heap.size ≤ gv ∧ Hid (StAt wr gv (vS s v k)) ∧ Hid (Below w3.heap.size w3 wr)) (fun _ s8 _ => (64 - intOf s8).toNat)
  case atStart => exact ⟨0, gv, cv, by omega, rfl, rfl, hc8, hcx, by omega, HS3, Lib.hid (Below.refl _ _)⟩
  case round =>
    clear HS3 hgB hc8 hcx
    obtain ⟨k, gv, cv, hk, rfl, rfl, hc8, hcx, hgv, HST, HB⟩ := hrel
    by_cases h : k = 64
    · subst h
      have HVE : Hid (compS s v = addH v (vS s v 64)) := Lib.hid rfl
      generalize vS s v 64 = V at HST HVE
      have HB0 := Lib.hid (HBW.out.trans (HB.out.mono HBW.out.size))
      clear HB
      go_wp2_with fail
      go_loopw [14] (fun s14 wq => ∃ (i : Nat), i ≤ 8 ∧ s14 = .int .i64 i ∧ Hid (Row32 wq gv 8 (mixF V v i)) ∧ Hid (∀ j, wq.frozen? ⟨gv, j, none⟩ = false) ∧ Hid (gv < wq.heap.size) ∧ Hid (Below w.heap.size w wq)) (fun s14 _ => (8 - intOf s14).toNat)
      case atStart => exact ⟨0, by omega, rfl, Lib.hid HST.out.1, Lib.hid HST.out.2.1, Lib.hid HST.out.2.2, HB0⟩
      case round =>
        clear HST HB0
        obtain ⟨i, hi, rfl, HM, HF, HZ, HB⟩ := hrel
        by_cases h : i = 8
        · subst h
          have HST2 : Hid (StAt wr gv (compS s v)) := Lib.hid ⟨by rw [HVE.out, ← addH_comm]; exact HM.out.mixed, HF.out, HZ.out⟩
          clear HM
          go_wp2_with fail
          go_ret
          exact ⟨gv, cv, rfl, hc8, hcx, hgv, HST2.out, HB.out⟩
        · have hgne : gh ≠ gv := by omega
          have cv9 := HM.out i (by omega)
          have ch9 : wr.cell? ⟨gh, i, none⟩ = some (.int .u32 (v.get i)) := (HB.out.cell (p := ⟨gh, i, none⟩) hh).trans (HV.out i (by omega))
          have hf := HF.out i
          have hii : (i : Int) < 8 := by omega
          have HM2 := Lib.hid (HM.out.mix (by omega)).drew
          have HF2 : Hid (∀ j, (wr.setCell ⟨gv, i, none⟩ (.int .u32 ((mixF V v i i + v.get i) % 4294967296))).drew.frozen? ⟨gv, j, none⟩ = false) := Lib.hid (fun j => by
            have h1 := HF.out j
            have h2 : (wr.setCell ⟨gv, i, none⟩ (.int .u32 ((mixF V v i i + v.get i) % 4294967296))).drew.frozen? ⟨gv, j, none⟩ = (wr.setCell ⟨gv, i, none⟩ (.int .u32 ((mixF V v i i + v.get i) % 4294967296))).frozen? ⟨gv, j, none⟩ := rfl
            rw [h2, World.frozen?_setCell]; exact h1)
          have HZ2 : Hid (gv < (wr.setCell ⟨gv, i, none⟩ (.int .u32 ((mixF V v i i + v.get i) % 4294967296))).drew.heap.size) := Lib.hid (by
            have h2 : (wr.setCell ⟨gv, i, none⟩ (.int .u32 ((mixF V v i i + v.get i) % 4294967296))).drew.heap.size = (wr.setCell ⟨gv, i, none⟩ (.int .u32 ((mixF V v i i + v.get i) % 4294967296))).heap.size := rfl
            rw [h2, size_setCell]; exact HZ.out)
          have HB2 := Lib.hid (below_drew (HB.out.setCell (p := ⟨gv, i, none⟩) hgv (.int .u32 ((mixF V v i i + v.get i) % 4294967296))))
          clear HM HF HZ
          go_wp2_with fail
          go_region
          all_goals go_wp2_with fail
          refine ⟨?_, by simp [intOf]; omega⟩
          exact ⟨i + 1, by omega, by go_num, HM2, HF2, HZ2, HB2⟩
    · have hkk : (k : Int) < 64 := by omega
      have hVE : ∃ V, vS s v k = V := ⟨_, rfl⟩
      obtain ⟨⟨a, b, c, d, e, f, g, hh'⟩, hVE⟩ := hVE
      rw [hVE] at HST
      have hX : ∃ X, wF s k = X := ⟨_, rfl⟩
      obtain ⟨X, hX⟩ := hX
      have hK : ∃ K, kF k = K := ⟨_, rfl⟩
      obtain ⟨K, hK⟩ := hK
      have c0 : ∀ q, (wr.drewN q).cell? ⟨gv, 0, none⟩ = some (.int .u32 a) := fun q => HST.out.1 0 (by omega)
      have c1 : ∀ q, (wr.drewN q).cell? ⟨gv, 1, none⟩ = some (.int .u32 b) := fun q => HST.out.1 1 (by omega)
      have c2 : ∀ q, (wr.drewN q).cell? ⟨gv, 2, none⟩ = some (.int .u32 c) := fun q => HST.out.1 2 (by omega)
      have c3 : ∀ q, (wr.drewN q).cell? ⟨gv, 3, none⟩ = some (.int .u32 d) := fun q => HST.out.1 3 (by omega)
      have c4 : ∀ q, (wr.drewN q).cell? ⟨gv, 4, none⟩ = some (.int .u32 e) := fun q => HST.out.1 4 (by omega)
      have c5 : ∀ q, (wr.drewN q).cell? ⟨gv, 5, none⟩ = some (.int .u32 f) := fun q => HST.out.1 5 (by omega)
      have c6 : ∀ q, (wr.drewN q).cell? ⟨gv, 6, none⟩ = some (.int .u32 g) := fun q => HST.out.1 6 (by omega)
      have c7 : ∀ q, (wr.drewN q).cell? ⟨gv, 7, none⟩ = some (.int .u32 hh') := fun q => HST.out.1 7 (by omega)
      have ck : ∀ q, (wr.drewN q).cell? ⟨w1.heap.size, k, none⟩ = some (.int .u32 K) := fun q => by
        rw [← hK]; exact (HB.out.cell (p := ⟨w1.heap.size, k, none⟩) (by simp; omega)).trans (RK3.out k (by omega))
      have cw9 : ∀ q, (wr.drewN q).cell? ⟨gw, k, none⟩ = some (.int .u32 X) := fun q => by
        rw [← hX]; exact (HB.out.cell (p := ⟨gw, k, none⟩) (by simp; omega)).trans (RW3.out k (by omega))
      have b0 : wr.cell? ⟨gv, 4, none⟩ = some (.int .u32 e) := HST.out.1 4 (by omega)
      have HVS : Hid (vS s v (k + 1) = rnd ⟨a, b, c, d, e, f, g, hh'⟩ K X) := Lib.hid (by rw [vS, hVE, hX, hK])
      clear hVE hX hK HST
      go_wp2_with fail
      go_quiet ((go_at_call 91; exact Calls.quiet_of (turn_Z _ _ _ (by decide))))
      go_wp2_with fail
      go_quiet (fail)
      go_wp2_with fail
      go_quiet (fail)
      go_wp2_with fail
      go_quiet ((go_at_call 91; exact quiet_add (turn_Z _ _ _ (by decide))))
      go_wp2_with fail
      go_quiet (fail)
      go_wp2_with fail
      simp only [World.drewN_drewN]
      generalize hW : World.drewN wr _ = W
      have d0 : W.cell? ⟨gv, 0, none⟩ = some (.int .u32 a) := by rw [← hW]; exact c0 _
      have d1 : W.cell? ⟨gv, 1, none⟩ = some (.int .u32 b) := by rw [← hW]; exact c1 _
      have d2 : W.cell? ⟨gv, 2, none⟩ = some (.int .u32 c) := by rw [← hW]; exact c2 _
      have d3 : W.cell? ⟨gv, 3, none⟩ = some (.int .u32 d) := by rw [← hW]; exact c3 _
      have d4 : W.cell? ⟨gv, 4, none⟩ = some (.int .u32 e) := by rw [← hW]; exact c4 _
      have d5 : W.cell? ⟨gv, 5, none⟩ = some (.int .u32 f) := by rw [← hW]; exact c5 _
      have d6 : W.cell? ⟨gv, 6, none⟩ = some (.int .u32 g) := by rw [← hW]; exact c6 _
      have HBW2 : Hid (Below w3.heap.size w3 W) := Lib.hid (by rw [← hW]; exact below_drewN HB.out _)
      clear hW c0 c1 c2 c3 c4 c5 c6 c7 ck cw9 b0 HB
      go_still_tail 28, (by kernel_rfl)
      change wpList _ _ _ _ _ W.drew
      go_wp2_with fail
      simp only [rorZ_2, rorZ_6, rorZ_11, rorZ_13, rorZ_22, rorZ_25]
      have hwW : w.heap.size ≤ W.heap.size := by have := HBW2.out.size; omega
      have HST2 : Hid (StAt (W.alloc (.cells (rnd ⟨a, b, c, d, e, f, g, hh'⟩ K X).row 105)).drew W.heap.size (vS s v (k + 1))) := Lib.hid (by rw [HVS.out]; exact (st_new W _).below ((Below.refl _ _).drew))
      have HB2 : Hid (Below w3.heap.size w3 (W.alloc (.cells (rnd ⟨a, b, c, d, e, f, g, hh'⟩ K X).row 105)).drew) := Lib.hid (HBW2.out.alloc HBW2.out.size _).drew
      exact ⟨⟨k + 1, W.heap.size, 8, by omega, by go_num, rfl, by omega, by omega, hwW, HST2, HB2⟩, by simp [intOf]; omega⟩
end Go.Proofs.YtlnfdpdancolmaaDoor
