/- sum.Hex: the 64 hexadecimal digits of 32 bytes. Conditions: those in each statement. ref03.Hex: it comes to what sum.Hex comes to. Conditions: those in each statement. strings.Builder: WriteString and String, laid by hand out of the shelf. Conditions: those in each statement. -/
import Derived.Test.YtlnfdpdancolmaaDoorYSha2
import Derived.Test.YtlnfdpdancolmaaDoorYR03DR03ER03F
import Derived.Test.YtlnfdpdancolmaaDoorYCloneOutFindNum
import Derived.Shelf.Strings.Builder1
import Derived.Shelf.Strings.Builder2
namespace Go.Proofs.YtlnfdpdancolmaaDoor
open Go.RowKit
def row8 (D : Nat → Int) : Array Value := ((List.range 32).map fun j => Value.int .u8 (D j)).toArray
def hexC (n : Int) : Int := if n < 10 then 48 + n else 87 + n
def hexF (D : Nat → Int) (j : Nat) : Int := if j % 2 = 0 then hexC (D (j / 2) / 16) else hexC (D (j / 2) % 16)
def hexS (D : Nat → Int) : ByteArray := strOfNums ((List.range 64).map (hexF D))
theorem row8_size (D : Nat → Int) : (row8 D).size = 32 := by simp [row8]
theorem row8_get (D : Nat → Int) (j : Nat) (h : j < 32) : (row8 D)[j]? = some (.int .u8 (D j)) := by simp [row8, h]
theorem row8_one (D : Nat → Int) : (row8 D).all (·.oneCell') = true := by unfold row8; simp [Value.oneCell']
theorem index32 (D : Nat → Int) (i : Nat) (hi : i < 32) (w : World) : (Instr.index 86 (.agg (row8 D)) (.int .i64 (i : Int))).run Tryd.prog w = .ok (.int .u8 (D i)) w := by
  have h1 : (0 : Int) ≤ i ∧ (i : Int) < 32 := by omega
  simp [Instr.index, run_underlying Tryd.underlying86, go_sem, part, row8_get D i hi, h1, hi, Tryd.isAgg5, Tryd.sizeOf5]
theorem index16 (n : Int) (h0 : 0 ≤ n) (h1 : n < 16) (w : World) : (Instr.index 9 (.string ⟨#[48, 49, 50, 51, 52, 53, 54, 55, 56, 57, 97, 98, 99, 100, 101, 102]⟩) (.int .u8 n)).run Tryd.prog w = .ok (.int .u8 (hexC n)) w := by
  obtain ⟨m, rfl⟩ := Int.eq_ofNat_of_zero_le h0
  have hm : m < 16 := by omega
  match m, hm with
  | 0, _ | 1, _ | 2, _ | 3, _ | 4, _ | 5, _ | 6, _ | 7, _ | 8, _ | 9, _ | 10, _ | 11, _ | 12, _ | 13, _ | 14, _ | 15, _ => simp [Instr.index, run_underlying Tryd.underlying9, go_sem, hexC]; rfl
theorem hexF_even (D : Nat → Int) (i : Nat) : hexF D (2 * i) = hexC (D i / 16) := by
  unfold hexF; rw [if_pos (by omega), show 2 * i / 2 = i by omega]
theorem hexF_odd (D : Nat → Int) (i : Nat) : hexF D (2 * i + 1) = hexC (D i % 16) := by
  unfold hexF; rw [if_neg (by omega), show (2 * i + 1) / 2 = i by omega]
/-- the world while the digits are written -/
def XI (w wq : World) (k : Nat) (D : Nat → Int) : Prop := Row8 wq (w.heap.size + 1) k (hexF D) ∧ Blk wq (w.heap.size + 1) 104 64 ∧ Below w.heap.size w wq
theorem XI.put {w wq : World} {k : Nat} {D : Nat → Int} (h : XI w wq k D) (hk : k < 64) {x : Int} (hx : hexF D k = x) : XI w (wq.setCell ⟨w.heap.size + 1, k, none⟩ (.int .u8 x)) (k + 1) D := by
  obtain ⟨h1, h2, h4⟩ := h
  obtain ⟨u, hu⟩ := Option.isSome_iff_exists.1 (h2.some hk)
  refine ⟨fun j hj => ?_, h2.setCell _ _ _, h4.setCell (p := ⟨w.heap.size + 1, k, none⟩) (by simp) _⟩
  by_cases e : j = k
  · subst e; rw [World.cell?_setCell_same _ _ _ hu, hx]
  · rw [World.cell?_setCell_other _ _ _ _ (by simp <;> omega), h1 j (by omega)]
theorem XI.start (w : World) (A C : Array Value) (D : Nat → Int) (hC : C.size = 64) : XI w ((w.alloc (.cells A 86)).alloc (.cells C 104)) 0 D := by
  refine ⟨fun j hj => absurd hj (by omega), ?_, ((Below.refl _ _).alloc (Nat.le_refl _) _).alloc (by simp) _⟩
  have := Blk.new (w.alloc (.cells A 86)) 104 C
  rwa [hC, World.size_alloc] at this
set_option maxHeartbeats 2000000 in
set_option maxRecDepth 100000 in
theorem hex_any (D : Nat → Int) (hD : ∀ j, 0 ≤ D j ∧ D j < 256) (w : World) : Calls Tryd.prog 56 #[.agg (row8 D)] w fun e w' => e = .returned (.string (hexS D)) ∧ Below w.heap.size w w' := by
  have hix := index32 D
  have hsz := row8_size D
  have hone := row8_one D
  generalize row8 D = cs at *
  have HD := Lib.hid hD
  have HI := Lib.hid hix
  have HO := Lib.hid hone
  have HS := Lib.hid hsz
  clear hD hix hone hsz
  go_enter Tryd.func56, Tryd.ntmps56
  have H86 : Hid ((Tryd.prog.info? 86).map (·.size) = some cs.size) := Lib.hid (by rw [HS.out]; kernel_rfl)
  go_wp2_with (refine wpList_load_row rfl _ _ rfl w.heap.size rfl _ cs (0, 0) _ (heap_alloc2_old w _ _) Tryd.underlying86 rfl H86.out ?_)
  go_loopw [7] (fun s7 wq => ∃ (i : Nat), i ≤ 32 ∧ s7 = .int .i64 i ∧ Hid (XI w wq (2 * i) D)) (fun s7 _ => (32 - intOf s7).toNat)
  case atStart => exact ⟨0, by omega, rfl, Lib.hid (XI.start w _ _ D (by rfl))⟩
  case round =>
    obtain ⟨i, hi, rfl, HX⟩ := hrel
    by_cases h32 : i = 32
    · subst h32
      have hsl : (Instr.sliceAt 104 (.pointer (some ⟨w.heap.size + 1, 0, none⟩)) none none none).run Tryd.prog wr = .ok (.slice (some ⟨w.heap.size + 1, 0, none⟩) 64 64) wr := by simp [go_sem, Tryd.underlying104]
      have hcv := run_convert_bytes_arg (P := Tryd.prog) wr 74 5 Tryd.underlying74 Tryd.underlying5 (w.heap.size + 1) 0 64 64 ((List.range 64).map (hexF D)) (by simp) (fun j hj => by
        rw [Nat.zero_add, HX.out.1 j (by omega), List.getD_eq_getElem?_getD, List.getElem?_map, List.getElem?_range hj]; rfl) 9 Tryd.underlying9
      rw [show strOfNums ((List.range 64).map (hexF D)) = hexS D from rfl] at hcv
      go_wp2_with fail
      go_ret
      exact ⟨rfl, HX.out.2.2⟩
    · have hi2 : (i : Int) < 32 := by omega
      have hix := HI.out i (by omega) wr
      have hd := HD.out i
      obtain ⟨X, hX⟩ : ∃ X, D i = X := ⟨_, rfl⟩
      have HXE := Lib.hid hX
      rw [hX] at hix hd
      obtain ⟨hd0, hd1⟩ := hd
      clear hX
      have i1 := index16 (X / 16) (by omega) (by omega) wr
      have i2 := fun w => index16 (X % 16) (by omega) (by omega) w
      obtain ⟨u, hu⟩ := Option.isSome_iff_exists.1 (HX.out.2.1.some (j := 2 * i) (by omega))
      obtain ⟨u', hu'⟩ := Option.isSome_iff_exists.1 (HX.out.2.1.some (j := 2 * i + 1) (by omega))
      have fz := HX.out.2.1.frozen
      have h64 : 2 * (i : Int) < 64 := by omega
      have h65 : 2 * (i : Int) + 1 < 64 := by omega
      have X1 := HX.out.put (by omega) (x := hexC (X / 16)) (by rw [hexF_even, HXE.out])
      have X2 := Lib.hid (X1.put (by omega) (x := hexC (X % 16)) (by rw [hexF_odd, HXE.out]))
      clear X1
      go_wp2_with fail
      exact ⟨⟨i + 1, by omega, by go_num, X2⟩, by simp [intOf]; omega⟩
end Go.Proofs.YtlnfdpdancolmaaDoor
namespace Go.Proofs.YtlnfdpdancolmaaDoor
open Go.RowKit

def hexU (D : Nat → Int) (n : Nat) : List UInt8 := (List.range n).map fun j => UInt8.ofNat (hexF D j).toNat
theorem hexU_two (D : Nat → Int) (i : Nat) : hexU D (2 * (i + 1)) = hexU D (2 * i) ++ [UInt8.ofNat (hexC (D i / 16)).toNat, UInt8.ofNat (hexC (D i % 16)).toNat] := by
  unfold hexU
  rw [show 2 * (i + 1) = 2 * i + 1 + 1 by omega, List.range_succ, List.range_succ, List.map_append, List.map_append, List.append_assoc]
  simp only [List.map_cons, List.map_nil, hexF_even, hexF_odd]
  rfl
theorem hexU_len (D : Nat → Int) (n : Nat) : (hexU D n).length = n := by unfold hexU; simp
theorem hexS_U (D : Nat → Int) : hexS D = ⟨(hexU D 64).toArray⟩ := by unfold hexS hexU strOfNums; rw [List.map_map]; rfl
theorem hexC_range {n : Int} (h0 : 0 ≤ n) (h1 : n < 16) : 0 ≤ hexC n ∧ hexC n < 256 := by unfold hexC; split <;> omega
theorem two_news (w : World) (u v : Value) (e : TypeId) : ∀ j x, [u, v][j]? = some x → (w.alloc (.cells #[u, v] e)).cell? ((⟨w.heap.size, 0, none⟩ : Addr).add j) = some x := fun j x hx => by
  rw [Addr.add_lit, Nat.zero_add, cell_new]
  match j with
  | 0 => exact hx
  | 1 => exact hx
  | j + 2 => simp at hx
theorem far_cellB {wr w6 : World} {v : Value} {xs : List UInt8} {o : Obj} {B : Nat} {w0 : World} (h : OwnB B w0 wr v xs) {g : Nat} (hg : g < B) (h6 : World.grownBy (wr.drew.alloc o) w6 v.ownBlock) {off : Nat} {u : Value} (hu : wr.cell? ⟨g, off, none⟩ = some u) : w6.cell? ⟨g, off, none⟩ = some u := by
  have hlt : g < wr.heap.size := Nat.lt_of_lt_of_le hg h.2.2
  have hne : some g ≠ v.ownBlock := fun e => by
    have := (h.1.lt g e.symm).1
    omega
  refine (h6.cell_far ⟨g, off, none⟩ (by simp; exact Nat.lt_succ_of_lt hlt) hne).trans ?_
  exact (((Below.refl wr.heap.size wr).drew.alloc (Nat.le_refl _) o).cell (p := ⟨g, off, none⟩) hlt).trans hu
set_option maxHeartbeats 4000000 in
set_option maxRecDepth 100000 in
theorem rhex_any (D : Nat → Int) (hD : ∀ j, 0 ≤ D j ∧ D j < 256) (w : World) : Calls Tryd.prog 63 #[.agg (row8 D)] w fun e w' => e = .returned (.string (hexS D)) ∧ Below w.heap.size w w' := by
  have hsz := row8_size D
  have hone := row8_one D
  have HC8 := Lib.hid (fun j hj => (cell_new w (row8 D) 86 j).trans (row8_get D j hj))
  generalize row8 D = cs at *
  have HD := Lib.hid hD
  have HO := Lib.hid hone
  have HS := Lib.hid hsz
  obtain ⟨i9, hi9, hz9, hy9, hx9⟩ := info_parts infoB
  have HI := Lib.hid (And.intro hi9 (And.intro hz9 (And.intro hy9 hx9)))
  clear hD hone hsz hi9 hz9 hy9 hx9
  have H86 : Hid ((Tryd.prog.info? 86).map (·.size) = some cs.size) := Lib.hid (by rw [HS.out]; kernel_rfl)
  go_enter Tryd.func63, Tryd.ntmps63
  go_wp2_with fail
  go_loopw [3, 4] (fun s3 s4 wr => ∃ (i : Nat) (v : Value), v = s3 ∧ i ≤ 32 ∧ s4 = .int .i64 i ∧ Hid (OwnB (w.heap.size + 1) (w.alloc (.cells cs 86)) wr v (hexU D (2 * i)))) (fun _ s4 _ => (32 - intOf s4).toNat)
  case atStart => exact ⟨0, _, rfl, by omega, rfl, Lib.hid (OwnB.nil (Below.refl _ _) (by simp))⟩
  case round =>
    obtain ⟨i, vq, hvq, hi, rfl, HB⟩ := hrel
    subst hvq
    by_cases h32 : i = 32
    · subst h32
      have HE : Hid (hexS D = ⟨(hexU D (2 * 32)).toArray⟩) := Lib.hid (hexS_U D)
      generalize hexU D (2 * 32) = q at *
      have hcv := HB.out.conv
      have HB2 : Hid (Below w.heap.size w wr) := Lib.hid (((Below.refl _ _).alloc (Nat.le_refl _) _).trans (HB.out.2.1.mono (by omega)))
      clear HB
      go_wp2_with fail
      go_ret
      exact ⟨by rw [HE.out]; rfl, HB2.out⟩
    · have hi2 : (i : Int) < 32 := by omega
      have c0 : wr.cell? ⟨w.heap.size, i, none⟩ = some (.int .u8 (D i)) := (HB.out.2.1.cell (p := ⟨w.heap.size, i, none⟩) (by simp)).trans (HC8.out i (by omega))
      have HNX := Lib.hid (hexU_two D i)
      have hql := hexU_len D (2 * i)
      have hd := HD.out i
      obtain ⟨X, hX⟩ : ∃ X, D i = X := ⟨_, rfl⟩
      rw [hX] at c0 HNX hd
      obtain ⟨hd0, hd1⟩ := hd
      have i1 := fun W => index16 (X / 16) (by omega) (by omega) W
      have i2 := fun W => index16 (X % 16) (by omega) (by omega) W
      have r1 := hexC_range (n := X / 16) (by omega) (by omega)
      have r2 := hexC_range (n := X % 16) (by omega) (by omega)
      obtain ⟨Y1, hY1⟩ : ∃ Y, hexC (X / 16) = Y := ⟨_, rfl⟩
      obtain ⟨Y2, hY2⟩ : ∃ Y, hexC (X % 16) = Y := ⟨_, rfl⟩
      rw [hY1] at i1 r1 HNX
      rw [hY2] at i2 r2 HNX
      obtain ⟨q, hq⟩ : ∃ q, hexU D (2 * i) = q := ⟨_, rfl⟩
      rw [hq] at HB HNX hql
      have e1 : ((UInt8.ofNat Y1.toNat).toNat : Int) = Y1 := by simp; omega
      have e2 : ((UInt8.ofNat Y2.toNat).toNat : Int) = Y2 := by simp; omega
      have HY : Hid (Lib.byteCells (q ++ [UInt8.ofNat Y1.toNat, UInt8.ofNat Y2.toNat]) = Lib.byteCells q ++ [.int .u8 Y1, .int .u8 Y2]) := Lib.hid (by
        unfold Lib.byteCells
        rw [List.map_append]
        simp only [List.map_cons, List.map_nil, e1, e2])
      have X5 := Lib.hid (HB.out.drew.alloc (.cells #[.int .u8 Y1, .int .u8 Y2] 5))
      have N5 := Lib.hid (two_news wr.drew (.int .u8 Y1) (.int .u8 Y2) 5)
      have HFAR : Hid (∀ w6, World.grownBy (wr.drew.alloc (.cells #[.int .u8 Y1, .int .u8 Y2] 5)) w6 vq.ownBlock → w6.cell? ⟨w.heap.size, i, none⟩ = some (.int .u8 X)) := Lib.hid (fun w6 hg6 => far_cellB HB.out (by omega) hg6 c0)
      have hmax : q.length + 2 ≤ maxLen := by unfold maxLen; omega
      have hbyt : (q.length + 2) * 1 ≤ 140737488355328 := by omega
      have u1 : IntKind.u8.wrap (X / 16) = X / 16 := by rw [IntKind.wrap_u8]; omega
      have u2 : X.tmod 16 = X % 16 := Int.tmod_eq_emod_of_nonneg hd0
      have u3 : X.tdiv 16 = X / 16 := Int.tdiv_eq_ediv_of_nonneg hd0
      clear hX hY1 hY2 hq e1 e2 r1 r2 HC8 HD hql
      go_wp2_with fail
      go_region_held3 (fun w' => w'.cell? ⟨w.heap.size, i, none⟩ = some (.int .u8 X))
        (first | go_keep)
        (first
          | (refine step_append_lies _ (by rfl) _ _ _ (by rfl) (w.heap.size + 1) 5 i9 _ 1 1 Tryd.underlying74 HI.out.1 HI.out.2.1 HI.out.2.2.1 HI.out.2.2.2 rfl (by omega) vq q.length (Lib.byteCells q) (by rfl) X5.out.1 ⟨wr.heap.size, 0, none⟩ 2 2 [.int .u8 Y1, .int .u8 Y2] (by rfl) (by rfl) N5.out (by simp [Value.oneCell']) (by omega) hmax hbyt X5.out.2.2 (wr.heap.size + 1) (by simp) ?_; intro gg cap w6 hown6 hgrow hat6 hlt6; have zq0 := HFAR.out w6 hgrow; have HW6 := Lib.hid (And.intro hown6 hgrow); clear hown6 hgrow hat6))
      all_goals (
        have HB2 : Hid (OwnB (w.heap.size + 1) (w.alloc (.cells cs 86)) w6 (.slice (some ⟨gg, 0, none⟩) (q.length + 2) cap) (hexU D (2 * (i + 1)))) := Lib.hid (by
          rw [HNX.out]
          refine X5.out.app ?_ HW6.out.2
          unfold RowB
          rw [HY.out, List.length_append]
          exact HW6.out.1)
        go_wp2_with fail
        exact ⟨⟨i + 1, _, rfl, by omega, by go_num, HB2⟩, by simp [intOf]; omega⟩)
end Go.Proofs.YtlnfdpdancolmaaDoor
namespace Go.Proofs.YtlnfdpdancolmaaDoor
open Go.RowKit Go.Shelf

def layB_ren : Go.Shelf.Ren := ⟨fun | 166 => 51 | 169 => 58 | 240 => 72 | 276 => 83 | n => n,
  fun | 0 => 0 | 3 => 3 | 4 => 4 | 5 => 5 | 9 => 9 | 20 => 20 | 37 => 74 | 70 => 73 | 72 => 76 | 75 => 78 | 80 => 88 | 164 => 115 | n => n, fun | n => n⟩
theorem layB : Go.Proofs.Lays.n166 Tryd.prog layB_ren := {
  mixed := by kernel_rfl
  f166 := Tryd.func51.trans (congrArg some (by kernel_rfl))
  f240 := Tryd.func72.trans (congrArg some (by kernel_rfl))
  f276 := Tryd.func83.trans (congrArg some (by kernel_rfl))
  t0 := Tryd.underlying0
  a0 := Tryd.isAgg0
  z0 := Tryd.sizeOf0
  v0 := Tryd.zeroValue0
  t3 := Tryd.underlying3
  a3 := Tryd.isAgg3
  z3 := Tryd.sizeOf3
  v3 := Tryd.zeroValue3
  t4 := Tryd.underlying4
  a4 := Tryd.isAgg4
  z4 := Tryd.sizeOf4
  v4 := Tryd.zeroValue4
  t9 := Tryd.underlying9
  a9 := Tryd.isAgg9
  z9 := Tryd.sizeOf9
  v9 := Tryd.zeroValue9
  t20 := Tryd.underlying20
  a20 := Tryd.isAgg20
  z20 := Tryd.sizeOf20
  v20 := Tryd.zeroValue20
  t37 := Tryd.underlying74
  a37 := Tryd.isAgg74
  z37 := Tryd.sizeOf74
  v37 := Tryd.zeroValue74
  t70 := Tryd.underlying73
  a70 := Tryd.isAgg73
  z70 := Tryd.sizeOf73
  v70 := Tryd.zeroValue73
  t72 := Tryd.underlying76
  a72 := Tryd.isAgg76
  z72 := Tryd.sizeOf76
  v72 := Tryd.zeroValue76
  t75 := Tryd.underlying78
  a75 := Tryd.isAgg78
  z75 := Tryd.sizeOf78
  v75 := Tryd.zeroValue78
  t164 := Tryd.underlying115
  a164 := Tryd.isAgg115
  z164 := Tryd.sizeOf115
  v164 := Tryd.zeroValue115 }
theorem layB_extra : Builder.Extra Tryd.prog layB_ren := {
  sizeBuilder := by kernel_rfl
  liesBuilder := by kernel_rfl
  t5 := Tryd.underlying5
  a5 := Tryd.isAgg5
  z5 := Tryd.sizeOf5
  v5 := Tryd.zeroValue5
  infoByte := by kernel_rfl
  cellsByte := by kernel_rfl
  sizeByte := by kernel_rfl
  neB5 := by decide }
end Go.Proofs.YtlnfdpdancolmaaDoor
