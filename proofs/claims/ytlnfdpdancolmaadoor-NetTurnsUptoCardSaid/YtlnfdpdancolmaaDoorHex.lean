/- sum.Hex: the 64 hexadecimal digits of 32 bytes. Conditions: those in each statement. -/
import Derived.Test.YtlnfdpdancolmaaDoorSha2
namespace Go.Proofs.YtlnfdpdancolmaaDoor
open Go.RowKit
def row8 (D : Nat → Int) : Array Value := ((List.range 32).map fun j => Value.int .u8 (D j)).toArray
def hexC (n : Int) : Int := if n < 10 then 48 + n else 87 + n
def hexF (D : Nat → Int) (j : Nat) : Int := if j % 2 = 0 then hexC (D (j / 2) / 16) else hexC (D (j / 2) % 16)
def hexS (D : Nat → Int) : ByteArray := strOfNums ((List.range 64).map (hexF D))
theorem row8_size (D : Nat → Int) : (row8 D).size = 32 := by simp [row8]
theorem row8_get (D : Nat → Int) (j : Nat) (h : j < 32) : (row8 D)[j]? = some (.int .u8 (D j)) := by simp [row8, h]
theorem row8_one (D : Nat → Int) : (row8 D).all (·.oneCell') = true := by unfold row8; simp [Value.oneCell']
theorem index32 (D : Nat → Int) (i : Nat) (hi : i < 32) (w : World) : (Instr.index 86 (.agg (row8 D)) (.int .i64 (i : Int))).run Tryd.prog w = .ok (.int .u8 (D i)) w := by
  have h1 : (0 : Int) ≤ i ∧ (i : Int) < 32 := by omega
  simp [Instr.index, run_underlying Tryd.underlying86, go_sem, part, row8_get D i hi, h1, hi, Tryd.isAgg5, Tryd.sizeOf5]
theorem index16 (n : Int) (h0 : 0 ≤ n) (h1 : n < 16) (w : World) : (Instr.index 9 (.string ⟨#[48, 49, 50, 51, 52, 53, 54, 55, 56, 57, 97, 98, 99, 100, 101, 102]⟩) (.int .u8 n)).run Tryd.prog w = .ok (.int .u8 (hexC n)) w := by
  obtain ⟨m, rfl⟩ := Int.eq_ofNat_of_zero_le h0
  have hm : m < 16 := by omega
  match m, hm with
  | 0, _ | 1, _ | 2, _ | 3, _ | 4, _ | 5, _ | 6, _ | 7, _ | 8, _ | 9, _ | 10, _ | 11, _ | 12, _ | 13, _ | 14, _ | 15, _ => simp [Instr.index, run_underlying Tryd.underlying9, go_sem, hexC]; rfl
theorem hexF_even (D : Nat → Int) (i : Nat) : hexF D (2 * i) = hexC (D i / 16) := by
  unfold hexF; rw [if_pos (by omega), show 2 * i / 2 = i by omega]
theorem hexF_odd (D : Nat → Int) (i : Nat) : hexF D (2 * i + 1) = hexC (D i % 16) := by
  unfold hexF; rw [if_neg (by omega), show (2 * i + 1) / 2 = i by omega]
/-- the world while the digits are written -/
def XI (w wq : World) (k : Nat) (D : Nat → Int) : Prop := Row8 wq (w.heap.size + 1) k (hexF D) ∧ Blk wq (w.heap.size + 1) 104 64 ∧ Below w.heap.size w wq
theorem XI.put {w wq : World} {k : Nat} {D : Nat → Int} (h : XI w wq k D) (hk : k < 64) {x : Int} (hx : hexF D k = x) : XI w (wq.setCell ⟨w.heap.size + 1, k, none⟩ (.int .u8 x)) (k + 1) D := by
  obtain ⟨h1, h2, h4⟩ := h
  obtain ⟨u, hu⟩ := Option.isSome_iff_exists.1 (h2.some hk)
  refine ⟨fun j hj => ?_, h2.setCell _ _ _, h4.setCell (p := ⟨w.heap.size + 1, k, none⟩) (by simp) _⟩
  by_cases e : j = k
  · subst e; rw [World.cell?_setCell_same _ _ _ hu, hx]
  · rw [World.cell?_setCell_other _ _ _ _ (by simp <;> omega), h1 j (by omega)]
theorem XI.start (w : World) (A C : Array Value) (D : Nat → Int) (hC : C.size = 64) : XI w ((w.alloc (.cells A 86)).alloc (.cells C 104)) 0 D := by
  refine ⟨fun j hj => absurd hj (by omega), ?_, ((Below.refl _ _).alloc (Nat.le_refl _) _).alloc (by simp) _⟩
  have := Blk.new (w.alloc (.cells A 86)) 104 C
  rwa [hC, World.size_alloc] at this
set_option maxHeartbeats 2000000 in
set_option maxRecDepth 100000 in
theorem hex_any (D : Nat → Int) (hD : ∀ j, 0 ≤ D j ∧ D j < 256) (w : World) : Calls Tryd.prog 56 #[.agg (row8 D)] w fun e w' => e = .returned (.string (hexS D)) ∧ Below w.heap.size w w' := by
  have hix := index32 D
  have hsz := row8_size D
  have hone := row8_one D
  generalize row8 D = cs at *
  have HD := Lib.hid hD
  have HI := Lib.hid hix
  have HO := Lib.hid hone
  have HS := Lib.hid hsz
  clear hD hix hone hsz
  go_enter Tryd.func56, Tryd.ntmps56
  have H86 : Hid ((Tryd.prog.info? 86).map (·.size) = some cs.size) := Lib.hid (by rw [HS.out]; kernel_rfl)
  go_wp2_with (refine wpList_load_row rfl _ _ rfl w.heap.size rfl _ cs (0, 0) _ (heap_alloc2_old w _ _) Tryd.underlying86 rfl H86.out ?_)
  go_loopw [7] (fun s7 wq => ∃ (i : Nat), i ≤ 32 ∧ s7 = .int .i64 i ∧ Hid (XI w wq (2 * i) D)) (fun s7 _ => (32 - intOf s7).toNat)
  case atStart => exact ⟨0, by omega, rfl, Lib.hid (XI.start w _ _ D (by rfl))⟩
  case round =>
    obtain ⟨i, hi, rfl, HX⟩ := hrel
    by_cases h32 : i = 32
    · subst h32
      have hsl : (Instr.sliceAt 104 (.pointer (some ⟨w.heap.size + 1, 0, none⟩)) none none none).run Tryd.prog wr = .ok (.slice (some ⟨w.heap.size + 1, 0, none⟩) 64 64) wr := by simp [go_sem, Tryd.underlying104]
      have hcv := run_convert_bytes_arg (P := Tryd.prog) wr 74 5 Tryd.underlying74 Tryd.underlying5 (w.heap.size + 1) 0 64 64 ((List.range 64).map (hexF D)) (by simp) (fun j hj => by
        rw [Nat.zero_add, HX.out.1 j (by omega), List.getD_eq_getElem?_getD, List.getElem?_map, List.getElem?_range hj]; rfl) 9 Tryd.underlying9
      rw [show strOfNums ((List.range 64).map (hexF D)) = hexS D from rfl] at hcv
      go_wp2_with fail
      go_ret
      exact ⟨rfl, HX.out.2.2⟩
    · have hi2 : (i : Int) < 32 := by omega
      have hix := HI.out i (by omega) wr
      have hd := HD.out i
      obtain ⟨X, hX⟩ : ∃ X, D i = X := ⟨_, rfl⟩
      have HXE := Lib.hid hX
      rw [hX] at hix hd
      obtain ⟨hd0, hd1⟩ := hd
      clear hX
      have i1 := index16 (X / 16) (by omega) (by omega) wr
      have i2 := fun w => index16 (X % 16) (by omega) (by omega) w
      obtain ⟨u, hu⟩ := Option.isSome_iff_exists.1 (HX.out.2.1.some (j := 2 * i) (by omega))
      obtain ⟨u', hu'⟩ := Option.isSome_iff_exists.1 (HX.out.2.1.some (j := 2 * i + 1) (by omega))
      have fz := HX.out.2.1.frozen
      have h64 : 2 * (i : Int) < 64 := by omega
      have h65 : 2 * (i : Int) + 1 < 64 := by omega
      have X1 := HX.out.put (by omega) (x := hexC (X / 16)) (by rw [hexF_even, HXE.out])
      have X2 := Lib.hid (X1.put (by omega) (x := hexC (X % 16)) (by rw [hexF_odd, HXE.out]))
      clear X1
      go_wp2_with fail
      exact ⟨⟨i + 1, by omega, by go_num, X2⟩, by simp [intOf]; omega⟩
end Go.Proofs.YtlnfdpdancolmaaDoor
