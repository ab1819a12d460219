/- sum.Sha and sum.Hex. -/
import Derived.Test.YtlnfdpdancolmaaDoorYSha
import Derived.Deep.RegionHeld3
import Derived.Deep.RegionWith
import Derived.Lib.LazyBuf
import Derived.Deep.DeepCutAuto
import Derived.Laws.Tables
namespace Go.Proofs.YtlnfdpdancolmaaDoor
open Go.RowKit
theorem compress_agg (a b c d e f g h : Int) (s : ByteArray) (hs : s.size = 64) (w : World) (hR : Row32 w 0 64 kF) :
    Calls Tryd.prog 75 #[.agg #[.int .u32 a, .int .u32 b, .int .u32 c, .int .u32 d, .int .u32 e, .int .u32 f, .int .u32 g, .int .u32 h], .string s] w fun x w' =>
      ∃ a' b' c' d' e' f' g' h', x = .returned (.agg #[.int .u32 a', .int .u32 b', .int .u32 c', .int .u32 d', .int .u32 e', .int .u32 f', .int .u32 g', .int .u32 h']) ∧ compS s ⟨a, b, c, d, e, f, g, h⟩ = ⟨a', b', c', d', e', f', g', h'⟩ ∧ Below w.heap.size w w' := by
  refine (compress_any ⟨a, b, c, d, e, f, g, h⟩ s hs w hR).mono ?_
  rintro x w' ⟨rfl, hb⟩
  exact ⟨_, _, _, _, _, _, _, _, rfl, rfl, hb⟩
theorem eight_cells {w : World} {g : Nat} {e : TypeId} (h : Blk w g e 8) : ∃ u0 u1 u2 u3 u4 u5 u6 u7, w.cell? ⟨g, 0, none⟩ = some u0 ∧ w.cell? ⟨g, 1, none⟩ = some u1 ∧ w.cell? ⟨g, 2, none⟩ = some u2 ∧ w.cell? ⟨g, 3, none⟩ = some u3 ∧ w.cell? ⟨g, 4, none⟩ = some u4 ∧ w.cell? ⟨g, 5, none⟩ = some u5 ∧ w.cell? ⟨g, 6, none⟩ = some u6 ∧ w.cell? ⟨g, 7, none⟩ = some u7 := by
  have h' := fun j (hj : j < 8) => Option.isSome_iff_exists.1 (h.some hj)
  obtain ⟨u0, h0⟩ := h' 0 (by omega)
  obtain ⟨u1, h1⟩ := h' 1 (by omega)
  obtain ⟨u2, h2⟩ := h' 2 (by omega)
  obtain ⟨u3, h3⟩ := h' 3 (by omega)
  obtain ⟨u4, h4⟩ := h' 4 (by omega)
  obtain ⟨u5, h5⟩ := h' 5 (by omega)
  obtain ⟨u6, h6⟩ := h' 6 (by omega)
  obtain ⟨u7, h7⟩ := h' 7 (by omega)
  exact ⟨u0, u1, u2, u3, u4, u5, u6, u7, h0, h1, h2, h3, h4, h5, h6, h7⟩
theorem slice128_0 (gt : Nat) (w : World) : (Instr.sliceAt 109 (.pointer (some ⟨gt, 0, none⟩)) (some (.int .i64 0)) (some (.int .i64 (IntKind.i64.wrap 64))) none).run Tryd.prog w = .ok (.slice (some ⟨gt, 0, none⟩) 64 128) w := by
  rw [show IntKind.i64.wrap 64 = 64 by decide]
  simp [go_sem, Tryd.underlying109]
theorem slice128_1 (gt : Nat) (w : World) : (Instr.sliceAt 109 (.pointer (some ⟨gt, 0, none⟩)) (some (.int .i64 64)) (some (.int .i64 (IntKind.i64.wrap 128))) none).run Tryd.prog w = .ok (.slice (some ⟨gt, 64, none⟩) 64 64) w := by
  rw [show IntKind.i64.wrap 128 = 128 by decide]
  simp [go_sem, Tryd.underlying109]
/-- all whole blocks of a string taken in -/
def absorb : Nat → H8 → ByteArray → H8 × ByteArray
  | 0, v, s => (v, s)
  | n + 1, v, s => if 64 ≤ s.size then absorb n (compS (s.extract 0 64) v) (s.extract 64 s.size) else (v, s)
theorem absorb_end (n : Nat) (v : H8) (s : ByteArray) (h : s.size < 64) : absorb n v s = (v, s) := by
  cases n with
  | zero => rfl
  | succ n => rw [absorb, if_neg (by omega)]
/-- SHA-256's first state -/
def ivS : H8 := ⟨1779033703, 3144134277, 1013904242, 2773480762, 1359893119, 2600822924, 528734635, 1541459225⟩
/-- how far the whole blocks have been taken in -/
def ShaTo (s : ByteArray) (v : H8) (r : ByteArray) : Prop := r.size ≤ s.size ∧ ∃ n, r.size < 64 * (n + 1) ∧ absorb (s.size / 64) ivS s = absorb n v r
theorem ShaTo.step {s r : ByteArray} {v v' : H8} (h : ShaTo s v r) (h64 : 64 ≤ r.size) (hv : compS (r.extract 0 64) v = v') : ShaTo s v' (r.extract 64 r.size) := by
  obtain ⟨h0, n, h1, h2⟩ := h
  have hz : (r.extract 64 r.size).size = r.size - 64 := by rw [ByteArray.size_extract]; omega
  refine ⟨by omega, n - 1, by omega, ?_⟩
  rw [h2, show n = (n - 1) + 1 by omega, absorb, if_pos h64, hv]
  simp
/-- the first n cells of a block read as bytes -/
def Row8 (wr : World) (g n : Nat) (f : Nat → Int) : Prop := ∀ j, j < n → wr.cell? ⟨g, j, none⟩ = some (.int .u8 (f j))
theorem Row8.drew {wr : World} {g n : Nat} {f : Nat → Int} (h : Row8 wr g n f) : Row8 wr.drew g n f := fun j hj => h j hj
theorem Row8.put {wr : World} {g n k : Nat} {f f' : Nat → Int} (h : Row8 wr g n f) (hk : k < n) {x : Int} (hx : f' k = x) (hf : ∀ j, j < n → j ≠ k → f' j = f j) : Row8 (wr.setCell ⟨g, k, none⟩ (.int .u8 x)) g n f' := fun j hj => by
  by_cases e : j = k
  · subst e; rw [World.cell?_setCell_same _ _ _ (h j hj), hx]
  · rw [World.cell?_setCell_other _ _ _ _ (by simp <;> omega), h j hj, hf j hj e]
theorem Row8.far {wr : World} {g n : Nat} {f : Nat → Int} (h : Row8 wr g n f) (p : Addr) (hp : p.block ≠ g) (u : Value) : Row8 (wr.setCell p u) g n f := fun j hj => by
  rw [World.cell?_setCell_other _ _ _ _ (fun e => hp (by rw [e]))]; exact h j hj
theorem Row8.below {wr wr' : World} {g n B : Nat} {f : Nat → Int} (h : Row8 wr g n f) (hb : Below B wr wr') (hg : g < B) : Row8 wr' g n f := fun j hj => (hb.cell (p := ⟨g, j, none⟩) hg).trans (h j hj)
theorem Row32.below {wr wr' : World} {g n B : Nat} {f : Nat → Int} (h : Row32 wr g n f) (hb : Below B wr wr') (hg : g < B) : Row32 wr' g n f := fun j hj => (hb.cell (p := ⟨g, j, none⟩) hg).trans (h j hj)
/-- the bytes of the string, and zeros -/
def padF (r : ByteArray) (j : Nat) : Int := if j < r.size then byt r j else 0
theorem pad_copy (wr : World) (cs : Array Value) (e : TypeId) (r : ByteArray) (hr : r.size ≤ 128) (hc : ∀ j, j < 128 → cs[j]? = some (.int .u8 0)) :
    Row8 ((wr.alloc (.cells cs e)).setCells wr.heap.size 0 (r.data.toList.map fun x => Value.int .u8 (x.toNat : Int))) wr.heap.size 128 (padF r) := fun j hj => by
  have hl : (r.data.toList.map fun x => Value.int .u8 (x.toNat : Int)).length = r.size := by rw [List.length_map]; simp
  unfold padF
  by_cases h : j < r.size
  · rw [if_pos h, cell_in (fun i hi => by rw [Nat.zero_add, cell_new, hc i (by omega)]; rfl) j (Nat.zero_le _) (by omega), Nat.sub_zero]
    rw [List.getElem?_map, List.getElem?_eq_getElem (by simpa using h)]
    unfold byt
    rw [List.getD_eq_getElem?_getD, List.getElem?_eq_getElem (by simpa using h)]
    rfl
  · rw [if_neg h, cell_out j (.inr (by omega)), cell_new, hc j hj]
def tail0 (r : ByteArray) (j : Nat) : Int := if j = r.size then 128 else padF r j
def tailF (r : ByteArray) (L : Int) (size k j : Nat) : Int := if size - k ≤ j ∧ j < size then L / 2 ^ (8 * (size - 1 - j)) % 256 else tail0 r j
theorem tailF_0 (r : ByteArray) (L : Int) (size : Nat) : tailF r L size 0 = tail0 r := by
  funext j; unfold tailF; rw [if_neg (by omega)]
theorem tailF_at (r : ByteArray) (L : Int) {size k : Nat} (h : k < size) : tailF r L size (k + 1) (size - 1 - k) = L / 2 ^ (8 * k) % 256 := by
  unfold tailF; rw [if_pos (by omega), show size - 1 - (size - 1 - k) = k by omega]
theorem tailF_off (r : ByteArray) (L : Int) {size k j : Nat} (_h : k < size) (hj : j ≠ size - 1 - k) : tailF r L size (k + 1) j = tailF r L size k j := by
  unfold tailF
  by_cases e : size - k ≤ j ∧ j < size
  · rw [if_pos e, if_pos (by omega)]
  · rw [if_neg e, if_neg (by omega)]
/-- the n-th block of the tail -/
def tailS (r : ByteArray) (L : Int) (size n : Nat) : ByteArray := strOfNums ((List.range 64).map fun j => tailF r L size 8 (64 * n + j))
theorem tailS_size (r : ByteArray) (L : Int) (size n : Nat) : (tailS r L size n).size = 64 := by unfold tailS; rw [strOfNums_size]; simp
def foldT (r : ByteArray) (L : Int) (size : Nat) (v : H8) : Nat → H8
  | 0 => v
  | n + 1 => compS (tailS r L size n) (foldT r L size v n)
theorem tail_cells {wr : World} {g n : Nat} {F : Nat → Int} (h : Row8 wr g 128 F) (hn : 64 * n + 64 ≤ 128) : ∀ j, j < 64 → wr.cell? ⟨g, 64 * n + j, none⟩ = some (.int .u8 (((List.range 64).map fun j => F (64 * n + j)).getD j 0)) := fun j hj => by
  rw [h (64 * n + j) (by omega), List.getD_eq_getElem?_getD, List.getElem?_map, List.getElem?_range hj]; rfl
theorem zc128 (j : Nat) (h : j < 128) : Tryd.zeroCells109[j]? = some (.int .u8 0) := by
  have : Tryd.zeroCells109 = Array.replicate 128 (.int .u8 0) := by rfl
  rw [this, Array.getElem?_replicate, if_pos h]
/-- the world while the tail is filled -/
def TI (w wq : World) (gt : Nat) (F : Nat → Int) (v : H8) : Prop :=
  Row8 wq gt 128 F ∧ Blk wq gt 109 128 ∧ Row32 wq (w.heap.size + 1) 8 v.get ∧ Blk wq w.heap.size 86 32 ∧ Blk wq (w.heap.size + 1) 106 8 ∧ Below w.heap.size w wq ∧ w.heap.size + 2 ≤ gt
def digF (v : H8) (j : Nat) : Int := v.get (j / 4) / 2 ^ (24 - 8 * (j % 4)) % 256
def digRow (v : H8) : Array Value := ((List.range 32).map fun j => Value.int .u8 (digF v j)).toArray
theorem row8_eq {wr : World} {g n : Nat} {e : TypeId} {cur : Array Value} {f : Nat → Int} (hc : wr.heap[g]? = some (.cells cur e (0, 0))) (hs : cur.size = n) (h : Row8 wr g n f) : cur = ((List.range n).map fun j => Value.int .u8 (f j)).toArray := by
  apply Array.ext
  · simp [hs]
  · intro j h1 h2
    have := h j (by omega)
    rw [cell_of_row wr g j cur e (0, 0) hc, Array.getElem?_eq_getElem h1] at this
    have := Option.some.inj this
    rw [this]; simp
theorem below_setRow {B : Nat} {a w : World} (h : Below B a w) (g : Nat) (hg : B ≤ g) (cs : Array Value) : Below B a (w.setRow g cs) :=
  ⟨h.os, h.tape, h.output, by rw [size_setRow]; exact h.size, fun k hk => by
    rw [show (w.setRow g cs).heap[k]? = w.heap[k]? by simp only [World.setRow]; rw [Array.getElem?_modify, if_neg (by omega)]]
    exact h.block k hk⟩
theorem heap_setRow {w : World} {g : Nat} {c : Array Value} {e : TypeId} {m : Nat × Nat} (h : w.heap[g]? = some (.cells c e m)) (cs : Array Value) : (w.setRow g cs).heap[g]? = some (.cells cs e m) := by
  simp [World.setRow, Array.getElem?_modify, h]
/-- the world while the digest is written -/
def DI (w wq : World) (gd k : Nat) (v : H8) : Prop := Row8 wq gd k (digF v) ∧ Blk wq gd 86 32 ∧ Blk wq w.heap.size 86 32 ∧ Below w.heap.size w wq ∧ w.heap.size < gd
theorem index8 (a b c d e f g h : Int) (i : Nat) (hi : i < 8) (w : World) : (Instr.index 106 (.agg #[.int .u32 a, .int .u32 b, .int .u32 c, .int .u32 d, .int .u32 e, .int .u32 f, .int .u32 g, .int .u32 h]) (.int .i64 (i : Int))).run Tryd.prog w = .ok (.int .u32 (H8.get ⟨a, b, c, d, e, f, g, h⟩ i)) w := by
  match i, hi with
  | 0, _ | 1, _ | 2, _ | 3, _ | 4, _ | 5, _ | 6, _ | 7, _ => simp [Instr.index, run_underlying Tryd.underlying106, go_sem, H8.get, part]
theorem DI.put {w wq : World} {gd k : Nat} {v : H8} (h : DI w wq gd k v) (hk : k < 32) {x : Int} (hx : digF v k = x) : DI w (wq.setCell ⟨gd, k, none⟩ (.int .u8 x)) gd (k + 1) v := by
  obtain ⟨h1, h2, h3, h4, h5⟩ := h
  obtain ⟨u, hu⟩ := Option.isSome_iff_exists.1 (h2.some hk)
  refine ⟨fun j hj => ?_, h2.setCell _ _ _, h3.setCell _ _ _, h4.setCell (p := ⟨gd, k, none⟩) (by simp; omega) _, h5⟩
  by_cases e : j = k
  · subst e; rw [World.cell?_setCell_same _ _ _ hu, hx]
  · rw [World.cell?_setCell_other _ _ _ _ (by simp <;> omega), h1 j (by omega)]
theorem TI.put {w wq : World} {gt k : Nat} {F F' : Nat → Int} {v : H8} (h : TI w wq gt F v) (hk : k < 128) {x : Int} (hx : F' k = x) (hf : ∀ j, j < 128 → j ≠ k → F' j = F j) : TI w (wq.setCell ⟨gt, k, none⟩ (.int .u8 x)) gt F' v := by
  obtain ⟨h1, h2, h3, h4, h5, h6, h7⟩ := h
  exact ⟨h1.put hk hx hf, h2.setCell _ _ _, h3.far ⟨gt, k, none⟩ (by simp; omega) _, h4.setCell _ _ _, h5.setCell _ _ _, h6.setCell (p := ⟨gt, k, none⟩) (by simp; omega) _, h7⟩
theorem TI.next {w wq w4 : World} {gt : Nat} {F : Nat → Int} {v v' : H8} (h : TI w wq gt F v) (hb : Below wq.heap.size wq.drew w4) : TI w (w4.setCells (w.heap.size + 1) 0 v'.row.toList) gt F v' := by
  obtain ⟨h1, h2, h3, h4, h5, h6, h7⟩ := h
  have k2 : Blk w4 gt 109 128 := h2.drew.below hb h2.lt
  have k4 : Blk w4 w.heap.size 86 32 := h4.drew.below hb h4.lt
  have k5 : Blk w4 (w.heap.size + 1) 106 8 := h5.drew.below hb h5.lt
  refine ⟨fun j hj => ?_, k2.setCells _ _ _, Row32.ofCells v' k5, k4.setCells _ _ _, k5.setCells _ _ _, below_setCells _ (by omega) _ _ ((below_drew h6).trans (hb.mono h6.size)), h7⟩
  rw [cell_far gt j (by omega)]
  exact (hb.cell (p := ⟨gt, j, none⟩) h2.lt).trans (h1 j hj)
theorem sha_start (w : World) (A C : Array Value) (v : H8) (hA : A.size = 32) (hC : C = v.row) :
    Row32 ((w.alloc (.cells A 86)).alloc (.cells C 106)) (w.heap.size + 1) 8 v.get ∧ Blk ((w.alloc (.cells A 86)).alloc (.cells C 106)) w.heap.size 86 32 ∧ Blk ((w.alloc (.cells A 86)).alloc (.cells C 106)) (w.heap.size + 1) 106 8 ∧ Below w.heap.size w ((w.alloc (.cells A 86)).alloc (.cells C 106)) := by
  subst hC
  have k1 : Blk (w.alloc (.cells A 86)) w.heap.size 86 32 := by have := Blk.new w 86 A; rwa [hA] at this
  have k2 := Blk.new (w.alloc (.cells A 86)) 106 v.row
  rw [World.size_alloc] at k2
  have b2 : Below (w.heap.size + 1) (w.alloc (.cells A 86)) ((w.alloc (.cells A 86)).alloc (.cells v.row 106)) := (Below.refl _ _).alloc (by simp) _
  refine ⟨fun j hj => ?_, k1.below b2 (by omega), k2, ((Below.refl _ _).alloc (Nat.le_refl _) _).alloc (by simp) _⟩
  have := cell_new (w.alloc (.cells A 86)) v.row 106 j
  rw [World.size_alloc] at this
  rw [this]
  match j, hj with
  | 0, _ | 1, _ | 2, _ | 3, _ | 4, _ | 5, _ | 6, _ | 7, _ => rfl
theorem DI.start {w wq : World} {gt gd : Nat} {F : Nat → Int} {v : H8} (h : TI w wq gt F v) (hg : wq.heap.size = gd) (C : Array Value) (hC : C.size = 32) : DI w (wq.alloc (.cells C 86)) gd 0 v := by
  subst hg
  obtain ⟨h1, h2, h3, h4, h5, h6, h7⟩ := h
  have hb : Below wq.heap.size wq (wq.alloc (.cells C 86)) := (Below.refl _ _).alloc (Nat.le_refl _) _
  refine ⟨fun j hj => absurd hj (by omega), by have := Blk.new wq 86 C; rwa [hC] at this, h4.below hb h4.lt, h6.trans (hb.mono h6.size), h4.lt⟩
/-- SHA-256 -/
def shaS (s : ByteArray) : H8 :=
  let p := absorb (s.size / 64) ivS s
  if 55 < p.2.size then foldT p.2 (s.size * 8) 128 p.1 2 else foldT p.2 (s.size * 8) 64 p.1 1
theorem shaS_eq {s r : ByteArray} {v : H8} (h : ShaTo s v r) (hr : r.size < 64) : shaS s = if 55 < r.size then foldT r (s.size * 8) 128 v 2 else foldT r (s.size * 8) 64 v 1 := by
  obtain ⟨_, n, _, h2⟩ := h
  unfold shaS
  rw [h2, absorb_end n v r hr]
set_option maxHeartbeats 20000000 in
set_option maxRecDepth 100000 in
theorem sha_any (s : ByteArray) (hs : s.size ≤ 4294967296) (w : World) (hR : Row32 w 0 64 kF) : Calls Tryd.prog 57 #[.string s] w fun e w' => e = .returned (.agg (digRow (shaS s))) ∧ Below w.heap.size w w' := by
  have hw0 : 0 < w.heap.size := World.block_lt_of_cell? w _ (hR 0 (by omega))
  have HR := Lib.hid hR
  clear hR
  go_enter Tryd.func57, Tryd.ntmps57
  go_wp2_with fail
  go_loopw [0] (fun s0 wr => ∃ (r : ByteArray) (a b c d e f g h : Int), s0 = .string r ∧ r.size ≤ 4294967296 ∧ Hid (ShaTo s ⟨a, b, c, d, e, f, g, h⟩ r) ∧ Hid (Row32 wr (w.heap.size + 1) 8 (H8.get ⟨a, b, c, d, e, f, g, h⟩)) ∧ Hid (Blk wr w.heap.size 86 32) ∧ Hid (Blk wr (w.heap.size + 1) 106 8) ∧ Hid (Below w.heap.size w wr)) (fun s0 _ => match s0 with | .string r => r.size | _ => 0)
  case atStart =>
    exact ⟨s, 1779033703, 3144134277, 1013904242, 2773480762, 1359893119, 2600822924, 528734635, 1541459225, rfl, hs, Lib.hid ⟨Nat.le_refl _, s.size / 64, by omega, rfl⟩, Lib.hid (sha_start w _ _ ivS (by rfl) (by rfl)).1, Lib.hid (sha_start w _ _ ivS (by rfl) (by rfl)).2.1, Lib.hid (sha_start w _ _ ivS (by rfl) (by rfl)).2.2.1, Lib.hid (sha_start w _ _ ivS (by rfl) (by rfl)).2.2.2⟩
  case round =>
    obtain ⟨r, a, b, c, d, e, f, g, h, rfl, hr, HS, HV, HD, HVB, HB⟩ := hrel
    by_cases h64 : 64 ≤ r.size
    · have c0 : wr.cell? ⟨w.heap.size + 1, 0, none⟩ = some (.int .u32 a) := HV.out 0 (by omega)
      have c1 : wr.cell? ⟨w.heap.size + 1, 1, none⟩ = some (.int .u32 b) := HV.out 1 (by omega)
      have c2 : wr.cell? ⟨w.heap.size + 1, 2, none⟩ = some (.int .u32 c) := HV.out 2 (by omega)
      have c3 : wr.cell? ⟨w.heap.size + 1, 3, none⟩ = some (.int .u32 d) := HV.out 3 (by omega)
      have c4 : wr.cell? ⟨w.heap.size + 1, 4, none⟩ = some (.int .u32 e) := HV.out 4 (by omega)
      have c5 : wr.cell? ⟨w.heap.size + 1, 5, none⟩ = some (.int .u32 f) := HV.out 5 (by omega)
      have c6 : wr.cell? ⟨w.heap.size + 1, 6, none⟩ = some (.int .u32 g) := HV.out 6 (by omega)
      have c7 : wr.cell? ⟨w.heap.size + 1, 7, none⟩ = some (.int .u32 h) := HV.out 7 (by omega)
      have f0 := HVB.out.frozen
      have HR2 : Hid (Row32 wr.drew 0 64 kF) := Lib.hid (fun j hj => (HB.out.cell (p := ⟨0, j, none⟩) hw0).trans (HR.out j hj))
      have hx : (r.extract 0 64).size = 64 := by rw [ByteArray.size_extract]; omega
      have hx2 : (r.extract 64 r.size).size = r.size - 64 := by rw [ByteArray.size_extract]; omega
      have hx3 : (0 : Int) ≤ 64 := by omega
      go_wp2_with fail
      go_region_with (first | (go_at_call 75; refine (compress_agg _ _ _ _ _ _ _ _ _ hx _ HR2.out).mono ?_; rintro x w4 ⟨a', b', c', d', e', f', g', h', rfl, hcs, hb4⟩; have K4 := Lib.hid ((Blk.drew HVB.out).below hb4 HVB.out.lt); have D4 := Lib.hid ((Blk.drew HD.out).below hb4 HD.out.lt); have f4 := K4.out.frozen; obtain ⟨u0, u1, u2, u3, u4, u5, u6, u7, hu0, hu1, hu2, hu3, hu4, hu5, hu6, hu7⟩ := eight_cells K4.out; have B4 := Lib.hid hb4; have C4 := Lib.hid hcs; clear hb4 hcs))
      have S2 := Lib.hid (HS.out.step h64 C4.out)
      have V2 := Lib.hid (Row32.ofCells ⟨a', b', c', d', e', f', g', h'⟩ K4.out)
      have K2 := Lib.hid (K4.out.setCells (w.heap.size + 1) 0 (H8.row ⟨a', b', c', d', e', f', g', h'⟩).toList)
      have D2 := Lib.hid (D4.out.setCells (w.heap.size + 1) 0 (H8.row ⟨a', b', c', d', e', f', g', h'⟩).toList)
      have B2 : Hid (Below w.heap.size w (w4.setCells (w.heap.size + 1) 0 (H8.row ⟨a', b', c', d', e', f', g', h'⟩).toList)) := Lib.hid (below_setCells _ (by omega) _ _ ((below_drew HB.out).trans (B4.out.mono HB.out.size)))
      go_wp2_with fail
      exact ⟨⟨r.extract 64 r.size, a', b', c', d', e', f', g', h', rfl, by omega, S2, V2, D2, K2, B2⟩, by simp [ByteArray.size_extract]; omega⟩
    · obtain ⟨gt, hgt⟩ : ∃ gt, wr.heap.size = gt := ⟨_, rfl⟩
      have hcp := run_copy_string (P := Tryd.prog) (wr.alloc (Obj.cells Tryd.zeroCells109 109)) 74 9 3 5 wr.heap.size 0 128 128 r Tryd.underlying74 (fun w => by simp [Tryd.sizeOf5]) (by omega) (fun j hj => by rw [Nat.zero_add, cell_new]; exact Option.isSome_iff_exists.2 ⟨_, zc128 j (by omega)⟩) (fun j hj => frozen_new _ _ _ _)
      have P1 := pad_copy wr Tryd.zeroCells109 109 r (by omega) zc128
      generalize hW1 : ((wr.alloc (Obj.cells Tryd.zeroCells109 109)).setCells wr.heap.size 0 (r.data.toList.map fun x => Value.int .u8 (x.toNat : Int))) = W1 at hcp P1
      have T1 : Hid (TI w W1 gt (padF r) ⟨a, b, c, d, e, f, g, h⟩) := Lib.hid (by
        have hbw : Below wr.heap.size wr W1 := by rw [← hW1]; exact below_setCells _ (Nat.le_refl _) _ _ ((Below.refl _ _).alloc (Nat.le_refl _) _)
        have hk : Blk W1 wr.heap.size 109 128 := by rw [← hW1]; exact (Blk.new _ _ _).setCells _ _ _
        have hv := HVB.out.lt
        rw [← hgt]
        exact ⟨P1, hk, HV.out.below hbw hv, HD.out.below hbw HD.out.lt, HVB.out.below hbw hv, HB.out.trans (hbw.mono HB.out.size), by omega⟩)
      have T2 := Lib.hid (T1.out.put (k := r.size) (by omega) (F' := tail0 r) (if_pos rfl) (fun j _ hj => if_neg hj))
      have q1 := P1 r.size (by omega)
      have hr1 : (r.size : Int) < 128 := by omega
      have fz : W1.frozen? ⟨gt, r.size, none⟩ = false := by rw [← hW1, ← hgt]; exact ((Blk.new wr _ _).setCells _ _ _).frozen _
      rw [hgt] at q1 hcp
      clear P1 hW1
      go_upto_if 36 with (fail)
      go_cut [6] (fun s6 wx => ∃ sz : Nat, s6 = .int .i64 (sz : Int) ∧ (sz = 64 ∧ r.size ≤ 55 ∨ sz = 128 ∧ 55 < r.size) ∧ Hid (TI w wx gt (tail0 r) ⟨a, b, c, d, e, f, g, h⟩))
      case first =>
        by_cases hsz : 55 < r.size
        · have hsz2 : (64 : Int) < r.size + 9 := by omega
          go_wp2_with fail
          go_meet
          exact ⟨128, rfl, .inr ⟨rfl, hsz⟩, T2⟩
        · have hsz2 : (r.size : Int) + 9 ≤ 64 := by omega
          go_wp2_with fail
          go_meet
          exact ⟨64, rfl, .inl ⟨rfl, by omega⟩, T2⟩
      case rest =>
        clear T1 T2 q1 hcp fz
        obtain ⟨sz, rfl, hsz, T2⟩ := hcut
        have hsb : sz = 64 ∨ sz = 128 := by omega
        go_wp2_with fail
        go_loopw [37] (fun s37 wq => ∃ (k : Nat), k ≤ 8 ∧ s37 = .int .i64 k ∧ Hid (TI w wq gt (tailF r (s.size * 8) sz k) ⟨a, b, c, d, e, f, g, h⟩)) (fun s37 _ => (8 - intOf s37).toNat)
        case atStart => exact ⟨0, by omega, rfl, Lib.hid (by rw [tailF_0]; exact T2.out)⟩
        case round =>
          obtain ⟨k, hk, rfl, HT⟩ := hrel
          by_cases h8 : k = 8
          · subst h8
            go_wp2_with fail
            go_loopw [8] (fun s8 wq => ∃ (n : Nat) (a' b' c' d' e' f' g' h' : Int), 64 * n ≤ sz ∧ s8 = .int .i64 ((64 * n : Nat) : Int) ∧ Hid (foldT r (s.size * 8) sz ⟨a, b, c, d, e, f, g, h⟩ n = ⟨a', b', c', d', e', f', g', h'⟩) ∧ Hid (TI w wq gt (tailF r (s.size * 8) sz 8) ⟨a', b', c', d', e', f', g', h'⟩)) (fun s8 _ => (128 - intOf s8).toNat)
            case atStart => exact ⟨0, a, b, c, d, e, f, g, h, by omega, rfl, Lib.hid rfl, HT⟩
            case round =>
              clear HT
              obtain ⟨n, a', b', c', d', e', f', g', h', hn, rfl, HF, HT⟩ := hrel
              have c0 : wr.cell? ⟨w.heap.size + 1, 0, none⟩ = some (.int .u32 a') := HT.out.2.2.1 0 (by omega)
              have c1 : wr.cell? ⟨w.heap.size + 1, 1, none⟩ = some (.int .u32 b') := HT.out.2.2.1 1 (by omega)
              have c2 : wr.cell? ⟨w.heap.size + 1, 2, none⟩ = some (.int .u32 c') := HT.out.2.2.1 2 (by omega)
              have c3 : wr.cell? ⟨w.heap.size + 1, 3, none⟩ = some (.int .u32 d') := HT.out.2.2.1 3 (by omega)
              have c4 : wr.cell? ⟨w.heap.size + 1, 4, none⟩ = some (.int .u32 e') := HT.out.2.2.1 4 (by omega)
              have c5 : wr.cell? ⟨w.heap.size + 1, 5, none⟩ = some (.int .u32 f') := HT.out.2.2.1 5 (by omega)
              have c6 : wr.cell? ⟨w.heap.size + 1, 6, none⟩ = some (.int .u32 g') := HT.out.2.2.1 6 (by omega)
              have c7 : wr.cell? ⟨w.heap.size + 1, 7, none⟩ = some (.int .u32 h') := HT.out.2.2.1 7 (by omega)
              by_cases hex : 64 * n = sz
              · have hlt := HT.out.2.2.2.2.1.lt
                have hge : ¬ ((64 * n : Nat) : Int) < sz := by omega
                obtain ⟨gd, hgd⟩ : ∃ gd, wr.heap.size = gd := ⟨_, rfl⟩
                rw [hgd] at hlt
                go_wp2_with fail
                go_loopw [64] (fun s64 wq => ∃ (i : Nat), i ≤ 8 ∧ s64 = .int .i64 i ∧ Hid (DI w wq gd (4 * i) ⟨a', b', c', d', e', f', g', h'⟩)) (fun s64 _ => (8 - intOf s64).toNat)
                case atStart => exact ⟨0, by omega, rfl, Lib.hid (DI.start HT.out hgd _ rfl)⟩
                case round =>
                  clear c0 c1 c2 c3 c4 c5 c6 c7
                  obtain ⟨i, hi, rfl, HD2⟩ := hrel
                  by_cases h9 : i = 8
                  · subst h9
                    have HE : Hid (Value.agg (digRow ⟨a', b', c', d', e', f', g', h'⟩) = .agg (digRow (shaS s))) := Lib.hid (by
                      rw [shaS_eq HS.out (by omega)]
                      rcases hsz with ⟨h1, h2⟩ | ⟨h1, h2⟩
                      · subst h1
                        obtain rfl : n = 1 := by omega
                        rw [if_neg (by omega), HF.out]
                      · subst h1
                        obtain rfl : n = 2 := by omega
                        rw [if_pos (by omega), HF.out])
                    obtain ⟨cur, hcur, hcs⟩ := HD2.out.2.1
                    obtain ⟨cur0, hcur0, hcs0⟩ := HD2.out.2.2.1
                    have hce : cur = digRow ⟨a', b', c', d', e', f', g', h'⟩ := row8_eq hcur hcs HD2.out.1
                    have hone : cur.all (·.oneCell') = true := by
                      rw [hce]; unfold digRow; simp [Value.oneCell']
                    have HB2 := Lib.hid (below_setRow HD2.out.2.2.2.1 w.heap.size (Nat.le_refl _) cur)
                    have HC2 := Lib.hid (heap_setRow hcur0 cur)
                    have HCE := Lib.hid (hce.symm ▸ HE.out : Value.agg cur = .agg (digRow (shaS s)))
                    have h86 : (Tryd.prog.info? 86).map (·.size) = some cur.size := by rw [hcs]; kernel_rfl
                    have HC1 := Lib.hid hcur
                    have HC0 := Lib.hid hcur0
                    have H86 := Lib.hid h86
                    have HO := Lib.hid hone
                    have HSS := Lib.hid (hcs0.trans hcs.symm)
                    clear hce hcur hcs hcur0 hcs0 h86 hone
                    go_wp2_with (first | (refine wpList_load_row rfl _ _ rfl gd rfl _ cur (0, 0) _ HC1.out Tryd.underlying86 rfl H86.out ?_) | (refine wpList_store_row rfl _ _ _ rfl w.heap.size cur rfl rfl _ cur0 HC0.out H86.out HSS.out HO.out ?_))
                    exact bodyPost_ret (v := .agg cur) (results_cell_row (by rfl) _ _ w.heap.size _ cur (0, 0) _ rfl HC2.out Tryd.underlying86 rfl H86.out) rfl ⟨congrArg _ HCE.out, HB2.out⟩
                  · have hi8 : (i : Int) < 8 := by omega
                    have hix := index8 a' b' c' d' e' f' g' h' i (by omega) wr
                    generalize hX : H8.get ⟨a', b', c', d', e', f', g', h'⟩ i = X at hix
                    have HX := Lib.hid hX
                    clear hX
                    go_wp2_with fail
                    go_loopw [68] (fun s68 wq => ∃ (m : Nat), m ≤ 4 ∧ s68 = .int .i64 m ∧ Hid (DI w wq gd (4 * i + m) ⟨a', b', c', d', e', f', g', h'⟩)) (fun s68 _ => (4 - intOf s68).toNat)
                    case atStart => exact ⟨0, by omega, rfl, HD2⟩
                    case round =>
                      clear HD2 hix
                      obtain ⟨m, hm, rfl, HD3⟩ := hrel
                      by_cases h10 : m = 4
                      · subst h10
                        have HD4 : Hid (DI w wr gd (4 * (i + 1)) ⟨a', b', c', d', e', f', g', h'⟩) := Lib.hid (by rw [show 4 * (i + 1) = 4 * i + 4 by omega]; exact HD3.out)
                        go_wp2_with fail
                        exact ⟨⟨i + 1, by omega, by go_num, HD4⟩, by simp [intOf]; omega⟩
                      · obtain ⟨u, hu⟩ := Option.isSome_iff_exists.1 (HD3.out.2.1.some (j := 4 * i + m) (by omega))
                        have fz3 := HD3.out.2.1.frozen (4 * i + m)
                        have hm4 : (m : Int) < 4 := by omega
                        have hm5 : 4 * (i : Int) + m < 32 := by omega
                        have HD4 := Lib.hid (HD3.out.put (by omega) (x := X / 2 ^ (24 - 8 * m) % 256) (by unfold digF; rw [show (4 * i + m) / 4 = i by omega, show (4 * i + m) % 4 = m by omega, HX.out]))
                        go_wp2_with fail
                        exact ⟨⟨m + 1, by omega, by go_num, HD4⟩, by simp [intOf]; omega⟩
              · have hn2 : n = 0 ∨ n = 1 ∧ 64 < sz := by omega
                clear hex
                rcases hn2 with rfl | ⟨rfl, hsz8⟩
                · skip
                  have HR2 : Hid (Row32 wr.drew 0 64 kF) := Lib.hid (fun j hj => (HT.out.2.2.2.2.2.1.cell (p := ⟨0, j, none⟩) hw0).trans (HR.out j hj))
                  have hx := tailS_size r (s.size * 8) sz 0
                  have hsl := slice128_0 gt wr.drew
                  have hcv := run_convert_bytes_arg (P := Tryd.prog) wr.drew 74 5 Tryd.underlying74 Tryd.underlying5 gt 0 64 128 ((List.range 64).map fun j => tailF r (s.size * 8) sz 8 (64 * 0 + j)) (by simp) (tail_cells (n := 0) HT.out.1.drew (by omega)) 9 Tryd.underlying9
                  rw [show strOfNums ((List.range 64).map fun j => tailF r (s.size * 8) sz 8 (64 * 0 + j)) = tailS r (s.size * 8) sz 0 from rfl] at hcv
                  rw [show ((64 * 0 : Nat) : Int) = 0 from rfl]
                  have hlt : (0 : Int) < sz := by omega
                  go_wp2_with fail
                  go_region_with (first | (go_at_call 75; refine (compress_agg _ _ _ _ _ _ _ _ _ hx _ HR2.out).mono ?_; rintro x w4 ⟨a4, b4, c4, d4, e4, f4, g4, h4, rfl, hcs, hb4⟩; have K4 := Lib.hid ((Blk.drew HT.out.2.2.2.2.1).below hb4 HT.out.2.2.2.2.1.lt); have fr4 := K4.out.frozen; obtain ⟨u0, u1, u2, u3, u4, u5, u6, u7, hu0, hu1, hu2, hu3, hu4, hu5, hu6, hu7⟩ := eight_cells K4.out; have B4 := Lib.hid hb4; have C4 := Lib.hid hcs; clear hb4 hcs))
                  all_goals (
                    have F2 : Hid (foldT r (s.size * 8) sz ⟨a, b, c, d, e, f, g, h⟩ 1 = ⟨a4, b4, c4, d4, e4, f4, g4, h4⟩) := Lib.hid (by rw [foldT, HF.out]; exact C4.out)
                    have T4 := Lib.hid (HT.out.next B4.out (v' := ⟨a4, b4, c4, d4, e4, f4, g4, h4⟩))
                    go_wp2_with fail
                    refine ⟨?_, by simp [intOf]⟩
                    (repeat apply Exists.intro)
                    refine ⟨?_, rfl⟩
                    exact ⟨1, a4, b4, c4, d4, e4, f4, g4, h4, by omega, rfl, F2, T4⟩)
                · skip
                  have HR2 : Hid (Row32 wr.drew 0 64 kF) := Lib.hid (fun j hj => (HT.out.2.2.2.2.2.1.cell (p := ⟨0, j, none⟩) hw0).trans (HR.out j hj))
                  have hx := tailS_size r (s.size * 8) sz 1
                  have hsl := slice128_1 gt wr.drew
                  have hcv := run_convert_bytes_arg (P := Tryd.prog) wr.drew 74 5 Tryd.underlying74 Tryd.underlying5 gt 64 64 64 ((List.range 64).map fun j => tailF r (s.size * 8) sz 8 (64 * 1 + j)) (by simp) (tail_cells (n := 1) HT.out.1.drew (by omega)) 9 Tryd.underlying9
                  rw [show strOfNums ((List.range 64).map fun j => tailF r (s.size * 8) sz 8 (64 * 1 + j)) = tailS r (s.size * 8) sz 1 from rfl] at hcv
                  rw [show ((64 * 1 : Nat) : Int) = 64 from rfl]
                  have hlt : (64 : Int) < sz := by omega
                  go_wp2_with fail
                  go_region_with (first | (go_at_call 75; refine (compress_agg _ _ _ _ _ _ _ _ _ hx _ HR2.out).mono ?_; rintro x w4 ⟨a4, b4, c4, d4, e4, f4, g4, h4, rfl, hcs, hb4⟩; have K4 := Lib.hid ((Blk.drew HT.out.2.2.2.2.1).below hb4 HT.out.2.2.2.2.1.lt); have fr4 := K4.out.frozen; obtain ⟨u0, u1, u2, u3, u4, u5, u6, u7, hu0, hu1, hu2, hu3, hu4, hu5, hu6, hu7⟩ := eight_cells K4.out; have B4 := Lib.hid hb4; have C4 := Lib.hid hcs; clear hb4 hcs))
                  all_goals (
                    have F2 : Hid (foldT r (s.size * 8) sz ⟨a, b, c, d, e, f, g, h⟩ 2 = ⟨a4, b4, c4, d4, e4, f4, g4, h4⟩) := Lib.hid (by rw [foldT, HF.out]; exact C4.out)
                    have T4 := Lib.hid (HT.out.next B4.out (v' := ⟨a4, b4, c4, d4, e4, f4, g4, h4⟩))
                    go_wp2_with fail
                    refine ⟨?_, by simp [intOf]⟩
                    (repeat apply Exists.intro)
                    refine ⟨?_, rfl⟩
                    exact ⟨2, a4, b4, c4, d4, e4, f4, g4, h4, by omega, rfl, F2, T4⟩)
          · have q2 := HT.out.1 (sz - 1 - k) (by omega)
            have fz2 := HT.out.2.1.frozen (sz - 1 - k)
            have T3 := Lib.hid (HT.out.put (k := sz - 1 - k) (by omega) (F' := tailF r (s.size * 8) sz (k + 1)) (tailF_at r _ (by omega)) (fun j _ hj => tailF_off r _ (by omega) hj))
            have hz1 : 0 ≤ (sz : Int) - 1 - k := by omega
            have hz2 : (sz : Int) - 1 - k < 128 := by omega
            go_wp2_with fail
            exact ⟨⟨k + 1, by omega, by go_num, T3⟩, by simp [intOf]; omega⟩
end Go.Proofs.YtlnfdpdancolmaaDoor
