/- sum.compress. -/
import Derived.Test.YtlnfdpdancolmaaDoorYCountRot
import Derived.BigRegion
namespace Go.Proofs.YtlnfdpdancolmaaDoor
open Go.RowKit
/-- the first cells of a block read as numbers -/
def Row32 (wr : World) (g n : Nat) (f : Nat → Int) : Prop := ∀ j, j < n → wr.cell? ⟨g, j, none⟩ = some (.int .u32 (f j))
theorem Row32.set {wr : World} {g n : Nat} {f : Nat → Int} (h : Row32 wr g n f) {u : Value} (hu : wr.cell? ⟨g, n, none⟩ = some u) : Row32 (wr.setCell ⟨g, n, none⟩ (.int .u32 (f n))) g (n + 1) f := fun j hj => by
  by_cases e : j = n
  · subst e; exact World.cell?_setCell_same _ _ _ hu
  · rw [World.cell?_setCell_other _ _ _ _ (by simp <;> omega)]; exact h j (by omega)
theorem Row32.far {wr : World} {g n : Nat} {f : Nat → Int} (h : Row32 wr g n f) (p : Addr) (hp : p.block ≠ g) (u : Value) : Row32 (wr.setCell p u) g n f := fun j hj => by
  rw [World.cell?_setCell_other _ _ _ _ (fun e => hp (by rw [e]))]; exact h j hj
theorem Row32.drew {wr : World} {g n : Nat} {f : Nat → Int} (h : Row32 wr g n f) : Row32 wr.drew g n f := fun j hj => h j hj
theorem Blk.drew {w : World} {g size : Nat} {e : TypeId} (h : Blk w g e size) : Blk w.drew g e size := h
def byt (s : ByteArray) (i : Nat) : Int := ((s.data.toList.getD i 0).toNat : Int)
theorem byt_get (s : ByteArray) (i : Nat) (h : i < s.size) : ((s[i]'h).toNat : Int) = byt s i := by
  unfold byt
  have h' : i < s.data.toList.length := by simpa using h
  rw [List.getD_eq_getElem?_getD, List.getElem?_eq_getElem h']
  rfl
def word (s : ByteArray) (k : Nat) : Int :=
  bits .or .u32 (bits .or .u32 (bits .or .u32 (byt s (4 * k) % 4294967296 * 16777216 % 4294967296) (byt s (4 * k + 1) % 4294967296 * 65536 % 4294967296)) (byt s (4 * k + 2) % 4294967296 * 256 % 4294967296)) (byt s (4 * k + 3) % 4294967296)
def nextW (a b c d : Int) : Int :=
  (a + bits .xor .u32 (bits .xor .u32 (ror 33554432 128 b) (ror 16384 262144 b)) (b / 8) + c + bits .xor .u32 (bits .xor .u32 (ror 32768 131072 d) (ror 8192 524288 d)) (d / 1024)) % 4294967296
/-- the first n words of the schedule -/
def wL (s : ByteArray) : Nat → List Int
  | 0 => []
  | n + 1 => let l := wL s n; l ++ [if n < 16 then word s n else nextW (l.getD (n - 16) 0) (l.getD (n - 15) 0) (l.getD (n - 7) 0) (l.getD (n - 2) 0)]
theorem wL_length (s : ByteArray) : ∀ n, (wL s n).length = n
  | 0 => rfl
  | n + 1 => by simp [wL, wL_length s n]
theorem wL_getD (s : ByteArray) (j : Nat) : ∀ n, j < n → (wL s n).getD j 0 = (wL s (j + 1)).getD j 0
  | 0, h => absurd h (by omega)
  | n + 1, h => by
    by_cases e : j = n
    · subst e; rfl
    · rw [← wL_getD s j n (by omega), wL, List.getD_eq_getElem?_getD, List.getElem?_append_left (by rw [wL_length]; omega), ← List.getD_eq_getElem?_getD]
@[irreducible] def wF (s : ByteArray) (j : Nat) : Int := (wL s 64).getD j 0
theorem wL_last (s : ByteArray) (n : Nat) : (wL s (n + 1)).getD n 0 = if n < 16 then word s n else nextW ((wL s n).getD (n - 16) 0) ((wL s n).getD (n - 15) 0) ((wL s n).getD (n - 7) 0) ((wL s n).getD (n - 2) 0) := by
  rw [wL, List.getD_eq_getElem?_getD, List.getElem?_append_right (by rw [wL_length]; exact Nat.le_refl _), wL_length]; simp
theorem wF_lo (s : ByteArray) (j : Nat) (h : j < 16) : wF s j = word s j := by
  unfold wF; rw [wL_getD s j 64 (by omega), wL_last, if_pos h]
theorem wF_hi (s : ByteArray) (m : Nat) (h : m < 48) : wF s (m + 16) = nextW (wF s m) (wF s (m + 1)) (wF s (m + 9)) (wF s (m + 14)) := by
  unfold wF; rw [wL_getD s (m + 16) 64 (by omega), wL_last, if_neg (by omega)]
  rw [wL_getD s _ (m + 16) (by omega), wL_getD s _ (m + 16) (by omega), wL_getD s _ (m + 16) (by omega), wL_getD s _ (m + 16) (by omega)]
  rw [wL_getD s m 64 (by omega), wL_getD s (m + 1) 64 (by omega), wL_getD s (m + 9) 64 (by omega), wL_getD s (m + 14) 64 (by omega)]
  rw [show m + 16 - 16 = m by omega, show m + 16 - 15 = m + 1 by omega, show m + 16 - 7 = m + 9 by omega, show m + 16 - 2 = m + 14 by omega]
structure H8 where (a b c d e f g h : Int)
def H8.row (v : H8) : Array Value := #[.int .u32 v.a, .int .u32 v.b, .int .u32 v.c, .int .u32 v.d, .int .u32 v.e, .int .u32 v.f, .int .u32 v.g, .int .u32 v.h]
def H8.get (v : H8) : Nat → Int
  | 0 => v.a | 1 => v.b | 2 => v.c | 3 => v.d | 4 => v.e | 5 => v.f | 6 => v.g | _ => v.h
/-- the round constants of SHA-256 -/
def kL : List Int := [1116352408, 1899447441, 3049323471, 3921009573, 961987163, 1508970993, 2453635748, 2870763221, 3624381080, 310598401, 607225278, 1426881987, 1925078388, 2162078206, 2614888103, 3248222580, 3835390401, 4022224774, 264347078, 604807628, 770255983, 1249150122, 1555081692, 1996064986, 2554220882, 2821834349, 2952996808, 3210313671, 3336571891, 3584528711, 113926993, 338241895, 666307205, 773529912, 1294757372, 1396182291, 1695183700, 1986661051, 2177026350, 2456956037, 2730485921, 2820302411, 3259730800, 3345764771, 3516065817, 3600352804, 4094571909, 275423344, 430227734, 506948616, 659060556, 883997877, 958139571, 1322822218, 1537002063, 1747873779, 1955562222, 2024104815, 2227730452, 2361852424, 2428436474, 2756734187, 3204031479, 3329325298]
@[irreducible] def kF (i : Nat) : Int := kL.getD i 0
def rnd (v : H8) (k w : Int) : H8 :=
  let t1 := v.h + bits .xor .u32 (bits .xor .u32 (ror 67108864 64 v.e) (ror 2097152 2048 v.e)) (ror 128 33554432 v.e) + bits .xor .u32 (bits .and .u32 v.e v.f) (bits .and .u32 (bits .xor .u32 IntKind.u32.max v.e) v.g) + k + w
  ⟨(t1 + bits .xor .u32 (bits .xor .u32 (ror 1073741824 4 v.a) (ror 524288 8192 v.a)) (ror 1024 4194304 v.a) + bits .xor .u32 (bits .xor .u32 (bits .and .u32 v.a v.b) (bits .and .u32 v.a v.c)) (bits .and .u32 v.b v.c)) % 4294967296, v.a, v.b, v.c, (v.d + t1) % 4294967296, v.e, v.f, v.g⟩
def vS (s : ByteArray) (v : H8) : Nat → H8
  | 0 => v
  | n + 1 => rnd (vS s v n) (kF n) (wF s n)
/-- the first k numbers added -/
def mixF (v V : H8) (k j : Nat) : Int := if j < k then (v.get j + V.get j) % 4294967296 else v.get j
theorem Row32.mix {wr : World} {g k : Nat} {v V : H8} (h : Row32 wr g 8 (mixF v V k)) (hk : k < 8) : Row32 (wr.setCell ⟨g, k, none⟩ (.int .u32 ((mixF v V k k + V.get k) % 4294967296))) g 8 (mixF v V (k + 1)) := fun j hj => by
  by_cases e : j = k
  · subst e
    rw [World.cell?_setCell_same _ _ _ (h j hj)]
    unfold mixF
    rw [if_neg (Nat.lt_irrefl _), if_pos (Nat.lt_succ_self _)]
  · rw [World.cell?_setCell_other _ _ _ _ (by simp <;> omega), h j hj]
    unfold mixF
    by_cases hjk : j < k
    · rw [if_pos hjk, if_pos (by omega)]
    · rw [if_neg hjk, if_neg (by omega)]
theorem below_drew {B : Nat} {a w : World} (h : Below B a w) : Below B a w.drew := ⟨h.os, h.tape, h.output, h.size, h.block⟩
def addH (v V : H8) : H8 := ⟨(v.a + V.a) % 4294967296, (v.b + V.b) % 4294967296, (v.c + V.c) % 4294967296, (v.d + V.d) % 4294967296, (v.e + V.e) % 4294967296, (v.f + V.f) % 4294967296, (v.g + V.g) % 4294967296, (v.h + V.h) % 4294967296⟩
/-- SHA-256's compression -/
def compS (s : ByteArray) (v : H8) : H8 := addH v (vS s v 64)
theorem Row32.mixed {wr : World} {g : Nat} {v V : H8} (h : Row32 wr g 8 (mixF v V 8)) : Row32 wr g 8 (addH v V).get := fun j hj => by
  rw [h j hj]
  match j, hj with
  | 0, _ | 1, _ | 2, _ | 3, _ | 4, _ | 5, _ | 6, _ | 7, _ => rfl
theorem Row32.ofCells {wr : World} {g : Nat} {e : TypeId} (v : H8) (h : Blk wr g e 8) : Row32 (wr.setCells g 0 v.row.toList) g 8 v.get := fun j hj => by
  rw [cell_in (fun j hj => by rw [Nat.zero_add]; exact h.some hj) j (Nat.zero_le _) (by rw [Nat.zero_add]; exact hj)]
  match j, hj with
  | 0, _ | 1, _ | 2, _ | 3, _ | 4, _ | 5, _ | 6, _ | 7, _ => rfl
/-- the world inside compress: the state boxed, the result's cells, n words of the schedule -/
def CI (w wr : World) (v : H8) (s : ByteArray) (n : Nat) : Prop :=
  Row32 wr (w.heap.size + 2) n (wF s) ∧ Row32 wr w.heap.size 8 v.get ∧ Blk wr w.heap.size 106 8 ∧ Blk wr (w.heap.size + 1) 106 8 ∧ Blk wr (w.heap.size + 2) 119 64 ∧ Below w.heap.size w wr
theorem CI.drew {w wr : World} {v : H8} {s : ByteArray} {n : Nat} (h : CI w wr v s n) : CI w wr.drew v s n :=
  ⟨fun j hj => h.1 j hj, fun j hj => h.2.1 j hj, h.2.2.1, h.2.2.2.1, h.2.2.2.2.1, by
    have hb := h.2.2.2.2.2
    exact ⟨hb.os, hb.tape, hb.output, hb.size, hb.block⟩⟩
theorem Blk.setCell {w : World} {g size : Nat} {e : TypeId} (h : Blk w g e size) (g' o : Nat) (u : Value) : Blk (w.setCell ⟨g', o, none⟩ u) g e size := h.setCells g' o [u]
theorem CI.step {w wr : World} {v : H8} {s : ByteArray} {n : Nat} (h : CI w wr v s n) (hn : n < 64) {x : Int} (hx : x = wF s n) : CI w (wr.setCell ⟨w.heap.size + 2, n, none⟩ (.int .u32 x)) v s (n + 1) := by
  subst hx
  obtain ⟨h1, h2, h3, h4, h5, h6⟩ := h
  obtain ⟨u, hu⟩ := Option.isSome_iff_exists.1 (h5.some (j := n) (by omega))
  exact ⟨h1.set hu, h2.far ⟨w.heap.size + 2, n, none⟩ (by simp) _, h3.setCell _ _ _, h4.setCell _ _ _, h5.setCell _ _ _, h6.setCell (p := ⟨w.heap.size + 2, n, none⟩) (by simp) _⟩
theorem CI.below {w wr wr' : World} {v : H8} {s : ByteArray} {n : Nat} (h : CI w wr v s n) (hb : Below (w.heap.size + 3) wr wr') : CI w wr' v s n :=
  ⟨fun j hj => (hb.cell (p := ⟨w.heap.size + 2, j, none⟩) (by simp)).trans (h.1 j hj), fun j hj => (hb.cell (p := ⟨w.heap.size, j, none⟩) (by simp)).trans (h.2.1 j hj), h.2.2.1.below hb (by omega), h.2.2.2.1.below hb (by omega), h.2.2.2.2.1.below hb (by omega), h.2.2.2.2.2.trans (hb.mono (by omega))⟩
theorem CI.start (w : World) (v : H8) (s : ByteArray) (A B C : Array Value) (hA : A = v.row) (hB : B.size = 8) (hC : C.size = 64) : CI w (((w.alloc (.cells A 106)).alloc (.cells B 106)).alloc (.cells C 119)) v s 0 := by
  have b1 : Below w.heap.size w (w.alloc (.cells A 106)) := (Below.refl _ _).alloc (Nat.le_refl _) _
  have b2 : Below (w.heap.size + 1) (w.alloc (.cells A 106)) ((w.alloc (.cells A 106)).alloc (.cells B 106)) := (Below.refl _ _).alloc (by simp) _
  have b3 : Below (w.heap.size + 2) ((w.alloc (.cells A 106)).alloc (.cells B 106)) (((w.alloc (.cells A 106)).alloc (.cells B 106)).alloc (.cells C 119)) := (Below.refl _ _).alloc (by simp) _
  have k1 : Blk (w.alloc (.cells A 106)) w.heap.size 106 8 := by
    have := Blk.new w 106 A
    rw [hA] at this ⊢; exact this
  have k2 : Blk ((w.alloc (.cells A 106)).alloc (.cells B 106)) (w.heap.size + 1) 106 8 := by
    have := Blk.new (w.alloc (.cells A 106)) 106 B
    rw [hB] at this; simpa using this
  have k3 : Blk (((w.alloc (.cells A 106)).alloc (.cells B 106)).alloc (.cells C 119)) (w.heap.size + 2) 119 64 := by
    have := Blk.new ((w.alloc (.cells A 106)).alloc (.cells B 106)) 119 C
    rw [hC] at this; simpa using this
  refine ⟨fun j hj => absurd hj (by omega), fun j hj => ?_, (k1.below b2 (by omega)).below b3 (by omega), k2.below b3 (by omega), k3, (b1.trans (b2.mono (by omega))).trans (b3.mono (by omega))⟩
  rw [b3.cell (p := ⟨w.heap.size, j, none⟩) (by simp), b2.cell (p := ⟨w.heap.size, j, none⟩) (by simp), cell_new, hA]
  match j, hj with
  | 0, _ | 1, _ | 2, _ | 3, _ | 4, _ | 5, _ | 6, _ | 7, _ => rfl
set_option maxHeartbeats 2000000 in
set_option maxRecDepth 100000 in
theorem compress_any (v : H8) (s : ByteArray) (hs : s.size = 64) (w : World) (hR : Row32 w 0 64 kF) : Calls Tryd.prog 75 #[.agg v.row, .string s] w fun e w' => e = .returned (.agg (compS s v).row) ∧ Below w.heap.size w w' := by
  have hw0 : 0 < w.heap.size := World.block_lt_of_cell? w _ (hR 0 (by omega))
  have HR := Lib.hid hR
  clear hR
  unfold H8.row
  obtain ⟨h0, h1, h2, h3, h4, h5, h6, h7⟩ := v
  go_enter Tryd.func75, Tryd.ntmps75
  go_wp2_with fail
  go_loopw [22] (fun s22 wr => ∃ (k : Nat), k ≤ 16 ∧ s22 = .int .i64 k ∧ Hid (CI w wr ⟨h0, h1, h2, h3, h4, h5, h6, h7⟩ s k) ∧ Hid (wr.heap.size = w.heap.size + 3)) (fun s22 _ => (64 - intOf s22).toNat)
  case atStart =>
    exact ⟨0, by omega, rfl, Lib.hid (CI.start w ⟨h0, h1, h2, h3, h4, h5, h6, h7⟩ s _ _ _ rfl rfl rfl), Lib.hid (by simp)⟩
  case round =>
    obtain ⟨k, hk, rfl, HC, HZ⟩ := hrel
    by_cases h : k = 16
    · subst h
      go_wp2_with fail
      go_loopw [7] (fun s7 wr => ∃ (m : Nat), m ≤ 48 ∧ s7 = .int .i64 (m + 16) ∧ Hid (CI w wr ⟨h0, h1, h2, h3, h4, h5, h6, h7⟩ s (m + 16)) ∧ Hid (wr.heap.size = w.heap.size + 3)) (fun s7 _ => (64 - intOf s7).toNat)
      case atStart => exact ⟨0, by omega, rfl, HC, HZ⟩
      case round =>
        clear HC HZ
        obtain ⟨m, hm, rfl, HC, HZ⟩ := hrel
        by_cases h : m = 48
        · subst h
          have HG := HZ.out
          have c0 : wr.cell? ⟨w.heap.size, 0, none⟩ = some (.int .u32 h0) := HC.out.2.1 0 (by omega)
          have c1 : wr.cell? ⟨w.heap.size, 1, none⟩ = some (.int .u32 h1) := HC.out.2.1 1 (by omega)
          have c2 : wr.cell? ⟨w.heap.size, 2, none⟩ = some (.int .u32 h2) := HC.out.2.1 2 (by omega)
          have c3 : wr.cell? ⟨w.heap.size, 3, none⟩ = some (.int .u32 h3) := HC.out.2.1 3 (by omega)
          have c4 : wr.cell? ⟨w.heap.size, 4, none⟩ = some (.int .u32 h4) := HC.out.2.1 4 (by omega)
          have c5 : wr.cell? ⟨w.heap.size, 5, none⟩ = some (.int .u32 h5) := HC.out.2.1 5 (by omega)
          have c6 : wr.cell? ⟨w.heap.size, 6, none⟩ = some (.int .u32 h6) := HC.out.2.1 6 (by omega)
          have c7 : wr.cell? ⟨w.heap.size, 7, none⟩ = some (.int .u32 h7) := HC.out.2.1 7 (by omega)
          go_wp2_with fail
          go_loopw [101] (fun s101 wq => ∃ (k : Nat), k ≤ 64 ∧ s101 = .int .i64 k ∧ Hid (CI w wq ⟨h0, h1, h2, h3, h4, h5, h6, h7⟩ s 64) ∧ Hid (Row32 wq (w.heap.size + 3) 8 (vS s ⟨h0, h1, h2, h3, h4, h5, h6, h7⟩ k).get) ∧ Hid (Blk wq (w.heap.size + 3) 106 8)) (fun s101 _ => (64 - intOf s101).toNat)
          case atStart =>
            refine ⟨0, by omega, rfl, Lib.hid (HC.out.below ?_), Lib.hid ?_, Lib.hid ?_⟩
            · rw [← HG]; exact (Below.refl _ _).alloc (Nat.le_refl _) _
            · rw [← HG]; intro j hj; rw [cell_new]
              match j, hj with
              | 0, _ | 1, _ | 2, _ | 3, _ | 4, _ | 5, _ | 6, _ | 7, _ => rfl
            · rw [← HG]; exact Blk.new _ _ _
          case round =>
            clear c0 c1 c2 c3 c4 c5 c6 c7
            obtain ⟨k, hk, rfl, HC, HV, HVB⟩ := hrel
            by_cases h : k = 64
            · subst h
              generalize hV : vS s ⟨h0, h1, h2, h3, h4, h5, h6, h7⟩ 64 = V at HV
              have HVE := Lib.hid hV
              clear hV
              go_wp2_with fail
              go_loopw [184] (fun s184 wq => ∃ (k : Nat), k ≤ 8 ∧ s184 = .int .i64 k ∧ Hid (Row32 wq w.heap.size 8 (mixF ⟨h0, h1, h2, h3, h4, h5, h6, h7⟩ V k)) ∧ Hid (Blk wq w.heap.size 106 8) ∧ Hid (Blk wq (w.heap.size + 1) 106 8) ∧ Hid (Row32 wq (w.heap.size + 3) 8 V.get) ∧ Hid (Below w.heap.size w wq)) (fun s184 _ => (8 - intOf s184).toNat)
              case atStart => exact ⟨0, by omega, rfl, Lib.hid HC.out.2.1, Lib.hid HC.out.2.2.1, Lib.hid HC.out.2.2.2.1, HV, Lib.hid HC.out.2.2.2.2.2⟩
              case round =>
                clear HC HV HVB
                obtain ⟨k, hk, rfl, HM, HB0, HB1, HV, HB⟩ := hrel
                by_cases h : k = 8
                · subst h
                  have HX := HM.out.mixed
                  generalize hX : addH ⟨h0, h1, h2, h3, h4, h5, h6, h7⟩ V = X at HX
                  have HXE : Hid (compS s ⟨h0, h1, h2, h3, h4, h5, h6, h7⟩ = X) := Lib.hid (by unfold compS; rw [HVE.out, hX])
                  clear hX
                  obtain ⟨a, b, c, d, e, f, g, hh⟩ := X
                  have c0 : wr.cell? ⟨w.heap.size, 0, none⟩ = some (.int .u32 a) := HX 0 (by omega)
                  have c1 : wr.cell? ⟨w.heap.size, 1, none⟩ = some (.int .u32 b) := HX 1 (by omega)
                  have c2 : wr.cell? ⟨w.heap.size, 2, none⟩ = some (.int .u32 c) := HX 2 (by omega)
                  have c3 : wr.cell? ⟨w.heap.size, 3, none⟩ = some (.int .u32 d) := HX 3 (by omega)
                  have c4 : wr.cell? ⟨w.heap.size, 4, none⟩ = some (.int .u32 e) := HX 4 (by omega)
                  have c5 : wr.cell? ⟨w.heap.size, 5, none⟩ = some (.int .u32 f) := HX 5 (by omega)
                  have c6 : wr.cell? ⟨w.heap.size, 6, none⟩ = some (.int .u32 g) := HX 6 (by omega)
                  have c7 : wr.cell? ⟨w.heap.size, 7, none⟩ = some (.int .u32 hh) := HX 7 (by omega)
                  clear HX
                  obtain ⟨y0, hy0⟩ := Option.isSome_iff_exists.1 (HB1.out.some (j := 0) (by omega))
                  obtain ⟨y1, hy1⟩ := Option.isSome_iff_exists.1 (HB1.out.some (j := 1) (by omega))
                  obtain ⟨y2, hy2⟩ := Option.isSome_iff_exists.1 (HB1.out.some (j := 2) (by omega))
                  obtain ⟨y3, hy3⟩ := Option.isSome_iff_exists.1 (HB1.out.some (j := 3) (by omega))
                  obtain ⟨y4, hy4⟩ := Option.isSome_iff_exists.1 (HB1.out.some (j := 4) (by omega))
                  obtain ⟨y5, hy5⟩ := Option.isSome_iff_exists.1 (HB1.out.some (j := 5) (by omega))
                  obtain ⟨y6, hy6⟩ := Option.isSome_iff_exists.1 (HB1.out.some (j := 6) (by omega))
                  obtain ⟨y7, hy7⟩ := Option.isSome_iff_exists.1 (HB1.out.some (j := 7) (by omega))
                  have f0 := HB1.out.frozen 0
                  have f1 := HB1.out.frozen 1
                  have f2 := HB1.out.frozen 2
                  have f3 := HB1.out.frozen 3
                  have f4 := HB1.out.frozen 4
                  have f5 := HB1.out.frozen 5
                  have f6 := HB1.out.frozen 6
                  have f7 := HB1.out.frozen 7
                  have HB2 : Hid (Below w.heap.size w (wr.setCells (w.heap.size + 1) 0 (H8.row ⟨a, b, c, d, e, f, g, hh⟩).toList)) := Lib.hid (below_setCells _ (by omega) _ _ HB.out)
                  have HZ8 := Row32.ofCells ⟨a, b, c, d, e, f, g, hh⟩ HB1.out
                  have HE : Hid (Value.agg #[Value.int .u32 a, .int .u32 b, .int .u32 c, .int .u32 d, .int .u32 e, .int .u32 f, .int .u32 g, .int .u32 hh] = .agg (compS s ⟨h0, h1, h2, h3, h4, h5, h6, h7⟩).row) := Lib.hid (by rw [HXE.out]; rfl)
                  have z0 := HZ8 0 (by omega)
                  have z1 := HZ8 1 (by omega)
                  have z2 := HZ8 2 (by omega)
                  have z3 := HZ8 3 (by omega)
                  have z4 := HZ8 4 (by omega)
                  have z5 := HZ8 5 (by omega)
                  have z6 := HZ8 6 (by omega)
                  have z7 := HZ8 7 (by omega)
                  simp only [H8.row, H8.get, World.setCells, Nat.zero_add, Nat.reduceAdd] at z0 z1 z2 z3 z4 z5 z6 z7
                  clear HZ8
                  go_wp2_with fail
                  refine bodyPost_ret (v := .agg #[.int .u32 a, .int .u32 b, .int .u32 c, .int .u32 d, .int .u32 e, .int .u32 f, .int .u32 g, .int .u32 hh]) (by simp [results, Tryd.results75, go_sem, z0, z1, z2, z3, z4, z5, z6, z7]) rfl ⟨congrArg _ HE.out, HB2.out⟩
                · have cv := HV.out k (by omega)
                  have ch := HM.out k (by omega)
                  have hf := HB0.out.frozen k
                  have hkk : (k : Int) < 8 := by omega
                  have HM2 := Lib.hid (HM.out.mix (by omega)).drew
                  have HB02 : Hid (Blk (wr.setCell ⟨w.heap.size, k, none⟩ (.int .u32 ((mixF ⟨h0, h1, h2, h3, h4, h5, h6, h7⟩ V k k + V.get k) % 4294967296))).drew w.heap.size 106 8) := Lib.hid (HB0.out.setCell _ _ _)
                  have HB12 : Hid (Blk (wr.setCell ⟨w.heap.size, k, none⟩ (.int .u32 ((mixF ⟨h0, h1, h2, h3, h4, h5, h6, h7⟩ V k k + V.get k) % 4294967296))).drew (w.heap.size + 1) 106 8) := Lib.hid (HB1.out.setCell _ _ _)
                  have HV2 := Lib.hid (HV.out.far ⟨w.heap.size, k, none⟩ (by simp) (.int .u32 ((mixF ⟨h0, h1, h2, h3, h4, h5, h6, h7⟩ V k k + V.get k) % 4294967296))).drew
                  have HB2 := Lib.hid (below_drew (HB.out.setCell (p := ⟨w.heap.size, k, none⟩) (Nat.le_refl _) (.int .u32 ((mixF ⟨h0, h1, h2, h3, h4, h5, h6, h7⟩ V k k + V.get k) % 4294967296))))
                  go_wp2_with fail
                  go_region
                  all_goals go_wp2_with fail
                  refine ⟨?_, ?measure⟩
                  · exact ⟨k + 1, by omega, by go_num, HM2, HB02, HB12, HV2, HB2⟩
                  case measure => simp [intOf]; omega
            · have cw := HC.out.1 k (by omega)
              generalize hV : vS s ⟨h0, h1, h2, h3, h4, h5, h6, h7⟩ k = V at HV
              obtain ⟨a, b, c, d, e, f, g, hh⟩ := V
              have HVE := Lib.hid hV
              clear hV
              generalize hW : wF s k = W at cw
              have HWE := Lib.hid hW
              clear hW
              have c0 : wr.cell? ⟨w.heap.size + 3, 0, none⟩ = some (.int .u32 a) := HV.out 0 (by omega)
              have c1 : wr.cell? ⟨w.heap.size + 3, 1, none⟩ = some (.int .u32 b) := HV.out 1 (by omega)
              have c2 : wr.cell? ⟨w.heap.size + 3, 2, none⟩ = some (.int .u32 c) := HV.out 2 (by omega)
              have c3 : wr.cell? ⟨w.heap.size + 3, 3, none⟩ = some (.int .u32 d) := HV.out 3 (by omega)
              have c4 : wr.cell? ⟨w.heap.size + 3, 4, none⟩ = some (.int .u32 e) := HV.out 4 (by omega)
              have c5 : wr.cell? ⟨w.heap.size + 3, 5, none⟩ = some (.int .u32 f) := HV.out 5 (by omega)
              have c6 : wr.cell? ⟨w.heap.size + 3, 6, none⟩ = some (.int .u32 g) := HV.out 6 (by omega)
              have c7 : wr.cell? ⟨w.heap.size + 3, 7, none⟩ = some (.int .u32 hh) := HV.out 7 (by omega)
              have hkk : (k : Int) < 64 := by omega
              have hbs : Below (w.heap.size + 3) wr (wr.setCells (w.heap.size + 3) 0 (rnd ⟨a, b, c, d, e, f, g, hh⟩ (kF k) W).row.toList) := below_setCells _ (Nat.le_refl _) _ _ (Below.refl _ _)
              have HC2 := Lib.hid (HC.out.below hbs).drew.drew
              have HV2 : Hid (Row32 (wr.setCells (w.heap.size + 3) 0 (rnd ⟨a, b, c, d, e, f, g, hh⟩ (kF k) W).row.toList).drew.drew (w.heap.size + 3) 8 (vS s ⟨h0, h1, h2, h3, h4, h5, h6, h7⟩ (k + 1)).get) := Lib.hid (by
                rw [vS, HVE.out, HWE.out]; exact (Row32.ofCells _ HVB.out).drew.drew)
              have HVB2 : Hid (Blk (wr.setCells (w.heap.size + 3) 0 (rnd ⟨a, b, c, d, e, f, g, hh⟩ (kF k) W).row.toList).drew.drew (w.heap.size + 3) 106 8) := Lib.hid (Blk.drew (Blk.drew (HVB.out.setCells (w.heap.size + 3) 0 _)))
              clear hbs
              have hg : wr.cell? ⟨0, k, none⟩ = some (.int .u32 (kF k)) := (HC.out.2.2.2.2.2.cell (p := ⟨0, k, none⟩) hw0).trans (HR.out k (by omega))
              have f0 := HVB.out.frozen 0
              have f1 := HVB.out.frozen 1
              have f2 := HVB.out.frozen 2
              have f3 := HVB.out.frozen 3
              have f4 := HVB.out.frozen 4
              have f5 := HVB.out.frozen 5
              have f6 := HVB.out.frozen 6
              have f7 := HVB.out.frozen 7
              go_wp2_with fail
              go_region
              all_goals go_wp2_with fail
              (with_reducible refine (rot_6 _ _).mono ?_)
              rintro _ w1 ⟨rfl, rfl⟩
              go_wp2_with fail
              (with_reducible refine (rot_11 _ _).mono ?_)
              rintro _ w1 ⟨rfl, rfl⟩
              go_wp2_with fail
              (with_reducible refine (rot_25 _ _).mono ?_)
              rintro _ w1 ⟨rfl, rfl⟩
              go_wp2_with fail
              go_region
              all_goals go_wp2_with fail
              (with_reducible refine (rot_2 _ _).mono ?_)
              rintro _ w1 ⟨rfl, rfl⟩
              go_wp2_with fail
              (with_reducible refine (rot_13 _ _).mono ?_)
              rintro _ w1 ⟨rfl, rfl⟩
              go_wp2_with fail
              (with_reducible refine (rot_22 _ _).mono ?_)
              rintro _ w1 ⟨rfl, rfl⟩
              go_wp2_with fail
              refine ⟨?_, ?measure⟩
              · (repeat apply Exists.intro)
                refine ⟨?_, rfl⟩
                exact ⟨k + 1, by omega, by go_num, HC2, HV2, HVB2⟩
              case measure => simp [intOf]; omega
        · obtain ⟨u, hu⟩ := Option.isSome_iff_exists.1 (HC.out.2.2.2.2.1.some (j := m + 16) (by omega))
          have hf := HC.out.2.2.2.2.1.frozen (m + 16)
          have c0 := HC.out.1 m (by omega)
          have c1 := HC.out.1 (m + 1) (by omega)
          have c9 := HC.out.1 (m + 9) (by omega)
          have c14 := HC.out.1 (m + 14) (by omega)
          have hmm : (m : Int) < 48 := by omega
          have HS := Lib.hid ((HC.out.step (by omega) (x := nextW (wF s m) (wF s (m + 1)) (wF s (m + 9)) (wF s (m + 14))) (wF_hi s m (by omega)).symm).drew.drew)
          have HZ2 : Hid ((wr.setCell ⟨w.heap.size + 2, m + 16, none⟩ (.int .u32 (nextW (wF s m) (wF s (m + 1)) (wF s (m + 9)) (wF s (m + 14))))).heap.size = w.heap.size + 3) := Lib.hid (by rw [size_setCell]; exact HZ.out)
          go_wp2_with fail
          go_region
          all_goals go_wp2_with fail
          (with_reducible refine (rot_7 _ _).mono ?_)
          rintro e w1 ⟨rfl, rfl⟩
          go_wp2_with fail
          (with_reducible refine (rot_18 _ _).mono ?_)
          rintro e w1 ⟨rfl, rfl⟩
          go_wp2_with fail
          (with_reducible refine (rot_17 _ _).mono ?_)
          rintro e w1 ⟨rfl, rfl⟩
          go_wp2_with fail
          (with_reducible refine (rot_19 _ _).mono ?_)
          rintro e w1 ⟨rfl, rfl⟩
          go_wp2_with fail
          go_region
          all_goals go_wp2_with fail
          refine ⟨?_, ?measure⟩
          · (repeat apply Exists.intro)
            refine ⟨?_, rfl⟩
            exact ⟨m + 1, by omega, by go_num, HS, HZ2⟩
          case measure => simp [intOf]; omega
    · obtain ⟨u, hu⟩ := Option.isSome_iff_exists.1 (HC.out.2.2.2.2.1.some (j := k) (by omega))
      have hf := HC.out.2.2.2.2.1.frozen k
      have j0 : 0 ≤ 4 * (k:Int) := by omega
      have j1 : 0 ≤ 4 * (k:Int) + 1 := by omega
      have j2 : 0 ≤ 4 * (k:Int) + 2 := by omega
      have j3 : 0 ≤ 4 * (k:Int) + 3 := by omega
      have i0 : 4 * (k:Int) < 64 := by omega
      have i1 : 4 * (k:Int)+1 < 64 := by omega
      have i2 : 4 * (k:Int)+2 < 64 := by omega
      have i3 : 4 * (k:Int)+3 < 64 := by omega
      have e0 := byt_get s (4 * k) (by omega)
      have e1 := byt_get s (4 * k + 1) (by omega)
      have e2 := byt_get s (4 * k + 2) (by omega)
      have e3 := byt_get s (4 * k + 3) (by omega)
      have hkk : (k : Int) < 16 := by omega
      have HS := Lib.hid ((HC.out.step (by omega) (x := word s k) (wF_lo s k (by omega)).symm).drew)
      have HZ2 : Hid ((wr.setCell ⟨w.heap.size + 2, k, none⟩ (.int .u32 (word s k))).heap.size = w.heap.size + 3) := Lib.hid (by rw [size_setCell]; exact HZ.out)
      have E := Lib.hid (And.intro e0 (And.intro e1 (And.intro e2 e3)))
      clear e0 e1 e2 e3
      go_wp2_with fail
      go_region
      all_goals go_wp2_with fail
      go_roundw
      case rel =>
        rw [E.out.1, E.out.2.1, E.out.2.2.1, E.out.2.2.2]
        exact ⟨k + 1, by omega, by go_num, HS, HZ2⟩
      case measure => simp [intOf]; omega
end Go.Proofs.YtlnfdpdancolmaaDoor
