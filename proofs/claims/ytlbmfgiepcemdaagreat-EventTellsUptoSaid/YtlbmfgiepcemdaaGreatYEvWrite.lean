/- event.write: one event onto a strings.Builder. Conditions: those in each statement. -/
import Derived.Test.YtlbmfgiepcemdaaGreatYDecPBldE
import Derived.Test.YtlbmfgiepcemdaaGreatYEvRight
import Derived.Deep.RegionHeld3
namespace Go.Proofs.YtlbmfgiepcemdaaGreat
open Go.RowKit

def bytesL (l : List V) : List UInt8 := l.flatMap fun v => (bytesP nodeP v).data.toList
theorem bytesL_snoc (l : List V) (k : Nat) (v : V) (h : l[k]? = some v) : bytesL (l.take (k + 1)) = bytesL (l.take k) ++ (bytesP nodeP v).data.toList := by
  unfold bytesL; rw [List.take_add_one, h]; simp
theorem bytesL_len : ∀ l : List V, (bytesL l).length ≤ 9 * bulkV l
  | [] => by simp [bytesL]
  | v :: r => by
    have h1 := bytesL_len r
    have h2 := bytesP_size v
    have h5 : bytesL (v :: r) = (bytesP nodeP v).data.toList ++ bytesL r := rfl
    rw [h5, List.length_append, size_toList, bulkV_cons]; omega
/-- the bytes of one event that is written alone -/
def letterW (x : Ev) : List UInt8 := (textB x.path ++ textB x.msg ++ numB x.args.length).data.toList ++ bytesL x.args
def writeS (x : Ev) : List UInt8 :=
  (numZ x.kind).data.toList ++ if x.kind == 1 then letterW x else if x.kind == 4 then letterW x ++ (numZ x.ord ++ bytesP nodeP x.val).data.toList else (numZ x.n).data.toList
def Ev.Wf (x : Ev) : Prop := (-9223372036854775808 ≤ x.kind ∧ x.kind ≤ 9223372036854775807) ∧ (-9223372036854775808 ≤ x.ord ∧ x.ord ≤ 9223372036854775807) ∧ (-9223372036854775808 ≤ x.n ∧ x.n ≤ 9223372036854775807) ∧ WfV x.args ∧ x.val.Wf
/-- how much an event holds -/
def Ev.size (x : Ev) : Nat := 16 + x.path.size + x.msg.size + bulkV x.args + x.val.bulk
theorem letterW_len (x : Ev) : (letterW x).length ≤ 27 + x.path.size + x.msg.size + 9 * bulkV x.args := by
  unfold letterW
  have h1 := textB_size x.path
  have h2 := textB_size x.msg
  have h3 := numB_size x.args.length
  have h4 := bytesL_len x.args
  rw [List.length_append, size_toList, ByteArray.size_append, ByteArray.size_append]
  omega
theorem writeS_len (x : Ev) : (writeS x).length ≤ 9 * x.size := by
  unfold writeS Ev.size
  have h1 := numZ_size x.kind
  have h2 := numZ_size x.ord
  have h3 := numZ_size x.n
  have h4 := letterW_len x
  have h5 := bytesP_size x.val
  rw [List.length_append, size_toList]
  split
  · omega
  · split
    · rw [List.length_append, size_toList, ByteArray.size_append]; omega
    · rw [size_toList]; omega
def WrPost (B b : Nat) (w0 : World) (bs : List UInt8) (e : Ending) (w' : World) : Prop := e = .returned (.tuple #[]) ∧ BldE B b w0 w' bs

set_option maxHeartbeats 16000000 in
set_option maxRecDepth 100000 in
theorem write_ev (x : Ev) (A C : Option Addr) (c d : Nat) (B b : Nat) (w0 w : World) (bs : List UInt8) (hB : BldE B b w0 w bs) (hz : x.size ≤ 2097152) (hl : bs.length + 9 * x.size ≤ 140737488355328) (hwf : x.Wf) (ra : Rd (Lt B) w (vs x.args) (.slice A x.args.length c)) (rv : Rd (Lt B) w (vs x.vl) (.slice C x.vl.length d)) :
    Calls Tryz.prog 44 #[.pointer (some ⟨b, 0, none⟩), .agg #[.int .i64 x.kind, .string x.path, .string x.msg, .slice A x.args.length c, .int .i64 x.ord, .int .i64 x.vk, .string x.vt, .int .i64 x.vn, .int .i64 x.vm, .string x.vx, .slice C x.vl.length d, .int .i64 x.n]] w (WrPost B b w0 (bs ++ writeS x)) := by
  unfold Ev.size at hz hl
  obtain ⟨wk, wo, wn, wa, wv⟩ := hwf
  have hll := bulkV_len x.args
  have HWA := Lib.hid wa
  have HWV := Lib.hid wv
  have RA := Lib.hid ra
  have RV := Lib.hid rv
  have h1 := textB_size x.path
  have h2 := textB_size x.msg
  have h3 := numB_size x.args.length
  have h4 := numZ_size x.kind
  have h5 := numZ_size x.ord
  have h6 := numZ_size x.n
  have h7 := bytesP_size x.val
  have h8 := bytesL_len x.args
  have hbB : b < w.heap.size := by
    rcases hB.at_ with ⟨_, v, h2, _⟩ | ⟨_, v, h2, _⟩ <;> exact (Array.getElem?_eq_some_iff.1 h2).1
  have HW0 : Hid (writeS x = (numZ x.kind).data.toList ++ if x.kind == 1 then letterW x else if x.kind == 4 then letterW x ++ (numZ x.ord ++ bytesP nodeP x.val).data.toList else (numZ x.n).data.toList) := Lib.hid rfl
  obtain ⟨WR, hWR⟩ : ∃ W, writeS x = W := ⟨_, rfl⟩
  rw [hWR] at HW0 ⊢
  clear hWR
  obtain ⟨W, hW⟩ : ∃ W, w.alloc (.cells #[.int .i64 x.kind, .string x.path, .string x.msg, .slice A x.args.length c, .int .i64 x.ord, .int .i64 x.vk, .string x.vt, .int .i64 x.vn, .int .i64 x.vm, .string x.vx, .slice C x.vl.length d, .int .i64 x.n] 37) = W := ⟨_, rfl⟩
  have S0 : Hid (BldE B b w0 W bs) := Lib.hid (by rw [← hW]; exact hB.alloc _)
  have X0 : Hid (CellsAt W w.heap.size #[.int .i64 x.kind, .string x.path, .string x.msg, .slice A x.args.length c, .int .i64 x.ord, .int .i64 x.vk, .string x.vt, .int .i64 x.vn, .int .i64 x.vm, .string x.vx, .slice C x.vl.length d, .int .i64 x.n] 37) := Lib.hid (by rw [← hW]; exact CellsAt.new w _ _)
  have HBL := Lib.hid hB.le
  have HR0 : Hid (Below B w W) := Lib.hid (by rw [← hW]; exact (Below.refl _ _).alloc hB.le _)
  clear hB ra rv wa wv
  have p0 : W.cell? ⟨w.heap.size, 0, none⟩ = some (.int .i64 x.kind) := by rw [X0.out.cell]; rfl
  have p1 : W.cell? ⟨w.heap.size, 1, none⟩ = some (.string x.path) := by rw [X0.out.cell]; rfl
  have p2 : W.cell? ⟨w.heap.size, 2, none⟩ = some (.string x.msg) := by rw [X0.out.cell]; rfl
  have p3 : W.cell? ⟨w.heap.size, 3, none⟩ = some (.slice A x.args.length c) := by rw [X0.out.cell]; rfl
  have p4 : W.cell? ⟨w.heap.size, 4, none⟩ = some (.int .i64 x.ord) := by rw [X0.out.cell]; rfl
  have p5 : W.cell? ⟨w.heap.size, 5, none⟩ = some (.int .i64 x.vk) := by rw [X0.out.cell]; rfl
  have p6 : W.cell? ⟨w.heap.size, 6, none⟩ = some (.string x.vt) := by rw [X0.out.cell]; rfl
  have p7 : W.cell? ⟨w.heap.size, 7, none⟩ = some (.int .i64 x.vn) := by rw [X0.out.cell]; rfl
  have p8 : W.cell? ⟨w.heap.size, 8, none⟩ = some (.int .i64 x.vm) := by rw [X0.out.cell]; rfl
  have p9 : W.cell? ⟨w.heap.size, 9, none⟩ = some (.string x.vx) := by rw [X0.out.cell]; rfl
  have p10 : W.cell? ⟨w.heap.size, 10, none⟩ = some (.slice C x.vl.length d) := by rw [X0.out.cell]; rfl
  have p11 : W.cell? ⟨w.heap.size, 11, none⟩ = some (.int .i64 x.n) := by rw [X0.out.cell]; rfl
  go_enter Tryz.func44, Tryz.ntmps44
  go_wp2_with fail
  clear hW
  (with_reducible refine (num_int x.kind (by omega) _).mono ?_)
  rintro e w1 ⟨rfl, hb⟩
  have Xw1 : Hid (CellsAt w1 w.heap.size #[.int .i64 x.kind, .string x.path, .string x.msg, .slice A x.args.length c, .int .i64 x.ord, .int .i64 x.vk, .string x.vt, .int .i64 x.vn, .int .i64 x.vm, .string x.vx, .slice C x.vl.length d, .int .i64 x.n] 37) := Lib.hid ((hb.block w.heap.size X0.out.lt).trans X0.out)
  have Rw1 := Lib.hid (HR0.out.trans (hb.mono S0.out.le))
  have Sw1 := Lib.hid (S0.out.below hb)
  clear hb
  clear p0 p1 p2 p3 p4 p5 p6 p7 p8 p9 p10 p11
  go_wp2_with fail
  (with_reducible refine (writeE_any Sw1.out.self (numZ x.kind) (by omega)).mono ?_)
  rintro e w2 ⟨rfl, hb⟩
  obtain ⟨b1, hb1⟩ : ∃ a, a = bs ++ (numZ x.kind).data.toList := ⟨_, rfl⟩
  rw [← hb1] at hb
  have lb1 : b1.length = bs.length + (numZ x.kind).size := by rw [hb1, List.length_append, size_toList]
  have Hb1 := Lib.hid hb1
  clear hb1
  have Xw2 : Hid (CellsAt w2 w.heap.size #[.int .i64 x.kind, .string x.path, .string x.msg, .slice A x.args.length c, .int .i64 x.ord, .int .i64 x.vk, .string x.vt, .int .i64 x.vn, .int .i64 x.vm, .string x.vx, .slice C x.vl.length d, .int .i64 x.n] 37) := Lib.hid (hb.cells Xw1.out (by omega) (by decide))
  have Rw2 := Lib.hid (Rw1.out.trans hb.low)
  have Sw2 := Lib.hid (Sw1.out.trans hb)
  clear hb
  have p0 : w2.cell? ⟨w.heap.size, 0, none⟩ = some (.int .i64 x.kind) := by rw [Xw2.out.cell]; rfl
  have p1 : w2.cell? ⟨w.heap.size, 1, none⟩ = some (.string x.path) := by rw [Xw2.out.cell]; rfl
  have p2 : w2.cell? ⟨w.heap.size, 2, none⟩ = some (.string x.msg) := by rw [Xw2.out.cell]; rfl
  have p3 : w2.cell? ⟨w.heap.size, 3, none⟩ = some (.slice A x.args.length c) := by rw [Xw2.out.cell]; rfl
  have p4 : w2.cell? ⟨w.heap.size, 4, none⟩ = some (.int .i64 x.ord) := by rw [Xw2.out.cell]; rfl
  have p5 : w2.cell? ⟨w.heap.size, 5, none⟩ = some (.int .i64 x.vk) := by rw [Xw2.out.cell]; rfl
  have p6 : w2.cell? ⟨w.heap.size, 6, none⟩ = some (.string x.vt) := by rw [Xw2.out.cell]; rfl
  have p7 : w2.cell? ⟨w.heap.size, 7, none⟩ = some (.int .i64 x.vn) := by rw [Xw2.out.cell]; rfl
  have p8 : w2.cell? ⟨w.heap.size, 8, none⟩ = some (.int .i64 x.vm) := by rw [Xw2.out.cell]; rfl
  have p9 : w2.cell? ⟨w.heap.size, 9, none⟩ = some (.string x.vx) := by rw [Xw2.out.cell]; rfl
  have p10 : w2.cell? ⟨w.heap.size, 10, none⟩ = some (.slice C x.vl.length d) := by rw [Xw2.out.cell]; rfl
  have p11 : w2.cell? ⟨w.heap.size, 11, none⟩ = some (.int .i64 x.n) := by rw [Xw2.out.cell]; rfl
  cases q1 : (x.kind == 1) with
  | true =>
    have n1 : (x.kind != 1) = false := by simp only [bne, q1]; rfl
    have q4 : (x.kind == 4) = false := by have := beq_iff_eq.1 q1; rw [beq_eq_false_iff_ne]; omega
    go_wp2_with fail
    have XX : Hid (CellsAt w2.drew w.heap.size #[.int .i64 x.kind, .string x.path, .string x.msg, .slice A x.args.length c, .int .i64 x.ord, .int .i64 x.vk, .string x.vt, .int .i64 x.vn, .int .i64 x.vm, .string x.vx, .slice C x.vl.length d, .int .i64 x.n] 37) := Lib.hid Xw2.out
    have SS : Hid (BldE B b w0 w2.drew b1) := Lib.hid (Sw2.out.below (below_drewN (Below.refl _ w2) 1))
    have RR : Hid (Below B w w2.drew) := Lib.hid (Rw2.out.trans ((below_drewN (Below.refl _ w2) 1).mono Sw2.out.le))
    clear Sw2 Xw2 Rw2
    have zz1 : ¬ 9223372036854775807 < (textB x.path).size + (textB x.msg).size := by omega
    have zz2 : ¬ 9223372036854775807 < (textB x.path).size + (textB x.msg).size + (numB x.args.length).size := by omega
    go_region_held3 (fun w' => w'.cell? ⟨w.heap.size, 1, none⟩ = some (.string x.path) ∧ w'.cell? ⟨w.heap.size, 2, none⟩ = some (.string x.msg) ∧ w'.cell? ⟨w.heap.size, 3, none⟩ = some (.slice A x.args.length c))
      (first | go_keep)
      (first
        | (go_at_call 70; go_loud ((refine (text_any _ (by omega) _).mono ?_); rintro e w4 ⟨rfl, hb⟩; have XX : Hid (CellsAt w4 w.heap.size #[.int .i64 x.kind, .string x.path, .string x.msg, .slice A x.args.length c, .int .i64 x.ord, .int .i64 x.vk, .string x.vt, .int .i64 x.vn, .int .i64 x.vm, .string x.vx, .slice C x.vl.length d, .int .i64 x.n] 37) := Lib.hid ((hb.block w.heap.size XX.out.lt).trans XX.out); have RR := Lib.hid (RR.out.trans (hb.mono SS.out.le)); have SS := Lib.hid (SS.out.below hb); clear hb; have z1 : w4.cell? ⟨w.heap.size, 1, none⟩ = some (.string x.path) := (by rw [XX.out.cell]; rfl); have z2 : w4.cell? ⟨w.heap.size, 2, none⟩ = some (.string x.msg) := (by rw [XX.out.cell]; rfl); have z3 : w4.cell? ⟨w.heap.size, 3, none⟩ = some (.slice A x.args.length c) := (by rw [XX.out.cell]; rfl)))
        | (go_at_call 41; go_loud ((refine (num_any x.args.length (by omega) _).mono ?_); rintro e w4 ⟨rfl, hb⟩; have XX : Hid (CellsAt w4 w.heap.size #[.int .i64 x.kind, .string x.path, .string x.msg, .slice A x.args.length c, .int .i64 x.ord, .int .i64 x.vk, .string x.vt, .int .i64 x.vn, .int .i64 x.vm, .string x.vx, .slice C x.vl.length d, .int .i64 x.n] 37) := Lib.hid ((hb.block w.heap.size XX.out.lt).trans XX.out); have RR := Lib.hid (RR.out.trans (hb.mono SS.out.le)); have SS := Lib.hid (SS.out.below hb); clear hb; have z1 : w4.cell? ⟨w.heap.size, 1, none⟩ = some (.string x.path) := (by rw [XX.out.cell]; rfl); have z2 : w4.cell? ⟨w.heap.size, 2, none⟩ = some (.string x.msg) := (by rw [XX.out.cell]; rfl); have z3 : w4.cell? ⟨w.heap.size, 3, none⟩ = some (.slice A x.args.length c) := (by rw [XX.out.cell]; rfl)))
        | (go_at_call 40; go_loud ((refine (writeE_any SS.out.self (textB x.path ++ textB x.msg ++ numB x.args.length) (by simp only [ByteArray.size_append]; omega)).mono ?_); rintro e w5 ⟨rfl, hb⟩; have X5 : Hid (CellsAt w5 w.heap.size #[.int .i64 x.kind, .string x.path, .string x.msg, .slice A x.args.length c, .int .i64 x.ord, .int .i64 x.vk, .string x.vt, .int .i64 x.vn, .int .i64 x.vm, .string x.vx, .slice C x.vl.length d, .int .i64 x.n] 37) := Lib.hid (hb.cells XX.out (by omega) (by decide)); have R5 := Lib.hid (RR.out.trans hb.low); have S5 := Lib.hid (SS.out.trans hb); clear hb; have z1 : w5.cell? ⟨w.heap.size, 1, none⟩ = some (.string x.path) := (by rw [X5.out.cell]; rfl); have z2 : w5.cell? ⟨w.heap.size, 2, none⟩ = some (.string x.msg) := (by rw [X5.out.cell]; rfl); have z3 : w5.cell? ⟨w.heap.size, 3, none⟩ = some (.slice A x.args.length c) := (by rw [X5.out.cell]; rfl))))
    all_goals (
      obtain ⟨b2, hb2⟩ : ∃ a, a = b1 ++ (textB x.path ++ textB x.msg ++ numB x.args.length).data.toList := ⟨_, rfl⟩
      rw [← hb2] at S5
      have lb2 : b2.length = b1.length + ((textB x.path).size + (textB x.msg).size + (numB x.args.length).size) := by rw [hb2, List.length_append, size_toList, ByteArray.size_append, ByteArray.size_append]
      have Hb2 := Lib.hid hb2
      clear hb2 z1 z2 z3
      have p0 : w5.cell? ⟨w.heap.size, 0, none⟩ = some (.int .i64 x.kind) := by rw [X5.out.cell]; rfl
      have p1 : w5.cell? ⟨w.heap.size, 1, none⟩ = some (.string x.path) := by rw [X5.out.cell]; rfl
      have p2 : w5.cell? ⟨w.heap.size, 2, none⟩ = some (.string x.msg) := by rw [X5.out.cell]; rfl
      have p3 : w5.cell? ⟨w.heap.size, 3, none⟩ = some (.slice A x.args.length c) := by rw [X5.out.cell]; rfl
      have p4 : w5.cell? ⟨w.heap.size, 4, none⟩ = some (.int .i64 x.ord) := by rw [X5.out.cell]; rfl
      have p5 : w5.cell? ⟨w.heap.size, 5, none⟩ = some (.int .i64 x.vk) := by rw [X5.out.cell]; rfl
      have p6 : w5.cell? ⟨w.heap.size, 6, none⟩ = some (.string x.vt) := by rw [X5.out.cell]; rfl
      have p7 : w5.cell? ⟨w.heap.size, 7, none⟩ = some (.int .i64 x.vn) := by rw [X5.out.cell]; rfl
      have p8 : w5.cell? ⟨w.heap.size, 8, none⟩ = some (.int .i64 x.vm) := by rw [X5.out.cell]; rfl
      have p9 : w5.cell? ⟨w.heap.size, 9, none⟩ = some (.string x.vx) := by rw [X5.out.cell]; rfl
      have p10 : w5.cell? ⟨w.heap.size, 10, none⟩ = some (.slice C x.vl.length d) := by rw [X5.out.cell]; rfl
      have p11 : w5.cell? ⟨w.heap.size, 11, none⟩ = some (.int .i64 x.n) := by rw [X5.out.cell]; rfl
      go_wp2_with fail
      go_loopw [41] (fun s41 wr => ∃ (i : Nat) (acc : List UInt8), i ≤ x.args.length ∧ s41 = .int .i64 i ∧ acc.length ≤ b2.length + 9 * bulkV x.args ∧ Hid (acc = b2 ++ bytesL (x.args.take i)) ∧ Hid (BldE B b w0 wr acc) ∧ Hid (CellsAt wr w.heap.size #[.int .i64 x.kind, .string x.path, .string x.msg, .slice A x.args.length c, .int .i64 x.ord, .int .i64 x.vk, .string x.vt, .int .i64 x.vn, .int .i64 x.vm, .string x.vx, .slice C x.vl.length d, .int .i64 x.n] 37) ∧ Hid (Below B w wr)) (fun s41 _ => x.args.length - (intOf s41).toNat)
      case atStart => exact ⟨0, b2, by omega, rfl, by omega, Lib.hid (by simp [bytesL]), S5, X5, R5⟩
      case round =>
        clear S5 X5 R5 p0 p1 p2 p3 p4 p5 p6 p7 p8 p9 p10 p11
        obtain ⟨i, acc, hi, rfl, hac, HACC, HS, HX, HR⟩ := hrel
        by_cases hlt : i < x.args.length
        · obtain ⟨g, off, kd, t', n', m', s', l', A', c', e, hlb, hget, h2⟩ := vs_at (RA.out.below HR.out (fun _ h => h)) hlt
          subst e
          obtain ⟨c0, c1, c2, c3, c4, c5, r5⟩ := h2
          have hbk := bulkV_get _ _ _ hget
          have hbp := bytesP_size (.mk kd t' n' m' s' l')
          have HGE := Lib.hid hget
          have hsn := bytesL_snoc x.args i _ hget
          have htk := bytesL_len (x.args.take (i + 1))
          have htk2 := bulkV_take x.args (i + 1)
          obtain ⟨y, hy⟩ : ∃ y, bytesP nodeP (.mk kd t' n' m' s' l') = y := ⟨_, rfl⟩
          rw [hy] at hbp hsn
          have HWG := WfV_get _ _ _ HWA.out hget
          have hle := HS.out.le
          have hrl := r5.weaken (ok' := Lt wr.heap.size) (fun q hq => Nat.lt_of_lt_of_le hq hle)
          have HC := Lib.hid (vbytes_any kd t' n' m' s' l' A' c' (wr.alloc (.cells #[.int .i64 kd, .string t', .int .i64 n', .int .i64 m', .string s', .slice A' l'.length c'] 35)) (by omega) HWG (hrl.allocs _))
          rw [hy] at HC
          have HSN := Lib.hid hsn
          have hlen : b2.length + (bytesL (x.args.take (i + 1))).length ≤ b2.length + 9 * bulkV x.args := by omega
          have hlen2 : acc.length + y.size = b2.length + (bytesL (x.args.take (i + 1))).length := by rw [hsn, HACC.out, List.length_append, List.length_append, size_toList]; omega
          clear r5 hget hy hsn htk htk2 hrl HWG
          go_wp2_with fail
          (with_reducible refine HC.out.mono ?_)
          rintro e w6 ⟨rfl, hb6⟩
          have hb7 : Below wr.heap.size wr w6 := ((Below.refl wr.heap.size wr).alloc (Nat.le_refl _) _).trans (hb6.mono (by simp))
          have X6 : Hid (CellsAt w6 w.heap.size _ 37) := Lib.hid ((hb7.block w.heap.size HX.out.lt).trans HX.out)
          have R6 := Lib.hid (HR.out.trans (hb7.mono hle))
          have S6 := Lib.hid (HS.out.below hb7)
          clear hb6 hb7 HC
          go_wp2_with fail
          (with_reducible refine (writeE_any S6.out.self y (by omega)).mono ?_)
          rintro e w7 ⟨rfl, hb⟩
          have HACC2 : Hid (acc ++ y.data.toList = b2 ++ bytesL (x.args.take (i + 1))) := Lib.hid (by rw [HSN.out, HACC.out, List.append_assoc])
          have hacl : (acc ++ y.data.toList).length = acc.length + y.size := by rw [List.length_append, size_toList]
          obtain ⟨acc2, ha2⟩ : ∃ a, acc ++ y.data.toList = a := ⟨_, rfl⟩
          rw [ha2] at HACC2 hacl hb
          have X7 : Hid (CellsAt w7 w.heap.size _ 37) := Lib.hid (hb.cells X6.out (by omega) (by decide))
          have R7 := Lib.hid (R6.out.trans hb.low)
          have S7 := Lib.hid (S6.out.trans hb)
          have hac2 : acc2.length ≤ b2.length + 9 * bulkV x.args := by omega
          clear hb ha2 hacl hlen hlen2
          go_wp2_with fail
          exact ⟨⟨i + 1, acc2, by omega, by go_num, hac2, HACC2, S7, X7, R7⟩, by simp [intOf]; omega⟩
        · obtain rfl : i = x.args.length := by omega
          have HAE : Hid (acc = b2 ++ bytesL x.args) := Lib.hid (by rw [HACC.out, List.take_length])
          have p0 : wr.cell? ⟨w.heap.size, 0, none⟩ = some (.int .i64 x.kind) := by rw [HX.out.cell]; rfl
          have p1 : wr.cell? ⟨w.heap.size, 1, none⟩ = some (.string x.path) := by rw [HX.out.cell]; rfl
          have p2 : wr.cell? ⟨w.heap.size, 2, none⟩ = some (.string x.msg) := by rw [HX.out.cell]; rfl
          have p3 : wr.cell? ⟨w.heap.size, 3, none⟩ = some (.slice A x.args.length c) := by rw [HX.out.cell]; rfl
          have p4 : wr.cell? ⟨w.heap.size, 4, none⟩ = some (.int .i64 x.ord) := by rw [HX.out.cell]; rfl
          have p5 : wr.cell? ⟨w.heap.size, 5, none⟩ = some (.int .i64 x.vk) := by rw [HX.out.cell]; rfl
          have p6 : wr.cell? ⟨w.heap.size, 6, none⟩ = some (.string x.vt) := by rw [HX.out.cell]; rfl
          have p7 : wr.cell? ⟨w.heap.size, 7, none⟩ = some (.int .i64 x.vn) := by rw [HX.out.cell]; rfl
          have p8 : wr.cell? ⟨w.heap.size, 8, none⟩ = some (.int .i64 x.vm) := by rw [HX.out.cell]; rfl
          have p9 : wr.cell? ⟨w.heap.size, 9, none⟩ = some (.string x.vx) := by rw [HX.out.cell]; rfl
          have p10 : wr.cell? ⟨w.heap.size, 10, none⟩ = some (.slice C x.vl.length d) := by rw [HX.out.cell]; rfl
          have p11 : wr.cell? ⟨w.heap.size, 11, none⟩ = some (.int .i64 x.n) := by rw [HX.out.cell]; rfl
          have HE : Hid (acc = bs ++ WR) := Lib.hid (by rw [HAE.out, Hb2.out, Hb1.out, HW0.out, if_pos q1]; unfold letterW; simp only [List.append_assoc])
          rw [HE.out] at HS
          go_wp2_with fail
          exact bodyPost_ret (v := .tuple #[]) (by simp [results, Tryz.results44, go_sem]) rfl ⟨rfl, HS.out⟩)
  | false =>
    cases q4 : (x.kind == 4) with
    | true =>
      have n1 : (x.kind != 1) = true := by simp only [bne, q1]; rfl
      have n4 : (x.kind != 4) = false := by simp only [bne, q4]; rfl
      have HVB : Hid (∀ W : World, w.heap.size ≤ W.heap.size → Rd (Lt W.heap.size) W (vs x.vl) (.slice C x.vl.length d) → Calls Tryz.prog 71 #[.agg #[.int .i64 x.vk, .string x.vt, .int .i64 x.vn, .int .i64 x.vm, .string x.vx, .slice C x.vl.length d]] W fun e w' => e = .returned (.string (bytesP nodeP x.val)) ∧ Below W.heap.size W w') := Lib.hid (fun W _ h => vbytes_any x.vk x.vt x.vn x.vm x.vx x.vl C d W (show x.val.bulk ≤ 2097152 by omega) HWV.out h)
      go_wp2_with fail
      have XX : Hid (CellsAt w2.drew w.heap.size #[.int .i64 x.kind, .string x.path, .string x.msg, .slice A x.args.length c, .int .i64 x.ord, .int .i64 x.vk, .string x.vt, .int .i64 x.vn, .int .i64 x.vm, .string x.vx, .slice C x.vl.length d, .int .i64 x.n] 37) := Lib.hid Xw2.out
      have SS : Hid (BldE B b w0 w2.drew b1) := Lib.hid (Sw2.out.below (below_drewN (Below.refl _ w2) 1))
      have RR : Hid (Below B w w2.drew) := Lib.hid (Rw2.out.trans ((below_drewN (Below.refl _ w2) 1).mono Sw2.out.le))
      clear Sw2 Xw2 Rw2
      have zz1 : ¬ 9223372036854775807 < (textB x.path).size + (textB x.msg).size := by omega
      have zz2 : ¬ 9223372036854775807 < (textB x.path).size + (textB x.msg).size + (numB x.args.length).size := by omega
      go_region_held3 (fun w' => w'.cell? ⟨w.heap.size, 1, none⟩ = some (.string x.path) ∧ w'.cell? ⟨w.heap.size, 2, none⟩ = some (.string x.msg) ∧ w'.cell? ⟨w.heap.size, 3, none⟩ = some (.slice A x.args.length c))
        (first | go_keep)
        (first
          | (go_at_call 70; go_loud ((refine (text_any _ (by omega) _).mono ?_); rintro e w4 ⟨rfl, hb⟩; have XX : Hid (CellsAt w4 w.heap.size #[.int .i64 x.kind, .string x.path, .string x.msg, .slice A x.args.length c, .int .i64 x.ord, .int .i64 x.vk, .string x.vt, .int .i64 x.vn, .int .i64 x.vm, .string x.vx, .slice C x.vl.length d, .int .i64 x.n] 37) := Lib.hid ((hb.block w.heap.size XX.out.lt).trans XX.out); have RR := Lib.hid (RR.out.trans (hb.mono SS.out.le)); have SS := Lib.hid (SS.out.below hb); clear hb; have z1 : w4.cell? ⟨w.heap.size, 1, none⟩ = some (.string x.path) := (by rw [XX.out.cell]; rfl); have z2 : w4.cell? ⟨w.heap.size, 2, none⟩ = some (.string x.msg) := (by rw [XX.out.cell]; rfl); have z3 : w4.cell? ⟨w.heap.size, 3, none⟩ = some (.slice A x.args.length c) := (by rw [XX.out.cell]; rfl)))
          | (go_at_call 41; go_loud ((refine (num_any x.args.length (by omega) _).mono ?_); rintro e w4 ⟨rfl, hb⟩; have XX : Hid (CellsAt w4 w.heap.size #[.int .i64 x.kind, .string x.path, .string x.msg, .slice A x.args.length c, .int .i64 x.ord, .int .i64 x.vk, .string x.vt, .int .i64 x.vn, .int .i64 x.vm, .string x.vx, .slice C x.vl.length d, .int .i64 x.n] 37) := Lib.hid ((hb.block w.heap.size XX.out.lt).trans XX.out); have RR := Lib.hid (RR.out.trans (hb.mono SS.out.le)); have SS := Lib.hid (SS.out.below hb); clear hb; have z1 : w4.cell? ⟨w.heap.size, 1, none⟩ = some (.string x.path) := (by rw [XX.out.cell]; rfl); have z2 : w4.cell? ⟨w.heap.size, 2, none⟩ = some (.string x.msg) := (by rw [XX.out.cell]; rfl); have z3 : w4.cell? ⟨w.heap.size, 3, none⟩ = some (.slice A x.args.length c) := (by rw [XX.out.cell]; rfl)))
          | (go_at_call 40; go_loud ((refine (writeE_any SS.out.self (textB x.path ++ textB x.msg ++ numB x.args.length) (by simp only [ByteArray.size_append]; omega)).mono ?_); rintro e w5 ⟨rfl, hb⟩; have X5 : Hid (CellsAt w5 w.heap.size #[.int .i64 x.kind, .string x.path, .string x.msg, .slice A x.args.length c, .int .i64 x.ord, .int .i64 x.vk, .string x.vt, .int .i64 x.vn, .int .i64 x.vm, .string x.vx, .slice C x.vl.length d, .int .i64 x.n] 37) := Lib.hid (hb.cells XX.out (by omega) (by decide)); have R5 := Lib.hid (RR.out.trans hb.low); have S5 := Lib.hid (SS.out.trans hb); clear hb; have z1 : w5.cell? ⟨w.heap.size, 1, none⟩ = some (.string x.path) := (by rw [X5.out.cell]; rfl); have z2 : w5.cell? ⟨w.heap.size, 2, none⟩ = some (.string x.msg) := (by rw [X5.out.cell]; rfl); have z3 : w5.cell? ⟨w.heap.size, 3, none⟩ = some (.slice A x.args.length c) := (by rw [X5.out.cell]; rfl))))
      all_goals (
        obtain ⟨b2, hb2⟩ : ∃ a, a = b1 ++ (textB x.path ++ textB x.msg ++ numB x.args.length).data.toList := ⟨_, rfl⟩
        rw [← hb2] at S5
        have lb2 : b2.length = b1.length + ((textB x.path).size + (textB x.msg).size + (numB x.args.length).size) := by rw [hb2, List.length_append, size_toList, ByteArray.size_append, ByteArray.size_append]
        have Hb2 := Lib.hid hb2
        clear hb2 z1 z2 z3
        have p0 : w5.cell? ⟨w.heap.size, 0, none⟩ = some (.int .i64 x.kind) := by rw [X5.out.cell]; rfl
        have p1 : w5.cell? ⟨w.heap.size, 1, none⟩ = some (.string x.path) := by rw [X5.out.cell]; rfl
        have p2 : w5.cell? ⟨w.heap.size, 2, none⟩ = some (.string x.msg) := by rw [X5.out.cell]; rfl
        have p3 : w5.cell? ⟨w.heap.size, 3, none⟩ = some (.slice A x.args.length c) := by rw [X5.out.cell]; rfl
        have p4 : w5.cell? ⟨w.heap.size, 4, none⟩ = some (.int .i64 x.ord) := by rw [X5.out.cell]; rfl
        have p5 : w5.cell? ⟨w.heap.size, 5, none⟩ = some (.int .i64 x.vk) := by rw [X5.out.cell]; rfl
        have p6 : w5.cell? ⟨w.heap.size, 6, none⟩ = some (.string x.vt) := by rw [X5.out.cell]; rfl
        have p7 : w5.cell? ⟨w.heap.size, 7, none⟩ = some (.int .i64 x.vn) := by rw [X5.out.cell]; rfl
        have p8 : w5.cell? ⟨w.heap.size, 8, none⟩ = some (.int .i64 x.vm) := by rw [X5.out.cell]; rfl
        have p9 : w5.cell? ⟨w.heap.size, 9, none⟩ = some (.string x.vx) := by rw [X5.out.cell]; rfl
        have p10 : w5.cell? ⟨w.heap.size, 10, none⟩ = some (.slice C x.vl.length d) := by rw [X5.out.cell]; rfl
        have p11 : w5.cell? ⟨w.heap.size, 11, none⟩ = some (.int .i64 x.n) := by rw [X5.out.cell]; rfl
        go_wp2_with fail
        go_loopw [41] (fun s41 wr => ∃ (i : Nat) (acc : List UInt8), i ≤ x.args.length ∧ s41 = .int .i64 i ∧ acc.length ≤ b2.length + 9 * bulkV x.args ∧ Hid (acc = b2 ++ bytesL (x.args.take i)) ∧ Hid (BldE B b w0 wr acc) ∧ Hid (CellsAt wr w.heap.size #[.int .i64 x.kind, .string x.path, .string x.msg, .slice A x.args.length c, .int .i64 x.ord, .int .i64 x.vk, .string x.vt, .int .i64 x.vn, .int .i64 x.vm, .string x.vx, .slice C x.vl.length d, .int .i64 x.n] 37) ∧ Hid (Below B w wr)) (fun s41 _ => x.args.length - (intOf s41).toNat)
        case atStart => exact ⟨0, b2, by omega, rfl, by omega, Lib.hid (by simp [bytesL]), S5, X5, R5⟩
        case round =>
          clear S5 X5 R5 p0 p1 p2 p3 p4 p5 p6 p7 p8 p9 p10 p11
          obtain ⟨i, acc, hi, rfl, hac, HACC, HS, HX, HR⟩ := hrel
          by_cases hlt : i < x.args.length
          · obtain ⟨g, off, kd, t', n', m', s', l', A', c', e, hlb, hget, h2⟩ := vs_at (RA.out.below HR.out (fun _ h => h)) hlt
            subst e
            obtain ⟨c0, c1, c2, c3, c4, c5, r5⟩ := h2
            have hbk := bulkV_get _ _ _ hget
            have hbp := bytesP_size (.mk kd t' n' m' s' l')
            have HGE := Lib.hid hget
            have hsn := bytesL_snoc x.args i _ hget
            have htk := bytesL_len (x.args.take (i + 1))
            have htk2 := bulkV_take x.args (i + 1)
            obtain ⟨y, hy⟩ : ∃ y, bytesP nodeP (.mk kd t' n' m' s' l') = y := ⟨_, rfl⟩
            rw [hy] at hbp hsn
            have HWG := WfV_get _ _ _ HWA.out hget
            have hle := HS.out.le
            have hrl := r5.weaken (ok' := Lt wr.heap.size) (fun q hq => Nat.lt_of_lt_of_le hq hle)
            have HC := Lib.hid (vbytes_any kd t' n' m' s' l' A' c' (wr.alloc (.cells #[.int .i64 kd, .string t', .int .i64 n', .int .i64 m', .string s', .slice A' l'.length c'] 35)) (by omega) HWG (hrl.allocs _))
            rw [hy] at HC
            have HSN := Lib.hid hsn
            have hlen : b2.length + (bytesL (x.args.take (i + 1))).length ≤ b2.length + 9 * bulkV x.args := by omega
            have hlen2 : acc.length + y.size = b2.length + (bytesL (x.args.take (i + 1))).length := by rw [hsn, HACC.out, List.length_append, List.length_append, size_toList]; omega
            clear r5 hget hy hsn htk htk2 hrl HWG
            go_wp2_with fail
            (with_reducible refine HC.out.mono ?_)
            rintro e w6 ⟨rfl, hb6⟩
            have hb7 : Below wr.heap.size wr w6 := ((Below.refl wr.heap.size wr).alloc (Nat.le_refl _) _).trans (hb6.mono (by simp))
            have X6 : Hid (CellsAt w6 w.heap.size _ 37) := Lib.hid ((hb7.block w.heap.size HX.out.lt).trans HX.out)
            have R6 := Lib.hid (HR.out.trans (hb7.mono hle))
            have S6 := Lib.hid (HS.out.below hb7)
            clear hb6 hb7 HC
            go_wp2_with fail
            (with_reducible refine (writeE_any S6.out.self y (by omega)).mono ?_)
            rintro e w7 ⟨rfl, hb⟩
            have HACC2 : Hid (acc ++ y.data.toList = b2 ++ bytesL (x.args.take (i + 1))) := Lib.hid (by rw [HSN.out, HACC.out, List.append_assoc])
            have hacl : (acc ++ y.data.toList).length = acc.length + y.size := by rw [List.length_append, size_toList]
            obtain ⟨acc2, ha2⟩ : ∃ a, acc ++ y.data.toList = a := ⟨_, rfl⟩
            rw [ha2] at HACC2 hacl hb
            have X7 : Hid (CellsAt w7 w.heap.size _ 37) := Lib.hid (hb.cells X6.out (by omega) (by decide))
            have R7 := Lib.hid (R6.out.trans hb.low)
            have S7 := Lib.hid (S6.out.trans hb)
            have hac2 : acc2.length ≤ b2.length + 9 * bulkV x.args := by omega
            clear hb ha2 hacl hlen hlen2
            go_wp2_with fail
            exact ⟨⟨i + 1, acc2, by omega, by go_num, hac2, HACC2, S7, X7, R7⟩, by simp [intOf]; omega⟩
          · obtain rfl : i = x.args.length := by omega
            have HAE : Hid (acc = b2 ++ bytesL x.args) := Lib.hid (by rw [HACC.out, List.take_length])
            have p0 : wr.cell? ⟨w.heap.size, 0, none⟩ = some (.int .i64 x.kind) := by rw [HX.out.cell]; rfl
            have p1 : wr.cell? ⟨w.heap.size, 1, none⟩ = some (.string x.path) := by rw [HX.out.cell]; rfl
            have p2 : wr.cell? ⟨w.heap.size, 2, none⟩ = some (.string x.msg) := by rw [HX.out.cell]; rfl
            have p3 : wr.cell? ⟨w.heap.size, 3, none⟩ = some (.slice A x.args.length c) := by rw [HX.out.cell]; rfl
            have p4 : wr.cell? ⟨w.heap.size, 4, none⟩ = some (.int .i64 x.ord) := by rw [HX.out.cell]; rfl
            have p5 : wr.cell? ⟨w.heap.size, 5, none⟩ = some (.int .i64 x.vk) := by rw [HX.out.cell]; rfl
            have p6 : wr.cell? ⟨w.heap.size, 6, none⟩ = some (.string x.vt) := by rw [HX.out.cell]; rfl
            have p7 : wr.cell? ⟨w.heap.size, 7, none⟩ = some (.int .i64 x.vn) := by rw [HX.out.cell]; rfl
            have p8 : wr.cell? ⟨w.heap.size, 8, none⟩ = some (.int .i64 x.vm) := by rw [HX.out.cell]; rfl
            have p9 : wr.cell? ⟨w.heap.size, 9, none⟩ = some (.string x.vx) := by rw [HX.out.cell]; rfl
            have p10 : wr.cell? ⟨w.heap.size, 10, none⟩ = some (.slice C x.vl.length d) := by rw [HX.out.cell]; rfl
            have p11 : wr.cell? ⟨w.heap.size, 11, none⟩ = some (.int .i64 x.n) := by rw [HX.out.cell]; rfl
            go_wp2_with fail
            have SS : Hid (BldE B b w0 wr.drew acc) := Lib.hid (HS.out.below (below_drewN (Below.refl _ wr) 1))
            have XX : Hid (CellsAt wr.drew w.heap.size #[.int .i64 x.kind, .string x.path, .string x.msg, .slice A x.args.length c, .int .i64 x.ord, .int .i64 x.vk, .string x.vt, .int .i64 x.vn, .int .i64 x.vm, .string x.vx, .slice C x.vl.length d, .int .i64 x.n] 37) := Lib.hid HX.out
            have RR : Hid (Below B w wr.drew) := Lib.hid (HR.out.trans ((below_drewN (Below.refl _ wr) 1).mono HS.out.le))
            have zz3 : ¬ 9223372036854775807 < (numZ x.ord).size + (bytesP nodeP x.val).size := by omega
            clear HS HX HR
            go_region_held3 (fun w' => w'.cell? ⟨w.heap.size, 4, none⟩ = some (.int .i64 x.ord) ∧ w'.cell? ⟨w.heap.size, 5, none⟩ = some (.int .i64 x.vk) ∧ w'.cell? ⟨w.heap.size, 6, none⟩ = some (.string x.vt) ∧ w'.cell? ⟨w.heap.size, 7, none⟩ = some (.int .i64 x.vn) ∧ w'.cell? ⟨w.heap.size, 8, none⟩ = some (.int .i64 x.vm) ∧ w'.cell? ⟨w.heap.size, 9, none⟩ = some (.string x.vx) ∧ w'.cell? ⟨w.heap.size, 10, none⟩ = some (.slice C x.vl.length d))
              (first | go_keep)
              (first
                | (go_at_call 41; go_loud ((refine (num_int x.ord (by omega) _).mono ?_); rintro e w4 ⟨rfl, hb⟩; have XX : Hid (CellsAt w4 w.heap.size #[.int .i64 x.kind, .string x.path, .string x.msg, .slice A x.args.length c, .int .i64 x.ord, .int .i64 x.vk, .string x.vt, .int .i64 x.vn, .int .i64 x.vm, .string x.vx, .slice C x.vl.length d, .int .i64 x.n] 37) := Lib.hid ((hb.block w.heap.size XX.out.lt).trans XX.out); have RR := Lib.hid (RR.out.trans (hb.mono SS.out.le)); have SS := Lib.hid (SS.out.below hb); clear hb; have z4 : w4.cell? ⟨w.heap.size, 4, none⟩ = some (.int .i64 x.ord) := (by rw [XX.out.cell]; rfl); have z5 : w4.cell? ⟨w.heap.size, 5, none⟩ = some (.int .i64 x.vk) := (by rw [XX.out.cell]; rfl); have z6 : w4.cell? ⟨w.heap.size, 6, none⟩ = some (.string x.vt) := (by rw [XX.out.cell]; rfl); have z7 : w4.cell? ⟨w.heap.size, 7, none⟩ = some (.int .i64 x.vn) := (by rw [XX.out.cell]; rfl); have z8 : w4.cell? ⟨w.heap.size, 8, none⟩ = some (.int .i64 x.vm) := (by rw [XX.out.cell]; rfl); have z9 : w4.cell? ⟨w.heap.size, 9, none⟩ = some (.string x.vx) := (by rw [XX.out.cell]; rfl); have z10 : w4.cell? ⟨w.heap.size, 10, none⟩ = some (.slice C x.vl.length d) := (by rw [XX.out.cell]; rfl)))
                | (go_at_call 71; go_loud ((refine (HVB.out _ (RR.out.size) ?_).mono ?_); (exact (RV.out.below RR.out (fun _ h => h)).weaken (fun q hq => Nat.lt_of_lt_of_le hq SS.out.le)); rintro e w4 ⟨rfl, hb⟩; have XX : Hid (CellsAt w4 w.heap.size #[.int .i64 x.kind, .string x.path, .string x.msg, .slice A x.args.length c, .int .i64 x.ord, .int .i64 x.vk, .string x.vt, .int .i64 x.vn, .int .i64 x.vm, .string x.vx, .slice C x.vl.length d, .int .i64 x.n] 37) := Lib.hid ((hb.block w.heap.size XX.out.lt).trans XX.out); have RR := Lib.hid (RR.out.trans (hb.mono SS.out.le)); have SS := Lib.hid (SS.out.below hb); clear hb; have z4 : w4.cell? ⟨w.heap.size, 4, none⟩ = some (.int .i64 x.ord) := (by rw [XX.out.cell]; rfl); have z5 : w4.cell? ⟨w.heap.size, 5, none⟩ = some (.int .i64 x.vk) := (by rw [XX.out.cell]; rfl); have z6 : w4.cell? ⟨w.heap.size, 6, none⟩ = some (.string x.vt) := (by rw [XX.out.cell]; rfl); have z7 : w4.cell? ⟨w.heap.size, 7, none⟩ = some (.int .i64 x.vn) := (by rw [XX.out.cell]; rfl); have z8 : w4.cell? ⟨w.heap.size, 8, none⟩ = some (.int .i64 x.vm) := (by rw [XX.out.cell]; rfl); have z9 : w4.cell? ⟨w.heap.size, 9, none⟩ = some (.string x.vx) := (by rw [XX.out.cell]; rfl); have z10 : w4.cell? ⟨w.heap.size, 10, none⟩ = some (.slice C x.vl.length d) := (by rw [XX.out.cell]; rfl)))
                | (go_at_call 40; go_loud ((refine (writeE_any SS.out.self (numZ x.ord ++ bytesP nodeP x.val) (by simp only [ByteArray.size_append]; omega)).mono ?_); rintro e w8 ⟨rfl, hb⟩; have X8 : Hid (CellsAt w8 w.heap.size #[.int .i64 x.kind, .string x.path, .string x.msg, .slice A x.args.length c, .int .i64 x.ord, .int .i64 x.vk, .string x.vt, .int .i64 x.vn, .int .i64 x.vm, .string x.vx, .slice C x.vl.length d, .int .i64 x.n] 37) := Lib.hid (hb.cells XX.out (by omega) (by decide)); have S8 := Lib.hid (SS.out.trans hb); clear hb; have z4 : w8.cell? ⟨w.heap.size, 4, none⟩ = some (.int .i64 x.ord) := (by rw [X8.out.cell]; rfl); have z5 : w8.cell? ⟨w.heap.size, 5, none⟩ = some (.int .i64 x.vk) := (by rw [X8.out.cell]; rfl); have z6 : w8.cell? ⟨w.heap.size, 6, none⟩ = some (.string x.vt) := (by rw [X8.out.cell]; rfl); have z7 : w8.cell? ⟨w.heap.size, 7, none⟩ = some (.int .i64 x.vn) := (by rw [X8.out.cell]; rfl); have z8 : w8.cell? ⟨w.heap.size, 8, none⟩ = some (.int .i64 x.vm) := (by rw [X8.out.cell]; rfl); have z9 : w8.cell? ⟨w.heap.size, 9, none⟩ = some (.string x.vx) := (by rw [X8.out.cell]; rfl); have z10 : w8.cell? ⟨w.heap.size, 10, none⟩ = some (.slice C x.vl.length d) := (by rw [X8.out.cell]; rfl))))
            all_goals (
              have HE : Hid (acc ++ (numZ x.ord ++ bytesP nodeP x.val).data.toList = bs ++ WR) := Lib.hid (by rw [HAE.out, Hb2.out, Hb1.out, HW0.out, if_neg (by rw [q1]; simp), if_pos q4]; unfold letterW; simp only [List.append_assoc])
              rw [HE.out] at S8
              go_wp2_with fail
              exact bodyPost_ret (v := .tuple #[]) (by simp [results, Tryz.results44, go_sem]) rfl ⟨rfl, S8.out⟩))
    | false =>
      have n1 : (x.kind != 1) = true := by simp only [bne, q1]; rfl
      have n4 : (x.kind != 4) = true := by simp only [bne, q4]; rfl
      go_wp2_with fail
      (with_reducible refine (num_int x.n (by omega) _).mono ?_)
      rintro e w3 ⟨rfl, hb⟩
      have Xw3 : Hid (CellsAt w3 w.heap.size #[.int .i64 x.kind, .string x.path, .string x.msg, .slice A x.args.length c, .int .i64 x.ord, .int .i64 x.vk, .string x.vt, .int .i64 x.vn, .int .i64 x.vm, .string x.vx, .slice C x.vl.length d, .int .i64 x.n] 37) := Lib.hid ((hb.block w.heap.size Xw2.out.lt).trans Xw2.out)
      have Rw3 := Lib.hid (Rw2.out.trans (hb.mono Sw2.out.le))
      have Sw3 := Lib.hid (Sw2.out.below hb)
      clear hb
      clear p0 p1 p2 p3 p4 p5 p6 p7 p8 p9 p10 p11
      go_wp2_with fail
      (with_reducible refine (writeE_any Sw3.out.self (numZ x.n) (by omega)).mono ?_)
      rintro e w4 ⟨rfl, hb⟩
      obtain ⟨b2, hb2⟩ : ∃ a, a = b1 ++ (numZ x.n).data.toList := ⟨_, rfl⟩
      rw [← hb2] at hb
      have lb2 : b2.length = b1.length + (numZ x.n).size := by rw [hb2, List.length_append, size_toList]
      have Hb2 := Lib.hid hb2
      clear hb2
      have Xw4 : Hid (CellsAt w4 w.heap.size #[.int .i64 x.kind, .string x.path, .string x.msg, .slice A x.args.length c, .int .i64 x.ord, .int .i64 x.vk, .string x.vt, .int .i64 x.vn, .int .i64 x.vm, .string x.vx, .slice C x.vl.length d, .int .i64 x.n] 37) := Lib.hid (hb.cells Xw3.out (by omega) (by decide))
      have Rw4 := Lib.hid (Rw3.out.trans hb.low)
      have Sw4 := Lib.hid (Sw3.out.trans hb)
      clear hb
      have HE : Hid (b2 = bs ++ WR) := Lib.hid (by rw [Hb2.out, Hb1.out, HW0.out, if_neg (by rw [q1]; simp), if_neg (by rw [q4]; simp), List.append_assoc])
      rw [HE.out] at Sw4
      go_wp2_with fail
      exact bodyPost_ret (v := .tuple #[]) (by simp [results, Tryz.results44, go_sem]) rfl ⟨rfl, Sw4.out⟩
end Go.Proofs.YtlbmfgiepcemdaaGreat
