/- value.encode: the bytes of a value behind those that were there. Conditions: those in each statement. -/
import Derived.Test.YtlbmfgiepcemdaaGreatYNumValStructs
import Derived.Lib.AppendStr
import Derived.Lib.OthersKept
import Derived.Lib.UnsafeStr
namespace Go.Proofs.YtlbmfgiepcemdaaGreat
open Go.RowKit

mutual
/-- the bytes of a value -/
def bytesV : V → List UInt8
  | .mk k t n m s l => (numZ k).data.toList ++ (textB t).data.toList ++ (intB n).data.toList ++ (intB m).data.toList ++ (textB s).data.toList ++ (numB l.length).data.toList ++ bytesVs l
def bytesVs : List V → List UInt8
  | [] => []
  | v :: r => bytesV v ++ bytesVs r
end
mutual
/-- the numbers are Go's ints -/
def V.Wf : V → Prop
  | .mk k _ n m _ l => (-9223372036854775808 ≤ k ∧ k ≤ 9223372036854775807) ∧ (-9223372036854775808 ≤ n ∧ n ≤ 9223372036854775807) ∧ (-9223372036854775808 ≤ m ∧ m ≤ 9223372036854775807) ∧ WfV l
def WfV : List V → Prop
  | [] => True
  | v :: r => v.Wf ∧ WfV r
end
theorem WfV_get : ∀ (l : List V) (i : Nat) (v : V), WfV l → l[i]? = some v → v.Wf
  | [], i, v, _, h => by simp at h
  | x :: r, 0, v, hw, h => by simp at h; subst h; rw [WfV] at hw; exact hw.1
  | x :: r, i + 1, v, hw, h => by rw [WfV] at hw; exact WfV_get r i v hw.2 (by simpa using h)
theorem bytesVs_snoc : ∀ (l : List V) (k : Nat) (v : V), l[k]? = some v → bytesVs (l.take (k + 1)) = bytesVs (l.take k) ++ bytesV v
  | [], k, v, h => by simp at h
  | x :: r, 0, v, h => by simp at h; subst h; simp [bytesVs]
  | x :: r, k + 1, v, h => by
    have := bytesVs_snoc r k v (by simpa using h)
    rw [List.take_succ_cons, bytesVs, this, List.take_succ_cons, bytesVs, List.append_assoc]

theorem size_toList (s : ByteArray) : s.data.toList.length = s.size := by simp
theorem numZ_size (n : Int) : (numZ n).size ≤ 9 := by
  unfold numZ; split
  · simp [ByteArray.size]
  · exact numB_size _
theorem textB_size (s : ByteArray) : (textB s).size ≤ 9 + s.size := by
  unfold textB; rw [ByteArray.size_append]; have := numB_size s.size; omega
mutual
theorem bytesV_len : ∀ v : V, (bytesV v).length ≤ 9 * v.bulk
  | .mk k t n m s l => by
    have := bytesVs_len l
    have h1 := numZ_size k
    have h2 := textB_size t
    have h3 := intB_size n
    have h4 := intB_size m
    have h5 := textB_size s
    have h6 := numB_size l.length
    rw [bytesV, bulk_mk]
    simp only [List.length_append, size_toList]
    omega
theorem bytesVs_len : ∀ l : List V, (bytesVs l).length ≤ 9 * bulkV l
  | [] => by simp [bytesVs]
  | v :: r => by
    have := bytesV_len v
    have := bytesVs_len r
    rw [bytesVs, bulkV_cons, List.length_append]; omega
end
theorem bulkV_take : ∀ (l : List V) (k : Nat), bulkV (l.take k) ≤ bulkV l
  | [], k => by simp
  | x :: r, 0 => by simp [bulkV]
  | x :: r, k + 1 => by have := bulkV_take r k; rw [List.take_succ_cons, bulkV_cons, bulkV_cons]; omega

theorem own_below {w w' : World} {B e k n : Nat} {v : Value} {xs : List Value} (h : w.ownsRow B e k v n xs) (hb : Below w.heap.size w w') : w'.ownsRow B e k v n xs := by
  refine ⟨h.1, ?_⟩
  rcases h.2 with h2 | ⟨g, cap, cur, h1, h2, h3, h4⟩
  · exact .inl h2
  · exact .inr ⟨g, cap, cur, h1, h2, (hb.block g (Array.getElem?_eq_some_iff.1 h3).1).trans h3, h4⟩

/-- bs in a row of the call's own; what lies below B, and what is no row of bytes, is as it was -/
def EncS (B : Nat) (w0 w : World) (v : Value) (bs : List UInt8) : Prop :=
  w.ownsRow B 5 1 v bs.length (Lib.byteCells bs) ∧ Below B w0 w ∧ Lib.OthersKept 5 none w0 w ∧ B ≤ w.heap.size
theorem EncS.below {B : Nat} {w0 w w' : World} {v : Value} {bs : List UInt8} (h : EncS B w0 w v bs) (hb : Below w.heap.size w w') : EncS B w0 w' v bs :=
  ⟨own_below h.1 hb, h.2.1.trans (hb.mono h.2.2.2), h.2.2.1.trans (fun k _ hk _ _ => (hb.block k (Array.getElem?_eq_some_iff.1 hk).1).trans hk), Nat.le_trans h.2.2.2 hb.size⟩
theorem EncS.app {B : Nat} {w0 w w' : World} {v v' : Value} {bs : List UInt8} {s : ByteArray} (h : EncS B w0 w v bs) (hown : w'.ownsRow B 5 1 v' (bs.length + s.size) (Lib.byteCells bs ++ Lib.strCells s)) (hg : w.grownBy w' v.ownBlock) : EncS B w0 w' v' (bs ++ s.data.toList) := by
  obtain ⟨h1, h2, h3, h4⟩ := h
  refine ⟨?_, h2.grown hg h4 (fun k hk => (h1.lt k hk).1), h3.grown hg (fun g hg' => ?_), Nat.le_trans h4 hg.size⟩
  · rw [List.length_append, size_toList, show Lib.byteCells (bs ++ s.data.toList) = Lib.byteCells bs ++ Lib.strCells s by simp [Lib.byteCells, Lib.strCells]]
    exact hown
  · rcases h1.2 with ⟨rfl, _⟩ | ⟨g', cap, cur, rfl, _, hc, _⟩
    · simp [Value.ownBlock] at hg'
    · simp only [Value.ownBlock, Option.some.injEq] at hg'
      subst hg'
      exact ⟨cur, (0, 0), hc⟩
theorem EncS.trans {B : Nat} {w0 w w' : World} {v v' : Value} {bs bs' : List UInt8} (h : EncS B w0 w v bs) (h' : EncS B w w' v' bs') : EncS B w0 w' v' bs' :=
  ⟨h'.1, h.2.1.trans h'.2.1, h.2.2.1.trans h'.2.2.1, h'.2.2.2⟩
theorem EncS.box {B : Nat} {w0 w : World} {v : Value} {bs : List UInt8} (h : EncS B w0 w v bs) {g : Nat} {cs : Array Value} (hg : w0.heap[g]? = some (.cells cs 35 (0, 0))) : w.heap[g]? = some (.cells cs 35 (0, 0)) :=
  h.2.2.1 g _ hg (by simp) (fun c fz e => by injection e with _ e2 _; exact absurd e2 (by decide))
theorem EncS.alloc {B : Nat} {w0 w : World} {v : Value} {bs : List UInt8} (h : EncS B w0 w v bs) (o : Obj) : EncS B w0 (w.alloc o) v bs :=
  h.below ((Below.refl _ _).alloc (Nat.le_refl _) o)
theorem EncS.new {B : Nat} {w : World} {v : Value} {bs : List UInt8} (h : w.ownsRow B 5 1 v bs.length (Lib.byteCells bs)) (hB : B ≤ w.heap.size) : EncS B w w v bs := ⟨h, Below.refl _ _, Lib.OthersKept.refl _ _ _, hB⟩

/-- a box ahead of it all -/
theorem EncS.boxed {B : Nat} {w w' : World} {o : Obj} {v : Value} {bs : List UInt8} (hB : B ≤ w.heap.size) (h : EncS B (w.alloc o) w' v bs) : EncS B w w' v bs :=
  ⟨h.1, ((Below.refl B w).alloc hB o).trans h.2.1, (Lib.OthersKept.alloc (Lib.OthersKept.refl _ _ w) o).trans h.2.2.1, h.2.2.2⟩
theorem bulkV_split : ∀ (l : List V) (i : Nat) (v : V), l[i]? = some v → bulkV (l.take i) + v.bulk ≤ bulkV l
  | [], i, v, h => by simp at h
  | x :: r, 0, v, h => by simp at h; subst h; simp [bulkV]
  | x :: r, i + 1, v, h => by have := bulkV_split r i v (by simpa using h); rw [List.take_succ_cons, bulkV_cons, bulkV_cons]; omega
def EncPost (B : Nat) (acc : List UInt8) (v : V) (w : World) (e : Ending) (w' : World) : Prop := ∃ vb, e = .returned vb ∧ EncS B w w' vb (acc ++ bytesV v)
theorem infoB : (Tryz.prog.info? 5).map (fun i => (i.zero, i.size, i.bytes)) = some (some (.int .u8 0), 1, 1) := by kernel_rfl

set_option maxHeartbeats 4000000 in
theorem encode_any (B : Nat) : ∀ (N : Nat) (k : Int) (t : ByteArray) (n m : Int) (s : ByteArray) (l : List V) (acc : List UInt8) (vb : Value) (A : Option Addr) (c : Nat) (w : World), (V.mk k t n m s l).bulk ≤ N → N ≤ 2097152 → (V.mk k t n m s l).Wf → acc.length + 9 * (V.mk k t n m s l).bulk ≤ 1073741824 →
    w.ownsRow B 5 1 vb acc.length (Lib.byteCells acc) → B ≤ w.heap.size → Rd (Lt B) w (vs l) (.slice A l.length c) →
    Calls Tryz.prog 88 #[vb, .agg #[.int .i64 k, .string t, .int .i64 n, .int .i64 m, .string s, .slice A l.length c]] w (EncPost B acc (.mk k t n m s l) w) := by
  intro N
  induction N with
  | zero =>
    intro k t n m s l acc vb A c w hb
    rw [bulk_mk] at hb
    omega
  | succ N ih =>
    intro k t n m s l acc vb A c w hb hN hwf hacc hown hB hr
    rw [bulk_mk] at hb hacc
    rw [V.Wf] at hwf
    obtain ⟨⟨k0, k1⟩, ⟨n0, n1⟩, ⟨m0, m1⟩, hwl⟩ := hwf
    have hll := bulkV_len l
    obtain ⟨i0, hi, hz0, hz1, hz2⟩ := info_parts infoB
    have HR := Lib.hid hr
    have IH := Lib.hid ih
    have HW := Lib.hid hwl
    have HI := Lib.hid (And.intro hi (And.intro hz0 (And.intro hz1 hz2)))
    have h1 := numZ_size k
    have h2 := textB_size t
    have h3 := intB_size n
    have h4 := intB_size m
    have h5 := textB_size s
    have h6 := numB_size l.length
    have HO : Hid (EncS B (w.alloc (.cells #[.int .i64 k, .string t, .int .i64 n, .int .i64 m, .string s, .slice A l.length c] 35)) (w.alloc (.cells #[.int .i64 k, .string t, .int .i64 n, .int .i64 m, .string s, .slice A l.length c] 35)) vb acc) := Lib.hid (EncS.new (own_below hown ((Below.refl _ _).alloc (Nat.le_refl _) _)) (by simp; omega))
    have HG : Hid ((w.alloc (.cells #[.int .i64 k, .string t, .int .i64 n, .int .i64 m, .string s, .slice A l.length c] 35)).heap[w.heap.size]? = some (.cells #[.int .i64 k, .string t, .int .i64 n, .int .i64 m, .string s, .slice A l.length c] 35 (0, 0))) := Lib.hid (heap_alloc_new w _)
    clear hr ih hwl hi hz0 hz1 hz2 hown
    go_enter Tryz.func88, Tryz.ntmps88
    go_wp2_with fail
    (with_reducible refine (num_int k (by omega) _).mono ?_)
    rintro e w1 ⟨rfl, hb0⟩
    have E1 := Lib.hid (HO.out.below hb0)
    clear hb0
    go_wp2_with (at_builtin; refine Lib.wpList_append_own_string _ rfl _ _ 68 9 rfl B 5 i0 Tryz.underlying68 Tryz.underlying9 HI.out.1 HI.out.2.1 HI.out.2.2.1 HI.out.2.2.2 _ _ _ rfl E1.out.1 (numZ k) rfl ?c0 ?d0 E1.out.2.2.2 ?_)
    case c0 => unfold maxLen; omega
    case d0 => omega
    intro v0 w2 ho0 hg0 _
    have E2 := Lib.hid (E1.out.app ho0 hg0)
    clear ho0 hg0 E1
    obtain ⟨a1, ha1⟩ : ∃ a, a = acc ++ (numZ k).data.toList := ⟨_, rfl⟩
    rw [← ha1] at E2
    have la1 : a1.length ≤ acc.length + 9 := by rw [ha1, List.length_append, size_toList]; omega
    have HA1 := Lib.hid ha1
    clear ha1
    have HG0 : Hid (w2.heap[w.heap.size]? = some (.cells #[.int .i64 k, .string t, .int .i64 n, .int .i64 m, .string s, .slice A l.length c] 35 (0, 0))) := Lib.hid (E2.out.box HG.out)
    have q0_1 : w2.cell? ⟨w.heap.size, 1, none⟩ = some (.string t) := Lib.cell_of_heap HG0.out 1
    go_wp2_with fail
    (with_reducible refine (text_any t (by omega) _).mono ?_)
    rintro e w3 ⟨rfl, hb1⟩
    have E3 := Lib.hid (E2.out.below hb1)
    clear E2
    clear hb1
    go_wp2_with (at_builtin; refine Lib.wpList_append_own_string _ rfl _ _ 68 9 rfl B 5 i0 Tryz.underlying68 Tryz.underlying9 HI.out.1 HI.out.2.1 HI.out.2.2.1 HI.out.2.2.2 _ _ _ rfl E3.out.1 (textB t) rfl ?c1 ?d1 E3.out.2.2.2 ?_)
    case c1 => unfold maxLen; omega
    case d1 => omega
    intro v1 w4 ho1 hg1 _
    have E4 := Lib.hid (E3.out.app ho1 hg1)
    clear ho1 hg1 E3
    obtain ⟨a2, ha2⟩ : ∃ a, a = a1 ++ (textB t).data.toList := ⟨_, rfl⟩
    rw [← ha2] at E4
    have la2 : a2.length ≤ a1.length + (9 + t.size) := by rw [ha2, List.length_append, size_toList]; omega
    have HA2 := Lib.hid ha2
    clear ha2
    have HG1 : Hid (w4.heap[w.heap.size]? = some (.cells #[.int .i64 k, .string t, .int .i64 n, .int .i64 m, .string s, .slice A l.length c] 35 (0, 0))) := Lib.hid (E4.out.box HG.out)
    have q1_2 : w4.cell? ⟨w.heap.size, 2, none⟩ = some (.int .i64 n) := Lib.cell_of_heap HG1.out 2
    go_wp2_with fail
    (with_reducible refine (int_any n _).mono ?_)
    rintro e w5 ⟨rfl, hb2⟩
    have E5 := Lib.hid (E4.out.below hb2)
    clear E4
    clear hb2
    go_wp2_with (at_builtin; refine Lib.wpList_append_own_string _ rfl _ _ 68 9 rfl B 5 i0 Tryz.underlying68 Tryz.underlying9 HI.out.1 HI.out.2.1 HI.out.2.2.1 HI.out.2.2.2 _ _ _ rfl E5.out.1 (intB n) rfl ?c2 ?d2 E5.out.2.2.2 ?_)
    case c2 => unfold maxLen; omega
    case d2 => omega
    intro v2 w6 ho2 hg2 _
    have E6 := Lib.hid (E5.out.app ho2 hg2)
    clear ho2 hg2 E5
    obtain ⟨a3, ha3⟩ : ∃ a, a = a2 ++ (intB n).data.toList := ⟨_, rfl⟩
    rw [← ha3] at E6
    have la3 : a3.length ≤ a2.length + 9 := by rw [ha3, List.length_append, size_toList]; omega
    have HA3 := Lib.hid ha3
    clear ha3
    have HG2 : Hid (w6.heap[w.heap.size]? = some (.cells #[.int .i64 k, .string t, .int .i64 n, .int .i64 m, .string s, .slice A l.length c] 35 (0, 0))) := Lib.hid (E6.out.box HG.out)
    have q2_3 : w6.cell? ⟨w.heap.size, 3, none⟩ = some (.int .i64 m) := Lib.cell_of_heap HG2.out 3
    go_wp2_with fail
    (with_reducible refine (int_any m _).mono ?_)
    rintro e w7 ⟨rfl, hb3⟩
    have E7 := Lib.hid (E6.out.below hb3)
    clear E6
    clear hb3
    go_wp2_with (at_builtin; refine Lib.wpList_append_own_string _ rfl _ _ 68 9 rfl B 5 i0 Tryz.underlying68 Tryz.underlying9 HI.out.1 HI.out.2.1 HI.out.2.2.1 HI.out.2.2.2 _ _ _ rfl E7.out.1 (intB m) rfl ?c3 ?d3 E7.out.2.2.2 ?_)
    case c3 => unfold maxLen; omega
    case d3 => omega
    intro v3 w8 ho3 hg3 _
    have E8 := Lib.hid (E7.out.app ho3 hg3)
    clear ho3 hg3 E7
    obtain ⟨a4, ha4⟩ : ∃ a, a = a3 ++ (intB m).data.toList := ⟨_, rfl⟩
    rw [← ha4] at E8
    have la4 : a4.length ≤ a3.length + 9 := by rw [ha4, List.length_append, size_toList]; omega
    have HA4 := Lib.hid ha4
    clear ha4
    have HG3 : Hid (w8.heap[w.heap.size]? = some (.cells #[.int .i64 k, .string t, .int .i64 n, .int .i64 m, .string s, .slice A l.length c] 35 (0, 0))) := Lib.hid (E8.out.box HG.out)
    have q3_4 : w8.cell? ⟨w.heap.size, 4, none⟩ = some (.string s) := Lib.cell_of_heap HG3.out 4
    go_wp2_with fail
    (with_reducible refine (text_any s (by omega) _).mono ?_)
    rintro e w9 ⟨rfl, hb4⟩
    have E9 := Lib.hid (E8.out.below hb4)
    clear E8
    clear hb4
    go_wp2_with (at_builtin; refine Lib.wpList_append_own_string _ rfl _ _ 68 9 rfl B 5 i0 Tryz.underlying68 Tryz.underlying9 HI.out.1 HI.out.2.1 HI.out.2.2.1 HI.out.2.2.2 _ _ _ rfl E9.out.1 (textB s) rfl ?c4 ?d4 E9.out.2.2.2 ?_)
    case c4 => unfold maxLen; omega
    case d4 => omega
    intro v4 w10 ho4 hg4 _
    have E10 := Lib.hid (E9.out.app ho4 hg4)
    clear ho4 hg4 E9
    obtain ⟨a5, ha5⟩ : ∃ a, a = a4 ++ (textB s).data.toList := ⟨_, rfl⟩
    rw [← ha5] at E10
    have la5 : a5.length ≤ a4.length + (9 + s.size) := by rw [ha5, List.length_append, size_toList]; omega
    have HA5 := Lib.hid ha5
    clear ha5
    have HG4 : Hid (w10.heap[w.heap.size]? = some (.cells #[.int .i64 k, .string t, .int .i64 n, .int .i64 m, .string s, .slice A l.length c] 35 (0, 0))) := Lib.hid (E10.out.box HG.out)
    have q4_5 : w10.cell? ⟨w.heap.size, 5, none⟩ = some (.slice A l.length c) := Lib.cell_of_heap HG4.out 5
    go_wp2_with fail
    (with_reducible refine (num_any l.length (by omega) _).mono ?_)
    rintro e w11 ⟨rfl, hb5⟩
    have E11 := Lib.hid (E10.out.below hb5)
    clear E10
    clear hb5
    go_wp2_with (at_builtin; refine Lib.wpList_append_own_string _ rfl _ _ 68 9 rfl B 5 i0 Tryz.underlying68 Tryz.underlying9 HI.out.1 HI.out.2.1 HI.out.2.2.1 HI.out.2.2.2 _ _ _ rfl E11.out.1 (numB l.length) rfl ?c5 ?d5 E11.out.2.2.2 ?_)
    case c5 => unfold maxLen; omega
    case d5 => omega
    intro v5 w12 ho5 hg5 _
    have E12 := Lib.hid (E11.out.app ho5 hg5)
    clear ho5 hg5 E11
    obtain ⟨a6, ha6⟩ : ∃ a, a = a5 ++ (numB l.length).data.toList := ⟨_, rfl⟩
    rw [← ha6] at E12
    have la6 : a6.length ≤ a5.length + 9 := by rw [ha6, List.length_append, size_toList]; omega
    have HA6 := Lib.hid ha6
    clear ha6
    have HG5 : Hid (w12.heap[w.heap.size]? = some (.cells #[.int .i64 k, .string t, .int .i64 n, .int .i64 m, .string s, .slice A l.length c] 35 (0, 0))) := Lib.hid (E12.out.box HG.out)
    have q5_5 : w12.cell? ⟨w.heap.size, 5, none⟩ = some (.slice A l.length c) := Lib.cell_of_heap HG5.out 5
    go_wp2_with fail
    have HBY : Hid (acc ++ bytesV (.mk k t n m s l) = a6 ++ bytesVs l) := Lib.hid (by
      rw [HA6.out, HA5.out, HA4.out, HA3.out, HA2.out, HA1.out, bytesV]; simp only [List.append_assoc])
    go_loopw [0, 41] (fun s0 s41 wr => ∃ (i : Nat) (bs : List UInt8), i ≤ l.length ∧ s41 = .int .i64 i ∧ Hid (bs = a6 ++ bytesVs (l.take i)) ∧ Hid (EncS B (w.alloc (.cells #[.int .i64 k, .string t, .int .i64 n, .int .i64 m, .string s, .slice A l.length c] 35)) wr s0 bs)) (fun _ s41 _ => l.length - (intOf s41).toNat)
    case atStart => exact ⟨0, a6, by omega, rfl, Lib.hid (by simp [bytesVs]), E12⟩
    case round =>
      clear E12
      obtain ⟨i, bs, hi, rfl, HBS, HE⟩ := hrel
      by_cases hlt : i < l.length
      · have hrr := HR.out.below ((((Below.refl w.heap.size w).alloc (Nat.le_refl _) _).mono hB).trans HE.out.2.1) (fun _ h => h)
        obtain ⟨b, off, kd, t', n', m', s', l', A', c', e, hlb, hget, h2⟩ := vs_at hrr hlt
        subst e
        obtain ⟨c0, c1, c2, c3, c4, c5, r5⟩ := h2
        have hbk := bulkV_get _ _ _ hget
        have hbt := bytesVs_len (l.take i)
        have hbt2 := bulkV_take l i
        have lbs : bs.length ≤ a6.length + 9 * bulkV (l.take i) := by rw [HBS.out, List.length_append]; omega
        have hsp : bulkV (l.take i) + (V.mk kd t' n' m' s' l').bulk ≤ bulkV l := bulkV_split l i _ hget
        have HC := Lib.hid (fun vq W hO hBW hRd => IH.out kd t' n' m' s' l' bs vq A' c' W (by omega) (by omega) (WfV_get _ _ _ HW.out hget) (by omega) hO hBW hRd)
        have R5 := Lib.hid r5
        have HG9 := Lib.hid hget
        clear r5 hget hrr
        go_wp2_with fail
        (with_reducible refine (HC.out _ _ ?_ ?_ ?_).mono ?_)
        · exact (HE.out.alloc _).1
        · exact (HE.out.alloc _).2.2.2
        · exact R5.out.below ((Below.refl B wr).alloc HE.out.2.2.2 _) (fun _ h => h)
        rintro e w4 ⟨vb4, rfl, hE4⟩
        have E4 := Lib.hid ((HE.out.alloc _).trans hE4)
        have HB4 : Hid (bs ++ bytesV (.mk kd t' n' m' s' l') = a6 ++ bytesVs (l.take (i + 1))) := Lib.hid (by
          rw [HBS.out, bytesVs_snoc l i _ HG9.out, List.append_assoc])
        clear hE4
        go_wp2_with fail
        exact ⟨⟨i + 1, _, by omega, by go_num, HB4, E4⟩, by simp [intOf]; omega⟩
      · obtain rfl : i = l.length := by omega
        go_wp2_with fail
        go_ret
        refine ⟨_, rfl, ?_⟩
        have hE := HE.out
        rw [HBS.out, List.take_length, ← HBY.out] at hE
        exact EncS.boxed hB hE
end Go.Proofs.YtlbmfgiepcemdaaGreat
