/- match.Key: the digest of a request's path, name, number and arguments. Conditions: those in each statement. value.Bytes at an int. Conditions: those in each statement. -/
import Derived.Test.YtlnfdpdancolmaaDoorYValidType
import Derived.Test.YtlnfdpdancolmaaDoorYHexR03GBuilder
import Derived.Test.YtlnfdpdancolmaaDoorYShelf
namespace Go.Proofs.YtlnfdpdancolmaaDoor
open Go.RowKit

theorem builder_below {T e : TypeId} {B b : Nat} {p : Value} {bs : List Value} {w w' : World} (h : Lib.BuilderAt T e B b p bs w) (hb : Below w.heap.size w w') : Lib.BuilderAt T e B b p bs w' := by
  obtain ⟨h1, v, h2, h3, h4⟩ := h
  exact ⟨h1, v, (hb.block b (Array.getElem?_eq_some_iff.1 h2).1).trans h2, own_below h3 hb, h4⟩
theorem isBuilder_below {T e : TypeId} {B b : Nat} {bs : List Value} {w w' : World} (h : Lib.IsBuilder T e B b bs w) (hb : Below w.heap.size w w') : Lib.IsBuilder T e B b bs w' :=
  h.elim (fun h => .inl (builder_below h hb)) (fun h => .inr (builder_below h hb))

/-- a builder of the call's own holds bs; what lies below B is as it was -/
def Bld (B b : Nat) (w0 w : World) (bs : List UInt8) : Prop := Lib.IsBuilder 76 5 B b (Lib.byteCells bs) w ∧ Below B w0 w ∧ B ≤ w.heap.size
theorem Bld.below {B b : Nat} {w0 w w' : World} {bs : List UInt8} (h : Bld B b w0 w bs) (hb : Below w.heap.size w w') : Bld B b w0 w' bs :=
  ⟨isBuilder_below h.1 hb, h.2.1.trans (hb.mono h.2.2), Nat.le_trans h.2.2 hb.size⟩
theorem Bld.alloc {B b : Nat} {w0 w : World} {bs : List UInt8} (h : Bld B b w0 w bs) (o : Obj) : Bld B b w0 (w.alloc o) bs := h.below ((Below.refl _ _).alloc (Nat.le_refl _) o)
theorem Bld.new (w : World) : Bld w.heap.size w.heap.size w (w.alloc (.cells #[.pointer none, .slice none 0 0] 76)) [] :=
  ⟨.inl ⟨Nat.le_refl _, .slice none 0 0, heap_alloc_new w _, World.ownsRow_nil _ _ _ _, by simp [Value.ownBlock]⟩, (Below.refl _ _).alloc (Nat.le_refl _) _, by simp⟩
/-- WriteString -/
def WritePost (B b : Nat) (w0 : World) (bs : List UInt8) (s : ByteArray) (e : Ending) (w' : World) : Prop := e = .returned (.tuple #[.int .i64 s.size, .nilIface]) ∧ Bld B b w0 w' (bs ++ s.data.toList)
theorem write_any {B b : Nat} {w0 w : World} {bs : List UInt8} (h : Bld B b w0 w bs) (s : ByteArray) (hl : bs.length + s.size ≤ 140737488355328) :
    Calls Tryd.prog 51 #[.pointer (some ⟨b, 0, none⟩), .string s] w (WritePost B b w0 bs s) := by
  refine (Any.Builder_WriteString layB layB_extra B b (Lib.byteCells bs) s w h.1 (by rw [Lib.byteCells_length]; exact hl) h.2.2).mono ?_
  rintro e w' ⟨rfl, h1, h2⟩
  refine ⟨rfl, .inr ?_, h.2.1.trans h2, Nat.le_trans h.2.2 h2.size⟩
  rw [show Lib.byteCells (bs ++ s.data.toList) = Lib.byteCells bs ++ Lib.strCells s by simp [Lib.byteCells, Lib.strCells]]
  exact h1
theorem string_any {B b : Nat} {w0 w : World} {bs : List UInt8} (h : Bld B b w0 w bs) :
    Calls Tryd.prog 58 #[.pointer (some ⟨b, 0, none⟩)] w fun e w' => e = .returned (.string ⟨bs.toArray⟩) ∧ Below B w0 w' := by
  refine (Tryd.Builder_String_any B b bs w h.1 h.2.2).mono ?_
  rintro e w' ⟨rfl, h2⟩
  exact ⟨rfl, h.2.1.trans h2⟩

/-- value.Bytes comes to F at v -/
def BytesOk (F : V → ByteArray) (v : V) : Prop := (F v).size ≤ 9 * v.bulk ∧ ∀ k t n m s l, v = .mk k t n m s l → ∀ (W : World) (A : Option Addr) (c : Nat), Rd (Lt W.heap.size) W (vs l) (.slice A l.length c) →
  Calls Tryd.prog 55 #[.agg #[.int .i64 k, .string t, .int .i64 n, .int .i64 m, .string s, .slice A l.length c]] W fun e w' => e = .returned (.string (F (.mk k t n m s l))) ∧ Below W.heap.size W w'

def textsF (F : V → ByteArray) (l : List V) : List UInt8 := l.flatMap fun v => (textB (F v)).data.toList
theorem textsF_snoc (F : V → ByteArray) (l : List V) (k : Nat) (v : V) (h : l[k]? = some v) : textsF F (l.take (k + 1)) = textsF F (l.take k) ++ (textB (F v)).data.toList := by
  unfold textsF; rw [List.take_add_one, h]; simp
theorem textsF_len (F : V → ByteArray) : ∀ l : List V, (∀ v ∈ l, (F v).size ≤ 9 * v.bulk) → (textsF F l).length ≤ 18 * bulkV l
  | [], _ => by simp [textsF]
  | v :: r, h => by
    have h1 := textsF_len F r (fun v hv => h v (List.mem_cons_of_mem _ hv))
    have h2 := h v List.mem_cons_self
    have h3 := textB_size (F v)
    have h4 : 7 ≤ v.bulk := by cases v; rw [bulk_mk]; omega
    have h5 : textsF F (v :: r) = (textB (F v)).data.toList ++ textsF F r := rfl
    rw [h5, List.length_append, size_toList, bulkV_cons]; omega
/-- what a key is the digest of -/
def keyB (F : V → ByteArray) (r : Req) : List UInt8 := (textB r.path).data.toList ++ (textB r.name).data.toList ++ (intB r.ord).data.toList ++ (numB r.args.length).data.toList ++ textsF F r.args
/-- a key -/
def keyS (F : V → ByteArray) (r : Req) : ByteArray := hexS (digF (shaS ⟨(keyB F r).toArray⟩))
theorem digF_range (v : H8) (j : Nat) : 0 ≤ digF v j ∧ digF v j < 256 := by unfold digF; omega

set_option maxHeartbeats 4000000 in
theorem key_any (F : V → ByteArray) (r : Req) (A : Option Addr) (c : Nat) (w : World) (hb : r.bulk ≤ 2097152) (hF : ∀ v ∈ r.args, BytesOk F v) (hr : Rd (Lt w.heap.size) w (vs r.args) (.slice A r.args.length c)) (hR : Row32 w 0 64 kF) :
    Calls Tryd.prog 37 #[.agg #[.string r.path, .string r.name, .slice A r.args.length c, .int .i64 r.ord, .string r.reply, .int .i64 r.sent, .int .i64 r.tick, .bool r.isopen]] w fun e w' => e = .returned (.string (keyS F r)) ∧ Below w.heap.size w w' := by
  have hw0 : 0 < w.heap.size := World.block_lt_of_cell? w _ (hR 0 (by omega))
  unfold Req.bulk at hb
  have hll := bulkV_len r.args
  have HR := Lib.hid hr
  have HF := Lib.hid hF
  have HK := Lib.hid hR
  have h1 := textB_size r.path
  have h2 := textB_size r.name
  have h3 := intB_size r.ord
  have h4 := numB_size r.args.length
  clear hr hF hR
  have S0 : Hid (Bld (w.heap.size + 1) (w.heap.size + 1) (w.alloc (.cells #[.string r.path, .string r.name, .slice A r.args.length c, .int .i64 r.ord, .string r.reply, .int .i64 r.sent, .int .i64 r.tick, .bool r.isopen] 42)) ((w.alloc (.cells #[.string r.path, .string r.name, .slice A r.args.length c, .int .i64 r.ord, .string r.reply, .int .i64 r.sent, .int .i64 r.tick, .bool r.isopen] 42)).alloc (.cells #[.pointer none, .slice none 0 0] 76)) []) := Lib.hid (by
    have := Bld.new (w.alloc (.cells #[.string r.path, .string r.name, .slice A r.args.length c, .int .i64 r.ord, .string r.reply, .int .i64 r.sent, .int .i64 r.tick, .bool r.isopen] 42))
    rwa [World.size_alloc] at this)
  go_enter Tryd.func37, Tryd.ntmps37
  go_wp2_with fail
  (with_reducible refine (text_any r.path (by omega) _).mono ?_)
  rintro e w1 ⟨rfl, hb0⟩
  have T0 := Lib.hid (S0.out.below hb0)
  clear S0 hb0
  go_wp2_with fail
  (with_reducible refine (write_any T0.out (textB r.path) (by first | omega | (simp only [List.length_nil]; omega))).mono ?_)
  rintro e w2 ⟨rfl, hc0⟩
  obtain ⟨a1, ha1⟩ : ∃ a, a = [] ++ (textB r.path).data.toList := ⟨_, rfl⟩
  rw [← ha1] at hc0
  have S1 := Lib.hid hc0
  have la1 : a1.length ≤ 0 + (9 + r.path.size) := by rw [ha1, List.length_append, size_toList]; first | omega | (simp only [List.length_nil]; omega)
  have HA1 := Lib.hid ha1
  have hx1 : w2.heap[w.heap.size]? = some (.cells #[.string r.path, .string r.name, .slice A r.args.length c, .int .i64 r.ord, .string r.reply, .int .i64 r.sent, .int .i64 r.tick, .bool r.isopen] 42 (0, 0)) := (hc0.2.1.block w.heap.size (by omega)).trans (heap_alloc_new w _)
  have qq1 : w2.cell? ⟨w.heap.size, 1, none⟩ = some (.string r.name) := by rw [Lib.cell_of_heap hx1]; rfl
  clear ha1 hc0 T0 hx1
  go_wp2_with fail
  (with_reducible refine (text_any r.name (by omega) _).mono ?_)
  rintro e w3 ⟨rfl, hb1⟩
  have T1 := Lib.hid (S1.out.below hb1)
  clear S1 hb1
  go_wp2_with fail
  (with_reducible refine (write_any T1.out (textB r.name) (by first | omega | (simp only [List.length_nil]; omega))).mono ?_)
  rintro e w4 ⟨rfl, hc1⟩
  obtain ⟨a2, ha2⟩ : ∃ a, a = a1 ++ (textB r.name).data.toList := ⟨_, rfl⟩
  rw [← ha2] at hc1
  have S2 := Lib.hid hc1
  have la2 : a2.length ≤ a1.length + (9 + r.name.size) := by rw [ha2, List.length_append, size_toList]; first | omega | (simp only [List.length_nil]; omega)
  have HA2 := Lib.hid ha2
  have hx2 : w4.heap[w.heap.size]? = some (.cells #[.string r.path, .string r.name, .slice A r.args.length c, .int .i64 r.ord, .string r.reply, .int .i64 r.sent, .int .i64 r.tick, .bool r.isopen] 42 (0, 0)) := (hc1.2.1.block w.heap.size (by omega)).trans (heap_alloc_new w _)
  have qq2 : w4.cell? ⟨w.heap.size, 3, none⟩ = some (.int .i64 r.ord) := by rw [Lib.cell_of_heap hx2]; rfl
  clear ha2 hc1 T1 hx2
  go_wp2_with fail
  (with_reducible refine (int_any r.ord _).mono ?_)
  rintro e w5 ⟨rfl, hb2⟩
  have T2 := Lib.hid (S2.out.below hb2)
  clear S2 hb2
  go_wp2_with fail
  (with_reducible refine (write_any T2.out (intB r.ord) (by first | omega | (simp only [List.length_nil]; omega))).mono ?_)
  rintro e w6 ⟨rfl, hc2⟩
  obtain ⟨a3, ha3⟩ : ∃ a, a = a2 ++ (intB r.ord).data.toList := ⟨_, rfl⟩
  rw [← ha3] at hc2
  have S3 := Lib.hid hc2
  have la3 : a3.length ≤ a2.length + 9 := by rw [ha3, List.length_append, size_toList]; first | omega | (simp only [List.length_nil]; omega)
  have HA3 := Lib.hid ha3
  have hx3 : w6.heap[w.heap.size]? = some (.cells #[.string r.path, .string r.name, .slice A r.args.length c, .int .i64 r.ord, .string r.reply, .int .i64 r.sent, .int .i64 r.tick, .bool r.isopen] 42 (0, 0)) := (hc2.2.1.block w.heap.size (by omega)).trans (heap_alloc_new w _)
  have qq3 : w6.cell? ⟨w.heap.size, 2, none⟩ = some (.slice A r.args.length c) := by rw [Lib.cell_of_heap hx3]; rfl
  clear ha3 hc2 T2 hx3
  go_wp2_with fail
  (with_reducible refine (num_any r.args.length (by omega) _).mono ?_)
  rintro e w7 ⟨rfl, hb3⟩
  have T3 := Lib.hid (S3.out.below hb3)
  clear S3 hb3
  go_wp2_with fail
  (with_reducible refine (write_any T3.out (numB r.args.length) (by first | omega | (simp only [List.length_nil]; omega))).mono ?_)
  rintro e w8 ⟨rfl, hc3⟩
  obtain ⟨a4, ha4⟩ : ∃ a, a = a3 ++ (numB r.args.length).data.toList := ⟨_, rfl⟩
  rw [← ha4] at hc3
  have S4 := Lib.hid hc3
  have la4 : a4.length ≤ a3.length + 9 := by rw [ha4, List.length_append, size_toList]; first | omega | (simp only [List.length_nil]; omega)
  have HA4 := Lib.hid ha4
  have hx4 : w8.heap[w.heap.size]? = some (.cells #[.string r.path, .string r.name, .slice A r.args.length c, .int .i64 r.ord, .string r.reply, .int .i64 r.sent, .int .i64 r.tick, .bool r.isopen] 42 (0, 0)) := (hc3.2.1.block w.heap.size (by omega)).trans (heap_alloc_new w _)
  have qq4 : w8.cell? ⟨w.heap.size, 2, none⟩ = some (.slice A r.args.length c) := by rw [Lib.cell_of_heap hx4]; rfl
  clear ha4 hc3 T3 hx4
  go_wp2_with fail
  have HKB : Hid (keyB F r = a4 ++ textsF F r.args) := Lib.hid (by rw [HA4.out, HA3.out, HA2.out, HA1.out]; simp [keyB])
  go_loopw [26] (fun s26 wr => ∃ (i : Nat) (bs : List UInt8), i ≤ r.args.length ∧ s26 = .int .i64 i ∧ Hid (bs = a4 ++ textsF F (r.args.take i)) ∧ Hid (Bld (w.heap.size + 1) (w.heap.size + 1) (w.alloc (.cells #[.string r.path, .string r.name, .slice A r.args.length c, .int .i64 r.ord, .string r.reply, .int .i64 r.sent, .int .i64 r.tick, .bool r.isopen] 42)) wr bs)) (fun s26 _ => r.args.length - (intOf s26).toNat)
  case atStart => exact ⟨0, a4, by omega, rfl, Lib.hid (by simp [textsF]), S4⟩
  case round =>
    clear S4
    obtain ⟨i, bs, hi, rfl, HBS, HE⟩ := hrel
    have hbw : Below w.heap.size w wr := ((Below.refl w.heap.size w).alloc (Nat.le_refl _) _).trans (HE.out.2.1.mono (by omega))
    have hbt := textsF_len F (r.args.take i) (fun v hv => (HF.out v (List.mem_of_mem_take hv)).1)
    have hbt2 := bulkV_take r.args i
    have lbs : bs.length ≤ a4.length + 18 * bulkV (r.args.take i) := by rw [HBS.out, List.length_append]; omega
    by_cases hlt : i < r.args.length
    · have hrr := HR.out.below hbw (fun _ h => h)
      obtain ⟨b, off, kd, t', n', m', s', l', A', c', e, hlb, hget, h2⟩ := vs_at hrr hlt
      subst e
      obtain ⟨c0, c1, c2, c3, c4, c5, r5⟩ := h2
      obtain ⟨hfl, hfc⟩ := HF.out _ (List.mem_of_getElem? hget)
      have HC := Lib.hid (hfc kd t' n' m' s' l' rfl)
      have hbk := bulkV_get _ _ _ hget
      have ht := textB_size (F (.mk kd t' n' m' s' l'))
      have R5 := Lib.hid (r5.weaken (ok' := Lt wr.heap.size) (fun b hb => Nat.lt_of_lt_of_le hb hbw.size))
      have HG9 := Lib.hid hget
      have HBW := Lib.hid hbw
      clear r5 hget hrr hbw hfc
      go_wp2_with fail
      (with_reducible refine (HC.out _ A' c' ?_).mono ?_)
      · exact R5.out.allocs _
      rintro e w4 ⟨rfl, hb4⟩
      have E4 := Lib.hid ((HE.out.alloc _).below hb4)
      clear hb4
      go_wp2_with fail
      (with_reducible refine (text_any (F (.mk kd t' n' m' s' l')) (by omega) _).mono ?_)
      rintro e w5 ⟨rfl, hb5⟩
      have E5 := Lib.hid (E4.out.below hb5)
      clear hb5 E4
      go_wp2_with fail
      (with_reducible refine (write_any E5.out (textB (F (.mk kd t' n' m' s' l'))) (by omega)).mono ?_)
      rintro e w6 ⟨rfl, hc6⟩
      have E6 := Lib.hid hc6
      have HB6 : Hid (bs ++ (textB (F (.mk kd t' n' m' s' l'))).data.toList = a4 ++ textsF F (r.args.take (i + 1))) := Lib.hid (by
        rw [HBS.out, textsF_snoc F r.args i _ HG9.out, List.append_assoc])
      clear hc6 E5
      go_wp2_with fail
      exact ⟨⟨i + 1, _, by omega, by go_num, HB6, E6⟩, by simp [intOf]; omega⟩
    · obtain rfl : i = r.args.length := by omega
      have HKS : Hid (keyS F r = hexS (digF (shaS ⟨bs.toArray⟩))) := Lib.hid (by unfold keyS; rw [HKB.out, HBS.out, List.take_length])
      have hsz : (ByteArray.mk bs.toArray).size ≤ 4294967296 := by
        have : (ByteArray.mk bs.toArray).size = bs.length := by simp [ByteArray.size]
        omega
      clear hbw
      go_wp2_with fail
      (with_reducible refine (string_any HE.out).mono ?_)
      rintro e w7 ⟨rfl, hb7⟩
      have hbw7 : Below w.heap.size w w7 := ((Below.refl w.heap.size w).alloc (Nat.le_refl _) _).trans (hb7.mono (by omega))
      have K7 : Hid (Row32 w7 0 64 kF) := Lib.hid (HK.out.below hbw7 hw0)
      have HBW7 := Lib.hid hbw7
      clear hb7 hbw7
      go_wp2_with fail
      (with_reducible refine (sha_any _ hsz _ K7.out).mono ?_)
      rintro e w8 ⟨rfl, hb8⟩
      have HBW8 := Lib.hid (HBW7.out.trans (hb8.mono HBW7.out.size))
      clear hb8
      rw [show digRow (shaS ⟨bs.toArray⟩) = row8 (digF (shaS ⟨bs.toArray⟩)) from rfl]
      go_wp2_with fail
      (with_reducible refine (hex_any _ (digF_range _) _).mono ?_)
      rintro e w9 ⟨rfl, hb9⟩
      have HBW9 := Lib.hid (HBW8.out.trans (hb9.mono HBW8.out.size))
      clear hb9
      go_wp2_with fail
      go_ret
      exact ⟨by rw [HKS.out]; rfl, HBW9.out⟩
end Go.Proofs.YtlnfdpdancolmaaDoor
namespace Go.Proofs.YtlnfdpdancolmaaDoor
open Go.RowKit

set_option maxHeartbeats 400000 in
theorem isType_empty (w : World) : Calls Tryd.prog 93 #[.string ⟨#[]⟩] w fun e w' => e = .returned (.bool false) ∧ w = w' := by
  go_enter Tryd.func93, Tryd.ntmps93
  go_wp2_with fail
  go_ret
  exact ⟨rfl, rfl⟩
set_option maxHeartbeats 400000 in
theorem inRange_yes (n : Int) (h0 : -9007199254740992 ≤ n) (h1 : n ≤ 9007199254740992) (w : World) : Calls Tryd.prog 94 #[.int .i64 n] w fun e w' => e = .returned (.bool true) ∧ w = w' := by
  go_enter Tryd.func94, Tryd.ntmps94
  go_wp2_with fail
  go_ret
  exact ⟨rfl, rfl⟩
/-- an int -/
def vInt (n : Int) : V := .mk 3 ⟨#[]⟩ n 0 ⟨#[]⟩ []
set_option maxHeartbeats 2000000 in
set_option maxRecDepth 100000 in
theorem node_int (n : Int) (h0 : -9007199254740992 ≤ n) (h1 : n ≤ 9007199254740992) (A : Option Addr) (c : Nat) (w : World) :
    Calls Tryd.prog 85 #[.agg #[.int .i64 3, .string ⟨#[]⟩, .int .i64 n, .int .i64 0, .string ⟨#[]⟩, .slice A 0 c]] w fun e w' => e = .returned (.bool true) ∧ Below w.heap.size w w' := by
  go_enter Tryd.func85, Tryd.ntmps85
  go_wp2_with fail
  (with_reducible refine (isType_empty _).mono ?_)
  rintro e w1 ⟨rfl, rfl⟩
  go_wp2_with fail
  (with_reducible refine (inRange_yes n h0 h1 _).mono ?_)
  rintro e w1 ⟨rfl, rfl⟩
  go_wp2_with fail
  go_ret
  exact ⟨rfl, (Below.refl _ _).alloc (Nat.le_refl _) _⟩
theorem nodeOk_int (n : Int) (h0 : -9007199254740992 ≤ n) (h1 : n ≤ 9007199254740992) : (vInt n).All (NodeOk fun _ => true) := by
  unfold vInt
  rw [V.All]
  refine ⟨fun k t n' m s l h W A c _ => ?_, trivial⟩
  injection h with e1 e2 e3 e4 e5 e6
  subst e1 e2 e3 e4 e5 e6
  exact node_int n h0 h1 A c W
/-- the bytes of an int -/
def intBytes (n : Int) : ByteArray := ⟨(bytesV (vInt n)).toArray⟩
theorem bytes_int (n : Int) (h0 : -9007199254740992 ≤ n) (h1 : n ≤ 9007199254740992) (A : Option Addr) (c : Nat) (w : World) (hr : Rd (Lt w.heap.size) w (vs []) (.slice A 0 c)) :
    Calls Tryd.prog 55 #[.agg #[.int .i64 3, .string ⟨#[]⟩, .int .i64 n, .int .i64 0, .string ⟨#[]⟩, .slice A 0 c]] w fun e w' => e = .returned (.string (intBytes n)) ∧ Below w.heap.size w w' := by
  refine (bytes_of (fun _ => true) 3 ⟨#[]⟩ n 0 ⟨#[]⟩ [] A c w ?_ ?_ (nodeOk_int n h0 h1) hr).mono ?_
  · rw [bulk_mk]; simp [bulkV, ByteArray.size]
  · rw [V.Wf]; exact ⟨by omega, by omega, by omega, trivial⟩
  · rintro e w' ⟨rfl, hb⟩
    refine ⟨?_, hb⟩
    have : rightP (fun _ => true) (.mk 3 ⟨#[]⟩ n 0 ⟨#[]⟩ []) = true := by unfold rightP; rw [validV]; simp [validL]
    unfold bytesP
    rw [this]; rfl
end Go.Proofs.YtlnfdpdancolmaaDoor
