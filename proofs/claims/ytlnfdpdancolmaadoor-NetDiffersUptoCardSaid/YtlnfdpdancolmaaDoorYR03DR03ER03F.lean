/- append of a slice of bytes; ref03.padded. Conditions: those in each statement. The blocks of the padded message, taken in one by one, come to SHA-256. No program here but through the imports. ref03.Sha: it comes to what sum.Sha comes to. Conditions: those in each statement. -/
import Derived.Test.YtlnfdpdancolmaaDoorYR03C
import Derived.Test.YtlnfdpdancolmaaDoorYR12P
namespace Go.Proofs.YtlnfdpdancolmaaDoor
open Go.RowKit

/-- APPEND OF A SLICE OF BYTES ONTO A ROW OF THE CALL's OWN -/
theorem wp_append_bytes {w : World} {ops : Array Oper} {rest : List Oper} {o : Oper} {a : Act} {Q : Exit → Act → World → Prop} (hgd : o.guard = none) (s x : Operand)
    (ho : o.op = .call { callee := .builtin .append, args := #[s, x], argTypes := #[74, 74] })
    (B : Nat) (hB : B ≤ w.heap.size) (v : Value) (bs : List UInt8) (hs : a.eval s = v) (hown : RowB B w v bs)
    (A : Option Addr) (m c : Nat) (ns : List UInt8) (hm : ns.length = m) (hx : a.eval x = .slice A m c) (hsrc : 0 < m → ∃ b off, A = some ⟨b, off, none⟩ ∧ ∀ j u, (Lib.byteCells ns)[j]? = some u → w.cell? ⟨b, off + j, none⟩ = some u) (hmx : bs.length + m ≤ 4294967296)
    (h : ∀ v' w', RowB B w' v' (bs ++ ns) → w.grownBy w' v.ownBlock → wpList Tryd.prog ops Q rest (a.put o.dst v') w') : wpList Tryd.prog ops Q (o :: rest) a w := by
  obtain ⟨i0, hi0, hz0, hz1, hz2⟩ := info_parts infoB
  by_cases h0 : m = 0
  · subst h0
    obtain rfl : ns = [] := List.eq_nil_of_length_eq_zero hm
    have hsr : Src Tryd.prog i0.size 74 (.slice A 0 c) 0 [] w := by
      cases A with
      | none => exact Src.ofNil w Tryd.underlying74 c
      | some p => exact Src.ofSlice w Tryd.underlying74 p 0 c [] (by simp) (fun j u hu => by simp at hu) (fun u hu => by simp at hu)
    have hv : ∃ b n c', v = .slice b n c' ∧ n ≤ c' := by
      rcases hown.2 with ⟨rfl, _⟩ | ⟨g, cap, cur, rfl, _, _, hnc, _⟩
      · exact ⟨_, _, _, rfl, by omega⟩
      · exact ⟨_, _, _, rfl, hnc⟩
    obtain ⟨b, n, c', rfl, hnc⟩ := hv
    have hrun := run_append_nothing (P := Tryd.prog) w 74 74 o.type 5 i0 Tryd.underlying74 hi0 b n c' hnc _ hsr
    refine wpList_plain hgd fun K hK => ?_
    unfold Oper.wp
    simp [execOp, ho, resolve, invoke, builtin, hs, hx, hrun, Result.andThen]
    exact hK _ _ (h _ w (by rw [List.append_nil]; exact hown) (grown_refl _ _))
  · obtain ⟨b, off, rfl, hc⟩ := hsrc (by omega)
    refine wpList_append_lies w hgd s x 74 ho B 5 i0 _ 1 1 Tryd.underlying74 hi0 hz0 hz1 hz2 rfl (by omega) v bs.length (Lib.byteCells bs) hs hown ⟨b, off, none⟩ m c (Lib.byteCells ns) hx (by rw [Lib.byteCells_length, hm]; omega) (fun j u hu => by rw [Addr.add_lit]; exact hc j u hu) (fun u hu => by obtain ⟨x, _, rfl⟩ := List.mem_map.1 hu; rfl) (by omega) (by unfold maxLen; omega) (by omega) hB w.heap.size rfl ?_
    intro g cap w' h2 h3 _ _
    refine h _ w' ?_ h3
    unfold RowB
    rw [List.length_append, hm, show Lib.byteCells (bs ++ ns) = Lib.byteCells bs ++ Lib.byteCells ns by simp [Lib.byteCells]]
    exact h2

/-- how many zeros SHA-256 pads with -/
def zc (n : Nat) : Nat := (55 + 64 - n % 64) % 64
def lenU (L i : Nat) : List UInt8 := (List.range i).map fun j => UInt8.ofNat (L / 2 ^ (56 - 8 * j) % 256)
theorem lenU_succ (L i : Nat) : lenU L (i + 1) = lenU L i ++ [UInt8.ofNat (L / 2 ^ (56 - 8 * i) % 256)] := by unfold lenU; rw [List.range_succ, List.map_append]; rfl
theorem lenU_len (L i : Nat) : (lenU L i).length = i := by unfold lenU; simp
def padL (s : ByteArray) : List UInt8 := s.data.toList ++ [128] ++ List.replicate (zc s.size) 0 ++ lenU (8 * s.size) 8
def PadPost (s : ByteArray) (w : World) (e : Ending) (w' : World) : Prop := ∃ v, e = .returned v ∧ OwnB w.heap.size w w' v (padL s)
theorem slice_len {B : Nat} {w0 w : World} {v : Value} {bs : List UInt8} (h : OwnB B w0 w v bs) : ∃ A c, v = .slice A bs.length c := by
  rcases h.1.2 with ⟨rfl, h0⟩ | ⟨g, cap, cur, rfl, _⟩
  · exact ⟨none, 0, by rw [h0]⟩
  · exact ⟨_, _, rfl⟩
set_option maxHeartbeats 4000000 in
set_option maxRecDepth 100000 in
theorem padded_any (s : ByteArray) (A : Option Addr) (c : Nat) (w : World) (hs : s.size ≤ 1073741824) (hA : 0 < s.size → ∃ b off, A = some ⟨b, off, none⟩ ∧ b < w.heap.size ∧ BytesAt w b off s.size s) :
    Calls Tryd.prog 78 #[.slice A s.size c] w (PadPost s w) := by
  have hW : Below w.heap.size w (w.alloc (.cells #[] 5)) := (Below.refl _ _).alloc (Nat.le_refl _) _
  have HSRC : Hid (0 < s.size → ∃ b off, A = some ⟨b, off, none⟩ ∧ ∀ j u, (Lib.byteCells s.data.toList)[j]? = some u → (w.alloc (.cells #[] 5)).cell? ⟨b, off + j, none⟩ = some u) := Lib.hid (fun h => by
    obtain ⟨b, off, rfl, hb, hc⟩ := hA h
    refine ⟨b, off, rfl, fun j u hu => ?_⟩
    have hj : j < s.size := by
      have := (List.getElem?_eq_some_iff.1 hu).1
      rwa [Lib.byteCells_length, size_toList] at this
    refine (hW.cell (p := ⟨b, off + j, none⟩) hb).trans ((hc j hj).trans ?_)
    rw [← hu]
    unfold Lib.byteCells byt
    rw [List.getElem?_map, List.getElem?_eq_getElem (by rw [size_toList]; exact hj), List.getD_eq_getElem?_getD, List.getElem?_eq_getElem (by rw [size_toList]; exact hj)]; rfl)
  have E0 : Hid (RowB w.heap.size (w.alloc (.cells #[] 5)) (.slice (some ⟨w.heap.size, 0, none⟩) 0 0) []) := Lib.hid (World.ownsRow_made w #[] 0 (Nat.le_refl _) (by unfold maxLen; omega) (by simp))
  have HW := Lib.hid hW
  clear hW hA
  go_enter Tryd.func78, Tryd.ntmps78
  go_wp2_with (at_builtin; refine wp_append_bytes rfl _ _ rfl w.heap.size ?c1 (.slice (some ⟨w.heap.size, 0, none⟩) 0 0) [] rfl E0.out A s.size c s.data.toList ?c4 rfl HSRC.out ?c3 ?_)
  case c1 => simp
  case c3 => simp only [List.length_nil]; omega
  case c4 => exact size_toList s
  intro v1 w1 hr1 hg1
  have O1 : Hid (OwnB w.heap.size w w1 v1 s.data.toList) := Lib.hid (OwnB.app (v := .slice (some ⟨w.heap.size, 0, none⟩) 0 0) (bs := []) ⟨E0.out, HW.out, HW.out.size⟩ hr1 hg1)
  clear hr1 hg1 E0 HW HSRC
  go_wp2_with (at_builtin; refine wp_append_byte rfl _ _ rfl w.heap.size ?c5 v1 s.data.toList rfl ?c6 w1.heap.size 0 1 128 rfl ?c7 ?c8 ?_)
  case c5 => exact (O1.out.alloc _).2.2
  case c6 => exact (O1.out.alloc _).1
  case c7 => simp
  case c8 => rw [size_toList]; omega
  intro v2 w2 hr2 hg2
  have O2 := Lib.hid ((O1.out.alloc _).app hr2 hg2)
  clear hr2 hg2 O1
  go_wp2_with fail
  go_loopw [3] (fun s3 wr => ∃ (z : Nat) (v : Value), v = s3 ∧ z ≤ zc s.size ∧ Hid (OwnB w.heap.size w wr v (s.data.toList ++ [128] ++ List.replicate z 0))) (fun s3 _ => match s3 with | .slice _ n _ => s.size + 100 - n | _ => 0)
  case atStart => exact ⟨0, _, rfl, Nat.zero_le _, Lib.hid (by simpa using O2.out)⟩
  case round =>
    clear O2
    obtain ⟨z, vq, hvq, hz, HO⟩ := hrel
    subst hvq
    have hlen : (s.data.toList ++ [128] ++ List.replicate z 0).length = s.size + 1 + z := by simp; omega
    obtain ⟨A1, c1, hv⟩ := slice_len HO.out
    rw [hlen] at hv
    subst hv
    have hzz : zc s.size < 64 := Nat.mod_lt _ (by omega)
    by_cases hd : (s.size + 1 + z) % 64 = 56
    · have hzE : z = zc s.size := by unfold zc at hz ⊢; omega
      subst hzE
      have hdb : (((s.size : Int) + 1 + (zc s.size : Int)) % 64 != 56) = false := by simp; omega
      have HPD : Hid (padL s = (s.data.toList ++ [128] ++ List.replicate (zc s.size) 0) ++ lenU (8 * s.size) 8) := Lib.hid rfl
      obtain ⟨q, hq⟩ : ∃ q, s.data.toList ++ [128] ++ List.replicate (zc s.size) 0 = q := ⟨_, rfl⟩
      rw [hq] at HO hlen HPD
      have HLS := Lib.hid hlen
      clear hlen hq
      go_wp2_with fail
      go_loopw [3, 5] (fun s3 s5 wr => ∃ (i : Nat) (v : Value), v = s3 ∧ i ≤ 8 ∧ s5 = .int .i64 (56 - 8 * (i : Int)) ∧ Hid (OwnB w.heap.size w wr v (q ++ lenU (8 * s.size) i))) (fun _ s5 _ => (64 + intOf s5).toNat)
      case atStart => exact ⟨0, _, rfl, by omega, rfl, Lib.hid (by simpa [lenU] using HO.out)⟩
      case round =>
        clear HO
        obtain ⟨i, vq, hvq, hi, rfl, HO⟩ := hrel
        subst hvq
        by_cases h8 : i = 8
        · subst h8
          have HO2 := Lib.hid (HPD.out ▸ HO.out)
          go_wp2_with fail
          go_ret
          exact ⟨_, rfl, HO2.out⟩
        · have HNX := Lib.hid (lenU_succ (8 * s.size) i)
          have hll := lenU_len (8 * s.size) i
          obtain ⟨y, hy⟩ : ∃ y : UInt8, UInt8.ofNat (8 * s.size / 2 ^ (56 - 8 * i) % 256) = y := ⟨_, rfl⟩
          have HY : Hid ((y.toNat : Int) = ((8 * s.size / 2 ^ (56 - 8 * i) % 256 : Nat) : Int)) := Lib.hid (by rw [← hy, u8_ofNat (Nat.mod_lt _ (by omega))])
          rw [hy] at HNX
          obtain ⟨r, hr⟩ : ∃ r, lenU (8 * s.size) i = r := ⟨_, rfl⟩
          rw [hr] at HNX HO hll
          obtain ⟨qq, hqq⟩ : ∃ qq, q ++ r = qq := ⟨_, rfl⟩
          have HN2 : Hid (q ++ lenU (8 * s.size) (i + 1) = qq ++ [y]) := Lib.hid (by rw [HNX.out, ← hqq, List.append_assoc])
          have hql : qq.length ≤ 2147483648 := by rw [← hqq, List.length_append, HLS.out, hll]; omega
          rw [hqq] at HO
          clear hy hr hqq hll HNX
          rcases (show i = 0 ∨ i = 1 ∨ i = 2 ∨ i = 3 ∨ i = 4 ∨ i = 5 ∨ i = 6 ∨ i = 7 by omega) with rfl | rfl | rfl | rfl | rfl | rfl | rfl | rfl
          all_goals (
            go_wp2_with (at_builtin; refine wp_append_byte rfl _ _ rfl w.heap.size (HO.out.alloc _).2.2 _ qq rfl (HO.out.alloc _).1 wr.heap.size 0 1 y rfl (by rw [HY.out]; simp <;> omega) (by omega) ?_)
            intro v4 w4 hr4 hg4
            have O4 := (HO.out.alloc _).app hr4 hg4
            rw [← HN2.out] at O4
            have HO4 := Lib.hid O4
            clear hr4 hg4 O4
            go_wp2_with fail
            exact ⟨⟨_, _, rfl, by omega, by go_num, HO4⟩, by simp [intOf] <;> omega⟩)
    · have hdb : (((s.size : Int) + 1 + (z : Int)) % 64 != 56) = true := by simp; omega
      have hzlt : z < zc s.size := by unfold zc at hz ⊢; omega
      have hnx : s.data.toList ++ [128] ++ List.replicate z 0 ++ [0] = s.data.toList ++ [128] ++ List.replicate (z + 1) 0 := by rw [List.replicate_succ']; simp
      obtain ⟨q, hq⟩ : ∃ q, s.data.toList ++ [128] ++ List.replicate z 0 = q := ⟨_, rfl⟩
      rw [hq] at HO hlen hnx
      have HLS := Lib.hid hlen
      have HNX := Lib.hid hnx
      clear hlen hnx hq
      go_wp2_with (at_builtin; refine wp_append_byte rfl _ _ rfl w.heap.size ?d1 _ q rfl ?d2 wr.heap.size 0 1 0 rfl ?d3 ?d4 ?_)
      case d1 => exact (HO.out.alloc _).2.2
      case d2 => exact (HO.out.alloc _).1
      case d3 => simp
      case d4 => rw [HLS.out]; omega
      intro v3 w3 hr3 hg3
      have O3 := (HO.out.alloc _).app hr3 hg3
      rw [HNX.out] at O3
      obtain ⟨A3, c3, hv3⟩ := slice_len O3
      have hl3 : (s.data.toList ++ [128] ++ List.replicate (z + 1) 0).length = s.size + 1 + (z + 1) := by simp; omega
      rw [hl3] at hv3
      subst hv3
      have HO3 := Lib.hid O3
      clear hr3 hg3 O3 hl3
      go_wp2_with fail
      exact ⟨⟨z + 1, _, rfl, by omega, HO3⟩, by simp; omega⟩
end Go.Proofs.YtlnfdpdancolmaaDoor
namespace Go.Proofs.YtlnfdpdancolmaaDoor
open Go.RowKit

/-- the padded message -/
def padB (s : ByteArray) : ByteArray := ⟨(padL s).toArray⟩
def pblk (s : ByteArray) (k : Nat) : ByteArray := (padB s).extract (64 * k) (64 * k + 64)
def foldP (s : ByteArray) : Nat → H8
  | 0 => ivS
  | k + 1 => compS (pblk s k) (foldP s k)
/-- how many blocks -/
def nblk (s : ByteArray) : Nat := s.size / 64 + if 55 < s.size % 64 then 2 else 1
theorem padL_len (s : ByteArray) : (padL s).length = 64 * nblk s := by
  unfold padL nblk
  simp only [List.length_append, List.length_replicate, lenU_len, size_toList, List.length_cons, List.length_nil]
  unfold zc
  split <;> omega
theorem padB_size (s : ByteArray) : (padB s).size = 64 * nblk s := by rw [← padL_len]; simp [padB, ByteArray.size]
theorem padB_list (s : ByteArray) : (padB s).data.toList = padL s := by simp [padB]
theorem pblk_get (s : ByteArray) {k j : Nat} (hk : k < nblk s) (hj : j < 64) : (pblk s k).data.toList[j]? = (padL s)[64 * k + j]? := by
  unfold pblk
  rw [extract_get (by rw [padB_size]; omega) (by omega), padB_list]
theorem pblk_len (s : ByteArray) {k : Nat} (hk : k < nblk s) : (pblk s k).data.toList.length = 64 := by
  unfold pblk
  rw [extract_len (by rw [padB_size]; omega)]; omega
theorem blk_ext {a b : ByteArray} (ha : a.data.toList.length = 64) (hb : b.data.toList.length = 64) (h : ∀ j, j < 64 → a.data.toList[j]? = b.data.toList[j]?) : a = b := by
  apply bytes_ext
  rw [ByteArray.toList_eq, ByteArray.toList_eq]
  refine List.ext_getElem? (fun j => ?_)
  rcases Nat.lt_or_ge j 64 with hj | hj
  · exact h j hj
  · rw [List.getElem?_eq_none (by omega), List.getElem?_eq_none (by omega)]
theorem pblk_lo (s : ByteArray) {k : Nat} (hk : k < s.size / 64) : pblk s k = s.extract (64 * k) (64 * k + 64) := by
  have hn : k < nblk s := by unfold nblk; omega
  refine blk_ext (pblk_len s hn) (by rw [extract_len (by omega)]; omega) (fun j hj => ?_)
  rw [pblk_get s hn hj, extract_get (by omega) (by omega)]
  unfold padL
  rw [List.append_assoc, List.append_assoc, List.getElem?_append_left (by rw [size_toList]; omega)]
theorem absorb_blocks (s : ByteArray) : ∀ (n j : Nat), n + j = s.size / 64 → absorb n (foldP s j) (s.extract (64 * j) s.size) = (foldP s (s.size / 64), s.extract (64 * (s.size / 64)) s.size)
  | 0, j, h => by
    rw [Nat.zero_add] at h
    rw [absorb, h]
  | n + 1, j, h => by
    have hz : (s.extract (64 * j) s.size).size = s.size - 64 * j := by rw [ByteArray.size_extract]; omega
    rw [absorb, if_pos (by omega), extract_extract' (by omega), hz, extract_extract' (by omega), Nat.add_zero, ← pblk_lo s (by omega)]
    have ih := absorb_blocks s n (j + 1) (by omega)
    rw [show 64 * j + 64 = 64 * (j + 1) by omega, show 64 * j + (s.size - 64 * j) = s.size by omega]
    exact ih
theorem pad_tail (s : ByteArray) (J sz : Nat) (hsz : sz = if 55 < s.size % 64 then 128 else 64) (hJ : J < sz) :
    (padL s)[64 * (s.size / 64) + J]? = some (UInt8.ofNat (tailF (s.extract (64 * (s.size / 64)) s.size) ((s.size : Int) * 8) sz 8 J).toNat) := by
  have hr : (s.extract (64 * (s.size / 64)) s.size).size = s.size % 64 := by rw [ByteArray.size_extract]; omega
  have hzc : s.size % 64 + 1 + zc s.size = sz - 8 := by unfold zc; split at hsz <;> omega
  have hs8 : 8 ≤ sz := by split at hsz <;> omega
  have hl1 := size_toList s
  unfold tailF tail0 padF
  rw [hr]
  unfold padL
  by_cases h1 : sz - 8 ≤ J
  · rw [if_pos ⟨h1, hJ⟩, List.getElem?_append_right (by simp; omega)]
    have hidx : 64 * (s.size / 64) + J - (s.data.toList ++ [128] ++ List.replicate (zc s.size) 0).length = J - (sz - 8) := by
      simp only [List.length_append, List.length_replicate, List.length_cons, List.length_nil, hl1]; omega
    rw [hidx]
    unfold lenU
    rw [List.getElem?_map, List.getElem?_range (by omega)]
    have he : 56 - 8 * (J - (sz - 8)) = 8 * (sz - 1 - J) := by omega
    simp only [Option.map_some, he]
    congr 2
    have h8 : ((s.size : Int) * 8) = ((8 * s.size : Nat) : Int) := by omega
    rw [h8]
    generalize 8 * s.size = L
    generalize 8 * (sz - 1 - J) = E
    have : ((L : Int) / 2 ^ E % 256) = ((L / 2 ^ E % 256 : Nat) : Int) := by rw [Int.natCast_emod, Int.natCast_ediv, Int.natCast_pow]; rfl
    rw [this, Int.toNat_natCast]
  · rw [if_neg (fun h => h1 h.1), List.getElem?_append_left (by simp; omega)]
    by_cases h2 : J = s.size % 64
    · rw [if_pos h2, List.getElem?_append_left (by simp; omega), List.getElem?_append_right (by rw [hl1]; omega), hl1, show 64 * (s.size / 64) + J - s.size = 0 by omega]
      rfl
    · rw [if_neg h2]
      by_cases h3 : J < s.size % 64
      · rw [if_pos h3, List.getElem?_append_left (by simp; omega), List.getElem?_append_left (by rw [hl1]; omega)]
        have hx := extract_get (s := s) (a := 64 * (s.size / 64)) (b := s.size) (k := J) (Nat.le_refl _) (by omega)
        unfold byt
        rw [List.getD_eq_getElem?_getD, hx, List.getElem?_eq_getElem (by omega)]
        simp
      · rw [if_neg h3, List.getElem?_append_right (by simp; omega), List.getElem?_replicate, if_pos (by simp; omega)]
        rfl
theorem pblk_tail (s : ByteArray) (n sz : Nat) (hsz : sz = if 55 < s.size % 64 then 128 else 64) (hn : 64 * n + 64 ≤ sz) : pblk s (s.size / 64 + n) = tailS (s.extract (64 * (s.size / 64)) s.size) ((s.size : Int) * 8) sz n := by
  have hk : s.size / 64 + n < nblk s := by unfold nblk; split at hsz <;> split <;> omega
  refine blk_ext (pblk_len s hk) (by rw [size_toList, tailS_size]) (fun j hj => ?_)
  rw [pblk_get s hk hj, show 64 * (s.size / 64 + n) + j = 64 * (s.size / 64) + (64 * n + j) by omega, pad_tail s (64 * n + j) sz hsz (by omega)]
  unfold tailS
  rw [strOfNums_data, List.map_map, List.getElem?_map, List.getElem?_range hj]
  rfl
/-- THE LAW -/
theorem foldP_sha (s : ByteArray) : foldP s (nblk s) = shaS s := by
  have hab := absorb_blocks s (s.size / 64) 0 (by omega)
  rw [Nat.mul_zero, extract_all] at hab
  have hr : (s.extract (64 * (s.size / 64)) s.size).size = s.size % 64 := by rw [ByteArray.size_extract]; omega
  unfold shaS
  rw [show absorb (s.size / 64) ivS s = absorb (s.size / 64) (foldP s 0) s from rfl, hab]
  simp only [hr]
  by_cases h : 55 < s.size % 64
  · rw [if_pos h, show nblk s = s.size / 64 + 1 + 1 by unfold nblk; rw [if_pos h], foldP, foldP]
    have h0 := pblk_tail s 0 128 (by rw [if_pos h]) (by omega)
    have h1 := pblk_tail s 1 128 (by rw [if_pos h]) (by omega)
    rw [Nat.add_zero] at h0
    rw [h0, h1]; rfl
  · rw [if_neg h, show nblk s = s.size / 64 + 1 by unfold nblk; rw [if_neg h], foldP]
    have h0 := pblk_tail s 0 64 (by rw [if_neg h]) (by omega)
    rw [Nat.add_zero] at h0
    rw [h0]; rfl
end Go.Proofs.YtlnfdpdancolmaaDoor
namespace Go.Proofs.YtlnfdpdancolmaaDoor
open Go.RowKit

theorem conv_bytes (s : ByteArray) : ∃ (cF : World → Nat) (fW : World → World), ∀ W : World, (convert 9 74 (.string s)).run Tryd.prog W = .ok (.slice (some ⟨W.heap.size, 0, none⟩) s.size (cF W)) (fW W) ∧ Below W.heap.size W (fW W) ∧ BytesAt (fW W) W.heap.size 0 s.size s ∧ W.heap.size < (fW W).heap.size := by
  refine ⟨fun W => grownCap W s.size 0 5, fun W => _, fun W => ⟨run_bytes_of_string (P := Tryd.prog) W 9 74 5 s Tryd.underlying9 Tryd.underlying74 Tryd.underlying5, ?_, ?_, ?_⟩⟩
  · exact (Below.refl _ _).drew.alloc (Nat.le_refl _) _
  · intro j hj
    rw [Nat.zero_add]
    have hh := heap_alloc_new W.drew (.cells (bytesRow s (grownCap W s.size 0 5)) 5 ((bytesRow s (grownCap W s.size 0 5)).size, (bytesRow s (grownCap W s.size 0 5)).size + 1))
    have := cell_of_row (W.drew.alloc (.cells (bytesRow s (grownCap W s.size 0 5)) 5 ((bytesRow s (grownCap W s.size 0 5)).size, (bytesRow s (grownCap W s.size 0 5)).size + 1))) W.heap.size j _ _ _ hh
    refine this.trans ?_
    unfold bytesRow byt
    have h1 : j < s.data.size := hj
    rw [Array.getElem?_append_left (by simpa using h1), Array.getElem?_map, Array.getElem?_eq_getElem h1, List.getD_eq_getElem?_getD, Array.getElem?_toList, Array.getElem?_eq_getElem h1]; rfl
  · simp
theorem OwnB.form {B : Nat} {w0 w : World} {v : Value} {bs : List UInt8} (h : OwnB B w0 w v bs) (hn : 0 < bs.length) : ∃ g c, v = .slice (some ⟨g, 0, none⟩) bs.length c ∧ B ≤ g ∧ bs.length ≤ c ∧ c ≤ 9223372036854775807 ∧ g < w.heap.size ∧ (∀ j x, bs[j]? = some x → w.cell? ⟨g, j, none⟩ = some (.int .u8 (x.toNat : Int))) := by
  rcases h.1.2 with ⟨_, h0⟩ | ⟨g, cap, cur, hv, hB, hcur, hnc, hcm, hsz, htk⟩
  · omega
  · refine ⟨g, cap, hv, hB, hnc, hcm, (Array.getElem?_eq_some_iff.1 hcur).1, fun j x hx => ?_⟩
    have := h.1.cells (g := g) (by rw [hv]; rfl) j (.int .u8 (x.toNat : Int)) (by simp [Lib.byteCells, hx])
    rw [Addr.add_lit, Nat.zero_add] at this
    exact this
theorem pblk_at {w : World} {g : Nat} {s : ByteArray} (h : ∀ j x, (padL s)[j]? = some x → w.cell? ⟨g, j, none⟩ = some (.int .u8 (x.toNat : Int))) {k : Nat} (hk : k < nblk s) : BytesAt w g (64 * k) 64 (pblk s k) := fun j hj => by
  have hl := padL_len s
  have h1 : (padL s)[64 * k + j]? = some ((padL s)[64 * k + j]'(by omega)) := List.getElem?_eq_getElem (by omega)
  rw [h _ _ h1]
  unfold byt
  rw [List.getD_eq_getElem?_getD, pblk_get s hk hj, h1]; rfl
theorem nblk_pos (s : ByteArray) : 0 < nblk s := by unfold nblk; split <;> omega
theorem nblk_le (s : ByteArray) : 64 * nblk s ≤ s.size + 128 := by unfold nblk; split <;> omega
set_option maxHeartbeats 4000000 in
set_option maxRecDepth 100000 in
theorem rsha_any (s : ByteArray) (hs : s.size ≤ 1073741824) (w : World) : Calls Tryd.prog 64 #[.string s] w fun e w' => e = .returned (.agg (digRow (shaS s))) ∧ Below w.heap.size w w' := by
  obtain ⟨cF, fW, hcv⟩ := conv_bytes s
  have hrun := fun W => (hcv W).1
  have HCV := Lib.hid (fun W => (hcv W).2)
  have hn0 := nblk_pos s
  have hn1 := nblk_le s
  clear hcv
  go_enter Tryd.func64, Tryd.ntmps64
  go_wp2_with fail
  generalize hW0 : World.alloc w _ = W0
  have hk0 : Blk W0 w.heap.size 86 32 := by rw [← hW0]; exact Blk.new _ _ _
  have hz0 : W0.heap.size = w.heap.size + 1 := by rw [← hW0]; simp
  have hb0 : Below w.heap.size w W0 := by rw [← hW0]; exact (Below.refl _ _).alloc (Nat.le_refl _) _
  obtain ⟨hb1, hy1, hg1⟩ := HCV.out W0
  rw [hz0] at hy1 hg1
  generalize hW1 : fW W0 = W1 at *
  generalize cF W0 = cc at *
  have hP := padded_any s (some ⟨w.heap.size + 1, 0, none⟩) cc W1 hs (fun _ => ⟨w.heap.size + 1, 0, rfl, hg1, hy1⟩)
  have HP := Lib.hid hP
  have K1 := Lib.hid (hk0.below hb1 (by rw [hz0]; omega))
  have B1 := Lib.hid (hb0.trans (hb1.mono (by rw [hz0]; omega)))
  have hw1 : w.heap.size + 1 < W1.heap.size := hg1
  clear hW0 hW1 hk0 hz0 hb0 hb1 hy1 hg1 hP hrun HCV
  (with_reducible refine HP.out.mono ?_)
  rintro e W2 ⟨vp, rfl, hO⟩
  obtain ⟨gp, cp, hvp, hBp, hlp, hcp, hgp, hcell⟩ := hO.form (by rw [padL_len]; omega)
  subst hvp
  rw [padL_len] at hlp ⊢
  have K2 := Lib.hid (K1.out.below hO.2.1 K1.out.lt)
  have B2 := Lib.hid (B1.out.trans (hO.2.1.mono B1.out.size))
  have HCE := Lib.hid hcell
  have hw2 : w.heap.size + 1 < W2.heap.size := Nat.lt_of_lt_of_le hw1 hO.2.2
  clear hO hcell HP K1 B1
  go_wp2_with fail
  (with_reducible refine (firsts_any _).mono ?_)
  rintro e W3 ⟨rfl, rfl⟩
  obtain ⟨W3, hW3⟩ : ∃ W3, W2.alloc (.cells ivS.row 105) = W3 := ⟨_, rfl⟩
  have hst : StAt W3 W2.heap.size ivS := by rw [← hW3]; exact st_new W2 ivS
  have hb3 : Below W2.heap.size W2 W3 := by rw [← hW3]; exact (Below.refl _ _).alloc (Nat.le_refl _) _
  rw [hW3]
  have HST := Lib.hid hst
  have HB3 := Lib.hid hb3
  clear hW3 hst hb3
  go_wp2_with fail
  go_loopw [4, 5] (fun s4 s5 wr => ∃ (k g c : Nat), k ≤ nblk s ∧ s5 = .int .i64 (64 * (k : Int)) ∧ s4 = .slice (some ⟨g, 0, none⟩) 8 c ∧ 8 ≤ c ∧ c ≤ 9223372036854775807 ∧ w.heap.size < g ∧ Hid (StAt wr g (foldP s k)) ∧ Hid (Below W2.heap.size W2 wr)) (fun _ s5 _ => (64 * nblk s - intOf s5).toNat)
  case atStart => exact ⟨0, W2.heap.size, 8, by omega, rfl, rfl, by omega, by omega, by omega, HST, HB3⟩
  case round =>
    clear HST HB3
    obtain ⟨k, g, c, hk, rfl, rfl, hc8, hcm, hgw, HST, HB⟩ := hrel
    by_cases hlt : k < nblk s
    · have hbl := pblk_at HCE.out hlt
      have HC := Lib.hid (rblock_any (foldP s k) (pblk s k) g c gp (64 * k) (cp - 64 * k) wr (Nat.lt_of_lt_of_le hgp HB.out.size) (fun j hj => (HB.out.cell (p := ⟨gp, 64 * k + j, none⟩) hgp).trans (hbl j hj)) HST.out.2.2 HST.out.1)
      have j1 : 64 * (k : Int) < 64 * (nblk s : Int) := by omega
      have j2 : (0 : Int) ≤ 64 * (k : Int) := by omega
      have j3 : 64 * (k : Int) ≤ 64 * (k : Int) + 64 := by omega
      have j4 : 64 * (k : Int) + 64 ≤ cp := by omega
      have hws := HB.out.size
      clear hbl
      go_wp2_with fail
      (with_reducible refine HC.out.mono ?_)
      rintro e w4 ⟨g4, c4, rfl, hc48, hc4m, hg4, hs4, hb4⟩
      have HS4 := Lib.hid hs4
      have HB4 := Lib.hid (HB.out.trans (hb4.mono hws))
      clear hs4 hb4 HC
      go_wp2_with fail
      exact ⟨⟨k + 1, g4, c4, by omega, by go_num, rfl, hc48, hc4m, by omega, HS4, HB4⟩, by simp [intOf]; omega⟩
    · obtain rfl : k = nblk s := by omega
      have HFS := Lib.hid (foldP_sha s)
      generalize foldP s (nblk s) = v at HST HFS
      have K4 := Lib.hid (K2.out.below HB.out K2.out.lt)
      have B4 := Lib.hid (B2.out.trans (HB.out.mono B2.out.size))
      have hws := HB.out.size
      have hex : ¬ 64 * (nblk s : Int) < 64 * (nblk s : Int) := by omega
      obtain ⟨gd, hgd⟩ : ∃ gd, wr.heap.size = gd := ⟨_, rfl⟩
      have hgd2 : w.heap.size < gd := by omega
      have HGD := Lib.hid hgd
      clear HCE HB
      go_wp2_with fail
      go_loopw [7] (fun s7 wq => ∃ (i : Nat), i ≤ 32 ∧ s7 = .int .i64 i ∧ Hid (DI w wq gd i v) ∧ Hid (Row32 wq g 8 v.get)) (fun s7 _ => (32 - intOf s7).toNat)
      case atStart =>
        refine ⟨0, by omega, rfl, Lib.hid ?_, Lib.hid ?_⟩
        · rw [← HGD.out]
          refine ⟨fun j hj => absurd hj (by omega), Blk.new _ _ _, K4.out.below ((Below.refl _ _).alloc (Nat.le_refl _) _) K4.out.lt, B4.out.alloc B4.out.size _, by omega⟩
        · exact HST.out.1.below ((Below.refl _ _).alloc (Nat.le_refl _) _) HST.out.2.2
      case round =>
        have hgne : g ≠ gd := by have := HST.out.2.2; omega
        clear HST
        obtain ⟨i, hi, rfl, HD, HR⟩ := hrel
        by_cases h9 : i = 32
        · subst h9
          have HE : Hid (Value.agg (digRow v) = .agg (digRow (shaS s))) := Lib.hid (by rw [HFS.out])
          obtain ⟨cur, hcur, hcs⟩ := HD.out.2.1
          obtain ⟨cur0, hcur0, hcs0⟩ := HD.out.2.2.1
          have hce : cur = digRow v := row8_eq hcur hcs HD.out.1
          have hone : cur.all (·.oneCell') = true := by
            rw [hce]; unfold digRow; simp [Value.oneCell']
          have HB2 := Lib.hid (below_setRow HD.out.2.2.2.1 w.heap.size (Nat.le_refl _) cur)
          have HC2 := Lib.hid (heap_setRow hcur0 cur)
          have HCE := Lib.hid (hce.symm ▸ HE.out : Value.agg cur = .agg (digRow (shaS s)))
          have h86 : (Tryd.prog.info? 86).map (·.size) = some cur.size := by rw [hcs]; kernel_rfl
          have HC1 := Lib.hid hcur
          have HC0 := Lib.hid hcur0
          have H86 := Lib.hid h86
          have HO := Lib.hid hone
          have HSS := Lib.hid (hcs0.trans hcs.symm)
          clear hce hcur hcs hcur0 hcs0 h86 hone
          go_wp2_with (first | (refine wpList_load_row rfl _ _ rfl gd rfl _ cur (0, 0) _ HC1.out Tryd.underlying86 rfl H86.out ?_) | (refine wpList_store_row rfl _ _ _ rfl w.heap.size cur rfl rfl _ cur0 HC0.out H86.out HSS.out HO.out ?_))
          exact bodyPost_ret (v := .agg cur) (results_cell_row (by rfl) _ _ w.heap.size _ cur (0, 0) _ rfl HC2.out Tryd.underlying86 rfl H86.out) rfl ⟨congrArg _ HCE.out, HB2.out⟩
        · obtain ⟨u, hu⟩ := Option.isSome_iff_exists.1 (HD.out.2.1.some (j := i) (by omega))
          have fz := HD.out.2.1.frozen i
          have cx := HR.out (i / 4) (by omega)
          have hi32 : (i : Int) < 32 := by omega
          have hq0 : (0 : Int) ≤ (i : Int) / 4 := by omega
          have hq1 : (i : Int) / 4 < 8 := by omega
          have hq2 : ((i : Int) / 4).toNat = i / 4 := by omega
          have HX : Hid (digF v i = v.get (i / 4) / 2 ^ (24 - 8 * (i % 4)) % 256) := Lib.hid rfl
          obtain ⟨X, hX⟩ : ∃ X, v.get (i / 4) = X := ⟨_, rfl⟩
          rw [hX] at cx HX
          have HD2 := Lib.hid (HD.out.put (by omega) (x := X / 2 ^ (24 - 8 * (i % 4)) % 256) HX.out)
          have HR2 : Hid (Row32 (wr.setCell ⟨gd, i, none⟩ (.int .u8 (X / 2 ^ (24 - 8 * (i % 4)) % 256))) g 8 v.get) := Lib.hid (HR.out.far ⟨gd, i, none⟩ (by simp; omega) _)
          clear hX
          go_wp2_with fail
          exact ⟨⟨i + 1, by omega, by go_num, HD2, HR2⟩, by simp [intOf]; omega⟩
end Go.Proofs.YtlnfdpdancolmaaDoor
