/- A varint read byte by byte from its last digit: plain laws for ref02.Reader.Num. Conditions: those in each statement. The methods of ref02.Reader but Num. Conditions: those in each statement. ref02.Reader.Num: it comes to what code.Reader.Num comes to. Conditions: those in each statement. -/
import Derived.Test.YtlbmfgiepcemdaaGreatYRdrNRdrT
namespace Go.Proofs.YtlbmfgiepcemdaaGreat
open Go.RowKit

/-- the number whose digits, the lowest first, are the bytes' low seven bits -/
def valL : List UInt8 → Nat
  | [] => 0
  | c :: t => c.toNat % 128 + 128 * valL t
theorem numGo_val : ∀ (at' : Nat) (l : List UInt8) (i n : Nat), at' < l.length → (∀ j, j < at' → 128 ≤ (l.getD j 0).toNat) → (l.getD at' 0).toNat < 128 → i + at' ≤ 8 → ((l.getD at' 0).toNat ≠ 0 ∨ i + at' = 0) →
    numGo i n l = some (n + 128 ^ i * valL (l.take (at' + 1)), i + at' + 1)
  | _, [], _, _, h, _, _, _, _ => absurd h (by simp)
  | 0, c :: t, i, n, _, _, h1, h2, h3 => by
    have h1' : c.toNat < 128 := h1
    have h3' : c.toNat ≠ 0 ∨ i + 0 = 0 := h3
    rw [numGo, if_neg (by omega), if_neg (by omega), if_neg (by omega)]
    have e : valL (List.take (0 + 1) (c :: t)) = c.toNat % 128 := by simp [valL]
    rw [e, Nat.mul_comm]
  | at' + 1, c :: t, i, n, h, h0, h1, h2, h3 => by
    have hc : 128 ≤ c.toNat := h0 0 (by omega)
    have hr := numGo_val at' t (i + 1) (n + c.toNat % 128 * 128 ^ i) (by rw [List.length_cons] at h; omega) (fun j hj => by have := h0 (j + 1) (by omega); simpa using this) (by simpa using h1) (by omega) (by
      rcases h3 with h3 | h3
      · exact .inl (by simpa using h3)
      · omega)
    rw [numGo, if_neg (by omega), if_pos hc, hr]
    have e : valL (List.take (at' + 1 + 1) (c :: t)) = c.toNat % 128 + 128 * valL (t.take (at' + 1)) := by rw [List.take_succ_cons]; rfl
    rw [e, Nat.pow_succ, Nat.mul_add, Nat.mul_assoc, Nat.mul_comm (c.toNat % 128)]
    simp only [Option.some.injEq, Prod.mk.injEq]
    constructor <;> omega
theorem numGo_none : ∀ (at' : Nat) (l : List UInt8) (i n : Nat), (∀ j, j < at' → 128 ≤ (l.getD j 0).toNat) → at' ≤ l.length → (at' = l.length ∨ 8 < i + at' ∨ (l.getD at' 0).toNat = 0 ∧ 0 < i + at') → numGo i n l = none
  | _, [], _, _, _, _, _ => by rw [numGo]
  | 0, c :: t, i, n, _, _, h => by
    rw [numGo]
    by_cases h9 : 9 ≤ i
    · rw [if_pos h9]
    · rcases h with h | h | ⟨h, h'⟩
      · simp at h
      · omega
      · have hz : c.toNat = 0 := h
        rw [if_neg h9, if_neg (by omega), if_pos ⟨hz, by omega⟩]
  | at' + 1, c :: t, i, n, h0, hl, h => by
    have hc : 128 ≤ c.toNat := h0 0 (by omega)
    rw [numGo]
    by_cases h9 : 9 ≤ i
    · rw [if_pos h9]
    · rw [if_neg h9, if_pos hc]
      refine numGo_none at' t (i + 1) _ (fun j hj => by have := h0 (j + 1) (by omega); simpa using this) (by rw [List.length_cons] at hl; omega) ?_
      rcases h with h | h | ⟨h, h'⟩
      · left; rw [List.length_cons] at h; omega
      · right; left; omega
      · right; right; exact ⟨by simpa using h, by omega⟩
theorem valL_drop (l : List UInt8) (i : Nat) (hi : i < l.length) : valL (l.drop i) = (l.getD i 0).toNat % 128 + 128 * valL (l.drop (i + 1)) := by
  rw [List.drop_eq_getElem_cons hi, valL, List.getD_eq_getElem?_getD, List.getElem?_eq_getElem hi]; rfl
theorem valL_lt : ∀ l : List UInt8, valL l < 128 ^ l.length
  | [] => by simp [valL]
  | c :: t => by
    have := valL_lt t
    rw [valL, List.length_cons, Nat.pow_succ]
    have := Nat.mod_lt c.toNat (show 0 < 128 by omega)
    omega
theorem valL_le (l : List UInt8) (h : l.length ≤ 9) : valL l ≤ 9223372036854775807 := by
  have h1 := valL_lt l
  have h2 : (128 : Nat) ^ l.length ≤ 128 ^ 9 := Nat.pow_le_pow_right (by omega) h
  have h3 : (128 : Nat) ^ 9 = 9223372036854775808 := rfl
  omega
end Go.Proofs.YtlbmfgiepcemdaaGreat
namespace Go.Proofs.YtlbmfgiepcemdaaGreat
open Go.RowKit

/-- block b is ref02's reader: its rest and whether it has failed -/
def R2At (w : World) (b : Nat) (r : RS) : Prop := w.heap[b]? = some (.cells #[.string r.s, .bool r.f] 105 (0, 0))
section
variable {w w1 : World} {b : Nat} {r : RS}
theorem R2At.lt (h : R2At w b r) : b < w.heap.size := (Array.getElem?_eq_some_iff.1 h).1
theorem R2At.c0 (h : R2At w b r) : w.cell? ⟨b, 0, none⟩ = some (.string r.s) := by rw [Lib.cell_of_heap h]; rfl
theorem R2At.c1 (h : R2At w b r) : w.cell? ⟨b, 1, none⟩ = some (.bool r.f) := by rw [Lib.cell_of_heap h]; rfl
theorem R2At.fz (h : R2At w b r) (j : Nat) : w.frozen? ⟨b, j, none⟩ = false := by simp [World.frozen?, show w.heap[b]? = _ from h]
theorem R2At.set0 (h : R2At w b r) (s : ByteArray) : R2At (w.setCell ⟨b, 0, none⟩ (.string s)) b ⟨s, r.f⟩ := by
  unfold R2At at h ⊢
  simp [World.setCell, Array.getElem?_modify, h]
theorem R2At.set1 (h : R2At w b r) (f : Bool) : R2At (w.setCell ⟨b, 1, none⟩ (.bool f)) b ⟨r.s, f⟩ := by
  unfold R2At at h ⊢
  simp [World.setCell, Array.getElem?_modify, h]
theorem R2At.keep {M : Nat → Prop} (h : R2At w b r) (hc : Chg M w w1) (hb : ¬ M b) : R2At w1 b r := (hc.block b h.lt hb).trans h
theorem R2At.below (h : R2At w b r) (hc : Below w.heap.size w w1) : R2At w1 b r := (hc.block b h.lt).trans h
end
theorem empty_size (s : ByteArray) : ((s.size : Int) == 0) = s.toList.isEmpty := by
  rw [ByteArray.toList_eq]
  have h0 := size_toList s
  cases h : s.data.toList with
  | nil =>
    have h1 : s.size = 0 := by rw [← h0, h]; rfl
    rw [h1]; rfl
  | cons a t =>
    have h1 : (s.size : Int) ≠ 0 := by rw [← h0, h, List.length_cons]; omega
    rw [beq_eq_false_iff_ne.2 h1]; rfl
def R2Post (b : Nat) (r : RS) (v : Value) (w : World) (e : Ending) (w' : World) : Prop := e = .returned v ∧ Chg (fun k => k = b) w w' ∧ R2At w' b r
theorem r2open_any (s : ByteArray) (w : World) : Calls Tryz.prog 35 #[.string s] w fun e w' => e = .returned (.pointer (some ⟨w.heap.size, 0, none⟩)) ∧ Below w.heap.size w w' ∧ R2At w' w.heap.size ⟨s, false⟩ := by
  go_enter Tryz.func35, Tryz.ntmps35
  go_wp2_with fail
  go_ret
  exact ⟨rfl, (Below.refl _ _).alloc (Nat.le_refl _) _, heap_alloc_new w _⟩

theorem r2fail_any (b : Nat) (r : RS) (w : World) (h : R2At w b r) : Calls Tryz.prog 65 #[.pointer (some ⟨b, 0, none⟩)] w (R2Post b RS.bad (.tuple #[]) w) := by
  have c0 := h.c0
  have c1 := h.c1
  have f0 := h.fz
  have H := Lib.hid h
  clear h
  go_enter Tryz.func65, Tryz.ntmps65
  go_wp2_with fail
  exact bodyPost_ret (v := .tuple #[]) (by simp [results, Tryz.results65, go_sem]) rfl ⟨rfl, ((Chg.refl (fun k => k = b) w).setCell (p := ⟨b, 0, none⟩) (.inl rfl) _).setCell (p := ⟨b, 1, none⟩) (.inl rfl) _, (H.out.set0 ⟨#[]⟩).set1 true⟩

theorem r2left_any (b : Nat) (r : RS) (w : World) (h : R2At w b r) : Calls Tryz.prog 37 #[.pointer (some ⟨b, 0, none⟩)] w fun e w' => e = .returned (.int .i64 r.s.size) ∧ w = w' := by
  have c0 := h.c0
  clear h
  go_enter Tryz.func37, Tryz.ntmps37
  go_wp2_with fail
  go_ret
  exact ⟨rfl, rfl⟩
theorem r2done_any (b : Nat) (r : RS) (w : World) (h : R2At w b r) : Calls Tryz.prog 39 #[.pointer (some ⟨b, 0, none⟩)] w fun e w' => e = .returned (.bool (doneB r)) ∧ w = w' := by
  have c0 := h.c0
  have c1 := h.c1
  clear h
  obtain ⟨s, f⟩ := r
  unfold doneB
  cases f with
  | true =>
    go_enter Tryz.func39, Tryz.ntmps39
    go_wp2_with fail
    go_ret
    exact ⟨rfl, rfl⟩
  | false =>
    go_enter Tryz.func39, Tryz.ntmps39
    go_wp2_with fail
    go_ret
    exact ⟨by simpa using empty_size s, rfl⟩
theorem r2take_any (b : Nat) (r : RS) (n : Int) (w : World) (h : R2At w b r) (hs : r.s.size ≤ 4294967296) : Calls Tryz.prog 85 #[.pointer (some ⟨b, 0, none⟩), .int .i64 n] w (R2Post b (takeR r n) (.string (takeS r n)) w) := by
  have c0 := h.c0
  have c1 := h.c1
  have f0 := h.fz
  have HF := Lib.hid (r2fail_any b r w h)
  have H := Lib.hid h
  clear h
  obtain ⟨s, f⟩ := r
  cases f with
  | true =>
    have HT : Hid (takeR ⟨s, true⟩ n = RS.bad ∧ takeS ⟨s, true⟩ n = ⟨#[]⟩) := Lib.hid (by unfold takeR takeS; simp)
    go_enter Tryz.func85, Tryz.ntmps85
    go_wp2_with fail
    (with_reducible refine HF.out.mono ?_)
    rintro e w1 ⟨rfl, hc, hr⟩
    have HC := Lib.hid hc
    have HR := Lib.hid hr
    clear hc hr
    go_wp2_with fail
    go_ret
    rw [HT.out.1, HT.out.2]
    exact ⟨rfl, HC.out, HR.out⟩
  | false =>
    by_cases h0 : n < 0
    · have HT : Hid (takeR ⟨s, false⟩ n = RS.bad ∧ takeS ⟨s, false⟩ n = ⟨#[]⟩) := Lib.hid (by unfold takeR takeS; simp [h0])
      go_enter Tryz.func85, Tryz.ntmps85
      go_wp2_with fail
      (with_reducible refine HF.out.mono ?_)
      rintro e w1 ⟨rfl, hc, hr⟩
      have HC := Lib.hid hc
      have HR := Lib.hid hr
      clear hc hr
      go_wp2_with fail
      go_ret
      rw [HT.out.1, HT.out.2]
      exact ⟨rfl, HC.out, HR.out⟩
    · by_cases h1 : (s.size : Int) < n
      · have HT : Hid (takeR ⟨s, false⟩ n = RS.bad ∧ takeS ⟨s, false⟩ n = ⟨#[]⟩) := Lib.hid (by unfold takeR takeS; simp [h0, h1])
        have hd : decide ((s.size : Int) < n) = true := by simpa using h1
        go_enter Tryz.func85, Tryz.ntmps85
        go_wp2_with fail
        (with_reducible refine HF.out.mono ?_)
        rintro e w1 ⟨rfl, hc, hr⟩
        have HC := Lib.hid hc
        have HR := Lib.hid hr
        clear hc hr
        go_wp2_with fail
        go_ret
        rw [HT.out.1, HT.out.2]
        exact ⟨rfl, HC.out, HR.out⟩
      · obtain ⟨k, rfl⟩ : ∃ k : Nat, n = (k : Int) := ⟨n.toNat, by omega⟩
        have hk : k ≤ s.size := by omega
        have HT : Hid (takeR ⟨s, false⟩ (k : Int) = ⟨s.extract k s.size, false⟩ ∧ takeS ⟨s, false⟩ (k : Int) = s.extract 0 k) := Lib.hid (by unfold takeR takeS; simp [h0, h1])
        have hd : decide ((s.size : Int) < (k : Int)) = false := by simpa using h1
        clear HF
        go_enter Tryz.func85, Tryz.ntmps85
        go_wp2_with fail
        go_ret
        rw [HT.out.1, HT.out.2]
        exact ⟨rfl, (Chg.refl (fun k => k = b) w).setCell (p := ⟨b, 0, none⟩) (.inl rfl) _, H.out.set0 _⟩
end Go.Proofs.YtlbmfgiepcemdaaGreat
namespace Go.Proofs.YtlbmfgiepcemdaaGreat
open Go.RowKit

theorem byteAt_nat (s : ByteArray) (i : Nat) : byteAt s i = (((s.data.toList.getD i 0).toNat : Nat) : Int) := rfl
set_option maxHeartbeats 2000000 in
set_option maxRecDepth 20000 in
theorem r2num_any (b : Nat) (r : RS) (w : World) (h : R2At w b r) (hs : r.s.size ≤ 4294967296) : Calls Tryz.prog 36 #[.pointer (some ⟨b, 0, none⟩)] w (R2Post b (numR r) (.int .i64 (numV r)) w) := by
  have c0 := h.c0
  have f0 := h.fz
  have HF := Lib.hid (r2fail_any b r w h)
  have H := Lib.hid h
  clear h
  obtain ⟨s, f⟩ := r
  obtain ⟨R, hR⟩ : ∃ R, numR ⟨s, f⟩ = R := ⟨_, rfl⟩
  obtain ⟨V, hV⟩ : ∃ V, numV ⟨s, f⟩ = V := ⟨_, rfl⟩
  have HY : Hid (∀ v k, numGo 0 0 s.data.toList = some (v, k) → R = ⟨s.extract k s.size, f⟩ ∧ V = v) := Lib.hid (fun v k h => by
    rw [← hR, ← hV]; unfold numR numV numO; rw [h]; exact ⟨rfl, rfl⟩)
  have HN : Hid (numGo 0 0 s.data.toList = none → R = RS.bad ∧ V = 0) := Lib.hid (fun h => by
    rw [← hR, ← hV]; unfold numR numV numO; rw [h]; exact ⟨rfl, rfl⟩)
  rw [hR, hV]
  clear hR hV
  go_enter Tryz.func36, Tryz.ntmps36
  go_wp2_with fail
  go_loopw [3] (fun s3 wr => ∃ (i : Nat), i ≤ s.size ∧ s3 = .int .i64 i ∧ wr = w ∧ Hid (∀ j, j < i → 128 ≤ (s.data.toList.getD j 0).toNat)) (fun s3 _ => s.size - (intOf s3).toNat)
  case atStart => exact ⟨0, by omega, rfl, rfl, Lib.hid (fun j hj => by omega)⟩
  case round =>
    obtain ⟨i, his, rfl, rfl, HG⟩ := hrel
    by_cases hlt : i < s.size
    · have hix := index_str s i hlt wr
      have hr := byteAt_range s i
      have HBN := Lib.hid (byteAt_nat s i)
      obtain ⟨x, hx⟩ : ∃ x, byteAt s i = x := ⟨_, rfl⟩
      rw [hx] at hix hr HBN
      obtain ⟨hx0, hx1⟩ := hr
      clear hx
      by_cases h128 : (128 : Int) ≤ x
      · have HG2 : Hid (∀ j, j < i + 1 → 128 ≤ (s.data.toList.getD j 0).toNat) := Lib.hid (fun j hj => by
          by_cases h : j < i
          · exact HG.out j h
          · obtain rfl : j = i := by omega
            have := HBN.out; omega)
        have hd1 : decide ((128 : Int) ≤ x) = true := by simpa using h128
        have hd2 : ¬ x < 128 := by omega
        go_wp2_with fail
        exact ⟨⟨i + 1, by omega, by go_num, by trivial, HG2⟩, by simp [intOf]; omega⟩
      · have hd1 : decide ((128 : Int) ≤ x) = false := by simpa using h128
        have hd2 : x < 128 := by omega
        by_cases h8 : (8 : Int) < i
        · have HRV := Lib.hid (HN.out (numGo_none i _ 0 0 HG.out (by rw [size_toList]; exact his) (.inr (.inl (by omega)))))
          go_wp2_with fail
          (with_reducible refine HF.out.mono ?_)
          rintro e w1 ⟨rfl, hc1, hr1⟩
          have HC := Lib.hid hc1
          have HR := Lib.hid hr1
          clear hc1 hr1
          go_wp2_with fail
          go_ret
          rw [HRV.out.1, HRV.out.2]
          exact ⟨rfl, HC.out, HR.out⟩
        · by_cases hi0 : (0 : Int) < i
          · by_cases hz : x = 0
            · have HRV := Lib.hid (HN.out (numGo_none i _ 0 0 HG.out (by rw [size_toList]; exact his) (.inr (.inr ⟨by have := HBN.out; omega, by omega⟩))))
              have hzb : (x == 0) = true := by simpa using hz
              clear hz
              go_wp2_with fail
              (with_reducible refine HF.out.mono ?_)
              rintro e w1 ⟨rfl, hc1, hr1⟩
              have HC := Lib.hid hc1
              have HR := Lib.hid hr1
              clear hc1 hr1
              go_wp2_with fail
              go_ret
              rw [HRV.out.1, HRV.out.2]
              exact ⟨rfl, HC.out, HR.out⟩
            · have hzb : (x == 0) = false := by simpa using hz
              have HLE : Hid ((s.data.toList.take (i + 1)).drop (i + 1) = []) := Lib.hid (List.drop_eq_nil_of_le (by rw [List.length_take]; omega))
              have HVAL := Lib.hid (numGo_val i s.data.toList 0 0 (by rw [size_toList]; exact hlt) HG.out (by have := HBN.out; omega) (by omega) (by have := HBN.out; omega))
              clear hz
              clear HF
              obtain ⟨wo, hwo⟩ : ∃ wo, wo = wr := ⟨_, rfl⟩
              subst hwo
              go_wp2_with fail
              go_loopw [4, 5] (fun s4 s5 wr => ∃ (k : Nat) (z : Int), s5 = .int .i64 z ∧ Hid (z = (k : Int) - 1) ∧ -1 ≤ z ∧ z ≤ i ∧ s4 = .int .i64 (valL ((s.data.toList.take (i + 1)).drop k) : Nat) ∧ wr = wo) (fun _ s5 _ => (intOf s5 + 1).toNat)
              case atStart => exact ⟨i + 1, (i : Int), rfl, Lib.hid (by omega), by omega, by omega, by rw [HLE.out]; rfl, rfl⟩
              case round =>
                obtain ⟨k, z, rfl, HZ, hz0, hz1, rfl, rfl⟩ := hrel
                by_cases hk : 0 ≤ z
                · obtain ⟨q, rfl⟩ : ∃ q : Nat, z = q := ⟨z.toNat, by omega⟩
                  obtain rfl : k = q + 1 := by have := HZ.out; omega
                  have hqs : q < s.size := by omega
                  have hixq := index_str s q hqs wr
                  have hrq := byteAt_range s q
                  have hu := u8_low7 (s.data.toList.getD q 0).toNat (by have := (s.data.toList.getD q 0).toNat_lt; omega)
                  rw [← byteAt_nat] at hu
                  have hvd := valL_drop (s.data.toList.take (i + 1)) q (by rw [List.length_take, size_toList]; omega)
                  have hge : (s.data.toList.take (i + 1)).getD q 0 = s.data.toList.getD q 0 := by rw [List.getD_eq_getElem?_getD, List.getD_eq_getElem?_getD, List.getElem?_take, if_pos (by omega)]
                  rw [hge] at hvd
                  have hvl := valL_le ((s.data.toList.take (i + 1)).drop q) (by rw [List.length_drop, List.length_take, size_toList]; omega)
                  obtain ⟨d, hd⟩ : ∃ d, (s.data.toList.getD q 0).toNat % 128 = d := ⟨_, rfl⟩
                  rw [hd] at hu hvd
                  have hd7 : d ≤ 127 := by omega
                  obtain ⟨n, hn⟩ : ∃ n, valL ((s.data.toList.take (i + 1)).drop (q + 1)) = n := ⟨_, rfl⟩
                  rw [hn] at hvd ⊢
                  obtain ⟨m, hm⟩ : ∃ m, valL ((s.data.toList.take (i + 1)).drop q) = m := ⟨_, rfl⟩
                  rw [hm] at hvd hvl
                  have HM := Lib.hid hm
                  have HVD := Lib.hid hvd
                  have hb1 : (n : Int) * 128 + d ≤ 9223372036854775807 := by omega
                  have hb2 : (n : Int) * 128 ≤ 9223372036854775807 := by omega
                  have h0w : wrap64 (d : Int) = d := IntWalk.wrap64_in _ ⟨by omega, by omega⟩
                  obtain ⟨y, hy⟩ : ∃ y, byteAt s q = y := ⟨_, rfl⟩
                  rw [hy] at hixq hrq hu
                  obtain ⟨hy0, hy1⟩ := hrq
                  clear hvd hm hn hd hge hvl hy
                  go_wp2_with fail
                  exact ⟨⟨q, (q : Int) - 1, by go_num, Lib.hid rfl, by omega, by omega, by rw [HM.out, HVD.out]; exact congrArg _ (by omega), by trivial⟩, by simp [intOf]⟩
                · obtain rfl : k = 0 := by have := HZ.out; omega
                  have hrv := HY.out _ _ HVAL.out
                  have HRV : Hid (R = ⟨s.extract (i + 1) s.size, f⟩ ∧ V = valL ((s.data.toList.take (i + 1)).drop 0)) := Lib.hid ⟨by rw [hrv.1]; simp, by rw [hrv.2]; simp⟩
                  clear hrv
                  generalize valL ((s.data.toList.take (i + 1)).drop 0) = v at *
                  go_wp2_with fail
                  go_ret
                  rw [HRV.out.1, HRV.out.2]
                  exact ⟨rfl, (Chg.refl (fun k => k = b) wr).setCell (p := ⟨b, 0, none⟩) (.inl rfl) _, H.out.set0 _⟩
          · have hi00 : i = 0 := by omega
            have HLE : Hid ((s.data.toList.take (i + 1)).drop (i + 1) = []) := Lib.hid (List.drop_eq_nil_of_le (by rw [List.length_take]; omega))
            have HVAL := Lib.hid (numGo_val i s.data.toList 0 0 (by rw [size_toList]; exact hlt) HG.out (by have := HBN.out; omega) (by omega) (by have := HBN.out; omega))
            clear hi00
            clear HF
            obtain ⟨wo, hwo⟩ : ∃ wo, wo = wr := ⟨_, rfl⟩
            subst hwo
            go_wp2_with fail
            go_loopw [4, 5] (fun s4 s5 wr => ∃ (k : Nat) (z : Int), s5 = .int .i64 z ∧ Hid (z = (k : Int) - 1) ∧ -1 ≤ z ∧ z ≤ i ∧ s4 = .int .i64 (valL ((s.data.toList.take (i + 1)).drop k) : Nat) ∧ wr = wo) (fun _ s5 _ => (intOf s5 + 1).toNat)
            case atStart => exact ⟨i + 1, (i : Int), rfl, Lib.hid (by omega), by omega, by omega, by rw [HLE.out]; rfl, rfl⟩
            case round =>
              obtain ⟨k, z, rfl, HZ, hz0, hz1, rfl, rfl⟩ := hrel
              by_cases hk : 0 ≤ z
              · obtain ⟨q, rfl⟩ : ∃ q : Nat, z = q := ⟨z.toNat, by omega⟩
                obtain rfl : k = q + 1 := by have := HZ.out; omega
                have hqs : q < s.size := by omega
                have hixq := index_str s q hqs wr
                have hrq := byteAt_range s q
                have hu := u8_low7 (s.data.toList.getD q 0).toNat (by have := (s.data.toList.getD q 0).toNat_lt; omega)
                rw [← byteAt_nat] at hu
                have hvd := valL_drop (s.data.toList.take (i + 1)) q (by rw [List.length_take, size_toList]; omega)
                have hge : (s.data.toList.take (i + 1)).getD q 0 = s.data.toList.getD q 0 := by rw [List.getD_eq_getElem?_getD, List.getD_eq_getElem?_getD, List.getElem?_take, if_pos (by omega)]
                rw [hge] at hvd
                have hvl := valL_le ((s.data.toList.take (i + 1)).drop q) (by rw [List.length_drop, List.length_take, size_toList]; omega)
                obtain ⟨d, hd⟩ : ∃ d, (s.data.toList.getD q 0).toNat % 128 = d := ⟨_, rfl⟩
                rw [hd] at hu hvd
                have hd7 : d ≤ 127 := by omega
                obtain ⟨n, hn⟩ : ∃ n, valL ((s.data.toList.take (i + 1)).drop (q + 1)) = n := ⟨_, rfl⟩
                rw [hn] at hvd ⊢
                obtain ⟨m, hm⟩ : ∃ m, valL ((s.data.toList.take (i + 1)).drop q) = m := ⟨_, rfl⟩
                rw [hm] at hvd hvl
                have HM := Lib.hid hm
                have HVD := Lib.hid hvd
                have hb1 : (n : Int) * 128 + d ≤ 9223372036854775807 := by omega
                have hb2 : (n : Int) * 128 ≤ 9223372036854775807 := by omega
                have h0w : wrap64 (d : Int) = d := IntWalk.wrap64_in _ ⟨by omega, by omega⟩
                obtain ⟨y, hy⟩ : ∃ y, byteAt s q = y := ⟨_, rfl⟩
                rw [hy] at hixq hrq hu
                obtain ⟨hy0, hy1⟩ := hrq
                clear hvd hm hn hd hge hvl hy
                go_wp2_with fail
                exact ⟨⟨q, (q : Int) - 1, by go_num, Lib.hid rfl, by omega, by omega, by rw [HM.out, HVD.out]; exact congrArg _ (by omega), by trivial⟩, by simp [intOf]⟩
              · obtain rfl : k = 0 := by have := HZ.out; omega
                have hrv := HY.out _ _ HVAL.out
                have HRV : Hid (R = ⟨s.extract (i + 1) s.size, f⟩ ∧ V = valL ((s.data.toList.take (i + 1)).drop 0)) := Lib.hid ⟨by rw [hrv.1]; simp, by rw [hrv.2]; simp⟩
                clear hrv
                generalize valL ((s.data.toList.take (i + 1)).drop 0) = v at *
                go_wp2_with fail
                go_ret
                rw [HRV.out.1, HRV.out.2]
                exact ⟨rfl, (Chg.refl (fun k => k = b) wr).setCell (p := ⟨b, 0, none⟩) (.inl rfl) _, H.out.set0 _⟩
    · have HRV := Lib.hid (HN.out (numGo_none i _ 0 0 HG.out (by rw [size_toList]; exact his) (.inl (by rw [size_toList]; omega))))
      have hlt2 : ¬ (i : Int) < s.size := by omega
      have hle2 : (s.size : Int) ≤ i := by omega
      go_wp2_with fail
      (with_reducible refine HF.out.mono ?_)
      rintro e w1 ⟨rfl, hc1, hr1⟩
      have HC := Lib.hid hc1
      have HR := Lib.hid hr1
      clear hc1 hr1
      go_wp2_with fail
      go_ret
      rw [HRV.out.1, HRV.out.2]
      exact ⟨rfl, HC.out, HR.out⟩
end Go.Proofs.YtlbmfgiepcemdaaGreat
