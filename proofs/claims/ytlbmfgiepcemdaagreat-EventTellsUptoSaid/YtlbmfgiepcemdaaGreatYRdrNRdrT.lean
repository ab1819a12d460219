/- code.Reader.Num: a varint read. Conditions: those in each statement. code.Reader.Int and Text. Conditions: those in each statement. -/
import Derived.Test.YtlbmfgiepcemdaaGreatYBuilderChgRdr
import Derived.Test.YtlbmfgiepcemdaaGreatYTypeCloneSame
namespace Go.Proofs.YtlbmfgiepcemdaaGreat
open Go.RowKit

/-- a varint read from a list: its value and how many bytes it takes -/
def numGo : Nat → Nat → List UInt8 → Option (Nat × Nat)
  | _, _, [] => none
  | i, n, c :: t => if 9 ≤ i then none else if 128 ≤ c.toNat then numGo (i + 1) (n + c.toNat % 128 * 128 ^ i) t else if c.toNat = 0 ∧ 0 < i then none else some (n + c.toNat % 128 * 128 ^ i, i + 1)
def numO (r : RS) : Option (Nat × Nat) := numGo 0 0 r.s.data.toList
def numR (r : RS) : RS := match numO r with | some (_, k) => ⟨r.s.extract k r.s.size, r.f⟩ | none => RS.bad
def numV (r : RS) : Nat := match numO r with | some (v, _) => v | none => 0
theorem drop_cons (s : ByteArray) (i : Nat) (hi : i < s.size) : ∃ c : UInt8, s.data.toList.drop i = c :: s.data.toList.drop (i + 1) ∧ byteAt s i = (c.toNat : Int) := by
  have hl : i < s.data.toList.length := by rw [size_toList]; exact hi
  refine ⟨s.data.toList[i], List.drop_eq_getElem_cons hl, ?_⟩
  unfold byteAt
  rw [List.getD_eq_getElem?_getD, List.getElem?_eq_getElem hl]; rfl
theorem u8_low7 (c : Nat) (hc : c ≤ 255) : bits .and .u8 (c : Int) 127 = ((c % 128 : Nat) : Int) := by
  show IntKind.u8.wrap ((BitVec.ofInt 8 (c : Int) &&& BitVec.ofInt 8 ((127 : Nat) : Int)).toNat : Int) = _
  rw [BitVec.toNat_and, BitVec.ofInt_natCast, BitVec.ofInt_natCast, BitVec.toNat_ofNat, BitVec.toNat_ofNat, IntKind.wrap_u8']
  have e1 : c % 2 ^ 8 = c := Nat.mod_eq_of_lt (by omega)
  have e2 : 127 % 2 ^ 8 = 127 := rfl
  have e3 : c &&& 127 = c % 128 := Nat.and_two_pow_sub_one_eq_mod c 7
  rw [e1, e2, e3]
  omega
theorem or_shift (n d i : Nat) (hi : i < 9) (hn : n < 128 ^ i) (hd : d < 128) : d * 128 ^ i ≤ 9223372036854775807 ∧ n + d * 128 ^ i < 128 ^ (i + 1) ∧ bits .or .i64 (n : Int) ((d * 128 ^ i : Nat) : Int) = ((n + d * 128 ^ i : Nat) : Int) := by
  have e : (128 : Nat) ^ i = 2 ^ (7 * i) := by rw [show (128 : Nat) = 2 ^ 7 from rfl, ← Nat.pow_mul]
  have h1 : (128 : Nat) ^ i ≤ 128 ^ 8 := Nat.pow_le_pow_right (by omega) (by omega)
  have h8 : (128 : Nat) ^ 8 = 72057594037927936 := rfl
  have h2 : d * 128 ^ i ≤ 127 * 128 ^ i := Nat.mul_le_mul_right _ (by omega)
  have h3 : n + d * 128 ^ i < 128 ^ (i + 1) := by rw [Nat.pow_succ]; omega
  refine ⟨by omega, h3, ?_⟩
  rw [i64_or_nat n _ (by omega) (by omega)]
  have := Nat.two_pow_add_eq_or_of_lt (i := 7 * i) (b := n) (by rw [← e]; exact hn) d
  rw [e, Nat.mul_comm d, Nat.or_comm, ← this, Nat.add_comm]
set_option maxHeartbeats 2000000 in
set_option maxRecDepth 20000 in
theorem rnum_any (b : Nat) (r : RS) (w : World) (h : RdrAt w b r) (hs : r.s.size ≤ 4294967296) : Calls Tryz.prog 32 #[.pointer (some ⟨b, 0, none⟩)] w (RPost b (numR r) (.int .i64 (numV r)) w) := by
  have c0 := h.c0
  have f0 := h.fz
  have HF := Lib.hid (fail_any b r w h)
  have H := Lib.hid h
  clear h
  obtain ⟨s, f⟩ := r
  obtain ⟨R, hR⟩ : ∃ R, numR ⟨s, f⟩ = R := ⟨_, rfl⟩
  obtain ⟨V, hV⟩ : ∃ V, numV ⟨s, f⟩ = V := ⟨_, rfl⟩
  have HY : Hid (∀ v k, numGo 0 0 s.data.toList = some (v, k) → R = ⟨s.extract k s.size, f⟩ ∧ V = v) := Lib.hid (fun v k h => by
    rw [← hR, ← hV]; unfold numR numV numO; rw [h]; exact ⟨rfl, rfl⟩)
  have HN : Hid (numGo 0 0 s.data.toList = none → R = RS.bad ∧ V = 0) := Lib.hid (fun h => by
    rw [← hR, ← hV]; unfold numR numV numO; rw [h]; exact ⟨rfl, rfl⟩)
  rw [hR, hV]
  clear hR hV
  go_enter Tryz.func32, Tryz.ntmps32
  go_wp2_with fail
  go_loopw [3, 4] (fun s3 s4 wr => ∃ (n i : Nat), i ≤ 9 ∧ i ≤ s.size ∧ Hid (n < 128 ^ i) ∧ s4 = .int .i64 i ∧ s3 = .int .i64 n ∧ wr = w ∧ Hid (numGo 0 0 s.data.toList = numGo i n (s.data.toList.drop i))) (fun _ s4 _ => s.size - (intOf s4).toNat)
  case atStart => exact ⟨0, 0, by omega, by omega, Lib.hid (by omega), rfl, rfl, rfl, Lib.hid rfl⟩
  case round =>
    obtain ⟨n, i, hi9, his, hni, rfl, rfl, rfl, HG⟩ := hrel
    by_cases hlt : i < s.size
    · by_cases h9 : i < 9
      · obtain ⟨c, hdr, hby⟩ := drop_cons s i hlt
        have hix := index_str s i hlt wr
        rw [hby] at hix
        have hc : c.toNat ≤ 255 := by have := c.toNat_lt; omega
        obtain ⟨k1, k2, k3⟩ := or_shift n (c.toNat % 128) i h9 hni.out (by omega)
        have hgo : numGo i n (s.data.toList.drop i) = if 9 ≤ i then none else if 128 ≤ c.toNat then numGo (i + 1) (n + c.toNat % 128 * 128 ^ i) (s.data.toList.drop (i + 1)) else if c.toNat = 0 ∧ 0 < i then none else some (n + c.toNat % 128 * 128 ^ i, i + 1) := by rw [hdr, numGo]
        rw [if_neg (by omega)] at hgo
        have hd7 : c.toNat % 128 ≤ 127 := by omega
        have h1 := u8_low7 c.toNat hc
        have h2 : wrap64 (((c.toNat % 128 : Nat) : Int) * 2 ^ (7 * i)) = ((c.toNat % 128 * 128 ^ i : Nat) : Int) := by
          have e : (((c.toNat % 128 : Nat) : Int) * 2 ^ (7 * i)) = ((c.toNat % 128 * 128 ^ i : Nat) : Int) := by
            rw [show (128 : Nat) = 2 ^ 7 from rfl, ← Nat.pow_mul]; simp
          rw [e]
          exact IntWalk.wrap64_in _ ⟨by omega, by omega⟩
        have h0 : wrap64 ((c.toNat % 128 : Nat) : Int) = ((c.toNat % 128 : Nat) : Int) := IntWalk.wrap64_in _ ⟨by omega, by omega⟩
        obtain ⟨d, hd⟩ : ∃ d, c.toNat % 128 = d := ⟨_, rfl⟩
        rw [hd] at k1 k2 k3 hgo h1 h2 h0 hd7
        obtain ⟨p, hp⟩ : ∃ p, d * 128 ^ i = p := ⟨_, rfl⟩
        rw [hp] at k1 k2 k3 hgo h2
        obtain ⟨q, hq⟩ : ∃ q, n + p = q := ⟨_, rfl⟩
        rw [hq] at k2 k3 hgo
        have hGO := Lib.hid hgo
        have K2 := Lib.hid k2
        have hx0 : (0 : Int) ≤ c.toNat := by omega
        have hx1 : (c.toNat : Int) ≤ 255 := by omega
        clear hgo k2 hdr hby hd hp hq
        by_cases h128 : 128 ≤ c.toNat
        · have HG2 : Hid (numGo 0 0 s.data.toList = numGo (i + 1) q (s.data.toList.drop (i + 1))) := Lib.hid (by rw [HG.out, hGO.out, if_pos h128])
          have hd1 : decide ((128 : Int) ≤ (c.toNat : Int)) = true := by simp; omega
          have hd2 : ¬ (c.toNat : Int) < 128 := by omega
          obtain ⟨X, hX⟩ : ∃ X, (c.toNat : Int) = X := ⟨_, rfl⟩
          rw [hX] at hix h1 hx0 hx1 hd1 hd2
          clear hX hGO h128 hc
          go_wp2_with fail
          exact ⟨⟨q, i + 1, by omega, by omega, K2, by go_num, rfl, by trivial, HG2⟩, by simp [intOf]; omega⟩
        · have hd1 : decide ((128 : Int) ≤ (c.toNat : Int)) = false := by simp; omega
          have hd2 : (c.toNat : Int) < 128 := by omega
          by_cases hz : c.toNat = 0
          · by_cases hi0 : 0 < i
            · have HRV := Lib.hid (HN.out (by rw [HG.out, hGO.out, if_neg h128, if_pos ⟨hz, hi0⟩]))
              have hx : ((c.toNat : Int) == 0) = true := by simp [hz]
              obtain ⟨X, hX⟩ : ∃ X, (c.toNat : Int) = X := ⟨_, rfl⟩
              rw [hX] at hix h1 hx0 hx1 hd1 hd2 hx
              clear hX hGO h128 hc hz
              go_wp2_with fail
              (with_reducible refine HF.out.mono ?_)
              rintro e w1 ⟨rfl, hc1, hr1⟩
              have HC := Lib.hid hc1
              have HR := Lib.hid hr1
              clear hc1 hr1
              go_wp2_with fail
              go_ret
              rw [HRV.out.1, HRV.out.2]
              exact ⟨rfl, HC.out, HR.out⟩
            · have hi00 : i = 0 := by omega
              have HRV := Lib.hid (HY.out q (i + 1) (by rw [HG.out, hGO.out, if_neg h128, if_neg (by omega)]))
              have hx : ((c.toNat : Int) == 0) = true := by simp [hz]
              have hi1 : decide (0 < i) = false := by simpa using hi0
              obtain ⟨X, hX⟩ : ∃ X, (c.toNat : Int) = X := ⟨_, rfl⟩
              rw [hX] at hix h1 hx0 hx1 hd1 hd2 hx
              clear hX hGO h128 hc hz hi00
              go_wp2_with fail
              go_ret
              rw [HRV.out.1, HRV.out.2]
              exact ⟨rfl, (Chg.refl (fun k => k = b) wr).setCell (p := ⟨b, 0, none⟩) (.inl rfl) _, H.out.set0 _⟩
          · have HRV := Lib.hid (HY.out q (i + 1) (by rw [HG.out, hGO.out, if_neg h128, if_neg (by omega)]))
            have hx : ((c.toNat : Int) == 0) = false := by simp; omega
            obtain ⟨X, hX⟩ : ∃ X, (c.toNat : Int) = X := ⟨_, rfl⟩
            rw [hX] at hix h1 hx0 hx1 hd1 hd2 hx
            clear hX hGO h128 hc hz
            go_wp2_with fail
            go_ret
            rw [HRV.out.1, HRV.out.2]
            exact ⟨rfl, (Chg.refl (fun k => k = b) wr).setCell (p := ⟨b, 0, none⟩) (.inl rfl) _, H.out.set0 _⟩
      · obtain rfl : i = 9 := by omega
        have HRV := Lib.hid (HN.out (by
          obtain ⟨c, hdr, _⟩ := drop_cons s 9 hlt
          rw [HG.out, hdr, numGo, if_pos (by omega)]))
        go_wp2_with fail
        (with_reducible refine HF.out.mono ?_)
        rintro e w1 ⟨rfl, hc1, hr1⟩
        have HC := Lib.hid hc1
        have HR := Lib.hid hr1
        clear hc1 hr1
        go_wp2_with fail
        go_ret
        rw [HRV.out.1, HRV.out.2]
        exact ⟨rfl, HC.out, HR.out⟩
    · have HRV := Lib.hid (HN.out (by rw [HG.out, List.drop_eq_nil_of_le (by rw [size_toList]; omega), numGo]))
      have hlt2 : ¬ (i : Int) < s.size := by omega
      go_wp2_with fail
      (with_reducible refine HF.out.mono ?_)
      rintro e w1 ⟨rfl, hc1, hr1⟩
      have HC := Lib.hid hc1
      have HR := Lib.hid hr1
      clear hc1 hr1
      go_wp2_with fail
      go_ret
      rw [HRV.out.1, HRV.out.2]
      exact ⟨rfl, HC.out, HR.out⟩
end Go.Proofs.YtlbmfgiepcemdaaGreat
namespace Go.Proofs.YtlbmfgiepcemdaaGreat
open Go.RowKit

theorem numGo_lt : ∀ (l : List UInt8) (i n v k : Nat), i ≤ 9 → n < 128 ^ i → numGo i n l = some (v, k) → v ≤ 9223372036854775807 ∧ i < k ∧ k ≤ i + l.length
  | [], i, n, v, k, _, _, h => by rw [numGo] at h; cases h
  | c :: t, i, n, v, k, hi, hn, h => by
    rw [numGo] at h
    by_cases h9 : 9 ≤ i
    · rw [if_pos h9] at h; cases h
    · rw [if_neg h9] at h
      obtain ⟨k1, k2, _⟩ := or_shift n (c.toNat % 128) i (by omega) hn (by omega)
      by_cases h1 : 128 ≤ c.toNat
      · rw [if_pos h1] at h
        have := numGo_lt t (i + 1) _ v k (by omega) k2 h
        rw [List.length_cons]; omega
      · rw [if_neg h1] at h
        by_cases h2 : c.toNat = 0 ∧ 0 < i
        · rw [if_pos h2] at h; cases h
        · rw [if_neg h2] at h
          have e := Option.some.inj h
          injection e with e1 e2
          have h3 : (128 : Nat) ^ (i + 1) ≤ 128 ^ 9 := Nat.pow_le_pow_right (by omega) (by omega)
          have h9 : (128 : Nat) ^ 9 = 9223372036854775808 := rfl
          rw [List.length_cons]; omega
theorem numV_le (r : RS) : numV r ≤ 9223372036854775807 := by
  unfold numV
  cases h : numO r with
  | none => simp
  | some p => obtain ⟨v, k⟩ := p; exact (numGo_lt _ 0 0 v k (by omega) (by omega) h).1
theorem numR_size (r : RS) : (numR r).s.size ≤ r.s.size := by
  unfold numR
  cases h : numO r with
  | none => exact Nat.zero_le _
  | some p => obtain ⟨v, k⟩ := p; show (r.s.extract k r.s.size).size ≤ _; rw [ByteArray.size_extract]; omega
theorem takeR_size (r : RS) (n : Int) : (takeR r n).s.size ≤ r.s.size := by
  unfold takeR
  split
  · exact Nat.zero_le _
  · show (r.s.extract _ r.s.size).size ≤ _; rw [ByteArray.size_extract]; omega
def textS (r : RS) : ByteArray := takeS (numR r) (numV r)
def textR (r : RS) : RS := takeR (numR r) (numV r)
theorem textR_size (r : RS) : (textR r).s.size ≤ r.s.size := Nat.le_trans (takeR_size _ _) (numR_size r)
theorem rtext_any (b : Nat) (r : RS) (w : World) (h : RdrAt w b r) (hs : r.s.size ≤ 4294967296) : Calls Tryz.prog 63 #[.pointer (some ⟨b, 0, none⟩)] w (RPost b (textR r) (.string (textS r)) w) := by
  have HN := Lib.hid (rnum_any b r w h hs)
  have hz := numR_size r
  clear h
  unfold textR textS
  obtain ⟨R, hR⟩ : ∃ R, numR r = R := ⟨_, rfl⟩
  obtain ⟨V, hV⟩ : ∃ V, numV r = V := ⟨_, rfl⟩
  rw [hR, hV] at HN
  rw [hR] at hz
  rw [hR, hV]
  clear hR hV
  go_enter Tryz.func63, Tryz.ntmps63
  go_wp2_with fail
  (with_reducible refine HN.out.mono ?_)
  rintro e w1 ⟨rfl, hc1, hr1⟩
  have HC := Lib.hid hc1
  have HT := Lib.hid (take_any b R (V : Int) w1 hr1 (by omega))
  clear hc1 hr1
  go_wp2_with fail
  (with_reducible refine HT.out.mono ?_)
  rintro e w2 ⟨rfl, hc2, hr2⟩
  have HC2 := Lib.hid (HC.out.next hc2)
  have HR2 := Lib.hid hr2
  clear hc2 hr2
  go_wp2_with fail
  go_ret
  exact ⟨rfl, HC2.out, HR2.out⟩
def zig (z : Nat) : Int := if z % 2 = 1 then -((z / 2 : Nat) : Int) - 1 else ((z / 2 : Nat) : Int)
def intBad (z : Nat) : Bool := decide (zig z < -1152921504606846976 ∨ 1152921504606846976 < zig z)
def intV (r : RS) : Int := if intBad (numV r) then 0 else zig (numV r)
def intR (r : RS) : RS := if intBad (numV r) then RS.bad else numR r
theorem intR_size (r : RS) : (intR r).s.size ≤ r.s.size := by
  unfold intR
  split
  · exact Nat.zero_le _
  · exact numR_size r
set_option maxHeartbeats 1000000 in
set_option maxRecDepth 20000 in
theorem rint_any (b : Nat) (r : RS) (w : World) (h : RdrAt w b r) (hs : r.s.size ≤ 4294967296) : Calls Tryz.prog 98 #[.pointer (some ⟨b, 0, none⟩)] w (RPost b (intR r) (.int .i64 (intV r)) w) := by
  have HN := Lib.hid (rnum_any b r w h hs)
  have hv := numV_le r
  clear h
  unfold intR intV
  obtain ⟨R, hR⟩ : ∃ R, numR r = R := ⟨_, rfl⟩
  obtain ⟨z, hV⟩ : ∃ V, numV r = V := ⟨_, rfl⟩
  rw [hR, hV] at HN
  rw [hV] at hv
  rw [hR, hV]
  clear hR hV
  have hz0 : (0 : Int) ≤ z := by omega
  have hz1 : (z : Int) ≤ 9223372036854775807 := by omega
  obtain ⟨q, hq0⟩ : ∃ q, z / 2 = q := ⟨_, rfl⟩
  have hq : (z : Int) / 2 = (q : Int) := by omega
  have hq1 : (q : Int) ≤ 4611686018427387904 := by omega
  by_cases h2 : z % 2 = 1
  · have hm : ((z : Int) % 2 == 1) = true := by simp; omega
    by_cases h3 : (1152921504606846976 : Int) ≤ (q : Int)
    · have HB : Hid ((if intBad z then RS.bad else R) = RS.bad ∧ (if intBad z then 0 else zig z) = 0) := Lib.hid (by
        have hz : zig z = -(q : Int) - 1 := by unfold zig; rw [if_pos h2, hq0]
        have hi : intBad z = true := by unfold intBad; rw [hz]; simp; omega
        rw [hi]; exact ⟨rfl, rfl⟩)
      rw [HB.out.1, HB.out.2]
      clear hq0 h2 HB
      go_enter Tryz.func98, Tryz.ntmps98
      go_wp2_with fail
      (with_reducible refine HN.out.mono ?_)
      rintro e w1 ⟨rfl, hc1, hr1⟩
      have HC := Lib.hid hc1
      have HR := Lib.hid hr1
      clear hc1 hr1
      have HF := Lib.hid (fail_any b R w1 HR.out)
      go_wp2_with fail
      (with_reducible refine HF.out.mono ?_)
      rintro e w2 ⟨rfl, hc2, hr2⟩
      have HC2 := Lib.hid (HC.out.next hc2)
      have HR2 := Lib.hid hr2
      clear hc2 hr2
      go_wp2_with fail
      go_ret
      exact ⟨rfl, HC2.out, HR2.out⟩
    · have HB : Hid ((if intBad z then RS.bad else R) = R ∧ (if intBad z then 0 else zig z) = -(q : Int) - 1) := Lib.hid (by
        have hz : zig z = -(q : Int) - 1 := by unfold zig; rw [if_pos h2, hq0]
        have hi : intBad z = false := by unfold intBad; rw [hz]; simp; omega
        rw [hi]; exact ⟨rfl, hz⟩)
      rw [HB.out.1, HB.out.2]
      have h4 : (q : Int) ≤ 1152921504606846975 := by omega
      clear hq0 h2 HB h3
      go_enter Tryz.func98, Tryz.ntmps98
      go_wp2_with fail
      (with_reducible refine HN.out.mono ?_)
      rintro e w1 ⟨rfl, hc1, hr1⟩
      have HC := Lib.hid hc1
      have HR := Lib.hid hr1
      clear hc1 hr1
      go_wp2_with fail
      go_ret
      exact ⟨rfl, HC.out, HR.out⟩
  · have hm : ((z : Int) % 2 == 1) = false := by simp; omega
    by_cases h3 : (1152921504606846976 : Int) < (q : Int)
    · have HB : Hid ((if intBad z then RS.bad else R) = RS.bad ∧ (if intBad z then 0 else zig z) = 0) := Lib.hid (by
        have hz : zig z = (q : Int) := by unfold zig; rw [if_neg h2, hq0]
        have hi : intBad z = true := by unfold intBad; rw [hz]; simp; omega
        rw [hi]; exact ⟨rfl, rfl⟩)
      rw [HB.out.1, HB.out.2]
      clear hq0 h2 HB
      go_enter Tryz.func98, Tryz.ntmps98
      go_wp2_with fail
      (with_reducible refine HN.out.mono ?_)
      rintro e w1 ⟨rfl, hc1, hr1⟩
      have HC := Lib.hid hc1
      have HR := Lib.hid hr1
      clear hc1 hr1
      have HF := Lib.hid (fail_any b R w1 HR.out)
      go_wp2_with fail
      (with_reducible refine HF.out.mono ?_)
      rintro e w2 ⟨rfl, hc2, hr2⟩
      have HC2 := Lib.hid (HC.out.next hc2)
      have HR2 := Lib.hid hr2
      clear hc2 hr2
      go_wp2_with fail
      go_ret
      exact ⟨rfl, HC2.out, HR2.out⟩
    · have HB : Hid ((if intBad z then RS.bad else R) = R ∧ (if intBad z then 0 else zig z) = (q : Int)) := Lib.hid (by
        have hz : zig z = (q : Int) := by unfold zig; rw [if_neg h2, hq0]
        have hi : intBad z = false := by unfold intBad; rw [hz]; simp; omega
        rw [hi]; exact ⟨rfl, hz⟩)
      rw [HB.out.1, HB.out.2]
      clear hq0 h2 HB
      go_enter Tryz.func98, Tryz.ntmps98
      go_wp2_with fail
      (with_reducible refine HN.out.mono ?_)
      rintro e w1 ⟨rfl, hc1, hr1⟩
      have HC := Lib.hid hc1
      have HR := Lib.hid hr1
      clear hc1 hr1
      go_wp2_with fail
      go_ret
      exact ⟨rfl, HC.out, HR.out⟩
end Go.Proofs.YtlbmfgiepcemdaaGreat
