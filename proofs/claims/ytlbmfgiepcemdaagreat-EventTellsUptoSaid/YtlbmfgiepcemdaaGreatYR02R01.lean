/- A row of bytes of the call's own, byte by byte; ref02.Num, Int, Text: they come to what code.Num, Int, Text come to. Conditions: those in each statement. ref01.Text and ref01.Parse: Parse comes to what num.Parse comes to. Conditions: those in each statement. -/
import Derived.Test.YtlbmfgiepcemdaaGreatYEnc
import Derived.Laws.IdiomStrings
import Derived.Deep.AppendLies
import Derived.Test.YtlbmfgiepcemdaaGreatYParse
import Derived.IntWalk
namespace Go.Proofs.YtlbmfgiepcemdaaGreat
open Go.RowKit

/-- v is a row of the call's own that holds bs -/
def RowB (B : Nat) (w : World) (v : Value) (bs : List UInt8) : Prop := w.ownsRow B 5 1 v bs.length (Lib.byteCells bs)
theorem wp_append_byte {w : World} {ops : Array Oper} {rest : List Oper} {o : Oper} {a : Act} {Q : Exit → Act → World → Prop} (hgd : o.guard = none) (s x : Operand)
    (ho : o.op = .call { callee := .builtin .append, args := #[s, x], argTypes := #[68, 68] })
    (B : Nat) (hB : B ≤ w.heap.size) (v : Value) (bs : List UInt8) (hs : a.eval s = v) (hown : w.ownsRow B 5 1 v bs.length (Lib.byteCells bs))
    (b o' c : Nat) (y : UInt8) (hx : a.eval x = .slice (some ⟨b, o', none⟩) 1 c) (hc : w.cell? ⟨b, o', none⟩ = some (.int .u8 (y.toNat : Int))) (hl : bs.length ≤ 4294967296)
    (h : ∀ v' w', RowB B w' v' (bs ++ [y]) → w.grownBy w' v.ownBlock → wpList Tryz.prog ops Q rest (a.put o.dst v') w') : wpList Tryz.prog ops Q (o :: rest) a w := by
  obtain ⟨i0, hi0, hz0, hz1, hz2⟩ := info_parts infoB
  refine wpList_append_lies w hgd s x 68 ho B 5 i0 _ 1 1 Tryz.underlying68 hi0 hz0 hz1 hz2 rfl (by omega) v bs.length (Lib.byteCells bs) hs hown ⟨b, o', none⟩ 1 c [.int .u8 (y.toNat : Int)] hx rfl (fun j u hu => ?_) (fun u hu => by simp at hu; subst hu; rfl) (by omega) (by unfold maxLen; omega) (by omega) hB w.heap.size rfl ?_
  · cases j with
    | zero => simp at hu; subst hu; rw [Addr.add_lit]; exact hc
    | succ j => simp at hu
  · intro g cap w' h2 h3 _ _
    refine h _ w' ?_ h3
    unfold RowB
    rw [List.length_append, show Lib.byteCells (bs ++ [y]) = Lib.byteCells bs ++ [.int .u8 (y.toNat : Int)] by simp [Lib.byteCells]]
    exact h2

/-- v holds bs in a row of the call's own; what lies below B is as in w0 -/
def OwnB (B : Nat) (w0 w : World) (v : Value) (bs : List UInt8) : Prop := w.ownsRow B 5 1 v bs.length (Lib.byteCells bs) ∧ Below B w0 w ∧ B ≤ w.heap.size
section
variable {B : Nat} {w0 w w' : World} {v v' : Value} {bs bs' : List UInt8}
theorem OwnB.nil (hB : Below B w0 w) (h : B ≤ w.heap.size) : OwnB B w0 w (.slice none 0 0) [] := ⟨World.ownsRow_nil _ _ _ _, hB, h⟩
theorem OwnB.below (h : OwnB B w0 w v bs) (hb : Below w.heap.size w w') : OwnB B w0 w' v bs := ⟨own_below h.1 hb, h.2.1.trans (hb.mono h.2.2), Nat.le_trans h.2.2 hb.size⟩
theorem OwnB.alloc (h : OwnB B w0 w v bs) (o : Obj) : OwnB B w0 (w.alloc o) v bs := h.below ((Below.refl _ _).alloc (Nat.le_refl _) o)
theorem OwnB.drew (h : OwnB B w0 w v bs) : OwnB B w0 w.drew v bs := h.below ((Below.refl _ _).drew)
theorem OwnB.app (h : OwnB B w0 w v bs) (hown : RowB B w' v' bs') (hg : w.grownBy w' v.ownBlock) : OwnB B w0 w' v' bs' :=
  ⟨hown, h.2.1.grown hg h.2.2 (fun k hk => (h.1.lt k hk).1), Nat.le_trans h.2.2 hg.size⟩
theorem OwnB.conv (h : OwnB B w0 w v bs) : (convert 68 9 v).run Tryz.prog w = .ok (.string ⟨bs.toArray⟩) w := by
  rcases h.1.2 with ⟨rfl, h0⟩ | ⟨g, cap, cur, rfl, _, hcur, hnc, hcm, hsz, htk⟩
  · obtain rfl := List.eq_nil_of_length_eq_zero h0
    simp [convert, Conv.bytesToString, run_underlying Tryz.underlying68, run_underlying Tryz.underlying9, run_underlying Tryz.underlying5, go_sem]
    rfl
  · exact run_convert_bytes_back (P := Tryz.prog) w 68 9 5 ⟨g, 0, none⟩ cap bs Tryz.underlying68 Tryz.underlying5 Tryz.underlying9 (fun j hj => h.1.cells (g := g) rfl j _ (by simp [Lib.byteCells, hj]))
end

def numU : Nat → Nat → List UInt8
  | 0, _ => []
  | f + 1, n => if n < 128 then [UInt8.ofNat n] else UInt8.ofNat (n % 128 + 128) :: numU f (n / 128)
theorem numI_U : ∀ f n, (numI f n).map (fun n => UInt8.ofNat n.toNat) = numU f n
  | 0, _ => rfl
  | f + 1, n => by
    rw [numI, numU]
    split
    · simp
    · rw [List.map_cons, numI_U f]
      congr 1
theorem numB_U (n : Nat) : numB n = ⟨(numU 9 n).toArray⟩ := by unfold numB strOfNums; rw [numI_U]
theorem u8_ofNat {n : Nat} (h : n < 256) : ((UInt8.ofNat n).toNat : Int) = n := by simp; omega

set_option maxHeartbeats 1000000 in
set_option maxRecDepth 100000 in
theorem r02num_any (n : Nat) (hn : n ≤ 9223372036854775807) (w : World) : Calls Tryz.prog 46 #[.int .i64 (n : Int)] w fun e w' => e = .returned (.string (numB n)) ∧ Below w.heap.size w w' := by
  go_enter Tryz.func46, Tryz.ntmps46
  go_wp2_with fail
  go_loopw [0, 3] (fun s0 s3 wr => ∃ (k m : Nat) (bs : List UInt8), k ≤ 8 ∧ bs.length ≤ k ∧ m ≤ 9223372036854775807 ∧ s0 = .int .i64 m ∧ Hid (m = n / 128 ^ k ∧ numU 9 n = bs ++ numU (9 - k) m) ∧ Hid (OwnB w.heap.size w wr s3 bs)) (fun s0 _ _ => (intOf s0).toNat)
  case atStart => exact ⟨0, n, [], by omega, by simp, hn, rfl, Lib.hid ⟨by simp, rfl⟩, Lib.hid (OwnB.nil (Below.refl _ _) (Nat.le_refl _))⟩
  case round =>
    obtain ⟨k, m, bs, hk, hbl, hm, rfl, HN, HO⟩ := hrel
    by_cases h : 128 ≤ m
    · have hx : ((m : Int) % 128 + 128) % 256 = (m : Int) % 128 + 128 := by omega
      have hk7 : k ≤ 7 := by
        rcases Nat.lt_or_ge k 8 with h8 | h8
        · omega
        · obtain rfl : k = 8 := by omega
          have := HN.out.1
          have e : 128 ^ 8 = 72057594037927936 := by decide
          rw [e] at this; omega
      have HN2 : Hid (m / 128 = n / 128 ^ (k + 1) ∧ numU 9 n = (bs ++ [UInt8.ofNat (m % 128 + 128)]) ++ numU (9 - (k + 1)) (m / 128)) := Lib.hid ⟨by rw [HN.out.1, Nat.div_div_eq_div_mul, Nat.pow_succ], by
        rw [HN.out.2, show 9 - k = (9 - (k + 1)) + 1 by omega, numU, if_neg (by omega)]; simp⟩
      have HC : Hid ((.int .u8 ((m : Int) % 128 + 128) : Value) = .int .u8 ((UInt8.ofNat (m % 128 + 128)).toNat : Int)) := Lib.hid (by rw [u8_ofNat (by omega)]; congr 1)
      obtain ⟨y, hy⟩ : ∃ y : UInt8, UInt8.ofNat (m % 128 + 128) = y := ⟨_, rfl⟩
      rw [hy] at HN2 HC
      clear HN hy
      go_wp2_with (at_builtin; refine wp_append_byte rfl _ _ rfl w.heap.size ?c1 u3 bs rfl ?c2 wr.heap.size 0 1 y rfl ?c3 ?c4 ?_)
      case c1 => exact (HO.out.alloc _).2.2
      case c2 => exact (HO.out.alloc _).1
      case c3 => rw [← HC.out]; simp
      case c4 => omega
      intro v' w' h1 h2
      have HO2 := Lib.hid ((HO.out.alloc _).app h1 h2)
      clear h1 h2 HO
      go_wp2_with fail
      exact ⟨⟨k + 1, m / 128, _, by omega, by simp; omega, by omega, by go_num, HN2, HO2⟩, by simp [intOf]; omega⟩
    · have hx : (m : Int) % 256 = m := by omega
      have HN2 : Hid (numU 9 n = bs ++ [UInt8.ofNat m]) := Lib.hid (by rw [HN.out.2, show 9 - k = (8 - k) + 1 by omega, numU, if_pos (by omega)])
      have HC : Hid ((.int .u8 (m : Int) : Value) = .int .u8 ((UInt8.ofNat m).toNat : Int)) := Lib.hid (by rw [u8_ofNat (by omega)])
      obtain ⟨y, hy⟩ : ∃ y : UInt8, UInt8.ofNat m = y := ⟨_, rfl⟩
      rw [hy] at HN2 HC
      clear HN hy
      go_wp2_with (at_builtin; refine wp_append_byte rfl _ _ rfl w.heap.size ?c1 u3 bs rfl ?c2 wr.heap.size 0 1 y rfl ?c3 ?c4 ?_)
      case c1 => exact (HO.out.alloc _).2.2
      case c2 => exact (HO.out.alloc _).1
      case c3 => rw [← HC.out]; simp
      case c4 => omega
      intro v' w' h1 h2
      have HO2 := (HO.out.alloc _).app h1 h2
      have hcv := HO2.conv
      have HB := Lib.hid HO2.2.1
      clear h1 h2 HO HO2
      go_wp2_with fail
      go_ret
      exact ⟨by rw [numB_U, HN2.out]; rfl, HB.out⟩
set_option maxHeartbeats 400000 in
theorem rnum_neg (n : Int) (hn : n < 0) (w : World) : Calls Tryz.prog 46 #[.int .i64 n] w fun e w' => e = .returned (.string ⟨#[]⟩) ∧ w = w' := by
  go_enter Tryz.func46, Tryz.ntmps46
  go_wp2_with fail
  go_ret
  exact ⟨rfl, rfl⟩
theorem rnum_int (n : Int) (hn : n ≤ 9223372036854775807) (w : World) : Calls Tryz.prog 46 #[.int .i64 n] w fun e w' => e = .returned (.string (numZ n)) ∧ Below w.heap.size w w' := by
  by_cases h : n < 0
  · refine (rnum_neg n h w).mono ?_
    rintro e w' ⟨rfl, rfl⟩
    exact ⟨by unfold numZ; rw [if_pos h], Below.refl _ _⟩
  · obtain ⟨m, rfl⟩ := Int.eq_ofNat_of_zero_le (show 0 ≤ n by omega)
    refine (r02num_any m (by omega) w).mono ?_
    rintro e w' ⟨rfl, hb⟩
    exact ⟨by unfold numZ; rw [if_neg h, Int.toNat_natCast], hb⟩
set_option maxHeartbeats 400000 in
theorem r02int_any (n : Int) (w : World) : Calls Tryz.prog 89 #[.int .i64 n] w fun e w' => e = .returned (.string (intB n)) ∧ Below w.heap.size w w' := by
  by_cases h1 : n < -1152921504606846976
  · have HE : Hid (intB n = ⟨#[]⟩) := Lib.hid (by unfold intB; rw [if_pos (.inl h1)])
    go_enter Tryz.func89, Tryz.ntmps89
    go_wp2_with fail
    go_ret
    exact ⟨by rw [HE.out]; rfl, Below.refl _ _⟩
  by_cases h2 : 1152921504606846976 < n
  · have HE : Hid (intB n = ⟨#[]⟩) := Lib.hid (by unfold intB; rw [if_pos (.inr h2)])
    go_enter Tryz.func89, Tryz.ntmps89
    go_wp2_with fail
    go_ret
    exact ⟨by rw [HE.out]; rfl, Below.refl _ _⟩
  by_cases h3 : n < 0
  · have HE : Hid (intB n = numZ (-2 * n - 1)) := Lib.hid (by
      unfold intB numZ; rw [if_neg (fun h => by omega), if_pos h3, if_neg (by omega)])
    have HC := Lib.hid (rnum_int (-2 * n - 1) (by omega) w)
    go_enter Tryz.func89, Tryz.ntmps89
    go_wp2_with fail
    (with_reducible refine HC.out.mono ?_)
    rintro e w1 ⟨rfl, hb⟩
    have HB := Lib.hid hb
    clear hb
    go_wp2_with fail
    go_ret
    exact ⟨by rw [HE.out]; rfl, HB.out⟩
  · have HE : Hid (intB n = numZ (2 * n)) := Lib.hid (by
      unfold intB numZ; rw [if_neg (fun h => by omega), if_neg h3, if_neg (by omega)])
    have HC := Lib.hid (rnum_int (2 * n) (by omega) w)
    go_enter Tryz.func89, Tryz.ntmps89
    go_wp2_with fail
    (with_reducible refine HC.out.mono ?_)
    rintro e w1 ⟨rfl, hb⟩
    have HB := Lib.hid hb
    clear hb
    go_wp2_with fail
    go_ret
    exact ⟨by rw [HE.out]; rfl, HB.out⟩
set_option maxHeartbeats 400000 in
theorem r02text_any (s : ByteArray) (hs : s.size ≤ 4294967296) (w : World) : Calls Tryz.prog 47 #[.string s] w fun e w' => e = .returned (.string (textB s)) ∧ Below w.heap.size w w' := by
  go_enter Tryz.func47, Tryz.ntmps47
  go_wp2_with fail
  (with_reducible refine (r02num_any s.size (by omega) w).mono ?_)
  rintro e w1 ⟨rfl, hb⟩
  have HB := Lib.hid hb
  clear hb
  have h9 := numB_size s.size
  go_wp2_with fail
  go_ret
  exact ⟨rfl, HB.out⟩
end Go.Proofs.YtlbmfgiepcemdaaGreat
namespace Go.Proofs.YtlbmfgiepcemdaaGreat
open Go.RowKit

/-- the decimal digits of a number, with fuel -/
def decU : Nat → Nat → List UInt8
  | 0, _ => []
  | f + 1, n => if n < 10 then [UInt8.ofNat (48 + n)] else decU f (n / 10) ++ [UInt8.ofNat (48 + n % 10)]
theorem decU_len : ∀ f n, (decU f n).length ≤ f
  | 0, _ => by simp [decU]
  | f + 1, n => by
    rw [decU]
    split
    · simp
    · have := decU_len f (n / 10); simp; omega
theorem app_mk (q r : List UInt8) : (⟨q.toArray⟩ : ByteArray) ++ ⟨r.toArray⟩ = ⟨(q ++ r).toArray⟩ := by
  apply bytes_ext
  simp [ByteArray.toList_eq, ByteArray.data_append]
theorem conv1 (X : Int) (h0 : 0 ≤ X) (h1 : X < 256) (W : World) (b c : Nat) (hc : W.cell? ⟨b, 0, none⟩ = some (.int .u8 X)) : (convert 68 9 (.slice (some ⟨b, 0, none⟩) 1 c)).run Tryz.prog W = .ok (.string ⟨#[UInt8.ofNat X.toNat]⟩) W := by
  have := run_convert_bytes_back (P := Tryz.prog) W 68 9 5 ⟨b, 0, none⟩ c [UInt8.ofNat X.toNat] Tryz.underlying68 Tryz.underlying5 Tryz.underlying9 (fun j hj => by
    obtain rfl : j = 0 := by simpa using hj
    rw [Addr.add_lit]
    have e : (((UInt8.ofNat X.toNat).toNat : Nat) : Int) = X := by simp; omega
    simp only [List.getElem_cons_zero, e]
    exact hc)
  simpa using this

set_option maxHeartbeats 1000000 in
set_option maxRecDepth 100000 in
theorem rtxt_pos : ∀ (f n : Nat) (w : World), f ≤ 30 → n < 10 ^ (f + 1) → n ≤ 9223372036854775807 → Calls Tryz.prog 93 #[.int .i64 (n : Int)] w fun e w' => e = .returned (.string ⟨(decU (f + 1) n).toArray⟩) ∧ Below w.heap.size w w' := by
  intro f
  induction f with
  | zero =>
    intro n w _ hn _
    have hn10 : n < 10 := by simpa using hn
    have HE : Hid (decU (0 + 1) n = [UInt8.ofNat (48 + n)]) := Lib.hid (by rw [decU, if_pos hn10])
    have hcv := conv1 (48 + n) (by omega) (by omega)
    have hm : (48 + (n : Int)) % 256 = 48 + n := by omega
    rw [show ((48 : Int) + n).toNat = 48 + n by omega] at hcv
    obtain ⟨y, hy⟩ : ∃ y : UInt8, UInt8.ofNat (48 + n) = y := ⟨_, rfl⟩
    rw [hy] at hcv HE
    clear hn hy
    go_enter Tryz.func93, Tryz.ntmps93
    go_wp2_with fail
    go_ret
    exact ⟨by rw [HE.out]; rfl, (Below.refl _ _).alloc (Nat.le_refl _) _⟩
  | succ f ih =>
    intro n w hf hn hmx
    by_cases hn10 : n < 10
    · have HE : Hid (decU (f + 1 + 1) n = [UInt8.ofNat (48 + n)]) := Lib.hid (by rw [decU, if_pos hn10])
      have hcv := conv1 (48 + n) (by omega) (by omega)
      have hm : (48 + (n : Int)) % 256 = 48 + n := by omega
      rw [show ((48 : Int) + n).toNat = 48 + n by omega] at hcv
      obtain ⟨y, hy⟩ : ∃ y : UInt8, UInt8.ofNat (48 + n) = y := ⟨_, rfl⟩
      rw [hy] at hcv HE
      clear hn hy ih
      go_enter Tryz.func93, Tryz.ntmps93
      go_wp2_with fail
      go_ret
      exact ⟨by rw [HE.out]; rfl, (Below.refl _ _).alloc (Nat.le_refl _) _⟩
    · have hd : n / 10 < 10 ^ (f + 1) := by
        rw [Nat.pow_succ] at hn
        exact Nat.div_lt_of_lt_mul (by rw [Nat.mul_comm]; exact hn)
      have HC := Lib.hid (fun W => ih (n / 10) W (by omega) hd (by omega))
      rw [show ((n / 10 : Nat) : Int) = (n : Int) / 10 by omega] at HC
      have HE : Hid (decU (f + 1 + 1) n = decU (f + 1) (n / 10) ++ [UInt8.ofNat (48 + n % 10)]) := Lib.hid (by rw [decU, if_neg hn10])
      have hcv := conv1 (48 + (n : Int) % 10) (by omega) (by omega)
      have hm : (48 + (n : Int) % 10) % 256 = 48 + (n : Int) % 10 := by omega
      rw [show ((48 : Int) + (n : Int) % 10).toNat = 48 + n % 10 by omega] at hcv
      obtain ⟨y, hy⟩ : ∃ y : UInt8, UInt8.ofNat (48 + n % 10) = y := ⟨_, rfl⟩
      rw [hy] at hcv HE
      have hql := decU_len (f + 1) (n / 10)
      obtain ⟨q, hq⟩ : ∃ q, decU (f + 1) (n / 10) = q := ⟨_, rfl⟩
      rw [hq] at hql
      have hke : ¬ 9223372036854775807 < q.length + 1 := by omega
      rw [hq] at HC HE
      have hw1 : IntKind.i64.wrap ((n : Int) / 10) = (n : Int) / 10 := IntWalk.i64_in _ (by omega)
      have hw2 : IntKind.i64.wrap (48 + (n : Int) % 10) = 48 + (n : Int) % 10 := IntWalk.i64_in _ (by omega)
      have hw3 : (n : Int).tmod 10 = (n : Int) % 10 := Int.tmod_eq_emod_of_nonneg (by omega)
      have hw4 : IntKind.u8.wrap (48 + (n : Int) % 10) = 48 + (n : Int) % 10 := by rw [IntKind.wrap_u8]; omega
      clear hn hy ih hd hq
      go_enter Tryz.func93, Tryz.ntmps93
      go_wp2_with fail
      go_region_with (first | (go_at_call 93; (with_reducible refine (HC.out _).mono ?_); rintro e w4 ⟨rfl, hb4⟩; obtain ⟨hc4, hf4⟩ := bcell hb4; have B4 := Lib.hid hb4; clear hb4))
      all_goals (
        go_wp2_with fail
        go_ret
        refine ⟨?_, ?_⟩
        · rw [HE.out, ← app_mk]; rfl
        · first
            | exact ((Below.refl w.heap.size w).drew.trans (B4.out.mono (Nat.le_refl _))).alloc B4.out.size _
            | exact ((Below.refl w.heap.size w).drew.alloc (Nat.le_refl _) _).trans (B4.out.mono (by simp)))
theorem decU_one {f m : Nat} (h : m < 10) : decU (f + 1) m = [UInt8.ofNat (48 + m)] := by rw [decU, if_pos h]
set_option maxHeartbeats 1000000 in
set_option maxRecDepth 100000 in
theorem rtxt_neg1 (n : Int) (w : World) (h0 : n < 0) (h1 : -10 < n) : Calls Tryz.prog 93 #[.int .i64 n] w fun e w' => e = .returned (.string ⟨#[45, UInt8.ofNat (48 + (-n).toNat)]⟩) ∧ Below w.heap.size w w' := by
  have hcv := conv1 (48 - n) (by omega) (by omega)
  have hm : (48 - n) % 256 = 48 - n := by omega
  rw [show (48 - n).toNat = 48 + (-n).toNat by omega] at hcv
  obtain ⟨y, hy⟩ : ∃ y : UInt8, UInt8.ofNat (48 + (-n).toNat) = y := ⟨_, rfl⟩
  rw [hy] at hcv ⊢
  clear hy
  go_enter Tryz.func93, Tryz.ntmps93
  go_wp2_with fail
  go_ret
  exact ⟨rfl, (Below.refl _ _).alloc (Nat.le_refl _) _⟩
set_option maxHeartbeats 1000000 in
set_option maxRecDepth 100000 in
theorem rtxt_neg : ∀ (f : Nat) (n : Int) (w : World), f ≤ 30 → n < 0 → (-n).toNat < 10 ^ (f + 1) → -9223372036854775807 ≤ n + 1 → Calls Tryz.prog 93 #[.int .i64 n] w fun e w' => e = .returned (.string ⟨(45 :: decU (f + 1) (-n).toNat).toArray⟩) ∧ Below w.heap.size w w' := by
  intro f
  induction f with
  | zero =>
    intro n w _ h0 hn _
    have hn10 : (-n).toNat < 10 := by simpa using hn
    rw [decU_one hn10]
    exact rtxt_neg1 n w h0 (by omega)
  | succ f ih =>
    intro n w hf h0 hn hmx
    by_cases hn10 : (-n).toNat < 10
    · rw [decU_one hn10]
      exact rtxt_neg1 n w h0 (by omega)
    · have hd : (-n).toNat / 10 < 10 ^ (f + 1) := by
        rw [Nat.pow_succ] at hn
        exact Nat.div_lt_of_lt_mul (by rw [Nat.mul_comm]; exact hn)
      have hdv := tdiv10 (a := n) (by omega)
      have hmo : n.tmod 10 = -((-n) % 10) := by
        have := Int.mul_tdiv_add_tmod n 10
        omega
      have HE : Hid (decU (f + 1 + 1) (-n).toNat = decU (f + 1) ((-n).toNat / 10) ++ [UInt8.ofNat (48 + (-n).toNat % 10)]) := Lib.hid (by rw [decU, if_neg hn10])
      obtain ⟨a, ha⟩ : ∃ a, n.tdiv 10 = a := ⟨_, rfl⟩
      obtain ⟨r, hr⟩ : ∃ r, n.tmod 10 = r := ⟨_, rfl⟩
      rw [ha] at hdv
      rw [hr] at hmo
      have hat : (-n).toNat / 10 = (-a).toNat := by omega
      have hrt : 48 + (-n).toNat % 10 = (48 - r).toNat := by omega
      have ha0 : a < 0 := by omega
      have hr0 : -10 < r := by omega
      have hr1 : r ≤ 0 := by omega
      rw [hat] at hd HE
      rw [hrt] at HE
      have HC := Lib.hid (fun W => ih a W (by omega) ha0 hd (by omega))
      have hcv := conv1 (48 - r) (by omega) (by omega)
      have hw1 : IntKind.i64.wrap a = a := IntWalk.i64_in _ (by omega)
      have hw2 : IntKind.i64.wrap (48 - r) = 48 - r := IntWalk.i64_in _ (by omega)
      have hw4 : IntKind.u8.wrap (48 - r) = 48 - r := by rw [IntKind.wrap_u8]; omega
      have hm : (48 - r) % 256 = 48 - r := by omega
      obtain ⟨y, hy⟩ : ∃ y : UInt8, UInt8.ofNat (48 - r).toNat = y := ⟨_, rfl⟩
      rw [hy] at hcv HE
      have hql := decU_len (f + 1) (-a).toNat
      obtain ⟨q, hq⟩ : ∃ q, 45 :: decU (f + 1) (-a).toNat = q := ⟨_, rfl⟩
      have hql2 : q.length ≤ f + 2 := by rw [← hq, List.length_cons]; omega
      have HE2 : Hid (45 :: decU (f + 1 + 1) (-n).toNat = q ++ [y]) := Lib.hid (by rw [HE.out, ← hq]; rfl)
      rw [hq] at HC
      have hke : ¬ 9223372036854775807 < q.length + 1 := by omega
      have hn9 : n ≤ -10 := by omega
      clear hn hy ih hd hq HE hat hrt hdv hmo hql hql2 hn10
      go_enter Tryz.func93, Tryz.ntmps93
      go_wp2_with fail
      go_region_with (first | (go_at_call 93; (with_reducible refine (HC.out _).mono ?_); rintro e w4 ⟨rfl, hb4⟩; obtain ⟨hc4, hf4⟩ := bcell hb4; have B4 := Lib.hid hb4; clear hb4))
      all_goals (
        go_wp2_with fail
        go_ret
        refine ⟨?_, ?_⟩
        · rw [HE2.out, ← app_mk]; rfl
        · first
            | exact ((Below.refl w.heap.size w).drew.trans (B4.out.mono (Nat.le_refl _))).alloc B4.out.size _
            | exact ((Below.refl w.heap.size w).drew.alloc (Nat.le_refl _) _).trans (B4.out.mono (by simp)))
/-- the decimal form of a number -/
def textL (n : Int) : List UInt8 := if n < 0 then 45 :: decU 20 (-n).toNat else decU 20 n.toNat
theorem rtxt_any (n : Int) (w : World) (h0 : -9223372036854775807 ≤ n + 1) (h1 : n ≤ 9223372036854775807) : Calls Tryz.prog 93 #[.int .i64 n] w fun e w' => e = .returned (.string ⟨(textL n).toArray⟩) ∧ Below w.heap.size w w' := by
  have e : 10 ^ (19 + 1) = 100000000000000000000 := by decide
  by_cases h : n < 0
  · unfold textL
    rw [if_pos h]
    exact rtxt_neg 19 n w (by omega) h (by rw [e]; omega) h0
  · obtain ⟨m, rfl⟩ := Int.eq_ofNat_of_zero_le (show 0 ≤ n by omega)
    unfold textL
    rw [if_neg h, Int.toNat_natCast]
    exact rtxt_pos 19 m w (by omega) (by rw [e]; omega) (by omega)
end Go.Proofs.YtlbmfgiepcemdaaGreat
