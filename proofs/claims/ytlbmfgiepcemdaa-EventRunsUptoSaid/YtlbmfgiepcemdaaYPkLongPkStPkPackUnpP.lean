/- press.index.longest: what it hands back is a match. Conditions: those in each statement. What the rounds of press.Pack keep; its closure literal. Conditions: those in each statement. press.Pack: tokens that stand for the text. Conditions: those in each statement. Rows of bytes of the call's own; tokens read one by one. Conditions: those in each statement. -/
import Derived.Test.YtlbmfgiepcemdaaYPkAdv
import Derived.Test.YtlbmfgiepcemdaaDecQ
import Derived.Test.YtlbmfgiepcemdaaBldE
import Derived.Test.YtlbmfgiepcemdaaDecB
import Derived.Deep.AppendLies
namespace Go.Proofs.Ytlbmfgiepcemdaa
open Go.RowKit Go.Sort

/-- L bytes at i stand d bytes ahead of it, too -/
def Mt (s : ByteArray) (i L d : Nat) : Prop := L = 0 ∨ (1 ≤ d ∧ d ≤ i ∧ i + L ≤ s.size ∧ ∀ j, j < L → byteAt s (i - d + j) = byteAt s (i + j))
def LongPost (s : ByteArray) (i : Nat) (w : World) (e : Ending) (w' : World) : Prop := ∃ L d : Nat, e = .returned (.tuple #[.int .i64 L, .int .i64 d]) ∧ Mt s i L d ∧ L ≤ s.size ∧ ∃ n, w' = w.drewN n
theorem byteAt_drop (s : ByteArray) (i j : Nat) : byteAt (s.extract i s.size) j = byteAt s (i + j) := by
  unfold byteAt
  rw [extract_drop, List.getD_eq_getElem?_getD, List.getD_eq_getElem?_getD, List.getElem?_drop]
set_option maxHeartbeats 8000000 in
set_option maxRecDepth 100000 in
theorem longest_any (s : ByteArray) (b m i : Nat) (w : World) (hs : s.size ≤ 16777216) (hi : i < s.size) (h : ∃ N arr pv, N ≤ i ∧ IxAt w b m s N arr pv) :
    Calls Try.prog 32 #[.pointer (some ⟨b, 0, none⟩), .int .i64 i] w (LongPost s i w) := by
  obtain ⟨N, arr, pv, hN, hx⟩ := h
  have HX := Lib.hid hx
  have e0 : w.cell? ⟨b, 0, none⟩ = some (.string s) := (hx.cell 0).trans hx.c0
  by_cases h4 : (s.size : Int) < (i : Int) + 4
  · clear hx
    go_enter Try.func32, Try.ntmps32
    go_wp2_with fail
    go_ret2
    exact ⟨0, 0, rfl, .inl rfl, by omega, 0, rfl⟩
  · have e1 : w.cell? ⟨b, 1, none⟩ = some (.map (some m)) := (hx.cell 1).trans hx.c1
    have d0 : ∀ n, (w.drewN n).cell? ⟨b, 0, none⟩ = some (.string s) := fun n => ((hx.drewN n).cell 0).trans hx.c0
    have d1 : ∀ n, (w.drewN n).cell? ⟨b, 1, none⟩ = some (.map (some m)) := fun n => ((hx.drewN n).cell 1).trans hx.c1
    have K1 := Lib.hid (fun n => Calls.quiet_of (key_any s b i (w.drewN n) (d0 n) (by omega) hs))
    generalize keyN s i = kk at *
    have HTB : Hid (∀ j, byteAt (s.extract i s.size) j = byteAt s (i + j)) := Lib.hid (byteAt_drop s i)
    have hTz : (s.extract i s.size).size + i = s.size := by rw [ByteArray.size_extract]; omega
    obtain ⟨T, hT⟩ : ∃ T, s.extract i s.size = T := ⟨_, rfl⟩
    rw [hT] at HTB hTz
    clear hx
    go_enter Try.func32, Try.ntmps32
    rcases lookup_dn (P := Try.prog) (T := 81) Try.underlying81 Try.underlying104 HX.out.mp (fun W => by kernel_rfl) kk with ⟨v, hv0, hv1, hrun⟩ | hrun
    · go_wp2_with fail
      go_quiet ((go_at_call 51; with_reducible exact K1.out _))
      go_wp2_with fail
      have hrest : T.size ≤ 16777216 := by omega
      have HW0 : Hid (∃ n, w.drewN nq = w.drewN n) := Lib.hid ⟨nq, rfl⟩
      clear hT d0 d1 e0 e1 K1 hrun
      generalize hw0 : World.drewN w nq = w0 at *
      clear hw0
      go_loopw [6, 9, 10] (fun s6 s9 s10 wr => ∃ (c : Int) (L d : Nat), -1 ≤ c ∧ c < N ∧ s6 = .int .i64 c ∧ s9 = .int .i64 L ∧ s10 = .int .i64 d ∧ L < T.size ∧ Hid (Mt s i L d) ∧ Hid (∃ n, wr = w.drewN n)) (fun s6 _ _ _ => (intOf s6 + 1).toNat)
      case atStart => exact ⟨v, 0, 0, by omega, by omega, rfl, rfl, rfl, by omega, Lib.hid (.inl rfl), HW0⟩
      case round =>
        rename World => wo
        obtain ⟨c, L, d, hc0, hc1, rfl, rfl, rfl, hL, HM, HW⟩ := hrel
        by_cases hcn : 0 ≤ c
        · obtain ⟨c, rfl⟩ : ∃ k : Nat, c = k := ⟨c.toNat, by omega⟩
          by_cases hwin : (i : Int) - (c : Int) ≤ 4096
          · have hwd : decide ((i : Int) - (c : Int) ≤ 4096) = true := by simpa using hwin
            have HXr : Hid (IxAt wo b m s N arr pv) := Lib.hid (by obtain ⟨n, hn⟩ := HW.out; rw [hn]; exact HX.out.drewN n)
            have e0 : wo.cell? ⟨b, 0, none⟩ = some (.string s) := (HXr.out.cell 0).trans HXr.out.c0
            have d0 : ∀ n, (wo.drewN n).cell? ⟨b, 0, none⟩ = some (.string s) := fun n => ((HXr.out.drewN n).cell 0).trans HXr.out.c0
            have hlo := HXr.out.lo c (by omega) (by omega)
            have dp : ∀ n, (wo.drewN n).cell? ⟨b, 2 + c % 4096, none⟩ = some (.int .i64 (pv (c % 4096))) := fun n => ((HXr.out.drewN n).cell _).trans (HXr.out.cp _ (by omega))
            have I1 : ∀ W : World, (Instr.index 9 (.string s) (.int .i64 ((c : Int) + (L : Int)))).run Try.prog W = .ok (.int .u8 (byteAt s (c + L))) W := fun W => by
              have := index_str s (c + L) (by omega) W
              rwa [Int.natCast_add] at this
            have I2 : ∀ W : World, (Instr.index 9 (.string T) (.int .i64 (L : Int))).run Try.prog W = .ok (.int .u8 (byteAt T L)) W := fun W => index_str T L (by omega) W
            have q1 : IntKind.i64.wrap ((c : Int) + (L : Int)) = (c : Int) + (L : Int) := IntWalk.i64_in _ (by omega)
            cases hxy : (byteAt s (c + L) == byteAt T L) with
            | false =>
              go_wp2_with fail
              go_quiet (fail)
              have HW2 : Hid (∃ n, wo.drewN nq = w.drewN n) := Lib.hid (by obtain ⟨n, hn⟩ := HW.out; exact ⟨n + nq, by rw [hn, World.drewN_drewN]⟩)
              have hLT : ((L : Int) == (T.size : Int)) = false := by rw [beq_eq_false_iff_ne]; omega
              clear e0 d0 I1 I2 q1
              go_wp2_with fail
              exact ⟨⟨pv (c % 4096), L, d, by omega, by omega, rfl, rfl, rfl, hL, HM, HW2⟩, by simp [intOf]; omega⟩
            | true =>
              go_wp2_with fail
              go_quiet (fail)
              have HW2 : Hid (∃ n, wo.drewN nq = w.drewN n) := Lib.hid (by obtain ⟨n, hn⟩ := HW.out; exact ⟨n + nq, by rw [hn, World.drewN_drewN]⟩)
              go_wp2_with fail
              clear e0 d0 I1 I2 q1 hxy dp
              generalize hw1 : World.drewN wo nq = w1 at *
              clear hw1
              go_loopw [11] (fun s11 wr => ∃ n : Nat, s11 = .int .i64 n ∧ n ≤ T.size ∧ Hid (∀ j, j < n → byteAt s (c + j) = byteAt T j) ∧ Hid (∃ n, wr = w.drewN n)) (fun s11 _ => T.size - (intOf s11).toNat)
              case atStart => exact ⟨0, rfl, by omega, Lib.hid (fun j hj => absurd hj (by omega)), HW2⟩
              case round =>
                obtain ⟨n, rfl, hn, HEQ, HWn⟩ := hrel
                have HXn : Hid (IxAt wr b m s N arr pv) := Lib.hid (by obtain ⟨k, hk⟩ := HWn.out; rw [hk]; exact HX.out.drewN k)
                have e0 : wr.cell? ⟨b, 0, none⟩ = some (.string s) := (HXn.out.cell 0).trans HXn.out.c0
                have d0 : ∀ n, (wr.drewN n).cell? ⟨b, 0, none⟩ = some (.string s) := fun n => ((HXn.out.drewN n).cell 0).trans HXn.out.c0
                have dp : ∀ n, (wr.drewN n).cell? ⟨b, 2 + c % 4096, none⟩ = some (.int .i64 (pv (c % 4096))) := fun n => ((HXn.out.drewN n).cell _).trans (HXn.out.cp _ (by omega))
                have HWn2 : Hid (∀ q, ∃ n, wr.drewN q = w.drewN n) := Lib.hid (fun q => by obtain ⟨k, hk⟩ := HWn.out; exact ⟨k + q, by rw [hk, World.drewN_drewN]⟩)
                by_cases hnl : n < T.size
                · have hnl1 : decide (n < T.size) = true := by simpa using hnl
                  have hnl2 : decide ((n : Int) < (T.size : Int)) = true := by simp; omega
                  have I1 : ∀ W : World, (Instr.index 9 (.string s) (.int .i64 ((c : Int) + (n : Int)))).run Try.prog W = .ok (.int .u8 (byteAt s (c + n))) W := fun W => by
                    have := index_str s (c + n) (by omega) W
                    rwa [Int.natCast_add] at this
                  have I2 : ∀ W : World, (Instr.index 9 (.string T) (.int .i64 (n : Int))).run Try.prog W = .ok (.int .u8 (byteAt T n)) W := fun W => index_str T n (by omega) W
                  have q1 : IntKind.i64.wrap ((c : Int) + (n : Int)) = (c : Int) + (n : Int) := IntWalk.i64_in _ (by omega)
                  cases hxy : (byteAt s (c + n) == byteAt T n) with
                  | true =>
                    have HEQ2 : Hid (∀ j, j < n + 1 → byteAt s (c + j) = byteAt T j) := Lib.hid (fun j hj => by
                      rcases Nat.lt_or_ge j n with h | h
                      · exact HEQ.out j h
                      · obtain rfl : j = n := by omega
                        exact eq_of_beq hxy)
                    go_wp2_with fail
                    go_quiet (fail)
                    have HW3 := Lib.hid (HWn2.out nq)
                    go_wp2_with fail
                    exact ⟨⟨n + 1, by go_num, by omega, HEQ2, HW3⟩, by simp [intOf]; omega⟩
                  | false =>
                    by_cases hLn : L < n
                    · have hLn1 : decide (L < n) = true := by simpa using hLn
                      have HM2 : Hid (Mt s i n (i - c)) := Lib.hid (.inr ⟨by omega, by omega, by omega, fun j hj => by rw [show i - (i - c) + j = c + j by omega, HEQ.out j hj, HTB.out]⟩)
                      by_cases hnT : n = T.size
                      · have hnT1 : ((n : Int) == (T.size : Int)) = true := by simp [hnT]
                        clear hnT
                        go_wp2_with fail
                        go_quiet (fail)
                        have HW3 := Lib.hid (HWn2.out nq)
                        go_wp2_with fail
                        go_ret2
                        exact ⟨n, i - c, by rw [show ((i - c : Nat) : Int) = (i : Int) - (c : Int) by omega]; rfl, HM2.out, by omega, HW3.out⟩
                      · have hnT1 : ((n : Int) == (T.size : Int)) = false := by rw [beq_eq_false_iff_ne]; omega
                        go_wp2_with fail
                        go_quiet (fail)
                        have HW3 := Lib.hid (HWn2.out nq)
                        go_wp2_with fail
                        exact ⟨⟨pv (c % 4096), n, i - c, by omega, by omega, rfl, rfl, by rw [show ((i - c : Nat) : Int) = (i : Int) - (c : Int) by omega], by omega, HM2, HW3⟩, by simp [intOf]; omega⟩
                    · have hLn1 : decide (L < n) = false := by simpa using hLn
                      have hLT : ((L : Int) == (T.size : Int)) = false := by rw [beq_eq_false_iff_ne]; omega
                      go_wp2_with fail
                      go_quiet (fail)
                      have HW3 := Lib.hid (HWn2.out nq)
                      go_wp2_with fail
                      exact ⟨⟨pv (c % 4096), L, d, by omega, by omega, rfl, rfl, rfl, hL, HM, HW3⟩, by simp [intOf]; omega⟩
                · have hnl1 : decide (n < T.size) = false := by simpa using hnl
                  have hnl2 : decide ((n : Int) < (T.size : Int)) = false := by simp; omega
                  have hLn : L < n := by omega
                  have hLn1 : decide (L < n) = true := by simpa using hLn
                  have HM2 : Hid (Mt s i n (i - c)) := Lib.hid (.inr ⟨by omega, by omega, by omega, fun j hj => by rw [show i - (i - c) + j = c + j by omega, HEQ.out j hj, HTB.out]⟩)
                  have hnT1 : ((n : Int) == (T.size : Int)) = true := by rw [beq_iff_eq]; omega
                  go_wp2_with fail
                  go_quiet (fail)
                  have HW3 := Lib.hid (HWn2.out nq)
                  go_wp2_with fail
                  go_ret2
                  exact ⟨n, i - c, by rw [show ((i - c : Nat) : Int) = (i : Int) - (c : Int) by omega]; rfl, HM2.out, by omega, HW3.out⟩
          · have hwd : decide ((i : Int) - (c : Int) ≤ 4096) = false := by simpa using hwin
            go_wp2_with fail
            go_ret2
            exact ⟨L, d, rfl, HM.out, by omega, HW.out⟩
        · have hcd : decide ((0 : Int) ≤ c) = false := by simpa using hcn
          go_wp2_with fail
          go_ret2
          exact ⟨L, d, rfl, HM.out, by omega, HW.out⟩
    · go_wp2_with fail
      go_quiet ((go_at_call 51; with_reducible exact K1.out _))
      go_wp2_with fail
      go_ret2
      exact ⟨0, 0, rfl, .inl rfl, by omega, _, rfl⟩
end Go.Proofs.Ytlbmfgiepcemdaa
namespace Go.Proofs.Ytlbmfgiepcemdaa
open Go.RowKit Go.Sort

theorem builder_chg {T e : TypeId} {B b : Nat} {bs : List Value} {w w' : World} {M : Nat → Prop} (h : Lib.IsBuilderF T e B b bs w) (hc : Chg M w w') (hM : ∀ k, M k → k ≠ b ∧ ∃ o, w.heap[k]? = some o ∧ ∀ c fz, o ≠ .cells c e fz) : Lib.IsBuilderF T e B b bs w' := by
  have key : ∀ p, Lib.BuilderAtF T e B b p bs w → Lib.BuilderAtF T e B b p bs w' := fun p h => by
    obtain ⟨h1, v, h2, h3, h4⟩ := h
    refine ⟨h1, v, (hc.block b (Array.getElem?_eq_some_iff.1 h2).1 (fun hm => (hM b hm).1 rfl)).trans h2, ⟨h3.1, ?_⟩, h4⟩
    rcases h3.2 with hn | ⟨g, cap, cur, fz, rfl, hb, hgg, rest⟩
    · exact .inl hn
    · refine .inr ⟨g, cap, cur, fz, rfl, hb, (hc.block g (Array.getElem?_eq_some_iff.1 hgg).1 (fun hm => ?_)).trans hgg, rest⟩
      obtain ⟨_, o, ho, hne⟩ := hM g hm
      rw [hgg] at ho
      exact hne _ _ (Option.some.inj ho).symm
  exact h.elim (fun h => .inl (key _ h)) (fun h => .inr (key _ h))
/-- the builder b, the text's box sb, the index ix with its map m -/
structure Pk (w : World) (b sb ix m : Nat) (s : ByteArray) (W : World) (bs : List UInt8) (i : Nat) : Prop where
  low : Below w.heap.size w W
  at_ : Lib.IsBuilderF 64 5 w.heap.size b (Lib.byteCells bs) W
  bx : CellsAt W sb #[.string s] 9
  idx : ∃ N arr pv, N ≤ i ∧ IxAt W ix m s N arr pv
  ne : b ≠ sb ∧ b ≠ ix ∧ b ≠ m ∧ sb ≠ ix ∧ sb ≠ m ∧ w.heap.size ≤ ix ∧ w.heap.size ≤ m
section
variable {w W W' : World} {b sb ix m : Nat} {s : ByteArray} {bs : List UInt8} {i : Nat}
theorem Pk.below (h : Pk w b sb ix m s W bs i) (hb : Below W.heap.size W W') : Pk w b sb ix m s W' bs i := by
  obtain ⟨N, arr, pv, h1, h2⟩ := h.idx
  exact ⟨h.low.trans (hb.mono h.low.size), builderF_below h.at_ hb, h.bx.keep (Chg.of_below (M := fun _ => False) hb) (fun h => h), ⟨N, arr, pv, h1, h2.same (hb.block _ h2.blt) (hb.block _ h2.mp.lt)⟩, h.ne⟩
theorem Pk.chg {j : Nat} (h : Pk w b sb ix m s W bs i) (hc : IxTo ix m s j W W') : Pk w b sb ix m s W' bs j := by
  obtain ⟨hc, hx⟩ := hc
  obtain ⟨N, arr, pv, h1, h2⟩ := h.idx
  obtain ⟨n1, n2, n3, n4, n5, n6, n7⟩ := h.ne
  have hm2 := h2.mp
  obtain ⟨es, clock, hes, _⟩ := hm2
  refine ⟨h.low.trans (hc.below h.low.size (fun j hj => by omega)), builder_chg h.at_ hc (fun k hk => ?_), h.bx.keep hc (by omega), hx, h.ne⟩
  rcases hk with rfl | rfl
  · exact ⟨fun e => n2 e.symm, _, h2.blk, fun c fz e => by injection e with _ e _; exact absurd e (by decide)⟩
  · exact ⟨fun e => n3 e.symm, _, hes, fun c fz e => by cases e⟩
theorem Pk.draws (h : Pk w b sb ix m s W bs i) (n : Nat) : Pk w b sb ix m s (W.drewN n) bs i := h.below (below_drewN (Below.refl _ _) n)
theorem Pk.wrote {cs : List UInt8} (h : Pk w b sb ix m s W bs i) (k : BldE w.heap.size b W W' cs) : Pk w b sb ix m s W' cs i := by
  obtain ⟨N, arr, pv, h1, h2⟩ := h.idx
  obtain ⟨n1, n2, n3, n4, n5, n6, n7⟩ := h.ne
  have hm2 := h2.mp
  obtain ⟨es, clock, hes, _⟩ := hm2
  refine ⟨h.low.trans k.low, k.at_, k.oth sb _ h.bx (fun e => n1 (Option.some.inj e).symm) (fun c fz e => by injection e with _ e _; exact absurd e (by decide)), ⟨N, arr, pv, h1, h2.same ?_ ?_⟩, h.ne⟩
  · exact (k.oth ix _ h2.blk (fun e => n2 (Option.some.inj e).symm) (fun c fz e => by injection e with _ e _; exact absurd e (by decide))).trans h2.blk.symm
  · exact (k.oth m _ hes (fun e => n3 (Option.some.inj e).symm) (fun c fz e => by cases e)).trans hes.symm
theorem Pk.mono {j : Nat} (h : Pk w b sb ix m s W bs i) (hj : i ≤ j) : Pk w b sb ix m s W bs j := by
  obtain ⟨N, arr, pv, h1, h2⟩ := h.idx
  exact ⟨h.low, h.at_, h.bx, ⟨N, arr, pv, by omega, h2⟩, h.ne⟩
/-- the builder, from here on -/
theorem Pk.bld (h : Pk w b sb ix m s W bs i) : BldE w.heap.size b W W bs := ⟨h.at_, Below.refl _ _, Lib.OthersKept.refl _ _ _, h.low.size⟩
end
/-- a literal's token -/
def litB (s : ByteArray) (a z : Nat) : List UInt8 := if a < z then (numB (2 * (z - a))).data.toList ++ (s.extract a z).data.toList else []
def PkPost (w : World) (b sb ix m : Nat) (s : ByteArray) (bs : List UInt8) (i : Nat) (e : Ending) (W : World) : Prop := e = .returned (.tuple #[]) ∧ Pk w b sb ix m s W bs i
set_option maxHeartbeats 4000000 in
set_option maxRecDepth 100000 in
theorem literal_any (w W : World) (b sb ix m : Nat) (s : ByteArray) (bs : List UInt8) (i a z : Nat) (h : Pk w b sb ix m s W bs i) (ha : a ≤ z) (hz : z ≤ s.size) (hs : s.size ≤ 16777216) (hl : bs.length ≤ 1000000000) :
    Calls Try.prog 30 #[.int .i64 a, .int .i64 z, .pointer (some ⟨b, 0, none⟩), .pointer (some ⟨sb, 0, none⟩)] W (PkPost w b sb ix m s (bs ++ litB s a z) i) := by
  have H := Lib.hid h
  clear h
  unfold litB
  by_cases haz : a < z
  · have hzi : (a : Int) < z := by omega
    have hn : (2 : Int) * ((z : Int) - (a : Int)) = ((2 * (z - a) : Nat) : Int) := by omega
    have KN : Hid (∀ V, Calls Try.prog 21 #[.int .i64 (2 * ((z : Int) - (a : Int)))] V fun e w' => e = .returned (.string (numB (2 * (z - a)))) ∧ Below V.heap.size V w') := Lib.hid (fun V => by rw [hn]; exact num_any _ (by omega) V)
    have hns := numB_size (2 * (z - a))
    have hxz : (s.extract a z).size ≤ s.size := by rw [ByteArray.size_extract]; omega
    rw [if_pos haz]
    generalize numB (2 * (z - a)) = nb at *
    have ha0 : (0 : Int) ≤ a := by omega
    have hzs : (z : Int) ≤ s.size := by omega
    clear hn
    go_enter Try.func30, Try.ntmps30
    go_wp2_with fail
    (with_reducible refine (KN.out _).mono ?_)
    rintro e w1 ⟨rfl, hb1⟩
    have H1 := Lib.hid (H.out.below hb1)
    clear hb1
    go_wp2_with fail
    (with_reducible refine (writeE_any H1.out.bld nb (by omega)).mono ?_)
    rintro e w2 ⟨rfl, hb2⟩
    have H2 := Lib.hid (H1.out.wrote hb2)
    have c2 : w2.cell? ⟨sb, 0, none⟩ = some (.string s) := by rw [H2.out.bx.cell]; rfl
    clear hb2
    have hl2 : (bs ++ nb.data.toList).length ≤ 1000000009 := by rw [List.length_append, size_toList]; omega
    go_wp2_with fail
    (with_reducible refine (writeE_any H2.out.bld (s.extract a z) (by omega)).mono ?_)
    rintro e w3 ⟨rfl, hb3⟩
    have H3 := Lib.hid (H2.out.wrote hb3)
    clear hb3 c2 hl2
    go_wp2_with fail
    exact bodyPost_ret (v := .tuple #[]) (by simp [results, Try.results30, go_sem]) rfl ⟨rfl, by rw [← List.append_assoc]; exact H3.out⟩
  · have hzi : ¬ (a : Int) < z := by omega
    rw [if_neg haz, List.append_nil]
    go_enter Try.func30, Try.ntmps30
    go_wp2_with fail
    exact bodyPost_ret (v := .tuple #[]) (by simp [results, Try.results30, go_sem]) rfl ⟨rfl, H.out⟩
end Go.Proofs.Ytlbmfgiepcemdaa
namespace Go.Proofs.Ytlbmfgiepcemdaa
open Go.RowKit Go.Sort

/-- tokens for the first k bytes -/
inductive Tok (s : ByteArray) : Nat → List UInt8 → Prop where
  | nil : Tok s 0 []
  | lit {k : Nat} {bs : List UInt8} (h : Tok s k bs) (n : Nat) (h1 : 1 ≤ n) (h2 : k + n ≤ s.size) : Tok s (k + n) (bs ++ ((numB (2 * n)).data.toList ++ (s.extract k (k + n)).data.toList))
  | mat {k : Nat} {bs : List UInt8} (h : Tok s k bs) (L d : Nat) (h1 : 1 ≤ L) (hm : Mt s k L d) : Tok s (k + L) (bs ++ ((numB (2 * L + 1)).data.toList ++ (numB d).data.toList))
theorem Tok.literal {s : ByteArray} {k i : Nat} {bs : List UInt8} (h : Tok s k bs) (h1 : k ≤ i) (h2 : i ≤ s.size) : Tok s i (bs ++ litB s k i) := by
  unfold litB
  by_cases hk : k < i
  · rw [if_pos hk]
    have := h.lit (i - k) (by omega) (by omega)
    rwa [show k + (i - k) = i by omega] at this
  · obtain rfl : k = i := by omega
    rw [if_neg hk, List.append_nil]; exact h
theorem litB_len (s : ByteArray) (a z : Nat) (hz : z ≤ s.size) : (litB s a z).length ≤ 20 * (z - a) := by
  unfold litB
  split
  · have := numB_size (2 * (z - a))
    rw [List.length_append, size_toList, size_toList, ByteArray.size_extract]; omega
  · exact Nat.zero_le _
theorem z84 : (Try.zeroCells84.toList.drop 2) = List.replicate 4097 (.int .i64 0) := by kernel_rfl
theorem z84_at (j : Nat) (hj : j < 4097) : Try.zeroCells84[2 + j]? = some (.int .i64 0) := by
  have h := congrArg (fun l => l[j]?) z84
  simp only [List.getElem?_drop, Array.getElem?_toList, List.getElem?_replicate, if_pos hj] at h
  exact h
noncomputable def idx0 (s : ByteArray) (m : Nat) : Array Value := (Try.zeroCells84.setIfInBounds 0 (.string s)).setIfInBounds 1 (.map (some m))
theorem idx0_at (W : World) (s : ByteArray) (m ix : Nat) (hb : W.heap[ix]? = some (.cells (idx0 s m) 84 (0, 0))) (hm : MapN W m 0) (hne : ix ≠ m) : IxAt W ix m s 0 (idx0 s m) (fun _ => 0) := by
  have hz : Try.zeroCells84.size = 4099 := Try.zeroCells84_size
  refine ⟨hb, by simp [idx0, hz], ?_, ?_, ?_, fun j hj => ?_, fun o ho => absurd ho (by omega), hm, hne⟩
  · unfold idx0
    rw [Array.getElem?_setIfInBounds_ne (by omega), Array.getElem?_setIfInBounds_self_of_lt (by omega)]
  · unfold idx0
    rw [Array.getElem?_setIfInBounds_self_of_lt (by simp [hz])]
  · unfold idx0
    rw [Array.getElem?_setIfInBounds_ne (by omega), Array.getElem?_setIfInBounds_ne (by omega)]
    exact z84_at 4096 (by omega)
  · unfold idx0
    rw [Array.getElem?_setIfInBounds_ne (by omega), Array.getElem?_setIfInBounds_ne (by omega)]
    exact z84_at j (by omega)
theorem builder_lower {T e : TypeId} {B B' b : Nat} {bs : List Value} {w : World} (h : Lib.IsBuilderF T e B b bs w) (hB : B' ≤ B) : Lib.IsBuilderF T e B' b bs w := by
  have key : ∀ p, Lib.BuilderAtF T e B b p bs w → Lib.BuilderAtF T e B' b p bs w := fun p h => by
    obtain ⟨h1, v, h2, h3, h4⟩ := h
    refine ⟨by omega, v, h2, ⟨h3.1, ?_⟩, h4⟩
    rcases h3.2 with hn | ⟨g, cap, cur, fz, rfl, hb, rest⟩
    · exact .inl hn
    · exact .inr ⟨g, cap, cur, fz, rfl, by omega, rest⟩
  exact h.elim (fun h => .inl (key _ h)) (fun h => .inr (key _ h))
def PackPost (s : ByteArray) (w : World) (e : Ending) (w' : World) : Prop := ∃ bs, Tok s s.size bs ∧ bs.length ≤ 20 * s.size ∧ e = .returned (.string ⟨((numB s.size).data.toList ++ bs).toArray⟩) ∧ Below w.heap.size w w'
set_option maxHeartbeats 8000000 in
set_option maxRecDepth 100000 in
theorem pack_any (s : ByteArray) (w : World) (hs : s.size ≤ 16777216) : Calls Try.prog 13 #[.string s] w (PackPost s w) := by
  have hmm := @run_makeMap Try.prog
  have KN : Hid (∀ W, Calls Try.prog 21 #[.int .i64 (s.size : Int)] W fun e w' => e = .returned (.string (numB s.size)) ∧ Below W.heap.size W w') := Lib.hid (fun W => num_any s.size (by omega) W)
  have hns := numB_size s.size
  have HPP : Hid (∀ e w', PackPost s w e w' = ∃ bs, Tok s s.size bs ∧ bs.length ≤ 20 * s.size ∧ e = .returned (.string ⟨((numB s.size).data.toList ++ bs).toArray⟩) ∧ Below w.heap.size w w') := Lib.hid (fun _ _ => rfl)
  have h0 : ¬ (16777216 : Int) < s.size := by omega
  obtain ⟨nb, hnb⟩ : ∃ nb, numB s.size = nb := ⟨_, rfl⟩
  rw [hnb] at KN hns HPP
  have HX0 : Hid (∀ m, idx0 s m = (Try.zeroCells84.setIfInBounds 0 (.string s)).setIfInBounds 1 (.map (some m))) := Lib.hid (fun _ => rfl)
  clear hnb
  go_enter Try.func13, Try.ntmps13
  go_wp2_with fail
  (with_reducible refine (KN.out _).mono ?_)
  rintro e w1 ⟨rfl, hb1⟩
  have hbx0 : CellsAt (w.alloc (.cells #[.string s] 9)) w.heap.size #[.string s] 9 := CellsAt.new _ _ _
  have hbl0 := BldE.new (w.alloc (.cells #[.string s] 9))
  have hbl1 := hbl0.below hb1
  have hbx1 : CellsAt w1 w.heap.size #[.string s] 9 := (hbx0.keep ((Chg.refl (fun _ => False) _).alloc _) (fun h => h)).keep (Chg.of_below (M := fun _ => False) hb1) (fun h => h)
  have hlo1 : Below w.heap.size w w1 := (((Below.refl _ _).alloc (Nat.le_refl _) _).alloc (by simp) _).trans (hb1.mono (by simp; omega))
  simp only [World.size_alloc] at hbl1
  have HBL := Lib.hid hbl1.self
  have HBX := Lib.hid hbx1
  have HLO := Lib.hid hlo1
  clear hbx0 hbl0 hbl1 hbx1 hlo1 hb1 KN
  go_wp2_with fail
  (with_reducible refine (writeE_any HBL.out nb (by simp; omega)).mono ?_)
  rintro e w2 ⟨rfl, hb2⟩
  obtain ⟨W3, hW3⟩ : ∃ W3, (w2.alloc (.map #[] 0)).alloc (.cells ((Try.zeroCells84.setIfInBounds 0 (.string s)).setIfInBounds 1 (.map (some w2.heap.size))) 84) = W3 := ⟨_, rfl⟩
  have hl2 := hb2.low.size
  have hbl : w.heap.size + 1 < w2.heap.size := by
    have h := hb2.le
    rcases hb2.at_ with h | h
    · obtain ⟨_, v, h2, _⟩ := h
      exact (Array.getElem?_eq_some_iff.1 h2).1
    · obtain ⟨_, v, h2, _⟩ := h
      exact (Array.getElem?_eq_some_iff.1 h2).1
  have hal : Below w2.heap.size w2 W3 := by rw [← hW3]; exact ((Below.refl _ _).alloc (Nat.le_refl _) _).alloc (by simp) _
  have hP3 : Pk w (w.heap.size + 1) w.heap.size (w2.heap.size + 1) w2.heap.size s W3 nb.data.toList 0 := by
    refine ⟨?_, ?_, ?_, ⟨0, idx0 s w2.heap.size, fun _ => 0, by omega, idx0_at W3 s w2.heap.size (w2.heap.size + 1) ?_ ?_ (by omega)⟩, ⟨by omega, by omega, by omega, by omega, by omega, by omega, by omega⟩⟩
    · exact (HLO.out.trans (hb2.low.mono (by omega))).trans (hal.mono (by omega))
    · exact builder_lower (builderF_below hb2.at_ hal) (by omega)
    · exact (hal.block _ (by omega)).trans (hb2.oth _ _ HBX.out (fun e => by have := Option.some.inj e; omega) (fun c fz e => by injection e with _ e _; exact absurd e (by decide)))
    · rw [← hW3]
      have := heap_alloc_new (w2.alloc (.map #[] 0)) (.cells (idx0 s w2.heap.size) 84)
      rw [World.size_alloc] at this
      exact this
    · rw [← hW3]
      exact (MapN.new w2 0).keep (((Below.refl _ _).alloc (Nat.le_refl _) _).block _ (by simp))
  have HP3 := Lib.hid hP3
  have x2 : w2.cell? ⟨w.heap.size, 0, none⟩ = some (.string s) := by
    have := hb2.oth _ _ HBX.out (fun e => by have := Option.some.inj e; omega) (fun c fz e => by injection e with _ e _; exact absurd e (by decide))
    rw [Lib.cell_of_heap this]; rfl
  clear hal hP3 hb2 HBL HBX HLO HX0 hl2
  go_wp2_with fail
  clear x2 hW3
  have hnb : nb.data.toList.length ≤ 9 := by rw [size_toList]; exact hns
  generalize hhd : nb.data.toList = hd at *
  go_loopw [6, 7] (fun s6 s7 wr => ∃ (st i : Nat) (bs : List UInt8), st ≤ i ∧ i ≤ s.size ∧ s6 = .int .i64 st ∧ s7 = .int .i64 i ∧ bs.length ≤ 20 * st ∧ Hid (Tok s st bs) ∧ Hid (Pk w (w.heap.size + 1) w.heap.size (w2.heap.size + 1) w2.heap.size s wr (hd ++ bs) i)) (fun _ s7 _ => s.size - (intOf s7).toNat)
  case atStart => exact ⟨0, 0, [], by omega, by omega, rfl, rfl, by simp, Lib.hid .nil, Lib.hid (by rw [List.append_nil]; exact HP3.out)⟩
  case round =>
    obtain ⟨st, i, bs, hst, hi, rfl, rfl, hbl2, HT, HP⟩ := hrel
    have x0 : wr.cell? ⟨w.heap.size, 0, none⟩ = some (.string s) := by rw [HP.out.bx.cell]; rfl
    by_cases hlt : i < s.size
    · have hlti : (i : Int) < s.size := by omega
      have KA := Lib.hid (advance_any s (w2.heap.size + 1) w2.heap.size i wr hs (by omega) HP.out.idx)
      go_wp2_with fail
      (with_reducible refine KA.out.mono ?_)
      rintro e w4 ⟨rfl, hx4⟩
      have P4 := Lib.hid (HP.out.chg hx4)
      have KL := Lib.hid (longest_any s (w2.heap.size + 1) w2.heap.size i w4 hs hlt P4.out.idx)
      clear hx4 KA x0
      go_wp2_with fail
      (with_reducible refine KL.out.mono ?_)
      rintro e w5 ⟨L, d, rfl, hm, hLs, n5, rfl⟩
      have P5 := Lib.hid (P4.out.draws n5)
      have HM := Lib.hid hm
      generalize hw5 : World.drewN w4 n5 = w5 at *
      clear hw5 KL hm
      by_cases h4 : L < 4
      · have h4i : (L : Int) < 4 := by omega
        go_wp2_with fail
        exact ⟨⟨st, i + 1, bs, by omega, by omega, rfl, by go_num, hbl2, HT, Lib.hid (P5.out.mono (by omega))⟩, by simp [intOf]; omega⟩
      · have h4i : ¬ (L : Int) < 4 := by omega
        have hmm2 := HM.out.resolve_left (by omega)
        have hd1 := hmm2.2.1
        have hiL := hmm2.2.2.1
        have hlen : (hd ++ bs).length ≤ 1000000000 := by rw [List.length_append]; omega
        have KC := Lib.hid (literal_any w w5 _ _ _ _ s (hd ++ bs) i st i P5.out hst hi hs hlen)
        have hTL := HT.out.literal hst hi
        have hll := litB_len s st i hi
        have HT2 := Lib.hid (Tok.mat hTL L d (by omega) HM.out)
        have hlen2 : (bs ++ litB s st i).length ≤ 20 * i := by rw [List.length_append]; omega
        have KN1 : Hid (∀ W, Calls Try.prog 21 #[.int .i64 (2 * (L : Int) + 1)] W fun e w' => e = .returned (.string (numB (2 * L + 1))) ∧ Below W.heap.size W w') := Lib.hid (fun W => by
          have := num_any (2 * L + 1) (by omega) W
          rwa [show ((2 * L + 1 : Nat) : Int) = 2 * (L : Int) + 1 by omega] at this)
        have KN2 : Hid (∀ W, Calls Try.prog 21 #[.int .i64 (d : Int)] W fun e w' => e = .returned (.string (numB d)) ∧ Below W.heap.size W w') := Lib.hid (fun W => num_any d (by omega) W)
        have z1 := numB_size (2 * L + 1)
        have z2 := numB_size d
        generalize numB (2 * L + 1) = n1 at *
        generalize numB d = n2 at *
        clear hTL hmm2
        go_wp2_with fail
        (with_reducible refine KC.out.mono ?_)
        rintro e w6 ⟨rfl, hp6⟩
        have P6 := Lib.hid hp6
        clear hp6 KC
        go_wp2_with fail
        (with_reducible refine (KN1.out _).mono ?_)
        rintro e w7 ⟨rfl, hb7⟩
        have P7 := Lib.hid (P6.out.below hb7)
        clear hb7
        have hlen3 : ((hd ++ bs) ++ litB s st i).length ≤ 20 * i + 9 := by rw [List.append_assoc, List.length_append]; omega
        go_wp2_with fail
        (with_reducible refine (writeE_any P7.out.bld n1 (by omega)).mono ?_)
        rintro e w8 ⟨rfl, hb8⟩
        have P8 := Lib.hid (P7.out.wrote hb8)
        clear hb8
        go_wp2_with fail
        (with_reducible refine (KN2.out _).mono ?_)
        rintro e w9 ⟨rfl, hb9⟩
        have P9 := Lib.hid (P8.out.below hb9)
        have hlen4 : (((hd ++ bs) ++ litB s st i) ++ n1.data.toList).length ≤ 20 * i + 18 := by rw [List.length_append, size_toList]; omega
        clear hb9
        go_wp2_with fail
        (with_reducible refine (writeE_any P9.out.bld n2 (by omega)).mono ?_)
        rintro e w10 ⟨rfl, hb10⟩
        have P10 := Lib.hid ((P9.out.wrote hb10).mono (show i ≤ i + L by omega))
        have P11 : Hid (Pk w (w.heap.size + 1) w.heap.size (w2.heap.size + 1) w2.heap.size s w10 (hd ++ (bs ++ litB s st i ++ (n1.data.toList ++ n2.data.toList))) (i + L)) := Lib.hid (by
          have := P10.out
          simp only [List.append_assoc] at this ⊢
          exact this)
        have hlen5 : (bs ++ litB s st i ++ (n1.data.toList ++ n2.data.toList)).length ≤ 20 * (i + L) := by simp only [List.length_append, size_toList] at hlen2 ⊢; omega
        generalize bs ++ litB s st i ++ (n1.data.toList ++ n2.data.toList) = bs2 at *
        clear hb10 hlen2 hlen3 hlen4 P10
        go_wp2_with fail
        exact ⟨⟨i + L, i + L, bs2, by omega, by omega, by go_num, by go_num, hlen5, HT2, P11⟩, by simp [intOf]; omega⟩
    · obtain rfl : i = s.size := by omega
      have hlen : (hd ++ bs).length ≤ 1000000000 := by rw [List.length_append]; omega
      have KC := Lib.hid (literal_any w wr _ _ _ _ s (hd ++ bs) s.size st s.size HP.out hst hi hs hlen)
      have HT2 := Lib.hid (HT.out.literal hst hi)
      have hll := litB_len s st s.size hi
      have hlen2 : (bs ++ litB s st s.size).length ≤ 20 * s.size := by rw [List.length_append]; omega
      go_wp2_with fail
      (with_reducible refine KC.out.mono ?_)
      rintro e w6 ⟨rfl, hp6⟩
      have P6 := Lib.hid hp6
      clear hp6 KC x0
      go_wp2_with fail
      (with_reducible refine (stringE_any P6.out.bld).mono ?_)
      rintro e w7 ⟨rfl, hb7⟩
      have HB7 := Lib.hid (P6.out.low.trans hb7)
      clear hb7
      go_wp2_with fail
      go_ret
      rw [HPP.out]
      exact ⟨bs ++ litB s st s.size, HT2.out, hlen2, by rw [← List.append_assoc]; rfl, HB7.out⟩
end Go.Proofs.Ytlbmfgiepcemdaa
namespace Go.Proofs.Ytlbmfgiepcemdaa
open Go.RowKit

/-- v is a row of the call's own that holds bs -/
def RowB (B : Nat) (w : World) (v : Value) (bs : List UInt8) : Prop := w.ownsRow B 5 1 v bs.length (Lib.byteCells bs)
theorem wp_append_byte {w : World} {ops : Array Oper} {rest : List Oper} {o : Oper} {a : Act} {Q : Exit → Act → World → Prop} (hgd : o.guard = none) (s x : Operand)
    (ho : o.op = .call { callee := .builtin .append, args := #[s, x], argTypes := #[62, 62] })
    (B : Nat) (hB : B ≤ w.heap.size) (v : Value) (bs : List UInt8) (hs : a.eval s = v) (hown : w.ownsRow B 5 1 v bs.length (Lib.byteCells bs))
    (b o' c : Nat) (y : UInt8) (hx : a.eval x = .slice (some ⟨b, o', none⟩) 1 c) (hc : w.cell? ⟨b, o', none⟩ = some (.int .u8 (y.toNat : Int))) (hl : bs.length ≤ 4294967296)
    (h : ∀ v' w', RowB B w' v' (bs ++ [y]) → w.grownBy w' v.ownBlock → wpList Try.prog ops Q rest (a.put o.dst v') w') : wpList Try.prog ops Q (o :: rest) a w := by
  obtain ⟨i0, hi0, hz0, hz1, hz2⟩ := info_parts infoB
  refine wpList_append_lies w hgd s x 62 ho B 5 i0 _ 1 1 Try.underlying62 hi0 hz0 hz1 hz2 rfl (by omega) v bs.length (Lib.byteCells bs) hs hown ⟨b, o', none⟩ 1 c [.int .u8 (y.toNat : Int)] hx rfl (fun j u hu => ?_) (fun u hu => by simp at hu; subst hu; rfl) (by omega) (by unfold maxLen; omega) (by omega) hB w.heap.size rfl ?_
  · cases j with
    | zero => simp at hu; subst hu; rw [Addr.add_lit]; exact hc
    | succ j => simp at hu
  · intro g cap w' h2 h3 _ _
    refine h _ w' ?_ h3
    unfold RowB
    rw [List.length_append, show Lib.byteCells (bs ++ [y]) = Lib.byteCells bs ++ [.int .u8 (y.toNat : Int)] by simp [Lib.byteCells]]
    exact h2
section
variable {B : Nat} {w w' : World} {v v' : Value} {bs : List UInt8} {M : Nat → Prop}
theorem RowB.form (h : RowB B w v bs) : ∃ A c, v = .slice A bs.length c := by
  rcases h.2 with ⟨rfl, h0⟩ | ⟨g, cap, cur, rfl, _⟩
  · exact ⟨none, 0, by rw [h0]⟩
  · exact ⟨_, _, rfl⟩
theorem RowB.own (h : RowB B w v bs) : ∀ q, v.ownBlock = some q → B ≤ q := by
  intro q hq
  rcases h.2 with ⟨rfl, _⟩ | ⟨g, cap, cur, rfl, hB, _⟩
  · cases hq
  · have : g = q := Option.some.inj hq
    omega
theorem RowB.chg (h : RowB B w v bs) (hc : Chg M w w') (hm : ∀ j, M j → j < B) : RowB B w' v bs := by
  refine ⟨h.1, ?_⟩
  rcases h.2 with hn | ⟨g, cap, cur, rfl, hB, hcur, rest⟩
  · exact .inl hn
  · exact .inr ⟨g, cap, cur, rfl, hB, (hc.block g (Array.getElem?_eq_some_iff.1 hcur).1 (fun h => by have := hm g h; omega)).trans hcur, rest⟩
theorem RowB.nil (B : Nat) (w : World) : RowB B w (.slice none 0 0) [] := World.ownsRow_nil _ _ _ _
theorem RowB.conv (h : RowB B w v bs) : (convert 62 9 v).run Try.prog w = .ok (.string ⟨bs.toArray⟩) w := by
  rcases h.2 with ⟨rfl, h0⟩ | ⟨g, cap, cur, rfl, _, hcur, hnc, hcm, hsz, htk⟩
  · obtain rfl := List.eq_nil_of_length_eq_zero h0
    simp [convert, Conv.bytesToString, run_underlying Try.underlying62, run_underlying Try.underlying9, run_underlying Try.underlying5, go_sem]
    rfl
  · exact run_convert_bytes_back (P := Try.prog) w 62 9 5 ⟨g, 0, none⟩ cap bs Try.underlying62 Try.underlying5 Try.underlying9 (fun j hj => World.ownsRow.cells (g := g) h rfl j _ (by simp [Lib.byteCells, hj]))
theorem RowB.at (h : RowB B w v bs) {j : Nat} (hj : j < bs.length) : ∃ g c, v = .slice (some ⟨g, 0, none⟩) bs.length c ∧ w.cell? ⟨g, j, none⟩ = some (.int .u8 (bs[j].toNat : Int)) := by
  have h2 := h.2
  rcases h2 with ⟨rfl, h0⟩ | ⟨g, cap, cur, rfl, _⟩
  · omega
  · have := World.ownsRow.cells (g := g) h rfl j (.int .u8 (bs[j].toNat : Int)) (by simp [Lib.byteCells, hj])
    rw [Addr.add_lit, Nat.zero_add] at this
    exact ⟨g, cap, rfl, this⟩
end
/-- tokens from place k on -/
inductive TokF (s : ByteArray) : Nat → List UInt8 → Prop where
  | done : TokF s s.size []
  | lit {k : Nat} {rest : List UInt8} (n : Nat) (h1 : 1 ≤ n) (h2 : k + n ≤ s.size) (h : TokF s (k + n) rest) : TokF s k ((numB (2 * n)).data.toList ++ ((s.extract k (k + n)).data.toList ++ rest))
  | mat {k : Nat} {rest : List UInt8} (L d : Nat) (h1 : 1 ≤ L) (hm : Mt s k L d) (h : TokF s (k + L) rest) : TokF s k ((numB (2 * L + 1)).data.toList ++ ((numB d).data.toList ++ rest))
theorem Tok.front {s : ByteArray} {k : Nat} {bs : List UInt8} (h : Tok s k bs) : ∀ rest, TokF s k rest → TokF s 0 (bs ++ rest) := by
  induction h with
  | nil => intro rest h; exact h
  | lit _ n h1 h2 ih =>
    intro rest h3
    rw [List.append_assoc, List.append_assoc]
    exact ih _ (.lit n h1 h2 h3)
  | mat _ L d h1 hm ih =>
    intro rest h3
    rw [List.append_assoc, List.append_assoc]
    exact ih _ (.mat L d h1 hm h3)
theorem TokF.inv {s : ByteArray} {k : Nat} {bs : List UInt8} (h : TokF s k bs) :
    (k = s.size ∧ bs = []) ∨ (∃ n rest, 1 ≤ n ∧ k + n ≤ s.size ∧ TokF s (k + n) rest ∧ bs = (numB (2 * n)).data.toList ++ ((s.extract k (k + n)).data.toList ++ rest)) ∨
      ∃ L d rest, 1 ≤ L ∧ Mt s k L d ∧ TokF s (k + L) rest ∧ bs = (numB (2 * L + 1)).data.toList ++ ((numB d).data.toList ++ rest) := by
  cases h with
  | done => exact .inl ⟨rfl, rfl⟩
  | lit n h1 h2 h => exact .inr (.inl ⟨n, _, h1, h2, h, rfl⟩)
  | mat L d h1 hm h => exact .inr (.inr ⟨L, d, _, h1, hm, h, rfl⟩)
theorem extract_take2 (s : ByteArray) (k n : Nat) : (s.extract k (k + n)).data.toList = (s.data.toList.drop k).take n := by
  rw [ByteArray.data_extract, Array.toList_extract, List.extract_eq_take_drop, show k + n - k = n by omega]
theorem take_holds {r : RS} {t rest : List UInt8} (h : Holds r (t ++ rest)) : (takeS r (t.length : Int)).data.toList = t ∧ Holds (takeR r (t.length : Int)) rest := by
  obtain ⟨h1, h2⟩ := h
  have hz : r.s.size = t.length + rest.length := by rw [← size_toList, h2, List.length_append]
  have hn : ¬ (r.f = true ∨ (t.length : Int) < 0 ∨ (r.s.size : Int) < (t.length : Int)) := by rw [h1]; simp; omega
  unfold takeS takeR
  rw [if_neg hn, if_neg hn, Int.toNat_natCast]
  refine ⟨?_, rfl, ?_⟩
  · rw [extract_take, h2]; simp
  · show (r.s.extract t.length r.s.size).data.toList = rest
    rw [extract_drop, h2]; simp
theorem take_more (s : ByteArray) (k n : Nat) : s.data.toList.take k ++ (s.extract k (k + n)).data.toList = s.data.toList.take (k + n) := by
  rw [extract_take2, List.take_add]
theorem byte_same {s : ByteArray} {i j : Nat} (h : byteAt s i = byteAt s j) (hi : i < s.data.toList.length) (hj : j < s.data.toList.length) : s.data.toList[i] = s.data.toList[j] := by
  unfold byteAt at h
  rw [List.getD_eq_getElem?_getD, List.getD_eq_getElem?_getD, List.getElem?_eq_getElem hi, List.getElem?_eq_getElem hj] at h
  have h' : ((s.data.toList[i].toNat : Nat) : Int) = (s.data.toList[j].toNat : Nat) := h
  exact UInt8.toNat_inj.1 (by omega)
end Go.Proofs.Ytlbmfgiepcemdaa
