/- press.Unpack at a packed text: the text. Conditions: those in each statement. retroactlaw23.EventRuns returns true. Conditions: those in each statement. -/
import Derived.Test.YtlbmfgiepcemdaaYPkLongPkStPkPackUnpP
import Derived.Test.YtlbmfgiepcemdaaYEvCountEvAppPkMapPkIx
namespace Go.Proofs.Ytlbmfgiepcemdaa
open Go.RowKit

def lenP : Value → Nat
  | .slice _ n _ => n
  | _ => 0
def UnpPost (s : ByteArray) (w : World) (e : Ending) (w' : World) : Prop := e = .returned (.tuple #[.string s, .bool true]) ∧ Below w.heap.size w w'
set_option maxHeartbeats 8000000 in
set_option maxRecDepth 100000 in
theorem unpack_any (s t : ByteArray) (bs : List UInt8) (w : World) (hs : s.size ≤ 16777216) (hb : bs.length ≤ 20 * s.size) (ht : t.data.toList = (numB s.size).data.toList ++ bs) (hT : Tok s s.size bs) :
    Calls Try.prog 12 #[.string t] w (UnpPost s w) := by
  have hns := numB_size s.size
  have htz : t.size ≤ 20 * s.size + 9 := by rw [← size_toList, ht, List.length_append, size_toList]; omega
  obtain ⟨e1, h1⟩ := numR_num (r := ⟨t, false⟩) (n := s.size) (rest := bs) (by omega) ⟨rfl, ht⟩
  have KN : Hid (∀ W b, RdrAt W b ⟨t, false⟩ → Calls Try.prog 14 #[.pointer (some ⟨b, 0, none⟩)] W (RPost b (numR ⟨t, false⟩) (.int .i64 (s.size : Int)) W)) := Lib.hid (fun W b h => by rw [← e1]; exact rnum_any b ⟨t, false⟩ W h (by show t.size ≤ _; omega))
  have H1 := Lib.hid h1
  have hsz0 := numR_size ⟨t, false⟩
  have hsz1 : (numR ⟨t, false⟩).s.size ≤ 400000000 := by show _ ≤ _; have : (RS.mk t false).s.size = t.size := rfl; omega
  have HF : Hid (TokF s 0 bs) := Lib.hid (by have := hT.front [] .done; rwa [List.append_nil] at this)
  have h0 : ¬ (16777216 : Int) < s.size := by omega
  have h0d : decide ((16777216 : Int) < s.size) = false := by simp; omega
  obtain ⟨i0, hi0, hz0, hz1, hz2⟩ := info_parts infoB
  have HI := Lib.hid (And.intro hi0 (And.intro hz0 (And.intro hz1 hz2)))
  clear hi0 hz0 hz1 hz2
  generalize numR ⟨t, false⟩ = R1 at *
  clear h1 e1 hsz0 ht hT
  go_enter Try.func12, Try.ntmps12
  go_wp2_with fail
  (with_reducible refine (open_any t w).mono ?_)
  rintro e w1 ⟨rfl, hb1, hr1⟩
  have hbw : w.heap.size < w1.heap.size := hr1.lt
  have HB1 := Lib.hid hb1
  have HX1 := Lib.hid (KN.out w1 w.heap.size hr1)
  clear hb1 hr1 KN
  go_wp2_with fail
  (with_reducible refine HX1.out.mono ?_)
  rintro e w2 ⟨rfl, hc2, hr2⟩
  have HB2 : Hid (Below w.heap.size w w2) := Lib.hid (HB1.out.trans (hc2.below (by omega) (fun j hj => by omega)))
  have HR2 := Lib.hid hr2
  clear hc2 hr2 HX1 HB1
  go_wp2_with fail
  go_loopw [6] (fun s6 wr => ∃ (k : Nat) (A : Option Addr) (c : Nat) (rest : List UInt8) (ri : RS), k ≤ s.size ∧ s6 = .slice A k c ∧ ri.s.size ≤ 400000000 ∧ Hid (TokF s k rest) ∧ Hid (Holds ri rest) ∧ Hid (RdrAt wr w.heap.size ri) ∧ Hid (Below w.heap.size w wr) ∧ Hid (RowB (w.heap.size + 1) wr (.slice A k c) (s.data.toList.take k))) (fun s6 _ => s.size - lenP s6)
  case atStart => exact ⟨0, none, 0, bs, R1, by omega, rfl, hsz1, HF, H1, HR2, HB2, Lib.hid (by rw [List.take_zero]; exact RowB.nil _ _)⟩
  case round =>
    rename World => wo
    obtain ⟨k, A, c, rest, ri, hk, rfl, hri, HT, HH, HR, HB, HW⟩ := hrel
    have hlk : Hid ((s.data.toList.take k).length = k) := Lib.hid (by rw [List.length_take, size_toList]; omega)
    clear HB2 HR2 H1 HF
    by_cases hlt : k < s.size
    · have hlti : (k : Int) < s.size := by omega
      rcases HT.out.inv with ⟨h, _⟩ | ⟨n, r2, hn1, hn2, hT2, hr⟩ | ⟨L, d, r2, hL1, hm, hT2, hr⟩
      · omega
      · have hh := HH.out
        rw [hr] at hh
        obtain ⟨e1, h1⟩ := numR_num (by omega) hh
        have hs2 := numR_size ri
        obtain ⟨e2, h2⟩ := take_holds h1
        have hln : (s.extract k (k + n)).data.toList.length = n := by rw [size_toList, ByteArray.size_extract]; omega
        rw [hln] at e2 h2
        have hs3 := takeR_size (numR ri) (n : Int)
        have K1 : Hid (∀ W, RdrAt W w.heap.size ri → Calls Try.prog 14 #[.pointer (some ⟨w.heap.size, 0, none⟩)] W (RPost w.heap.size (numR ri) (.int .i64 ((2 * n : Nat) : Int)) W)) := Lib.hid (fun W h => by rw [← e1]; exact rnum_any _ ri W h (by omega))
        have K2 : Hid (∀ W, RdrAt W w.heap.size (numR ri) → Calls Try.prog 29 #[.pointer (some ⟨w.heap.size, 0, none⟩), .int .i64 (n : Int)] W (RPost w.heap.size (takeR (numR ri) n) (.string (s.extract k (k + n))) W)) := Lib.hid (fun W h => by
          have := take_any _ (numR ri) n W h (by omega)
          rwa [show takeS (numR ri) n = s.extract k (k + n) from bytes_eq e2] at this)
        have HM := Lib.hid (take_more s k n)
        have hmz : Hid ((s.data.toList.take (k + n)).length = k + n) := Lib.hid (by rw [List.length_take, size_toList]; omega)
        have H2 := Lib.hid h2
        have HT2 := Lib.hid hT2
        have hxz : (s.extract k (k + n)).size = n := by rw [← size_toList]; exact hln
        have HXZ := Lib.hid hxz
        have hs4 : (takeR (numR ri) n).s.size ≤ 400000000 := by omega
        generalize takeR (numR ri) n = R3 at *
        generalize numR ri = R2 at *
        generalize s.extract k (k + n) = u at *
        have hX0 : (0 : Int) ≤ ((2 * n : Nat) : Int) := by omega
        have hX1 : ((2 * n : Nat) : Int) / 2 = (n : Int) := by omega
        have hX2 : (((2 * n : Nat) : Int) % 2 == 0) = true := by rw [beq_iff_eq]; omega
        generalize ((2 * n : Nat) : Int) = X at *
        have hn1i : ¬ (n : Int) < 1 := by omega
        have hn2i : ¬ (s.size : Int) - (k : Int) < (n : Int) := by omega
        clear hh h1 h2 e1 e2 hT2 hr hln hs2 hs3 hxz HT HH
        go_wp2_with fail
        (with_reducible refine (K1.out _ HR.out).mono ?_)
        rintro e w3 ⟨rfl, hc3, hr3⟩
        have W3 := Lib.hid (HW.out.chg hc3 (fun j hj => by omega))
        have B3 := Lib.hid (HB.out.trans (hc3.below HB.out.size (fun j hj => by omega)))
        have R3' := Lib.hid (K2.out w3 hr3)
        clear hc3 hr3 K1 K2
        go_wp2_with fail
        (with_reducible refine R3'.out.mono ?_)
        rintro e w4 ⟨rfl, hc4, hr4⟩
        have W4 := Lib.hid (W3.out.chg hc4 (fun j hj => by omega))
        have B4 := Lib.hid (B3.out.trans (hc4.below B3.out.size (fun j hj => by omega)))
        have R4 := Lib.hid hr4
        have h4 : w.heap.size < w4.heap.size := hr4.lt
        clear hc4 hr4 R3'
        go_wp2_with (at_builtin; refine Lib.wpList_append_own_string _ rfl _ _ 62 9 rfl (w.heap.size + 1) 5 i0 Try.underlying62 Try.underlying9 HI.out.1 HI.out.2.1 HI.out.2.2.1 HI.out.2.2.2 (.slice A k c) _ _ rfl W4.out u rfl ?c0 ?d0 ?e0 ?_)
        case c0 => rw [hlk.out, HXZ.out]; unfold maxLen; omega
        case d0 => rw [hlk.out, HXZ.out]; omega
        case e0 => omega
        intro v5 w5 ho5 hg5 _
        have hrow : RowB (w.heap.size + 1) w5 v5 (s.data.toList.take (k + n)) := by
          unfold RowB
          rw [hmz.out, ← HM.out, show Lib.byteCells (s.data.toList.take k ++ u.data.toList) = Lib.byteCells (s.data.toList.take k) ++ Lib.strCells u by simp [Lib.byteCells, Lib.strCells]]
          rw [HXZ.out] at ho5
          exact ho5
        obtain ⟨A5, c5, rfl⟩ := hrow.form
        rw [hmz.out] at hrow
        have W5 := Lib.hid hrow
        have R5 : Hid (RdrAt w5 w.heap.size R3) := Lib.hid ((hg5.block _ h4 (fun e => by have := W4.out.own _ e.symm; omega)).trans R4.out)
        have B5 : Hid (Below w.heap.size w w5) := Lib.hid (B4.out.grown hg5 (by omega) (fun q hq => by have := W4.out.own q hq; omega))
        rw [show (s.data.toList.take (k + n)).length = k + n from hmz.out]
        clear hrow ho5 hg5
        go_wp2_with fail
        exact ⟨⟨k + n, A5, c5, r2, R3, by omega, rfl, hs4, HT2, H2, R5, B5, W5⟩, by simp [lenP]; omega⟩
      · have hh := HH.out
        rw [hr] at hh
        have hmm := hm.resolve_left (by omega)
        obtain ⟨hd1, hd2, hkL, hmt⟩ := hmm
        obtain ⟨e1, h1⟩ := numR_num (by omega) hh
        obtain ⟨e2, h2⟩ := numR_num (by omega) h1
        have hs2 := numR_size ri
        have hs3 := numR_size (numR ri)
        have K1 : Hid (∀ W, RdrAt W w.heap.size ri → Calls Try.prog 14 #[.pointer (some ⟨w.heap.size, 0, none⟩)] W (RPost w.heap.size (numR ri) (.int .i64 ((2 * L + 1 : Nat) : Int)) W)) := Lib.hid (fun W h => by rw [← e1]; exact rnum_any _ ri W h (by omega))
        have K2 : Hid (∀ W, RdrAt W w.heap.size (numR ri) → Calls Try.prog 14 #[.pointer (some ⟨w.heap.size, 0, none⟩)] W (RPost w.heap.size (numR (numR ri)) (.int .i64 (d : Int)) W)) := Lib.hid (fun W h => by rw [← e2]; exact rnum_any _ (numR ri) W h (by omega))
        have H2 := Lib.hid h2
        have HT2 := Lib.hid hT2
        have HMT := Lib.hid hmt
        have hs4 : (numR (numR ri)).s.size ≤ 400000000 := by omega
        generalize numR (numR ri) = R3 at *
        generalize numR ri = R2 at *
        have hX0 : (0 : Int) ≤ ((2 * L + 1 : Nat) : Int) := by omega
        have hX1 : ((2 * L + 1 : Nat) : Int) / 2 = (L : Int) := by omega
        have hX2 : (((2 * L + 1 : Nat) : Int) % 2 == 0) = false := by rw [beq_eq_false_iff_ne]; omega
        generalize ((2 * L + 1 : Nat) : Int) = X at *
        have hn1i : ¬ (L : Int) < 1 := by omega
        have hn2i : ¬ (s.size : Int) - (k : Int) < (L : Int) := by omega
        have hd1i : decide ((d : Int) < 1) = false := by simp; omega
        have hd2i : decide ((k : Int) < (d : Int)) = false := by simp; omega
        have hd3i : decide (k < d) = false := by simp; omega
        have hn3i : decide ((L : Int) < 1) = false := by simp; omega
        have hn4i : decide ((s.size : Int) - (k : Int) < (L : Int)) = false := by simp; omega
        clear hh h1 h2 e1 e2 hT2 hr hs2 hs3 HT HH hm hmt
        go_wp2_with fail
        (with_reducible refine (K1.out _ HR.out).mono ?_)
        rintro e w3 ⟨rfl, hc3, hr3⟩
        have W3 := Lib.hid (HW.out.chg hc3 (fun j hj => by omega))
        have B3 := Lib.hid (HB.out.trans (hc3.below HB.out.size (fun j hj => by omega)))
        have R3' := Lib.hid (K2.out w3 hr3)
        clear hc3 hr3 K1 K2
        go_wp2_with fail
        (with_reducible refine R3'.out.mono ?_)
        rintro e w4 ⟨rfl, hc4, hr4⟩
        have W4 := Lib.hid (W3.out.chg hc4 (fun j hj => by omega))
        have B4 := Lib.hid (B3.out.trans (hc4.below B3.out.size (fun j hj => by omega)))
        have R4 := Lib.hid hr4
        have h4 : w.heap.size < w4.heap.size := hr4.lt
        clear hc4 hr4 R3' HR HB HW
        go_wp2_with fail
        go_loopw [6, 53] (fun s6 s53 wr => ∃ (j : Nat) (A' : Option Addr) (c' : Nat), j ≤ L ∧ s53 = .int .i64 j ∧ s6 = .slice A' (k + j : Nat) c' ∧ Hid (RdrAt wr w.heap.size R3) ∧ Hid (Below w.heap.size w wr) ∧ Hid (RowB (w.heap.size + 1) wr (.slice A' (k + j : Nat) c') (s.data.toList.take (k + j)))) (fun _ s53 _ => L - (intOf s53).toNat)
        case atStart => exact ⟨0, A, c, by omega, rfl, rfl, R4, B4, W4⟩
        case round =>
          obtain ⟨j, A', c', hj, rfl, rfl, HR, HB, HW⟩ := hrel
          by_cases hjL : j < L
          · have hlen : (s.data.toList.take (k + j)).length = k + j := by rw [List.length_take, size_toList]; omega
            have hl2 : k + j - d < (s.data.toList.take (k + j)).length := by omega
            obtain ⟨g, cg, hAg, hcell⟩ := HW.out.at hl2
            rw [hlen] at hAg
            injection hAg with q1 _ q3
            subst q1 q3
            have hsl : s.data.toList.length = s.size := size_toList s
            have hy : (s.data.toList.take (k + j))[k + j - d] = s.data.toList[k + j]'(by omega) := by
              rw [List.getElem_take]
              refine byte_same ?_ (by omega) (by omega)
              have := HMT.out j hjL
              rwa [show k - d + j = k + j - d by omega] at this
            rw [hy] at hcell
            have hsnoc : s.data.toList.take (k + j) ++ [s.data.toList[k + j]'(by omega)] = s.data.toList.take (k + (j + 1)) := by
              rw [show k + (j + 1) = (k + j) + 1 by omega, List.take_add_one, List.getElem?_eq_getElem (by omega)]; rfl
            have HSN := Lib.hid hsnoc
            have HLE := Lib.hid hlen
            generalize s.data.toList[k + j]'(by omega) = y at *
            have HC := Lib.hid hcell
            have hrl : w.heap.size < wr.heap.size := HR.out.lt
            have hidx : ((k : Int) + (j : Int) - (d : Int)).toNat = k + j - d := by omega
            have hi0 : (0 : Int) ≤ (k : Int) + (j : Int) - (d : Int) := by omega
            have hi1 : (k : Int) + (j : Int) - (d : Int) < (k : Int) + (j : Int) := by omega
            clear hsnoc hlen hl2 hy hsl
            have hal : Below wr.heap.size wr (wr.alloc (.cells #[.int .u8 (y.toNat : Int)] 5)) := (Below.refl _ _).alloc (Nat.le_refl _) _
            have HWa := Lib.hid (HW.out.chg (Chg.of_below (M := fun _ => False) hal) (fun _ h => h.elim))
            have HOW := Lib.hid HW.out.own
            clear hal
            go_wp2_with (at_builtin; refine wp_append_byte rfl _ _ rfl (w.heap.size + 1) ?c1 (.slice (some ⟨g, 0, none⟩) (k + j) c') (s.data.toList.take (k + j)) rfl HWa.out wr.heap.size 0 1 y rfl ?c3 ?c4 ?_)
            case c1 => omega
            case c4 => omega
            intro v5 w5 ho5 hg5
            rw [HSN.out] at ho5
            have hlen : (s.data.toList.take (k + (j + 1))).length = k + (j + 1) := by rw [List.length_take, size_toList]; omega
            obtain ⟨A5, c5, rfl⟩ := ho5.form
            rw [hlen] at ho5 ⊢
            have W5 := Lib.hid ho5
            have hrl2 : w.heap.size < (wr.alloc (.cells #[.int .u8 (y.toNat : Int)] 5)).heap.size := by simp; omega
            have R5 : Hid (RdrAt w5 w.heap.size R3) := Lib.hid ((hg5.block _ hrl2 (fun e => by have := HOW.out _ e.symm; omega)).trans ((((Below.refl wr.heap.size wr).alloc (Nat.le_refl _) _).block _ hrl).trans HR.out))
            have B5 : Hid (Below w.heap.size w w5) := Lib.hid ((HB.out.alloc (by omega) _).grown hg5 (by simp; omega) (fun q hq => by have := HOW.out q hq; omega))
            clear hlen ho5 hg5 hrl2 hcell
            go_wp2_with fail
            exact ⟨⟨j + 1, A5, c5, by omega, by go_num, rfl, R5, B5, W5⟩, by simp [intOf]; omega⟩
          · obtain rfl : j = L := by omega
            go_wp2_with fail
            exact ⟨⟨k + j, A', c', r2, R3, by omega, rfl, hs4, HT2, H2, HR, HB, HW⟩, by simp [lenP]; omega⟩
    · obtain rfl : k = s.size := by omega
      have hre : rest = [] := by
        rcases HT.out.inv with ⟨_, h⟩ | ⟨n, r2, hn1, hn2, _⟩ | ⟨L, d, r2, hL1, hm, _⟩
        · exact h
        · omega
        · have := hm.resolve_left (by omega); omega
      have hdn : doneB ri = true := by
        have h := HH.out
        rw [hre] at h
        obtain ⟨h1, h2⟩ := h
        unfold doneB
        rw [h1]
        have : ri.s.toList = [] := by rw [ByteArray.toList_eq]; exact h2
        rw [this]; rfl
      have hcv : (convert 62 9 (.slice A s.size c)).run Try.prog wo = .ok (.string s) wo := by
        have := HW.out.conv
        rwa [show (⟨(s.data.toList.take s.size).toArray⟩ : ByteArray) = s from by rw [List.take_of_length_le (by rw [size_toList]; exact Nat.le_refl _)]] at this
      have HD := Lib.hid (done_any w.heap.size ri wo HR.out)
      rw [hdn] at HD
      clear hre hdn
      go_wp2_with fail
      (with_reducible refine HD.out.mono ?_)
      rintro e w3 ⟨rfl, rfl⟩
      go_wp2_with fail
      go_ret2
      exact ⟨rfl, HB.out⟩
end Go.Proofs.Ytlbmfgiepcemdaa
namespace Go.Proofs.Ytlbmfgiepcemdaa
open Go.RowKit

theorem numV_bytesE {l : List Ev} (hl : l.length ≤ 1048576) (h : l.all rightE = true) : numV ⟨bytesE l, false⟩ = l.length := by
  have hb : bytesE l = ⟨((numB l.length).data.toList ++ groupsE (runsE l.length l)).toArray⟩ := by unfold bytesE; rw [if_neg (by omega), if_pos h]
  have h0 : Holds ⟨bytesE l, false⟩ ((numB l.length).data.toList ++ groupsE (runsE l.length l)) := by rw [hb]; exact ⟨rfl, by simp⟩
  exact (numR_num (by omega) h0).1
/-- the list that the loops have made so far -/
structure MS (w : World) (L : List Ev) (W : World) (v : Value) : Prop where
  own : Owned 0 30 12 L.length (rowsEv L) W v
  ob : ∀ q, v.ownBlock = some q → w.heap.size ≤ q
  low : Below w.heap.size w W
set_option maxHeartbeats 8000000 in
set_option maxRecDepth 100000 in
theorem law_runs (l : List Ev) (st tk : Int) (A : Option Addr) (n c : Nat) (w : World) (hz : FineL l) (hst : 0 ≤ st ∧ st ≤ 65535) (htk : 0 ≤ tk ∧ tk ≤ 65535) (hr : Rd (Lt w.heap.size) w (slEv l) (.slice A n c)) :
    Calls Try.prog 4 #[.slice A n c, .int .u16 st, .int .u16 tk] w fun e w' => e = .returned (.bool true) ∧ Below w.heap.size w w' := by
  obtain ⟨rfl, hn1, hn2⟩ := slEv_len hr
  have HR := Lib.hid hr
  have HZ := Lib.hid hz
  have HF := Lib.hid (fun W (h : Rd (Lt W.heap.size) W (slEv l) (.slice A l.length c)) => few_any l A l.length c W (fun x hx => (HZ.out x hx).1) h)
  have HBY : Hid (l.length ≤ 1048576 → ∀ W, Rd (Lt W.heap.size) W (slEv l) (.slice A l.length c) → Calls Try.prog 8 #[.slice A l.length c] W fun e w' => e = .returned (.string (bytesE l)) ∧ Below W.heap.size W w') := Lib.hid (fun hl W h => bytes_ev l A l.length c W (by omega) (fun x hx => (HZ.out x hx).1) (fun x hx => (HZ.out x hx).2) h)
  obtain ⟨g, hg⟩ : ∃ g, fewS l = g := ⟨_, rfl⟩
  rw [hg] at HF
  have HG := Lib.hid hg
  obtain ⟨a, ha⟩ : ∃ a : Nat, st % 2001 = (a : Int) := ⟨(st % 2001).toNat, by omega⟩
  obtain ⟨b, hb⟩ : ∃ b : Nat, tk % 2001 = (b : Int) := ⟨(tk % 2001).toNat, by omega⟩
  have ha2 : a ≤ 2000 := by omega
  have hb2 : b ≤ 2000 := by omega
  obtain ⟨s0, s1⟩ := hst
  obtain ⟨t0, t1⟩ := htk
  have HA := Lib.hid ha
  have HTK := Lib.hid hb
  clear hr hz hg ha hb
  go_enter Try.func4, Try.ntmps4
  go_wp2_with fail
  (with_reducible refine (small_ev w).mono ?_)
  rintro e w1 ⟨rfl, hb1⟩
  have B1 := Lib.hid hb1
  have R1 := Lib.hid (HR.out.belows hb1)
  clear hb1
  go_wp2_with fail
  (with_reducible refine (HF.out _ R1.out).mono ?_)
  rintro e w2 ⟨rfl, hb2'⟩
  have B2 := Lib.hid (B1.out.trans (hb2'.mono B1.out.size))
  have R2 := Lib.hid (R1.out.belows hb2')
  clear hb2' R1 HF B1
  cases g with
  | false =>
    go_wp2_with fail
    go_ret
    exact ⟨rfl, B2.out⟩
  | true =>
    have hl200 := (few_parts HG.out).1
    have K2 := Lib.hid (HBY.out (by omega) w2 R2.out)
    have HTN : Hid (bytesE l = ⟨#[]⟩ ↔ ¬ l.all rightE = true) := Lib.hid (bytesE_ne (by omega))
    have HTS : Hid ((bytesE l).size ≤ 1000000) := Lib.hid (few_bytes HG.out)
    have HMB : Hid (l.all rightE = true → (bytesE (moreE l a b)).size ≤ (bytesE l).size + 12) := Lib.hid (more_bytes hl200 ha2 hb2)
    have HBY2 : Hid (∀ W, Rd (Lt W.heap.size) W (slEv l) (.slice A l.length c) → Calls Try.prog 8 #[.slice A l.length c] W fun e w' => e = .returned (.string (bytesE l)) ∧ Below W.heap.size W w') := Lib.hid (fun W h => HBY.out (by omega) W h)
    generalize bytesE l = u at *
    go_wp2_with fail
    (with_reducible refine K2.out.mono ?_)
    rintro e w3 ⟨rfl, hb3⟩
    have B3 := Lib.hid (B2.out.trans (hb3.mono B2.out.size))
    clear hb3 K2 R2 B2 HBY
    by_cases hue : u.toList.isEmpty = true
    · have hue2 : u.toList = [] := List.isEmpty_iff.1 hue
      go_wp2_with fail
      go_ret
      exact ⟨rfl, B3.out⟩
    · have hue1 : u.toList.isEmpty = false := by simpa using hue
      have hue2 : u.toList ≠ [] := fun h => hue (by rw [h]; rfl)
      have HAL : Hid (l.all rightE = true) := Lib.hid (by
        cases hq : l.all rightE with
        | true => rfl
        | false =>
          have h1 := HTN.out.2 (by rw [hq]; simp)
          rw [h1, ByteArray.toList_eq] at hue1
          exact absurd hue1 (by decide))
      have HMB2 := Lib.hid (HMB.out HAL.out)
      have hal : Below w3.heap.size w3 (w3.alloc (.cells #[] 30)) := (Below.refl _ _).alloc (Nat.le_refl _) _
      have R3 := Lib.hid (HR.out.below (B3.out.trans (hal.mono B3.out.size)) (fun _ h => h))
      have C3 : Hid (CellsAt (w3.alloc (.cells #[] 30)) w3.heap.size #[] 30) := Lib.hid (CellsAt.new _ _ _)
      have hw3 := B3.out.size
      clear hal hue HTN HMB
      go_wp2_with (at_builtin; refine wp_append_evs rfl _ _ rfl w.heap.size ?c1 w3.heap.size hw3 C3.out rfl l A c rfl R3.out (by omega) ?_)
      case c1 => simp; omega
      intro v4 w4 hO4 hob4 hb4
      obtain ⟨A4, c4, rfl, _⟩ := hO4.rd.sl_inv
      have M4 : Hid (MS w l w4 (.slice A4 l.length c4)) := Lib.hid ⟨hO4, hob4, (B3.out.alloc (by omega) _).trans hb4⟩
      clear hO4 hob4 hb4 C3 R3
      go_wp2_with fail
      have HSB : Hid (l.length + a ≤ 2200) := Lib.hid (by omega)
      have HLB9 : Hid (l.length ≤ 200) := Lib.hid hl200
      go_loopw [8, 9] (fun s8 s9 wr => ∃ (i : Nat) (A' : Option Addr) (c' : Nat) (L : List Ev), i ≤ a ∧ s9 = .int .i64 i ∧ s8 = .slice A' L.length c' ∧ Hid (L = l ++ List.replicate i stepE0) ∧ Hid (MS w L wr (.slice A' L.length c'))) (fun _ s9 _ => a - (intOf s9).toNat)
      case atStart => exact ⟨0, A4, c4, l, by omega, rfl, rfl, Lib.hid (by simp), M4⟩
      case round =>
        obtain ⟨i, A', c', L, hi, rfl, rfl, HL, HM⟩ := hrel
        have hLl : L.length ≤ 5000 := by rw [HL.out]; have := HLB9.out; simp; omega
        by_cases hik : i < a
        · have hxi : (i : Int) < st % 2001 := by have := HA.out; omega
          have hal : Below wr.heap.size wr (wr.alloc (.cells #[.int .i64 2, .string ⟨#[]⟩, .string ⟨#[]⟩, .slice none 0 0, .int .i64 0, .int .i64 0, .string ⟨#[]⟩, .int .i64 0, .int .i64 0, .string ⟨#[]⟩, .slice none 0 0, .int .i64 0] 30)) := (Below.refl _ _).alloc (Nat.le_refl _) _
          have HO := Lib.hid (HM.out.own.below hal)
          have HLW := Lib.hid (HM.out.low.trans (hal.mono HM.out.low.size))
          have HOB := Lib.hid HM.out.ob
          have hws := HM.out.low.size
          clear hal
          go_wp2_with (at_builtin; refine wp_append_ev rfl _ _ rfl 0 ?c1 (.slice A' L.length c') L rfl HO.out ⟨wr.heap.size, 0, none⟩ 1 stepE0 none 0 none 0 rfl ?c2 ?c3 ?c4 ?c5 ?_)
          case c1 => omega
          case c2 =>
            intro j u hj
            rw [Addr.add_lit, Nat.zero_add, cell_new]
            exact List.getElem?_toArray.trans hj
          case c3 => exact Rd.sl_nil
          case c4 => exact Rd.sl_nil
          case c5 => omega
          intro v5 w5 hO5 hg5 hv5
          obtain ⟨A5, c5, rfl, _⟩ := hO5.rd.sl_inv
          have M5 : Hid (MS w (L ++ [stepE0]) w5 (.slice A5 (L ++ [stepE0]).length c5)) := Lib.hid ⟨by simpa using hO5, fun q hq => by
            rcases hv5 q (by simpa using hq) with h | h
            · exact HOB.out q h
            · have h2 : (wr.alloc (.cells #[.int .i64 2, .string ⟨#[]⟩, .string ⟨#[]⟩, .slice none 0 0, .int .i64 0, .int .i64 0, .string ⟨#[]⟩, .int .i64 0, .int .i64 0, .string ⟨#[]⟩, .slice none 0 0, .int .i64 0] 30)).heap.size = wr.heap.size + 1 := by simp
              omega, HLW.out.grown hg5 (by simp; omega) (fun q hq => HOB.out q hq)⟩
          have HL2 : Hid (L ++ [stepE0] = l ++ List.replicate (i + 1) stepE0) := Lib.hid (by rw [HL.out, replicate_snoc])
          have HLL : Hid (L.length + 1 = (L ++ [stepE0]).length) := Lib.hid (by simp)
          generalize L ++ [stepE0] = L2 at *
          clear hO5 hg5 hv5
          go_wp2_with fail
          exact ⟨⟨i + 1, A5, c5, L2, by omega, by go_num, by rw [HLL.out], HL2, M5⟩, by simp [intOf]; omega⟩
        · have hxi : ¬ (i : Int) < st % 2001 := by have := HA.out; omega
          obtain rfl : i = a := by omega
          have HLB10 : Hid (L.length ≤ 2200) := Lib.hid (by rw [HL.out]; have := HSB.out; simp; omega)
          have HLA := Lib.hid HL.out
          have HMA := Lib.hid HM.out
          clear HL HM hik hLl
          obtain ⟨LA, hLA⟩ : ∃ LA, LA = L := ⟨_, rfl⟩
          subst hLA
          obtain ⟨AA, hAA⟩ : ∃ AA, AA = A' := ⟨_, rfl⟩
          subst hAA
          obtain ⟨cA, hcA⟩ : ∃ cA, cA = c' := ⟨_, rfl⟩
          subst hcA
          obtain ⟨wA, hwA⟩ : ∃ wA, wA = wr := ⟨_, rfl⟩
          subst hwA
          go_wp2_with fail
          go_loopw [8, 10] (fun s8 s10 wr => ∃ (i : Nat) (A' : Option Addr) (c' : Nat) (L : List Ev), i ≤ b ∧ s10 = .int .i64 i ∧ s8 = .slice A' L.length c' ∧ Hid (L = LA ++ List.replicate i tickE0) ∧ Hid (MS w L wr (.slice A' L.length c'))) (fun _ s10 _ => b - (intOf s10).toNat)
          case atStart => exact ⟨0, AA, cA, LA, by omega, rfl, rfl, Lib.hid (by simp), HMA⟩
          case round =>
            obtain ⟨i, A', c', L, hi, rfl, rfl, HL, HM⟩ := hrel
            have hLl : L.length ≤ 5000 := by rw [HL.out]; have := HLB10.out; simp; omega
            by_cases hik : i < b
            · have hxi : (i : Int) < tk % 2001 := by have := HTK.out; omega
              have hal : Below wr.heap.size wr (wr.alloc (.cells #[.int .i64 3, .string ⟨#[]⟩, .string ⟨#[]⟩, .slice none 0 0, .int .i64 0, .int .i64 0, .string ⟨#[]⟩, .int .i64 0, .int .i64 0, .string ⟨#[]⟩, .slice none 0 0, .int .i64 0] 30)) := (Below.refl _ _).alloc (Nat.le_refl _) _
              have HO := Lib.hid (HM.out.own.below hal)
              have HLW := Lib.hid (HM.out.low.trans (hal.mono HM.out.low.size))
              have HOB := Lib.hid HM.out.ob
              have hws := HM.out.low.size
              clear hal
              go_wp2_with (at_builtin; refine wp_append_ev rfl _ _ rfl 0 ?c1 (.slice A' L.length c') L rfl HO.out ⟨wr.heap.size, 0, none⟩ 1 tickE0 none 0 none 0 rfl ?c2 ?c3 ?c4 ?c5 ?_)
              case c1 => omega
              case c2 =>
                intro j u hj
                rw [Addr.add_lit, Nat.zero_add, cell_new]
                exact List.getElem?_toArray.trans hj
              case c3 => exact Rd.sl_nil
              case c4 => exact Rd.sl_nil
              case c5 => omega
              intro v5 w5 hO5 hg5 hv5
              obtain ⟨A5, c5, rfl, _⟩ := hO5.rd.sl_inv
              have M5 : Hid (MS w (L ++ [tickE0]) w5 (.slice A5 (L ++ [tickE0]).length c5)) := Lib.hid ⟨by simpa using hO5, fun q hq => by
                rcases hv5 q (by simpa using hq) with h | h
                · exact HOB.out q h
                · have h2 : (wr.alloc (.cells #[.int .i64 3, .string ⟨#[]⟩, .string ⟨#[]⟩, .slice none 0 0, .int .i64 0, .int .i64 0, .string ⟨#[]⟩, .int .i64 0, .int .i64 0, .string ⟨#[]⟩, .slice none 0 0, .int .i64 0] 30)).heap.size = wr.heap.size + 1 := by simp
                  omega, HLW.out.grown hg5 (by simp; omega) (fun q hq => HOB.out q hq)⟩
              have HL2 : Hid (L ++ [tickE0] = LA ++ List.replicate (i + 1) tickE0) := Lib.hid (by rw [HL.out, replicate_snoc])
              have HLL : Hid (L.length + 1 = (L ++ [tickE0]).length) := Lib.hid (by simp)
              generalize L ++ [tickE0] = L2 at *
              clear hO5 hg5 hv5
              go_wp2_with fail
              exact ⟨⟨i + 1, A5, c5, L2, by omega, by go_num, by rw [HLL.out], HL2, M5⟩, by simp [intOf]; omega⟩
            · have hxi : ¬ (i : Int) < tk % 2001 := by have := HTK.out; omega
              obtain rfl : i = b := by omega
              have HLM : Hid (L = moreE l _ _) := Lib.hid (by rw [HL.out, HLA.out]; rfl)
              have HRT : Hid (∀ x ∈ L, rightE x = true) := Lib.hid (by rw [HLM.out]; exact moreE_right HAL.out)
              have HFL : Hid (FineL L) := Lib.hid (by rw [HLM.out]; exact moreE_fine HZ.out)
              have HSZ : Hid ((bytesE L).size ≤ u.size + 12) := Lib.hid (by rw [HLM.out]; exact HMB2.out)
              have HRD : Hid (readE (bytesE L) = some L) := Lib.hid (readE_bytes (by omega) (fun x hx => ⟨HRT.out x hx, (HFL.out x hx).1⟩))
              have HNV : Hid (numV ⟨bytesE L, false⟩ = L.length) := Lib.hid (numV_bytesE (by omega) (List.all_eq_true.2 HRT.out))
              have K5 : Hid (Calls Try.prog 8 #[.slice A' L.length c'] wr fun e w' => e = .returned (.string (bytesE L)) ∧ Below wr.heap.size wr w') := Lib.hid (bytes_ev L A' L.length c' wr (by omega) (fun x hx => (HFL.out x hx).1) (fun x hx => (HFL.out x hx).2) (HM.out.own.rd.weaken (fun b hb => hb.2)))
              have RM : Hid (Rd (Lt wr.heap.size) wr (slEv L) (.slice A' L.length c')) := Lib.hid (HM.out.own.rd.weaken (fun b hb => hb.2))
              have BM := Lib.hid HM.out.low
              have huz := HTS.out
              have hsb := HSZ.out
              generalize bytesE L = sB at *
              clear HL HM HLA HMA HLM HMB2 hik
              go_wp2_with fail
              (with_reducible refine K5.out.mono ?_)
              rintro e w5 ⟨rfl, hb5⟩
              have B5 := Lib.hid (BM.out.trans (hb5.mono BM.out.size))
              have RM5 := Lib.hid (RM.out.belows hb5)
              have K6 := Lib.hid (HBY2.out w5 (HR.out.belows B5.out))
              clear hb5 K5 RM BM
              go_wp2_with fail
              (with_reducible refine K6.out.mono ?_)
              rintro e w6 ⟨rfl, hb6⟩
              have B6 := Lib.hid (B5.out.trans (hb6.mono B5.out.size))
              have RM6 := Lib.hid (RM5.out.belows hb6)
              have hgt : ¬ (u.size : Int) + 12 < (sB.size : Int) := by omega
              have hgd : decide ((u.size : Int) + 12 < (sB.size : Int)) = false := by simp; omega
              clear hb6 K6 RM5 B5 HBY2
              go_wp2_with fail
              (with_reducible refine (open_any sB w6).mono ?_)
              rintro e w7 ⟨rfl, hb7, hr7⟩
              have B7 := Lib.hid (B6.out.trans (hb7.mono B6.out.size))
              have RM7 : Hid (Rd (Lt w6.heap.size) w7 (slEv L) (.slice A' L.length c')) := Lib.hid (RM6.out.below hb7 (fun _ h => h))
              have h06 := B6.out.size
              have RR7 := Lib.hid hr7
              have h67 := hb7.size
              clear hb7 hr7 B6
              have KP := Lib.hid (pack_any sB w7 (by omega))
              go_wp2_with fail
              (with_reducible refine KP.out.mono ?_)
              rintro e w8 ⟨bs, hT, hbl, rfl, hb8⟩
              have B8 := Lib.hid (B7.out.trans (hb8.mono B7.out.size))
              have RM8 := Lib.hid (RM7.out.below hb8 (fun _ h => Nat.lt_of_lt_of_le h h67))
              have RR8 := Lib.hid (RR7.out.below hb8)
              have KU := Lib.hid (unpack_any sB ⟨((numB sB.size).data.toList ++ bs).toArray⟩ bs w8 (by omega) hbl (by simp) hT)
              have h78 := hb8.size
              generalize (⟨((numB sB.size).data.toList ++ bs).toArray⟩ : ByteArray) = pk at *
              clear hb8 KP B7 RM7 RR7 hT hbl
              go_wp2_with fail
              (with_reducible refine KU.out.mono ?_)
              rintro e w9 ⟨rfl, hb9⟩
              have B9 := Lib.hid (B8.out.trans (hb9.mono B8.out.size))
              have RM9 := Lib.hid (RM8.out.below hb9 (fun _ h => Nat.lt_of_lt_of_le h (Nat.le_trans h67 h78)))
              have RR9 := Lib.hid (RR8.out.below hb9)
              have h89 := hb9.size
              have KR := Lib.hid (read_ev sB w9 (by omega))
              clear hb9 KU B8 RM8 RR8
              go_wp2_with fail
              (with_reducible refine KR.out.mono ?_)
              rintro e w10 ⟨hb10, hp10⟩
              rw [HRD.out] at hp10
              obtain ⟨A10, c10, rfl, hr10, _⟩ := hp10
              have B10 := Lib.hid (B9.out.trans (hb10.mono B9.out.size))
              have RM10 := Lib.hid (RM9.out.below hb10 (fun _ h => Nat.lt_of_lt_of_le h (Nat.le_trans h67 (Nat.le_trans h78 h89))))
              have h910 := hb10.size
              have RR10 := Lib.hid (RR9.out.below hb10)
              have RN10 := Lib.hid hr10
              have hlt10 : w6.heap.size < w9.heap.size := RR9.out.lt
              have KM : Hid (Calls Try.prog 14 #[.pointer (some ⟨w6.heap.size, 0, none⟩)] w10 (RPost w6.heap.size (numR ⟨sB, false⟩) (.int .i64 (L.length : Int)) w10)) := Lib.hid (by
                have := rnum_any w6.heap.size ⟨sB, false⟩ w10 RR10.out (by show sB.size ≤ _; omega)
                rwa [HNV.out] at this)
              have hll : ((L.length : Int) == (L.length : Int)) = true := by simp
              have hss : (sB.toList == sB.toList) = true := by simp
              clear hb10 hr10 KR RM9 RR9
              go_wp2_with fail
              (with_reducible refine KM.out.mono ?_)
              rintro e w11 ⟨rfl, hc11, _⟩
              have hz11 := hc11.size
              have B11 := Lib.hid (B10.out.trans (hc11.below B10.out.size (fun j hj => by omega)))
              have RM11 : Hid (Rd (Lt w11.heap.size) w11 (slEv L) (.slice A' L.length c')) := Lib.hid ((hc11.rd (fun b hb => ⟨by have : b < w6.heap.size := hb; omega, by have : b < w6.heap.size := hb; omega⟩) RM10.out).weaken (fun b hb => by have : b < w6.heap.size := hb; show b < w11.heap.size; omega))
              have RN11 : Hid (Rd (Lt w11.heap.size) w11 (slEv L) (.slice A10 L.length c10)) := Lib.hid ((hc11.rd (fun b hb => ⟨hb.2, by have := hb.1; omega⟩) RN10.out).weaken (fun b hb => by have := hb.2; show b < w11.heap.size; omega))
              have KA := Lib.hid (rall_same L A' A10 L.length c' c10 w11 (by omega) (fun x hx => (HFL.out x hx).1) RM11.out RN11.out)
              clear hc11 KM RM10 RN10
              go_wp2_with fail
              (with_reducible refine KA.out.mono ?_)
              rintro e w12 ⟨rfl, hb12⟩
              have B12 := Lib.hid (B11.out.trans (hb12.mono B11.out.size))
              clear hb12 KA
              go_wp2_with fail
              go_ret
              exact ⟨rfl, B12.out⟩
end Go.Proofs.Ytlbmfgiepcemdaa
