/- retroactlaw23.EventBack returns true. Conditions: those in each statement. -/
import Derived.Test.YtlbmfgiepcemdaaYSmEv
import Derived.Test.YtlbmfgiepcemdaaFew
namespace Go.Proofs.Ytlbmfgiepcemdaa
open Go.RowKit

/-- how long the bytes are -/
def sumW (l : List Ev) : Nat := (l.map fun x => 9 * x.size + 18).sum
theorem sumW_drop : ∀ (k : Nat) (l : List Ev), sumW (l.drop k) ≤ sumW l
  | 0, l => Nat.le_refl _
  | _ + 1, [] => Nat.le_refl _
  | k + 1, x :: l => by
    have := sumW_drop k l
    unfold sumW at *
    rw [List.drop_succ_cons, List.map_cons, List.sum_cons]; omega
theorem groupsE_len : ∀ (F : Nat) (l : List Ev), (groupsE (runsE F l)).length ≤ sumW l
  | 0, l => by cases l <;> exact Nat.zero_le _
  | _ + 1, [] => Nat.zero_le _
  | F + 1, x :: l => by
    have h1 := groupsE_len F (l.drop (spanE x l))
    have h2 := sumW_drop (spanE x l) l
    have h3 := groupB_len x (spanE x l + 1)
    have e : groupsE (runsE (F + 1) (x :: l)) = groupB x (spanE x l + 1) ++ groupsE (runsE F (l.drop (spanE x l))) := rfl
    have e2 : sumW (x :: l) = 9 * x.size + 18 + sumW l := by unfold sumW; rw [List.map_cons, List.sum_cons]
    rw [e, List.length_append, e2]; omega
theorem bulkV_small : ∀ l : List V, sumV 21 l < 100000 → bulkV l ≤ 7 * sumV 21 l
  | [], _ => by rw [bulkV]; omega
  | x :: r, h => by
    have e : sumV 21 (x :: r) = sizeV 21 x + sumV 21 r := by unfold sumV; rw [List.map_cons, List.sum_cons]
    rw [e] at h
    have h1 := bulk_le_size 21 x (by omega)
    have h2 := bulkV_small r (by omega)
    rw [e, bulkV_cons]; omega
theorem size_small (x : Ev) (h : evS x < 100000) : x.size ≤ 16 + 7 * evS x := by
  unfold evS at h ⊢
  unfold Ev.size
  have h1 := bulk_le_size 21 x.val (by omega)
  have h2 := bulkV_small x.args (by omega)
  omega
theorem sumW_small : ∀ l : List Ev, sumE l < 100000 → sumW l ≤ 63 * sumE l + 162 * l.length
  | [], _ => by simp [sumW]
  | x :: r, h => by
    have e : sumE (x :: r) = evS x + sumE r := by unfold sumE; rw [List.map_cons, List.sum_cons]
    rw [e] at h
    have h1 := size_small x (by omega)
    have h2 := sumW_small r (by omega)
    have e2 : sumW (x :: r) = 9 * x.size + 18 + sumW r := by unfold sumW; rw [List.map_cons, List.sum_cons]
    rw [e, e2, List.length_cons]; omega
theorem few_parts {l : List Ev} (h : fewS l = true) : l.length ≤ 200 ∧ sumE l ≤ 3000 := by
  unfold fewS at h
  have h := of_decide_eq_true h
  rw [List.take_of_length_le (by omega)] at h
  exact h
theorem few_bytes {l : List Ev} (h : fewS l = true) : (bytesE l).size ≤ 1000000 := by
  obtain ⟨h1, h2⟩ := few_parts h
  unfold bytesE
  split
  · exact Nat.zero_le _
  split
  · have h3 := groupsE_len l.length l
    have h4 := sumW_small l (by omega)
    have h5 := numB_size l.length
    have e : (⟨((numB l.length).data.toList ++ groupsE (runsE l.length l)).toArray⟩ : ByteArray).size = (numB l.length).size + (groupsE (runsE l.length l)).length := by
      show ((numB l.length).data.toList ++ groupsE (runsE l.length l)).toArray.size = _
      rw [List.size_toArray, List.length_append, size_toList]
    rw [e]; omega
  · exact Nat.zero_le _
set_option maxHeartbeats 8000000 in
set_option maxRecDepth 100000 in
theorem law_back (l : List Ev) (s : ByteArray) (A : Option Addr) (n c : Nat) (w : World) (hz : FineL l) (hs : s.size ≤ 9223372036854775807) (hr : Rd (Lt w.heap.size) w (slEv l) (.slice A n c)) :
    Calls Try.prog 3 #[.slice A n c, .string s] w fun e w' => e = .returned (.bool true) ∧ Below w.heap.size w w' := by
  obtain ⟨rfl, hn1, hn2⟩ := slEv_len hr
  have HR := Lib.hid hr
  have HZ := Lib.hid hz
  have HF := Lib.hid (fun W (h : Rd (Lt W.heap.size) W (slEv l) (.slice A l.length c)) => few_any l A l.length c W (fun x hx => (HZ.out x hx).1) h)
  obtain ⟨g, hg⟩ : ∃ g, fewS l = g := ⟨_, rfl⟩
  rw [hg] at HF
  have HG := Lib.hid hg
  clear hr hz hg
  go_enter Try.func3, Try.ntmps3
  go_wp2_with fail
  (with_reducible refine (small_ev w).mono ?_)
  rintro e w1 ⟨rfl, hb1⟩
  have B1 := Lib.hid hb1
  have R1 := Lib.hid (HR.out.belows hb1)
  clear hb1
  go_wp2_with fail
  (with_reducible refine (HF.out _ R1.out).mono ?_)
  rintro e w2 ⟨rfl, hb2⟩
  have B2 := Lib.hid (B1.out.trans (hb2.mono B1.out.size))
  have R2 := Lib.hid (R1.out.belows hb2)
  clear hb2 R1 HF B1
  cases g with
  | false =>
    go_wp2_with fail
    go_ret
    exact ⟨rfl, B2.out⟩
  | true =>
    have hl200 := (few_parts HG.out).1
    by_cases hbig : 3000 < s.size
    · have hbi : (3000 : Int) < s.size := by omega
      go_wp2_with fail
      go_ret
      exact ⟨rfl, B2.out⟩
    · have hbi : ¬ (3000 : Int) < s.size := by omega
      go_wp2_with fail
      go_loopw [6, 7] (fun s6 s7 wr => ∃ (i : Nat) (v : Bool), i ≤ l.length ∧ s7 = .int .i64 i ∧ s6 = .bool v ∧ Hid ((l.take i).all rightE = v) ∧ Hid (Below w.heap.size w wr)) (fun _ s7 _ => l.length - (intOf s7).toNat)
      case atStart => exact ⟨0, true, by omega, rfl, rfl, Lib.hid rfl, B2⟩
      case round =>
        obtain ⟨i, v, hi, rfl, rfl, HV, HB⟩ := hrel
        by_cases hlt : i < l.length
        · cases v with
          | false =>
            have HV2 : Hid ((l.take (i + 1)).all rightE = false) := Lib.hid (by
              rw [List.take_add_one, List.all_append, HV.out]; rfl)
            go_wp2_with fail
            exact ⟨⟨i + 1, false, by omega, by go_num, rfl, HV2, HB⟩, by simp [intOf]; omega⟩
          | true =>
            obtain ⟨b, off, x, e, hlb, hget, A3, c3, A10, c10, hat⟩ := slEv_at (HR.out.belows HB.out) hlt
            subst e
            obtain ⟨p0, p1, p2, p3, p4, p5, p6, p7, p8, p9, p10, p11, r3, r10⟩ := hat
            obtain ⟨g2, hg2⟩ : ∃ g, rightE x = g := ⟨_, rfl⟩
            have HV2 : Hid ((l.take (i + 1)).all rightE = g2) := Lib.hid (by
              rw [List.take_add_one, List.all_append, HV.out, hget, ← hg2]; simp)
            have HC := Lib.hid (right_at x g2 A3 A10 c3 c10 wr hg2 (HZ.out x (List.mem_of_getElem? hget)).1 r3 r10)
            have hin : (i : Int) < l.length := by omega
            clear r3 r10 hget hg2
            go_wp2_with fail
            (with_reducible refine HC.out.mono ?_)
            rintro e w3 ⟨rfl, hb3⟩
            have HB3 := Lib.hid (HB.out.trans (hb3.mono HB.out.size))
            clear hb3 p0 p1 p2 p3 p4 p5 p6 p7 p8 p9 p10 p11 HC
            go_wp2_with fail
            exact ⟨⟨i + 1, g2, by omega, by go_num, rfl, HV2, HB3⟩, by simp [intOf]; omega⟩
        · obtain rfl : i = l.length := by omega
          have HV2 : Hid (l.all rightE = v) := Lib.hid (by have := HV.out; rwa [List.take_length] at this)
          obtain ⟨wo, hwo⟩ : ∃ wo, wo = wr := ⟨_, rfl⟩
          subst hwo
          have HBY : Hid (Calls Try.prog 8 #[.slice A l.length c] wo fun e w' => e = .returned (.string (bytesE l)) ∧ Below wo.heap.size wo w') := Lib.hid (bytes_ev l A l.length c wo (by omega) (fun x hx => (HZ.out x hx).1) (fun x hx => (HZ.out x hx).2) (HR.out.belows HB.out))
          have HTS : Hid ((bytesE l).size ≤ 1000000) := Lib.hid (few_bytes HG.out)
          have HTN : Hid (bytesE l = ⟨#[]⟩ ↔ ¬ l.all rightE = true) := Lib.hid (bytesE_ne (by omega))
          have HRD : Hid (v = true → readE (bytesE l) = some l) := Lib.hid (fun h => readE_bytes (by omega) (fun x hx => ⟨List.all_eq_true.1 (HV2.out.trans h) x hx, (HZ.out x hx).1⟩))
          generalize bytesE l = t at *
          go_wp2_with fail
          (with_reducible refine HBY.out.mono ?_)
          rintro e w3 ⟨rfl, hb3⟩
          have B3 := Lib.hid (HB.out.trans (hb3.mono HB.out.size))
          have HR3 := Lib.hid (read_ev t w3 (by have := HTS.out; omega))
          clear hb3
          go_wp2_with fail
          (with_reducible refine HR3.out.mono ?_)
          rintro e w4 ⟨hb4, hp4⟩
          have B4 := Lib.hid (B3.out.trans (hb4.mono B3.out.size))
          have R4 : Hid (Rd (Lt w4.heap.size) w4 (slEv l) (.slice A l.length c)) := Lib.hid (HR.out.belows B4.out)
          have KS := Lib.hid (fun W => read_ev s W (by omega))
          have KX : Hid (∀ L, readE s = some L → (bytesE L).toList = s.toList) := Lib.hid (fun L h => by rw [readE_back h])
          obtain ⟨O, hO⟩ : ∃ O, readE s = O := ⟨_, rfl⟩
          rw [hO] at KS KX
          clear hO
          cases v with
          | true =>
            have hte : t.toList.isEmpty = false := by
              cases h : t.toList.isEmpty with
              | false => rfl
              | true =>
                exfalso
                refine (HTN.out.1 ?_) HV2.out
                rw [ByteArray.toList_eq, List.isEmpty_iff] at h
                exact bytes_eq h
            have hte2 : t.toList ≠ [] := fun h => by rw [h] at hte; cases hte
            rw [HRD.out rfl] at hp4
            obtain ⟨A4, c4, rfl, hr4, _⟩ := hp4
            have KA := Lib.hid (rall_same l A A4 l.length c c4 w4 (by omega) (fun x hx => (HZ.out x hx).1) R4.out (hr4.weaken (fun b hb => hb.2)))
            clear hb4 hr4 HTS HTN HRD HBY HR3
            go_wp2_with fail
            (with_reducible refine KA.out.mono ?_)
            rintro e w5 ⟨rfl, hb5⟩
            have B5 := Lib.hid (B4.out.trans (hb5.mono B4.out.size))
            clear hb5 KA R4
            go_wp2_with fail
            (with_reducible refine (KS.out w5).mono ?_)
            rintro e w6 ⟨hb6, hp6⟩
            have B6 := Lib.hid (B5.out.trans (hb6.mono B5.out.size))
            cases O with
            | none =>
              obtain rfl := hp6
              clear hb6
              go_wp2_with fail
              go_ret
              exact ⟨rfl, B6.out⟩
            | some L =>
              obtain ⟨A6, c6, rfl, hr6, hf6, hl6⟩ := hp6
              have KB := Lib.hid (bytes_ev L A6 L.length c6 w6 (by omega) (fun x hx => (hf6 x hx).1) (fun x hx => (hf6 x hx).2) (hr6.weaken (fun b hb => hb.2)))
              have hbs := KX.out L rfl
              generalize bytesE L = u at *
              have hbb : (u.toList == s.toList) = true := by rw [hbs]; simp
              clear hb6 hr6 hf6 hbs
              go_wp2_with fail
              (with_reducible refine KB.out.mono ?_)
              rintro e w7 ⟨rfl, hb7⟩
              have B7 := Lib.hid (B6.out.trans (hb7.mono B6.out.size))
              clear hb7 KB
              go_wp2_with fail
              go_ret
              exact ⟨rfl, B7.out⟩
          | false =>
            obtain rfl := HTN.out.2 (by rw [HV2.out]; simp)
            rw [readE_nil] at hp4
            obtain rfl := hp4
            clear hb4 HTS HTN HRD HBY HR3 R4
            go_wp2_with fail
            (with_reducible refine (KS.out w4).mono ?_)
            rintro e w6 ⟨hb6, hp6⟩
            have B6 := Lib.hid (B4.out.trans (hb6.mono B4.out.size))
            cases O with
            | none =>
              obtain rfl := hp6
              clear hb6
              go_wp2_with fail
              go_ret
              exact ⟨rfl, B6.out⟩
            | some L =>
              obtain ⟨A6, c6, rfl, hr6, hf6, hl6⟩ := hp6
              have KB := Lib.hid (bytes_ev L A6 L.length c6 w6 (by omega) (fun x hx => (hf6 x hx).1) (fun x hx => (hf6 x hx).2) (hr6.weaken (fun b hb => hb.2)))
              have hbs := KX.out L rfl
              generalize bytesE L = u at *
              have hbb : (u.toList == s.toList) = true := by rw [hbs]; simp
              clear hb6 hr6 hf6 hbs
              go_wp2_with fail
              (with_reducible refine KB.out.mono ?_)
              rintro e w7 ⟨rfl, hb7⟩
              have B7 := Lib.hid (B6.out.trans (hb7.mono B6.out.size))
              clear hb7 KB
              go_wp2_with fail
              go_ret
              exact ⟨rfl, B7.out⟩
end Go.Proofs.Ytlbmfgiepcemdaa
