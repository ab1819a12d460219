/- ref12.Path comes to what value.Path comes to (printed by wip/tools/gen_r12p.py). Conditions: those in each statement. -/
import Derived.Test.YtlbmfgiepcemdaaGreatYR01PR01Q
import Derived.Test.YtlbmfgiepcemdaaGreatYPathNodeANode
namespace Go.Proofs.YtlbmfgiepcemdaaGreat
open Go.RowKit

theorem indexByte_intro : ∀ (l : List UInt8) (c : UInt8) (o : Nat), l[o]? = some c → (∀ k, k < o → l[k]? ≠ some c) → Lib.indexByte l c = o
  | [], c, o, h, _ => by simp at h
  | b :: l, c, 0, h, _ => by
    simp at h
    unfold Lib.indexByte
    simp [h]
  | b :: l, c, o + 1, h, hn => by
    have hb : ¬ b = c := fun e => hn 0 (by omega) (by simp [e])
    have ih := indexByte_intro l c o (by simpa using h) (fun k hk => by have := hn (k + 1) (by omega); simpa using this)
    unfold Lib.indexByte
    rw [if_neg (by simpa using hb), ih, if_neg (by simp <;> omega)]
    push_cast; rfl
theorem indexByte_intro_none : ∀ (l : List UInt8) (c : UInt8), (∀ k : Nat, l[k]? ≠ some c) → Lib.indexByte l c = -1
  | [], c, _ => rfl
  | b :: l, c, hn => by
    have hb : ¬ b = c := fun e => hn 0 (by simp [e])
    have ih := indexByte_intro_none l c (fun k => by have := hn (k + 1); simpa using this)
    unfold Lib.indexByte
    rw [if_neg (by simpa using hb), ih]; rfl
theorem byteAt_eq {s : ByteArray} {i : Nat} {c : UInt8} (hi : i < s.size) : byteAt s i = (c.toNat : Int) ↔ s.data.toList[i]? = some c := by
  have h1 : i < s.data.toList.length := by rw [size_toList]; exact hi
  unfold byteAt
  rw [List.getD_eq_getElem?_getD, List.getElem?_eq_getElem h1, Option.getD_some]
  constructor
  · intro h
    rw [UInt8.toNat_inj.1 (Int.ofNat.inj h)]
  · intro h
    rw [Option.some.inj h]
theorem extract_get {s : ByteArray} {a b k : Nat} (_hb : b ≤ s.size) (hk : a + k < b) : (s.extract a b).data.toList[k]? = s.data.toList[a + k]? := by
  rw [ByteArray.data_extract, Array.toList_extract, List.extract_eq_take_drop, List.getElem?_take_of_lt (by omega), List.getElem?_drop]
theorem extract_len {s : ByteArray} {a b : Nat} (hb : b ≤ s.size) : (s.extract a b).data.toList.length = b - a := by
  rw [size_toList, ByteArray.size_extract]; omega
/-- the dot of what follows -/
theorem dotAt_ext {s : ByteArray} {a i : Nat} (ha : a ≤ i) (hi : i < s.size) (hno : ∀ j, a ≤ j → j < i → byteAt s j ≠ 46) (hd : byteAt s i = 46) : dotAt (s.extract a s.size) = ((i - a : Nat) : Int) := by
  refine indexByte_intro _ _ _ ?_ (fun k hk => ?_)
  · rw [extract_get (Nat.le_refl _) (by omega), show a + (i - a) = i by omega]
    exact (byteAt_eq hi).1 hd
  · rw [extract_get (Nat.le_refl _) (by omega)]
    exact fun h => hno (a + k) (by omega) (by omega) ((byteAt_eq (by omega)).2 h)
theorem dotAt_ext_none {s : ByteArray} {a : Nat} (hno : ∀ j, a ≤ j → j < s.size → byteAt s j ≠ 46) : dotAt (s.extract a s.size) = -1 := by
  refine indexByte_intro_none _ _ (fun k h => ?_)
  have hl : k < s.size - a := by
    have := (List.getElem?_eq_some_iff.1 h).1
    rwa [extract_len (Nat.le_refl _)] at this
  rw [extract_get (Nat.le_refl _) (by omega)] at h
  exact hno (a + k) (by omega) (by omega) ((byteAt_eq (by omega)).2 h)
theorem extract_extract' {s : ByteArray} {a b c : Nat} (hc : a + c ≤ s.size) : (s.extract a s.size).extract b c = s.extract (a + b) (a + c) := by
  apply bytes_ext
  rw [ByteArray.toList_eq, ByteArray.toList_eq]
  refine List.ext_getElem? (fun k => ?_)
  have hsz : (s.extract a s.size).size = s.size - a := by rw [ByteArray.size_extract]; omega
  rcases Nat.lt_or_ge (b + k) c with h | h
  · rw [extract_get (by rw [hsz]; omega) h, extract_get (Nat.le_refl _) (by omega), extract_get (by omega) (by omega), Nat.add_assoc]
  · rw [List.getElem?_eq_none (by rw [extract_len (by rw [hsz]; omega)]; omega), List.getElem?_eq_none (by rw [extract_len (by omega)]; omega)]
theorem cut_dot {s : ByteArray} {a i : Nat} (ha : a ≤ i) (hi : i < s.size) (hno : ∀ j, a ≤ j → j < i → byteAt s j ≠ 46) (hd : byteAt s i = 46) :
    cutA (s.extract a s.size) = s.extract a i ∧ cutR (s.extract a s.size) = s.extract (i + 1) s.size ∧ cutF (s.extract a s.size) = true := by
  have h := dotAt_ext ha hi hno hd
  have hsz : (s.extract a s.size).size = s.size - a := by rw [ByteArray.size_extract]; omega
  unfold cutA cutR cutF
  rw [h, if_neg (by omega), if_neg (by omega), Int.toNat_natCast, hsz]
  refine ⟨?_, ?_, decide_eq_true (by omega)⟩
  · rw [extract_extract' (by omega), Nat.add_zero, show a + (i - a) = i by omega]
  · rw [extract_extract' (by omega), show a + (i - a + 1) = i + 1 by omega, show a + (s.size - a) = s.size by omega]
theorem cut_end {s : ByteArray} {a : Nat} (hno : ∀ j, a ≤ j → j < s.size → byteAt s j ≠ 46) :
    cutA (s.extract a s.size) = s.extract a s.size ∧ cutF (s.extract a s.size) = false := by
  have h := dotAt_ext_none hno
  unfold cutA cutF
  rw [h]
  exact ⟨rfl, rfl⟩
theorem extract_all (s : ByteArray) : s.extract 0 s.size = s := by
  apply bytes_ext
  rw [ByteArray.toList_eq, ByteArray.toList_eq, ByteArray.data_extract, Array.toList_extract, List.extract_eq_take_drop, List.drop_zero, List.take_of_length_le (by rw [size_toList]; omega)]

/-- how far the reference has come at place i, the current part beginning at a -/
def PI (s : ByteArray) (i a : Nat) : Prop := byteAt s 1 = 46 → 2 ≤ i → (i = s.size + 1 ∧ pathS s = true) ∨ (i ≤ s.size ∧ (∀ j, a ≤ j → j < i → byteAt s j ≠ 46) ∧ ∃ f, s.size - a < f ∧ pathS s = pathGo f (s.extract a s.size) true)
section
variable {s : ByteArray} {i a : Nat}
theorem one_ext (h0 : byteAt s 0 = 48) (h1 : 0 < s.size) : s.extract 0 1 = ⟨#[48]⟩ := by
  refine str_one (by rw [ByteArray.size_extract]; omega) ?_
  exact (byteAt_eq (c := 48) (by rw [ByteArray.size_extract]; omega)).2 (by
    rw [extract_get (by omega) (by omega)]
    exact (byteAt_eq (c := 48) h1).1 h0)
theorem PI.two (hs : s.size ≤ 200) (h0 : byteAt s 0 = 48) : PI s 2 2 := fun h1 _ => by
  have hsz : 1 < s.size := Classical.byContradiction fun h => by
    unfold byteAt at h1
    rw [List.getD_eq_getElem?_getD, List.getElem?_eq_none (by rw [size_toList]; omega)] at h1
    exact absurd h1 (by decide)
  obtain ⟨c1, c2, c3⟩ := cut_dot (s := s) (a := 0) (i := 1) (by omega) hsz (fun j _ hj => by
    obtain rfl : j = 0 := by omega
    rw [h0]; decide) h1
  rw [extract_all] at c1 c2 c3
  refine .inr ⟨by omega, fun j h2 h3 => by omega, s.size + 1, by omega, ?_⟩
  unfold pathS
  rw [c1, c2, c3, one_ext h0 (by omega), decide_eq_true hs]
  simp
theorem PI.skip (h : PI s i a) (h2 : 2 ≤ i) (hi : i < s.size) (hd : byteAt s i ≠ 46) : PI s (i + 1) a := fun h1 _ => by
  rcases h h1 h2 with ⟨h3, _⟩ | ⟨_, h4, h5⟩
  · omega
  · refine .inr ⟨by omega, fun j ha hj => ?_, h5⟩
    rcases Nat.lt_or_eq_of_le (Nat.lt_succ_iff.1 hj) with h6 | h6
    · exact h4 j ha h6
    · rw [h6]; exact hd
theorem PI.part (h : PI s i a) (h2 : 2 ≤ i) (ha : a ≤ i) (hi : i ≤ s.size) (hd : i = s.size ∨ byteAt s i = 46) : byteAt s 1 = 46 → ∃ R, pathS s = ((parseS (s.extract a i) 0 9007199254740992).2 && R) ∧ (R = true → i = s.size → True) ∧ ((i = s.size ∧ R = true) ∨ (i < s.size ∧ ∃ f, s.size - (i + 1) < f ∧ R = pathGo f (s.extract (i + 1) s.size) true)) := fun h1 => by
  rcases h h1 h2 with ⟨h3, _⟩ | ⟨_, h4, f, h5, h6⟩
  · omega
  · obtain ⟨f', rfl⟩ : ∃ f', f = f' + 1 := ⟨f - 1, by omega⟩
    rcases Nat.lt_or_ge i s.size with hlt | hge
    · have hd2 : byteAt s i = 46 := hd.resolve_left (by omega)
      obtain ⟨c1, c2, c3⟩ := cut_dot ha hlt h4 hd2
      refine ⟨pathGo f' (s.extract (i + 1) s.size) true, ?_, fun _ _ => trivial, .inr ⟨hlt, f', by omega, rfl⟩⟩
      rw [h6, pathGo, c1, c2, c3]
    · obtain rfl : i = s.size := by omega
      obtain ⟨c1, c3⟩ := cut_end h4
      refine ⟨true, ?_, fun _ _ => trivial, .inl ⟨rfl, rfl⟩⟩
      rw [h6, pathGo, c1, c3]
      cases f' <;> rfl
theorem PI.ok (h : PI s i a) (h2 : 2 ≤ i) (ha : a ≤ i) (hi : i ≤ s.size) (hd : i = s.size ∨ byteAt s i = 46) (hp : (parseS (s.extract a i) 0 9007199254740992).2 = true) : PI s (i + 1) (i + 1) := fun h1 _ => by
  obtain ⟨R, h3, _, h4⟩ := h.part h2 ha hi hd h1
  rw [hp, Bool.true_and] at h3
  rcases h4 with ⟨rfl, h5⟩ | ⟨h5, f, h6, h7⟩
  · exact .inl ⟨rfl, by rw [h3, h5]⟩
  · exact .inr ⟨by omega, fun j h8 h9 => by omega, f, h6, by rw [h3, h7]⟩
theorem path_no1 (_h0 : byteAt s 0 = 48) (hsz : 1 < s.size) (h1 : byteAt s 1 ≠ 46) : pathS s = false := by
  unfold pathS
  have : cutA s ≠ ⟨#[48]⟩ := fun h => by
    have hl : (cutA s).size = 1 := by rw [h]; rfl
    rcases dotAt_cases s with hd | ⟨i, hd, hi⟩
    · unfold cutA at hl
      rw [hd, if_pos (by decide)] at hl
      omega
    · unfold cutA at hl
      rw [hd, if_neg (by omega), ByteArray.size_extract, Int.toNat_natCast] at hl
      obtain rfl : i = 1 := by omega
      have := (Lib.indexByte_some (l := s.data.toList) (c := 46) (o := 1) hd).1
      exact h1 ((byteAt_eq (c := 46) hi).2 this)
  rw [decide_eq_false this]
  simp
theorem PI.bad (h : PI s i a) (h0 : byteAt s 0 = 48) (h2 : 2 ≤ i) (ha : a ≤ i) (hi : i ≤ s.size) (hd : i = s.size ∨ byteAt s i = 46) (hp : (parseS (s.extract a i) 0 9007199254740992).2 = false) : pathS s = false := by
  by_cases h1 : byteAt s 1 = 46
  · obtain ⟨R, h3, _, _⟩ := h.part h2 ha hi hd h1
    rw [h3, hp]; rfl
  · exact path_no1 h0 (by omega) h1
theorem path_one (h0 : byteAt s 0 = 48) (h1 : s.size = 1) : pathS s = true := by
  obtain rfl := str_one h1 h0
  decide
theorem path_no0 (h0 : byteAt s 0 ≠ 48) : pathS s = false := by
  unfold pathS
  have : cutA s ≠ ⟨#[48]⟩ := fun h => by
    have hg : (cutA s).data.toList[0]? = some 48 := by rw [h]; rfl
    have hl : 0 < (cutA s).size := by rw [h]; decide
    rcases dotAt_cases s with hd | ⟨i, hd, hi⟩
    · unfold cutA at hg hl
      rw [hd, if_pos (by decide)] at hg hl
      exact h0 ((byteAt_eq (c := 48) hl).2 hg)
    · unfold cutA at hg hl
      rw [hd, if_neg (by omega), Int.toNat_natCast] at hg hl
      rw [ByteArray.size_extract] at hl
      rw [extract_get (by omega) (by omega)] at hg
      exact h0 ((byteAt_eq (c := 48) (by omega)).2 hg)
  rw [decide_eq_false this]
  simp
theorem byteAt_empty (h : s.size = 0) (i : Nat) : byteAt s i = 0 := by
  unfold byteAt
  rw [List.getD_eq_getElem?_getD, List.getElem?_eq_none (by rw [size_toList]; omega)]; rfl
end

set_option maxHeartbeats 2000000 in
set_option maxRecDepth 100000 in
theorem rpath_main (s : ByteArray) (w : World) (hs : s.size ≤ 200) (hp : 0 < s.size) (h0 : byteAt s 0 = 48) : Calls Tryz.prog 54 #[.string s] w fun e w' => e = .returned (.bool (pathS s)) ∧ Below w.heap.size w w' := by
  have hs' : ¬ (200 : Int) < s.size := by omega
  have hp' : ((s.size : Int) == 0) = false := beq_eq_false_iff_ne.2 (by omega)
  have hi0 : (Instr.index 9 (.string s) (.int .i64 0)).run Tryz.prog w = .ok (.int .u8 (byteAt s 0)) w := by simpa using index_str s 0 hp w
  rw [h0] at hi0
  have HI := Lib.hid (index_str s)
  have H0 := Lib.hid h0
  have HP2 := Lib.hid (PI.two hs h0)
  clear h0
  go_enter Tryz.func54, Tryz.ntmps54
  go_wp2_with fail
  go_loopw [3, 4] (fun s3 s4 wr => ∃ (i a : Nat), 1 ≤ i ∧ i ≤ s.size + 1 ∧ 2 ≤ a ∧ (a ≤ i ∨ i = 1 ∧ a = 2) ∧ s4 = .int .i64 i ∧ s3 = .int .i64 a ∧ Hid (PI s i a) ∧ Hid (Below w.heap.size w wr)) (fun _ s4 _ => s.size + 1 - (intOf s4).toNat)
  case atStart => exact ⟨1, 2, by omega, by omega, by omega, .inr ⟨rfl, rfl⟩, rfl, rfl, Lib.hid (fun _ h => absurd h (by omega)), Lib.hid (Below.refl _ _)⟩
  case round =>
    clear hi0
    obtain ⟨i, a, h1i, hile1, h2a, hai, rfl, rfl, HP, HB⟩ := hrel
    rcases Nat.lt_or_ge i s.size with hlt | hge
    · have hix := HI.out i hlt wr
      have hile : i ≤ s.size := by omega
      cases hd : (byteAt s i == 46) with
      | false =>
        have hdn : (byteAt s i != 46) = true := by simp [bne, hd]
        have hdd : byteAt s i ≠ 46 := by simpa using hd
        have HT : Hid (PI s (i + 1) a) := Lib.hid (by
          rcases Nat.lt_or_ge i 2 with h | h
          · obtain rfl : i = 1 := by omega
            obtain rfl : a = 2 := by omega
            exact HP2.out
          · exact HP.out.skip h hlt hdd)
        obtain ⟨X, hX⟩ : ∃ X, byteAt s i = X := ⟨_, rfl⟩
        rw [hX] at hix hd hdn
        clear hX hdd HP
        go_wp2_with fail
        exact ⟨⟨i + 1, a, by omega, by omega, by omega, by omega, by go_num, rfl, HT, HB⟩, by simp [intOf] <;> omega⟩
      | true =>
        have hdn : (byteAt s i != 46) = false := by simp [bne, hd]
        have hdd : i = s.size ∨ byteAt s i = 46 := .inr (by simpa using hd)
        obtain ⟨X, hX⟩ : ∃ X, byteAt s i = X := ⟨_, rfl⟩
        have HX := Lib.hid hX
        rw [hX] at hix hd hdn
        clear hX
        rcases Nat.lt_or_ge i 2 with h2i | h2i
        · obtain rfl : i = 1 := by omega
          obtain rfl : a = 2 := by omega
          have hix : (Instr.index 9 (.string s) (.int .i64 1)).run Tryz.prog wr = .ok (.int .u8 X) wr := by simpa using hix
          clear HP hdd
          go_wp2_with fail
          exact ⟨⟨2, 2, by omega, by omega, by omega, by omega, rfl, rfl, HP2, HB⟩, by simp [intOf] <;> omega⟩
        · have hai : a ≤ i := by omega
          have hfi : (a : Int) ≤ i := by omega
          have his : (i : Int) ≤ s.size := by omega
          have hi1 : (1 : Int) < i := by omega
          have hxs : (s.extract a i).size ≤ 2097152 := by rw [ByteArray.size_extract]; omega
          have HC := Lib.hid (fun W => rparse_any (s.extract a i) 0 9007199254740992 W hxs)
          have HOK := Lib.hid (HP.out.ok h2i hai hile hdd)
          have HBAD := Lib.hid (HP.out.bad H0.out h2i hai hile hdd)
          obtain ⟨P, hP⟩ : ∃ P, parseS (s.extract a i) 0 9007199254740992 = P := ⟨_, rfl⟩
          rw [hP] at HC HOK HBAD
          obtain ⟨pn, pb⟩ := P
          clear hP HP hdd
          cases pb with
          | false =>
            have HT := Lib.hid (HBAD.out rfl)
            clear HOK HBAD
            go_wp2_with fail
            (with_reducible refine (HC.out _).mono ?_)
            rintro e w3 ⟨rfl, hb3⟩
            have HB3 := Lib.hid (HB.out.trans (hb3.mono HB.out.size))
            clear hb3
            go_wp2_with fail
            go_ret
            exact ⟨by rw [HT.out]; rfl, HB3.out⟩
          | true =>
            have HT := Lib.hid (HOK.out rfl)
            clear HOK HBAD
            go_wp2_with fail
            (with_reducible refine (HC.out _).mono ?_)
            rintro e w3 ⟨rfl, hb3⟩
            have HB3 := Lib.hid (HB.out.trans (hb3.mono HB.out.size))
            clear hb3
            go_wp2_with fail
            exact ⟨⟨i + 1, i + 1, by omega, by omega, by omega, by omega, by go_num, by go_num, HT, HB3⟩, by simp [intOf] <;> omega⟩
    · rcases Nat.lt_or_ge s.size i with hgt | hle2
      · obtain rfl : i = s.size + 1 := by omega
        have hex : ¬ (s.size : Int) + 1 ≤ s.size := by omega
        by_cases h1 : s.size = 1
        · have HT := Lib.hid (path_one H0.out h1)
          have h1b : ((s.size : Int) == 1) = true := beq_iff_eq.2 (by omega)
          clear HP h1
          go_wp2_with fail
          go_ret
          exact ⟨by rw [HT.out]; rfl, HB.out⟩
        · have h1b : ((s.size : Int) == 1) = false := beq_eq_false_iff_ne.2 (by omega)
          have hix : (Instr.index 9 (.string s) (.int .i64 1)).run Tryz.prog wr = .ok (.int .u8 (byteAt s 1)) wr := by simpa using HI.out 1 (by omega) wr
          have HT : Hid (pathS s = (byteAt s 1 == 46)) := Lib.hid (by
            cases hd : (byteAt s 1 == 46) with
            | false => exact path_no1 H0.out (by omega) (by simpa using hd)
            | true =>
              rcases HP.out (by simpa using hd) (by omega) with ⟨_, h⟩ | ⟨h, _⟩
              · exact h
              · omega)
          obtain ⟨X, hX⟩ : ∃ X, byteAt s 1 = X := ⟨_, rfl⟩
          rw [hX] at hix HT
          clear hX HP
          go_wp2_with fail
          go_ret
          exact ⟨by rw [HT.out]; first | rfl | simp, HB.out⟩
      · obtain rfl : i = s.size := by omega
        have hile : s.size ≤ s.size := by omega
        have hdd : s.size = s.size ∨ byteAt s s.size = 46 := .inl rfl
        have hnl : decide (s.size < s.size) = false := decide_eq_false (by omega)
        rcases Nat.lt_or_ge s.size 2 with h2i | h2i
        · have h1 : s.size = 1 := by omega
          obtain rfl : a = 2 := by omega
          have HT : Hid (PI s (s.size + 1) 2) := Lib.hid (by rw [h1]; exact HP2.out)
          have hn1 : ¬ (1 : Int) < s.size := by omega
          clear HP hdd h1
          go_wp2_with fail
          exact ⟨⟨s.size + 1, 2, by omega, by omega, by omega, by omega, by go_num, rfl, HT, HB⟩, by simp [intOf] <;> omega⟩
        · have hai : a ≤ s.size := by omega
          have hfi : (a : Int) ≤ s.size := by omega
          have hi1 : (1 : Int) < s.size := by omega
          have hxs : (s.extract a s.size).size ≤ 2097152 := by rw [ByteArray.size_extract]; omega
          have HC := Lib.hid (fun W => rparse_any (s.extract a s.size) 0 9007199254740992 W hxs)
          have HOK := Lib.hid (HP.out.ok h2i hai hile hdd)
          have HBAD := Lib.hid (HP.out.bad H0.out h2i hai hile hdd)
          obtain ⟨P, hP⟩ : ∃ P, parseS (s.extract a s.size) 0 9007199254740992 = P := ⟨_, rfl⟩
          rw [hP] at HC HOK HBAD
          obtain ⟨pn, pb⟩ := P
          clear hP HP hdd
          cases pb with
          | false =>
            have HT := Lib.hid (HBAD.out rfl)
            clear HOK HBAD
            go_wp2_with fail
            (with_reducible refine (HC.out _).mono ?_)
            rintro e w3 ⟨rfl, hb3⟩
            have HB3 := Lib.hid (HB.out.trans (hb3.mono HB.out.size))
            clear hb3
            go_wp2_with fail
            go_ret
            exact ⟨by rw [HT.out]; rfl, HB3.out⟩
          | true =>
            have HT := Lib.hid (HOK.out rfl)
            clear HOK HBAD
            go_wp2_with fail
            (with_reducible refine (HC.out _).mono ?_)
            rintro e w3 ⟨rfl, hb3⟩
            have HB3 := Lib.hid (HB.out.trans (hb3.mono HB.out.size))
            clear hb3
            go_wp2_with fail
            exact ⟨⟨s.size + 1, s.size + 1, by omega, by omega, by omega, by omega, by go_num, by go_num, HT, HB3⟩, by simp [intOf] <;> omega⟩
set_option maxHeartbeats 1000000 in
set_option maxRecDepth 100000 in
theorem rpath_any (s : ByteArray) (w : World) (hs : s.size ≤ 2097152) : Calls Tryz.prog 54 #[.string s] w fun e w' => e = .returned (.bool (pathS s)) ∧ Below w.heap.size w w' := by
  by_cases h2 : s.size ≤ 200
  · by_cases hz : s.size = 0
    · have HE : Hid (pathS s = false) := Lib.hid (path_no0 (by rw [byteAt_empty hz]; decide))
      have h2' : ¬ (200 : Int) < s.size := by omega
      have hp' : ((s.size : Int) == 0) = true := beq_iff_eq.2 (by omega)
      clear hz
      go_enter Tryz.func54, Tryz.ntmps54
      go_wp2_with fail
      go_ret
      exact ⟨by rw [HE.out]; rfl, Below.refl _ _⟩
    · by_cases h0 : byteAt s 0 = 48
      · exact rpath_main s w h2 (by omega) h0
      · have HE : Hid (pathS s = false) := Lib.hid (path_no0 h0)
        have h2' : ¬ (200 : Int) < s.size := by omega
        have hp' : ((s.size : Int) == 0) = false := beq_eq_false_iff_ne.2 (by omega)
        have hi0 : (Instr.index 9 (.string s) (.int .i64 0)).run Tryz.prog w = .ok (.int .u8 (byteAt s 0)) w := by simpa using index_str s 0 (by omega) w
        have hb : (byteAt s 0 != 48) = true := by simpa using h0
        have hpos : 0 < s.size := by omega
        obtain ⟨X, hX⟩ : ∃ X, byteAt s 0 = X := ⟨_, rfl⟩
        rw [hX] at hi0 hb
        clear hX hz h0
        go_enter Tryz.func54, Tryz.ntmps54
        go_wp2_with fail
        go_ret
        exact ⟨by rw [HE.out]; rfl, Below.refl _ _⟩
  · have h2' : (200 : Int) < s.size := by omega
    have HE : Hid (pathS s = false) := Lib.hid (by unfold pathS; rw [decide_eq_false h2]; rfl)
    go_enter Tryz.func54, Tryz.ntmps54
    go_wp2_with fail
    go_ret
    exact ⟨by rw [HE.out]; rfl, Below.refl _ _⟩
end Go.Proofs.YtlbmfgiepcemdaaGreat
