/- Plain laws on what Add comes to: the result is valid, keeps the ends, lacks at most one. No program here. -/
import Derived.Test.YtieopidlbfjhnaaAdd
namespace Go.Proofs.Ytieopidlbfjhnaa

/-- x is an element -/
def Mem (zs : List Int) (x : Int) : Prop := ∃ i, i < zs.length ∧ el zs i = x

theorem mem_iff (zs : List Int) (x : Int) : Mem zs x ↔ zs.contains x = true := by
  rw [List.contains_iff_mem, List.mem_iff_getElem]
  constructor
  · rintro ⟨i, hi, h⟩
    refine ⟨i, hi, ?_⟩
    rw [← h]; simp [el, List.getD_eq_getElem?_getD, List.getElem?_eq_getElem hi]
  · rintro ⟨i, hi, h⟩
    refine ⟨i, hi, ?_⟩
    rw [← h]; simp [el, List.getD_eq_getElem?_getD, List.getElem?_eq_getElem hi]
theorem not_mem (zs : List Int) (x : Int) (h : zs.contains x = false) : ∀ i, i < zs.length → el zs i ≠ x := by
  intro i hi he
  have := (mem_iff zs x).1 ⟨i, hi, he⟩
  rw [h] at this; cases this

theorem el_cons_zero (z : Int) (r : List Int) : el (z :: r) 0 = z := rfl
theorem el_cons_succ (z : Int) (r : List Int) (j : Nat) : el (z :: r) (j + 1) = el r j := rfl

theorem cnt_spec (t : Int) : ∀ zs : List Int, zs.Pairwise (· ≤ ·) → (∀ j, j < zs.countP (· < t) → el zs j < t) ∧ ∀ j, zs.countP (· < t) ≤ j → j < zs.length → t ≤ el zs j
  | [], _ => ⟨fun j h => by simp at h, fun j _ h => by simp at h⟩
  | z :: r, h => by
    have hp := List.pairwise_cons.1 h
    obtain ⟨i1, i2⟩ := cnt_spec t r hp.2
    by_cases hz : z < t
    · have hc : (z :: r).countP (· < t) = r.countP (· < t) + 1 := by simp [hz]
      rw [hc]
      refine ⟨fun j hj => ?_, fun j hj hl => ?_⟩
      · rcases j with _ | j
        · exact hz
        · exact i1 j (by omega)
      · rcases j with _ | j
        · omega
        · exact i2 j (by omega) (by simpa using hl)
    · have h0 : r.countP (· < t) = 0 := by
        rw [List.countP_eq_zero]
        intro x hx
        have := hp.1 x hx
        simp; omega
      have hc : (z :: r).countP (· < t) = 0 := by simp only [List.countP_cons, h0]; simp [hz]
      rw [hc]
      refine ⟨fun j hj => by omega, fun j _ hl => ?_⟩
      rcases j with _ | j
      · rw [el_cons_zero]; omega
      · exact i2 j (by omega) (by simpa using hl)

/-- strictly ascending and in the range, of any length -/
def Asc (zs : List Int) : Prop := ∀ i, i < zs.length → OkAt zs i
theorem asc_lt {zs : List Int} (h : Asc zs) : ∀ d i, i + d + 1 < zs.length → el zs i < el zs (i + d + 1)
  | 0, i, hj => by
    have := (h (i + 1) (by omega)).2.2 (by omega)
    simpa using this
  | d + 1, i, hj => by
    have h1 := asc_lt h d i (by omega)
    have := (h (i + d + 1 + 1) (by omega)).2.2 (by omega)
    simp only [Nat.add_sub_cancel] at this
    have e : i + (d + 1) + 1 = i + d + 1 + 1 := by omega
    rw [e]; omega
theorem asc_strict {zs : List Int} (h : Asc zs) (i j : Nat) (hij : i < j) (hj : j < zs.length) : el zs i < el zs j := by
  have := asc_lt h (j - i - 1) i (by omega)
  rwa [show i + (j - i - 1) + 1 = j by omega] at this
theorem asc_le {zs : List Int} (h : Asc zs) (i j : Nat) (hij : i ≤ j) (hj : j < zs.length) : el zs i ≤ el zs j := by
  rcases Nat.lt_or_ge i j with h1 | h1
  · exact Int.le_of_lt (asc_strict h i j h1 hj)
  · obtain rfl : i = j := by omega
    exact Int.le_refl _
theorem asc_inj {zs : List Int} (h : Asc zs) (i j : Nat) (hi : i < zs.length) (hj : j < zs.length) (he : el zs i = el zs j) : i = j := by
  rcases Nat.lt_trichotomy i j with h1 | h1 | h1
  · have := asc_strict h i j h1 hj; omega
  · exact h1
  · have := asc_strict h j i h1 hi; omega

section
variable {zs : List Int} {t : Int}
theorem cnt_le (zs : List Int) (t : Int) : zs.countP (· < t) ≤ zs.length := List.countP_le_length

theorem ins_asc (hv : Valid zs) (h0 : 0 ≤ t) (h1 : t ≤ 1125899906842624) (hc : zs.contains t = false) : Asc (ins zs (zs.countP (· < t)) t) := by
  obtain ⟨a, b⟩ := cnt_spec t zs (valid_sorted hv)
  have hle := cnt_le zs t
  have hne := not_mem zs t hc
  generalize zs.countP (· < t) = i at a b hle
  intro j hj
  rw [ins_length _ _ _ hle] at hj
  have hr := ins_range hv hle h0 h1 j (by rw [ins_length _ _ _ hle]; exact hj)
  refine ⟨hr.1, hr.2, fun hj0 => ?_⟩
  rcases Nat.lt_or_ge j i with h | h
  · rw [ins_lt _ _ _ _ hle h, ins_lt _ _ _ _ hle (by omega)]
    exact valid_strict hv (j - 1) j (by omega) (by omega)
  · by_cases he : j = i
    · subst he
      rw [ins_eq _ _ _ hle, ins_lt _ _ _ _ hle (by omega)]
      exact a (j - 1) (by omega)
    · obtain ⟨k, rfl⟩ : ∃ k, j = k + 1 := ⟨j - 1, by omega⟩
      rw [ins_gt _ _ _ _ hle (by omega), Nat.add_sub_cancel]
      by_cases hk : k = i
      · subst hk
        rw [ins_eq _ _ _ hle]
        have := b k (by omega) (by omega)
        have := hne k (by omega)
        omega
      · obtain ⟨m, rfl⟩ : ∃ m, k = m + 1 := ⟨k - 1, by omega⟩
        rw [ins_gt _ _ _ _ hle (by omega)]
        exact valid_strict hv m (m + 1) (by omega) (by omega)

theorem er_lt (xs : List Int) (b j : Nat) (h : j < b) : el (xs.eraseIdx b) j = el xs j := by
  unfold el
  rw [List.getD_eq_getElem?_getD, List.getElem?_eraseIdx_of_lt h, ← List.getD_eq_getElem?_getD]
theorem er_ge (xs : List Int) (b j : Nat) (h : b ≤ j) : el (xs.eraseIdx b) j = el xs (j + 1) := by
  unfold el
  rw [List.getD_eq_getElem?_getD, List.getElem?_eraseIdx_of_ge h, ← List.getD_eq_getElem?_getD]
theorem er_len (xs : List Int) (b : Nat) (h : b < xs.length) : (xs.eraseIdx b).length + 1 = xs.length := by
  rw [List.length_eraseIdx_of_lt h]; omega

theorem er_asc {xs : List Int} (h : Asc xs) (b : Nat) (hb : b < xs.length) : Asc (xs.eraseIdx b) := by
  intro j hj
  have hl := er_len xs b hb
  rcases Nat.lt_or_ge j b with h1 | h1
  · rw [OkAt, er_lt _ _ _ h1]
    refine ⟨(h j (by omega)).1, (h j (by omega)).2.1, fun hj0 => ?_⟩
    rw [er_lt _ _ _ (by omega)]
    exact (h j (by omega)).2.2 hj0
  · rw [OkAt, er_ge _ _ _ h1]
    refine ⟨(h (j + 1) (by omega)).1, (h (j + 1) (by omega)).2.1, fun hj0 => ?_⟩
    rcases Nat.lt_or_ge (j - 1) b with h2 | h2
    · rw [er_lt _ _ _ h2]
      exact asc_strict h _ _ (by omega) (by omega)
    · rw [er_ge _ _ _ h2]
      exact asc_strict h _ _ (by omega) (by omega)

theorem add_valid {ms : List Int} (hv : Valid zs) (h0 : 0 ≤ t) (h1 : t ≤ 1125899906842624) (h : AddIs zs t ms) : Valid ms := by
  rcases h with ⟨_, rfl⟩ | ⟨hc, hl, rfl⟩ | ⟨hc, hl, b, hb, rfl⟩
  · exact hv
  · exact ⟨by rw [ins_length _ _ _ (cnt_le _ _)]; omega, ins_asc hv h0 h1 hc⟩
  · have hil := ins_length zs _ t (cnt_le zs t)
    have hb2 := hb.2.1
    have := er_len (ins zs (zs.countP (· < t)) t) b (by omega)
    exact ⟨by omega, er_asc (ins_asc hv h0 h1 hc) b (by omega)⟩

theorem add_length {ms : List Int} (h : AddIs zs t ms) : zs.length ≤ ms.length ∧ (zs.length = 64 → ms.length = 64) := by
  rcases h with ⟨_, rfl⟩ | ⟨hc, hl, rfl⟩ | ⟨hc, hl, b, hb, rfl⟩
  · exact ⟨Nat.le_refl _, id⟩
  · rw [ins_length _ _ _ (cnt_le _ _)]; omega
  · have hil := ins_length zs _ t (cnt_le zs t)
    have := er_len (ins zs (zs.countP (· < t)) t) b (by have := hb.2.1; omega)
    omega

theorem mem_er {xs : List Int} (b p : Nat) (hb : b < xs.length) (hp : p < xs.length) (hne : p ≠ b) : Mem (xs.eraseIdx b) (el xs p) := by
  have hl := er_len xs b hb
  rcases Nat.lt_or_ge p b with h | h
  · exact ⟨p, by omega, er_lt _ _ _ h⟩
  · refine ⟨p - 1, by omega, ?_⟩
    rw [er_ge _ _ _ (by omega), show p - 1 + 1 = p by omega]
theorem not_mem_er {xs : List Int} (h : Asc xs) (b : Nat) (hb : b < xs.length) : ∀ i, i < (xs.eraseIdx b).length → el (xs.eraseIdx b) i ≠ el xs b := by
  intro i hi he
  have hl := er_len xs b hb
  rcases Nat.lt_or_ge i b with h1 | h1
  · rw [er_lt _ _ _ h1] at he
    have := asc_inj h _ _ (by omega) hb he; omega
  · rw [er_ge _ _ _ h1] at he
    have := asc_inj h _ _ (by omega) hb he; omega

/-- where index j of zs lies once t is put in at i -/
def pos (i j : Nat) : Nat := if j < i then j else j + 1
theorem ins_pos {i : Nat} (hi : i ≤ zs.length) (j : Nat) : el (ins zs i t) (pos i j) = el zs j := by
  unfold pos
  split
  · exact ins_lt _ _ _ _ hi (by assumption)
  · exact ins_gt _ _ _ _ hi (by omega)

theorem add_miss {ms : List Int} (hv : Valid zs) (h0 : 0 ≤ t) (h1 : t ≤ 1125899906842624) (h : AddIs zs t ms) :
    ∃ r, (∀ j, j < zs.length → j ≠ r → Mem ms (el zs j)) ∧ (r < zs.length → (∀ i, i < ms.length → el ms i ≠ el zs r) ∧ Mem ms t ∧ ms.length = 64) ∧ (¬ Mem ms t → (∀ i, i < ms.length → el ms i ≠ t) ∧ ms.length = 64 ∧ zs.length ≤ r) ∧ (zs.length < 64 → Mem ms t) := by
  rcases h with ⟨hc, rfl⟩ | ⟨hc, hl, rfl⟩ | ⟨hc, hl, b, hb, rfl⟩
  · have hm := (mem_iff _ t).2 hc
    exact ⟨ms.length, fun j hj _ => ⟨j, hj, rfl⟩, fun h => absurd h (by omega), fun h => absurd hm h, fun _ => hm⟩
  · have hle := cnt_le zs t
    have hm : Mem (ins zs (zs.countP (· < t)) t) t := ⟨_, by rw [ins_length _ _ _ hle]; omega, ins_eq _ _ _ hle⟩
    refine ⟨zs.length, fun j hj _ => ⟨pos (zs.countP (· < t)) j, ?_, ins_pos hle j⟩, fun h => absurd h (by omega), fun h => absurd hm h, fun _ => hm⟩
    rw [ins_length _ _ _ hle]; unfold pos; split <;> omega
  · have hle := cnt_le zs t
    have ha := ins_asc hv h0 h1 hc
    have hil := ins_length zs _ t hle
    obtain ⟨b1, b2, _⟩ := hb
    generalize zs.countP (· < t) = i at hle ha hil b2
    have hbl : b < (ins zs i t).length := by omega
    have hel := er_len _ b hbl
    have hpl : ∀ j, j < zs.length → pos i j < (ins zs i t).length := fun j hj => by unfold pos; split <;> omega
    rcases Nat.lt_trichotomy b i with hbi | hbi | hbi
    · have hmt : Mem ((ins zs i t).eraseIdx b) t := by
        have := mem_er b i hbl (by omega) (by omega)
        rwa [ins_eq _ _ _ hle] at this
      refine ⟨b, fun j hj hne => ?_, fun hb' => ⟨?_, hmt, by omega⟩, fun h => absurd hmt h, fun _ => hmt⟩
      · rw [← ins_pos (t := t) hle j]
        exact mem_er b _ hbl (hpl j hj) (by unfold pos; split <;> omega)
      · have := not_mem_er ha b hbl
        rwa [ins_lt _ _ _ _ hle hbi] at this
    · subst hbi
      refine ⟨zs.length, fun j hj hne => ?_, fun hb' => absurd hb' (by omega), fun _ => ⟨?_, by omega, by omega⟩, fun h => by omega⟩
      · rw [← ins_pos (t := t) hle j]
        exact mem_er b _ hbl (hpl j hj) (by unfold pos; split <;> omega)
      · have := not_mem_er ha b hbl
        rwa [ins_eq _ _ _ hle] at this
    · have hmt : Mem ((ins zs i t).eraseIdx b) t := by
        have := mem_er b i hbl (by omega) (by omega)
        rwa [ins_eq _ _ _ hle] at this
      refine ⟨b - 1, fun j hj hne => ?_, fun hb' => ⟨?_, hmt, by omega⟩, fun h => absurd hmt h, fun _ => hmt⟩
      · rw [← ins_pos (t := t) hle j]
        exact mem_er b _ hbl (hpl j hj) (by unfold pos; split <;> omega)
      · have := not_mem_er ha b hbl
        obtain ⟨k, rfl⟩ : ∃ k, b = k + 1 := ⟨b - 1, by omega⟩
        rw [ins_gt _ _ _ _ hle (by omega)] at this
        simpa using this

theorem ins_ends (hv : Valid zs) (hn : 0 < zs.length) : let X := ins zs (zs.countP (· < t)) t; (zs.contains t = false → el X 0 = if el zs 0 < t then el zs 0 else t) ∧ (zs.contains t = false → el X zs.length = if t < el zs (zs.length - 1) then el zs (zs.length - 1) else t) := by
  obtain ⟨a, b⟩ := cnt_spec t zs (valid_sorted hv)
  have hle := cnt_le zs t
  intro X
  show (_ → el (ins zs (zs.countP (· < t)) t) 0 = _) ∧ (_ → el (ins zs (zs.countP (· < t)) t) zs.length = _)
  generalize zs.countP (· < t) = i at a b hle
  refine ⟨fun hc => ?_, fun hc => ?_⟩
  · rcases Nat.eq_zero_or_pos i with h | h
    · subst h
      rw [ins_eq _ _ _ hle, if_neg]
      have := b 0 (by omega) hn
      omega
    · rw [ins_lt _ _ _ _ hle h, if_pos (a 0 h)]
  · rcases Nat.lt_or_ge i zs.length with h | h
    · have e := ins_gt zs i t (zs.length - 1) hle (by omega)
      rw [show zs.length - 1 + 1 = zs.length by omega] at e
      have hb := b (zs.length - 1) (by omega) (by omega)
      have hne := not_mem zs t hc (zs.length - 1) (by omega)
      rw [e, if_pos (by omega)]
    · obtain rfl : i = zs.length := by omega
      have ha := a (zs.length - 1) (by omega)
      rw [ins_eq _ _ _ hle, if_neg (by omega)]

theorem add_ends {ms : List Int} (hv : Valid zs) (h : AddIs zs t ms) (hn : 0 < zs.length) :
    (el ms 0 = if el zs 0 < t then el zs 0 else t) ∧ el ms (ms.length - 1) = if t < el zs (zs.length - 1) then el zs (zs.length - 1) else t := by
  obtain ⟨f, l⟩ := ins_ends (t := t) hv hn
  have hle := cnt_le zs t
  rcases h with ⟨hc, rfl⟩ | ⟨hc, hl, rfl⟩ | ⟨hc, hl, b, hb, rfl⟩
  · obtain ⟨p, hp, he⟩ := (mem_iff _ t).2 hc
    have hva : Asc ms := hv.2
    have l1 := asc_le hva 0 p (by omega) hp
    have l2 := asc_le hva p (ms.length - 1) (by omega) (by omega)
    rw [he] at l1 l2
    exact ⟨by split <;> omega, by split <;> omega⟩
  · refine ⟨f hc, ?_⟩
    rw [ins_length _ _ _ hle, Nat.add_sub_cancel]
    exact l hc
  · have hil := ins_length zs _ t hle
    obtain ⟨b1, b2, _⟩ := hb
    have hel := er_len _ b (show b < (ins zs (zs.countP (· < t)) t).length by omega)
    refine ⟨?_, ?_⟩
    · rw [er_lt _ _ _ (by omega)]; exact f hc
    · rw [er_ge _ _ _ (by omega), show (ins zs (zs.countP (· < t)) t |>.eraseIdx b).length - 1 + 1 = zs.length by omega]
      exact l hc

theorem near_mem {ms : List Int} (hv : Valid ms) (hm : Mem ms t) {r : Int} {ok : Bool} (h : NearIs ms t r ok) : ok = true ∧ r = t := by
  obtain ⟨p, hp, he⟩ := hm
  rcases h with ⟨rfl, i, hi, h1, h2, h3⟩ | ⟨_, _, h3⟩
  · refine ⟨rfl, ?_⟩
    rcases Nat.lt_or_ge i p with hip | hip
    · have := h3 p hip hp; omega
    · have := asc_le hv.2 p i hip hi; omega
  · have := h3 p hp; omega
end
end Go.Proofs.Ytieopidlbfjhnaa
