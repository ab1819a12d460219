/- The law's weight of a type, as plain Lean. No walk here. How a formatted type is taken apart into tokens, as plain Lean. No walk here. A formatted type is read as its words, as plain Lean. No walk here. The words of a formatted type are parsed into a node that reads as the type, as plain Lean. No walk here. The law's source with a formatted type in it is parsed into a tree that holds the type, as plain Lean. No walk here. -/
import Derived.Test.YtjdpocmlimkjjaaGreatQ03
import Derived.Test.YtjdpocmlimkjjaaGreatQ08
import Derived.Test.YtjdpocmlimkjjaaGreatQ29
import Derived.Test.YtjdpocmlimkjjaaGreatQ05
namespace Go.Proofs.YtjdpocmlimkjjaaGreat

mutual
/-- what weight comes to -/
def weightT : Ty → Int → Int
  | .mk _ n a, d => if d < 0 then 100000 else (1 + n.size) + weightL a 100 (d - 1) + 1000 * max 0 ((a.length : Int) - 100)
def weightL : List Ty → Nat → Int → Int
  | [], _, _ => 0
  | t :: r, m, d => if m = 0 then 0 else weightT t d + weightL r (m - 1) d
end
mutual
/-- nodes and bytes of names -/
def Ty.bsz : Ty → Nat
  | .mk _ n a => 1 + n.size + bszL a
def bszL : List Ty → Nat
  | [] => 0
  | t :: r => t.bsz + bszL r
end
theorem bsz_mk (k : Int) (n : ByteArray) (a : List Ty) : (Ty.mk k n a).bsz = 1 + n.size + bszL a := by rw [Ty.bsz]
theorem bszL_cons (t : Ty) (r : List Ty) : bszL (t :: r) = t.bsz + bszL r := by rw [bszL]
theorem bszL_nil : bszL [] = 0 := by rw [bszL]
theorem bsz_pos (t : Ty) : 1 ≤ t.bsz := by obtain ⟨k, n, a⟩ := t; rw [bsz_mk]; omega
theorem bsz_mem : ∀ {l : List Ty} {t : Ty}, t ∈ l → t.bsz ≤ bszL l
  | x :: r, t, h => by
    rw [bszL_cons]
    rcases List.mem_cons.1 h with rfl | h
    · omega
    · have := bsz_mem h; omega
theorem bsz_len : ∀ l : List Ty, l.length ≤ bszL l
  | [] => by simp
  | x :: r => by rw [bszL_cons, List.length_cons]; have := bsz_len r; have := bsz_pos x; omega
theorem weightL_cons (t : Ty) (r : List Ty) (m : Nat) (d : Int) : weightL (t :: r) (m + 1) d = weightT t d + weightL r m d := by rw [weightL, if_neg (by omega), Nat.add_sub_cancel]
theorem weightL_zero (l : List Ty) (d : Int) : weightL l 0 d = 0 := by cases l with | nil => rw [weightL] | cons t r => rw [weightL, if_pos rfl]
theorem weightL_nil (m : Nat) (d : Int) : weightL [] m d = 0 := by rw [weightL]
mutual
theorem weightT_le : ∀ (t : Ty) (d : Int), 0 ≤ weightT t d ∧ weightT t d + 1000 ≤ 102000 * (t.bsz : Int)
  | .mk k n a, d => by
    have := weightL_le a 100 (d - 1)
    have := bsz_len a
    rw [weightT, bsz_mk]
    split
    · omega
    · omega
theorem weightL_le : ∀ (l : List Ty) (m : Nat) (d : Int), 0 ≤ weightL l m d ∧ weightL l m d + 1000 * (l.length : Int) ≤ 102000 * (bszL l : Int)
  | [], m, d => by rw [weightL, bszL]; simp
  | t :: r, m, d => by
    have h1 := weightT_le t d
    have h3 := bsz_pos t
    rw [weightL, bszL_cons, List.length_cons]
    split
    · have h2 := weightL_le r m d; omega
    · have h2 := weightL_le r (m - 1) d
      omega
end
mutual
/-- how deep a type is nested -/
def Ty.hgt : Ty → Nat
  | .mk _ _ a => 1 + hgtL a
def hgtL : List Ty → Nat
  | [] => 0
  | t :: r => max t.hgt (hgtL r)
end
theorem hgt_mk (k : Int) (n : ByteArray) (a : List Ty) : (Ty.mk k n a).hgt = 1 + hgtL a := by rw [Ty.hgt]
theorem hgtL_cons (t : Ty) (r : List Ty) : hgtL (t :: r) = max t.hgt (hgtL r) := by rw [hgtL]
theorem hgtL_nil : hgtL [] = 0 := by rw [hgtL]
mutual
/-- a light type is small and flat -/
theorem few_of : ∀ (t : Ty) (d : Int), -1 ≤ d → weightT t d ≤ 260 → (t.bsz : Int) ≤ weightT t d ∧ (t.hgt : Int) ≤ d + 1
  | .mk k n a, d, hd, h => by
    rw [weightT] at h ⊢
    rw [bsz_mk, hgt_mk]
    split at h
    · omega
    · rename_i h0
      rw [if_neg h0]
      have hw := weightL_le a 100 (d - 1)
      have := few_ofL a 100 (d - 1) (by omega) (by omega) (by omega)
      omega
theorem few_ofL : ∀ (l : List Ty) (m : Nat) (d : Int), -1 ≤ d → l.length ≤ m → weightL l m d ≤ 260 → (bszL l : Int) ≤ weightL l m d ∧ (hgtL l : Int) ≤ d + 1
  | [], m, d, hd, hm, h => by rw [weightL, bszL, hgtL]; exact ⟨by simp, by simpa using (by omega : 0 ≤ d + 1)⟩
  | t :: r, m, d, hd, hm, h => by
    obtain ⟨m, rfl⟩ : ∃ q, m = q + 1 := ⟨m - 1, by simp at hm; omega⟩
    rw [weightL_cons] at h ⊢
    rw [bszL_cons, hgtL_cons]
    have h1 := weightT_le t d
    have h2 := weightL_le r m d
    have k1 := few_of t d hd (by omega)
    have k2 := few_ofL r m d hd (by simp at hm; omega) (by omega)
    omega
end
end Go.Proofs.YtjdpocmlimkjjaaGreat

namespace Go.Proofs.YtjdpocmlimkjjaaGreat

/-- what is left of a source from i on -/
def rem (s : ByteArray) (i : Nat) : List UInt8 := s.data.toList.drop i
section
variable {s : ByteArray}
theorem size_list (s : ByteArray) : s.data.toList.length = s.size := rfl
theorem rem_cons {i : Nat} {c : UInt8} {l : List UInt8} (h : rem s i = c :: l) : i < s.size ∧ bt s i = c ∧ rem s (i + 1) = l := by
  unfold rem at h
  have hi : i < s.data.toList.length := by
    rcases Nat.lt_or_ge i s.data.toList.length with h1 | h1
    · exact h1
    · rw [List.drop_eq_nil_of_le h1] at h; cases h
  rw [List.drop_eq_getElem_cons hi] at h
  injection h with h1 h2
  refine ⟨by rw [← size_list]; exact hi, ?_, h2⟩
  unfold bt
  rw [List.getD_eq_getElem?_getD, List.getElem?_eq_getElem hi]
  exact h1
theorem rem_nil {i : Nat} (h : rem s i = []) : s.size ≤ i := by
  unfold rem at h
  have := List.drop_eq_nil_iff.1 h
  rwa [size_list] at this
theorem rem_append {i : Nat} : ∀ {a l : List UInt8}, rem s i = a ++ l → rem s (i + a.length) = l := by
  intro a
  induction a generalizing i with
  | nil => intro l h; exact h
  | cons c a ih =>
    intro l h
    have := ih (rem_cons h).2.2
    rw [List.length_cons, show i + (a.length + 1) = i + 1 + a.length by omega]
    exact this
theorem rem_size {i : Nat} {a l : List UInt8} (h : rem s i = a ++ l) (ha : a ≠ []) : i + a.length ≤ s.size := by
  have h1 : (rem s i).length = a.length + l.length := by rw [h, List.length_append]
  unfold rem at h1
  rw [List.length_drop, size_list] at h1
  cases a with
  | nil => exact absurd rfl ha
  | cons c r => simp at h1 ⊢; omega
theorem extract_rem {i : Nat} {a l : List UInt8} (h : rem s i = a ++ l) : s.extract i (i + a.length) = ⟨a.toArray⟩ := by
  have h1 : (s.extract i (i + a.length)).data.toList = a := by
    rw [ByteArray.data_extract, Array.toList_extract]
    show List.take (i + a.length - i) (List.drop i s.data.toList) = a
    unfold rem at h
    rw [h, Nat.add_sub_cancel_left, List.take_left']
    rfl
  have h2 : (s.extract i (i + a.length)).data = a.toArray := by have := congrArg List.toArray h1; rwa [Array.toArray_toList] at this
  cases hx : s.extract i (i + a.length) with
  | mk d => rw [hx] at h2; exact congrArg ByteArray.mk h2
/-- a byte at which a token may begin -/
def startC (c : UInt8) : Bool := !zii c && !decide (c = 47)
theorem skip_here {i : Nat} {c : UInt8} {l : List UInt8} (h : rem s i = c :: l) (hc : startC c = true) (f : Nat) : zdw s (f + 1) i = i := by
  obtain ⟨h1, h2, _⟩ := rem_cons h
  unfold startC at hc
  rw [Bool.and_eq_true, Bool.not_eq_true', Bool.not_eq_true', decide_eq_false_iff_not] at hc
  rw [zdw, if_pos h1, h2, hc.1, if_neg (by simp), if_neg (fun e => hc.2 e.1)]
theorem skip_blank {i : Nat} {c : UInt8} {l : List UInt8} (h : rem s i = 32 :: c :: l) (hc : startC c = true) : zdw s s.size i = i + 1 := by
  obtain ⟨h1, h2, h3⟩ := rem_cons h
  obtain ⟨h4, _, _⟩ := rem_cons h3
  obtain ⟨f, hf⟩ : ∃ f, s.size = f + 1 + 1 := ⟨s.size - 2, by omega⟩
  rw [hf, zdw, if_pos h1, h2, if_pos (by kernel_rfl)]
  exact skip_here h3 hc f
/-- from i on the tokens T are read, up to j -/
def Sc (s : ByteArray) (i : Nat) (T : List Tok) (j : Nat) : Prop := i + T.length ≤ j ∧ ∀ f acc, zfS s (f + T.length) i acc = zfS s f j (acc ++ T)
theorem Sc.nil (s : ByteArray) (i : Nat) : Sc s i [] i := ⟨by simp, fun f acc => by simp⟩
theorem Sc.comp {i j k : Nat} {T U : List Tok} (h : Sc s i T j) (g : Sc s j U k) : Sc s i (T ++ U) k := by
  refine ⟨by rw [List.length_append]; have := h.1; have := g.1; omega, fun f acc => ?_⟩
  rw [List.length_append, show f + (T.length + U.length) = (f + U.length) + T.length by omega, h.2, g.2, List.append_assoc]
theorem Sc.one {i e : Nat} {t : Tok} (hi : i < s.size) (hs : zdw s s.size i = i) (ht : zdv s i = .ok (t, e)) (he : i < e) : Sc s i [t] e := by
  refine ⟨by simp; omega, fun f acc => ?_⟩
  show zfS s (f + 1) i acc = _
  rw [zfS]
  simp only [hs]
  rw [if_neg (by omega), ht]
theorem Sc.blank {i j : Nat} {c : UInt8} {l : List UInt8} {t : Tok} {T : List Tok} (h : rem s i = 32 :: c :: l) (hc : startC c = true) (g : Sc s (i + 1) (t :: T) j) : Sc s i (t :: T) j := by
  refine ⟨by have := g.1; omega, fun f acc => ?_⟩
  rw [← g.2 f acc]
  show zfS s (f + T.length + 1) i acc = zfS s (f + T.length + 1) (i + 1) acc
  obtain ⟨_, _, h3⟩ := rem_cons h
  obtain ⟨h4, _, _⟩ := rem_cons h3
  obtain ⟨q, hq⟩ : ∃ q, s.size = q + 1 := ⟨s.size - 1, by omega⟩
  have e1 := skip_blank h hc
  have e2 : zdw s s.size (i + 1) = i + 1 := by rw [hq]; exact skip_here h3 hc q
  rw [zfS, zfS]
  simp only [e1, e2]
theorem wordEnd_of : ∀ (a : List UInt8) (f i : Nat) (l : List UInt8), rem s i = a ++ l → a.all wc = true → (∀ c r, l = c :: r → wc c = false) → a.length ≤ f → zbm s f i = i + a.length
  | [], f, i, l, h, _, hl, _ => by
    cases f with
    | zero => rfl
    | succ f =>
      rw [zbm]
      cases l with
      | nil => have := rem_nil h; rw [if_neg (fun e => by omega)]; rfl
      | cons c r =>
        obtain ⟨_, h2, _⟩ := rem_cons h
        rw [if_neg (fun e => by rw [h2, hl c r rfl] at e; cases e.2)]
        rfl
  | x :: a, f, i, l, h, ha, hl, hf => by
    obtain ⟨f, rfl⟩ : ∃ q, f = q + 1 := ⟨f - 1, by simp at hf; omega⟩
    obtain ⟨h1, h2, h3⟩ := rem_cons h
    rw [List.all_cons, Bool.and_eq_true] at ha
    rw [zbm, if_pos ⟨h1, by rw [h2]; exact ha.1⟩, wordEnd_of a f (i + 1) l h3 ha.2 hl (by simp at hf; omega), List.length_cons]
    omega
theorem letter_start (c : UInt8) (h : zfC c = true) : startC c = true := by
  have hn : ∀ v : UInt8, zfC v = false → c ≠ v := fun v hv e => by rw [← e, h] at hv; cases hv
  have h1 := hn 9 (by kernel_rfl)
  have h2 := hn 10 (by kernel_rfl)
  have h3 := hn 13 (by kernel_rfl)
  have h4 := hn 32 (by kernel_rfl)
  have h5 := hn 47 (by kernel_rfl)
  unfold startC zii
  simp [h1, h2, h3, h4, h5]
/-- a word -/
theorem Sc.word {i : Nat} {c : UInt8} {a l : List UInt8} (h : rem s i = (c :: a) ++ l) (hc : zfC c = true) (ha : (c :: a).all wc = true) (hl : ∀ x r, l = x :: r → wc x = false) : ∃ t : Tok, t.text = ⟨(c :: a).toArray⟩ ∧ t.kind = 1 ∧ Sc s i [t] (i + (c :: a).length) := by
  have hz := rem_size h (by simp)
  obtain ⟨h1, h2, _⟩ := rem_cons h
  have hw := wordEnd_of (c :: a) s.size i l h ha hl (by omega)
  obtain ⟨q, hq⟩ : ∃ q, s.size = q + 1 := ⟨s.size - 1, by omega⟩
  refine ⟨⟨1, ⟨(c :: a).toArray⟩, 0, i⟩, rfl, rfl, Sc.one h1 (by rw [hq]; exact skip_here h (letter_start c hc) q) ?_ (by simp)⟩
  rw [zdv, h2, if_pos hc, hw, extract_rem h]
/-- a mark of one byte that no mark of two begins with -/
theorem Sc.mark {i : Nat} {c d : UInt8} {l : List UInt8} (h : rem s i = c :: d :: l) (hc : zfC c = false ∧ zcY c = false ∧ ¬ c = 34 ∧ startC c = true) (h1 : zcq ⟨#[c]⟩ = true) (h2 : zcq ⟨#[c, d]⟩ = false) : ∃ t : Tok, t.text = ⟨#[c]⟩ ∧ t.kind = 4 ∧ Sc s i [t] (i + 1) := by
  obtain ⟨g1, g2, _⟩ := rem_cons h
  have e1 : s.extract i (i + 1) = ⟨#[c]⟩ := extract_rem (a := [c]) h
  have e2 : s.extract i (i + 2) = ⟨#[c, d]⟩ := extract_rem (a := [c, d]) h
  obtain ⟨q, hq⟩ : ∃ q, s.size = q + 1 := ⟨s.size - 1, by omega⟩
  refine ⟨⟨4, ⟨#[c]⟩, 0, i⟩, rfl, rfl, Sc.one g1 (by rw [hq]; exact skip_here h hc.2.2.2 q) ?_ (by omega)⟩
  rw [zdv, g2, hc.1, if_neg (by simp), hc.2.1, if_neg (by simp), if_neg hc.2.2.1, zkx, e1, e2, h1, h2, if_neg (by simp), if_pos rfl]
end
/-- tokens that hold these words -/
def Wt (T : List Tok) (ws : List ByteArray) : Prop := T.map Tok.text = ws ∧ ∀ t ∈ T, t.kind = 1 ∨ t.kind = 4
theorem Wt.nil : Wt [] [] := ⟨rfl, fun t h => by cases h⟩
theorem Wt.comp {T U : List Tok} {ws us : List ByteArray} (h : Wt T ws) (g : Wt U us) : Wt (T ++ U) (ws ++ us) := ⟨by rw [List.map_append, h.1, g.1], fun t ht => by rcases List.mem_append.1 ht with h1 | h1 <;> first | exact h.2 t h1 | exact g.2 t h1⟩
/-- from i to j these words are read -/
def Lx (s : ByteArray) (i : Nat) (ws : List ByteArray) (j : Nat) : Prop := ∃ T, Wt T ws ∧ Sc s i T j
section
variable {s : ByteArray}
theorem Lx.comp {i j k : Nat} {ws us : List ByteArray} (h : Lx s i ws j) (g : Lx s j us k) : Lx s i (ws ++ us) k := by
  obtain ⟨T, h1, h2⟩ := h
  obtain ⟨U, g1, g2⟩ := g
  exact ⟨T ++ U, h1.comp g1, h2.comp g2⟩
theorem Lx.nil (s : ByteArray) (i : Nat) : Lx s i [] i := ⟨[], Wt.nil, Sc.nil s i⟩
theorem Lx.word {i : Nat} {c : UInt8} {a l : List UInt8} (h : rem s i = (c :: a) ++ l) (hc : zfC c = true) (ha : (c :: a).all wc = true) (hl : ∀ x r, l = x :: r → wc x = false) : Lx s i [⟨(c :: a).toArray⟩] (i + (c :: a).length) := by
  obtain ⟨t, h1, h2, h3⟩ := Sc.word h hc ha hl
  exact ⟨[t], ⟨by rw [← h1]; rfl, fun u hu => by simp at hu; subst hu; exact .inl h2⟩, h3⟩
theorem Lx.mark {i : Nat} {c d : UInt8} {l : List UInt8} (h : rem s i = c :: d :: l) (hc : zfC c = false ∧ zcY c = false ∧ ¬ c = 34 ∧ startC c = true) (h1 : zcq ⟨#[c]⟩ = true) (h2 : zcq ⟨#[c, d]⟩ = false) : Lx s i [⟨#[c]⟩] (i + 1) := by
  obtain ⟨t, h1, h2, h3⟩ := Sc.mark h hc h1 h2
  exact ⟨[t], ⟨by rw [← h1]; rfl, fun u hu => by simp at hu; subst hu; exact .inr h2⟩, h3⟩
theorem Lx.blank {i j : Nat} {c : UInt8} {l : List UInt8} {w : ByteArray} {ws : List ByteArray} (h : rem s i = 32 :: c :: l) (hc : startC c = true) (g : Lx s (i + 1) (w :: ws) j) : Lx s i (w :: ws) j := by
  obtain ⟨T, h1, h2⟩ := g
  cases T with
  | nil => cases h1.1
  | cons t T => exact ⟨t :: T, h1, h2.blank h hc⟩
end
/-- marks of one byte: no mark of two bytes begins with it -/
def mark1 (c : UInt8) : Bool := !zfC c && !zcY c && !decide (c = 34) && startC c && zcq ⟨#[c]⟩
theorem Lx.m1 {s : ByteArray} {i : Nat} {c d : UInt8} {l : List UInt8} (h : rem s i = c :: d :: l) (h1 : mark1 c = true) (h2 : zcq ⟨#[c, d]⟩ = false) : Lx s i [⟨#[c]⟩] (i + 1) := by
  unfold mark1 at h1
  simp only [Bool.and_eq_true, Bool.not_eq_true', decide_eq_false_iff_not] at h1
  exact Lx.mark h ⟨h1.1.1.1.1, h1.1.1.1.2, h1.1.1.2, h1.1.2⟩ h1.2 h2
theorem mk_size (l : List UInt8) : (⟨l.toArray⟩ : ByteArray).size = l.length := by show l.toArray.size = _; simp
theorem two_ne {c d : UInt8} {x : ByteArray} (h : x.size = 2 → x.data.toList.head? ≠ some c) : ¬ x = ⟨#[c, d]⟩ := fun e => by subst e; exact h rfl rfl
/-- no mark of two bytes begins with ( ) [ ] , -/
theorem mark2_no (c d : UInt8) (hc : c = 40 ∨ c = 41 ∨ c = 91 ∨ c = 93 ∨ c = 44) : zcq ⟨#[c, d]⟩ = false := by
  unfold zcq zqL
  rw [List.any_eq_false]
  intro x hx
  rw [decide_eq_true_iff]
  refine two_ne (fun hs e => ?_)
  simp only [List.mem_cons, List.not_mem_nil, or_false] at hx
  rcases hc with rfl | rfl | rfl | rfl | rfl <;> (rcases hx with rfl | rfl | rfl | rfl | rfl | rfl | rfl | rfl | rfl | rfl | rfl | rfl | rfl | rfl | rfl | rfl | rfl | rfl | rfl | rfl | rfl | rfl | rfl | rfl | rfl | rfl | rfl <;> first | (exact absurd hs (by decide)) | (exact absurd e (by decide)))
mutual
/-- the words of a formatted type -/
def wordsT : Ty → List ByteArray
  | .mk k n a =>
    if k = 1 then [(⟨#[117, 110, 105, 116]⟩ : ByteArray)] else if k = 2 then [(⟨#[98, 111, 111, 108]⟩ : ByteArray)] else if k = 3 then [(⟨#[105, 110, 116]⟩ : ByteArray)] else if k = 4 then [(⟨#[116, 101, 120, 116]⟩ : ByteArray)]
    else if k = 6 then [n] else if k = 7 then [(⟨#[114, 101, 102]⟩ : ByteArray), n]
    else if k = 5 then [(⟨#[91]⟩ : ByteArray)] ++ (wordsO a ++ [(⟨#[93]⟩ : ByteArray)])
    else if k = 8 then [(⟨#[102, 117, 110]⟩ : ByteArray), (⟨#[40]⟩ : ByteArray)] ++ wordsF a true else []
def wordsO : List Ty → List ByteArray
  | [] => []
  | t :: _ => wordsT t
def wordsF : List Ty → Bool → List ByteArray
  | [], _ => []
  | t :: r, first => if r.isEmpty then [(⟨#[41]⟩ : ByteArray), (⟨#[58]⟩ : ByteArray)] ++ wordsT t else (if first then [] else [(⟨#[44]⟩ : ByteArray)]) ++ (wordsT t ++ wordsF r false)
end
theorem wordsO_cons (t : Ty) (r : List Ty) : wordsO (t :: r) = wordsT t := by rw [wordsO]
theorem wordsF_cons (t : Ty) (r : List Ty) (f : Bool) : wordsF (t :: r) f = if r.isEmpty then [(⟨#[41]⟩ : ByteArray), (⟨#[58]⟩ : ByteArray)] ++ wordsT t else (if f then [] else [(⟨#[44]⟩ : ByteArray)]) ++ (wordsT t ++ wordsF r false) := by rw [wordsF]
/-- a name that begins with a letter -/
theorem upper_word {n : ByteArray} (h : zaw n = true) : ∃ c a, n.data.toList = c :: a ∧ zfC c = true ∧ (c :: a).all wc = true := by
  unfold zaw isW at h
  cases hl : n.data.toList with
  | nil => rw [hl] at h; cases h
  | cons c a =>
    rw [hl] at h
    simp only [Bool.and_eq_true] at h
    refine ⟨c, a, rfl, ?_, h.2⟩
    unfold zfC
    rw [h.1.1, h.1.2]
    simp
theorem of_list {n : ByteArray} {l : List UInt8} (h : n.data.toList = l) : n = ⟨l.toArray⟩ := by
  cases n with
  | mk d => simp only at h; rw [← h]
theorem formed_cons (t : Ty) (r : List Ty) : zbZ (t :: r) = (zbJ t && zbZ r) := by rw [zbZ]
/-- what a formatted type begins with, and the words it is read as, where it ends -/
def LxT (t : Ty) : Prop := ∀ (s : ByteArray) (i : Nat) (c : UInt8) (l : List UInt8), zbJ t = true → rem s i = zdq t ++ c :: l → wc c = false → Lx s i (wordsT t) (i + (zdq t).length)
theorem show_start (t : Ty) (h : zbJ t = true) : ∃ c a w ws, zdq t = c :: a ∧ startC c = true ∧ wordsT t = w :: ws ∧ ¬ w = (⟨#[41]⟩ : ByteArray) := by
  obtain ⟨k, n, a⟩ := t
  rw [zbJ] at h
  rw [zdq, wordsT]
  by_cases h1 : k = 1
  · subst h1; exact ⟨_, _, _, _, rfl, by kernel_rfl, rfl, by decide⟩
  · by_cases h2 : k = 2
    · subst h2; exact ⟨_, _, _, _, rfl, by kernel_rfl, rfl, by decide⟩
    · by_cases h3 : k = 3
      · subst h3; exact ⟨_, _, _, _, rfl, by kernel_rfl, rfl, by decide⟩
      · by_cases h4 : k = 4
        · subst h4; exact ⟨_, _, _, _, rfl, by kernel_rfl, rfl, by decide⟩
        · rw [if_neg (by omega)] at h
          rw [if_neg h1, if_neg h2, if_neg h3, if_neg h4, if_neg h1, if_neg h2, if_neg h3, if_neg h4]
          by_cases h6 : k = 6
          · subst h6
            rw [if_pos (.inl rfl), Bool.and_eq_true] at h
            rw [if_pos rfl, if_pos rfl]
            obtain ⟨c, b, hn, hc, _⟩ := upper_word h.1
            exact ⟨c, b, n, [], hn, letter_start c hc, rfl, fun e => by subst e; revert hc; injection hn with hn _; subst hn; decide⟩
          · by_cases h7 : k = 7
            · subst h7; exact ⟨_, _, _, _, rfl, by kernel_rfl, rfl, by decide⟩
            · rw [if_neg (by omega)] at h
              rw [if_neg h6, if_neg h7, if_neg h6, if_neg h7]
              by_cases h5 : k = 5
              · subst h5; exact ⟨_, _, _, _, rfl, by kernel_rfl, rfl, by decide⟩
              · rw [if_neg h5] at h
                rw [if_neg h5, if_neg h5]
                by_cases h8 : k = 8
                · subst h8; exact ⟨_, _, _, _, rfl, by kernel_rfl, rfl, by decide⟩
                · rw [if_neg h8] at h; cases h
end Go.Proofs.YtjdpocmlimkjjaaGreat

namespace Go.Proofs.YtjdpocmlimkjjaaGreat

theorem some_cons (a : List UInt8) (c : UInt8) (l : List UInt8) : ∃ d r, a ++ c :: l = d :: r := by cases a with | nil => exact ⟨c, l, rfl⟩ | cons d r => exact ⟨d, r ++ c :: l, rfl⟩
theorem nwc (c : UInt8) (l : List UInt8) (h : wc c = false) : ∀ x r, c :: l = x :: r → wc x = false := fun x r e => by injection e with e _; subst e; exact h
theorem funL_start (t : Ty) (r : List Ty) : ∃ c a, funL (t :: r) false = c :: a ∧ wc c = false := by
  rw [zpd]
  cases r with
  | nil => exact ⟨41, _, rfl, by kernel_rfl⟩
  | cons x r => exact ⟨44, _, rfl, by kernel_rfl⟩
theorem lxF {s : ByteArray} {c : UInt8} {l : List UInt8} (hc : wc c = false) : ∀ (a : List Ty) (first : Bool) (i : Nat), a ≠ [] → zbZ a = true → (∀ t ∈ a, LxT t) → rem s i = funL a first ++ c :: l → Lx s i (wordsF a first) (i + (funL a first).length)
  | [], _, _, h, _, _, _ => absurd rfl h
  | t :: r, first, i, _, hf, IH, h => by
    rw [formed_cons, Bool.and_eq_true] at hf
    obtain ⟨c0, a0, w0, ws0, hs, hst, hw, _⟩ := show_start t hf.1
    rw [zpd] at h ⊢
    rw [wordsF_cons]
    cases r with
    | nil =>
      rw [if_pos (by rfl)] at h ⊢
      rw [if_pos (by rfl)]
      replace h : rem s i = 41 :: 58 :: 32 :: (zdq t ++ c :: l) := by rw [h]; simp
      have h1 := (rem_cons h).2.2
      have h2 := (rem_cons h1).2.2
      have h3 := (rem_cons h2).2.2
      have k1 := Lx.m1 h (by kernel_rfl) (by kernel_rfl)
      have k2 := Lx.m1 h1 (by kernel_rfl) (by kernel_rfl)
      have k3 := IH t (by simp) s _ c l hf.1 h3 hc
      rw [hw] at k3 ⊢
      rw [hs] at h2
      have := (k1.comp k2).comp (Lx.blank h2 hst k3)
      rw [List.length_append]
      simpa [Nat.add_assoc, Nat.add_comm, Nat.add_left_comm] using this
    | cons x r =>
      have hx : ¬ ((x :: r).isEmpty = true) := by simp
      rw [if_neg hx] at h ⊢
      rw [if_neg hx]
      obtain ⟨c1, a1, hf1, hc1⟩ := funL_start x r
      have hrest : ∀ j, rem s j = zdq t ++ (funL (x :: r) false ++ c :: l) → Lx s j (wordsT t ++ wordsF (x :: r) false) (j + (zdq t ++ funL (x :: r) false).length) := fun j hj => by
        have g := rem_append hj
        have k1 := IH t (by simp) s j c1 (a1 ++ c :: l) hf.1 (by rw [hj, hf1]; rfl) hc1
        have k2 := lxF hc (x :: r) false (j + (zdq t).length) (by simp) hf.2 (fun y hy => IH y (List.mem_cons_of_mem _ hy)) g
        have := k1.comp k2
        rwa [Nat.add_assoc, ← List.length_append] at this
      cases first with
      | true =>
        simp only [if_true, List.nil_append] at h ⊢
        exact hrest i (by rw [h, List.append_assoc])
      | false =>
        replace h : rem s i = 44 :: 32 :: (zdq t ++ (funL (x :: r) false ++ c :: l)) := by rw [h]; simp
        have h1 := (rem_cons h).2.2
        have h2 := (rem_cons h1).2.2
        have k1 := Lx.m1 h (by kernel_rfl) (by kernel_rfl)
        have k3 := hrest _ h2
        rw [hw] at k3 ⊢
        rw [hs] at h1
        have := k1.comp (Lx.blank h1 hst k3)
        rw [List.length_append]
        simpa [Nat.add_assoc, Nat.add_comm, Nat.add_left_comm] using this
theorem lx_step (k : Int) (n : ByteArray) (a : List Ty) (IH : ∀ t ∈ a, LxT t) : LxT (.mk k n a) := by
  intro s i c l hf h hc
  rw [zbJ] at hf
  rw [zdq] at h ⊢
  rw [wordsT]
  by_cases h1 : k = 1
  · subst h1; exact Lx.word (c := 117) (a := [110, 105, 116]) h (by kernel_rfl) (by kernel_rfl) (nwc c l hc)
  · by_cases h2 : k = 2
    · subst h2; exact Lx.word (c := 98) (a := [111, 111, 108]) h (by kernel_rfl) (by kernel_rfl) (nwc c l hc)
    · by_cases h3 : k = 3
      · subst h3; exact Lx.word (c := 105) (a := [110, 116]) h (by kernel_rfl) (by kernel_rfl) (nwc c l hc)
      · by_cases h4 : k = 4
        · subst h4; exact Lx.word (c := 116) (a := [101, 120, 116]) h (by kernel_rfl) (by kernel_rfl) (nwc c l hc)
        · rw [if_neg (by omega)] at hf
          rw [if_neg h1, if_neg h2, if_neg h3, if_neg h4] at h ⊢
          rw [if_neg h1, if_neg h2, if_neg h3, if_neg h4]
          by_cases h6 : k = 6
          · subst h6
            rw [if_pos (.inl rfl), Bool.and_eq_true] at hf
            rw [if_pos rfl] at h ⊢
            rw [if_pos rfl]
            obtain ⟨x, b, hn, hx, hb⟩ := upper_word hf.1
            rw [hn] at h ⊢
            rw [of_list hn]
            exact Lx.word h hx hb (nwc c l hc)
          · by_cases h7 : k = 7
            · subst h7
              rw [if_pos (.inr rfl), Bool.and_eq_true] at hf
              rw [if_neg h6, if_pos rfl] at h ⊢
              rw [if_neg h6, if_pos rfl]
              obtain ⟨x, b, hn, hx, hb⟩ := upper_word hf.1
              rw [hn] at h ⊢
              rw [of_list hn]
              replace h : rem s i = [114, 101, 102] ++ (32 :: x :: (b ++ c :: l)) := h
              have g1 := rem_append h
              have g2 := (rem_cons g1).2.2
              have k1 := Lx.word (c := 114) (a := [101, 102]) h (by kernel_rfl) (by kernel_rfl) (nwc 32 _ (by kernel_rfl))
              have k2 := Lx.word (c := x) (a := b) g2 hx hb (nwc c l hc)
              have := k1.comp (Lx.blank g1 (letter_start x hx) k2)
              rw [List.length_append]
              simpa [Nat.add_assoc, Nat.add_comm, Nat.add_left_comm] using this
            · rw [if_neg (by omega)] at hf
              rw [if_neg h6, if_neg h7] at h ⊢
              rw [if_neg h6, if_neg h7]
              by_cases h5 : k = 5
              · subst h5
                rw [if_pos rfl] at hf h ⊢
                rw [if_pos rfl]
                simp only [Bool.and_eq_true, decide_eq_true_eq] at hf
                obtain ⟨t, rfl⟩ : ∃ t, a = [t] := List.length_eq_one_iff.1 hf.1.2
                have hft := hf.2
                rw [formed_cons, Bool.and_eq_true] at hft
                rw [zoU] at h ⊢
                rw [wordsO_cons]
                obtain ⟨c0, a0, w0, ws0, hs, hst, hw, _⟩ := show_start t hft.1
                replace h : rem s i = 91 :: (zdq t ++ 93 :: c :: l) := by rw [h]; simp
                have g1 := (rem_cons h).2.2
                have g2 := rem_append g1
                have k1 : Lx s i [⟨#[91]⟩] (i + 1) := by rw [hs] at h; exact Lx.m1 h (by kernel_rfl) (mark2_no _ _ (by simp))
                have k2 := IH t (by simp) s (i + 1) 93 (c :: l) hft.1 g1 (by kernel_rfl)
                have k3 := Lx.m1 g2 (by kernel_rfl) (mark2_no _ _ (by simp))
                have := k1.comp (k2.comp k3)
                simpa [Nat.add_assoc, Nat.add_comm, Nat.add_left_comm] using this
              · rw [if_neg h5] at hf h ⊢
                rw [if_neg h5]
                by_cases h8 : k = 8
                · subst h8
                  rw [if_pos rfl] at hf h ⊢
                  rw [if_pos rfl]
                  simp only [Bool.and_eq_true] at hf
                  have hne : a ≠ [] := fun e => by subst e; exact absurd hf.1.2 (by simp)
                  replace h : rem s i = [102, 117, 110] ++ (40 :: (funL a true ++ c :: l)) := by rw [h]; simp
                  have g1 := rem_append h
                  have g2 := (rem_cons g1).2.2
                  obtain ⟨d, r, hd⟩ := some_cons (funL a true) c l
                  have k1 := Lx.word (c := 102) (a := [117, 110]) h (by kernel_rfl) (by kernel_rfl) (nwc 40 _ (by kernel_rfl))
                  have k2 : Lx s (i + [102, 117, 110].length) [⟨#[40]⟩] (i + [102, 117, 110].length + 1) := by rw [hd] at g1; exact Lx.m1 g1 (by kernel_rfl) (mark2_no _ _ (by simp))
                  have k3 := lxF hc a true _ hne hf.2 IH g2
                  have := (k1.comp k2).comp k3
                  rw [List.length_append]
                  simpa [Nat.add_assoc, Nat.add_comm, Nat.add_left_comm] using this
                · rw [if_neg h8] at hf; cases hf
theorem lx_type : ∀ t : Ty, LxT t
  | .mk k n a => lx_step k n a (fun x _hx => lx_type x)
end Go.Proofs.YtjdpocmlimkjjaaGreat

namespace Go.Proofs.YtjdpocmlimkjjaaGreat

/-- the words from i on -/
def Wd (T : List Tok) (i : Nat) (ws : List ByteArray) : Prop := ∀ k w, ws[k]? = some w → ∀ hd, zao T ⟨i + k, hd⟩ = w
section
variable {T : List Tok} {en : Int}
theorem Wd.of {ws : List ByteArray} (h : Wt T ws) : Wd T 0 ws := fun k w hk hd => by
  rw [← h.1, List.getElem?_map] at hk
  cases ht : T[k]? with
  | none => rw [ht] at hk; cases hk
  | some t =>
    rw [ht] at hk
    have hk : t.text = w := Option.some.inj hk
    unfold zao
    simp only [Nat.zero_add, ht]
    rw [if_pos (h.2 t (List.mem_of_getElem? ht))]
    exact hk
theorem Wd.left {i : Nat} {a b : List ByteArray} (h : Wd T i (a ++ b)) : Wd T i a := fun k w hk hd => h k w (by rw [List.getElem?_append_left (List.getElem?_eq_some_iff.1 hk).1]; exact hk) hd
theorem Wd.right {i : Nat} {a b : List ByteArray} (h : Wd T i (a ++ b)) : Wd T (i + a.length) b := fun k w hk hd => by
  have := h (a.length + k) w (by rw [List.getElem?_append_right (by omega), Nat.add_sub_cancel_left]; exact hk) hd
  rwa [← Nat.add_assoc] at this
theorem Wd.head {st : Ps} {w : ByteArray} {ws : List ByteArray} (h : Wd T st.next (w :: ws)) : zao T st = w := h 0 w rfl st.head
theorem Wd.tail {st : Ps} {w : ByteArray} {ws : List ByteArray} (h : Wd T st.next (w :: ws)) : Wd T st.adv.next ws := Wd.right (a := [w]) h
theorem Wd.at {i j : Nat} {ws : List ByteArray} (h : Wd T i ws) (e : i = j) : Wd T j ws := e ▸ h
end
/-- the words of arguments behind the first -/
def sepW (r : List Ty) : List ByteArray := r.flatMap (fun t => (⟨#[44]⟩ : ByteArray) :: wordsT t)
theorem sepW_cons (t : Ty) (r : List Ty) : sepW (t :: r) = (⟨#[44]⟩ : ByteArray) :: (wordsT t ++ sepW r) := by unfold sepW; rw [List.flatMap_cons]; rfl
theorem wordsF_sep : ∀ (r : List Ty) (x : Ty), wordsF (r ++ [x]) false = sepW r ++ ([(⟨#[41]⟩ : ByteArray), (⟨#[58]⟩ : ByteArray)] ++ wordsT x)
  | [], x => by rw [List.nil_append, wordsF_cons, if_pos (by rfl)]; rfl
  | t :: r, x => by
    rw [List.cons_append, wordsF_cons, if_neg (by cases r <;> simp), wordsF_sep r x, sepW_cons]
    simp
theorem wordsF_first (t : Ty) (r : List Ty) (x : Ty) : wordsF (t :: r ++ [x]) true = wordsT t ++ (sepW r ++ ([(⟨#[41]⟩ : ByteArray), (⟨#[58]⟩ : ByteArray)] ++ wordsT x)) := by
  rw [List.cons_append, wordsF_cons, if_neg (by cases r <;> simp), wordsF_sep r x]
  simp
/-- a formatted type is parsed as a node that reads as the type -/
def PT (T : List Tok) (en : Int) (t : Ty) : Prop := zbJ t = true → ∀ (f : Nat) (st : Ps), t.bsz ≤ f → Wd T st.next (wordsT t) → ∃ N, zdB T en f .typ st = .ok (N, ⟨st.next + (wordsT t).length, st.head⟩) ∧ zfp N = some t ∧ ∀ d, d + t.hgt ≤ 41 → zlM N d = none
theorem readL_nil : zer [] = some [] := by rw [zer]
theorem readL_cons (n : Nd) (r : List Nd) : zer (n :: r) = match zfp n with | none => none | some t => match zer r with | none => none | some l => some (t :: l) := by rw [zer]; rfl
theorem readL_one {N : Nd} {t : Ty} (h : zfp N = some t) : zer [N] = some [t] := by rw [readL_cons, h, readL_nil]
theorem readL_app : ∀ {Ns Ms : List Nd} {r q : List Ty}, zer Ns = some r → zer Ms = some q → zer (Ns ++ Ms) = some (r ++ q)
  | [], Ms, r, q, h, g => by rw [readL_nil] at h; injection h with h; subst h; exact g
  | N :: Ns, Ms, r, q, h, g => by
    rw [readL_cons] at h
    rw [List.cons_append, readL_cons]
    cases h1 : zfp N with
    | none => rw [h1] at h; cases h
    | some t =>
      rw [h1] at h
      simp only at h
      cases h2 : zer Ns with
      | none => rw [h2] at h; cases h
      | some l =>
        rw [h2] at h
        injection h with h
        subst h
        rw [readL_app h2 g]
        rfl
theorem deepNs_nil (d : Nat) : zdW [] d = none := by rw [zdW]
theorem deepNs_cons (n : Nd) (r : List Nd) (d : Nat) : zdW (n :: r) d = match zlM n d with | some a => some a | none => zdW r d := by rw [zdW]; rfl
theorem deepNs_app : ∀ {Ns Ms : List Nd} {d : Nat}, zdW Ns d = none → zdW Ms d = none → zdW (Ns ++ Ms) d = none
  | [], _, _, _, g => g
  | N :: Ns, Ms, d, h, g => by
    rw [deepNs_cons] at h
    rw [List.cons_append, deepNs_cons]
    cases h1 : zlM N d with
    | some a => rw [h1] at h; cases h
    | none => rw [h1] at h; exact deepNs_app h g
theorem deepNs_one {N : Nd} {d : Nat} (h : zlM N d = none) : zdW [N] d = none := by rw [deepNs_cons, h, deepNs_nil]
theorem deepN_mk (k : Int) (s : ByteArray) (n a : Int) (l : List Nd) (d : Nat) (hd : d ≤ 40) : zlM (.mk k s n a l) d = zdW l (d + 1) := by rw [zlM, if_neg (by omega)]
theorem upper_not {n : ByteArray} (h : zaw n = true) : ¬ n = (⟨#[91]⟩ : ByteArray) ∧ ¬ n = (⟨#[114, 101, 102]⟩ : ByteArray) ∧ ¬ n = (⟨#[102, 117, 110]⟩ : ByteArray) ∧ zbr n = 0 := by
  have hn : ∀ v : ByteArray, zaw v = false → ¬ n = v := fun v hv e => by rw [← e, h] at hv; cases hv
  refine ⟨hn _ (by kernel_rfl), hn _ (by kernel_rfl), hn _ (by kernel_rfl), ?_⟩
  unfold zbr
  rw [if_neg (hn _ (by kernel_rfl)), if_neg (hn _ (by kernel_rfl)), if_neg (hn _ (by kernel_rfl)), if_neg (hn _ (by kernel_rfl))]
section
variable (T : List Tok) (en : Int)
theorem items_of (f : Nat) (hd : Bool) : ∀ (r : List Ty) (k : Nat) (acc : List Nd) (st : Ps), (∀ t ∈ r, PT T en t) → zbZ r = true → bszL r ≤ f → r.length < k → Wd T st.next (sepW r ++ [(⟨#[41]⟩ : ByteArray)]) →
    ∃ Ns, zfV T en (zdB T en f .typ) (⟨#[41]⟩ : ByteArray) hd k acc st = .ok (acc ++ Ns, ⟨st.next + (sepW r).length + 1, hd⟩) ∧ zer Ns = some r ∧ ∀ d, d + hgtL r ≤ 41 → zdW Ns d = none
  | [], k, acc, st, _, _, _, hk, hw => by
    obtain ⟨k, rfl⟩ : ∃ q, k = q + 1 := ⟨k - 1, by simp at hk; omega⟩
    have h1 : zao T st = (⟨#[41]⟩ : ByteArray) := Wd.head hw
    refine ⟨[], ?_, readL_nil, fun d _ => deepNs_nil d⟩
    rw [zfV, h1, if_neg (by decide), zoL h1, R.next_ok, List.append_nil]
    rfl
  | t :: r, k, acc, st, IH, hf, hb, hk, hw => by
    obtain ⟨k, rfl⟩ : ∃ q, k = q + 1 := ⟨k - 1, by simp at hk; omega⟩
    rw [formed_cons, Bool.and_eq_true] at hf
    rw [bszL_cons] at hb
    rw [sepW_cons, List.cons_append, List.append_assoc] at hw
    rw [sepW_cons]
    have h1 : zao T st = (⟨#[44]⟩ : ByteArray) := Wd.head hw
    have h2 : Wd T st.adv.next (wordsT t ++ (sepW r ++ [(⟨#[41]⟩ : ByteArray)])) := Wd.tail hw
    obtain ⟨N, hN, hr, hdp⟩ := IH t (by simp) hf.1 f st.adv (by omega) h2.left
    obtain ⟨Ns, hNs, hrs, hdps⟩ := items_of f hd r k (acc ++ [N]) ⟨st.adv.next + (wordsT t).length, st.adv.head⟩ (fun y hy => IH y (List.mem_cons_of_mem _ hy)) hf.2 (by omega) (by simp at hk; omega) h2.right
    refine ⟨[N] ++ Ns, ?_, readL_app (readL_one hr) hrs, fun d h => ?_⟩
    · rw [zfV, if_pos h1, hN, R.next_ok, hNs, List.append_assoc]
      congr 3
      simp [Ps.adv]
      omega
    · rw [hgtL_cons] at h
      exact deepNs_app (deepNs_one (hdp d (by omega))) (hdps d (by omega))
theorem pt_step (k : Int) (n : ByteArray) (a : List Ty) (IH : ∀ t ∈ a, PT T en t) : PT T en (.mk k n a) := by
  intro hf f st hb hw
  rw [bsz_mk] at hb
  rw [hgt_mk]
  obtain ⟨f, rfl⟩ : ∃ q, f = q + 1 := ⟨f - 1, by omega⟩
  show ∃ N, typF T en (zdB T en f) f st = _ ∧ _
  rw [zbJ] at hf
  rw [wordsT] at hw ⊢
  unfold typF
  have leaf : ∀ s : ByteArray, Wd T st.next [s] → ¬ s = (⟨#[91]⟩ : ByteArray) ∧ ¬ s = (⟨#[114, 101, 102]⟩ : ByteArray) ∧ ¬ s = (⟨#[102, 117, 110]⟩ : ByteArray) → zcw s = true → zfp (.mk 12 s 0 (zaN T en st) []) = some (.mk k n a) →
      ∃ N, (if zao T st = (⟨#[91]⟩ : ByteArray) then (zdB T en f .typ st.adv).next fun t st' => (zaC T en (⟨#[93]⟩ : ByteArray) st').next fun _ st' => .ok (.mk 13 ⟨#[]⟩ 0 (zaN T en st) [t], st')
        else if zao T st = (⟨#[114, 101, 102]⟩ : ByteArray) then (zbG T en zaw st.adv).next fun s st' => .ok (.mk 14 s 0 (zaN T en st) [], st')
        else if zao T st = (⟨#[102, 117, 110]⟩ : ByteArray) then (zaC T en (⟨#[40]⟩ : ByteArray) st.adv).next fun _ st' => (zge T en (zdB T en f .typ) (⟨#[41]⟩ : ByteArray) f st').next fun l st' => (zaC T en (⟨#[58]⟩ : ByteArray) st').next fun _ st' => (zdB T en f .typ st').next fun t st' => .ok (.mk 15 ⟨#[]⟩ 0 (zaN T en st) (l ++ [t]), st')
        else (zbG T en zcw st).next fun s st' => .ok (.mk 12 s 0 (zaN T en st) [], st')) = (.ok (N, ⟨st.next + [s].length, st.head⟩) : R Nd) ∧ zfp N = some (.mk k n a) ∧ ∀ d, d + (1 + hgtL a) ≤ 41 → zlM N d = none := by
    intro s hs hne hty hr
    have h1 := Wd.head hs
    refine ⟨_, ?_, hr, fun d h => by rw [deepN_mk _ _ _ _ _ _ (by omega), deepNs_nil]⟩
    rw [h1, if_neg hne.1, if_neg hne.2.1, if_neg hne.2.2, zmb (by rw [h1]; exact hty), R.next_ok, h1]
    rfl
  by_cases hk4 : k = 1 ∨ k = 2 ∨ k = 3 ∨ k = 4
  · rw [if_pos hk4, Bool.and_eq_true, decide_eq_true_eq] at hf
    obtain ⟨hn, ha⟩ := hf
    subst hn
    obtain rfl : a = [] := by simpa using ha
    rcases hk4 with rfl | rfl | rfl | rfl
    · exact leaf (⟨#[117, 110, 105, 116]⟩ : ByteArray) hw (by decide) (by kernel_rfl) (by kernel_rfl)
    · exact leaf (⟨#[98, 111, 111, 108]⟩ : ByteArray) hw (by decide) (by kernel_rfl) (by kernel_rfl)
    · exact leaf (⟨#[105, 110, 116]⟩ : ByteArray) hw (by decide) (by kernel_rfl) (by kernel_rfl)
    · exact leaf (⟨#[116, 101, 120, 116]⟩ : ByteArray) hw (by decide) (by kernel_rfl) (by kernel_rfl)
  · rw [if_neg hk4] at hf
    have n1 : ¬ k = 1 := fun e => hk4 (.inl e)
    have n2 : ¬ k = 2 := fun e => hk4 (.inr (.inl e))
    have n3 : ¬ k = 3 := fun e => hk4 (.inr (.inr (.inl e)))
    have n4 : ¬ k = 4 := fun e => hk4 (.inr (.inr (.inr e)))
    rw [if_neg n1, if_neg n2, if_neg n3, if_neg n4] at hw ⊢
    by_cases h6 : k = 6
    · subst h6
      rw [if_pos (.inl rfl), Bool.and_eq_true] at hf
      rw [if_pos rfl] at hw ⊢
      obtain rfl : a = [] := by simpa using hf.2
      obtain ⟨u1, u2, u3, u4⟩ := upper_not hf.1
      refine leaf n hw ⟨u1, u2, u3⟩ (by unfold zcw; rw [hf.1, Bool.or_true]) ?_
      rw [zfp, if_neg (by simp), if_pos rfl, u4, if_neg (fun e => e.1 rfl), if_pos ⟨hf.1, rfl⟩]
    · by_cases h7 : k = 7
      · subst h7
        rw [if_pos (.inr rfl), Bool.and_eq_true] at hf
        rw [if_neg h6, if_pos rfl] at hw ⊢
        obtain rfl : a = [] := by simpa using hf.2
        have h1 := Wd.head hw
        have h2 : zao T st.adv = n := Wd.head (Wd.tail hw)
        refine ⟨.mk 14 n 0 (zaN T en st) [], ?_, ?_, fun d h => by rw [deepN_mk _ _ _ _ _ _ (by omega), deepNs_nil]⟩
        · rw [h1, if_neg (by decide), if_pos rfl, zmb (by rw [h2]; exact hf.1), R.next_ok, h2]
          rfl
        · rw [zfp, if_neg (by simp), if_neg (by decide), if_pos rfl, if_pos ⟨hf.1, rfl⟩]
      · rw [if_neg (by omega)] at hf
        rw [if_neg h6, if_neg h7] at hw ⊢
        by_cases h5 : k = 5
        · subst h5
          rw [if_pos rfl] at hf hw ⊢
          simp only [Bool.and_eq_true, decide_eq_true_eq] at hf
          obtain ⟨t, rfl⟩ : ∃ t, a = [t] := List.length_eq_one_iff.1 hf.1.2
          have hft := hf.2
          rw [formed_cons, Bool.and_eq_true] at hft
          rw [wordsO_cons] at hw ⊢
          rw [bszL_cons, bszL_nil] at hb
          have h1 := Wd.head hw
          have h2 : Wd T st.adv.next (wordsT t ++ [(⟨#[93]⟩ : ByteArray)]) := Wd.tail hw
          obtain ⟨N, hN, hr, hdp⟩ := IH t (by simp) hft.1 f st.adv (by omega) h2.left
          have h3 : zao T ⟨st.adv.next + (wordsT t).length, st.adv.head⟩ = (⟨#[93]⟩ : ByteArray) := Wd.head h2.right
          refine ⟨.mk 13 ⟨#[]⟩ 0 (zaN T en st) [N], ?_, ?_, fun d h => ?_⟩
          · rw [h1, if_pos rfl, hN, R.next_ok, zoL h3, R.next_ok]
            congr 2
            simp [Ps.adv]
            omega
          · rw [zfp, if_neg (by simp), if_neg (by decide), if_neg (by decide), if_pos rfl, if_pos ⟨rfl, rfl⟩, readL_one hr, hf.1.1]
            rfl
          · rw [hgtL_cons, hgtL_nil] at h
            rw [deepN_mk _ _ _ _ _ _ (by omega)]
            exact deepNs_one (hdp _ (by omega))
        · rw [if_neg h5] at hf hw ⊢
          by_cases h8 : k = 8
          · subst h8
            rw [if_pos rfl] at hf hw ⊢
            simp only [Bool.and_eq_true, decide_eq_true_eq] at hf
            have h1 := Wd.head hw
            have h2 : zao T st.adv = (⟨#[40]⟩ : ByteArray) := Wd.head (Wd.tail hw)
            have h3 : Wd T st.adv.adv.next (wordsF a true) := Wd.tail (Wd.tail hw)
            have hne : a ≠ [] := fun e => by subst e; exact absurd hf.1.2 (by simp)
            obtain ⟨r, x, rfl⟩ : ∃ r x, a = r ++ [x] := ⟨a.dropLast, a.getLast hne, (List.dropLast_concat_getLast hne).symm⟩
            have hfl : zbZ r = true ∧ zbJ x = true := by
              have := hf.2
              clear hf hw h3 hb hne IH leaf
              induction r with
              | nil => rw [List.nil_append, formed_cons, Bool.and_eq_true] at this; exact ⟨by rw [zbZ], this.1⟩
              | cons y r ih => rw [List.cons_append, formed_cons, Bool.and_eq_true] at this; rw [formed_cons, this.1]; exact ⟨by rw [(ih this.2).1]; rfl, (ih this.2).2⟩
            have hbl : bszL (r ++ [x]) = bszL r + x.bsz := by
              clear hf hw h3 hb hne IH leaf hfl
              induction r with
              | nil => rw [List.nil_append, bszL_cons, bszL_nil]; omega
              | cons y r ih => rw [List.cons_append, bszL_cons, bszL_cons, ih]; omega
            have hhl : hgtL (r ++ [x]) = max (hgtL r) x.hgt := by
              clear hf hw h3 hb hne IH leaf hfl hbl
              induction r with
              | nil => rw [List.nil_append, hgtL_cons, hgtL_nil]; omega
              | cons y r ih => rw [List.cons_append, hgtL_cons, hgtL_cons, ih]; omega
            rw [hbl] at hb
            rw [hhl]
            have hxb := bsz_pos x
            -- the parameters
            have hpar : ∃ Ns, zge T en (zdB T en f .typ) (⟨#[41]⟩ : ByteArray) f st.adv.adv = .ok (Ns, ⟨st.next + 2 + ((wordsF (r ++ [x]) true).length - (1 + (wordsT x).length)), st.head⟩) ∧ zer Ns = some r ∧ (∀ d, d + hgtL r ≤ 41 → zdW Ns d = none) ∧ Wd T (st.next + 2 + ((wordsF (r ++ [x]) true).length - (1 + (wordsT x).length))) ((⟨#[58]⟩ : ByteArray) :: wordsT x) ∧ 1 + (wordsT x).length ≤ (wordsF (r ++ [x]) true).length := by
              unfold zge
              cases r with
              | nil =>
                have e : wordsF ([] ++ [x]) true = (⟨#[41]⟩ : ByteArray) :: (⟨#[58]⟩ : ByteArray) :: wordsT x := by rw [List.nil_append, wordsF_cons, if_pos (by rfl)]; rfl
                rw [e] at h3 ⊢
                have el : st.next + 2 + (((⟨#[41]⟩ : ByteArray) :: (⟨#[58]⟩ : ByteArray) :: wordsT x).length - (1 + (wordsT x).length)) = st.next + 2 + 1 := by simp only [List.length_cons]; omega
                rw [show st.next + 2 + (((⟨#[41]⟩ : ByteArray) :: (⟨#[58]⟩ : ByteArray) :: wordsT x).length - (1 + (wordsT x).length)) = st.next + 2 + 1 from el]
                exact ⟨[], by rw [if_pos (Wd.head h3)]; rfl, readL_nil, fun d _ => deepNs_nil d, Wd.tail h3, by simp only [List.length_cons]; omega⟩
              | cons t r =>
                have e := wordsF_first t r x
                rw [formed_cons, Bool.and_eq_true] at hfl
                rw [bszL_cons] at hb
                rw [e] at h3 ⊢
                have el : (wordsT t ++ (sepW r ++ ([(⟨#[41]⟩ : ByteArray), (⟨#[58]⟩ : ByteArray)] ++ wordsT x))).length - (1 + (wordsT x).length) = (wordsT t).length + (sepW r).length + 1 := by simp only [List.length_append, List.length_cons, List.length_nil]; omega
                rw [el]
                obtain ⟨_, _, w0, ws0, _, _, hw0, hnp⟩ := show_start t hfl.1.1
                have hw1 : zao T st.adv.adv = w0 := by rw [hw0] at h3; exact Wd.head h3
                obtain ⟨N, hN, hr, hdp⟩ := IH t (by simp) hfl.1.1 f ⟨st.adv.adv.next, false⟩ (by omega) h3.left
                have hl := bsz_len r
                have hlt := bsz_pos t
                have h4 : Wd T (st.adv.adv.next + (wordsT t).length) ((sepW r ++ [(⟨#[41]⟩ : ByteArray)]) ++ ((⟨#[58]⟩ : ByteArray) :: wordsT x)) := by have := h3.right; simpa using this
                obtain ⟨Ns, hNs, hrs, hdps⟩ := items_of T en f st.adv.adv.head r f [N] ⟨st.adv.adv.next + (wordsT t).length, false⟩ (fun y hy => IH y (by simp [hy])) hfl.1.2 (by omega) (by omega) h4.left
                refine ⟨[N] ++ Ns, ?_, readL_app (readL_one hr) hrs, fun d h => ?_, ?_, by simp only [List.length_append, List.length_cons, List.length_nil]; omega⟩
                · rw [hw1, if_neg hnp]
                  unfold zdA
                  rw [hN, R.next_ok, hNs]
                  congr 3
                  simp [Ps.adv]
                  omega
                · rw [hgtL_cons] at h
                  exact deepNs_app (deepNs_one (hdp d (by omega))) (hdps d (by omega))
                · refine h4.right.at ?_
                  simp [Ps.adv]
                  omega
            obtain ⟨Ns, hNs, hrs, hdps, h5w, hle⟩ := hpar
            obtain ⟨j, hj⟩ : ∃ j, st.next + 2 + ((wordsF (r ++ [x]) true).length - (1 + (wordsT x).length)) = j := ⟨_, rfl⟩
            rw [hj] at hNs h5w
            have h6w : zao T ⟨j, st.head⟩ = (⟨#[58]⟩ : ByteArray) := Wd.head (st := ⟨j, st.head⟩) h5w
            obtain ⟨N, hN, hr, hdp⟩ := IH x (by simp) hfl.2 f (Ps.adv ⟨j, st.head⟩) (by omega) (Wd.tail (st := ⟨j, st.head⟩) h5w)
            refine ⟨.mk 15 ⟨#[]⟩ 0 (zaN T en st) (Ns ++ [N]), ?_, ?_, fun d h => ?_⟩
            · rw [h1, if_neg (by decide), if_neg (by decide), if_pos rfl, zoL h2, R.next_ok, hNs, R.next_ok, zoL h6w, R.next_ok, hN, R.next_ok]
              congr 3
              simp [Ps.adv]
              omega
            · rw [zfp, if_neg (by simp), if_neg (by decide), if_neg (by decide), if_neg (by decide), if_pos rfl, if_pos ⟨rfl, by simp⟩, readL_app hrs (readL_one hr), hf.1.1]
              rfl
            · rw [deepN_mk _ _ _ _ _ _ (by omega)]
              exact deepNs_app (hdps _ (by omega)) (deepNs_one (hdp _ (by omega)))
          · rw [if_neg h8] at hf; cases hf
theorem pt_all : ∀ t : Ty, PT T en t
  | .mk k n a => pt_step T en k n a (fun x _hx => pt_all x)
end
end Go.Proofs.YtjdpocmlimkjjaaGreat

namespace Go.Proofs.YtjdpocmlimkjjaaGreat

theorem show_len : ∀ t : Ty, (zdq t).length + 3 ≤ 12 * t.bsz ∧ True
  | .mk k n a => by
    have IH : ∀ x ∈ a, (zdq x).length + 3 ≤ 12 * x.bsz := fun x _hx => (show_len x).1
    have hF : ∀ (l : List Ty) (f : Bool), (∀ x ∈ l, (zdq x).length + 3 ≤ 12 * x.bsz) → (funL l f).length ≤ 12 * bszL l := by
      intro l
      induction l with
      | nil => intro f _; rw [funL]; simp
      | cons x r ih =>
        intro f h
        have h1 := h x (by simp)
        have h2 := ih false (fun y hy => h y (by simp [hy]))
        rw [zpd, bszL_cons]
        split
        · rw [List.length_append]; show 3 + _ ≤ _; omega
        · rw [List.length_append, List.length_append]
          have : (if f = true then [] else (⟨#[44, 32]⟩ : ByteArray).data.toList).length ≤ 2 := by cases f <;> simp
          omega
    have hA := hF a true IH
    have hO : (oneL a).length ≤ 12 * bszL a := by
      cases a with
      | nil => rw [oneL]; simp
      | cons x r => have := IH x (by simp); rw [zoU, bszL_cons]; omega
    have hn : n.data.toList.length = n.size := rfl
    rw [zdq, bsz_mk]
    refine ⟨?_, trivial⟩
    split
    · show 4 + 3 ≤ _; omega
    · split
      · show 4 + 3 ≤ _; omega
      · split
        · show 3 + 3 ≤ _; omega
        · split
          · show 4 + 3 ≤ _; omega
          · split
            · omega
            · split
              · rw [List.length_append]; show 4 + _ + 3 ≤ _; omega
              · split
                · rw [List.length_append, List.length_append]; simp only [List.length_cons, List.length_nil]; omega
                · split
                  · rw [List.length_append]; show 4 + _ + 3 ≤ _; omega
                  · simp only [List.length_nil]; omega
/-- the words of the law's source -/
def srcW (t : Ty) : List ByteArray := [(⟨#[101, 102, 102, 101, 99, 116]⟩ : ByteArray), (⟨#[101]⟩ : ByteArray), (⟨#[40]⟩ : ByteArray), (⟨#[120]⟩ : ByteArray), (⟨#[58]⟩ : ByteArray)] ++ (wordsT t ++ [(⟨#[41]⟩ : ByteArray), (⟨#[58]⟩ : ByteArray), (⟨#[117, 110, 105, 116]⟩ : ByteArray)])
theorem src_lex (t : Ty) (hf : zbJ t = true) (s : ByteArray) (hs : s.data.toList = [101, 102, 102, 101, 99, 116, 32, 101, 40, 120, 58, 32] ++ (zdq t ++ [41, 58, 32, 117, 110, 105, 116])) : Lx s 0 (srcW t) s.size := by
  have hz : s.size = 12 + ((zdq t).length + 7) := by rw [← size_list, hs, List.length_append, List.length_append]; rfl
  have h0 : rem s 0 = [101, 102, 102, 101, 99, 116] ++ (32 :: 101 :: 40 :: 120 :: 58 :: 32 :: (zdq t ++ [41, 58, 32, 117, 110, 105, 116])) := hs
  have g6 := rem_append h0
  have g7 := (rem_cons g6).2.2
  have g8 := (rem_cons g7).2.2
  have g9 := (rem_cons g8).2.2
  have g10 := (rem_cons g9).2.2
  have g11 := (rem_cons g10).2.2
  have g12 := (rem_cons g11).2.2
  have q0 := rem_append g12
  have q1 := (rem_cons q0).2.2
  have q2 := (rem_cons q1).2.2
  have q3 := (rem_cons q2).2.2
  obtain ⟨c0, a0, w0, ws0, hst, hsc, hw, _⟩ := show_start t hf
  have k0 := Lx.word (c := 101) (a := [102, 102, 101, 99, 116]) h0 (by kernel_rfl) (by kernel_rfl) (nwc 32 _ (by kernel_rfl))
  have k1 := Lx.blank g6 (by kernel_rfl) (Lx.word (c := 101) (a := []) g7 (by kernel_rfl) (by kernel_rfl) (nwc 40 _ (by kernel_rfl)))
  have k2 := Lx.m1 g8 (by kernel_rfl) (by kernel_rfl)
  have k3 := Lx.word (c := 120) (a := []) g9 (by kernel_rfl) (by kernel_rfl) (nwc 58 _ (by kernel_rfl))
  have k4 := Lx.m1 g10 (by kernel_rfl) (by kernel_rfl)
  have k5 := lx_type t s _ 41 _ hf g12 (by kernel_rfl)
  rw [hw] at k5
  have k6 : Lx s _ (w0 :: ws0) _ := Lx.blank (by rw [hst] at g11; exact g11) hsc k5
  rw [← hw] at k6
  have k7 := Lx.m1 q0 (by kernel_rfl) (by kernel_rfl)
  have k8 := Lx.m1 q1 (by kernel_rfl) (by kernel_rfl)
  have k9 := Lx.blank q2 (by kernel_rfl) (Lx.word (c := 117) (a := [110, 105, 116]) (l := []) q3 (by kernel_rfl) (by kernel_rfl) (fun x r e => by cases e))
  have := k0.comp (k1.comp (k2.comp (k3.comp (k4.comp (k6.comp (k7.comp (k8.comp k9)))))))
  have he : (0 + [101, 102, 102, 101, 99, 116].length + 1 + [101].length + 1 + [120].length + 1 + 1 + (zdq t).length + 1 + 1 + 1 + [117, 110, 105, 116].length) = s.size := by rw [hz]; simp only [List.length_cons, List.length_nil]; omega
  rw [← he]
  exact this
theorem src_scan {s : ByteArray} {ws : List ByteArray} (h : Lx s 0 ws s.size) (hz : s.size ≤ 32768) (hp : 1 ≤ s.size) : ∃ T, zgo s = .ok T ∧ Wt T ws := by
  obtain ⟨T, h1, h2, h3⟩ := h
  refine ⟨T, ?_, h1⟩
  unfold zgo
  rw [if_neg (by omega)]
  obtain ⟨q, hq⟩ : ∃ q, s.size + 1 = (q + 1) + T.length := ⟨s.size - T.length, by omega⟩
  obtain ⟨z, hz⟩ : ∃ z, s.size = z + 1 := ⟨s.size - 1, by omega⟩
  have e : zdw s s.size s.size = s.size := by
    have : ∀ f, zdw s (f + 1) s.size = s.size := fun f => by rw [zdw, if_neg (by omega)]
    exact (congrArg (fun n => zdw s n s.size) hz).trans (this z)
  rw [hq, h3, zfS, List.nil_append]
  simp only [e]
  rw [if_pos trivial]
theorem src_parse (t : Ty) (hf : zbJ t = true) (hb : t.bsz ≤ 260) (hh : t.hgt ≤ 13) (s : ByteArray) (hs : s.data.toList = [101, 102, 102, 101, 99, 116, 32, 101, 40, 120, 58, 32] ++ (zdq t ++ [41, 58, 32, 117, 110, 105, 116])) :
    ∃ a0 a1 a2 N, zdC s = .ok (.mk 1 ⟨#[]⟩ 0 0 [.mk 4 (⟨#[101]⟩ : ByteArray) 0 a0 [.mk 7 (⟨#[120]⟩ : ByteArray) 0 a1 [N], .mk 12 (⟨#[117, 110, 105, 116]⟩ : ByteArray) 0 a2 []]]) ∧ zfp N = some t := by
  have hz : s.size = 12 + ((zdq t).length + 7) := by rw [← size_list, hs, List.length_append, List.length_append]; rfl
  have hl := (show_len t).1
  obtain ⟨T, hT, hw⟩ := src_scan (src_lex t hf s hs) (by omega) (by omega)
  have W := Wd.of hw
  have hlen : T.length = (wordsT t).length + 8 := by
    have := congrArg List.length hw.1
    rw [List.length_map] at this
    rw [this]
    unfold srcW
    rw [List.length_append, List.length_append]
    show 5 + (_ + 3) = _
    omega
  obtain ⟨f, hfu⟩ : ∃ f, 64 * (T.length + 1) = f + 2 := ⟨64 * (T.length + 1) - 2, by omega⟩
  unfold zdC
  rw [hT]
  dsimp only
  rw [hfu]
  have w0 : zao T ⟨0, false⟩ = (⟨#[101, 102, 102, 101, 99, 116]⟩ : ByteArray) := W 0 _ rfl false
  have w1 : zao T ⟨1, false⟩ = (⟨#[101]⟩ : ByteArray) := W 1 _ rfl false
  have w2 : zao T ⟨2, false⟩ = (⟨#[40]⟩ : ByteArray) := W 2 _ rfl false
  have w3 : zao T ⟨3, false⟩ = (⟨#[120]⟩ : ByteArray) := W 3 _ rfl false
  have w4 : zao T ⟨4, false⟩ = (⟨#[58]⟩ : ByteArray) := W 4 _ rfl false
  have V : Wd T 5 (wordsT t ++ [(⟨#[41]⟩ : ByteArray), (⟨#[58]⟩ : ByteArray), (⟨#[117, 110, 105, 116]⟩ : ByteArray)]) := (Wd.right (a := [(⟨#[101, 102, 102, 101, 99, 116]⟩ : ByteArray), (⟨#[101]⟩ : ByteArray), (⟨#[40]⟩ : ByteArray), (⟨#[120]⟩ : ByteArray), (⟨#[58]⟩ : ByteArray)]) W).at rfl
  obtain ⟨N, hN, hr, hdp⟩ := pt_all T (s.size : Int) t hf f ⟨5, false⟩ (by omega) V.left
  obtain ⟨m, hm⟩ : ∃ m, 5 + (wordsT t).length = m := ⟨_, rfl⟩
  have U : Wd T m [(⟨#[41]⟩ : ByteArray), (⟨#[58]⟩ : ByteArray), (⟨#[117, 110, 105, 116]⟩ : ByteArray)] := hm ▸ V.right
  have v0 : zao T ⟨m, false⟩ = (⟨#[41]⟩ : ByteArray) := U 0 _ rfl false
  have v1 : zao T ⟨m + 1, false⟩ = (⟨#[58]⟩ : ByteArray) := U 1 _ rfl false
  have v2 : zao T ⟨m + 2, false⟩ = (⟨#[117, 110, 105, 116]⟩ : ByteArray) := U 2 _ rfl false
  have hN' : zdB T (s.size : Int) f .typ ⟨5, false⟩ = .ok (N, ⟨m, false⟩) := by rw [hN, hm]
  have hF : zdB T (s.size : Int) (f + 1) .field ⟨3, false⟩ = .ok (.mk 7 (⟨#[120]⟩ : ByteArray) 0 (zaN T (s.size : Int) ⟨3, false⟩) [N], ⟨m, false⟩) := by
    show ziN T _ (zdB T (s.size : Int) f) ⟨3, false⟩ = _
    unfold ziN
    rw [zmb (by rw [w3]; kernel_rfl), R.next_ok, w3, zoL (st := Ps.adv ⟨3, false⟩) w4, R.next_ok]
    show R.next (zdB T (s.size : Int) f .typ ⟨5, false⟩) _ = _
    rw [hN', R.next_ok]
  have hU : zdB T (s.size : Int) (f + 1) .typ ⟨m + 2, false⟩ = .ok (.mk 12 (⟨#[117, 110, 105, 116]⟩ : ByteArray) 0 (zaN T (s.size : Int) ⟨m + 2, false⟩) [], ⟨m + 3, false⟩) := by
    show typF T _ (zdB T (s.size : Int) f) f ⟨m + 2, false⟩ = _
    unfold typF
    rw [v2, if_neg (by decide), if_neg (by decide), if_neg (by decide), zmb (by rw [v2]; kernel_rfl), R.next_ok, v2]
    rfl
  have hD : zdB T (s.size : Int) (f + 2) .decl ⟨0, false⟩ = .ok (.mk 4 (⟨#[101]⟩ : ByteArray) 0 (zaN T (s.size : Int) ⟨0, false⟩) [.mk 7 (⟨#[120]⟩ : ByteArray) 0 (zaN T (s.size : Int) ⟨3, false⟩) [N], .mk 12 (⟨#[117, 110, 105, 116]⟩ : ByteArray) 0 (zaN T (s.size : Int) ⟨m + 2, false⟩) []], ⟨m + 3, false⟩) := by
    show zjS T _ (zdB T (s.size : Int) (f + 1)) (f + 1) ⟨0, false⟩ = _
    unfold zjS
    rw [w0, if_neg (by decide), if_neg (by decide), if_pos rfl, zmb (st := Ps.adv ⟨0, false⟩) (by show zaH (zao T ⟨1, false⟩) = true; rw [w1]; kernel_rfl), R.next_ok]
    unfold zem
    rw [zoL (st := Ps.adv (Ps.adv ⟨0, false⟩)) w2, R.next_ok]
    unfold zge
    rw [show zao T (Ps.adv (Ps.adv (Ps.adv ⟨0, false⟩))) = (⟨#[120]⟩ : ByteArray) from w3, if_neg (by decide)]
    unfold zdA
    rw [show (⟨(Ps.adv (Ps.adv (Ps.adv ⟨0, false⟩))).next, false⟩ : Ps) = ⟨3, false⟩ from rfl, hF, R.next_ok, zfV, v0, if_neg (by decide), zoL v0, R.next_ok, R.next_ok]
    rw [zoL (st := ⟨(Ps.adv ⟨m, false⟩).next, (Ps.adv (Ps.adv (Ps.adv ⟨0, false⟩))).head⟩) v1, R.next_ok]
    show R.next (zdB T (s.size : Int) (f + 1) .typ ⟨m + 2, false⟩) _ = _
    rw [hU, R.next_ok, show zao T (Ps.adv ⟨0, false⟩) = (⟨#[101]⟩ : ByteArray) from w1]
    rfl
  rw [zbS, if_neg (show ¬ (0 : Nat) = T.length by omega), hD, R.next_ok, zbS, if_pos (show m + 3 = T.length by omega)]
  dsimp only
  have hd : zdW ([] ++ [.mk 4 (⟨#[101]⟩ : ByteArray) 0 (zaN T (s.size : Int) ⟨0, false⟩) [.mk 7 (⟨#[120]⟩ : ByteArray) 0 (zaN T (s.size : Int) ⟨3, false⟩) [N], .mk 12 (⟨#[117, 110, 105, 116]⟩ : ByteArray) 0 (zaN T (s.size : Int) ⟨m + 2, false⟩) []]]) 1 = none := by
    rw [List.nil_append]
    refine deepNs_one ?_
    rw [deepN_mk _ _ _ _ _ _ (by omega)]
    refine deepNs_app (Ns := [_]) (Ms := [_]) (deepNs_one ?_) (deepNs_one ?_)
    · rw [deepN_mk _ _ _ _ _ _ (by omega)]
      exact deepNs_one (hdp _ (by omega))
    · rw [deepN_mk _ _ _ _ _ _ (by omega), deepNs_nil]
  rw [hd]
  exact ⟨_, _, _, N, rfl, hr⟩
theorem same_self : ∀ t : Ty, zsk t t = true
  | .mk k n a => by
    have h : ∀ l : List Ty, (∀ x ∈ l, zsk x x = true) → zqO l l = true := by
      intro l
      induction l with
      | nil => intro _; rw [zqO]; intro a r b s h; cases h
      | cons x r ih => intro h; rw [zqO, h x (by simp), ih (fun y hy => h y (by simp [hy]))]; rfl
    rw [zsk, h a (fun x _hx => same_self x)]
    simp
end Go.Proofs.YtjdpocmlimkjjaaGreat
