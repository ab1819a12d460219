/- value.isType, value.inRange. Conditions: those in each statement. Posts of calls that hand back memory of their own. No walk here. value.Equal and value.Same: equality of values. Conditions: those in each statement. -/
import Derived.Test.YtlbmfgiepcemdaaGreatYValid
import Derived.Test.YtlbmfgiepcemdaaGreatProg
import Derived.Test.YtlbmfgiepcemdaaGreatYNumValStructs
import Derived.Deep.RegionWith
import Derived.Laws.Strings
namespace Go.Proofs.YtlbmfgiepcemdaaGreat
open Go.RowKit

/-- a byte of a string, as a number -/
def byteAt (s : ByteArray) (i : Nat) : Int := ((s.data.toList.getD i 0).toNat : Int)
theorem byteAt_range (s : ByteArray) (i : Nat) : 0 ≤ byteAt s i ∧ byteAt s i ≤ 255 := by
  unfold byteAt
  have := (s.data.toList.getD i 0).toNat_lt
  omega
theorem index_str (s : ByteArray) (i : Nat) (hi : i < s.size) (w : World) : (Instr.index 9 (.string s) (.int .i64 (i : Int))).run Tryz.prog w = .ok (.int .u8 (byteAt s i)) w := by
  rw [run_index_string w _ s _ _ Tryz.underlying9]
  have h : (0 : Int) ≤ (i : Int) ∧ (i : Int) < s.size := by omega
  rw [dif_pos h]
  have e : s.data.toList.getD i 0 = s[i]'hi := by
    rw [List.getD_eq_getElem?_getD, Array.getElem?_toList]
    have h2 : i < s.data.size := hi
    rw [Array.getElem?_eq_getElem h2]; rfl
  unfold byteAt
  rw [e]; rfl

/-- a byte of a name -/
def nameC (X : Int) : Bool := decide (97 ≤ X ∧ X ≤ 122 ∨ 65 ≤ X ∧ X ≤ 90 ∨ 48 ≤ X ∧ X ≤ 57 ∨ X = 95)
/-- value.isType -/
def isTypeS (s : ByteArray) : Bool := decide (0 < s.size ∧ 65 ≤ byteAt s 0 ∧ byteAt s 0 ≤ 90 ∧ ∀ i, i < s.size → nameC (byteAt s i) = true)

set_option maxHeartbeats 1000000 in
set_option maxRecDepth 100000 in
theorem isType_any (s : ByteArray) (w : World) (hs : s.size ≤ 2097152) : Calls Tryz.prog 91 #[.string s] w fun e w' => e = .returned (.bool (isTypeS s)) ∧ w = w' := by
  rcases Nat.eq_zero_or_pos s.size with h0 | h0
  · have HE : Hid (isTypeS s = false) := Lib.hid (by unfold isTypeS; simp; omega)
    have he : s.toList = [] := by rw [ByteArray.toList_eq]; exact List.eq_nil_of_length_eq_zero (by rw [size_toList]; exact h0)
    go_enter Tryz.func91, Tryz.ntmps91
    go_wp2_with fail
    go_ret
    exact ⟨by rw [HE.out]; rfl, rfl⟩
  · have hne : ¬ s.toList = [] := fun h => by
      rw [ByteArray.toList_eq] at h
      have := size_toList s
      rw [h] at this
      simp at this; omega
    have hemp : s.toList.isEmpty = false := by simpa using hne
    have hi0 : (Instr.index 9 (.string s) (.int .i64 0)).run Tryz.prog w = .ok (.int .u8 (byteAt s 0)) w := by simpa using index_str s 0 h0 w
    have hr0 := byteAt_range s 0
    have HI := Lib.hid (index_str s)
    have HT : Hid (isTypeS s = decide (0 < s.size ∧ 65 ≤ byteAt s 0 ∧ byteAt s 0 ≤ 90 ∧ ∀ i, i < s.size → nameC (byteAt s i) = true)) := Lib.hid rfl
    obtain ⟨X0, hX0⟩ : ∃ X, byteAt s 0 = X := ⟨_, rfl⟩
    rw [hX0] at hi0 hr0 HT
    clear hX0
    generalize isTypeS s = R at *
    by_cases hu : 65 ≤ X0 ∧ X0 ≤ 90
    · obtain ⟨hu1, hu2⟩ := hu
      go_enter Tryz.func91, Tryz.ntmps91
      go_wp2_with fail
      go_loopw [19] (fun s19 wr => ∃ (i : Nat), i ≤ s.size ∧ s19 = .int .i64 i ∧ Hid (∀ j, j < i → nameC (byteAt s j) = true) ∧ wr = w) (fun s19 _ => s.size - (intOf s19).toNat)
      case atStart => exact ⟨0, by omega, rfl, Lib.hid (fun j hj => absurd hj (by omega)), rfl⟩
      case round =>
        obtain ⟨i, hi, rfl, HN, rfl⟩ := hrel
        by_cases hlt : i < s.size
        · have hix := HI.out i hlt wr
          have hr := byteAt_range s i
          have HS : Hid (nameC (byteAt s i) = true → ∀ j, j < i + 1 → nameC (byteAt s j) = true) := Lib.hid (fun h j hj => by
            rcases Nat.lt_or_eq_of_le (Nat.lt_succ_iff.1 hj) with h2 | h2
            · exact HN.out j h2
            · subst h2; exact h)
          have HF : Hid (nameC (byteAt s i) = false → R = false) := Lib.hid (fun h => by
            rw [HT.out]
            rw [decide_eq_false]
            rintro ⟨_, _, _, h2⟩
            rw [h2 i hlt] at h; cases h)
          obtain ⟨X, hX⟩ : ∃ X, byteAt s i = X := ⟨_, rfl⟩
          rw [hX] at hix hr HS HF
          have HC : Hid (nameC X = decide (97 ≤ X ∧ X ≤ 122 ∨ 65 ≤ X ∧ X ≤ 90 ∨ 48 ≤ X ∧ X ≤ 57 ∨ X = 95)) := Lib.hid rfl
          clear hX HN hi0
          rcases (show X < 48 ∨ (48 ≤ X ∧ X ≤ 57) ∨ (58 ≤ X ∧ X ≤ 64) ∨ (65 ≤ X ∧ X ≤ 90) ∨ (91 ≤ X ∧ X ≤ 94) ∨ (95 ≤ X ∧ X ≤ 95) ∨ (96 ≤ X ∧ X ≤ 96) ∨ (97 ≤ X ∧ X ≤ 122) ∨ 122 < X by omega) with h | ⟨h, h'⟩ | ⟨h, h'⟩ | ⟨h, h'⟩ | ⟨h, h'⟩ | ⟨h, h'⟩ | ⟨h, h'⟩ | ⟨h, h'⟩ | h
          · have k97 : ¬ 97 ≤ X := by omega
            have k122 : X ≤ 122 := by omega
            have k65 : ¬ 65 ≤ X := by omega
            have k90 : X ≤ 90 := by omega
            have k48 : ¬ 48 ≤ X := by omega
            have k57 : X ≤ 57 := by omega
            have h95 : (X == 95) = false := by simp; omega
            have HY := Lib.hid (HF.out (by rw [HC.out]; exact decide_eq_false (by omega)))
            clear HS HF HC
            go_wp2_with fail
            all_goals first
              | (exfalso; omega)
              | (go_ret; exact ⟨by rw [HY.out]; rfl, rfl⟩)
          · have k97 : ¬ 97 ≤ X := by omega
            have k122 : X ≤ 122 := by omega
            have k65 : ¬ 65 ≤ X := by omega
            have k90 : X ≤ 90 := by omega
            have k48 : 48 ≤ X := by omega
            have k57 : X ≤ 57 := by omega
            have h95 : (X == 95) = false := by simp; omega
            have HY := Lib.hid (HS.out (by rw [HC.out]; exact decide_eq_true (by omega)))
            clear HS HF HC
            go_wp2_with fail
            all_goals first
              | (exfalso; omega)
              | exact ⟨⟨i + 1, by omega, by go_num, HY, trivial⟩, by simp [intOf]; omega⟩
          · have k97 : ¬ 97 ≤ X := by omega
            have k122 : X ≤ 122 := by omega
            have k65 : ¬ 65 ≤ X := by omega
            have k90 : X ≤ 90 := by omega
            have k48 : 48 ≤ X := by omega
            have k57 : ¬ X ≤ 57 := by omega
            have h95 : (X == 95) = false := by simp; omega
            have HY := Lib.hid (HF.out (by rw [HC.out]; exact decide_eq_false (by omega)))
            clear HS HF HC
            go_wp2_with fail
            all_goals first
              | (exfalso; omega)
              | (go_ret; exact ⟨by rw [HY.out]; rfl, rfl⟩)
          · have k97 : ¬ 97 ≤ X := by omega
            have k122 : X ≤ 122 := by omega
            have k65 : 65 ≤ X := by omega
            have k90 : X ≤ 90 := by omega
            have k48 : 48 ≤ X := by omega
            have k57 : ¬ X ≤ 57 := by omega
            have h95 : (X == 95) = false := by simp; omega
            have HY := Lib.hid (HS.out (by rw [HC.out]; exact decide_eq_true (by omega)))
            clear HS HF HC
            go_wp2_with fail
            all_goals first
              | (exfalso; omega)
              | exact ⟨⟨i + 1, by omega, by go_num, HY, trivial⟩, by simp [intOf]; omega⟩
          · have k97 : ¬ 97 ≤ X := by omega
            have k122 : X ≤ 122 := by omega
            have k65 : 65 ≤ X := by omega
            have k90 : ¬ X ≤ 90 := by omega
            have k48 : 48 ≤ X := by omega
            have k57 : ¬ X ≤ 57 := by omega
            have h95 : (X == 95) = false := by simp; omega
            have HY := Lib.hid (HF.out (by rw [HC.out]; exact decide_eq_false (by omega)))
            clear HS HF HC
            go_wp2_with fail
            all_goals first
              | (exfalso; omega)
              | (go_ret; exact ⟨by rw [HY.out]; rfl, rfl⟩)
          · have k97 : ¬ 97 ≤ X := by omega
            have k122 : X ≤ 122 := by omega
            have k65 : 65 ≤ X := by omega
            have k90 : ¬ X ≤ 90 := by omega
            have k48 : 48 ≤ X := by omega
            have k57 : ¬ X ≤ 57 := by omega
            have h95 : (X == 95) = true := by simp; omega
            have HY := Lib.hid (HS.out (by rw [HC.out]; exact decide_eq_true (by omega)))
            clear HS HF HC
            go_wp2_with fail
            all_goals first
              | (exfalso; omega)
              | exact ⟨⟨i + 1, by omega, by go_num, HY, trivial⟩, by simp [intOf]; omega⟩
          · have k97 : ¬ 97 ≤ X := by omega
            have k122 : X ≤ 122 := by omega
            have k65 : 65 ≤ X := by omega
            have k90 : ¬ X ≤ 90 := by omega
            have k48 : 48 ≤ X := by omega
            have k57 : ¬ X ≤ 57 := by omega
            have h95 : (X == 95) = false := by simp; omega
            have HY := Lib.hid (HF.out (by rw [HC.out]; exact decide_eq_false (by omega)))
            clear HS HF HC
            go_wp2_with fail
            all_goals first
              | (exfalso; omega)
              | (go_ret; exact ⟨by rw [HY.out]; rfl, rfl⟩)
          · have k97 : 97 ≤ X := by omega
            have k122 : X ≤ 122 := by omega
            have k65 : 65 ≤ X := by omega
            have k90 : ¬ X ≤ 90 := by omega
            have k48 : 48 ≤ X := by omega
            have k57 : ¬ X ≤ 57 := by omega
            have h95 : (X == 95) = false := by simp; omega
            have HY := Lib.hid (HS.out (by rw [HC.out]; exact decide_eq_true (by omega)))
            clear HS HF HC
            go_wp2_with fail
            all_goals first
              | (exfalso; omega)
              | exact ⟨⟨i + 1, by omega, by go_num, HY, trivial⟩, by simp [intOf]; omega⟩
          · have k97 : 97 ≤ X := by omega
            have k122 : ¬ X ≤ 122 := by omega
            have k65 : 65 ≤ X := by omega
            have k90 : ¬ X ≤ 90 := by omega
            have k48 : 48 ≤ X := by omega
            have k57 : ¬ X ≤ 57 := by omega
            have h95 : (X == 95) = false := by simp; omega
            have HY := Lib.hid (HF.out (by rw [HC.out]; exact decide_eq_false (by omega)))
            clear HS HF HC
            go_wp2_with fail
            all_goals first
              | (exfalso; omega)
              | (go_ret; exact ⟨by rw [HY.out]; rfl, rfl⟩)
        · obtain rfl : i = s.size := by omega
          have HY : Hid (R = true) := Lib.hid (by rw [HT.out]; exact decide_eq_true ⟨h0, hu1, hu2, HN.out⟩)
          clear hi0
          go_wp2_with fail
          go_ret
          exact ⟨by rw [HY.out]; rfl, rfl⟩
    · have HE : Hid (R = false) := Lib.hid (by rw [HT.out]; simp; intro _ h1 h2; exact absurd ⟨h1, h2⟩ hu)
      rcases (show X0 < 65 ∨ 90 < X0 by omega) with hx | hx
      all_goals
        clear hu
        go_enter Tryz.func91, Tryz.ntmps91
        go_wp2_with fail
        go_ret
        exact ⟨by rw [HE.out]; rfl, rfl⟩
/-- value.inRange -/
def inR (n : Int) : Bool := decide (-9007199254740992 ≤ n ∧ n ≤ 9007199254740992)
set_option maxHeartbeats 400000 in
theorem inRange_any (n : Int) (w : World) : Calls Tryz.prog 92 #[.int .i64 n] w fun e w' => e = .returned (.bool (inR n)) ∧ w = w' := by
  by_cases h : -9007199254740992 ≤ n ∧ n ≤ 9007199254740992
  · have HE : Hid (inR n = true) := Lib.hid (decide_eq_true h)
    obtain ⟨h0, h1⟩ := h
    go_enter Tryz.func92, Tryz.ntmps92
    go_wp2_with fail
    go_ret
    exact ⟨by rw [HE.out]; rfl, rfl⟩
  · have HE : Hid (inR n = false) := Lib.hid (decide_eq_false h)
    rcases (show n < -9007199254740992 ∨ 9007199254740992 < n by omega) with hx | hx
    all_goals
      clear h
      go_enter Tryz.func92, Tryz.ntmps92
      go_wp2_with fail
      go_ret
      exact ⟨by rw [HE.out]; first | rfl | (simp; omega), rfl⟩
end Go.Proofs.YtlbmfgiepcemdaaGreat
namespace Go.Proofs.YtlbmfgiepcemdaaGreat
open Go.RowKit

/-- a new copy of d comes back; what was there is as it was -/
def ClonePost (d : D) (w : World) (e : Ending) (w' : World) : Prop := ∃ v, e = .returned v ∧ Rd (Bt w.heap.size w'.heap.size) w' d v ∧ Below w.heap.size w w'

/-- a new slice of the call's own comes back; what was there is as it was -/
def OwnPost (e : TypeId) (k n : Nat) (f : Nat → Nat → D) (w : World) (en : Ending) (w' : World) : Prop := ∃ v, en = .returned v ∧ Owned w.heap.size e k n f w' v ∧ Below w.heap.size w w'

theorem bcell {W w1 : World} (hb : Below W.heap.size W w1) : (∀ b o, b < W.heap.size → w1.cell? ⟨b, o, none⟩ = W.cell? ⟨b, o, none⟩) ∧ (∀ b o, b < W.heap.size → w1.frozen? ⟨b, o, none⟩ = W.frozen? ⟨b, o, none⟩) :=
  ⟨fun b o h => hb.cell (p := ⟨b, o, none⟩) h, fun b o h => hb.frozen (p := ⟨b, o, none⟩) h⟩
end Go.Proofs.YtlbmfgiepcemdaaGreat
namespace Go.Proofs.YtlbmfgiepcemdaaGreat
open Go.RowKit

mutual
def eqV : V → V → Bool
  | .mk k t n m s l, .mk k' t' n' m' s' l' => (k == k') && ((n == n') && ((m == m') && ((t.toList == t'.toList) && ((s.toList == s'.toList) && eqVs l l'))))
def eqVs : List V → List V → Bool
  | [], [] => true
  | v :: r, v' :: r' => eqV v v' && eqVs r r'
  | [], _ :: _ => false
  | _ :: _, [] => false
end
theorem bytes_ext {s t : ByteArray} (h : s.toList = t.toList) : s = t := by
  rw [ByteArray.toList_eq, ByteArray.toList_eq] at h
  cases s; cases t
  simp at h
  rw [h]
mutual
theorem eqV_iff : ∀ a b : V, eqV a b = true ↔ a = b
  | .mk k t n m s l, .mk k' t' n' m' s' l' => by
    rw [eqV]
    simp only [Bool.and_eq_true, beq_iff_eq, eqVs_iff l l']
    constructor
    · rintro ⟨rfl, rfl, rfl, h1, h2, rfl⟩
      rw [bytes_ext h1, bytes_ext h2]
    · intro h
      injection h with e1 e2 e3 e4 e5 e6
      exact ⟨e1, e3, e4, by rw [e2], by rw [e5], e6⟩
theorem eqVs_iff : ∀ a b : List V, eqVs a b = true ↔ a = b
  | [], [] => by simp [eqVs]
  | v :: r, v' :: r' => by
    rw [eqVs]
    simp only [Bool.and_eq_true, eqV_iff v v', eqVs_iff r r', List.cons.injEq]
  | [], _ :: _ => by simp [eqVs]
  | _ :: _, [] => by simp [eqVs]
end
theorem eqVs_len {a b : List V} (h : a.length ≠ b.length) : eqVs a b = false := by
  cases hb : eqVs a b with
  | false => rfl
  | true => exact absurd (congrArg List.length ((eqVs_iff a b).1 hb)) h
theorem eqVs_no {a b : List V} {i : Nat} {x y : V} (hx : a[i]? = some x) (hy : b[i]? = some y) (h : eqV x y = false) : eqVs a b = false := by
  cases hb : eqVs a b with
  | false => rfl
  | true =>
    have := (eqVs_iff a b).1 hb
    subst this
    rw [hx] at hy
    have e := Option.some.inj hy
    rw [(eqV_iff x y).2 e] at h
    cases h
theorem eqVs_yes {a b : List V} (hl : a.length = b.length) (h : ∀ (i : Nat) (x y : V), a[i]? = some x → b[i]? = some y → eqV x y = true) : eqVs a b = true := by
  rw [eqVs_iff]
  apply List.ext_getElem? 
  intro i
  by_cases hi : i < a.length
  · have h1 := List.getElem?_eq_getElem hi
    have h2 := List.getElem?_eq_getElem (l := b) (i := i) (by omega)
    rw [h1, h2, (eqV_iff _ _).1 (h i _ _ h1 h2)]
  · rw [List.getElem?_eq_none (by omega), List.getElem?_eq_none (by omega)]

/-- value.Same comes to eqVs at a and whatever -/
def SameOk (l : List V) : Prop := ∀ (l' : List V) (A A' : Option Addr) (n n' c c' : Nat) (w : World), bulkV l' ≤ 2097152 → Rd (Lt w.heap.size) w (vs l) (.slice A n c) → Rd (Lt w.heap.size) w (vs l') (.slice A' n' c') →
  Calls Tryz.prog 25 #[.slice A n c, .slice A' n' c'] w fun e w' => e = .returned (.bool (eqVs l l')) ∧ Below w.heap.size w w'

set_option maxHeartbeats 4000000 in
theorem equal_of (k : Int) (t : ByteArray) (n m : Int) (s : ByteArray) (l : List V) (k' : Int) (t' : ByteArray) (n' m' : Int) (s' : ByteArray) (l' : List V) (A A' : Option Addr) (c c' : Nat) (w : World) (hS : SameOk l) (hb : bulkV l' ≤ 2097152)
    (hr : Rd (Lt w.heap.size) w (vs l) (.slice A l.length c)) (hr' : Rd (Lt w.heap.size) w (vs l') (.slice A' l'.length c')) :
    Calls Tryz.prog 26 #[.agg #[.int .i64 k, .string t, .int .i64 n, .int .i64 m, .string s, .slice A l.length c], .agg #[.int .i64 k', .string t', .int .i64 n', .int .i64 m', .string s', .slice A' l'.length c']] w
      fun e w' => e = .returned (.bool (eqV (.mk k t n m s l) (.mk k' t' n' m' s' l'))) ∧ Below w.heap.size w w' := by
  have HR := Lib.hid hr
  have HR' := Lib.hid hr'
  unfold SameOk at hS
  have HS := Lib.hid hS
  clear hr hr' hS
  have HU : Hid (eqV (.mk k t n m s l) (.mk k' t' n' m' s' l') = ((k == k') && ((n == n') && ((m == m') && ((t.toList == t'.toList) && ((s.toList == s'.toList) && eqVs l l')))))) := Lib.hid (by rw [eqV])
  generalize eqV (.mk k t n m s l) (.mk k' t' n' m' s' l') = R at *
  have fin : ∀ x y : Obj, Below w.heap.size w ((w.alloc x).alloc y) := fun x y => ((Below.refl _ _).alloc (Nat.le_refl _) _).alloc (by simp) _
  have FIN := Lib.hid fin
  clear fin
  cases h1 : (k == k') with
  | false =>
    rw [h1] at HU
    go_enter Tryz.func26, Tryz.ntmps26
    go_wp2_with fail
    go_ret
    exact ⟨by rw [HU.out]; rfl, FIN.out _ _⟩
  | true =>
    rw [h1] at HU
    cases h2 : (n == n') with
    | false =>
      rw [h2] at HU
      go_enter Tryz.func26, Tryz.ntmps26
      go_wp2_with fail
      go_ret
      exact ⟨by rw [HU.out]; rfl, FIN.out _ _⟩
    | true =>
      rw [h2] at HU
      cases h3 : (m == m') with
      | false =>
        rw [h3] at HU
        go_enter Tryz.func26, Tryz.ntmps26
        go_wp2_with fail
        go_ret
        exact ⟨by rw [HU.out]; rfl, FIN.out _ _⟩
      | true =>
        rw [h3] at HU
        cases h4 : (t.toList == t'.toList) with
        | false =>
          rw [h4] at HU
          go_enter Tryz.func26, Tryz.ntmps26
          go_wp2_with fail
          go_ret
          exact ⟨by rw [HU.out]; rfl, FIN.out _ _⟩
        | true =>
          rw [h4] at HU
          cases h5 : (s.toList == s'.toList) with
          | false =>
            rw [h5] at HU
            go_enter Tryz.func26, Tryz.ntmps26
            go_wp2_with fail
            go_ret
            exact ⟨by rw [HU.out]; rfl, FIN.out _ _⟩
          | true =>
            rw [h5] at HU
            go_enter Tryz.func26, Tryz.ntmps26
            go_wp2_with fail
            (with_reducible refine (HS.out l' A A' _ _ c c' _ hb ?_ ?_).mono ?_)
            · exact (HR.out.allocs _).allocs _
            · exact (HR'.out.allocs _).allocs _
            rintro e w1 ⟨rfl, hb1⟩
            have HB1 := Lib.hid hb1
            clear hb1
            go_wp2_with fail
            go_ret
            exact ⟨by rw [HU.out]; simp, (FIN.out _ _).trans (HB1.out.mono (by simp; omega))⟩

set_option maxHeartbeats 4000000 in
theorem same_any : ∀ (N : Nat) (l : List V), bulkV l ≤ N → N ≤ 2097152 → SameOk l := by
  intro N
  induction N with
  | zero =>
    intro l hb hN l' A A' n n' c c' w hb' hr hr'
    have hl := vs_len hr
    have hl' := vs_len hr'
    have hll := bulkV_len l'
    have hz : l = [] := List.eq_nil_of_length_eq_zero (by have := bulkV_len l; omega)
    subst hz
    have hn : n = 0 := hl.1
    subst hn
    clear hr hr' hb
    by_cases hz' : n' = 0
    · subst hz'
      have hz : l' = [] := List.eq_nil_of_length_eq_zero hl'.1.symm
      subst hz
      clear hl hl'
      go_enter Tryz.func25, Tryz.ntmps25
      go_wp2_with fail
      go_loop [13] (fun i => i = .int .i64 0) (fun _ => 0)
      case atStart => rfl
      case round =>
        subst hrel
        go_wp2_with fail
        go_ret
        exact ⟨rfl, Below.refl _ _⟩
    · have HE : Hid (eqVs [] l' = false) := Lib.hid (eqVs_len (by simp only [List.length_nil]; omega))
      have hne : ((0 : Int) != (n' : Int)) = true := by simp; omega
      have hp : 0 < n' := by omega
      clear hz' hl hl'
      go_enter Tryz.func25, Tryz.ntmps25
      go_wp2_with fail
      go_ret
      exact ⟨by rw [HE.out]; rfl, Below.refl _ _⟩
  | succ N ih =>
    intro l hb hN l' A A' n n' c c' w hb' hr hr'
    have hl := vs_len hr
    have hl' := vs_len hr'
    have hll := bulkV_len l
    have hll' := bulkV_len l'
    have HR := Lib.hid hr
    have HR' := Lib.hid hr'
    have IH := Lib.hid ih
    have HL := Lib.hid hl.1
    have HL' := Lib.hid hl'.1
    have hn : n ≤ 2097152 := by omega
    have hn' : n' ≤ 2097152 := by omega
    clear hr hr' ih hl hl'
    by_cases hnn : n = n'
    · subst hnn
      go_enter Tryz.func25, Tryz.ntmps25
      go_wp2_with fail
      go_loopw [13] (fun s13 wr => ∃ i : Nat, i ≤ n ∧ s13 = .int .i64 i ∧ Hid (∀ (j : Nat) (x y : V), j < i → l[j]? = some x → l'[j]? = some y → eqV x y = true) ∧ Hid (Below w.heap.size w wr)) (fun s13 _ => n - (intOf s13).toNat)
      case atStart => exact ⟨0, by omega, rfl, Lib.hid (fun j _ _ hj => absurd hj (by omega)), Lib.hid (Below.refl _ _)⟩
      case round =>
        obtain ⟨i, hi, rfl, HA, HB⟩ := hrel
        by_cases hlt : i < n
        · obtain ⟨b, off, kd, t1, n1, m1, s1, l1, A1, c1, e, hlb, hget, h2⟩ := vs_at (HR.out.belows HB.out) hlt
          subst e
          obtain ⟨b', off', kd', t2, n2, m2, s2, l2, A2, c2, e, hlb', hget', h2'⟩ := vs_at (HR'.out.belows HB.out) hlt
          subst e
          obtain ⟨p0, p1, p2, p3, p4, p5, r5⟩ := h2
          obtain ⟨q0, q1, q2, q3, q4, q5, r5'⟩ := h2'
          have hbk := bulkV_get _ _ _ hget
          have hbk' := bulkV_get _ _ _ hget'
          rw [bulk_mk] at hbk hbk'
          have HC : Hid (∀ W, Rd (Lt W.heap.size) W (vs l1) (.slice A1 l1.length c1) → Rd (Lt W.heap.size) W (vs l2) (.slice A2 l2.length c2) → _) := Lib.hid (fun W h1 h2 => equal_of kd t1 n1 m1 s1 l1 kd' t2 n2 m2 s2 l2 A1 A2 c1 c2 W (IH.out l1 (by omega) (by omega)) (by omega) h1 h2)
          have R5 := Lib.hid r5
          have R5' := Lib.hid r5'
          have HG := Lib.hid hget
          have HG' := Lib.hid hget'
          have hlb1 : b < wr.heap.size := hlb
          have hlb2 : b' < wr.heap.size := hlb'
          have hin : (i : Int) < n := by omega
          clear r5 r5' hget hget' hbk hbk' hlb hlb'
          cases hq : eqV (.mk kd t1 n1 m1 s1 l1) (.mk kd' t2 n2 m2 s2 l2) with
          | false =>
            have HE := Lib.hid (eqVs_no HG.out HG'.out hq)
            rw [hq] at HC
            clear hq
            go_wp2_with fail
            go_region_with (first | (go_at_call 26; refine (HC.out _ R5.out.drew R5'.out.drew).mono ?_; rintro e w4 ⟨rfl, hb4⟩; have B4 := Lib.hid hb4; clear hb4))
            all_goals (
              go_wp2_with fail
              go_ret
              exact ⟨by rw [HE.out]; rfl, HB.out.drew.trans (B4.out.mono HB.out.size)⟩)
          | true =>
            have HA2 : Hid (∀ (j : Nat) (x y : V), j < i + 1 → l[j]? = some x → l'[j]? = some y → eqV x y = true) := Lib.hid (fun j x y hj hx hy => by
              rcases Nat.lt_or_ge j i with hji | hji
              · exact HA.out j x y hji hx hy
              · obtain rfl : j = i := by omega
                rw [HG.out] at hx
                rw [HG'.out] at hy
                rw [← Option.some.inj hx, ← Option.some.inj hy]; exact hq)
            rw [hq] at HC
            clear hq
            go_wp2_with fail
            go_region_with (first | (go_at_call 26; refine (HC.out _ R5.out.drew R5'.out.drew).mono ?_; rintro e w4 ⟨rfl, hb4⟩; have B4 := Lib.hid (HB.out.drew.trans (hb4.mono HB.out.size)); clear hb4))
            all_goals (
              go_wp2_with fail
              exact ⟨⟨i + 1, by omega, by go_num, HA2, B4⟩, by simp [intOf]; omega⟩)
        · have HE : Hid (eqVs l l' = true) := Lib.hid (eqVs_yes (by rw [← HL.out, ← HL'.out]) (fun j x y hx hy => HA.out j x y (by
            have := (List.getElem?_eq_some_iff.1 hx).1
            have := HL.out; omega) hx hy))
          go_wp2_with fail
          go_ret
          exact ⟨by rw [HE.out]; rfl, HB.out⟩
    · have HE : Hid (eqVs l l' = false) := Lib.hid (eqVs_len (by rw [← HL.out, ← HL'.out]; exact hnn))
      have hne : ((n : Int) != (n' : Int)) = true := by simp; omega
      go_enter Tryz.func25, Tryz.ntmps25
      go_wp2_with fail
      go_ret
      exact ⟨by rw [HE.out]; rfl, Below.refl _ _⟩
theorem sameOk {l : List V} (h : bulkV l ≤ 2097152) : SameOk l := same_any _ l (Nat.le_refl _) h
end Go.Proofs.YtlbmfgiepcemdaaGreat
