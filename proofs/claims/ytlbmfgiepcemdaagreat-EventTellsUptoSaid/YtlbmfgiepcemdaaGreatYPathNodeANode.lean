/- strings.Cut at a dot, value.Path. Conditions: those in each statement. value.node, value.Right and value.Bytes at every value. Conditions: those in each statement. value.node, value.Right and value.Bytes at every value. Conditions: those in each statement. -/
import Derived.Test.YtlbmfgiepcemdaaGreatYParse
import Derived.Test.YtlbmfgiepcemdaaGreatShelf
import Derived.Lib.IndexLaws
import Derived.Deep.Light
namespace Go.Proofs.YtlbmfgiepcemdaaGreat
open Go.RowKit

/-- where the first dot is, -1 if there is none -/
def dotAt (s : ByteArray) : Int := Lib.indexByte s.data.toList 46
theorem dotAt_cases (s : ByteArray) : dotAt s = -1 ∨ ∃ i : Nat, dotAt s = (i : Int) ∧ i < s.size := by
  have h := Lib.indexByte_ge s.data.toList 46
  rcases Int.lt_or_le (dotAt s) 0 with h1 | h1
  · left; unfold dotAt at h1 ⊢; omega
  · obtain ⟨i, hi⟩ := Int.eq_ofNat_of_zero_le h1
    refine .inr ⟨i, hi, ?_⟩
    have h2 := (Lib.indexByte_some (l := s.data.toList) (c := 46) (o := i) hi).1
    have := (List.getElem?_eq_some_iff.1 h2).1
    rwa [size_toList] at this
def cutA (s : ByteArray) : ByteArray := if dotAt s < 0 then s else s.extract 0 (dotAt s).toNat
def cutR (s : ByteArray) : ByteArray := if dotAt s < 0 then ⟨#[]⟩ else s.extract ((dotAt s).toNat + 1) s.size
def cutF (s : ByteArray) : Bool := decide (0 ≤ dotAt s)
theorem cutA_size (s : ByteArray) : (cutA s).size ≤ s.size := by
  unfold cutA
  split
  · exact Nat.le_refl _
  · rw [ByteArray.size_extract]; omega
theorem cutR_size (s : ByteArray) : (cutR s).size ≤ s.size := by
  unfold cutR
  split
  · exact Nat.zero_le _
  · rw [ByteArray.size_extract]; omega
theorem cutR_less (s : ByteArray) (h : cutF s = true) : (cutR s).size + 1 ≤ s.size := by
  have h := of_decide_eq_true h
  rcases dotAt_cases s with h1 | ⟨i, h1, h2⟩
  · omega
  · unfold cutR
    rw [if_neg (by omega), ByteArray.size_extract, h1]; omega

def CutPost (s : ByteArray) (w : World) (e : Ending) (w' : World) : Prop := e = .returned (.tuple #[.string (cutA s), .string (cutR s), .bool (cutF s)]) ∧ ∃ n, w' = w.drewN n
set_option maxHeartbeats 1000000 in
set_option maxRecDepth 100000 in
theorem cut_lite (s : ByteArray) (w : World) (hs : s.size ≤ 2097152) : Calls Tryz.prog 73 #[.string s, .string ⟨#[46]⟩] w (CutPost s w) := by
  have HX := Lib.hid (Tryz.stringslite_Index_one s 46 w)
  rw [show Lib.indexByte s.data.toList 46 = dotAt s from rfl] at HX
  rcases dotAt_cases s with h | ⟨i, h, hi⟩
  · have HA : Hid (cutA s = s ∧ cutR s = ⟨#[]⟩ ∧ cutF s = false) := Lib.hid (by
      unfold cutA cutR cutF; rw [h]; exact ⟨rfl, rfl, rfl⟩)
    rw [h] at HX
    clear h
    go_enter Tryz.func73, Tryz.ntmps73
    go_wp2_with fail
    (with_reducible refine HX.out.mono ?_)
    rintro e w1 ⟨rfl, rfl⟩
    go_wp2_with fail
    go_ret3
    exact ⟨by rw [HA.out.1, HA.out.2.1, HA.out.2.2]; rfl, 0, rfl⟩
  · have HA : Hid (cutA s = s.extract 0 i ∧ cutR s = s.extract (i + 1) s.size ∧ cutF s = true) := Lib.hid (by
      unfold cutA cutR cutF; rw [h, if_neg (by omega), if_neg (by omega)]; exact ⟨rfl, rfl, decide_eq_true (by omega)⟩)
    rw [h] at HX
    clear h
    have c1 : (0 : Int) ≤ i := by omega
    have c2 : (i : Int) ≤ s.size := by omega
    have c3 : (0 : Int) ≤ (i : Int) + 1 := by omega
    have c4 : (i : Int) + 1 ≤ s.size := by omega
    go_enter Tryz.func73, Tryz.ntmps73
    go_wp2_with fail
    (with_reducible refine HX.out.mono ?_)
    rintro e w1 ⟨rfl, rfl⟩
    go_wp2_with fail
    go_region
    go_wp2_with fail
    go_ret3
    exact ⟨by rw [HA.out.1, HA.out.2.1, HA.out.2.2]; rfl, 1, rfl⟩
set_option maxHeartbeats 1000000 in
theorem cut_any (s : ByteArray) (w : World) (hs : s.size ≤ 2097152) : Calls Tryz.prog 50 #[.string s, .string ⟨#[46]⟩] w (CutPost s w) := by
  have HX := Lib.hid (cut_lite s w hs)
  go_enter Tryz.func50, Tryz.ntmps50
  go_wp2_with fail
  (with_reducible refine HX.out.mono ?_)
  rintro e w1 ⟨rfl, n, rfl⟩
  go_wp2_with fail
  go_ret3
  exact ⟨rfl, n, rfl⟩

/-- what follows the first part of a path, with fuel -/
def pathGo : Nat → ByteArray → Bool → Bool
  | _, _, false => true
  | 0, _, true => true
  | f + 1, r, true => (parseS (cutA r) 0 9007199254740992).2 && pathGo f (cutR r) (cutF r)
/-- value.Path -/
def pathS (s : ByteArray) : Bool := decide (s.size ≤ 200) && (decide (cutA s = ⟨#[48]⟩) && pathGo (s.size + 1) (cutR s) (cutF s))
/-- how much of a path is left -/
def pathLeft : Value → Value → Nat
  | .string r, .bool true => r.size + 1
  | _, _ => 0
theorem eq_zero_iff (s : ByteArray) : (s.toList == [48]) = decide (s = ⟨#[48]⟩) := by
  cases h : (s.toList == [48]) with
  | true =>
    have h := eq_of_beq h
    rw [decide_eq_true (bytes_ext (by rw [h, ByteArray.toList_eq]))]
  | false =>
    rw [decide_eq_false]
    intro e
    rw [e, ByteArray.toList_eq] at h
    simp at h
set_option maxHeartbeats 1000000 in
set_option maxRecDepth 100000 in
theorem path_any (s : ByteArray) (w : World) (hs : s.size ≤ 2097152) : Calls Tryz.prog 18 #[.string s] w fun e w' => e = .returned (.bool (pathS s)) ∧ Below w.heap.size w w' := by
  have HU : Hid (pathS s = (decide (s.size ≤ 200) && (decide (cutA s = ⟨#[48]⟩) && pathGo (s.size + 1) (cutR s) (cutF s)))) := Lib.hid rfl
  generalize pathS s = R at *
  by_cases h2 : s.size ≤ 200
  · have h2' : ¬ (200 : Int) < s.size := by omega
    have HC := Lib.hid (cut_any s w hs)
    have HZ := Lib.hid (eq_zero_iff (cutA s))
    have HV : Hid (R = (decide (cutA s = ⟨#[48]⟩) && pathGo (s.size + 1) (cutR s) (cutF s))) := Lib.hid (by rw [HU.out, decide_eq_true h2]; rfl)
    have hsz := cutR_size s
    clear HU
    cases hz : ((cutA s).toList == [48]) with
    | false =>
      have HE : Hid (R = false) := Lib.hid (by rw [HV.out, ← HZ.out, hz]; rfl)
      clear HZ HV
      go_enter Tryz.func18, Tryz.ntmps18
      go_wp2_with fail
      (with_reducible refine HC.out.mono ?_)
      rintro e w1 ⟨rfl, n, rfl⟩
      go_wp2_with fail
      go_ret
      exact ⟨by rw [HE.out]; rfl, below_drewN (Below.refl _ _) n⟩
    | true =>
      have HE : Hid (R = pathGo (s.size + 1) (cutR s) (cutF s)) := Lib.hid (by rw [HV.out, ← HZ.out, hz]; rfl)
      clear HZ HV
      go_enter Tryz.func18, Tryz.ntmps18
      go_wp2_with fail
      (with_reducible refine HC.out.mono ?_)
      rintro e w1 ⟨rfl, n, rfl⟩
      go_wp2_with fail
      go_loopw [4, 5] (fun s4 s5 wr => ∃ (f : Nat) (r : ByteArray) (m : Bool), s4 = .string r ∧ s5 = .bool m ∧ r.size ≤ 200 ∧ Hid (m = true → r.size < f) ∧ Hid (R = pathGo f r m) ∧ Hid (Below w.heap.size w wr)) (fun s4 s5 _ => pathLeft s4 s5)
      case atStart => exact ⟨s.size + 1, cutR s, cutF s, rfl, rfl, by omega, Lib.hid (fun _ => by omega), HE, Lib.hid (below_drewN (Below.refl _ _) n)⟩
      case round =>
        obtain ⟨f, r, m, rfl, rfl, hr, hf, HP, HB⟩ := hrel
        cases m with
        | false =>
          have HT : Hid (R = true) := Lib.hid (by rw [HP.out]; cases f <;> rfl)
          go_wp2_with fail
          go_ret
          exact ⟨by rw [HT.out]; rfl, HB.out⟩
        | true =>
          obtain ⟨f', rfl⟩ : ∃ f', f = f' + 1 := ⟨f - 1, by have := hf.out rfl; omega⟩
          have HQ : Hid (R = ((parseS (cutA r) 0 9007199254740992).2 && pathGo f' (cutR r) (cutF r))) := Lib.hid (by rw [HP.out]; rfl)
          have ha := cutA_size r
          have hc := cutR_size r
          have HL := Lib.hid (cutR_less r)
          have HCC := Lib.hid (fun W => cut_any r W (by omega))
          have HPP := Lib.hid (fun W => parse_any (cutA r) 0 9007199254740992 W (by omega))
          clear HP HC HE
          go_wp2_with fail
          (with_reducible refine (HCC.out _).mono ?_)
          rintro e w2 ⟨rfl, q, rfl⟩
          go_wp2_with fail
          (with_reducible refine (HPP.out _).mono ?_)
          rintro e w3 ⟨rfl, hb3⟩
          have HB3 := Lib.hid ((below_drewN HB.out q).trans (hb3.mono (Nat.le_trans HB.out.size (Nat.le_refl _))))
          clear hb3
          obtain ⟨P, hP⟩ : ∃ P, parseS (cutA r) 0 9007199254740992 = P := ⟨_, rfl⟩
          rw [hP] at HQ ⊢
          clear hP HPP HCC
          obtain ⟨pn, pb⟩ := P
          cases pb with
          | false =>
            have HT : Hid (R = false) := Lib.hid HQ.out
            go_wp2_with fail
            go_ret
            exact ⟨by rw [HT.out]; rfl, HB3.out⟩
          | true =>
            have HT : Hid (R = pathGo f' (cutR r) (cutF r)) := Lib.hid HQ.out
            clear HQ
            go_wp2_with fail
            refine ⟨⟨f', cutR r, cutF r, rfl, rfl, by omega, Lib.hid (fun h => ?_), HT, HB3⟩, ?_⟩
            · have := hf.out trivial
              have := HL.out h
              omega
            · show pathLeft (.string (cutR r)) (.bool (cutF r)) < r.size + 1
              cases hF : cutF r with
              | true =>
                have := HL.out hF
                show (cutR r).size + 1 < r.size + 1
                omega
              | false => exact Nat.succ_pos _
  · have h2' : (200 : Int) < s.size := by omega
    have HE : Hid (R = false) := Lib.hid (by rw [HU.out, decide_eq_false h2]; rfl)
    clear HU
    go_enter Tryz.func18, Tryz.ntmps18
    go_wp2_with fail
    go_ret
    exact ⟨by rw [HE.out]; rfl, Below.refl _ _⟩
end Go.Proofs.YtlbmfgiepcemdaaGreat
namespace Go.Proofs.YtlbmfgiepcemdaaGreat
open Go.RowKit

/-- value.node at the kinds 1 to 10 -/
def node1 (t : ByteArray) (n : Int) (m : Int) (s : ByteArray) (l : List V) : Bool := t.toList.isEmpty && (n == 0) && ((m == 0) && s.toList.isEmpty) && ((l.length : Int) == 0)
def node2 (t : ByteArray) (n : Int) (m : Int) (s : ByteArray) (l : List V) : Bool := t.toList.isEmpty && ((n == 0) || (n == 1)) && ((m == 0) && s.toList.isEmpty) && ((l.length : Int) == 0)
def node3 (t : ByteArray) (n : Int) (m : Int) (s : ByteArray) (l : List V) : Bool := t.toList.isEmpty && inR n && ((m == 0) && s.toList.isEmpty) && ((l.length : Int) == 0)
def node4 (t : ByteArray) (n : Int) (m : Int) (s : ByteArray) (l : List V) : Bool := t.toList.isEmpty && (n == 0) && (m == 0) && decide ((s.size : Int) ≤ 4096) && ((l.length : Int) == 0)
def node5 (t : ByteArray) (n : Int) (m : Int) (s : ByteArray) (l : List V) : Bool := t.toList.isEmpty && (n == 0) && ((m == 0) && s.toList.isEmpty) && decide ((l.length : Int) ≤ 4096)
def node6 (t : ByteArray) (n : Int) (m : Int) (s : ByteArray) : Bool := isTypeS t && (n == 0) && ((m == 0) && s.toList.isEmpty)
def node7 (t : ByteArray) (n : Int) (m : Int) (s : ByteArray) : Bool := isTypeS t && decide (0 ≤ n) && decide (n ≤ 4096) && ((m == 0) && s.toList.isEmpty)
def node8 (t : ByteArray) (n : Int) (m : Int) (s : ByteArray) (l : List V) : Bool := isTypeS t && (n == 0) && (m == 0) && pathS s && ((l.length : Int) == 0)
def node9 (t : ByteArray) (n : Int) (m : Int) (s : ByteArray) : Bool := t.toList.isEmpty && decide (0 ≤ n) && decide (n ≤ 9007199254740992) && ((m == 0) && s.toList.isEmpty)
def node10 (t : ByteArray) (n : Int) (m : Int) (s : ByteArray) (l : List V) : Bool := t.toList.isEmpty && inR n && inR m && decide (n < m) && s.toList.isEmpty && ((l.length : Int) == 0)
/-- value.node -/
def nodeP : V → Bool
  | .mk k t n m s l =>
    if k = 1 then node1 t n m s l
    else if k = 2 then node2 t n m s l
    else if k = 3 then node3 t n m s l
    else if k = 4 then node4 t n m s l
    else if k = 5 then node5 t n m s l
    else if k = 6 then node6 t n m s
    else if k = 7 then node7 t n m s
    else if k = 8 then node8 t n m s l
    else if k = 9 then node9 t n m s
    else if k = 10 then node10 t n m s l
    else false
set_option maxHeartbeats 4000000 in
set_option maxRecDepth 100000 in
theorem node_k1 (t : ByteArray) (n m : Int) (s : ByteArray) (l : List V) (A : Option Addr) (c : Nat) (w : World) (ht : t.size ≤ 2097152) :
    Calls Tryz.prog 75 #[.agg #[.int .i64 1, .string t, .int .i64 n, .int .i64 m, .string s, .slice A l.length c]] w fun e w' => e = .returned (.bool (node1 t n m s l)) ∧ Below w.heap.size w w' := by
  have HT := Lib.hid (fun W => isType_any t W ht)
  go_enter Tryz.func75, Tryz.ntmps75
  go_wp2_with (first | (go_at_call 91; (with_reducible refine (HT.out _).mono ?_); rintro e w1 ⟨rfl, rfl⟩))
  all_goals
    go_ret
    refine ⟨?_, (Below.refl _ _).alloc (Nat.le_refl _) _⟩
    go_light
    first
      | (simp [node1, *]; done)
      | (simp [node1, *]; intros; omega)
set_option maxHeartbeats 4000000 in
set_option maxRecDepth 100000 in
theorem node_k2 (t : ByteArray) (n m : Int) (s : ByteArray) (l : List V) (A : Option Addr) (c : Nat) (w : World) (ht : t.size ≤ 2097152) :
    Calls Tryz.prog 75 #[.agg #[.int .i64 2, .string t, .int .i64 n, .int .i64 m, .string s, .slice A l.length c]] w fun e w' => e = .returned (.bool (node2 t n m s l)) ∧ Below w.heap.size w w' := by
  have HT := Lib.hid (fun W => isType_any t W ht)
  go_enter Tryz.func75, Tryz.ntmps75
  go_wp2_with (first | (go_at_call 91; (with_reducible refine (HT.out _).mono ?_); rintro e w1 ⟨rfl, rfl⟩))
  all_goals
    go_ret
    refine ⟨?_, (Below.refl _ _).alloc (Nat.le_refl _) _⟩
    go_light
    first
      | (simp [node2, *]; done)
      | (simp [node2, *]; intros; omega)
set_option maxHeartbeats 4000000 in
set_option maxRecDepth 100000 in
theorem node_k3 (t : ByteArray) (n m : Int) (s : ByteArray) (l : List V) (A : Option Addr) (c : Nat) (w : World) (ht : t.size ≤ 2097152) :
    Calls Tryz.prog 75 #[.agg #[.int .i64 3, .string t, .int .i64 n, .int .i64 m, .string s, .slice A l.length c]] w fun e w' => e = .returned (.bool (node3 t n m s l)) ∧ Below w.heap.size w w' := by
  have HT := Lib.hid (fun W => isType_any t W ht)
  have HI := Lib.hid inRange_any
  go_enter Tryz.func75, Tryz.ntmps75
  go_wp2_with (first | (go_at_call 91; (with_reducible refine (HT.out _).mono ?_); rintro e w1 ⟨rfl, rfl⟩) | (go_at_call 92; (with_reducible refine (HI.out _ _).mono ?_); rintro e w1 ⟨rfl, rfl⟩))
  all_goals
    go_ret
    refine ⟨?_, (Below.refl _ _).alloc (Nat.le_refl _) _⟩
    go_light
    first
      | (simp [node3, *]; done)
      | (simp [node3, *]; intros; omega)
set_option maxHeartbeats 4000000 in
set_option maxRecDepth 100000 in
theorem node_k4 (t : ByteArray) (n m : Int) (s : ByteArray) (l : List V) (A : Option Addr) (c : Nat) (w : World) (ht : t.size ≤ 2097152) :
    Calls Tryz.prog 75 #[.agg #[.int .i64 4, .string t, .int .i64 n, .int .i64 m, .string s, .slice A l.length c]] w fun e w' => e = .returned (.bool (node4 t n m s l)) ∧ Below w.heap.size w w' := by
  have HT := Lib.hid (fun W => isType_any t W ht)
  go_enter Tryz.func75, Tryz.ntmps75
  go_wp2_with (first | (go_at_call 91; (with_reducible refine (HT.out _).mono ?_); rintro e w1 ⟨rfl, rfl⟩))
  all_goals
    go_ret
    refine ⟨?_, (Below.refl _ _).alloc (Nat.le_refl _) _⟩
    go_light
    first
      | (simp [node4, *]; done)
      | (simp [node4, *]; intros; omega)
set_option maxHeartbeats 4000000 in
set_option maxRecDepth 100000 in
theorem node_k5 (t : ByteArray) (n m : Int) (s : ByteArray) (l : List V) (A : Option Addr) (c : Nat) (w : World) (ht : t.size ≤ 2097152) :
    Calls Tryz.prog 75 #[.agg #[.int .i64 5, .string t, .int .i64 n, .int .i64 m, .string s, .slice A l.length c]] w fun e w' => e = .returned (.bool (node5 t n m s l)) ∧ Below w.heap.size w w' := by
  have HT := Lib.hid (fun W => isType_any t W ht)
  go_enter Tryz.func75, Tryz.ntmps75
  go_wp2_with (first | (go_at_call 91; (with_reducible refine (HT.out _).mono ?_); rintro e w1 ⟨rfl, rfl⟩))
  all_goals
    go_ret
    refine ⟨?_, (Below.refl _ _).alloc (Nat.le_refl _) _⟩
    go_light
    first
      | (simp [node5, *]; done)
      | (simp [node5, *]; intros; omega)
end Go.Proofs.YtlbmfgiepcemdaaGreat
namespace Go.Proofs.YtlbmfgiepcemdaaGreat
open Go.RowKit

set_option maxHeartbeats 4000000 in
set_option maxRecDepth 100000 in
theorem node_k6 (t : ByteArray) (n m : Int) (s : ByteArray) (l : List V) (A : Option Addr) (c : Nat) (w : World) (ht : t.size ≤ 2097152) :
    Calls Tryz.prog 75 #[.agg #[.int .i64 6, .string t, .int .i64 n, .int .i64 m, .string s, .slice A l.length c]] w fun e w' => e = .returned (.bool (node6 t n m s)) ∧ Below w.heap.size w w' := by
  have HT := Lib.hid (fun W => isType_any t W ht)
  go_enter Tryz.func75, Tryz.ntmps75
  go_wp2_with (first | (go_at_call 91; (with_reducible refine (HT.out _).mono ?_); rintro e w1 ⟨rfl, rfl⟩))
  all_goals
    go_ret
    refine ⟨?_, (Below.refl _ _).alloc (Nat.le_refl _) _⟩
    go_light
    first
      | (simp [node6, *]; done)
      | (simp [node6, *]; intros; omega)
set_option maxHeartbeats 4000000 in
set_option maxRecDepth 100000 in
theorem node_k7 (t : ByteArray) (n m : Int) (s : ByteArray) (l : List V) (A : Option Addr) (c : Nat) (w : World) (ht : t.size ≤ 2097152) :
    Calls Tryz.prog 75 #[.agg #[.int .i64 7, .string t, .int .i64 n, .int .i64 m, .string s, .slice A l.length c]] w fun e w' => e = .returned (.bool (node7 t n m s)) ∧ Below w.heap.size w w' := by
  have HT := Lib.hid (fun W => isType_any t W ht)
  go_enter Tryz.func75, Tryz.ntmps75
  go_wp2_with (first | (go_at_call 91; (with_reducible refine (HT.out _).mono ?_); rintro e w1 ⟨rfl, rfl⟩))
  all_goals
    go_ret
    refine ⟨?_, (Below.refl _ _).alloc (Nat.le_refl _) _⟩
    go_light
    first
      | (simp [node7, *]; done)
      | (simp [node7, *]; intros; omega)
set_option maxHeartbeats 4000000 in
set_option maxRecDepth 100000 in
theorem node_k8 (t : ByteArray) (n m : Int) (s : ByteArray) (l : List V) (A : Option Addr) (c : Nat) (w : World) (ht : t.size ≤ 2097152) (hs : s.size ≤ 2097152) :
    Calls Tryz.prog 75 #[.agg #[.int .i64 8, .string t, .int .i64 n, .int .i64 m, .string s, .slice A l.length c]] w fun e w' => e = .returned (.bool (node8 t n m s l)) ∧ Below w.heap.size w w' := by
  have HT := Lib.hid (fun W => isType_any t W ht)
  have HP := Lib.hid (fun W => path_any s W hs)
  go_enter Tryz.func75, Tryz.ntmps75
  go_wp2_with (first | (go_at_call 91; (with_reducible refine (HT.out _).mono ?_); rintro e w1 ⟨rfl, rfl⟩) | (go_at_call 18; (with_reducible refine (HP.out _).mono ?_); rintro e w2 ⟨rfl, hb2⟩; have HB2 := Lib.hid hb2; clear hb2))
  all_goals
    go_ret
    refine ⟨?_, by first | exact (Below.refl _ _).alloc (Nat.le_refl _) _ | exact ((Below.refl _ _).alloc (Nat.le_refl _) _).trans (HB2.out.mono (by simp))⟩
    go_light
    first
      | (simp [node8, *]; done)
      | (simp [node8, *]; intros; omega)
set_option maxHeartbeats 4000000 in
set_option maxRecDepth 100000 in
theorem node_k9 (t : ByteArray) (n m : Int) (s : ByteArray) (l : List V) (A : Option Addr) (c : Nat) (w : World) (ht : t.size ≤ 2097152) :
    Calls Tryz.prog 75 #[.agg #[.int .i64 9, .string t, .int .i64 n, .int .i64 m, .string s, .slice A l.length c]] w fun e w' => e = .returned (.bool (node9 t n m s)) ∧ Below w.heap.size w w' := by
  have HT := Lib.hid (fun W => isType_any t W ht)
  go_enter Tryz.func75, Tryz.ntmps75
  go_wp2_with (first | (go_at_call 91; (with_reducible refine (HT.out _).mono ?_); rintro e w1 ⟨rfl, rfl⟩))
  all_goals
    go_ret
    refine ⟨?_, (Below.refl _ _).alloc (Nat.le_refl _) _⟩
    go_light
    first
      | (simp [node9, *]; done)
      | (simp [node9, *]; intros; omega)
set_option maxHeartbeats 4000000 in
set_option maxRecDepth 100000 in
theorem node_k10 (t : ByteArray) (n m : Int) (s : ByteArray) (l : List V) (A : Option Addr) (c : Nat) (w : World) (ht : t.size ≤ 2097152) :
    Calls Tryz.prog 75 #[.agg #[.int .i64 10, .string t, .int .i64 n, .int .i64 m, .string s, .slice A l.length c]] w fun e w' => e = .returned (.bool (node10 t n m s l)) ∧ Below w.heap.size w w' := by
  have HT := Lib.hid (fun W => isType_any t W ht)
  have HI := Lib.hid inRange_any
  go_enter Tryz.func75, Tryz.ntmps75
  go_wp2_with (first | (go_at_call 91; (with_reducible refine (HT.out _).mono ?_); rintro e w1 ⟨rfl, rfl⟩) | (go_at_call 92; (with_reducible refine (HI.out _ _).mono ?_); rintro e w1 ⟨rfl, rfl⟩))
  all_goals
    go_ret
    refine ⟨?_, (Below.refl _ _).alloc (Nat.le_refl _) _⟩
    go_light
    first
      | (simp [node10, *]; done)
      | (simp [node10, *]; intros; omega)
set_option maxHeartbeats 4000000 in
set_option maxRecDepth 100000 in
theorem node_k0 (k : Int) (t : ByteArray) (n m : Int) (s : ByteArray) (l : List V) (A : Option Addr) (c : Nat) (w : World) (ht : t.size ≤ 2097152) (hk : ∀ j : Int, 1 ≤ j → j ≤ 10 → (k == j) = false) :
    Calls Tryz.prog 75 #[.agg #[.int .i64 k, .string t, .int .i64 n, .int .i64 m, .string s, .slice A l.length c]] w fun e w' => e = .returned (.bool false) ∧ Below w.heap.size w w' := by
  have HT := Lib.hid (fun W => isType_any t W ht)
  have k1 := hk 1 (by omega) (by omega)
  have k2 := hk 2 (by omega) (by omega)
  have k3 := hk 3 (by omega) (by omega)
  have k4 := hk 4 (by omega) (by omega)
  have k5 := hk 5 (by omega) (by omega)
  have k6 := hk 6 (by omega) (by omega)
  have k7 := hk 7 (by omega) (by omega)
  have k8 := hk 8 (by omega) (by omega)
  have k9 := hk 9 (by omega) (by omega)
  have k10 := hk 10 (by omega) (by omega)
  clear hk
  go_enter Tryz.func75, Tryz.ntmps75
  go_wp2_with (first | (go_at_call 91; (with_reducible refine (HT.out _).mono ?_); rintro e w1 ⟨rfl, rfl⟩))
  all_goals
    go_ret
    refine ⟨?_, (Below.refl _ _).alloc (Nat.le_refl _) _⟩
    go_light
    first
      | (simp [*]; done)
      | (simp [*]; intros; omega)
theorem node_any (k : Int) (t : ByteArray) (n m : Int) (s : ByteArray) (l : List V) (A : Option Addr) (c : Nat) (w : World) (ht : t.size ≤ 2097152) (hs : s.size ≤ 2097152) :
    Calls Tryz.prog 75 #[.agg #[.int .i64 k, .string t, .int .i64 n, .int .i64 m, .string s, .slice A l.length c]] w fun e w' => e = .returned (.bool (nodeP (.mk k t n m s l))) ∧ Below w.heap.size w w' := by
  by_cases h1 : k = 1
  · subst h1
    rw [show nodeP (.mk 1 t n m s l) = node1 t n m s l from rfl]
    exact node_k1 t n m s l A c w ht
  by_cases h2 : k = 2
  · subst h2
    rw [show nodeP (.mk 2 t n m s l) = node2 t n m s l from rfl]
    exact node_k2 t n m s l A c w ht
  by_cases h3 : k = 3
  · subst h3
    rw [show nodeP (.mk 3 t n m s l) = node3 t n m s l from rfl]
    exact node_k3 t n m s l A c w ht
  by_cases h4 : k = 4
  · subst h4
    rw [show nodeP (.mk 4 t n m s l) = node4 t n m s l from rfl]
    exact node_k4 t n m s l A c w ht
  by_cases h5 : k = 5
  · subst h5
    rw [show nodeP (.mk 5 t n m s l) = node5 t n m s l from rfl]
    exact node_k5 t n m s l A c w ht
  by_cases h6 : k = 6
  · subst h6
    rw [show nodeP (.mk 6 t n m s l) = node6 t n m s from rfl]
    exact node_k6 t n m s l A c w ht
  by_cases h7 : k = 7
  · subst h7
    rw [show nodeP (.mk 7 t n m s l) = node7 t n m s from rfl]
    exact node_k7 t n m s l A c w ht
  by_cases h8 : k = 8
  · subst h8
    rw [show nodeP (.mk 8 t n m s l) = node8 t n m s l from rfl]
    exact node_k8 t n m s l A c w ht hs
  by_cases h9 : k = 9
  · subst h9
    rw [show nodeP (.mk 9 t n m s l) = node9 t n m s from rfl]
    exact node_k9 t n m s l A c w ht
  by_cases h10 : k = 10
  · subst h10
    rw [show nodeP (.mk 10 t n m s l) = node10 t n m s l from rfl]
    exact node_k10 t n m s l A c w ht
  rw [show nodeP (.mk k t n m s l) = false by simp [nodeP, h1, h2, h3, h4, h5, h6, h7, h8, h9, h10]]
  refine node_k0 k t n m s l A c w ht fun j h1 h2 => ?_
  simp only [beq_eq_false_iff_ne]
  omega
mutual
/-- NODE: value.node comes to nodeP at every value that is not too large -/
theorem nodeOk_all : ∀ (v : V), v.bulk ≤ 2097152 → v.All (NodeOk nodeP)
  | .mk k t n m s l, h => by
    rw [bulk_mk] at h
    rw [V.All]
    refine ⟨fun k' t' n' m' s' l' e W A c _ => ?_, nodeOk_list l (by omega)⟩
    injection e with e1 e2 e3 e4 e5 e6
    subst e1 e2 e3 e4 e5 e6
    exact node_any k t n m s l A c W (by omega) (by omega)
theorem nodeOk_list : ∀ (l : List V), bulkV l ≤ 2097152 → AllV (NodeOk nodeP) l
  | [], _ => by rw [AllV]; trivial
  | v :: r, h => by
    rw [bulkV_cons] at h
    rw [AllV]
    exact ⟨nodeOk_all v (by omega), nodeOk_list r (by omega)⟩
end
end Go.Proofs.YtlbmfgiepcemdaaGreat
