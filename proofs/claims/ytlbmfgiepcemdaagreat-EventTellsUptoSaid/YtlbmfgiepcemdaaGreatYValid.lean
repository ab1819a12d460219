/- value.valid, value.Right, value.Bytes: what they come to if value.node comes to p; and all of it at an int. Conditions: those in each statement. -/
import Derived.Test.YtlbmfgiepcemdaaGreatYEnc
import Derived.Laws.IdiomStrings
namespace Go.Proofs.YtlbmfgiepcemdaaGreat
open Go.RowKit

mutual
def validV (p : V → Bool) : V → Nat → Bool × Nat
  | .mk k t n m s l, left => if left = 0 ∨ p (.mk k t n m s l) = false then (false, left) else validL p l (left - 1)
def validL (p : V → Bool) : List V → Nat → Bool × Nat
  | [], left => (true, left)
  | v :: r, left => if (validV p v left).1 = true then validL p r (validV p v left).2 else (false, (validV p v left).2)
end
theorem validL_step (p : V → Bool) : ∀ (l : List V) (i : Nat) (v : V) (a b : Nat), validL p (l.take i) a = (true, b) → l[i]? = some v → validL p l a = validL p (v :: l.drop (i + 1)) b
  | [], i, v, a, b, _, h => by simp at h
  | x :: r, 0, v, a, b, h, hv => by
    simp [validL] at h
    simp at hv
    subst h hv
    simp
  | x :: r, i + 1, v, a, b, h, hv => by
    rw [List.take_succ_cons, validL] at h
    rw [validL]
    by_cases hx : (validV p x a).1 = true
    · rw [if_pos hx] at h ⊢
      rw [validL_step p r i v _ b h (by simpa using hv)]; simp
    · rw [if_neg hx] at h
      cases h
theorem validL_snoc (p : V → Bool) : ∀ (l : List V) (i : Nat) (v : V) (a b : Nat), validL p (l.take i) a = (true, b) → l[i]? = some v → (validV p v b).1 = true → validL p (l.take (i + 1)) a = (true, (validV p v b).2)
  | [], i, v, a, b, _, h, _ => by simp at h
  | x :: r, 0, v, a, b, h, hv, ht => by
    simp [validL] at h
    simp at hv
    subst h hv
    simp [validL, ht]
  | x :: r, i + 1, v, a, b, h, hv, ht => by
    rw [List.take_succ_cons, validL] at h
    rw [List.take_succ_cons, validL]
    by_cases hx : (validV p x a).1 = true
    · rw [if_pos hx] at h ⊢
      exact validL_snoc p r i v _ b h (by simpa using hv) ht
    · rw [if_neg hx] at h
      cases h
theorem validL_all (p : V → Bool) (l : List V) (a b : Nat) (h : validL p (l.take l.length) a = (true, b)) : validL p l a = (true, b) := by rwa [List.take_length] at h
mutual
theorem validV_le (p : V → Bool) : ∀ (v : V) (a : Nat), (validV p v a).2 ≤ a
  | .mk k t n m s l, a => by
    rw [validV]; split
    · exact Nat.le_refl _
    · exact Nat.le_trans (validL_le p l _) (by omega)
theorem validL_le (p : V → Bool) : ∀ (l : List V) (a : Nat), (validL p l a).2 ≤ a
  | [], a => by rw [validL]; exact Nat.le_refl _
  | v :: r, a => by
    rw [validL]; split
    · exact Nat.le_trans (validL_le p r _) (validV_le p v a)
    · exact validV_le p v a
end
mutual
/-- of a value and all that it holds -/
def V.All (Q : V → Prop) : V → Prop
  | .mk k t n m s l => Q (.mk k t n m s l) ∧ AllV Q l
def AllV (Q : V → Prop) : List V → Prop
  | [] => True
  | v :: r => v.All Q ∧ AllV Q r
end
theorem AllV_get (Q : V → Prop) : ∀ (l : List V) (i : Nat) (v : V), AllV Q l → l[i]? = some v → v.All Q
  | [], i, v, _, h => by simp at h
  | x :: r, 0, v, hw, h => by simp at h; subst h; rw [AllV] at hw; exact hw.1
  | x :: r, i + 1, v, hw, h => by rw [AllV] at hw; exact AllV_get Q r i v hw.2 (by simpa using h)

theorem grown_trans {w w1 w2 : World} {row : Option Nat} (h1 : w.grownBy w1 row) (h2 : w1.grownBy w2 row) : w.grownBy w2 row :=
  ⟨h2.os.trans h1.os, h2.tape.trans h1.tape, h2.output.trans h1.output, Nat.le_trans h1.size h2.size, fun k hk hr => (h2.block k (Nat.lt_of_lt_of_le hk h1.size) hr).trans (h1.block k hk hr)⟩
theorem grown_below {w w1 : World} (row : Option Nat) (h : Below w.heap.size w w1) : w.grownBy w1 row := ⟨h.os, h.tape, h.output, h.size, fun k hk _ => h.block k hk⟩
theorem grown_setCell (w : World) (g o : Nat) (u : Value) : w.grownBy (w.setCell ⟨g, o, none⟩ u) (some g) :=
  ⟨rfl, rfl, rfl, by rw [size_setCell]; exact Nat.le_refl _, fun k _ hk => Below.heap_setCell _ _ _ _ (fun e => hk (by simp [e]))⟩
theorem one_set {w : World} {g : Nat} {v : Value} {e : TypeId} (h : w.heap[g]? = some (.cells #[v] e (0, 0))) (u : Value) : (w.setCell ⟨g, 0, none⟩ u).heap[g]? = some (.cells #[u] e (0, 0)) := by
  simp [World.setCell, Array.getElem?_modify, h]

/-- value.node comes to p at v -/
def NodeOk (p : V → Bool) (v : V) : Prop := ∀ k t n m s l, v = .mk k t n m s l → ∀ (W : World) (A : Option Addr) (c : Nat), Rd (Lt W.heap.size) W (vs l) (.slice A l.length c) →
  Calls Tryz.prog 75 #[.agg #[.int .i64 k, .string t, .int .i64 n, .int .i64 m, .string s, .slice A l.length c]] W fun e w' => e = .returned (.bool (p (.mk k t n m s l))) ∧ Below W.heap.size W w'

def ValidPost (p : V → Bool) (gl : Nat) (v : V) (left : Nat) (w : World) (e : Ending) (w' : World) : Prop :=
  e = .returned (.bool (validV p v left).1) ∧ w'.heap[gl]? = some (.cells #[.int .i64 ((validV p v left).2 : Int)] 3 (0, 0)) ∧ w.grownBy w' (some gl)

set_option maxHeartbeats 4000000 in
theorem valid_any (p : V → Bool) (gl B : Nat) : ∀ (N : Nat) (k : Int) (t : ByteArray) (n m : Int) (s : ByteArray) (l : List V) (left : Nat) (A : Option Addr) (c : Nat) (w : World), (V.mk k t n m s l).bulk ≤ N → N ≤ 2097152 → left ≤ 16384 → (V.mk k t n m s l).All (NodeOk p) →
    w.heap[gl]? = some (.cells #[.int .i64 (left : Int)] 3 (0, 0)) → B ≤ gl → Rd (Lt B) w (vs l) (.slice A l.length c) →
    Calls Tryz.prog 74 #[.agg #[.int .i64 k, .string t, .int .i64 n, .int .i64 m, .string s, .slice A l.length c], .pointer (some ⟨gl, 0, none⟩), .func (.func 75) #[] #[]] w (ValidPost p gl (.mk k t n m s l) left w) := by
  intro N
  induction N with
  | zero =>
    intro k t n m s l left A c w hb
    rw [bulk_mk] at hb
    omega
  | succ N ih =>
    intro k t n m s l left A c w hb hN hlf hal hg hB hr
    rw [bulk_mk] at hb
    rw [V.All] at hal
    have hll := bulkV_len l
    have hgl : gl < w.heap.size := (Array.getElem?_eq_some_iff.1 hg).1
    have hcl : w.cell? ⟨gl, 0, none⟩ = some (.int .i64 (left : Int)) := by rw [Lib.cell_of_heap hg]; rfl
    have HR := Lib.hid hr
    have IH := Lib.hid ih
    have HA := Lib.hid hal.2
    have HN := Lib.hid hal.1
    have HG := Lib.hid hg
    clear hr ih hal hg
    by_cases hl0 : left = 0
    · subst hl0
      have HE : Hid (validV p (.mk k t n m s l) 0 = (false, 0)) := Lib.hid (by rw [validV, if_pos (.inl rfl)])
      go_enter Tryz.func74, Tryz.ntmps74
      go_wp2_with fail
      go_ret
      refine ⟨by rw [HE.out]; rfl, ?_, grown_below _ ((Below.refl _ _).alloc (Nat.le_refl _) _)⟩
      rw [HE.out]
      exact (Below.heap_alloc w _ gl hgl).trans HG.out
    · have hlb : ((left : Int) == 0) = false := by simp; omega
      have hl1 : 1 ≤ left := by omega
      have hk : Rd (Lt (w.alloc (.cells #[.int .i64 k, .string t, .int .i64 n, .int .i64 m, .string s, .slice A l.length c] 35)).heap.size) (w.alloc (.cells #[.int .i64 k, .string t, .int .i64 n, .int .i64 m, .string s, .slice A l.length c] 35)) (vs l) (.slice A l.length c) :=
        (HR.out.weaken (ok' := Lt w.heap.size) (fun b hb => Nat.lt_trans hb (by omega))).allocs _
      have HK := Lib.hid (HN.out k t n m s l rfl _ A c hk)
      clear hk hl0
      cases hp : p (.mk k t n m s l) with
      | false =>
        have HE : Hid (validV p (.mk k t n m s l) left = (false, left)) := Lib.hid (by rw [validV, if_pos (.inr hp)])
        rw [hp] at HK
        clear hp
        go_enter Tryz.func74, Tryz.ntmps74
        go_wp2_with fail
        (with_reducible refine HK.out.mono ?_)
        rintro e w1 ⟨rfl, hb1⟩
        have HB1 := Lib.hid hb1
        clear hb1
        go_wp2_with fail
        go_ret
        have hbb : Below w.heap.size w w1 := ((Below.refl _ _).alloc (Nat.le_refl _) _).trans (HB1.out.mono (by simp))
        refine ⟨by rw [HE.out]; rfl, ?_, grown_below _ hbb⟩
        rw [HE.out]
        exact (hbb.block gl hgl).trans HG.out
      | true =>
        have HE : Hid (validV p (.mk k t n m s l) left = validL p l (left - 1)) := Lib.hid (by rw [validV, if_neg (by simp [hp]; omega)])
        rw [hp] at HK
        clear hp
        go_enter Tryz.func74, Tryz.ntmps74
        go_wp2_with fail
        (with_reducible refine HK.out.mono ?_)
        rintro e w1 ⟨rfl, hb1⟩
        have hbb : Below w.heap.size w w1 := ((Below.refl _ _).alloc (Nat.le_refl _) _).trans (hb1.mono (by simp))
        have hg1 := (hbb.block gl hgl).trans HG.out
        have hcl1 : w1.cell? ⟨gl, 0, none⟩ = some (.int .i64 (left : Int)) := by rw [Lib.cell_of_heap hg1]; rfl
        have hfz1 : w1.frozen? ⟨gl, 0, none⟩ = false := Lib.frozen_of_heap hg1 0
        have hbx : w1.heap[w.heap.size]? = some (.cells #[.int .i64 k, .string t, .int .i64 n, .int .i64 m, .string s, .slice A l.length c] 35 (0, 0)) := (hb1.block w.heap.size (by simp)).trans (heap_alloc_new w _)
        have hc5 : w1.cell? ⟨w.heap.size, 5, none⟩ = some (.slice A l.length c) := by rw [Lib.cell_of_heap hbx]; rfl
        have hne : gl ≠ w.heap.size := by omega
        have HG1 := Lib.hid hg1
        have HB1 := Lib.hid hb1
        have HW := Lib.hid hbb
        clear hbx hb1 hg1 hbb
        go_wp2_with fail
        go_loopw [27] (fun s27 wr => ∃ (i lf : Nat), i ≤ l.length ∧ lf ≤ 16384 ∧ s27 = .int .i64 i ∧ Hid (validL p (l.take i) (left - 1) = (true, lf)) ∧ Hid (wr.heap[gl]? = some (.cells #[.int .i64 (lf : Int)] 3 (0, 0))) ∧ Hid (w.grownBy wr (some gl))) (fun s27 _ => l.length - (intOf s27).toNat)
        case atStart =>
          refine ⟨0, left - 1, by omega, by omega, rfl, Lib.hid (by simp [validL]), Lib.hid ?_, Lib.hid ?_⟩
          · rw [show ((left - 1 : Nat) : Int) = (left : Int) - 1 by omega]
            exact one_set HG1.out _
          · exact grown_trans (grown_below _ HW.out) (grown_setCell _ _ _ _)
        case round =>
          obtain ⟨i, lf, hi, hlf2, rfl, HV, HL, HW2⟩ := hrel
          by_cases hlt : i < l.length
          · have hrr : Rd (Lt B) wr (vs l) (.slice A l.length c) := HR.out.keep (fun b o hb => World.cell?_of_block (HW2.out.block b (Nat.lt_trans hb (by omega)) (fun e => by injection e with e; have hb' : b < B := hb; omega)))
            obtain ⟨b, off, kd, t', n', m', s', l', A', c', e, hlb, hget, h2⟩ := vs_at hrr hlt
            subst e
            obtain ⟨c0, c1, c2, c3, c4, c5, r5⟩ := h2
            have hbk := bulkV_get _ _ _ hget
            have HC := Lib.hid (fun W hG hRd => IH.out kd t' n' m' s' l' lf A' c' W (by omega) (by omega) hlf2 (AllV_get _ _ _ _ HA.out hget) hG hB hRd)
            have hglr : gl < wr.heap.size := Nat.lt_of_lt_of_le hgl HW2.out.size
            have HGB := Lib.hid hglr
            have R5 := Lib.hid r5
            have HGET := Lib.hid hget
            clear r5 hget hrr hglr
            cases hq : (validV p (.mk kd t' n' m' s' l') lf).1 with
            | false =>
              have HE2 : Hid (validV p (.mk k t n m s l) left = (false, (validV p (.mk kd t' n' m' s' l') lf).2)) := Lib.hid (by
                rw [HE.out, validL_step p l i _ _ _ HV.out HGET.out, validL, hq]; simp)
              have HQ := Lib.hid hq
              clear hq
              go_wp2_with fail
              (with_reducible refine (HC.out _ ?_ ?_).mono ?_)
              · exact (Below.heap_alloc wr _ gl HGB.out).trans HL.out
              · exact R5.out.below ((Below.refl B wr).alloc (by have := HGB.out; omega) _) (fun _ h => h)
              rintro e w4 ⟨rfl, hg4, hw4⟩
              have G4 := Lib.hid hg4
              have W4 := Lib.hid hw4
              clear hg4 hw4
              rw [HQ.out]
              go_wp2_with fail
              go_ret
              refine ⟨by rw [HE2.out]; rfl, by rw [HE2.out]; exact G4.out, ?_⟩
              exact grown_trans (grown_trans HW2.out (grown_below _ ((Below.refl _ _).alloc (Nat.le_refl _) _))) W4.out
            | true =>
              have HV2 := Lib.hid (validL_snoc p l i _ _ _ HV.out HGET.out hq)
              have hle := validV_le p (.mk kd t' n' m' s' l') lf
              have HQ := Lib.hid hq
              clear hq
              go_wp2_with fail
              (with_reducible refine (HC.out _ ?_ ?_).mono ?_)
              · exact (Below.heap_alloc wr _ gl HGB.out).trans HL.out
              · exact R5.out.below ((Below.refl B wr).alloc (by have := HGB.out; omega) _) (fun _ h => h)
              rintro e w4 ⟨rfl, hg4, hw4⟩
              have G4 := Lib.hid hg4
              have W4 := Lib.hid (grown_trans (grown_trans HW2.out (grown_below _ ((Below.refl _ _).alloc (Nat.le_refl _) _))) hw4)
              clear hg4 hw4
              rw [HQ.out]
              go_wp2_with fail
              exact ⟨⟨i + 1, _, by omega, by omega, by go_num, HV2, G4, W4⟩, by simp [intOf]; omega⟩
          · obtain rfl : i = l.length := by omega
            have HE2 := Lib.hid (HE.out.trans (validL_all p l _ _ HV.out))
            go_wp2_with fail
            go_ret
            exact ⟨by rw [HE2.out]; rfl, by rw [HE2.out]; exact HL.out, HW2.out⟩

/-- value.Right, if value.node comes to p -/
def rightP (p : V → Bool) (v : V) : Bool := (validV p v 16384).1
set_option maxHeartbeats 1000000 in
theorem right_of (p : V → Bool) (k : Int) (t : ByteArray) (n m : Int) (s : ByteArray) (l : List V) (A : Option Addr) (c : Nat) (w : World) (hb : (V.mk k t n m s l).bulk ≤ 2097152) (hal : (V.mk k t n m s l).All (NodeOk p)) (hr : Rd (Lt w.heap.size) w (vs l) (.slice A l.length c)) :
    Calls Tryz.prog 52 #[.agg #[.int .i64 k, .string t, .int .i64 n, .int .i64 m, .string s, .slice A l.length c]] w fun e w' => e = .returned (.bool (rightP p (.mk k t n m s l))) ∧ Below w.heap.size w w' := by
  have HC := Lib.hid (fun W hG hRd => valid_any p (w.heap.size + 1) w.heap.size _ k t n m s l 16384 A c W (Nat.le_refl _) hb (by omega) hal hG (by omega) hRd)
  have HR := Lib.hid hr
  clear hal hr
  go_enter Tryz.func52, Tryz.ntmps52
  go_wp2_with fail
  (with_reducible refine (HC.out _ ?_ ?_).mono ?_)
  · exact heap_alloc2_new _ _ _
  · exact HR.out.below (((Below.refl _ _).alloc (Nat.le_refl _) _).alloc (by simp) _) (fun _ h => h)
  rintro e w1 ⟨rfl, _, hg⟩
  have HG := Lib.hid hg
  clear hg
  go_wp2_with fail
  go_ret
  refine ⟨rfl, ?_⟩
  have hb2 : Below w.heap.size w ((w.alloc (.cells #[.int .i64 k, .string t, .int .i64 n, .int .i64 m, .string s, .slice A l.length c] 35)).alloc (.cells #[.int .i64 16384] 3)) := ((Below.refl _ _).alloc (Nat.le_refl _) _).alloc (by simp) _
  exact hb2.grown HG.out (by simp; omega) (fun q hq => by injection hq with hq; omega)

/-- a value's bytes, none if it is not right -/
def bytesP (p : V → Bool) (v : V) : ByteArray := if rightP p v then ⟨(bytesV v).toArray⟩ else ⟨#[]⟩
theorem bytesV_ne (v : V) : bytesV v ≠ [] := by
  cases v with
  | mk k t n m s l =>
    intro h
    have := congrArg List.length h
    rw [bytesV] at this
    simp only [List.length_append, size_toList, List.length_nil] at this
    have h1 : 0 < (textB t).size := by
      unfold textB
      rw [ByteArray.size_append]
      have : 0 < (numB t.size).size := by
        unfold numB; rw [strOfNums_size, numI]
        split <;> simp
      omega
    omega
set_option maxHeartbeats 1000000 in
theorem bytes_of (p : V → Bool) (k : Int) (t : ByteArray) (n m : Int) (s : ByteArray) (l : List V) (A : Option Addr) (c : Nat) (w : World) (hb : (V.mk k t n m s l).bulk ≤ 2097152) (hwf : (V.mk k t n m s l).Wf) (hal : (V.mk k t n m s l).All (NodeOk p)) (hr : Rd (Lt w.heap.size) w (vs l) (.slice A l.length c)) :
    Calls Tryz.prog 71 #[.agg #[.int .i64 k, .string t, .int .i64 n, .int .i64 m, .string s, .slice A l.length c]] w fun e w' => e = .returned (.string (bytesP p (.mk k t n m s l))) ∧ Below w.heap.size w w' := by
  have HR := Lib.hid hr
  have HC := Lib.hid (fun W hRd => right_of p k t n m s l A c W hb hal hRd)
  have HD := Lib.hid (fun W hRd => encode_any W.heap.size _ k t n m s l [] (.slice none 0 0) A c W (Nat.le_refl _) hb hwf (by simp only [List.length_nil]; omega) (World.ownsRow_nil _ _ _ _) (Nat.le_refl _) hRd)
  have HN := Lib.hid (bytesV_ne (.mk k t n m s l))
  have HU : Hid (bytesP p (.mk k t n m s l) = if rightP p (.mk k t n m s l) then ⟨(bytesV (.mk k t n m s l)).toArray⟩ else ⟨#[]⟩) := Lib.hid rfl
  clear hal hr hwf
  generalize bytesP p (.mk k t n m s l) = R at *
  generalize hrp : rightP p (.mk k t n m s l) = rp at *
  have HRP := Lib.hid hrp
  clear hrp
  cases rp with
  | false =>
    go_enter Tryz.func71, Tryz.ntmps71
    go_wp2_with fail
    (with_reducible refine (HC.out _ ?_).mono ?_)
    · exact HR.out.allocs _
    rintro e w1 ⟨rfl, hb1⟩
    have HB := Lib.hid hb1
    clear hb1
    go_wp2_with fail
    go_ret
    exact ⟨by rw [HU.out]; rfl, ((Below.refl _ _).alloc (Nat.le_refl _) _).trans (HB.out.mono (by simp))⟩
  | true =>
    go_enter Tryz.func71, Tryz.ntmps71
    go_wp2_with fail
    (with_reducible refine (HC.out _ ?_).mono ?_)
    · exact HR.out.allocs _
    rintro e w1 ⟨rfl, hb1⟩
    have HB := Lib.hid hb1
    have hbx : w1.heap[w.heap.size]? = some (.cells #[.int .i64 k, .string t, .int .i64 n, .int .i64 m, .string s, .slice A l.length c] 35 (0, 0)) := (hb1.block w.heap.size (by simp)).trans (heap_alloc_new w _)
    have c0 : w1.cell? ⟨w.heap.size, 0, none⟩ = some (.int .i64 k) := by rw [Lib.cell_of_heap hbx]; rfl
    have c1 : w1.cell? ⟨w.heap.size, 1, none⟩ = some (.string t) := by rw [Lib.cell_of_heap hbx]; rfl
    have c2 : w1.cell? ⟨w.heap.size, 2, none⟩ = some (.int .i64 n) := by rw [Lib.cell_of_heap hbx]; rfl
    have c3 : w1.cell? ⟨w.heap.size, 3, none⟩ = some (.int .i64 m) := by rw [Lib.cell_of_heap hbx]; rfl
    have c4 : w1.cell? ⟨w.heap.size, 4, none⟩ = some (.string s) := by rw [Lib.cell_of_heap hbx]; rfl
    have c5 : w1.cell? ⟨w.heap.size, 5, none⟩ = some (.slice A l.length c) := by rw [Lib.cell_of_heap hbx]; rfl
    have R1 := Lib.hid ((HR.out.allocs _).belows hb1)
    clear hb1 hbx
    go_wp2_with fail
    (with_reducible refine (HD.out _ R1.out).mono ?_)
    rintro e w2 ⟨vb, rfl, hE⟩
    rw [List.nil_append] at hE
    generalize bytesV (.mk k t n m s l) = bs at *
    have hB2 : Below w.heap.size w w2 := ((Below.refl _ _).alloc (Nat.le_refl _) _).trans ((HB.out.mono (by simp)).trans (hE.2.1.mono (Nat.le_trans (by simp) HB.out.size)))
    rcases hE.1.2 with ⟨_, h0⟩ | ⟨g, cap, cur, rfl, _, hcur, hnc, hcm, hsz, htk⟩
    · exact absurd (List.eq_nil_of_length_eq_zero h0) HN.out
    · have hcv := run_convert_bytes_back (P := Tryz.prog) w2 68 9 5 ⟨g, 0, none⟩ cap bs Tryz.underlying68 Tryz.underlying5 Tryz.underlying9 (fun j hj => hE.1.cells (g := g) rfl j _ (by simp [Lib.byteCells, hj]))
      have HB2 := Lib.hid hB2
      clear hB2 hE hcur hnc hcm hsz htk
      go_wp2_with fail
      go_ret
      exact ⟨by rw [HU.out]; rfl, HB2.out⟩
end Go.Proofs.YtlbmfgiepcemdaaGreat
