/- event.stored and event.plain: a valid value without closures and unknown integers. Conditions: those in each statement. -/
import Derived.Test.YtlbmfgiepcemdaaNode
import Derived.Test.YtlbmfgiepcemdaaEvSame
namespace Go.Proofs.Ytlbmfgiepcemdaa
open Go.RowKit

mutual
def storedV : V → Bool
  | .mk k _ _ _ _ l => !((k == 9) || (k == 10)) && storedL l
def storedL : List V → Bool
  | [] => true
  | v :: r => storedV v && storedL r
end
theorem storedL_at : ∀ (l : List V) (i : Nat) (v : V), l[i]? = some v → storedV v = false → storedL l = false
  | [], i, v, h, _ => by simp at h
  | x :: r, 0, v, h, hv => by simp at h; subst h; rw [storedL, hv]; rfl
  | x :: r, i + 1, v, h, hv => by rw [storedL, storedL_at r i v (by simpa using h) hv]; simp
theorem storedL_all : ∀ (l : List V), (∀ (i : Nat) (v : V), l[i]? = some v → storedV v = true) → storedL l = true
  | [], _ => by rw [storedL]
  | x :: r, h => by
    rw [storedL, h 0 x rfl, storedL_all r (fun i v hv => h (i + 1) v (by simpa using hv))]; rfl
set_option maxHeartbeats 2000000 in
theorem stored_any : ∀ (N : Nat) (k : Int) (t : ByteArray) (n m : Int) (s : ByteArray) (l : List V) (A : Option Addr) (c : Nat) (w : World), (V.mk k t n m s l).bulk ≤ N → N ≤ 2097152 → Rd (Lt w.heap.size) w (vs l) (.slice A l.length c) →
    Calls Try.prog 41 #[.agg #[.int .i64 k, .string t, .int .i64 n, .int .i64 m, .string s, .slice A l.length c]] w fun e w' => e = .returned (.bool (storedV (.mk k t n m s l))) ∧ Below w.heap.size w w' := by
  intro N
  induction N with
  | zero =>
    intro k t n m s l A c w hb
    rw [bulk_mk] at hb
    omega
  | succ N ih =>
    intro k t n m s l A c w hb hN hr
    rw [bulk_mk] at hb
    have hll := bulkV_len l
    have HR := Lib.hid hr
    have IH := Lib.hid ih
    clear hr ih
    obtain ⟨R, hR⟩ : ∃ R, storedV (.mk k t n m s l) = R := ⟨_, rfl⟩
    have HU : Hid (R = (!((k == 9) || (k == 10)) && storedL l)) := Lib.hid (by rw [← hR, storedV])
    rw [hR]
    clear hR
    cases h9 : (k == 9) with
    | true =>
      rw [h9] at HU
      go_enter Try.func41, Try.ntmps41
      go_wp2_with fail
      go_ret
      exact ⟨by rw [HU.out]; rfl, (Below.refl _ _).alloc (Nat.le_refl _) _⟩
    | false =>
      rw [h9] at HU
      cases h10 : (k == 10) with
      | true =>
        rw [h10] at HU
        go_enter Try.func41, Try.ntmps41
        go_wp2_with fail
        go_ret
        exact ⟨by rw [HU.out]; rfl, (Below.refl _ _).alloc (Nat.le_refl _) _⟩
      | false =>
        rw [h10] at HU
        go_enter Try.func41, Try.ntmps41
        go_wp2_with fail
        go_loopw [16] (fun s16 wr => ∃ i : Nat, i ≤ l.length ∧ s16 = .int .i64 i ∧ Hid (∀ (j : Nat) (v : V), j < i → l[j]? = some v → storedV v = true) ∧ Hid (Below w.heap.size w wr)) (fun s16 _ => l.length - (intOf s16).toNat)
        case atStart => exact ⟨0, by omega, rfl, Lib.hid (fun j v h => absurd h (by omega)), Lib.hid ((Below.refl _ _).alloc (Nat.le_refl _) _)⟩
        case round =>
          obtain ⟨i, hi, rfl, HQ, HB⟩ := hrel
          by_cases hlt : i < l.length
          · obtain ⟨b, off, kd, t', n', m', s', l', A', c', e, hlb, hget, h2⟩ := vs_at (HR.out.belows HB.out) hlt
            subst e
            obtain ⟨c0, c1, c2, c3, c4, c5, r5⟩ := h2
            have hbk := bulkV_get _ _ _ hget
            have HG := Lib.hid hget
            obtain ⟨g, hg⟩ : ∃ g, storedV (.mk kd t' n' m' s' l') = g := ⟨_, rfl⟩
            have HC : Hid (∀ W, Rd (Lt W.heap.size) W (vs l') (.slice A' l'.length c') → Calls Try.prog 41 #[.agg #[.int .i64 kd, .string t', .int .i64 n', .int .i64 m', .string s', .slice A' l'.length c']] W fun e w' => e = .returned (.bool g) ∧ Below W.heap.size W w') := Lib.hid (fun W h => by rw [← hg]; exact IH.out kd t' n' m' s' l' A' c' W (by omega) (by omega) h)
            have HGV := Lib.hid hg
            have R5 := Lib.hid r5
            have HBS := Lib.hid HB.out.size
            clear r5 hget hg hbk
            go_wp2_with fail
            (with_reducible refine (HC.out _ (R5.out.allocs _)).mono ?_)
            rintro e w4 ⟨rfl, hb4⟩
            have B4 := Lib.hid (HB.out.trans ((((Below.refl wr.heap.size wr).alloc (Nat.le_refl _) _).trans (hb4.mono (by simp))).mono HBS.out))
            clear hb4
            cases g with
            | false =>
              have HF := Lib.hid (storedL_at l i _ HG.out HGV.out)
              go_wp2_with fail
              go_ret
              exact ⟨by rw [HU.out, HF.out]; rfl, B4.out⟩
            | true =>
              have HQ2 : Hid (∀ (j : Nat) (v : V), j < i + 1 → l[j]? = some v → storedV v = true) := Lib.hid (fun j v hj hv => by
                rcases Nat.lt_or_ge j i with h | h
                · exact HQ.out j v h hv
                · obtain rfl : j = i := by omega
                  rw [HG.out] at hv
                  rw [← Option.some.inj hv]; exact HGV.out)
              go_wp2_with fail
              exact ⟨⟨i + 1, by omega, by go_num, HQ2, B4⟩, by simp [intOf]; omega⟩
          · have HT := Lib.hid (storedL_all l (fun j v hv => HQ.out j v (by have := (List.getElem?_eq_some_iff.1 hv).1; omega) hv))
            go_wp2_with fail
            go_ret
            exact ⟨by rw [HU.out, HT.out]; rfl, HB.out⟩
/-- a plain value -/
def plainV (v : V) : Bool := rightP nodeP v && storedV v
set_option maxHeartbeats 1000000 in
theorem plain_any (k : Int) (t : ByteArray) (n m : Int) (s : ByteArray) (l : List V) (A : Option Addr) (c : Nat) (w : World) (hb : (V.mk k t n m s l).bulk ≤ 2097152) (hr : Rd (Lt w.heap.size) w (vs l) (.slice A l.length c)) :
    Calls Try.prog 19 #[.agg #[.int .i64 k, .string t, .int .i64 n, .int .i64 m, .string s, .slice A l.length c]] w fun e w' => e = .returned (.bool (plainV (.mk k t n m s l))) ∧ Below w.heap.size w w' := by
  have HS := Lib.hid (fun W h => stored_any _ k t n m s l A c W (Nat.le_refl _) hb h)
  have HC := Lib.hid (fun W h => right_of nodeP k t n m s l A c W hb (nodeOk_all _ hb) h)
  have HR := Lib.hid hr
  obtain ⟨R, hR⟩ : ∃ R, plainV (.mk k t n m s l) = R := ⟨_, rfl⟩
  have HU : Hid (R = (rightP nodeP (.mk k t n m s l) && storedV (.mk k t n m s l))) := Lib.hid (by rw [← hR, plainV])
  rw [hR]
  generalize rightP nodeP (.mk k t n m s l) = g1 at *
  generalize storedV (.mk k t n m s l) = g2 at *
  clear hR hr
  go_enter Try.func19, Try.ntmps19
  go_wp2_with fail
  (with_reducible refine (HC.out _ (HR.out.allocs _)).mono ?_)
  rintro e w1 ⟨rfl, hb1⟩
  have B1 := Lib.hid (((Below.refl w.heap.size w).alloc (Nat.le_refl _) _).trans (hb1.mono (by simp)))
  have hX := (hb1.block w.heap.size (by simp)).trans (heap_alloc_new w (.cells #[.int .i64 k, .string t, .int .i64 n, .int .i64 m, .string s, .slice A l.length c] 28))
  have x0 : w1.cell? ⟨w.heap.size, 0, none⟩ = some (.int .i64 k) := by rw [Lib.cell_of_heap hX]; rfl
  have x1 : w1.cell? ⟨w.heap.size, 1, none⟩ = some (.string t) := by rw [Lib.cell_of_heap hX]; rfl
  have x2 : w1.cell? ⟨w.heap.size, 2, none⟩ = some (.int .i64 n) := by rw [Lib.cell_of_heap hX]; rfl
  have x3 : w1.cell? ⟨w.heap.size, 3, none⟩ = some (.int .i64 m) := by rw [Lib.cell_of_heap hX]; rfl
  have x4 : w1.cell? ⟨w.heap.size, 4, none⟩ = some (.string s) := by rw [Lib.cell_of_heap hX]; rfl
  have x5 : w1.cell? ⟨w.heap.size, 5, none⟩ = some (.slice A l.length c) := by rw [Lib.cell_of_heap hX]; rfl
  clear hb1 hX
  cases g1 with
  | false =>
    go_wp2_with fail
    go_ret
    exact ⟨by rw [HU.out]; rfl, B1.out⟩
  | true =>
    go_wp2_with fail
    (with_reducible refine (HS.out _ (HR.out.belows B1.out)).mono ?_)
    rintro e w2 ⟨rfl, hb2⟩
    have B2 := Lib.hid (B1.out.trans (hb2.mono B1.out.size))
    clear hb2
    go_wp2_with fail
    go_ret
    exact ⟨by rw [HU.out]; rfl, B2.out⟩
/-- an event that is written together with those of its kind that follow it -/
def groupedE (x : Ev) : Bool := (x.kind == 3) || ((x.kind == 2) && (x.n == 0))
theorem grouped_any (x : Ev) (A B : Option Addr) (c d : Nat) (w : World) : Calls Try.prog 23 #[.agg #[.int .i64 x.kind, .string x.path, .string x.msg, .slice A x.args.length c, .int .i64 x.ord, .int .i64 x.vk, .string x.vt, .int .i64 x.vn, .int .i64 x.vm, .string x.vx, .slice B x.vl.length d, .int .i64 x.n]] w fun e w' => e = .returned (.bool (groupedE x)) ∧ Below w.heap.size w w' := by
  obtain ⟨R, hR⟩ : ∃ R, groupedE x = R := ⟨_, rfl⟩
  have HU : Hid (R = ((x.kind == 3) || ((x.kind == 2) && (x.n == 0)))) := Lib.hid hR.symm
  rw [hR]
  clear hR
  cases h1 : (x.kind == 3) with
  | true =>
    rw [h1] at HU
    go_enter Try.func23, Try.ntmps23
    go_wp2_with fail
    go_ret
    exact ⟨by rw [HU.out]; rfl, (Below.refl _ _).alloc (Nat.le_refl _) _⟩
  | false =>
    rw [h1] at HU
    cases h2 : (x.kind == 2) with
    | false =>
      rw [h2] at HU
      go_enter Try.func23, Try.ntmps23
      go_wp2_with fail
      go_ret
      exact ⟨by rw [HU.out]; rfl, (Below.refl _ _).alloc (Nat.le_refl _) _⟩
    | true =>
      rw [h2] at HU
      go_enter Try.func23, Try.ntmps23
      go_wp2_with fail
      go_ret
      exact ⟨by rw [HU.out]; rfl, (Below.refl _ _).alloc (Nat.le_refl _) _⟩
end Go.Proofs.Ytlbmfgiepcemdaa
