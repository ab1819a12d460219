/- The methods of code.Reader. Conditions: those in each statement. -/
import Derived.Test.YtlbmfgiepcemdaaChg
import Derived.Test.YtlbmfgiepcemdaaEnc
namespace Go.Proofs.Ytlbmfgiepcemdaa
open Go.RowKit

theorem open_any (s : ByteArray) (w : World) : Calls Try.prog 11 #[.string s] w fun e w' => e = .returned (.pointer (some ⟨w.heap.size, 0, none⟩)) ∧ Below w.heap.size w w' ∧ RdrAt w' w.heap.size ⟨s, false⟩ := by
  go_enter Try.func11, Try.ntmps11
  go_wp2_with fail
  go_ret
  exact ⟨rfl, (Below.refl _ _).alloc (Nat.le_refl _) _, heap_alloc_new w _⟩

theorem fail_any (b : Nat) (r : RS) (w : World) (h : RdrAt w b r) : Calls Try.prog 33 #[.pointer (some ⟨b, 0, none⟩)] w (RPost b RS.bad (.tuple #[]) w) := by
  have c0 := h.c0
  have c1 := h.c1
  have f0 := h.fz
  have H := Lib.hid h
  clear h
  go_enter Try.func33, Try.ntmps33
  go_wp2_with fail
  exact bodyPost_ret (v := .tuple #[]) (by simp [results, Try.results33, go_sem]) rfl ⟨rfl, ((Chg.refl (fun k => k = b) w).setCell (p := ⟨b, 0, none⟩) (.inl rfl) _).setCell (p := ⟨b, 1, none⟩) (.inl rfl) _, (H.out.set0 ⟨#[]⟩).set1 true⟩

theorem left_any (b : Nat) (r : RS) (w : World) (h : RdrAt w b r) : Calls Try.prog 46 #[.pointer (some ⟨b, 0, none⟩)] w fun e w' => e = .returned (.int .i64 r.s.size) ∧ w = w' := by
  have c0 := h.c0
  clear h
  go_enter Try.func46, Try.ntmps46
  go_wp2_with fail
  go_ret
  exact ⟨rfl, rfl⟩
def doneB (r : RS) : Bool := !r.f && r.s.toList.isEmpty
theorem done_any (b : Nat) (r : RS) (w : World) (h : RdrAt w b r) : Calls Try.prog 27 #[.pointer (some ⟨b, 0, none⟩)] w fun e w' => e = .returned (.bool (doneB r)) ∧ w = w' := by
  have c0 := h.c0
  have c1 := h.c1
  clear h
  obtain ⟨s, f⟩ := r
  unfold doneB
  cases f with
  | true =>
    go_enter Try.func27, Try.ntmps27
    go_wp2_with fail
    go_ret
    exact ⟨rfl, rfl⟩
  | false =>
    go_enter Try.func27, Try.ntmps27
    go_wp2_with fail
    go_ret
    exact ⟨by simp, rfl⟩
def takeS (r : RS) (n : Int) : ByteArray := if r.f = true ∨ n < 0 ∨ (r.s.size : Int) < n then ⟨#[]⟩ else r.s.extract 0 n.toNat
def takeR (r : RS) (n : Int) : RS := if r.f = true ∨ n < 0 ∨ (r.s.size : Int) < n then RS.bad else ⟨r.s.extract n.toNat r.s.size, false⟩
theorem take_any (b : Nat) (r : RS) (n : Int) (w : World) (h : RdrAt w b r) (hs : r.s.size ≤ 4294967296) : Calls Try.prog 29 #[.pointer (some ⟨b, 0, none⟩), .int .i64 n] w (RPost b (takeR r n) (.string (takeS r n)) w) := by
  have c0 := h.c0
  have c1 := h.c1
  have f0 := h.fz
  have HF := Lib.hid (fail_any b r w h)
  have H := Lib.hid h
  clear h
  obtain ⟨s, f⟩ := r
  cases f with
  | true =>
    have HT : Hid (takeR ⟨s, true⟩ n = RS.bad ∧ takeS ⟨s, true⟩ n = ⟨#[]⟩) := Lib.hid (by unfold takeR takeS; simp)
    go_enter Try.func29, Try.ntmps29
    go_wp2_with fail
    (with_reducible refine HF.out.mono ?_)
    rintro e w1 ⟨rfl, hc, hr⟩
    have HC := Lib.hid hc
    have HR := Lib.hid hr
    clear hc hr
    go_wp2_with fail
    go_ret
    rw [HT.out.1, HT.out.2]
    exact ⟨rfl, HC.out, HR.out⟩
  | false =>
    by_cases h0 : n < 0
    · have HT : Hid (takeR ⟨s, false⟩ n = RS.bad ∧ takeS ⟨s, false⟩ n = ⟨#[]⟩) := Lib.hid (by unfold takeR takeS; simp [h0])
      go_enter Try.func29, Try.ntmps29
      go_wp2_with fail
      (with_reducible refine HF.out.mono ?_)
      rintro e w1 ⟨rfl, hc, hr⟩
      have HC := Lib.hid hc
      have HR := Lib.hid hr
      clear hc hr
      go_wp2_with fail
      go_ret
      rw [HT.out.1, HT.out.2]
      exact ⟨rfl, HC.out, HR.out⟩
    · by_cases h1 : (s.size : Int) < n
      · have HT : Hid (takeR ⟨s, false⟩ n = RS.bad ∧ takeS ⟨s, false⟩ n = ⟨#[]⟩) := Lib.hid (by unfold takeR takeS; simp [h0, h1])
        have hd : decide ((s.size : Int) < n) = true := by simpa using h1
        go_enter Try.func29, Try.ntmps29
        go_wp2_with fail
        (with_reducible refine HF.out.mono ?_)
        rintro e w1 ⟨rfl, hc, hr⟩
        have HC := Lib.hid hc
        have HR := Lib.hid hr
        clear hc hr
        go_wp2_with fail
        go_ret
        rw [HT.out.1, HT.out.2]
        exact ⟨rfl, HC.out, HR.out⟩
      · obtain ⟨k, rfl⟩ : ∃ k : Nat, n = (k : Int) := ⟨n.toNat, by omega⟩
        have hk : k ≤ s.size := by omega
        have HT : Hid (takeR ⟨s, false⟩ (k : Int) = ⟨s.extract k s.size, false⟩ ∧ takeS ⟨s, false⟩ (k : Int) = s.extract 0 k) := Lib.hid (by unfold takeR takeS; simp [h0, h1])
        have hd : decide ((s.size : Int) < (k : Int)) = false := by simpa using h1
        clear HF
        go_enter Try.func29, Try.ntmps29
        go_wp2_with fail
        go_ret
        rw [HT.out.1, HT.out.2]
        exact ⟨rfl, (Chg.refl (fun k => k = b) w).setCell (p := ⟨b, 0, none⟩) (.inl rfl) _, H.out.set0 _⟩
end Go.Proofs.Ytlbmfgiepcemdaa
