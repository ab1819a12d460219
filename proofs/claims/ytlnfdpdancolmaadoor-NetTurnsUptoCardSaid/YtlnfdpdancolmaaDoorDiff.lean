/- net.Diff. Conditions: those in each statement. -/
import Derived.Test.YtlnfdpdancolmaaDoorEffects
namespace Go.Proofs.YtlnfdpdancolmaaDoor
open Go.RowKit

theorem bulkReq_append (a b : List Req) : bulkReq (a ++ b) = bulkReq a + bulkReq b := by unfold bulkReq; rw [List.map_append, List.sum_append]
theorem onlyTo_bulk (a b : List Req) : ∀ n, bulkReq (onlyTo a b n) ≤ bulkReq (a.take n)
  | 0 => by simp [onlyTo, bulkReq]
  | n + 1 => by
    have := onlyTo_bulk a b n
    rw [onlyTo_succ, List.take_add_one, bulkReq_append, bulkReq_append]
    split
    · have : bulkReq ([] : List Req) = 0 := rfl
      omega
    · omega
theorem onlyS_bulk (a b : List Req) : bulkReq (onlyS a b) ≤ bulkReq a := by
  have := onlyTo_bulk a b a.length
  rwa [List.take_length] at this
theorem onlyTo_mem (a b : List Req) (r : Req) : ∀ n, r ∈ onlyTo a b n → r ∈ a := by
  intro n h
  unfold onlyTo at h
  obtain ⟨i, _, hi⟩ := List.mem_filterMap.1 h
  split at hi
  · cases hi
  · exact List.mem_of_getElem? hi
def DiffPost (kf : Req → ByteArray) (a b : List Req) (w : World) (e : Ending) (w' : World) : Prop :=
  ∃ v1 v2, e = .returned (.tuple #[v1, v2]) ∧ Owned w.heap.size 45 5 (effS kf (onlyS a b)).length (rowsOut (effS kf (onlyS a b))) w' v1 ∧ Owned w.heap.size 45 5 (effS kf (onlyS b a)).length (rowsOut (effS kf (onlyS b a))) w' v2 ∧ Below w.heap.size w w'
theorem rd_slice {ok : Nat → Prop} {w : World} {l : List Req} {v : Value} (h : Rd ok w (slReq l) v) : ∃ A n c, v = .slice A n c := by
  obtain ⟨A, c, e, _⟩ := h.sl_inv
  exact ⟨A, _, c, e⟩

set_option maxHeartbeats 2000000 in
theorem diff_any (kf : Req → ByteArray) (l l' : List Req) (A : Option Addr) (n c : Nat) (A' : Option Addr) (n' c' : Nat) (w : World) (hb : bulkReq l ≤ 2097152) (hb' : bulkReq l' ≤ 2097152) (hK : ∀ r ∈ l, KeyOk kf r) (hK' : ∀ r ∈ l', KeyOk kf r) (hC : Compat kf)
    (hr : Rd (Lt w.heap.size) w (slReq l) (.slice A n c)) (hr' : Rd (Lt w.heap.size) w (slReq l') (.slice A' n' c')) (hR : Row32 w 0 64 kF) :
    Calls Tryd.prog 18 #[.slice A n c, .slice A' n' c'] w (DiffPost kf l l' w) := by
  have hw0 : 0 < w.heap.size := World.block_lt_of_cell? w _ (hR 0 (by omega))
  have H1 := Lib.hid (only_any kf l l' A n c A' n' c' w hb hb' hK hK' hC hr hr' hR)
  have H2 := Lib.hid (fun W h1 h2 h3 => only_any kf l' l A' n' c' A n c W hb' hb hK' hK hC h1 h2 h3)
  have H3 := Lib.hid (fun W A n c h1 h2 => effects_any kf (onlyS l l') A n c W (Nat.le_trans (onlyS_bulk l l') hb) (fun r hr => hK r (onlyTo_mem _ _ _ _ hr)) h1 h2)
  have H4 := Lib.hid (fun W A n c h1 h2 => effects_any kf (onlyS l' l) A n c W (Nat.le_trans (onlyS_bulk l' l) hb') (fun r hr => hK' r (onlyTo_mem _ _ _ _ hr)) h1 h2)
  have HR := Lib.hid hr
  have HR' := Lib.hid hr'
  have HRR := Lib.hid hR
  clear hr hr' hR hK hK' hC
  go_enter Tryd.func18, Tryd.ntmps18
  go_wp2_with fail
  (with_reducible refine H1.out.mono ?_)
  rintro e w1 ⟨v1, rfl, hr1, hb1⟩
  obtain ⟨A1, n1, c1, rfl⟩ := rd_slice hr1
  have HR1 := Lib.hid hr1
  have HB1 := Lib.hid hb1
  clear hr1 hb1
  go_wp2_with fail
  (with_reducible refine (H3.out w1 A1 n1 c1 HR1.out ?_).mono ?_)
  · exact HRR.out.below HB1.out hw0
  rintro e w2 ⟨v2, rfl, ho2, hb2⟩
  have HO2 := Lib.hid (ho2.lower HB1.out.size)
  have HB2 := Lib.hid (HB1.out.trans (hb2.mono HB1.out.size))
  clear ho2 hb2
  go_wp2_with fail
  (with_reducible refine (H2.out w2 ?_ ?_ ?_).mono ?_)
  · exact HR'.out.belows HB2.out
  · exact HR.out.belows HB2.out
  · exact HRR.out.below HB2.out hw0
  rintro e w3 ⟨v3, rfl, hr3, hb3⟩
  obtain ⟨A3, n3, c3, rfl⟩ := rd_slice hr3
  have HR3 := Lib.hid hr3
  have HO3 := Lib.hid (HO2.out.below hb3)
  have HB3 := Lib.hid (HB2.out.trans (hb3.mono HB2.out.size))
  clear hr3 hb3
  go_wp2_with fail
  (with_reducible refine (H4.out w3 A3 n3 c3 HR3.out ?_).mono ?_)
  · exact HRR.out.below HB3.out hw0
  rintro e w4 ⟨v4, rfl, ho4, hb4⟩
  have HO4 := Lib.hid (ho4.lower HB3.out.size)
  have HO5 := Lib.hid (HO3.out.below hb4)
  have HB4 := Lib.hid (HB3.out.trans (hb4.mono HB3.out.size))
  clear ho4 hb4
  go_wp2_with fail
  go_ret2
  exact ⟨v2, v4, rfl, HO5.out, HO4.out, HB4.out⟩
end Go.Proofs.YtlnfdpdancolmaaDoor
