/- ref12.node (the kinds 6 to 8; all of it; printed by wip/tools/gen_r12n.py). Conditions: those in each statement. -/
import Derived.Test.YtlnfdpdancolmaaDoorYR12N
import Derived.Test.YtlnfdpdancolmaaDoorYNode
namespace Go.Proofs.YtlnfdpdancolmaaDoor
open Go.RowKit

set_option maxHeartbeats 4000000 in
set_option maxRecDepth 100000 in
theorem rnode_k6 (t : ByteArray) (n m : Int) (s : ByteArray) (l : List V) (A : Option Addr) (c : Nat) (w : World) (ht : t.size ≤ 2097152) :
    Calls Tryd.prog 96 #[.agg #[.int .i64 6, .string t, .int .i64 n, .int .i64 m, .string s, .slice A l.length c]] w fun e w' => e = .returned (.bool (rnode6 t n m s l)) ∧ Below w.heap.size w w' := by
  have FIN : Hid (∀ x y : Obj, Below w.heap.size w ((w.alloc x).alloc y)) := Lib.hid (fun x y => ((Below.refl _ _).alloc (Nat.le_refl _) _).alloc (by simp) _)
  have HT := Lib.hid (fun W => rupper12 t W ht)
  go_enter Tryd.func96, Tryd.ntmps96
  go_wp2_with (first | (go_at_call 100; (with_reducible refine (HT.out _).mono ?_); rintro e w1 ⟨rfl, hb1⟩; obtain ⟨hc1, hf1⟩ := bcell hb1; have hz0 : w.heap.size < w1.heap.size := Nat.lt_of_lt_of_le (by simp; omega) hb1.size; have hz1 : w.heap.size + 1 < w1.heap.size := Nat.lt_of_lt_of_le (by simp) hb1.size; have HBU : Hid (Below w.heap.size w w1) := Lib.hid (Below.trans (by repeat (first | exact FIN.out _ _ | refine below_setCells _ (by simp) _ _ ?_ | refine Below.setCell ?_ (by simp) _)) (hb1.mono (by simp; omega))); clear hb1))
  all_goals
    go_ret
    refine ⟨?_, HBU.out⟩
    go_light
    first
      | (simp [rnode6, node6, *]; done)
      | (simp [rnode6, node6, *]; intros; omega)
set_option maxHeartbeats 4000000 in
set_option maxRecDepth 100000 in
theorem rnode_k7 (t : ByteArray) (n m : Int) (s : ByteArray) (l : List V) (A : Option Addr) (c : Nat) (w : World) (ht : t.size ≤ 2097152) :
    Calls Tryd.prog 96 #[.agg #[.int .i64 7, .string t, .int .i64 n, .int .i64 m, .string s, .slice A l.length c]] w fun e w' => e = .returned (.bool (rnode7 t n m s l)) ∧ Below w.heap.size w w' := by
  have FIN : Hid (∀ x y : Obj, Below w.heap.size w ((w.alloc x).alloc y)) := Lib.hid (fun x y => ((Below.refl _ _).alloc (Nat.le_refl _) _).alloc (by simp) _)
  have HT := Lib.hid (fun W => rupper12 t W ht)
  go_enter Tryd.func96, Tryd.ntmps96
  go_wp2_with (first | (go_at_call 100; (with_reducible refine (HT.out _).mono ?_); rintro e w1 ⟨rfl, hb1⟩; obtain ⟨hc1, hf1⟩ := bcell hb1; have hz0 : w.heap.size < w1.heap.size := Nat.lt_of_lt_of_le (by simp; omega) hb1.size; have hz1 : w.heap.size + 1 < w1.heap.size := Nat.lt_of_lt_of_le (by simp) hb1.size; have HBU : Hid (Below w.heap.size w w1) := Lib.hid (Below.trans (by repeat (first | exact FIN.out _ _ | refine below_setCells _ (by simp) _ _ ?_ | refine Below.setCell ?_ (by simp) _)) (hb1.mono (by simp; omega))); clear hb1))
  all_goals
    go_ret
    refine ⟨?_, HBU.out⟩
    go_light
    first
      | (simp [rnode7, node7, *]; done)
      | (simp [rnode7, node7, *]; intros; omega)
set_option maxHeartbeats 4000000 in
set_option maxRecDepth 100000 in
theorem rnode_k8 (t : ByteArray) (n m : Int) (s : ByteArray) (l : List V) (A : Option Addr) (c : Nat) (w : World) (ht : t.size ≤ 2097152) (hs : s.size ≤ 2097152) :
    Calls Tryd.prog 96 #[.agg #[.int .i64 8, .string t, .int .i64 n, .int .i64 m, .string s, .slice A l.length c]] w fun e w' => e = .returned (.bool (node8 t n m s l)) ∧ Below w.heap.size w w' := by
  have FIN : Hid (∀ x y : Obj, Below w.heap.size w ((w.alloc x).alloc y)) := Lib.hid (fun x y => ((Below.refl _ _).alloc (Nat.le_refl _) _).alloc (by simp) _)
  have HT := Lib.hid (fun W => rupper12 t W ht)
  have HP := Lib.hid (fun W => rpath_any s W hs)
  go_enter Tryd.func96, Tryd.ntmps96
  go_wp2_with (first | (go_at_call 100; (with_reducible refine (HT.out _).mono ?_); rintro e w1 ⟨rfl, hb1⟩; obtain ⟨hc1, hf1⟩ := bcell hb1; have hz0 : w.heap.size < w1.heap.size := Nat.lt_of_lt_of_le (by simp; omega) hb1.size; have hz1 : w.heap.size + 1 < w1.heap.size := Nat.lt_of_lt_of_le (by simp) hb1.size; have HBU : Hid (Below w.heap.size w w1) := Lib.hid (Below.trans (by repeat (first | exact FIN.out _ _ | refine below_setCells _ (by simp) _ _ ?_ | refine Below.setCell ?_ (by simp) _)) (hb1.mono (by simp; omega))); clear hb1) | (go_at_call 101; (with_reducible refine (HP.out _).mono ?_); rintro e w2 ⟨rfl, hb2⟩; obtain ⟨hc2, hf2⟩ := bcell hb2; have HBP : Hid (Below w.heap.size w w2) := Lib.hid (HBU.out.trans (hb2.mono HBU.out.size)); clear hb2))
  all_goals
    go_ret
    refine ⟨?_, by first | exact HBP.out | exact HBU.out⟩
    go_light
    first
      | (simp [node8, *]; done)
      | (simp [node8, *]; intros; omega)
theorem rnode_any (k : Int) (t : ByteArray) (n m : Int) (s : ByteArray) (l : List V) (A : Option Addr) (c : Nat) (w : World) (ht : t.size ≤ 2097152) (hs : s.size ≤ 2097152) :
    Calls Tryd.prog 96 #[.agg #[.int .i64 k, .string t, .int .i64 n, .int .i64 m, .string s, .slice A l.length c]] w fun e w' => e = .returned (.bool (rnodeP (.mk k t n m s l))) ∧ Below w.heap.size w w' := by
  by_cases h1 : k = 1
  · subst h1
    rw [show rnodeP (.mk 1 t n m s l) = node1 t n m s l from rfl]
    exact rnode_k1 t n m s l A c w
  by_cases h2 : k = 2
  · subst h2
    rw [show rnodeP (.mk 2 t n m s l) = node2 t n m s l from rfl]
    exact rnode_k2 t n m s l A c w
  by_cases h3 : k = 3
  · subst h3
    rw [show rnodeP (.mk 3 t n m s l) = node3 t n m s l from rfl]
    exact rnode_k3 t n m s l A c w
  by_cases h4 : k = 4
  · subst h4
    rw [show rnodeP (.mk 4 t n m s l) = node4 t n m s l from rfl]
    exact rnode_k4 t n m s l A c w
  by_cases h5 : k = 5
  · subst h5
    rw [show rnodeP (.mk 5 t n m s l) = node5 t n m s l from rfl]
    exact rnode_k5 t n m s l A c w
  by_cases h6 : k = 6
  · subst h6
    rw [show rnodeP (.mk 6 t n m s l) = rnode6 t n m s l from rfl]
    exact rnode_k6 t n m s l A c w ht
  by_cases h7 : k = 7
  · subst h7
    rw [show rnodeP (.mk 7 t n m s l) = rnode7 t n m s l from rfl]
    exact rnode_k7 t n m s l A c w ht
  by_cases h8 : k = 8
  · subst h8
    rw [show rnodeP (.mk 8 t n m s l) = node8 t n m s l from rfl]
    exact rnode_k8 t n m s l A c w ht hs
  by_cases h9 : k = 9
  · subst h9
    rw [show rnodeP (.mk 9 t n m s l) = rnode9 t n m s l from rfl]
    exact rnode_k9 t n m s l A c w
  by_cases h10 : k = 10
  · subst h10
    rw [show rnodeP (.mk 10 t n m s l) = node10 t n m s l from rfl]
    exact rnode_k10 t n m s l A c w
  rw [show rnodeP (.mk k t n m s l) = false by simp [rnodeP, h1, h2, h3, h4, h5, h6, h7, h8, h9, h10]]
  refine rnode_k0 k t n m s l A c w fun j h1 h2 => ?_
  simp only [beq_eq_false_iff_ne]
  omega
end Go.Proofs.YtlnfdpdancolmaaDoor
