/- event.runs: the iterator over the runs of grouped events. Conditions: those in each statement. -/
import Derived.Test.YtlbmfgiepcemdaaGreatYEvWrite
import Derived.Test.YtlbmfgiepcemdaaGreatYEvSameStored
import Derived.Lib.QuietBelowIn
import Derived.RangeFuncNested
import Derived.RangeFuncBound
import Derived.RangeFuncCalls
import Derived.RangeFuncLeaves
import Derived.Shelf.RegionOpen
import Derived.WalkKit
import Derived.OwnWalkIn
import Derived.TacticsInMore
import Derived.LoopNIn
import Derived.LoopIn
namespace Go.Proofs.YtlbmfgiepcemdaaGreat
open Go.RowKit Go.Sort Go.Shelf
attribute [local go_sem] Oper.semAt_some

/-- an event and the rows that its cells name -/
structure EvA where
  x : Ev
  A : Option Addr
  c : Nat
  C : Option Addr
  d : Nat
def EvA.at (ok : Nat → Prop) (w : World) (b o : Nat) (a : EvA) : Prop := EvAt ok w b o a.x a.A a.c a.C a.d
def joins (x y : Ev) : Bool := groupedE x && groupedE y && (y.kind == x.kind)
def spanA (x : Ev) : List EvA → Nat
  | [] => 0
  | y :: l => if joins x y.x then spanA x l + 1 else 0
def runsA : Nat → List EvA → List (EvA × Nat)
  | 0, _ => []
  | _ + 1, [] => []
  | F + 1, a :: l => (a, spanA a.x l + 1) :: runsA F (l.drop (spanA a.x l))
theorem spanA_le (x : Ev) : ∀ l : List EvA, spanA x l ≤ l.length
  | [] => Nat.le_refl _
  | y :: l => by
    have := spanA_le x l
    rw [spanA]
    split
    · rw [List.length_cons]; omega
    · exact Nat.zero_le _
/-- what a round of the loop over the runs keeps -/
def KpR (m Bs : Nat) (W W' : World) : Prop := Below m W W' ∧ W'.heap[Bs]? = W.heap[Bs]?
theorem KpR.refl (m Bs : Nat) (W : World) : KpR m Bs W W := ⟨Below.refl _ _, rfl⟩
theorem KpR.trans {m Bs : Nat} {A B C : World} (h : KpR m Bs A B) (k : KpR m Bs B C) : KpR m Bs A C := ⟨h.1.trans k.1, k.2.trans h.2⟩
theorem KpR.of_below {m Bs : Nat} {A B : World} (hm : m ≤ A.heap.size) (hB : Bs < A.heap.size) (h : Below A.heap.size A B) : KpR m Bs A B := ⟨h.mono hm, h.block Bs hB⟩
theorem kpR_b {m Bs : Nat} {w : World} (hm : m ≤ w.heap.size) (hB : Bs < w.heap.size) (W : World) (l : Nat) (o o' : Obj) (hl : w.heap.size ≤ l) (h : W.heap[l]? = some o) (h1 : o.isCells = false) (h2 : o.isWalk = false) : KpR m Bs W (W.putObj l o') :=
  ⟨belowK_b hm W l o o' hl h h1 h2, World.putObj_heap_other (by omega)⟩
theorem EvA.at_below {m : Nat} {w w' : World} {b o : Nat} {a : EvA} (hb : b < m) (h : a.at (Lt m) w b o) (hw : Below m w w') : a.at (Lt m) w' b o := by
  obtain ⟨p0, p1, p2, p3, p4, p5, p6, p7, p8, p9, p10, p11, r3, r10⟩ := h
  have k : ∀ {j : Nat} {v : Value}, w.cell? ⟨b, j, none⟩ = some v → w'.cell? ⟨b, j, none⟩ = some v := fun h => (hw.cell (p := ⟨b, _, none⟩) hb).trans h
  exact ⟨k p0, k p1, k p2, k p3, k p4, k p5, k p6, k p7, k p8, k p9, k p10, k p11, r3.below hw (fun _ h => h), r10.below hw (fun _ h => h)⟩
/-- the rows of a slice of events -/
theorem evAs_of {ok : Nat → Prop} {w : World} {b off : Nat} : ∀ (l : List Ev) (n : Nat), (∀ i x, l[i]? = some x → ∃ A3 c3, ∃ A10 c10, EvAt ok w b (off + (n + i) * 12) x A3 c3 A10 c10) →
    ∃ zs : List EvA, zs.map (·.x) = l ∧ ∀ (i : Nat) (a : EvA), zs[i]? = some a → a.at ok w b (off + (n + i) * 12)
  | [], _, _ => ⟨[], rfl, fun i a h => by simp at h⟩
  | x :: l, n, h => by
    obtain ⟨A3, c3, A10, c10, h0⟩ := h 0 x rfl
    obtain ⟨zs, h1, h2⟩ := evAs_of l (n + 1) (fun i y hy => by
      have := h (i + 1) y (by simpa using hy)
      rwa [show n + (i + 1) = n + 1 + i by omega] at this)
    refine ⟨⟨x, A3, c3, A10, c10⟩ :: zs, by simp [h1], fun i a hi => ?_⟩
    cases i with
    | zero => simp at hi; subst hi; exact h0
    | succ i =>
      have := h2 i a (by simpa using hi)
      rwa [show n + 1 + i = n + (i + 1) by omega] at this
theorem slEv_as {ok : Nat → Prop} {w : World} {l : List Ev} {A : Option Addr} {n c : Nat} (h : Rd ok w (slEv l) (.slice A n c)) : ∃ b off, ∃ zs : List EvA, zs.map (·.x) = l ∧ (0 < zs.length → A = some ⟨b, off, none⟩ ∧ ok b) ∧ ∀ (i : Nat) (a : EvA), zs[i]? = some a → a.at ok w b (off + i * 12) := by
  have hn := (slEv_len h).1
  by_cases h0 : n = 0
  · have : l = [] := List.length_eq_zero_iff.1 (by omega)
    subst this
    exact ⟨0, 0, [], rfl, fun h => absurd h (by simp), fun i a h => by simp at h⟩
  · obtain ⟨b, off, x0, e, hb, _, _⟩ := slEv_at h (i := 0) (by omega)
    obtain ⟨zs, h1, h2⟩ := evAs_of (b := b) (off := off) (ok := ok) (w := w) l 0 (fun i x hx => by
      have hi := (List.getElem?_eq_some_iff.1 hx).1
      obtain ⟨b', off', y, e', _, hy, r⟩ := slEv_at h (i := i) (by omega)
      rw [e] at e'
      cases e'
      rw [hx] at hy
      cases hy
      rw [Nat.zero_add]
      exact r)
    exact ⟨b, off, zs, h1, fun _ => ⟨e, hb⟩, fun i a hi => by have := h2 i a hi; rwa [Nat.zero_add] at this⟩
theorem drop_get {α : Type} {l : List α} {i : Nat} {a : α} (h : l[i]? = some a) : l.drop i = a :: l.drop (i + 1) := by
  obtain ⟨hi, rfl⟩ := List.getElem?_eq_some_iff.1 h
  exact List.drop_eq_getElem_cons hi

theorem span_none (x : Ev) (h : groupedE x = false) : ∀ l : List EvA, spanA x l = 0
  | [] => rfl
  | y :: l => by rw [spanA, joins, h]; rfl
theorem runs_next {zs : List EvA} {i j F : Nat} {a : EvA} (hg : zs[i]? = some a) (hF : 1 ≤ F) (hs : spanA a.x (zs.drop (i + 1)) = j) : runsA F (zs.drop i) = (a, j + 1) :: runsA (F - 1) (zs.drop (i + j + 1)) := by
  obtain ⟨F, rfl⟩ : ∃ F', F = F' + 1 := ⟨F - 1, by omega⟩
  rw [drop_get hg, runsA, hs, List.drop_drop, Nat.add_sub_cancel, show i + 1 + j = i + j + 1 by omega]
theorem span_end {zs : List EvA} {i j : Nat} {x : Ev} (hs : spanA x (zs.drop (i + 1)) = j + spanA x ((zs.drop (i + 1)).drop j)) (h : zs.length ≤ i + j + 1) : spanA x (zs.drop (i + 1)) = j := by
  rw [hs, List.drop_drop, List.drop_eq_nil_of_le (by omega)]; rfl
theorem span_stop {zs : List EvA} {i j : Nat} {x : Ev} {y : EvA} (hs : spanA x (zs.drop (i + 1)) = j + spanA x ((zs.drop (i + 1)).drop j)) (hy : zs[i + (j + 1)]? = some y) (h : joins x y.x = false) : spanA x (zs.drop (i + 1)) = j := by
  rw [hs, List.drop_drop, show i + 1 + j = i + (j + 1) by omega, drop_get hy, spanA, h]; rfl
theorem span_more {zs : List EvA} {i j : Nat} {x : Ev} {y : EvA} (hs : spanA x (zs.drop (i + 1)) = j + spanA x ((zs.drop (i + 1)).drop j)) (hy : zs[i + (j + 1)]? = some y) (h : joins x y.x = true) : spanA x (zs.drop (i + 1)) = (j + 1) + spanA x ((zs.drop (i + 1)).drop (j + 1)) := by
  have e := hs
  rw [List.drop_drop, show i + 1 + j = i + (j + 1) by omega, drop_get hy, spanA, h, if_pos rfl] at e
  rw [e, List.drop_drop, show i + 1 + (j + 1) = i + (j + 1) + 1 by omega]
  omega
theorem grownBy_of_below {w w' : World} (hb : Below w.heap.size w w') : w.grownBy w' none := ⟨hb.os, hb.tape, hb.output, hb.size, fun k hk _ => hb.block k hk⟩

set_option maxHeartbeats 4000000 in
set_option maxRecDepth 100000 in
theorem runs1_in (n : Nat) (hn : 1 ≤ n) (l m Bs b off cap : Nat) (A0 : Option Addr) (zs : List EvA) (hlen : zs.length ≤ 1048576) (hA : 0 < zs.length → A0 = some ⟨b, off, none⟩ ∧ b < m) (J Jx : List (EvA × Nat) → World → Prop)
    (hY : ∀ pre (x : EvA × Nat) W, x.1 ∈ zs → x.2 ≤ zs.length → J pre W → pre.length < zs.length → YieldAt Fence.wide (n - 1) Tryz.prog l #[.agg #[.int .i64 x.1.x.kind, .string x.1.x.path, .string x.1.x.msg, .slice x.1.A x.1.x.args.length x.1.c, .int .i64 x.1.x.ord, .int .i64 x.1.x.vk, .string x.1.x.vt, .int .i64 x.1.x.vn, .int .i64 x.1.x.vm, .string x.1.x.vx, .slice x.1.C x.1.x.vl.length x.1.d, .int .i64 x.1.x.n], .int .i64 x.2] W fun e W' =>
      (e = .returned (.bool true) ∧ J (pre ++ [x]) W' ∧ KpR m Bs W W') ∨ (e = .returned (.bool false) ∧ Jx (pre ++ [x]) W'))
    (W : World) (hJ : AbidesFrom W.heap.size J) (hm : m ≤ W.heap.size) (hBs : CellsAt W Bs #[.slice A0 zs.length cap] 22) (hat : ∀ (i : Nat) (a : EvA), zs[i]? = some a → a.at (Lt m) W b (off + i * 12)) (h0 : J [] W) :
    CallsIn Fence.wide n Tryz.prog 69 #[.func (.yield l) #[] #[], .pointer (some ⟨Bs, 0, none⟩)] W fun e W' => (∃ v, e = .returned v) ∧
      ((∃ ys, ys = runsA zs.length zs ∧ J ys W') ∨ (∃ pre, True ∧ Jx pre W')) := by
  have HY := Lib.hid hY
  have HAT := Lib.hid hat
  have HJA := Lib.hid hJ
  have HJ0 := Lib.hid h0
  have HBS := Lib.hid hBs
  clear hY hat hJ h0 hBs
  refine callsIn_of_wp Tryz.func69 rfl trivial ?_ rfl
  simp only [Tryz.ntmps69, List.size_toArray, List.length_cons, List.length_nil, Nat.reduceAdd, Nat.reduceSub, Array.replicate_succ, Array.replicate_zero, List.push_toArray, List.append_toArray, List.nil_append, List.cons_append]
  gi_wp2
  gi_loopw [3] (fun s3 wr => ∃ (i F : Nat) (pre : List (EvA × Nat)), i ≤ zs.length ∧ s3 = .int .i64 i ∧ zs.length - i ≤ F ∧ pre.length ≤ i ∧ Hid (pre ++ runsA F (zs.drop i) = runsA zs.length zs) ∧ Hid (J pre wr) ∧ Hid (KpR m Bs W wr) ∧ W.heap.size ≤ wr.heap.size) (fun s3 _ => zs.length - (intOf s3).toNat)
  case atStart => exact ⟨0, zs.length, [], by omega, rfl, by omega, by simp, Lib.hid (by simp), HJ0, Lib.hid (KpR.refl _ _ _), Nat.le_refl _⟩
  case round =>
    obtain ⟨i, F, pre, hi, rfl, hF, hpl, HE, HJ, HK, hsz⟩ := hrel
    have HBW : Hid (CellsAt wr Bs #[.slice A0 zs.length cap] 22) := Lib.hid (HK.out.2.trans HBS.out)
    have s0 : wr.cell? ⟨Bs, 0, none⟩ = some (.slice A0 zs.length cap) := by rw [HBW.out.cell]; rfl
    by_cases hlt : i < zs.length
    · obtain ⟨rfl, hb⟩ := hA (by omega)
      have hget : zs[i]? = some zs[i] := List.getElem?_eq_getElem hlt
      obtain ⟨a, ha⟩ : ∃ a, zs[i] = a := ⟨_, rfl⟩
      rw [ha] at hget
      have HG := Lib.hid hget
      clear hget ha
      gi_wp2
      gi_loopw [4] (fun s4 wr => ∃ j : Nat, i + j < zs.length ∧ s4 = .int .i64 ((j + 1 : Nat) : Int) ∧ Hid (spanA a.x (zs.drop (i + 1)) = j + spanA a.x ((zs.drop (i + 1)).drop j)) ∧ Hid (J pre wr) ∧ Hid (KpR m Bs W wr) ∧ W.heap.size ≤ wr.heap.size) (fun s4 _ => zs.length - (intOf s4).toNat)
      case atStart => exact ⟨0, by omega, rfl, Lib.hid (by simp), HJ, HK, hsz⟩
      case round =>
        rename World => wo
        obtain ⟨j, hj, rfl, HS, HJi, HKi, hszi⟩ := hrel
        have HBWi : Hid (CellsAt wo Bs #[.slice (some ⟨b, off, none⟩) zs.length cap] 22) := Lib.hid (HKi.out.2.trans HBS.out)
        have s1 : wo.cell? ⟨Bs, 0, none⟩ = some (.slice (some ⟨b, off, none⟩) zs.length cap) := by rw [HBWi.out.cell]; rfl
        obtain ⟨p0, p1, p2, p3, p4, p5, p6, p7, p8, p9, p10, p11, rp3, rp10⟩ := EvA.at_below hb (HAT.out i a HG.out) HKi.out.1
        have hin : (i : Int) < zs.length := by omega
        have M0 := fun d os => cell_regrown s1 d os
        have m0 := fun d os => cell_regrown p0 d os
        have m1 := fun d os => cell_regrown p1 d os
        have m2 := fun d os => cell_regrown p2 d os
        have m3 := fun d os => cell_regrown p3 d os
        have m4 := fun d os => cell_regrown p4 d os
        have m5 := fun d os => cell_regrown p5 d os
        have m6 := fun d os => cell_regrown p6 d os
        have m7 := fun d os => cell_regrown p7 d os
        have m8 := fun d os => cell_regrown p8 d os
        have m9 := fun d os => cell_regrown p9 d os
        have m10 := fun d os => cell_regrown p10 d os
        have m11 := fun d os => cell_regrown p11 d os
        clear p0 p1 p2 p3 p4 p5 p6 p7 p8 p9 p10 p11 rp3 rp10
        have K0 := Lib.hid (fun d os => Calls.regrown_of (grouped_any a.x a.A a.C a.c a.d (grow (redrawn wo d) os)))
        obtain ⟨g, hg⟩ : ∃ g, groupedE a.x = g := ⟨_, rfl⟩
        rw [hg] at K0
        have HGA := Lib.hid hg
        clear hg
        cases g with
        | false =>
          gi_wp2
          refine wpIn_wide.2 (wp_region_quiet_below (by kernel_rfl) (by kernel_rfl) ?_)
          repeat (go_big_quiet_step (first | with_reducible exact K0.out _ _))
          have HSP : Hid (spanA a.x (zs.drop (i + 1)) = j) := Lib.hid (by rw [span_none _ HGA.out] at HS ⊢; have := HS.out; rw [span_none _ HGA.out] at this; omega)
          refine wpQuiet_nil ?_
          intro _ hw'
          obtain ⟨⟨dq, osq⟩, hw''⟩ := hw'
          subst hw''
          clear M0 m0 m1 m2 m3 m4 m5 m6 m7 m8 m9 m10 m11 K0
          have hb1 := below_regrown wo dq osq
          obtain ⟨w1, hw1⟩ : ∃ w1, grow (redrawn wo dq) osq = w1 := ⟨_, rfl⟩
          rw [hw1] at hb1 ⊢
          have HJ1 : Hid (J pre w1) := Lib.hid (HJA.out pre wo w1 none HJi.out (grownBy_of_below hb1) (by intro r h; cases h))
          have HK1 := Lib.hid (HKi.out.trans (KpR.of_below (by omega) HBWi.out.lt hb1))
          have hsz1 : W.heap.size ≤ w1.heap.size := Nat.le_trans hszi hb1.size
          clear HJi HKi hw1 hb1 HBWi s1
          have HBW1 : Hid (CellsAt w1 Bs #[.slice (some ⟨b, off, none⟩) zs.length cap] 22) := Lib.hid (HK1.out.2.trans HBS.out)
          have t1 : w1.cell? ⟨Bs, 0, none⟩ = some (.slice (some ⟨b, off, none⟩) zs.length cap) := by rw [HBW1.out.cell]; rfl
          obtain ⟨q0, q1, q2, q3, q4, q5, q6, q7, q8, q9, q10, q11, rq3, rq10⟩ := EvA.at_below hb (HAT.out i a HG.out) HK1.out.1
          obtain ⟨fn, tmps, assign, body, hy, hR⟩ := HY.out pre (a, j + 1) w1 (List.mem_of_getElem? HG.out) (by show j + 1 ≤ zs.length; omega) HJ1.out (by omega)
          dsimp only at hy
          rw [show (((j + 1 : Nat)) : Int) = (j : Int) + 1 by omega] at hy
          have HRR := Lib.hid hR
          have HEN : Hid (pre ++ [(a, j + 1)] ++ runsA (F - 1) (zs.drop (i + j + 1)) = runsA zs.length zs) := Lib.hid (by rw [← HE.out, runs_next HG.out (by omega) HSP.out]; simp)
          clear hR rq3 rq10 HE HS HSP
          gi_wp2
          refine HRR.out.mono ?_
          rintro e W3 (⟨rfl, hJ3, hk3⟩ | ⟨rfl, hJx3⟩)
          · have HK3 := Lib.hid (HK1.out.trans hk3)
            have hsz3 : W.heap.size ≤ W3.heap.size := Nat.le_trans hsz1 hk3.1.size
            have HJ3 := Lib.hid hJ3
            clear hJ3 hk3 q0 q1 q2 q3 q4 q5 q6 q7 q8 q9 q10 q11 hy HRR
            gi_wp2
            go_roundw
            case rel => exact ⟨i + j + 1, F - 1, pre ++ [(a, j + 1)], by omega, by go_num, by omega, by simp; omega, HEN, HJ3, HK3, hsz3⟩
            case measure => simp [intOf]; omega
          · have HJX := Lib.hid hJx3
            clear hJx3
            gi_wp2
            refine bodyPost_ret (results_none rfl _ _ _) rfl ?_
            exact ⟨⟨_, rfl⟩, .inr ⟨_, trivial, HJX.out⟩⟩
        | true =>
          by_cases hl2 : i + (j + 1) < zs.length
          · have hy2 : zs[i + (j + 1)]? = some zs[i + (j + 1)] := List.getElem?_eq_getElem hl2
            obtain ⟨y, hye⟩ : ∃ y, zs[i + (j + 1)] = y := ⟨_, rfl⟩
            rw [hye] at hy2
            have HY2 := Lib.hid hy2
            clear hy2 hye
            obtain ⟨y0, y1, y2, y3, y4, y5, y6, y7, y8, y9, y10, y11, ry3, ry10⟩ := EvA.at_below hb (HAT.out (i + (j + 1)) y HY2.out) HKi.out.1
            have n0 := fun d os => cell_regrown y0 d os
            have n1 := fun d os => cell_regrown y1 d os
            have n2 := fun d os => cell_regrown y2 d os
            have n3 := fun d os => cell_regrown y3 d os
            have n4 := fun d os => cell_regrown y4 d os
            have n5 := fun d os => cell_regrown y5 d os
            have n6 := fun d os => cell_regrown y6 d os
            have n7 := fun d os => cell_regrown y7 d os
            have n8 := fun d os => cell_regrown y8 d os
            have n9 := fun d os => cell_regrown y9 d os
            have n10 := fun d os => cell_regrown y10 d os
            have n11 := fun d os => cell_regrown y11 d os
            clear y0 y1 y2 y3 y4 y5 y6 y7 y8 y9 y10 y11 ry3 ry10
            have K1 := Lib.hid (fun d os => Calls.regrown_of (grouped_any y.x y.A y.C y.c y.d (grow (redrawn wo d) os)))
            have hl3 : (i : Int) + ((j : Int) + 1) < zs.length := by omega
            have hl4 : (0 : Int) ≤ (i : Int) + ((j : Int) + 1) := by omega
            have hl5 : ((i : Int) + ((j : Int) + 1)).toNat = i + (j + 1) := by omega
            obtain ⟨g2, hg2⟩ : ∃ g2, groupedE y.x = g2 := ⟨_, rfl⟩
            rw [hg2] at K1
            have HG2 := Lib.hid hg2
            clear hg2
            cases g2 with
            | false =>
              gi_wp2
              refine wpIn_wide.2 (wp_region_quiet_below (by kernel_rfl) (by kernel_rfl) ?_)
              repeat (go_big_quiet_step (first | with_reducible exact K0.out _ _ | with_reducible exact K1.out _ _))
              have HSP : Hid (spanA a.x (zs.drop (i + 1)) = j) := Lib.hid (span_stop HS.out HY2.out (by unfold joins; rw [HG2.out]; simp))
              refine wpQuiet_nil ?_
              intro _ hw'
              obtain ⟨⟨dq, osq⟩, hw''⟩ := hw'
              subst hw''
              clear M0 m0 m1 m2 m3 m4 m5 m6 m7 m8 m9 m10 m11 K0 K1 n0 n1 n2 n3 n4 n5 n6 n7 n8 n9 n10 n11
              have hb1 := below_regrown wo dq osq
              obtain ⟨w1, hw1⟩ : ∃ w1, grow (redrawn wo dq) osq = w1 := ⟨_, rfl⟩
              rw [hw1] at hb1 ⊢
              have HJ1 : Hid (J pre w1) := Lib.hid (HJA.out pre wo w1 none HJi.out (grownBy_of_below hb1) (by intro r h; cases h))
              have HK1 := Lib.hid (HKi.out.trans (KpR.of_below (by omega) HBWi.out.lt hb1))
              have hsz1 : W.heap.size ≤ w1.heap.size := Nat.le_trans hszi hb1.size
              clear HJi HKi hw1 hb1 HBWi s1
              have HBW1 : Hid (CellsAt w1 Bs #[.slice (some ⟨b, off, none⟩) zs.length cap] 22) := Lib.hid (HK1.out.2.trans HBS.out)
              have t1 : w1.cell? ⟨Bs, 0, none⟩ = some (.slice (some ⟨b, off, none⟩) zs.length cap) := by rw [HBW1.out.cell]; rfl
              obtain ⟨q0, q1, q2, q3, q4, q5, q6, q7, q8, q9, q10, q11, rq3, rq10⟩ := EvA.at_below hb (HAT.out i a HG.out) HK1.out.1
              obtain ⟨fn, tmps, assign, body, hy, hR⟩ := HY.out pre (a, j + 1) w1 (List.mem_of_getElem? HG.out) (by show j + 1 ≤ zs.length; omega) HJ1.out (by omega)
              dsimp only at hy
              rw [show (((j + 1 : Nat)) : Int) = (j : Int) + 1 by omega] at hy
              have HRR := Lib.hid hR
              have HEN : Hid (pre ++ [(a, j + 1)] ++ runsA (F - 1) (zs.drop (i + j + 1)) = runsA zs.length zs) := Lib.hid (by rw [← HE.out, runs_next HG.out (by omega) HSP.out]; simp)
              clear hR rq3 rq10 HE HS HSP
              gi_wp2
              refine HRR.out.mono ?_
              rintro e W3 (⟨rfl, hJ3, hk3⟩ | ⟨rfl, hJx3⟩)
              · have HK3 := Lib.hid (HK1.out.trans hk3)
                have hsz3 : W.heap.size ≤ W3.heap.size := Nat.le_trans hsz1 hk3.1.size
                have HJ3 := Lib.hid hJ3
                clear hJ3 hk3 q0 q1 q2 q3 q4 q5 q6 q7 q8 q9 q10 q11 hy HRR
                gi_wp2
                go_roundw
                case rel => exact ⟨i + j + 1, F - 1, pre ++ [(a, j + 1)], by omega, by go_num, by omega, by simp; omega, HEN, HJ3, HK3, hsz3⟩
                case measure => simp [intOf]; omega
              · have HJX := Lib.hid hJx3
                clear hJx3
                gi_wp2
                refine bodyPost_ret (results_none rfl _ _ _) rfl ?_
                exact ⟨⟨_, rfl⟩, .inr ⟨_, trivial, HJX.out⟩⟩
            | true =>
              obtain ⟨g3, hg3⟩ : ∃ g3, (y.x.kind == a.x.kind) = g3 := ⟨_, rfl⟩
              have HG3 := Lib.hid hg3
              cases g3 with
              | false =>
                gi_wp2
                refine wpIn_wide.2 (wp_region_quiet_below (by kernel_rfl) (by kernel_rfl) ?_)
                repeat (go_big_quiet_step (first | with_reducible exact K0.out _ _ | with_reducible exact K1.out _ _))
                have HSP : Hid (spanA a.x (zs.drop (i + 1)) = j) := Lib.hid (span_stop HS.out HY2.out (by unfold joins; rw [HG3.out]; simp))
                refine wpQuiet_nil ?_
                intro _ hw'
                obtain ⟨⟨dq, osq⟩, hw''⟩ := hw'
                subst hw''
                clear M0 m0 m1 m2 m3 m4 m5 m6 m7 m8 m9 m10 m11 K0 K1 n0 n1 n2 n3 n4 n5 n6 n7 n8 n9 n10 n11
                have hb1 := below_regrown wo dq osq
                obtain ⟨w1, hw1⟩ : ∃ w1, grow (redrawn wo dq) osq = w1 := ⟨_, rfl⟩
                rw [hw1] at hb1 ⊢
                have HJ1 : Hid (J pre w1) := Lib.hid (HJA.out pre wo w1 none HJi.out (grownBy_of_below hb1) (by intro r h; cases h))
                have HK1 := Lib.hid (HKi.out.trans (KpR.of_below (by omega) HBWi.out.lt hb1))
                have hsz1 : W.heap.size ≤ w1.heap.size := Nat.le_trans hszi hb1.size
                clear HJi HKi hw1 hb1 HBWi s1
                have HBW1 : Hid (CellsAt w1 Bs #[.slice (some ⟨b, off, none⟩) zs.length cap] 22) := Lib.hid (HK1.out.2.trans HBS.out)
                have t1 : w1.cell? ⟨Bs, 0, none⟩ = some (.slice (some ⟨b, off, none⟩) zs.length cap) := by rw [HBW1.out.cell]; rfl
                obtain ⟨q0, q1, q2, q3, q4, q5, q6, q7, q8, q9, q10, q11, rq3, rq10⟩ := EvA.at_below hb (HAT.out i a HG.out) HK1.out.1
                obtain ⟨fn, tmps, assign, body, hy, hR⟩ := HY.out pre (a, j + 1) w1 (List.mem_of_getElem? HG.out) (by show j + 1 ≤ zs.length; omega) HJ1.out (by omega)
                dsimp only at hy
                rw [show (((j + 1 : Nat)) : Int) = (j : Int) + 1 by omega] at hy
                have HRR := Lib.hid hR
                have HEN : Hid (pre ++ [(a, j + 1)] ++ runsA (F - 1) (zs.drop (i + j + 1)) = runsA zs.length zs) := Lib.hid (by rw [← HE.out, runs_next HG.out (by omega) HSP.out]; simp)
                clear hR rq3 rq10 HE HS HSP
                gi_wp2
                refine HRR.out.mono ?_
                rintro e W3 (⟨rfl, hJ3, hk3⟩ | ⟨rfl, hJx3⟩)
                · have HK3 := Lib.hid (HK1.out.trans hk3)
                  have hsz3 : W.heap.size ≤ W3.heap.size := Nat.le_trans hsz1 hk3.1.size
                  have HJ3 := Lib.hid hJ3
                  clear hJ3 hk3 q0 q1 q2 q3 q4 q5 q6 q7 q8 q9 q10 q11 hy HRR
                  gi_wp2
                  go_roundw
                  case rel => exact ⟨i + j + 1, F - 1, pre ++ [(a, j + 1)], by omega, by go_num, by omega, by simp; omega, HEN, HJ3, HK3, hsz3⟩
                  case measure => simp [intOf]; omega
                · have HJX := Lib.hid hJx3
                  clear hJx3
                  gi_wp2
                  refine bodyPost_ret (results_none rfl _ _ _) rfl ?_
                  exact ⟨⟨_, rfl⟩, .inr ⟨_, trivial, HJX.out⟩⟩
              | true =>
                gi_wp2
                refine wpIn_wide.2 (wp_region_quiet_below (by kernel_rfl) (by kernel_rfl) ?_)
                repeat (go_big_quiet_step (first | with_reducible exact K0.out _ _ | with_reducible exact K1.out _ _))
                have HSN := Lib.hid (span_more HS.out HY2.out (by unfold joins; rw [HGA.out, HG2.out, HG3.out]; rfl))
                refine wpQuiet_nil ?_
                intro _ hw'
                obtain ⟨⟨dq, osq⟩, hw''⟩ := hw'
                subst hw''
                clear M0 m0 m1 m2 m3 m4 m5 m6 m7 m8 m9 m10 m11 K0 K1 n0 n1 n2 n3 n4 n5 n6 n7 n8 n9 n10 n11
                have hb1 := below_regrown wo dq osq
                obtain ⟨w1, hw1⟩ : ∃ w1, grow (redrawn wo dq) osq = w1 := ⟨_, rfl⟩
                rw [hw1] at hb1 ⊢
                have HJ1 : Hid (J pre w1) := Lib.hid (HJA.out pre wo w1 none HJi.out (grownBy_of_below hb1) (by intro r h; cases h))
                have HK1 := Lib.hid (HKi.out.trans (KpR.of_below (by omega) HBWi.out.lt hb1))
                have hsz1 : W.heap.size ≤ w1.heap.size := Nat.le_trans hszi hb1.size
                clear HJi HKi hw1 hb1 HBWi s1
                gi_wp2
                go_roundw
                case rel => exact ⟨j + 1, by omega, by go_num, HSN, HJ1, HK1, hsz1⟩
                case measure => simp [intOf]; omega
          · have hl3 : decide ((i : Int) + ((j : Int) + 1) < (zs.length : Int)) = false := by rw [decide_eq_false_iff_not]; omega
            gi_wp2
            refine wpIn_wide.2 (wp_region_quiet_below (by kernel_rfl) (by kernel_rfl) ?_)
            repeat (go_big_quiet_step (first | with_reducible exact K0.out _ _))
            have HSP : Hid (spanA a.x (zs.drop (i + 1)) = j) := Lib.hid (span_end HS.out (by omega))
            refine wpQuiet_nil ?_
            intro _ hw'
            obtain ⟨⟨dq, osq⟩, hw''⟩ := hw'
            subst hw''
            clear M0 m0 m1 m2 m3 m4 m5 m6 m7 m8 m9 m10 m11 K0
            have hb1 := below_regrown wo dq osq
            obtain ⟨w1, hw1⟩ : ∃ w1, grow (redrawn wo dq) osq = w1 := ⟨_, rfl⟩
            rw [hw1] at hb1 ⊢
            have HJ1 : Hid (J pre w1) := Lib.hid (HJA.out pre wo w1 none HJi.out (grownBy_of_below hb1) (by intro r h; cases h))
            have HK1 := Lib.hid (HKi.out.trans (KpR.of_below (by omega) HBWi.out.lt hb1))
            have hsz1 : W.heap.size ≤ w1.heap.size := Nat.le_trans hszi hb1.size
            clear HJi HKi hw1 hb1 HBWi s1
            have HBW1 : Hid (CellsAt w1 Bs #[.slice (some ⟨b, off, none⟩) zs.length cap] 22) := Lib.hid (HK1.out.2.trans HBS.out)
            have t1 : w1.cell? ⟨Bs, 0, none⟩ = some (.slice (some ⟨b, off, none⟩) zs.length cap) := by rw [HBW1.out.cell]; rfl
            obtain ⟨q0, q1, q2, q3, q4, q5, q6, q7, q8, q9, q10, q11, rq3, rq10⟩ := EvA.at_below hb (HAT.out i a HG.out) HK1.out.1
            obtain ⟨fn, tmps, assign, body, hy, hR⟩ := HY.out pre (a, j + 1) w1 (List.mem_of_getElem? HG.out) (by show j + 1 ≤ zs.length; omega) HJ1.out (by omega)
            dsimp only at hy
            rw [show (((j + 1 : Nat)) : Int) = (j : Int) + 1 by omega] at hy
            have HRR := Lib.hid hR
            have HEN : Hid (pre ++ [(a, j + 1)] ++ runsA (F - 1) (zs.drop (i + j + 1)) = runsA zs.length zs) := Lib.hid (by rw [← HE.out, runs_next HG.out (by omega) HSP.out]; simp)
            clear hR rq3 rq10 HE HS HSP
            gi_wp2
            refine HRR.out.mono ?_
            rintro e W3 (⟨rfl, hJ3, hk3⟩ | ⟨rfl, hJx3⟩)
            · have HK3 := Lib.hid (HK1.out.trans hk3)
              have hsz3 : W.heap.size ≤ W3.heap.size := Nat.le_trans hsz1 hk3.1.size
              have HJ3 := Lib.hid hJ3
              clear hJ3 hk3 q0 q1 q2 q3 q4 q5 q6 q7 q8 q9 q10 q11 hy HRR
              gi_wp2
              go_roundw
              case rel => exact ⟨i + j + 1, F - 1, pre ++ [(a, j + 1)], by omega, by go_num, by omega, by simp; omega, HEN, HJ3, HK3, hsz3⟩
              case measure => simp [intOf]; omega
            · have HJX := Lib.hid hJx3
              clear hJx3
              gi_wp2
              refine bodyPost_ret (results_none rfl _ _ _) rfl ?_
              exact ⟨⟨_, rfl⟩, .inr ⟨_, trivial, HJX.out⟩⟩
    · obtain rfl : i = zs.length := by omega
      have HFIN : Hid (pre = runsA zs.length zs) := Lib.hid (by have := HE.out; rw [List.drop_length] at this; rw [← this]; cases F <;> simp [runsA])
      gi_wp2
      go_end0
      exact ⟨⟨_, rfl⟩, .inl ⟨_, HFIN.out, HJ.out⟩⟩
end Go.Proofs.YtlbmfgiepcemdaaGreat
