/- ref23.none. Conditions: those in each statement. ref23.Right as a plain function: it is event.Right's. No walk here. ref23.Right: it comes to what event.Right comes to. Conditions: those in each statement. -/
import Derived.Test.YtlbmfgiepcemdaaGreatYR12OR23IR23L
import Derived.Test.YtlbmfgiepcemdaaGreatYRefSameEvRSame
namespace Go.Proofs.YtlbmfgiepcemdaaGreat
open Go.RowKit Go.Sort

def zeroV : V := .mk 0 ⟨#[]⟩ 0 0 ⟨#[]⟩ []
def noneE (x : Ev) : Bool := eqV x.val zeroV && (x.path.toList.isEmpty && (x.msg.toList.isEmpty && (((x.args.length : Int) == 0) && (x.ord == 0))))
set_option maxHeartbeats 4000000 in
set_option maxRecDepth 100000 in
theorem none23_any (x : Ev) (A B : Option Addr) (c d : Nat) (w : World) (h3 : x.val.bulk ≤ 2097152) (rv : Rd (Lt w.heap.size) w (vs x.vl) (.slice B x.vl.length d)) :
    Calls Tryz.prog 20 #[.agg #[.int .i64 x.kind, .string x.path, .string x.msg, .slice A x.args.length c, .int .i64 x.ord, .int .i64 x.vk, .string x.vt, .int .i64 x.vn, .int .i64 x.vm, .string x.vx, .slice B x.vl.length d, .int .i64 x.n]] w fun e w' => e = .returned (.bool (noneE x)) ∧ Below w.heap.size w w' := by
  have hbl : bulkV x.vl ≤ 2097152 := by unfold Ev.val at h3; rw [bulk_mk] at h3; omega
  have HC := Lib.hid (fun W h h' => requal_of x.vk x.vt x.vn x.vm x.vx x.vl 0 ⟨#[]⟩ 0 0 ⟨#[]⟩ [] B none d 0 W (rsameOk hbl) (by rw [bulkV]; omega) h h')
  have HR := Lib.hid rv
  obtain ⟨R, hR⟩ : ∃ R, noneE x = R := ⟨_, rfl⟩
  have HU : Hid (R = (eqV (.mk x.vk x.vt x.vn x.vm x.vx x.vl) (.mk 0 ⟨#[]⟩ 0 0 ⟨#[]⟩ []) && (x.path.toList.isEmpty && (x.msg.toList.isEmpty && (((x.args.length : Int) == 0) && (x.ord == 0)))))) := Lib.hid (by rw [← hR]; rfl)
  rw [hR]
  generalize eqV (.mk x.vk x.vt x.vn x.vm x.vx x.vl) (.mk 0 ⟨#[]⟩ 0 0 ⟨#[]⟩ []) = g at *
  clear hR rv
  have HC0 : Hid (∀ W, Rd (Lt W.heap.size) W (vs x.vl) (.slice B x.vl.length d) → Calls Tryz.prog 22 #[.agg #[.int .i64 x.vk, .string x.vt, .int .i64 x.vn, .int .i64 x.vm, .string x.vx, .slice B x.vl.length d], .agg #[.int .i64 0, .string ⟨#[]⟩, .int .i64 0, .int .i64 0, .string ⟨#[]⟩, .slice none 0 0]] W fun e w' => e = .returned (.bool g) ∧ Below W.heap.size W w') := Lib.hid (fun W h => HC.out W h Rd.sl_nil)
  clear HC
  go_enter Tryz.func20, Tryz.ntmps20
  go_wp2_with fail
  (with_reducible refine (HC0.out _ (HR.out.allocs _)).mono ?_)
  rintro e w1 ⟨rfl, hb1⟩
  have X1 : Hid (CellsAt w1 w.heap.size #[.int .i64 x.kind, .string x.path, .string x.msg, .slice A x.args.length c, .int .i64 x.ord, .int .i64 x.vk, .string x.vt, .int .i64 x.vn, .int .i64 x.vm, .string x.vx, .slice B x.vl.length d, .int .i64 x.n] 37) := Lib.hid ((hb1.block w.heap.size (by simp)).trans (CellsAt.new w _ _))
  have B1 := Lib.hid (((Below.refl w.heap.size w).alloc (Nat.le_refl _) _).trans (hb1.mono (by simp)))
  have p1 : w1.cell? ⟨w.heap.size, 1, none⟩ = some (.string x.path) := by rw [X1.out.cell]; rfl
  have p2 : w1.cell? ⟨w.heap.size, 2, none⟩ = some (.string x.msg) := by rw [X1.out.cell]; rfl
  have p3 : w1.cell? ⟨w.heap.size, 3, none⟩ = some (.slice A x.args.length c) := by rw [X1.out.cell]; rfl
  have p4 : w1.cell? ⟨w.heap.size, 4, none⟩ = some (.int .i64 x.ord) := by rw [X1.out.cell]; rfl
  clear hb1 HC0
  cases g with
  | false =>
    go_wp2_with fail
    go_ret
    exact ⟨by rw [HU.out]; rfl, B1.out⟩
  | true =>
    cases h1 : x.path.toList.isEmpty with
    | false =>
      rw [h1] at HU
      go_wp2_with fail
      go_ret
      exact ⟨by rw [HU.out]; rfl, B1.out⟩
    | true =>
      rw [h1] at HU
      cases h2 : x.msg.toList.isEmpty with
      | false =>
        rw [h2] at HU
        go_wp2_with fail
        go_ret
        exact ⟨by rw [HU.out]; rfl, B1.out⟩
      | true =>
        rw [h2] at HU
        cases h3 : ((x.args.length : Int) == 0) with
        | false =>
          rw [h3] at HU
          go_wp2_with fail
          go_ret
          exact ⟨by rw [HU.out]; rfl, B1.out⟩
        | true =>
          rw [h3] at HU
          cases h4 : (x.ord == 0) with
          | false =>
            rw [h4] at HU
            go_wp2_with fail
            go_ret
            exact ⟨by rw [HU.out]; rfl, B1.out⟩
          | true =>
            rw [h4] at HU
            go_wp2_with fail
            go_ret
            exact ⟨by rw [HU.out]; rfl, B1.out⟩
end Go.Proofs.YtlbmfgiepcemdaaGreat
namespace Go.Proofs.YtlbmfgiepcemdaaGreat
open Go.RowKit Go.Sort

def right23 (x : Ev) : Bool :=
  if x.kind == 1 then letterE x && (eqV x.val zeroV && ((x.ord == 0) && (x.n == 0)))
  else if x.kind == 2 then noneE x && decide (0 ≤ x.n ∧ x.n ≤ 1099511627776)
  else if x.kind == 3 then noneE x && (x.n == 0)
  else if x.kind == 4 then letterE x && (plainV x.val && (decide (0 ≤ x.ord ∧ x.ord ≤ 1099511627776) && (x.n == 0)))
  else if (x.kind == 5) || (x.kind == 6) then noneE x && decide (0 ≤ x.n ∧ x.n ≤ 7)
  else false
theorem empty_toList : (⟨#[]⟩ : ByteArray).toList = [] := by rw [ByteArray.toList_eq]
theorem toList_empty (l : List UInt8) : (l == (⟨#[]⟩ : ByteArray).toList) = l.isEmpty := by rw [empty_toList]; cases l <;> rfl
theorem eqVs_nil (l : List V) : eqVs l [] = ((l.length : Int) == 0) := by
  cases l with
  | nil => rfl
  | cons a t =>
    have h : ((((a :: t).length : Nat) : Int)) ≠ 0 := by rw [List.length_cons]; omega
    rw [beq_eq_false_iff_ne.2 h, eqVs]
theorem zero_eqV : eqV zeroV zeroV = true := by simp [zeroV, eqV, eqVs]
theorem rest_in (x : Ev) : eqE ⟨0, ⟨#[]⟩, ⟨#[]⟩, [], x.ord, x.vk, x.vt, x.vn, x.vm, x.vx, x.vl, x.n⟩ zE = (eqV x.val zeroV && ((x.ord == 0) && (x.n == 0))) := by
  show (((0 : Int) == 0) && (((⟨#[]⟩ : ByteArray).toList == (⟨#[]⟩ : ByteArray).toList) && (((⟨#[]⟩ : ByteArray).toList == (⟨#[]⟩ : ByteArray).toList) && ((x.ord == 0) && ((x.n == 0) && (eqVs [] [] && eqV x.val zeroV)))))) = _
  rw [empty_toList, eqVs_nil]
  cases eqV x.val zeroV <;> cases (x.ord == 0) <;> cases (x.n == 0) <;> rfl
theorem rest_an (x : Ev) : eqE ⟨0, ⟨#[]⟩, ⟨#[]⟩, [], 0, 0, ⟨#[]⟩, 0, 0, ⟨#[]⟩, [], x.n⟩ zE = (x.n == 0) := by
  show (((0 : Int) == 0) && (((⟨#[]⟩ : ByteArray).toList == (⟨#[]⟩ : ByteArray).toList) && (((⟨#[]⟩ : ByteArray).toList == (⟨#[]⟩ : ByteArray).toList) && (((0 : Int) == 0) && ((x.n == 0) && (eqVs [] [] && eqV zeroV zeroV)))))) = _
  rw [empty_toList, eqVs_nil, zero_eqV]
  cases (x.n == 0) <;> rfl
theorem rest_no (x : Ev) (n : Int) : (eqE ⟨0, x.path, x.msg, x.args, x.ord, x.vk, x.vt, x.vn, x.vm, x.vx, x.vl, n⟩ zE && x.args.all plainV) = (noneE x && (n == 0)) := by
  show (((0 == 0) && (_ && (_ && ((x.ord == 0) && ((n == 0) && (eqVs x.args [] && eqV x.val zeroV)))))) && _) = ((eqV x.val zeroV && (x.path.toList.isEmpty && (x.msg.toList.isEmpty && (((x.args.length : Int) == 0) && (x.ord == 0))))) && (n == 0))
  rw [show (x.path.toList == zE.path.toList) = x.path.toList.isEmpty from toList_empty _, show (x.msg.toList == zE.msg.toList) = x.msg.toList.isEmpty from toList_empty _, eqVs_nil]
  cases hl : x.args with
  | nil => cases eqV x.val zeroV <;> cases x.path.toList.isEmpty <;> cases x.msg.toList.isEmpty <;> cases (x.ord == 0) <;> cases (n == 0) <;> rfl
  | cons a t =>
    have h : (((((a :: t).length : Nat) : Int)) == 0) = false := beq_eq_false_iff_ne.2 (by rw [List.length_cons]; omega)
    rw [h]
    cases eqV x.val zeroV <;> cases x.path.toList.isEmpty <;> cases x.msg.toList.isEmpty <;> cases (x.ord == 0) <;> cases (n == 0) <;> simp
theorem right23_eq (x : Ev) : right23 x = rightE x := by
  unfold right23 rightE guardE restE
  cases k1 : (x.kind == 1) with
  | true => simp only [if_true]; rw [rest_in]; unfold letterE; cases letterB x <;> cases x.args.all plainV <;> simp
  | false =>
    cases k4 : (x.kind == 4) with
    | true =>
      have e : x.kind = 4 := by simpa using k4
      rw [e]
      show (letterE x && (plainV x.val && (decide (0 ≤ x.ord ∧ x.ord ≤ 1099511627776) && (x.n == 0)))) = ((letterB x && (decide (0 ≤ x.ord ∧ x.ord ≤ 1099511627776) && plainV x.val)) && (eqE ⟨0, ⟨#[]⟩, ⟨#[]⟩, [], 0, 0, ⟨#[]⟩, 0, 0, ⟨#[]⟩, [], x.n⟩ zE && x.args.all plainV))
      rw [rest_an]; unfold letterE
      cases letterB x <;> cases x.args.all plainV <;> cases plainV x.val <;> cases (x.n == 0) <;> simp
    | false =>
      cases k2 : (x.kind == 2) with
      | true =>
        have e : x.kind = 2 := by simpa using k2
        rw [e]
        show (noneE x && decide (0 ≤ x.n ∧ x.n ≤ 1099511627776)) = (decide (0 ≤ x.n ∧ x.n ≤ 1099511627776) && (eqE ⟨0, x.path, x.msg, x.args, x.ord, x.vk, x.vt, x.vn, x.vm, x.vx, x.vl, 0⟩ zE && x.args.all plainV))
        rw [rest_no, Bool.and_comm]; simp
      | false =>
        cases k3 : (x.kind == 3) with
        | true =>
          have e : x.kind = 3 := by simpa using k3
          rw [e]
          show (noneE x && (x.n == 0)) = (true && (eqE ⟨0, x.path, x.msg, x.args, x.ord, x.vk, x.vt, x.vn, x.vm, x.vx, x.vl, x.n⟩ zE && x.args.all plainV))
          rw [rest_no]; rfl
        | false =>
          cases k5 : ((x.kind == 5) || (x.kind == 6)) with
          | true =>
            simp only [Bool.false_eq_true, if_false, if_true]
            rw [rest_no, Bool.and_comm]
            have e : decide (0 ≤ x.n ∧ x.n ≤ 7) = decide (0 ≤ x.n ∧ x.n < 8) := by
              apply decide_eq_decide.2; omega
            rw [e]; simp
          | false => simp only [Bool.false_eq_true, if_false]; rfl
end Go.Proofs.YtlbmfgiepcemdaaGreat
namespace Go.Proofs.YtlbmfgiepcemdaaGreat
open Go.RowKit Go.Sort

set_option maxHeartbeats 4000000 in
set_option maxRecDepth 100000 in
theorem right23_any (x : Ev) (A B : Option Addr) (c d : Nat) (w : World) (h1 : bulkV x.args ≤ 2097152) (h3 : x.val.bulk ≤ 2097152) (hp : x.path.size ≤ 2097152) (hm : x.msg.size ≤ 2097152) (ra : Rd (Lt w.heap.size) w (vs x.args) (.slice A x.args.length c)) (rv : Rd (Lt w.heap.size) w (vs x.vl) (.slice B x.vl.length d)) :
    Calls Tryz.prog 7 #[.agg #[.int .i64 x.kind, .string x.path, .string x.msg, .slice A x.args.length c, .int .i64 x.ord, .int .i64 x.vk, .string x.vt, .int .i64 x.vn, .int .i64 x.vm, .string x.vx, .slice B x.vl.length d, .int .i64 x.n]] w fun e w' => e = .returned (.bool (rightE x)) ∧ Below w.heap.size w w' := by
  rw [← right23_eq]
  have HN := Lib.hid (fun W h => none23_any x A B c d W h3 h)
  have HL := Lib.hid (fun W h => letter23_any x A B c d W h1 hp hm h)
  have HRA := Lib.hid ra
  have HRV := Lib.hid rv
  obtain ⟨R, hR⟩ : ∃ R, right23 x = R := ⟨_, rfl⟩
  have HU : Hid (R = right23 x) := Lib.hid hR.symm
  rw [hR]
  clear hR ra rv
  go_enter Tryz.func7, Tryz.ntmps7
  go_wp2_with fail
  (with_reducible refine (HN.out _ (HRV.out.allocs _)).mono ?_)
  rintro e w1 ⟨rfl, hb1⟩
  have X1 : Hid (CellsAt w1 w.heap.size #[.int .i64 x.kind, .string x.path, .string x.msg, .slice A x.args.length c, .int .i64 x.ord, .int .i64 x.vk, .string x.vt, .int .i64 x.vn, .int .i64 x.vm, .string x.vx, .slice B x.vl.length d, .int .i64 x.n] 37) := Lib.hid ((hb1.block w.heap.size (by simp)).trans (CellsAt.new w _ _))
  have B1 := Lib.hid (((Below.refl w.heap.size w).alloc (Nat.le_refl _) _).trans (hb1.mono (by simp)))
  have p0 : w1.cell? ⟨w.heap.size, 0, none⟩ = some (.int .i64 x.kind) := by rw [X1.out.cell]; rfl
  have p11 : w1.cell? ⟨w.heap.size, 11, none⟩ = some (.int .i64 x.n) := by rw [X1.out.cell]; rfl
  have HI := Lib.hid (fun m W => in23_any x.n m W)
  clear hb1
  cases k1 : (x.kind == 1) with
  | true =>
    have HU2 : Hid (R = (letterE x && (eqV x.val zeroV && ((x.ord == 0) && (x.n == 0))))) := Lib.hid (by rw [HU.out]; unfold right23; rw [k1]; rfl)
    have hbl : bulkV x.vl ≤ 2097152 := by unfold Ev.val at h3; rw [bulk_mk] at h3; omega
    have HC0 : Hid (∀ W, Rd (Lt W.heap.size) W (vs x.vl) (.slice B x.vl.length d) → Calls Tryz.prog 22 #[.agg #[.int .i64 x.vk, .string x.vt, .int .i64 x.vn, .int .i64 x.vm, .string x.vx, .slice B x.vl.length d], .agg #[.int .i64 0, .string ⟨#[]⟩, .int .i64 0, .int .i64 0, .string ⟨#[]⟩, .slice none 0 0]] W fun e w' => e = .returned (.bool (eqV x.val zeroV)) ∧ Below W.heap.size W w') := Lib.hid (fun W h => requal_of x.vk x.vt x.vn x.vm x.vx x.vl 0 ⟨#[]⟩ 0 0 ⟨#[]⟩ [] B none d 0 W (rsameOk hbl) (by rw [bulkV]; omega) h Rd.sl_nil)
    clear HU HI HN
    generalize letterE x = g at *
    generalize eqV x.val zeroV = q at *
    have p1 : w1.cell? ⟨w.heap.size, 1, none⟩ = some (.string x.path) := by rw [X1.out.cell]; rfl
    have p2 : w1.cell? ⟨w.heap.size, 2, none⟩ = some (.string x.msg) := by rw [X1.out.cell]; rfl
    have p3 : w1.cell? ⟨w.heap.size, 3, none⟩ = some (.slice A x.args.length c) := by rw [X1.out.cell]; rfl
    have p4 : w1.cell? ⟨w.heap.size, 4, none⟩ = some (.int .i64 x.ord) := by rw [X1.out.cell]; rfl
    have p5 : w1.cell? ⟨w.heap.size, 5, none⟩ = some (.int .i64 x.vk) := by rw [X1.out.cell]; rfl
    have p6 : w1.cell? ⟨w.heap.size, 6, none⟩ = some (.string x.vt) := by rw [X1.out.cell]; rfl
    have p7 : w1.cell? ⟨w.heap.size, 7, none⟩ = some (.int .i64 x.vn) := by rw [X1.out.cell]; rfl
    have p8 : w1.cell? ⟨w.heap.size, 8, none⟩ = some (.int .i64 x.vm) := by rw [X1.out.cell]; rfl
    have p9 : w1.cell? ⟨w.heap.size, 9, none⟩ = some (.string x.vx) := by rw [X1.out.cell]; rfl
    have p10 : w1.cell? ⟨w.heap.size, 10, none⟩ = some (.slice B x.vl.length d) := by rw [X1.out.cell]; rfl
    go_wp2_with fail
    (with_reducible refine (HL.out _ (HRA.out.belows B1.out)).mono ?_)
    rintro e w2 ⟨rfl, hb2⟩
    have B2 := Lib.hid (B1.out.trans (hb2.mono B1.out.size))
    have X2 : Hid (CellsAt w2 w.heap.size #[.int .i64 x.kind, .string x.path, .string x.msg, .slice A x.args.length c, .int .i64 x.ord, .int .i64 x.vk, .string x.vt, .int .i64 x.vn, .int .i64 x.vm, .string x.vx, .slice B x.vl.length d, .int .i64 x.n] 37) := Lib.hid ((hb2.block w.heap.size X1.out.lt).trans X1.out)
    clear hb2 p0 p1 p2 p3 p4 p5 p6 p7 p8 p9 p10 p11
    have p4 : w2.cell? ⟨w.heap.size, 4, none⟩ = some (.int .i64 x.ord) := by rw [X2.out.cell]; rfl
    have p5 : w2.cell? ⟨w.heap.size, 5, none⟩ = some (.int .i64 x.vk) := by rw [X2.out.cell]; rfl
    have p6 : w2.cell? ⟨w.heap.size, 6, none⟩ = some (.string x.vt) := by rw [X2.out.cell]; rfl
    have p7 : w2.cell? ⟨w.heap.size, 7, none⟩ = some (.int .i64 x.vn) := by rw [X2.out.cell]; rfl
    have p8 : w2.cell? ⟨w.heap.size, 8, none⟩ = some (.int .i64 x.vm) := by rw [X2.out.cell]; rfl
    have p9 : w2.cell? ⟨w.heap.size, 9, none⟩ = some (.string x.vx) := by rw [X2.out.cell]; rfl
    have p10 : w2.cell? ⟨w.heap.size, 10, none⟩ = some (.slice B x.vl.length d) := by rw [X2.out.cell]; rfl
    have p11 : w2.cell? ⟨w.heap.size, 11, none⟩ = some (.int .i64 x.n) := by rw [X2.out.cell]; rfl
    go_wp2_with fail
    (with_reducible refine (HC0.out _ (HRV.out.belows B2.out)).mono ?_)
    rintro e w3 ⟨rfl, hb3⟩
    have B3 := Lib.hid (B2.out.trans (hb3.mono B2.out.size))
    have X3 : Hid (CellsAt w3 w.heap.size #[.int .i64 x.kind, .string x.path, .string x.msg, .slice A x.args.length c, .int .i64 x.ord, .int .i64 x.vk, .string x.vt, .int .i64 x.vn, .int .i64 x.vm, .string x.vx, .slice B x.vl.length d, .int .i64 x.n] 37) := Lib.hid ((hb3.block w.heap.size X2.out.lt).trans X2.out)
    clear hb3 p4 p5 p6 p7 p8 p9 p10 p11
    have p4 : w3.cell? ⟨w.heap.size, 4, none⟩ = some (.int .i64 x.ord) := by rw [X3.out.cell]; rfl
    have p11 : w3.cell? ⟨w.heap.size, 11, none⟩ = some (.int .i64 x.n) := by rw [X3.out.cell]; rfl
    cases g with
    | false =>
      go_wp2_with fail
      go_ret
      exact ⟨by rw [HU2.out]; rfl, B3.out⟩
    | true =>
      cases q with
      | false =>
        go_wp2_with fail
        go_ret
        exact ⟨by rw [HU2.out]; rfl, B3.out⟩
      | true =>
        cases h5 : (x.ord == 0) with
        | false =>
          rw [h5] at HU2
          go_wp2_with fail
          go_ret
          exact ⟨by rw [HU2.out]; rfl, B3.out⟩
        | true =>
          rw [h5] at HU2
          go_wp2_with fail
          go_ret
          exact ⟨by rw [HU2.out]; rfl, B3.out⟩
  | false =>
    cases k2 : (x.kind == 2) with
    | true =>
      have HU2 : Hid (R = (noneE x && decide (0 ≤ x.n ∧ x.n ≤ 1099511627776))) := Lib.hid (by rw [HU.out]; unfold right23; rw [k1, k2]; rfl)
      have HI2 := Lib.hid (in23_any x.n 1099511627776)
      clear HU HI
      generalize decide (0 ≤ x.n ∧ x.n ≤ 1099511627776) = q at *
      generalize noneE x = g at *
      cases g with
      | false =>
        go_wp2_with fail
        go_ret
        exact ⟨by rw [HU2.out]; rfl, B1.out⟩
      | true =>
        go_wp2_with fail
        (with_reducible refine (HI2.out _).mono ?_)
        rintro e w2 ⟨rfl, rfl⟩
        go_wp2_with fail
        go_ret
        exact ⟨by rw [HU2.out]; rfl, B1.out⟩
    | false =>
      cases k3 : (x.kind == 3) with
      | true =>
        have HU2 : Hid (R = (noneE x && (x.n == 0))) := Lib.hid (by rw [HU.out]; unfold right23; rw [k1, k2, k3]; rfl)
        clear HU
        generalize noneE x = g at *
        cases g with
        | false =>
          go_wp2_with fail
          go_ret
          exact ⟨by rw [HU2.out]; rfl, B1.out⟩
        | true =>
          go_wp2_with fail
          go_ret
          exact ⟨by rw [HU2.out]; rfl, B1.out⟩
      | false =>
        cases k4 : (x.kind == 4) with
        | true =>
          have HU2 : Hid (R = (letterE x && (plainV x.val && (decide (0 ≤ x.ord ∧ x.ord ≤ 1099511627776) && (x.n == 0))))) := Lib.hid (by rw [HU.out]; unfold right23; rw [k1, k2, k3, k4]; rfl)
          have HC0 : Hid (∀ W, Rd (Lt W.heap.size) W (vs x.vl) (.slice B x.vl.length d) → Calls Tryz.prog 24 #[.agg #[.int .i64 x.vk, .string x.vt, .int .i64 x.vn, .int .i64 x.vm, .string x.vx, .slice B x.vl.length d]] W fun e w' => e = .returned (.bool (plainV x.val)) ∧ Below W.heap.size W w') := Lib.hid (fun W h => rplain_any x.vk x.vt x.vn x.vm x.vx x.vl B d W h3 h)
          have HI2 := Lib.hid (in23_any x.ord 1099511627776)
          clear HU HI HN
          generalize letterE x = g at *
          generalize plainV x.val = q at *
          generalize decide (0 ≤ x.ord ∧ x.ord ≤ 1099511627776) = z at *
          have p1 : w1.cell? ⟨w.heap.size, 1, none⟩ = some (.string x.path) := by rw [X1.out.cell]; rfl
          have p2 : w1.cell? ⟨w.heap.size, 2, none⟩ = some (.string x.msg) := by rw [X1.out.cell]; rfl
          have p3 : w1.cell? ⟨w.heap.size, 3, none⟩ = some (.slice A x.args.length c) := by rw [X1.out.cell]; rfl
          have p4 : w1.cell? ⟨w.heap.size, 4, none⟩ = some (.int .i64 x.ord) := by rw [X1.out.cell]; rfl
          have p5 : w1.cell? ⟨w.heap.size, 5, none⟩ = some (.int .i64 x.vk) := by rw [X1.out.cell]; rfl
          have p6 : w1.cell? ⟨w.heap.size, 6, none⟩ = some (.string x.vt) := by rw [X1.out.cell]; rfl
          have p7 : w1.cell? ⟨w.heap.size, 7, none⟩ = some (.int .i64 x.vn) := by rw [X1.out.cell]; rfl
          have p8 : w1.cell? ⟨w.heap.size, 8, none⟩ = some (.int .i64 x.vm) := by rw [X1.out.cell]; rfl
          have p9 : w1.cell? ⟨w.heap.size, 9, none⟩ = some (.string x.vx) := by rw [X1.out.cell]; rfl
          have p10 : w1.cell? ⟨w.heap.size, 10, none⟩ = some (.slice B x.vl.length d) := by rw [X1.out.cell]; rfl
          go_wp2_with fail
          (with_reducible refine (HL.out _ (HRA.out.belows B1.out)).mono ?_)
          rintro e w2 ⟨rfl, hb2⟩
          have B2 := Lib.hid (B1.out.trans (hb2.mono B1.out.size))
          have X2 : Hid (CellsAt w2 w.heap.size #[.int .i64 x.kind, .string x.path, .string x.msg, .slice A x.args.length c, .int .i64 x.ord, .int .i64 x.vk, .string x.vt, .int .i64 x.vn, .int .i64 x.vm, .string x.vx, .slice B x.vl.length d, .int .i64 x.n] 37) := Lib.hid ((hb2.block w.heap.size X1.out.lt).trans X1.out)
          clear hb2 p0 p1 p2 p3 p4 p5 p6 p7 p8 p9 p10 p11
          have p4 : w2.cell? ⟨w.heap.size, 4, none⟩ = some (.int .i64 x.ord) := by rw [X2.out.cell]; rfl
          have p5 : w2.cell? ⟨w.heap.size, 5, none⟩ = some (.int .i64 x.vk) := by rw [X2.out.cell]; rfl
          have p6 : w2.cell? ⟨w.heap.size, 6, none⟩ = some (.string x.vt) := by rw [X2.out.cell]; rfl
          have p7 : w2.cell? ⟨w.heap.size, 7, none⟩ = some (.int .i64 x.vn) := by rw [X2.out.cell]; rfl
          have p8 : w2.cell? ⟨w.heap.size, 8, none⟩ = some (.int .i64 x.vm) := by rw [X2.out.cell]; rfl
          have p9 : w2.cell? ⟨w.heap.size, 9, none⟩ = some (.string x.vx) := by rw [X2.out.cell]; rfl
          have p10 : w2.cell? ⟨w.heap.size, 10, none⟩ = some (.slice B x.vl.length d) := by rw [X2.out.cell]; rfl
          have p11 : w2.cell? ⟨w.heap.size, 11, none⟩ = some (.int .i64 x.n) := by rw [X2.out.cell]; rfl
          go_wp2_with fail
          (with_reducible refine (HC0.out _ (HRV.out.belows B2.out)).mono ?_)
          rintro e w3 ⟨rfl, hb3⟩
          have B3 := Lib.hid (B2.out.trans (hb3.mono B2.out.size))
          have X3 : Hid (CellsAt w3 w.heap.size #[.int .i64 x.kind, .string x.path, .string x.msg, .slice A x.args.length c, .int .i64 x.ord, .int .i64 x.vk, .string x.vt, .int .i64 x.vn, .int .i64 x.vm, .string x.vx, .slice B x.vl.length d, .int .i64 x.n] 37) := Lib.hid ((hb3.block w.heap.size X2.out.lt).trans X2.out)
          clear hb3 p4 p5 p6 p7 p8 p9 p10 p11
          have p4 : w3.cell? ⟨w.heap.size, 4, none⟩ = some (.int .i64 x.ord) := by rw [X3.out.cell]; rfl
          have p11 : w3.cell? ⟨w.heap.size, 11, none⟩ = some (.int .i64 x.n) := by rw [X3.out.cell]; rfl
          cases g with
          | false =>
            go_wp2_with fail
            go_ret
            exact ⟨by rw [HU2.out]; rfl, B3.out⟩
          | true =>
            cases q with
            | false =>
              go_wp2_with fail
              go_ret
              exact ⟨by rw [HU2.out]; rfl, B3.out⟩
            | true =>
              go_wp2_with fail
              (with_reducible refine (HI2.out _).mono ?_)
              rintro e w4 ⟨rfl, rfl⟩
              cases z with
              | false =>
                go_wp2_with fail
                go_ret
                exact ⟨by rw [HU2.out]; rfl, B3.out⟩
              | true =>
                cases h5 : (x.n == 0) with
                | false =>
                  rw [h5] at HU2
                  go_wp2_with fail
                  go_ret
                  exact ⟨by rw [HU2.out]; rfl, B3.out⟩
                | true =>
                  rw [h5] at HU2
                  go_wp2_with fail
                  go_ret
                  exact ⟨by rw [HU2.out]; rfl, B3.out⟩
        | false =>
          cases k5 : (x.kind == 5) with
          | true =>
            have HU2 : Hid (R = (noneE x && decide (0 ≤ x.n ∧ x.n ≤ 7))) := Lib.hid (by rw [HU.out]; unfold right23; rw [k1, k2, k3, k4, k5]; rfl)
            have HI2 := Lib.hid (in23_any x.n 7)
            clear HU HI
            generalize decide (0 ≤ x.n ∧ x.n ≤ 7) = q at *
            generalize noneE x = g at *
            cases g with
            | false =>
              go_wp2_with fail
              go_ret
              exact ⟨by rw [HU2.out]; rfl, B1.out⟩
            | true =>
              go_wp2_with fail
              (with_reducible refine (HI2.out _).mono ?_)
              rintro e w2 ⟨rfl, rfl⟩
              go_wp2_with fail
              go_ret
              exact ⟨by rw [HU2.out]; rfl, B1.out⟩
          | false =>
            cases k6 : (x.kind == 6) with
            | true =>
              have HU2 : Hid (R = (noneE x && decide (0 ≤ x.n ∧ x.n ≤ 7))) := Lib.hid (by rw [HU.out]; unfold right23; rw [k1, k2, k3, k4, k5, k6]; rfl)
              have HI2 := Lib.hid (in23_any x.n 7)
              clear HU HI
              generalize decide (0 ≤ x.n ∧ x.n ≤ 7) = q at *
              generalize noneE x = g at *
              cases g with
              | false =>
                go_wp2_with fail
                go_ret
                exact ⟨by rw [HU2.out]; rfl, B1.out⟩
              | true =>
                go_wp2_with fail
                (with_reducible refine (HI2.out _).mono ?_)
                rintro e w2 ⟨rfl, rfl⟩
                go_wp2_with fail
                go_ret
                exact ⟨by rw [HU2.out]; rfl, B1.out⟩
            | false =>
              have HU2 : Hid (R = false) := Lib.hid (by rw [HU.out]; unfold right23; rw [k1, k2, k3, k4, k5, k6]; rfl)
              clear HU
              go_wp2_with fail
              go_ret
              exact ⟨by rw [HU2.out]; rfl, B1.out⟩
end Go.Proofs.YtlbmfgiepcemdaaGreat
