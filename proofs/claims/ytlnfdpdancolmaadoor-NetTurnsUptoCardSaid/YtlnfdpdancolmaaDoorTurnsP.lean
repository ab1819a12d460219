/- NetTurns: bounds, and the calls it makes in the form it wants. Conditions: those in each statement. -/
import Derived.Test.YtlnfdpdancolmaaDoorTurn
import Derived.Test.YtlnfdpdancolmaaDoorKeyAll
import Derived.Test.YtlnfdpdancolmaaDoorLawKeeps
namespace Go.Proofs.YtlnfdpdancolmaaDoor
open Go.RowKit

set_option maxHeartbeats 2000000 in
theorem requests_len {ok : Nat → Prop} {l : List Req} {A : Option Addr} {n c : Nat} {w : World} (hr : Rd ok w (slReq l) (.slice A n c)) (hb : bulkReq l ≤ 2097152) :
    Calls Tryd.prog 17 #[.slice A n c] w fun e w' => ∃ b : Bool, e = .returned (.bool b) ∧ (b = true → n ≤ 20) ∧ ∃ q, w' = w.drewN q := by
  have hl := slReq_len hr
  have hn : n ≤ 2097152 := by have := bulkReq_len l; omega
  have HR := Lib.hid hr
  have HB := Lib.hid hb
  clear hl hr hb
  go_enter Tryd.func17, Tryd.ntmps17
  go_wp2_with fail
  go_loopw [3] (fun i wr => ∃ k q : Nat, k ≤ n ∧ i = .int .i64 k ∧ wr = w.drewN q) (fun i _ => n - (intOf i).toNat)
  case atStart => exact ⟨0, 0, by omega, rfl, rfl⟩
  case round =>
    obtain ⟨k, q, hk, rfl, rfl⟩ := hrel
    by_cases hlt : k < n
    · by_cases h40 : k < 30
      · obtain ⟨b, off, x, rfl, _, hget, A2, c2', h2⟩ := slReq_at HR.out hlt
        obtain ⟨c0, c1, c2, c3, c4, c5, c6, c7, r5⟩ := h2
        have hbk := bulkReq_get hget
        unfold Req.bulk at hbk
        have hts : x.path.size ≤ 2097152 ∧ x.name.size ≤ 2097152 ∧ x.reply.size ≤ 2097152 := by have := HB.out; omega
        have HC := Lib.hid (fun (W : World) (hW : Rd ok W (vs x.args) (.slice A2 x.args.length c2')) => flat4 hW (by have := HB.out; omega))
        have HR5 := Lib.hid r5
        clear r5 hget hbk
        generalize flatB x.args = fb at HC
        have i0 : (0 : Int) ≤ (k : Int) := by omega
        have i1 : (k : Int) < (n : Int) := by omega
        have s1 : IntKind.i64.wrap ((x.path.size : Int) + (x.name.size : Int)) = (x.path.size : Int) + (x.name.size : Int) := IntWalk.i64_in _ (by omega)
        have s2 : IntKind.i64.wrap ((x.path.size : Int) + (x.name.size : Int) + (x.reply.size : Int)) = (x.path.size : Int) + (x.name.size : Int) + (x.reply.size : Int) := IntWalk.i64_in _ (by omega)
        by_cases hs : (300 : Int) < (x.path.size : Int) + (x.name.size : Int) + (x.reply.size : Int)
        · have hd : decide ((300 : Int) < (x.path.size : Int) + (x.name.size : Int) + (x.reply.size : Int)) = true := by simpa using hs
          go_wp2_with fail
          go_quiet (fail)
          go_wp2_with fail
          go_ret
          exact ⟨false, rfl, (fun h => by cases h), _, World.drewN_drewN _ _ _⟩
        · have hd : decide ((300 : Int) < (x.path.size : Int) + (x.name.size : Int) + (x.reply.size : Int)) = false := by simpa using hs
          go_wp2_with fail
          go_quiet ((go_at_call 27; exact quiet_add_left (HC.out _ (HR5.out.drewN _))))
          cases fb
          · go_wp2_with fail
            go_ret
            exact ⟨false, rfl, (fun h => by cases h), _, World.drewN_drewN _ _ _⟩
          · go_wp2_with fail
            go_roundw
            case rel => exact ⟨k + 1, _, by omega, by go_num, rfl⟩
            case measure => simp [intOf]; omega
      · go_wp2_with fail
        go_ret
        exact ⟨_, rfl, (fun h => by simp at h; omega), q, rfl⟩
    · go_wp2_with fail
      all_goals
        go_ret
        exact ⟨_, rfl, (fun h => by simp at h; omega), q, rfl⟩

theorem slReq_nil (ok : Nat → Prop) (w : World) : Rd ok w (slReq []) (.slice none 0 0) := Rd.sl_nil
theorem slOut_nil (ok : Nat → Prop) (w : World) : Rd ok w (slOut []) (.slice none 0 0) := Rd.sl_nil
theorem onlyS_len (a b : List Req) : (onlyS a b).length ≤ a.length := (onlyS_sub a b).length_le
theorem onlyS_nil (b : List Req) : onlyS [] b = [] := by
  have := onlyS_len [] b
  exact List.eq_nil_of_length_eq_zero (by simpa using this)
theorem effS_len (kf : Req → ByteArray) (l : List Req) : (effS kf l).length = l.length := by unfold effS; rw [List.length_map]
theorem effG_bulk : ∀ l : List Req, bulkOut (effS kfG l) ≤ bulkReq l + 64 * l.length
  | [] => by simp [effS, bulkOut]
  | r :: l => by
    have h := effG_bulk l
    have e : effS kfG (r :: l) = effR kfG r :: effS kfG l := rfl
    have e2 : bulkReq (r :: l) = r.bulk + bulkReq l := by unfold bulkReq; rw [List.map_cons, List.sum_cons]
    have e3 : (effR kfG r).bulk = 6 + (kfG r).size + r.name.size + bulkV r.args := rfl
    rw [e, bulkOut_cons, e2, e3, kfG_size, List.length_cons]
    unfold Req.bulk
    omega
theorem bulkCmd_app (a b : List Cmd) : bulkCmd (a ++ b) = bulkCmd a + bulkCmd b := by unfold bulkCmd; rw [List.map_append, List.sum_append]
theorem bulkCmd_con (a : Cmd) (b : List Cmd) : bulkCmd (a :: b) = a.bulk + bulkCmd b := by unfold bulkCmd; rw [List.map_cons, List.sum_cons]
theorem undo_bulk : ∀ l : List Req, bulkCmd ((effS kfG l).map undoC) ≤ 136 * l.length
  | [] => by simp [effS, bulkCmd]
  | r :: l => by
    have h := undo_bulk l
    have e : (effS kfG (r :: l)).map undoC = undoC (effR kfG r) :: (effS kfG l).map undoC := rfl
    have e3 : (undoC (effR kfG r)).bulk = 7 + ((⟨#[117]⟩ : ByteArray) ++ kfG r).size + (kfG r).size + 0 + 0 + bulkV [] := rfl
    have e4 : bulkV [] = 0 := by simp [bulkV]
    rw [e, bulkCmd_con, e3, ByteArray.size_append, kfG_size, List.length_cons, e4]
    have e5 : (⟨#[117]⟩ : ByteArray).size = 1 := rfl
    rw [e5]
    omega
theorem do_bulk : ∀ l : List Req, bulkCmd ((effS kfG l).map doC) ≤ bulkReq l + 130 * l.length
  | [] => by simp [effS, bulkCmd]
  | r :: l => by
    have h := do_bulk l
    have e : (effS kfG (r :: l)).map doC = doC (effR kfG r) :: (effS kfG l).map doC := rfl
    have e2 : bulkReq (r :: l) = r.bulk + bulkReq l := by unfold bulkReq; rw [List.map_cons, List.sum_cons]
    have e3 : (doC (effR kfG r)).bulk = 7 + ((⟨#[100]⟩ : ByteArray) ++ kfG r).size + 0 + (kfG r).size + r.name.size + bulkV r.args := rfl
    rw [e, bulkCmd_con, e2, e3, ByteArray.size_append, kfG_size, List.length_cons]
    have e5 : (⟨#[100]⟩ : ByteArray).size = 1 := rfl
    rw [e5]
    unfold Req.bulk
    omega
theorem turn_bulk (u d : List Req) : bulkCmd (turnS (effS kfG u) (effS kfG d)) ≤ 136 * u.length + bulkReq d + 130 * d.length := by
  unfold turnS
  rw [bulkCmd_app]
  have h1 := undo_bulk u
  have h2 := do_bulk d
  omega
theorem foldS_bulk : ∀ (cs : List Cmd) (l : List Out), bulkOut (foldS l cs).1 ≤ bulkOut l + bulkCmd cs
  | [], l => by simp [foldS]
  | c :: cs, l => by
    rw [foldS, bulkCmd_con]
    have h1 := step_bulk l c
    have h2 := foldS_bulk cs (stepR l c)
    split
    · omega
    · show bulkOut [] ≤ _
      have : bulkOut ([] : List Out) = 0 := rfl
      omega

/-- equal keys, paths and numbers, and one effect the same as the other: the requests are alike -/
theorem alike_of_same {x y : Req} (h1 : x.path = y.path) (h2 : x.ord = y.ord) (h3 : (decide (([effR kfG x] : List Out).length = ([effR kfG y] : List Out).length) && sameS [effR kfG x] [effR kfG y]) = true) : alikeB x y = true := by
  have h4 : sameS [effR kfG x] [effR kfG y] = true := by simpa using h3
  have h5 : eqO (effR kfG y) (effR kfG x) = true := by
    rw [sameS] at h4
    cases h : eqO (effR kfG y) (effR kfG x) with
    | true => rfl
    | false => simp [h] at h4
  obtain ⟨_, e2, _, e4⟩ := (eqO_iff _ _).1 h5
  exact (alikeB_iff x y).2 ⟨h2, h1, e2.symm, e4.symm⟩

theorem diff_first (l : List Req) (A : Option Addr) (n c : Nat) (w : World) (hn : n = l.length) (hb : bulkReq l ≤ 2097152) (hK : ∀ r ∈ l, KeyOk kfG r) (hr : Rd (Lt w.heap.size) w (slReq l) (.slice A n c)) (hR : Row32 w 0 64 kF) :
    Calls Tryd.prog 18 #[.slice none 0 0, .slice A n c] w fun e w' => ∃ v1 A2 c2, e = .returned (.tuple #[v1, .slice A2 n c2]) ∧ Rd (Lt w'.heap.size) w' (slOut (effS kfG l)) (.slice A2 n c2) ∧ Below w.heap.size w w' := by
  refine (diff_any kfG [] l none 0 0 A n c w (by simp [bulkReq]) hb (fun r hr => by cases hr) hK compat_kfG (slReq_nil _ _) hr hR).mono ?_
  rintro e w' ⟨v1, v2, rfl, _, ho, hbel⟩
  rw [onlyS_none] at ho
  obtain ⟨A2, c2, rfl, h2⟩ := ho.rdOut
  have e : (effS kfG l).length = n := by rw [effS_len, hn]
  rw [e] at h2 ⊢
  exact ⟨v1, A2, c2, rfl, h2, hbel⟩
theorem diff_both (l l' : List Req) (A : Option Addr) (n c : Nat) (A' : Option Addr) (n' c' : Nat) (w : World) (hb : bulkReq l ≤ 2097152) (hb' : bulkReq l' ≤ 2097152) (hK : ∀ r ∈ l, KeyOk kfG r) (hK' : ∀ r ∈ l', KeyOk kfG r)
    (hr : Rd (Lt w.heap.size) w (slReq l) (.slice A n c)) (hr' : Rd (Lt w.heap.size) w (slReq l') (.slice A' n' c')) (hR : Row32 w 0 64 kF) :
    Calls Tryd.prog 18 #[.slice A n c, .slice A' n' c'] w fun e w' => ∃ A1 n1 c1 A2 n2 c2, e = .returned (.tuple #[.slice A1 n1 c1, .slice A2 n2 c2]) ∧ Rd (Lt w'.heap.size) w' (slOut (effS kfG (onlyS l l'))) (.slice A1 n1 c1) ∧ Rd (Lt w'.heap.size) w' (slOut (effS kfG (onlyS l' l))) (.slice A2 n2 c2) ∧ Below w.heap.size w w' := by
  refine (diff_any kfG l l' A n c A' n' c' w hb hb' hK hK' compat_kfG hr hr' hR).mono ?_
  rintro e w' ⟨v1, v2, rfl, ho1, ho, hbel⟩
  obtain ⟨A2, c2, rfl, h2⟩ := ho.rdOut
  obtain ⟨A1, c1, rfl, h1⟩ := ho1.rdOut
  exact ⟨A1, _, c1, A2, _, c2, rfl, h1, h2, hbel⟩
theorem turn_to (u d : List Out) (A : Option Addr) (n c : Nat) (A' : Option Addr) (n' c' : Nat) (w : World) (hb : bulkOut u ≤ 2097152) (hb' : bulkOut d ≤ 2097152)
    (hr : Rd (Lt w.heap.size) w (slOut u) (.slice A n c)) (hr' : Rd (Lt w.heap.size) w (slOut d) (.slice A' n' c')) :
    Calls Tryd.prog 25 #[.slice A n c, .slice A' n' c'] w fun e w' => ∃ A1 n1 c1, e = .returned (.slice A1 n1 c1) ∧ Rd (Lt w'.heap.size) w' (slCmd (turnS u d)) (.slice A1 n1 c1) ∧ Below w.heap.size w w' := by
  refine (turn_any u d A n c A' n' c' w hb hb' hr hr').mono ?_
  rintro e w' ⟨v, rfl, h1, h2⟩
  obtain ⟨A1, c1, rfl, _⟩ := h1.sl_inv
  exact ⟨A1, _, c1, rfl, h1, h2⟩
theorem fold_to (l : List Out) (cs : List Cmd) (X : List Out) (hX : foldS l cs = (X, 0)) (A A' : Option Addr) (n c m c' : Nat) (w : World) (hr : Rd (Lt w.heap.size) w (slOut l) (.slice A n c)) (hb : bulkOut l ≤ 2097152) (hr' : Rd (Lt w.heap.size) w (slCmd cs) (.slice A' m c')) (hb' : bulkCmd cs ≤ 2097152) :
    Calls Tryd.prog 15 #[.slice A n c, .slice A' m c'] w fun e w' => ∃ A1 c1, e = .returned (.tuple #[.slice A1 X.length c1, .int .i64 0]) ∧ Rd (Lt w'.heap.size) w' (slOut X) (.slice A1 X.length c1) ∧ Below w.heap.size w w' := by
  refine (fold_any l cs A A' n c m c' w hr hb hr' hb').mono ?_
  rintro e w' ⟨v, rfl, ho, h2⟩
  rw [hX] at ho ⊢
  obtain ⟨A1, c1, rfl, h1⟩ := ho.rdOut
  exact ⟨A1, c1, rfl, h1, h2⟩
/-- one effect of a row, as a list of its own -/
theorem slOut_single {ok : Nat → Prop} {w : World} {l : List Out} {b off n c i : Nat} {x : Out} (h : Rd ok w (slOut l) (.slice (some ⟨b, off, none⟩) n c)) (hi : i < n) (hx : l[i]? = some x) (k : Nat) (hk : 1 ≤ k) (hk2 : k ≤ 9223372036854775807) : Rd ok w (slOut [x]) (.slice (some ⟨b, off + i * 5, none⟩) 1 k) := by
  obtain ⟨b', off', x', e, hok, hget, A2, c2, hat⟩ := slOut_at h hi
  injection e with e
  injection e with e1 e2
  subst e1 e2
  rw [hx] at hget
  obtain rfl := Option.some.inj hget
  refine Rd.sl_mk hk hk2 fun _ => ⟨b, off + i * 5, rfl, hok, fun j hj => ?_⟩
  have hj : j < 1 := hj
  obtain rfl : j = 0 := by omega
  rw [rowsOut_get (x := x) rfl, Nat.zero_mul, Nat.add_zero]
  exact row_of_OutAt hat
end Go.Proofs.YtlnfdpdancolmaaDoor
