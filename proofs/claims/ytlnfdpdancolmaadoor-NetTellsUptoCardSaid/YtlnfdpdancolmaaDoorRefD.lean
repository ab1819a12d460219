/- ref44.Apply. Printed by wip/tools/gen_refd.py. Conditions: those in each statement. -/
import Derived.Test.YtlnfdpdancolmaaDoorRefC
import Derived.Test.YtlnfdpdancolmaaDoorFold
namespace Go.Proofs.YtlnfdpdancolmaaDoor
open Go.RowKit

def RPost (L : List Out) (E : Int) (w : World) (e : Ending) (w' : World) : Prop := ∃ A c, e = .returned (.tuple #[.slice A L.length c, .int .i64 E]) ∧ Rd (Lt w'.heap.size) w' (slOut L) (.slice A L.length c) ∧ Below w.heap.size w w'
theorem rpost_err {E : Int} {w w' : World} {l : List Out} {x : Cmd} (h : stepE l x = E) (h0 : E ≠ 0) (hb : Below w.heap.size w w') : RPost (foldS l [x]).1 (foldS l [x]).2 w (.returned (.tuple #[.slice none 0 0, .int .i64 E])) w' := by
  rw [foldS_one, if_neg (by omega), h]
  exact ⟨none, 0, rfl, Rd.sl_nil, hb⟩
theorem rpost_ok {w w' : World} {l L : List Out} {x : Cmd} {A : Option Addr} {n c : Nat} (h : stepE l x = 0) (hL : stepR l x = L) (hn : n = L.length) (hr : Rd (Lt w'.heap.size) w' (slOut L) (.slice A n c)) (hb : Below w.heap.size w w') : RPost (foldS l [x]).1 (foldS l [x]).2 w (.returned (.tuple #[.slice A n c, .int .i64 0])) w' := by
  subst hn
  rw [foldS_one, if_pos h, hL]
  exact ⟨A, c, rfl, hr, hb⟩
theorem box1 (w : World) (o : Obj) : Below w.heap.size w (w.alloc o) := (Below.refl _ _).alloc (Nat.le_refl _) _
theorem box2 (w : World) (o p : Obj) : Below w.heap.size w ((w.alloc o).alloc p) := (box1 w o).alloc (by simp) _
theorem box3 (w : World) (o p q : Obj) : Below w.heap.size w (((w.alloc o).alloc p).alloc q) := (box2 w o p).alloc (by simp; omega) _

set_option maxHeartbeats 2000000 in
set_option maxRecDepth 100000 in
theorem rapply_other (l : List Out) (x : Cmd) (v : Value) (A1 : Option Addr) (c1 : Nat) (w : World) (hk : x.kind < 1 ∨ 4 < x.kind) :
    Calls Tryd.prog 13 #[v, .agg #[.string x.key, .int .i64 x.kind, .string x.of, .string x.new, .string x.name, .slice A1 x.args.length c1]] w (RPost (foldS l [x]).1 (foldS l [x]).2 w) := by
  have HE : Hid (stepE l x = 1) := Lib.hid (by unfold stepE; rw [if_neg (by omega), if_neg (by omega), if_neg (by omega), if_neg (by omega)])
  by_cases h1 : x.kind < 1
  · clear hk
    go_enter Tryd.func13, Tryd.ntmps13
    go_wp2_with fail
    go_ret2
    exact rpost_err HE.out (by omega) (box1 _ _)
  · have h4 : 4 < x.kind := by omega
    clear hk
    go_enter Tryd.func13, Tryd.ntmps13
    go_wp2_with fail
    go_ret2
    exact rpost_err HE.out (by omega) (box1 _ _)

set_option maxHeartbeats 4000000 in
set_option maxRecDepth 100000 in
theorem rapply_amend (l : List Out) (x : Cmd) (A A1 : Option Addr) (n c c1 : Nat) (w : World) (hr : Rd (Lt w.heap.size) w (slOut l) (.slice A n c)) (hn : n ≤ 2097152) (hx : Rd (Lt w.heap.size) w (vs x.args) (.slice A1 x.args.length c1)) (hk : x.kind = 4) :
    Calls Tryd.prog 13 #[.slice A n c, .agg #[.string x.key, .int .i64 x.kind, .string x.of, .string x.new, .string x.name, .slice A1 x.args.length c1]] w (RPost (foldS l [x]).1 (foldS l [x]).2 w) := by
  have hl := slOut_len hr
  have HL := Lib.hid hl.1
  have hE : stepE l x = if findI l x.of < 0 then 5 else if x.new.toList.isEmpty then 1 else if (x.new.toList == x.of.toList) = false ∧ 0 ≤ findI l x.new then 4 else 0 := by
    unfold stepE; rw [if_neg (by omega), if_neg (by omega), if_neg (by omega), if_pos hk]
  have hX : stepR l x = l.set (findI l x.of).toNat (made x) := by unfold stepR; rw [if_neg (by omega), if_neg (by omega), if_neg (by omega)]
  rw [hk]
  have HE := Lib.hid hE
  have HX := Lib.hid hX
  have HR := Lib.hid hr
  have HA := Lib.hid hx
  have HF := Lib.hid (findI_cases l x.of)
  have HF2 := Lib.hid (findI_cases l x.new)
  clear hr hx hk hE hX hl
  go_enter Tryd.func13, Tryd.ntmps13
  go_wp2_with fail
  (with_reducible refine (rfind_any l A n c x.of _ ?_ (by omega)).mono ?_)
  · exact HR.out.allocs _
  rintro e w2 ⟨rfl, rfl⟩
  rcases HF.out with hf | ⟨i, o, hf, hi, hg, hp⟩
  · rw [hf]
    have HE1 : Hid (stepE l x = 5) := Lib.hid (by rw [HE.out, hf]; rfl)
    clear hf
    go_wp2_with fail
    go_ret2
    exact rpost_err HE1.out (by omega) (box1 _ _)
  · have HE1 : Hid (stepE l x = if x.new.toList.isEmpty then 1 else if (x.new.toList == x.of.toList) = false ∧ 0 ≤ findI l x.new then 4 else 0) := Lib.hid (by rw [HE.out, hf, if_neg (by omega)])
    have HX1 : Hid (stepR l x = l.set i (made x)) := Lib.hid (by rw [HX.out, hf]; rfl)
    rw [hf]
    have hin : i < n := by have := HL.out; omega
    have i0 : (0 : Int) ≤ (i : Int) := by omega
    have i1 : ¬ (i : Int) < 0 := by omega
    clear hf hg hp HE HX
    cases em : x.new.toList.isEmpty with
    | true =>
      have HE2 : Hid (stepE l x = 1) := Lib.hid (by rw [HE1.out, em]; rfl)
      go_wp2_with fail
      go_ret2
      exact rpost_err HE2.out (by omega) (box2 _ _ _)
    | false =>
      have HE2 : Hid (stepE l x = if (x.new.toList == x.of.toList) = false ∧ 0 ≤ findI l x.new then 4 else 0) := Lib.hid (by rw [HE1.out, em]; rfl)
      go_wp2_with fail
      (with_reducible refine (rfind_any l A n c x.new _ ?_ (by omega)).mono ?_)
      · exact HR.out.belows (box2 _ _ _)
      rintro e w3 ⟨rfl, rfl⟩
      have HP : Hid (∀ W, Below w.heap.size w W → Calls Tryd.prog 29 #[.slice A n c, .int .i64 (i : Int), .agg #[.string x.new, .string x.name, .slice A1 x.args.length c1, .bool false, .int .i64 0]] W fun e w' => ∃ g cap, e = .returned (.slice (some ⟨g, 0, none⟩) n cap) ∧ Rd (Lt w'.heap.size) w' (slOut (l.set i (made x))) (.slice (some ⟨g, 0, none⟩) n cap) ∧ Below W.heap.size W w') := Lib.hid (fun W hW => rput_any l (made x) A A1 n c c1 i W (HR.out.belows hW) hn hin (HA.out.belows hW))
      have hln : n = (l.set i (made x)).length := by rw [List.length_set, HL.out]
      have HLN := Lib.hid hln
      clear hln
      rcases HF2.out with hf | ⟨j, o2, hf, hj, _, _⟩
      · have HE3 : Hid (stepE l x = 0) := Lib.hid (by rw [HE2.out, hf, if_neg (by omega)])
        rw [hf]
        clear hf HE1 HE2
        go_wp2_with fail
        (with_reducible refine (HP.out _ (box2 _ _ _)).mono ?_)
        rintro e w4 ⟨g, cap, rfl, hr4, hb4⟩
        have R4 := Lib.hid hr4
        have B4 := Lib.hid ((box2 w _ _).trans (hb4.mono (box2 w _ _).size))
        clear hr4 hb4
        go_wp2_with fail
        go_ret2
        exact rpost_ok HE3.out HX1.out HLN.out R4.out B4.out
      · rw [hf]
        have j0 : (0 : Int) ≤ (j : Int) := by omega
        cases eo : (x.new.toList == x.of.toList) with
        | false =>
          have HE3 : Hid (stepE l x = 4) := Lib.hid (by rw [HE2.out, hf, eo, if_pos ⟨rfl, j0⟩])
          clear hf HE1 HE2
          go_wp2_with fail
          go_ret2
          exact rpost_err HE3.out (by omega) (box2 _ _ _)
        | true =>
          have HE3 : Hid (stepE l x = 0) := Lib.hid (by rw [HE2.out, eo, if_neg (by simp)])
          clear hf HE1 HE2
          go_wp2_with fail
          (with_reducible refine (HP.out _ (box2 _ _ _)).mono ?_)
          rintro e w4 ⟨g, cap, rfl, hr4, hb4⟩
          have R4 := Lib.hid hr4
          have B4 := Lib.hid ((box2 w _ _).trans (hb4.mono (box2 w _ _).size))
          clear hr4 hb4
          go_wp2_with fail
          go_ret2
          exact rpost_ok HE3.out HX1.out HLN.out R4.out B4.out
end Go.Proofs.YtlnfdpdancolmaaDoor
