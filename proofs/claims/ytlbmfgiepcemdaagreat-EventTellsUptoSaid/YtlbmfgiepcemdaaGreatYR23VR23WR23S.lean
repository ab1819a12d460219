/- ref23.values. Conditions: those in each statement. ref23.Bytes as a plain function. No walk here. append of a string's bytes onto a row of the call's own; a string as such a row. Conditions: those in each statement. -/
import Derived.Test.YtlbmfgiepcemdaaGreatYR23NR23PR23R
import Derived.Test.YtlbmfgiepcemdaaGreatYEvWrite
import Derived.Test.YtlbmfgiepcemdaaGreatYEvBack
import Derived.Lib.AppendStr
namespace Go.Proofs.YtlbmfgiepcemdaaGreat
open Go.RowKit Go.Sort

def valuesB (l : List V) : ByteArray := ⟨((numB l.length).data.toList ++ bytesL l).toArray⟩
theorem bytesL_take_len (l : List V) (i : Nat) : (bytesL (l.take i)).length ≤ 9 * bulkV l := Nat.le_trans (bytesL_len _) (Nat.mul_le_mul_left _ (bulkV_take l i))
set_option maxHeartbeats 4000000 in
set_option maxRecDepth 100000 in
theorem values23_any (l : List V) (A : Option Addr) (c : Nat) (w : World) (hb : bulkV l ≤ 2097152) (hwf : WfV l) (hr : Rd (Lt w.heap.size) w (vs l) (.slice A l.length c)) :
    Calls Tryz.prog 48 #[.slice A l.length c] w fun e w' => e = .returned (.string (valuesB l)) ∧ Below w.heap.size w w' := by
  have HR := Lib.hid hr
  have HW := Lib.hid hwf
  have hll := bulkV_len l
  have HN := Lib.hid (r02num_any l.length (by omega) w)
  have hnz : (numB l.length).size ≤ 9 := numB_size _
  have HV : Hid (valuesB l = ⟨((numB l.length).data.toList ++ bytesL l).toArray⟩) := Lib.hid rfl
  generalize valuesB l = R at *
  generalize numB l.length = hd at *
  clear hr hwf
  go_enter Tryz.func48, Tryz.ntmps48
  go_wp2_with fail
  (with_reducible refine HN.out.mono ?_)
  rintro e w1 ⟨rfl, hb1⟩
  have B1 := Lib.hid hb1
  clear hb1 HN
  go_wp2_with fail
  go_loopw [3, 4] (fun s3 s4 wr => ∃ (i : Nat) (acc : ByteArray), i ≤ l.length ∧ s4 = .int .i64 i ∧ s3 = .string acc ∧ Hid (acc.data.toList = hd.data.toList ++ bytesL (l.take i)) ∧ Hid (Below w.heap.size w wr)) (fun _ s4 _ => l.length - (intOf s4).toNat)
  case atStart => exact ⟨0, hd, by omega, rfl, rfl, Lib.hid (by simp [bytesL]), B1⟩
  case round =>
    obtain ⟨i, acc, hi, rfl, rfl, HQ, HB⟩ := hrel
    have hbt := bytesL_take_len l i
    have hacc : acc.size ≤ 9 + 9 * bulkV l := by
      have := congrArg List.length HQ.out
      rw [List.length_append, size_toList, size_toList] at this
      omega
    by_cases hlt : i < l.length
    · obtain ⟨b, off, kd, t', n', m', s', l', A', c', e, hlb, hget, h2⟩ := vs_at (HR.out.belows HB.out) hlt
      subst e
      obtain ⟨c0, c1, c2, c3, c4, c5, r5⟩ := h2
      have hbk := bulkV_get _ _ _ hget
      have HC := Lib.hid (rBytes_any kd t' n' m' s' l' A' c' wr (by omega) (WfV_get _ _ _ HW.out hget) r5)
      have hyl := bytesL_len [.mk kd t' n' m' s' l']
      have HQ2 : Hid ((acc ++ bytesP nodeP (.mk kd t' n' m' s' l')).data.toList = hd.data.toList ++ bytesL (l.take (i + 1))) := Lib.hid (by
        rw [ByteArray.data_append, Array.toList_append, HQ.out, bytesL_snoc l i _ hget, List.append_assoc])
      have hys : (bytesP nodeP (.mk kd t' n' m' s' l')).size ≤ 9 * (V.mk kd t' n' m' s' l').bulk := by
        have := hyl
        simp only [bytesL, List.flatMap_cons, List.flatMap_nil, List.append_nil, bulkV] at this
        rw [size_toList] at this
        omega
      generalize bytesP nodeP (.mk kd t' n' m' s' l') = y at *
      clear r5 hget HQ hyl
      go_wp2_with fail
      (with_reducible refine HC.out.mono ?_)
      rintro e w4 ⟨rfl, hb4⟩
      have B4 := Lib.hid (HB.out.trans (hb4.mono HB.out.size))
      clear hb4
      go_wp2_with fail
      exact ⟨⟨i + 1, acc ++ y, by omega, by go_num, rfl, HQ2, B4⟩, by simp [intOf]; omega⟩
    · obtain rfl : i = l.length := by omega
      have HE : Hid (R = acc) := Lib.hid (by
        rw [HV.out]
        have := HQ.out
        rw [List.take_length] at this
        rw [← this, bytes_mk_toList])
      clear HQ
      go_wp2_with fail
      go_ret
      exact ⟨by rw [HE.out]; rfl, HB.out⟩
end Go.Proofs.YtlbmfgiepcemdaaGreat
namespace Go.Proofs.YtlbmfgiepcemdaaGreat
open Go.RowKit

/-- how many events from here on the inner loop takes; none: one of them is of the same kind but not the same -/
def refSpan (x : Ev) : List Ev → Option Nat
  | [] => some 0
  | y :: l => if (y.kind == x.kind) && (y.n == 0) then (if eqE y x then (refSpan x l).map (· + 1) else none) else some 0
def refB : Nat → List Ev → Option (List UInt8)
  | 0, _ => some []
  | _ + 1, [] => some []
  | F + 1, x :: r => if rightE x then
      if groupedE x then (refSpan x (x :: r)).bind fun k => (refB F ((x :: r).drop k)).map (groupB x k ++ ·)
      else (refB F r).map (writeS x ++ ·)
    else none
theorem none_ev {x : Ev} {k : Int} (h : noneE x = true) (hk : x.kind = k) (hn : x.n = 0) : x = evN k 0 := by
  have h1 := rest_no x 0
  rw [h] at h1
  have h2 : eqE ⟨0, x.path, x.msg, x.args, x.ord, x.vk, x.vt, x.vn, x.vm, x.vx, x.vl, 0⟩ zE = true := by
    cases he : eqE ⟨0, x.path, x.msg, x.args, x.ord, x.vk, x.vt, x.vn, x.vm, x.vx, x.vl, 0⟩ zE with
    | true => rfl
    | false => rw [he] at h1; simp at h1
  exact ev_two hk hn h2
theorem right_two {x : Ev} (h : rightE x = true) (hk : x.kind = 2) (hn : x.n = 0) : x = evN 2 0 := by
  rw [← right23_eq] at h
  unfold right23 at h
  rw [hk] at h
  have h1 : (noneE x && decide (0 ≤ x.n ∧ x.n ≤ 1099511627776)) = true := h
  rw [Bool.and_eq_true] at h1
  exact none_ev h1.1 hk hn
theorem right_three {x : Ev} (h : rightE x = true) (hk : x.kind = 3) : x = evN 3 0 := by
  rw [← right23_eq] at h
  unfold right23 at h
  rw [hk] at h
  have h1 : (noneE x && (x.n == 0)) = true := h
  rw [Bool.and_eq_true] at h1
  exact none_ev h1.1 hk (by simpa using h1.2)
theorem refSpan_all {x : Ev} (hx : rightE x = true) (hg : groupedE x = true) : ∀ l : List Ev, (∀ y, y ∈ l → rightE y = true) → refSpan x l = some (spanE x l)
  | [], _ => rfl
  | y :: l, h => by
    have ih := refSpan_all hx hg l (fun z hz => h z (List.mem_cons_of_mem _ hz))
    have hy := h y List.mem_cons_self
    rw [refSpan, spanE]
    have hk : x.kind = 3 ∨ x.kind = 2 ∧ x.n = 0 := by
      unfold groupedE at hg; simpa using hg
    rcases hk with hk | ⟨hk, hn⟩
    · obtain rfl := right_three hx hk
      by_cases hy3 : y.kind = 3
      · obtain rfl := right_three hy hy3
        rw [ih, (eqE_iff _ _).2 rfl]; rfl
      · have h1 : (y.kind == (evN 3 0).kind) = false := by rw [beq_eq_false_iff_ne]; exact hy3
        unfold joins
        rw [h1]; simp
    · obtain rfl := right_two hx hk hn
      by_cases hy2 : y.kind = 2
      · by_cases hyn : y.n = 0
        · obtain rfl := right_two hy hy2 hyn
          rw [ih, (eqE_iff _ _).2 rfl]; rfl
        · have h1 : (y.n == 0) = false := by rw [beq_eq_false_iff_ne]; exact hyn
          have h2 : groupedE y = false := by unfold groupedE; rw [hy2, h1]; rfl
          unfold joins
          rw [h1, h2]; simp
      · have h1 : (y.kind == (evN 2 0).kind) = false := by rw [beq_eq_false_iff_ne]; exact hy2
        unfold joins
        rw [h1]; simp
theorem span_no {x : Ev} (hg : groupedE x = false) (l : List Ev) : spanE x l = 0 := by
  cases l with
  | nil => rfl
  | cons y l => rw [spanE]; unfold joins; rw [hg]; rfl
theorem refB_right : ∀ (F : Nat) (l : List Ev), l.length ≤ F → (∀ y, y ∈ l → rightE y = true) → refB F l = some (groupsE (runsE F l))
  | 0, [], _, _ => rfl
  | 0, _ :: _, h, _ => absurd h (by simp)
  | _ + 1, [], _, _ => rfl
  | F + 1, x :: r, h, hr => by
    have hx := hr x List.mem_cons_self
    have hl : r.length ≤ F := by rw [List.length_cons] at h; omega
    rw [refB, if_pos hx, runsE]
    cases hg : groupedE x with
    | true =>
      have hj : joins x x = true := by unfold joins; rw [hg]; simp
      rw [if_pos rfl, refSpan_all hx hg _ hr, spanE, if_pos hj, Option.bind_some, List.drop_succ_cons,
        refB_right F (r.drop (spanE x r)) (by rw [List.length_drop]; omega) (fun y hy => hr y (List.mem_cons_of_mem _ (List.mem_of_mem_drop hy)))]
      rfl
    | false =>
      rw [if_neg (by simp), span_no hg, List.drop_zero, refB_right F r hl (fun y hy => hr y (List.mem_cons_of_mem _ hy))]
      have h3 : (x.kind == 3) = false := by
        unfold groupedE at hg
        rw [Bool.or_eq_false_iff] at hg
        exact hg.1
      have h4 : groupB x (0 + 1) = writeS x := by unfold groupB; rw [h3, hg]; rfl
      show some (writeS x ++ _) = some (groupB x (0 + 1) ++ _)
      rw [h4]; rfl
theorem refSpan_same {x : Ev} : ∀ (l : List Ev) (k : Nat), refSpan x l = some k → ∀ y, y ∈ l.take k → y = x
  | [], _, _, y, hy => by simp at hy
  | z :: l, k, h, y, hy => by
    rw [refSpan] at h
    split at h
    · split at h
      · rename_i he
        cases hs : refSpan x l with
        | none => rw [hs] at h; cases h
        | some j =>
          rw [hs] at h
          obtain rfl := Option.some.inj h
          rw [List.take_succ_cons] at hy
          rcases List.mem_cons.1 hy with rfl | hy
          · exact (eqE_iff _ _).1 he
          · exact refSpan_same l j hs y hy
      · cases h
    · obtain rfl := Option.some.inj h
      simp at hy
theorem grouped_n {x : Ev} (hx : rightE x = true) (hg : groupedE x = true) : x.n = 0 := by
  have hk : x.kind = 3 ∨ x.kind = 2 ∧ x.n = 0 := by
    unfold groupedE at hg; simpa using hg
  rcases hk with hk | ⟨_, hn⟩
  · rw [right_three hx hk]; rfl
  · exact hn
theorem refB_wrong : ∀ (F : Nat) (l : List Ev), l.length ≤ F → (∃ y, y ∈ l ∧ rightE y = false) → refB F l = none
  | 0, [], _, ⟨y, hy, _⟩ => by simp at hy
  | 0, _ :: _, h, _ => absurd h (by simp)
  | _ + 1, [], _, ⟨y, hy, _⟩ => by simp at hy
  | F + 1, x :: r, h, ⟨y, hy, hb⟩ => by
    have hl : r.length ≤ F := by rw [List.length_cons] at h; omega
    rw [refB]
    cases hx : rightE x with
    | false => rw [if_neg (by simp)]
    | true =>
      rw [if_pos rfl]
      cases hg : groupedE x with
      | true =>
        rw [if_pos rfl]
        cases hs : refSpan x (x :: r) with
        | none => rfl
        | some k =>
          rw [Option.bind_some]
          have hk : 1 ≤ k := by
            rw [refSpan, if_pos (by rw [grouped_n hx hg]; simp), if_pos ((eqE_iff _ _).2 rfl)] at hs
            cases hq : refSpan x r with
            | none => rw [hq] at hs; cases hs
            | some j => rw [hq] at hs; have e : j + 1 = k := Option.some.inj hs; omega
          have hm : y ∈ (x :: r).drop k := by
            rw [← List.take_append_drop k (x :: r)] at hy
            rcases List.mem_append.1 hy with hy | hy
            · have := refSpan_same _ _ hs y hy
              rw [this, hx] at hb; cases hb
            · exact hy
          rw [refB_wrong F ((x :: r).drop k) (by rw [List.length_drop]; omega) ⟨y, hm, hb⟩]; rfl
      | false =>
        rw [if_neg (by simp)]
        have hm : y ∈ r := by
          rcases List.mem_cons.1 hy with rfl | hy
          · rw [hx] at hb; cases hb
          · exact hy
        rw [refB_wrong F r hl ⟨y, hm, hb⟩]; rfl
/-- what ref23.Bytes comes to -/
theorem refB_bytes (l : List Ev) (h : l.length ≤ 1048576) : (match refB l.length l with | some bs => (⟨((numB l.length).data.toList ++ bs).toArray⟩ : ByteArray) | none => ⟨#[]⟩) = bytesE l := by
  unfold bytesE
  rw [if_neg (by omega)]
  cases ha : l.all rightE with
  | true => rw [refB_right _ _ (Nat.le_refl _) (fun y hy => List.all_eq_true.1 ha y hy), if_pos rfl]
  | false =>
    rw [refB_wrong _ _ (Nat.le_refl _) (by
      have := List.all_eq_false.1 ha
      obtain ⟨y, hy, hb⟩ := this
      exact ⟨y, hy, by simpa using hb⟩), if_neg (by simp)]
end Go.Proofs.YtlbmfgiepcemdaaGreat
namespace Go.Proofs.YtlbmfgiepcemdaaGreat
open Go.RowKit

theorem wp_append_str {w : World} {ops : Array Oper} {rest : List Oper} {o : Oper} {a : Act} {Q : Exit → Act → World → Prop} (hgd : o.guard = none) (s x : Operand)
    (ho : o.op = .call { callee := .builtin .append, args := #[s, x], argTypes := #[68, 9] })
    (B : Nat) (hB : B ≤ w.heap.size) (v : Value) (bs : List UInt8) (hs : a.eval s = v) (hown : RowB B w v bs)
    (y : ByteArray) (hx : a.eval x = .string y) (hl : bs.length + y.size ≤ 140737488355328)
    (h : ∀ v' w', RowB B w' v' (bs ++ y.data.toList) → w.grownBy w' v.ownBlock → wpList Tryz.prog ops Q rest (a.put o.dst v') w') : wpList Tryz.prog ops Q (o :: rest) a w := by
  obtain ⟨i0, hi0, hz0, hz1, hz2⟩ := info_parts infoB
  refine Lib.wpList_append_own_string w hgd s x 68 9 ho B 5 i0 Tryz.underlying68 Tryz.underlying9 hi0 hz0 hz1 hz2 v bs.length (Lib.byteCells bs) hs hown y hx (by unfold maxLen; omega) hl hB ?_
  intro v' w' h2 h3 _
  refine h v' w' ?_ h3
  unfold RowB
  rw [List.length_append, size_toList, show Lib.byteCells (bs ++ y.data.toList) = Lib.byteCells bs ++ Lib.strCells y by simp [Lib.byteCells, Lib.strCells]]
  exact h2
end Go.Proofs.YtlbmfgiepcemdaaGreat
