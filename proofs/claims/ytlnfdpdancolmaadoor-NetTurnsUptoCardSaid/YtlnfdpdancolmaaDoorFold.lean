/- clone.Outs, net.Fold and net.Apply. Conditions: those in each statement. -/
import Derived.Test.YtlnfdpdancolmaaDoorStepB
namespace Go.Proofs.YtlnfdpdancolmaaDoor
open Go.RowKit

set_option maxHeartbeats 400000 in
theorem clone_outs {l : List Out} {A : Option Addr} {n c : Nat} {w : World} (hr : Rd (Lt w.heap.size) w (slOut l) (.slice A n c)) (hb : bulkOut l ≤ 2097152) :
    Calls Tryd.prog 31 #[.slice A n c] w (OwnPost 45 5 l.length (rowsOut l) w) := by
  have HE := Lib.hid (each_Out l A n c w hr hb)
  clear hr hb
  go_enter Tryd.func31, Tryd.ntmps31
  go_wp2_with fail
  (with_reducible refine HE.out.mono ?_)
  rintro e w1 ⟨v, rfl, ho, hb⟩
  have HP := Lib.hid ho
  have HB := Lib.hid hb
  clear ho hb
  go_wp2_with fail
  go_ret
  exact ⟨v, rfl, HP.out, HB.out⟩

/-- the effects behind several commands, and the error that ended them, 0 if none -/
def foldS : List Out → List Cmd → List Out × Int
  | l, [] => (l, 0)
  | l, c :: r => if stepE l c = 0 then foldS (stepR l c) r else ([], stepE l c)
theorem foldS_ok : ∀ (l : List Out) (a b : List Cmd) (L : List Out), foldS l a = (L, 0) → foldS l (a ++ b) = foldS L b
  | l, [], b, L, h => by rw [foldS] at h; injection h with h; rw [List.nil_append, h]
  | l, c :: r, b, L, h => by
    rw [foldS] at h
    rw [List.cons_append, foldS]
    by_cases he : stepE l c = 0
    · rw [if_pos he] at h ⊢; exact foldS_ok _ r b L h
    · rw [if_neg he] at h; injection h with h1 h2; exact absurd h2 he
theorem stepR_len (l : List Out) (c : Cmd) : (stepR l c).length ≤ l.length + 1 := by
  unfold stepR
  split
  · rw [List.length_eraseIdx]; split <;> omega
  · split
    · rw [List.length_modify]; omega
    · split
      · simp
      · rw [List.length_set]; omega

def FoldPost (l : List Out) (cs : List Cmd) (w : World) (e : Ending) (w' : World) : Prop :=
  ∃ v, e = .returned (.tuple #[v, .int .i64 (foldS l cs).2]) ∧ Owned w.heap.size 45 5 (foldS l cs).1.length (rowsOut (foldS l cs).1) w' v ∧ Below w.heap.size w w'

theorem take_snoc {α : Type} {l : List α} {k : Nat} {x : α} (h : l[k]? = some x) : l.take (k + 1) = l.take k ++ [x] := by
  rw [List.take_add_one, h]; rfl
theorem take_rest {α : Type} {l : List α} {k : Nat} {x : α} (h : l[k]? = some x) : l = l.take k ++ (x :: l.drop (k + 1)) := by
  have hk : k < l.length := (List.getElem?_eq_some_iff.1 h).1
  rw [List.getElem?_eq_getElem hk] at h
  have h2 := Option.some.inj h
  rw [← h2, ← List.drop_eq_getElem_cons hk, List.take_append_drop]

set_option maxHeartbeats 1000000 in
set_option maxRecDepth 100000 in
theorem fold_any (l : List Out) (cs : List Cmd) (A A' : Option Addr) (n c m c' : Nat) (w : World) (hr : Rd (Lt w.heap.size) w (slOut l) (.slice A n c)) (hb : bulkOut l ≤ 2097152) (hr' : Rd (Lt w.heap.size) w (slCmd cs) (.slice A' m c')) (hb' : bulkCmd cs ≤ 2097152) :
    Calls Tryd.prog 15 #[.slice A n c, .slice A' m c'] w (FoldPost l cs w) := by
  have hm := slCmd_len hr'
  have hlm := bulkCmd_len cs
  have hll := bulkOut_len l
  have hmm : m ≤ 299594 := by omega
  have hln : l.length ≤ 349526 := by omega
  have HM := Lib.hid hm.1
  have HR := Lib.hid hr'
  have HC := Lib.hid (clone_outs hr hb)
  have HB' := Lib.hid hb'
  clear hr hb hr' hb' hm hlm hll
  go_enter Tryd.func15, Tryd.ntmps15
  go_wp2_with fail
  (with_reducible refine HC.out.mono ?_)
  rintro e w1 ⟨v, rfl, ho, hb⟩
  have O1 := Lib.hid ho
  have B1 := Lib.hid hb
  clear ho hb HC
  go_wp2_with fail
  go_loopw [6, 14] (fun s6 s14 wr => ∃ (k : Nat) (L : List Out), k ≤ m ∧ s14 = .int .i64 k ∧ L.length ≤ l.length + k ∧ Hid (foldS l (cs.take k) = (L, 0)) ∧ Hid (Owned w.heap.size 45 5 L.length (rowsOut L) wr s6) ∧ Hid (Below w.heap.size w wr)) (fun _ i _ => m - (intOf i).toNat)
  case atStart => exact ⟨0, l, by omega, rfl, by omega, Lib.hid rfl, O1, B1⟩
  case round =>
    obtain ⟨k, L, hk, rfl, hL, HF, HO, HB⟩ := hrel
    by_cases hlt : k < m
    · obtain ⟨b, off, x, rfl, hbw, hget, A5, c5', h2⟩ := slCmd_at (HR.out.below HB.out (fun _ h => h)) hlt
      obtain ⟨d0, d1, d2, d3, d4, d5, r5⟩ := h2
      have hxb : bulkV x.args ≤ 2097152 := by have := bulkCmd_get hget; unfold Cmd.bulk at this; have := HB'.out; omega
      have hbs := HB.out.size
      have R5 := Lib.hid r5
      have HG := Lib.hid hget
      clear r5 hget
      go_wp2_with fail
      (with_reducible refine (step_any w.heap.size L x _ A5 c5' _ ?_ ?_ ?_ ?_ hxb).mono ?_)
      · exact HO.out.below ((Below.refl _ _).alloc (Nat.le_refl _) _)
      · omega
      · simp; omega
      · exact R5.out.below ((Below.refl wr.heap.size wr).alloc (Nat.le_refl _) _) (fun b hb => Nat.lt_of_lt_of_le hb hbs)
      rintro e w4 hst
      rcases hst with ⟨he, v4, rfl, ho4, hb4⟩ | ⟨he, rfl, hb4⟩
      · have O4 := Lib.hid ho4
        have B4 := Lib.hid ((HB.out.alloc hbs _).trans hb4)
        have HN : Hid (foldS l (cs.take (k + 1)) = (stepR L x, 0)) := Lib.hid (by
          rw [take_snoc HG.out, foldS_ok l _ _ L HF.out, foldS, if_pos he, foldS])
        have hlen := stepR_len L x
        clear ho4 hb4 he
        go_wp2_with fail
        go_roundw
        case rel => exact ⟨k + 1, stepR L x, by omega, by go_num, by omega, HN, O4, B4⟩
        case measure => simp [intOf]; omega
      · have B4 := Lib.hid ((HB.out.alloc hbs _).trans hb4)
        have HN : Hid (foldS l cs = ([], stepE L x)) := Lib.hid (by
          rw [take_rest HG.out, foldS_ok l _ _ L HF.out, foldS, if_neg he])
        have hne : (stepE L x != 0) = true := by simpa using he
        clear hb4 he
        generalize stepE L x = er at hne HN
        go_wp2_with fail
        go_ret2
        refine ⟨.slice none 0 0, ?_, ?_, B4.out⟩
        · rw [HN.out]; rfl
        · rw [HN.out]; exact Owned.nil _ _ _ _ _
    · have HN : Hid (foldS l cs = (L, 0)) := Lib.hid (by
        have := HF.out
        rwa [List.take_of_length_le (by have := HM.out; omega)] at this)
      go_wp2_with fail
      go_ret2
      refine ⟨u6, ?_, ?_, HB.out⟩
      · rw [HN.out]; rfl
      · rw [HN.out]; exact HO.out

set_option maxHeartbeats 1000000 in
set_option maxRecDepth 100000 in
theorem apply_any (l : List Out) (x : Cmd) (A A5 : Option Addr) (n c c5 : Nat) (w : World) (hr : Rd (Lt w.heap.size) w (slOut l) (.slice A n c)) (hb : bulkOut l ≤ 2097152) (hx : Rd (Lt w.heap.size) w (vs x.args) (.slice A5 x.args.length c5)) (hxb : x.bulk ≤ 2097152) :
    Calls Tryd.prog 12 #[.slice A n c, .agg #[.string x.key, .int .i64 x.kind, .string x.of, .string x.new, .string x.name, .slice A5 x.args.length c5]] w (FoldPost l [x] w) := by
  have HR := Lib.hid hr
  have HX := Lib.hid hx
  clear hr hx
  go_enter Tryd.func12, Tryd.ntmps12
  go_wp2_with fail
  (with_reducible refine (fold_any l [x] A _ n c 1 1 _ ?_ hb ?_ ?_).mono ?_)
  · exact (HR.out.allocs _).allocs _
  · refine slCmd_one (A5 := A5) (c5 := c5) (by unfold Lt; simp) ⟨by simp, by simp, by simp, by simp, by simp, by simp, ?_⟩
    exact (HX.out.allocs _).allocs _
  · simpa [bulkCmd] using hxb
  rintro e w1 ⟨v, rfl, ho, hb⟩
  have hbw : Below w.heap.size w w1 := (((Below.refl _ _).alloc (Nat.le_refl _) _).alloc (by simp) _).trans (hb.mono (by simp; omega))
  have HP : Hid (Owned w.heap.size 45 5 (foldS l [x]).1.length (rowsOut (foldS l [x]).1) w1 v) := Lib.hid (ho.lower (by simp; omega))
  have HB := Lib.hid hbw
  clear ho hb hbw
  generalize hfs : foldS l [x] = r at HP
  have HFS := Lib.hid hfs
  clear hfs
  go_wp2_with fail
  go_ret2
  exact ⟨v, by rw [HFS.out]; rfl, by rw [HFS.out]; exact HP.out, HB.out⟩
end Go.Proofs.YtlnfdpdancolmaaDoor
