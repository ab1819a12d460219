/- clone.Outs, net.Fold and net.Apply. Conditions: those in each statement. flat of the statements' package: it returns a bool that depends on the values alone, and writes nothing. Conditions: those in each statement. outs, commands, requests of the statements' package: each returns a bool that depends on the data alone, and writes nothing. Conditions: those in each statement. distinct of the statements' package. Conditions: those in each statement. -/
import Derived.Test.YtlnfdpdancolmaaDoorYStepB
import Derived.Test.YtlnfdpdancolmaaDoorProg
import Derived.Test.YtlnfdpdancolmaaDoorYValStructs
namespace Go.Proofs.YtlnfdpdancolmaaDoor
open Go.RowKit

set_option maxHeartbeats 400000 in
theorem clone_outs {l : List Out} {A : Option Addr} {n c : Nat} {w : World} (hr : Rd (Lt w.heap.size) w (slOut l) (.slice A n c)) (hb : bulkOut l ≤ 2097152) :
    Calls Tryd.prog 31 #[.slice A n c] w (OwnPost 45 5 l.length (rowsOut l) w) := by
  have HE := Lib.hid (each_Out l A n c w hr hb)
  clear hr hb
  go_enter Tryd.func31, Tryd.ntmps31
  go_wp2_with fail
  (with_reducible refine HE.out.mono ?_)
  rintro e w1 ⟨v, rfl, ho, hb⟩
  have HP := Lib.hid ho
  have HB := Lib.hid hb
  clear ho hb
  go_wp2_with fail
  go_ret
  exact ⟨v, rfl, HP.out, HB.out⟩

/-- the effects behind several commands, and the error that ended them, 0 if none -/
def foldS : List Out → List Cmd → List Out × Int
  | l, [] => (l, 0)
  | l, c :: r => if stepE l c = 0 then foldS (stepR l c) r else ([], stepE l c)
theorem foldS_ok : ∀ (l : List Out) (a b : List Cmd) (L : List Out), foldS l a = (L, 0) → foldS l (a ++ b) = foldS L b
  | l, [], b, L, h => by rw [foldS] at h; injection h with h; rw [List.nil_append, h]
  | l, c :: r, b, L, h => by
    rw [foldS] at h
    rw [List.cons_append, foldS]
    by_cases he : stepE l c = 0
    · rw [if_pos he] at h ⊢; exact foldS_ok _ r b L h
    · rw [if_neg he] at h; injection h with h1 h2; exact absurd h2 he
theorem stepR_len (l : List Out) (c : Cmd) : (stepR l c).length ≤ l.length + 1 := by
  unfold stepR
  split
  · rw [List.length_eraseIdx]; split <;> omega
  · split
    · rw [List.length_modify]; omega
    · split
      · simp
      · rw [List.length_set]; omega

def FoldPost (l : List Out) (cs : List Cmd) (w : World) (e : Ending) (w' : World) : Prop :=
  ∃ v, e = .returned (.tuple #[v, .int .i64 (foldS l cs).2]) ∧ Owned w.heap.size 45 5 (foldS l cs).1.length (rowsOut (foldS l cs).1) w' v ∧ Below w.heap.size w w'

theorem take_snoc {α : Type} {l : List α} {k : Nat} {x : α} (h : l[k]? = some x) : l.take (k + 1) = l.take k ++ [x] := by
  rw [List.take_add_one, h]; rfl
theorem take_rest {α : Type} {l : List α} {k : Nat} {x : α} (h : l[k]? = some x) : l = l.take k ++ (x :: l.drop (k + 1)) := by
  have hk : k < l.length := (List.getElem?_eq_some_iff.1 h).1
  rw [List.getElem?_eq_getElem hk] at h
  have h2 := Option.some.inj h
  rw [← h2, ← List.drop_eq_getElem_cons hk, List.take_append_drop]

set_option maxHeartbeats 1000000 in
set_option maxRecDepth 100000 in
theorem fold_any (l : List Out) (cs : List Cmd) (A A' : Option Addr) (n c m c' : Nat) (w : World) (hr : Rd (Lt w.heap.size) w (slOut l) (.slice A n c)) (hb : bulkOut l ≤ 2097152) (hr' : Rd (Lt w.heap.size) w (slCmd cs) (.slice A' m c')) (hb' : bulkCmd cs ≤ 2097152) :
    Calls Tryd.prog 15 #[.slice A n c, .slice A' m c'] w (FoldPost l cs w) := by
  have hm := slCmd_len hr'
  have hlm := bulkCmd_len cs
  have hll := bulkOut_len l
  have hmm : m ≤ 299594 := by omega
  have hln : l.length ≤ 349526 := by omega
  have HM := Lib.hid hm.1
  have HR := Lib.hid hr'
  have HC := Lib.hid (clone_outs hr hb)
  have HB' := Lib.hid hb'
  clear hr hb hr' hb' hm hlm hll
  go_enter Tryd.func15, Tryd.ntmps15
  go_wp2_with fail
  (with_reducible refine HC.out.mono ?_)
  rintro e w1 ⟨v, rfl, ho, hb⟩
  have O1 := Lib.hid ho
  have B1 := Lib.hid hb
  clear ho hb HC
  go_wp2_with fail
  go_loopw [6, 14] (fun s6 s14 wr => ∃ (k : Nat) (L : List Out), k ≤ m ∧ s14 = .int .i64 k ∧ L.length ≤ l.length + k ∧ Hid (foldS l (cs.take k) = (L, 0)) ∧ Hid (Owned w.heap.size 45 5 L.length (rowsOut L) wr s6) ∧ Hid (Below w.heap.size w wr)) (fun _ i _ => m - (intOf i).toNat)
  case atStart => exact ⟨0, l, by omega, rfl, by omega, Lib.hid rfl, O1, B1⟩
  case round =>
    obtain ⟨k, L, hk, rfl, hL, HF, HO, HB⟩ := hrel
    by_cases hlt : k < m
    · obtain ⟨b, off, x, rfl, hbw, hget, A5, c5', h2⟩ := slCmd_at (HR.out.below HB.out (fun _ h => h)) hlt
      obtain ⟨d0, d1, d2, d3, d4, d5, r5⟩ := h2
      have hxb : bulkV x.args ≤ 2097152 := by have := bulkCmd_get hget; unfold Cmd.bulk at this; have := HB'.out; omega
      have hbs := HB.out.size
      have R5 := Lib.hid r5
      have HG := Lib.hid hget
      clear r5 hget
      go_wp2_with fail
      (with_reducible refine (step_any w.heap.size L x _ A5 c5' _ ?_ ?_ ?_ ?_ hxb).mono ?_)
      · exact HO.out.below ((Below.refl _ _).alloc (Nat.le_refl _) _)
      · omega
      · simp; omega
      · exact R5.out.below ((Below.refl wr.heap.size wr).alloc (Nat.le_refl _) _) (fun b hb => Nat.lt_of_lt_of_le hb hbs)
      rintro e w4 hst
      rcases hst with ⟨he, v4, rfl, ho4, hb4⟩ | ⟨he, rfl, hb4⟩
      · have O4 := Lib.hid ho4
        have B4 := Lib.hid ((HB.out.alloc hbs _).trans hb4)
        have HN : Hid (foldS l (cs.take (k + 1)) = (stepR L x, 0)) := Lib.hid (by
          rw [take_snoc HG.out, foldS_ok l _ _ L HF.out, foldS, if_pos he, foldS])
        have hlen := stepR_len L x
        clear ho4 hb4 he
        go_wp2_with fail
        go_roundw
        case rel => exact ⟨k + 1, stepR L x, by omega, by go_num, by omega, HN, O4, B4⟩
        case measure => simp [intOf]; omega
      · have B4 := Lib.hid ((HB.out.alloc hbs _).trans hb4)
        have HN : Hid (foldS l cs = ([], stepE L x)) := Lib.hid (by
          rw [take_rest HG.out, foldS_ok l _ _ L HF.out, foldS, if_neg he])
        have hne : (stepE L x != 0) = true := by simpa using he
        clear hb4 he
        generalize stepE L x = er at hne HN
        go_wp2_with fail
        go_ret2
        refine ⟨.slice none 0 0, ?_, ?_, B4.out⟩
        · rw [HN.out]; rfl
        · rw [HN.out]; exact Owned.nil _ _ _ _ _
    · have HN : Hid (foldS l cs = (L, 0)) := Lib.hid (by
        have := HF.out
        rwa [List.take_of_length_le (by have := HM.out; omega)] at this)
      go_wp2_with fail
      go_ret2
      refine ⟨u6, ?_, ?_, HB.out⟩
      · rw [HN.out]; rfl
      · rw [HN.out]; exact HO.out

set_option maxHeartbeats 1000000 in
set_option maxRecDepth 100000 in
theorem apply_any (l : List Out) (x : Cmd) (A A5 : Option Addr) (n c c5 : Nat) (w : World) (hr : Rd (Lt w.heap.size) w (slOut l) (.slice A n c)) (hb : bulkOut l ≤ 2097152) (hx : Rd (Lt w.heap.size) w (vs x.args) (.slice A5 x.args.length c5)) (hxb : x.bulk ≤ 2097152) :
    Calls Tryd.prog 12 #[.slice A n c, .agg #[.string x.key, .int .i64 x.kind, .string x.of, .string x.new, .string x.name, .slice A5 x.args.length c5]] w (FoldPost l [x] w) := by
  have HR := Lib.hid hr
  have HX := Lib.hid hx
  clear hr hx
  go_enter Tryd.func12, Tryd.ntmps12
  go_wp2_with fail
  (with_reducible refine (fold_any l [x] A _ n c 1 1 _ ?_ hb ?_ ?_).mono ?_)
  · exact (HR.out.allocs _).allocs _
  · refine slCmd_one (A5 := A5) (c5 := c5) (by unfold Lt; simp) ⟨by simp, by simp, by simp, by simp, by simp, by simp, ?_⟩
    exact (HX.out.allocs _).allocs _
  · simpa [bulkCmd] using hxb
  rintro e w1 ⟨v, rfl, ho, hb⟩
  have hbw : Below w.heap.size w w1 := (((Below.refl _ _).alloc (Nat.le_refl _) _).alloc (by simp) _).trans (hb.mono (by simp; omega))
  have HP : Hid (Owned w.heap.size 45 5 (foldS l [x]).1.length (rowsOut (foldS l [x]).1) w1 v) := Lib.hid (ho.lower (by simp; omega))
  have HB := Lib.hid hbw
  clear ho hb hbw
  generalize hfs : foldS l [x] = r at HP
  have HFS := Lib.hid hfs
  clear hfs
  go_wp2_with fail
  go_ret2
  exact ⟨v, by rw [HFS.out]; rfl, by rw [HFS.out]; exact HP.out, HB.out⟩
end Go.Proofs.YtlnfdpdancolmaaDoor
namespace Go.Proofs.YtlnfdpdancolmaaDoor
open Go.RowKit

/-- one value passes, if its elements do -/
def flat1 (f : List V → Bool) (v : V) : Bool := !decide (100 < v.s.size) && !decide (100 < v.t.size) && f v.l
/-- what flat comes to, with fuel -/
def flatN : Nat → List V → Int → Bool
  | 0, _, _ => true
  | N + 1, l, d => !decide (5 < l.length) && !(decide (0 < l.length) && d == 0) && l.all (flat1 fun r => flatN N r (d - 1))

set_option maxHeartbeats 400000 in
theorem flat_none (A : Option Addr) (c : Nat) (deep : Int) (w : World) : Calls Tryd.prog 27 #[.slice A 0 c, .int .i64 deep] w fun e w' => e = .returned (.bool true) ∧ w = w' := by
  go_enter Tryd.func27, Tryd.ntmps27
  go_wp2_with fail
  go_loop [5] (fun i => i = .int .i64 0) (fun _ => 0)
  case atStart => rfl
  case round =>
    subst hrel
    go_wp2_with fail
    go_ret
    exact ⟨rfl, rfl⟩

theorem all_snoc {l : List V} {f : V → Bool} {k : Nat} {v : V} (h : (l.take k).all f = true) (hv : l[k]? = some v) (hf : f v = true) : (l.take (k + 1)).all f = true := by
  rw [List.take_add_one, hv, List.all_append, h]; simp [hf]
theorem all_no {l : List V} {f : V → Bool} {k : Nat} {v : V} (hv : l[k]? = some v) (hf : f v = false) : l.all f = false := by
  rw [List.all_eq_false]
  exact ⟨v, List.mem_of_getElem? hv, by simp [hf]⟩

set_option maxHeartbeats 1000000 in
theorem flat_any (ok : Nat → Prop) : ∀ (N : Nat) (l : List V) (A : Option Addr) (n c : Nat) (deep : Int) (w : World), bulkV l ≤ N → N ≤ 2097152 → Rd ok w (vs l) (.slice A n c) → 0 ≤ deep → deep ≤ 100 →
    Calls Tryd.prog 27 #[.slice A n c, .int .i64 deep] w fun e w' => e = .returned (.bool (flatN N l deep)) ∧ w = w' := by
  intro N
  induction N with
  | zero =>
    intro l A n c deep w hb hN hr h0 h1
    have hl := vs_len hr
    have hz : n = 0 := by have := bulkV_len l; omega
    subst hz
    exact flat_none A c deep w
  | succ N ih =>
    intro l A n c deep w hb hN hr h0 h1
    have hl := vs_len hr
    have hn : n ≤ 2097152 := by have := bulkV_len l; omega
    by_cases hn0 : n = 0
    · subst hn0
      have hz : l = [] := List.eq_nil_of_length_eq_zero hl.1.symm
      subst hz
      exact flat_none A c deep w
    have hp : 0 < n := by omega
    have HB := Lib.hid hb
    have HR := Lib.hid hr
    have IH := Lib.hid ih
    have HL := Lib.hid hl.1
    clear hl hb hr ih hn0
    by_cases h5 : 5 < n
    · have HF : Hid (flatN (N + 1) l deep = false) := Lib.hid (by
        have := HL.out; have h5' : 5 < l.length := by omega
        simp [flatN, h5'])
      go_enter Tryd.func27, Tryd.ntmps27
      go_wp2_with fail
      go_ret
      exact ⟨by rw [HF.out]; rfl, rfl⟩
    · by_cases hd : deep = 0
      · subst hd
        have HF : Hid (flatN (N + 1) l 0 = false) := Lib.hid (by
          have := HL.out; have h5' : 0 < l.length := by omega
          simp [flatN, h5'])
        go_enter Tryd.func27, Tryd.ntmps27
        go_wp2_with fail
        go_ret
        exact ⟨by rw [HF.out]; rfl, rfl⟩
      · have hd1 : 1 ≤ deep := by omega
        have hde : (deep == 0) = false := by simpa using hd
        have HF : Hid (flatN (N + 1) l deep = l.all (flat1 fun r => flatN N r (deep - 1))) := Lib.hid (by
          have := HL.out; have h5' : ¬ 5 < l.length := by omega
          rw [flatN, hde]; simp [h5'])
        clear hd
        go_enter Tryd.func27, Tryd.ntmps27
        go_wp2_with fail
        go_loop [5] (fun i => ∃ k : Nat, k ≤ n ∧ i = .int .i64 k ∧ Hid ((l.take k).all (flat1 fun r => flatN N r (deep - 1)) = true)) (fun i => n - (intOf i).toNat)
        case atStart => exact ⟨0, by omega, rfl, Lib.hid rfl⟩
        case round =>
          obtain ⟨k, hk, rfl, HK⟩ := hrel
          by_cases hlt : k < n
          · obtain ⟨b, off, kd, t, n', m, s, l', A', c', rfl, _, hget, h2⟩ := vs_at HR.out hlt
            obtain ⟨c0, c1, c2, c3, c4, c5, r5⟩ := h2
            have hbk := bulkV_get _ _ _ hget
            rw [bulk_mk] at hbk
            have hts : t.size ≤ 2097152 ∧ s.size ≤ 2097152 := by have := HB.out; omega
            have HC := Lib.hid (IH.out l' A' l'.length c' (deep - 1) w (by have := HB.out; omega) (by omega) r5 (by omega) (by omega))
            have HG := Lib.hid hget
            clear r5 hget hbk
            by_cases hs : 100 < s.size
            · have HE : Hid (flatN (N + 1) l deep = false) := Lib.hid (by rw [HF.out]; exact all_no HG.out (by simp [flat1, V.s, hs]))
              go_wp2_with fail
              go_ret
              exact ⟨by rw [HE.out]; rfl, rfl⟩
            · by_cases ht : 100 < t.size
              · have HE : Hid (flatN (N + 1) l deep = false) := Lib.hid (by rw [HF.out]; exact all_no HG.out (by simp [flat1, V.t, ht]))
                go_wp2_with fail
                go_ret
                exact ⟨by rw [HE.out]; rfl, rfl⟩
              · cases hbb : flatN N l' (deep - 1) with
                | false =>
                  have HE : Hid (flatN (N + 1) l deep = false) := Lib.hid (by rw [HF.out]; exact all_no HG.out (by simp [flat1, V.l, hbb]))
                  rw [hbb] at HC
                  clear hbb
                  go_wp2_with fail
                  (with_reducible refine HC.out.mono ?_)
                  rintro e w' ⟨rfl, rfl⟩
                  go_wp2_with fail
                  go_ret
                  exact ⟨by rw [HE.out]; rfl, rfl⟩
                | true =>
                  have HE : Hid ((l.take (k + 1)).all (flat1 fun r => flatN N r (deep - 1)) = true) := Lib.hid (all_snoc HK.out HG.out (by simp [flat1, V.l, V.s, V.t, hbb, hs, ht]))
                  rw [hbb] at HC
                  clear hbb
                  go_wp2_with fail
                  (with_reducible refine HC.out.mono ?_)
                  rintro e w' ⟨rfl, rfl⟩
                  go_wp2_with fail
                  go_round
                  case rel => exact ⟨k + 1, by omega, by go_num, HE⟩
                  case measure => simp [intOf]; omega
          · have HE : Hid (flatN (N + 1) l deep = true) := Lib.hid (by
              rw [HF.out, ← HK.out, List.take_of_length_le (by have := HL.out; omega)])
            go_wp2_with fail
            go_ret
            exact ⟨by rw [HE.out]; rfl, rfl⟩

/-- what flat comes to at depth 4 -/
def flatB (l : List V) : Bool := flatN (bulkV l) l 4
theorem flat4 {ok : Nat → Prop} {l : List V} {A : Option Addr} {n c : Nat} {w : World} (hr : Rd ok w (vs l) (.slice A n c)) (hb : bulkV l ≤ 2097152) :
    Calls Tryd.prog 27 #[.slice A n c, .int .i64 4] w fun e w' => e = .returned (.bool (flatB l)) ∧ w = w' :=
  flat_any ok (bulkV l) l A n c 4 w (Nat.le_refl _) hb hr (by omega) (by omega)
end Go.Proofs.YtlnfdpdancolmaaDoor
namespace Go.Proofs.YtlnfdpdancolmaaDoor
open Go.RowKit

def SomeBool (w : World) (e : Ending) (w' : World) : Prop := ∃ b, e = .returned (.bool b) ∧ ∃ q, w' = w.drewN q

set_option maxHeartbeats 1000000 in
theorem outs_any {ok : Nat → Prop} {l : List Out} {A : Option Addr} {n c : Nat} {w : World} (hr : Rd ok w (slOut l) (.slice A n c)) (hb : bulkOut l ≤ 2097152) :
    Calls Tryd.prog 10 #[.slice A n c] w (SomeBool w) := by
  have hl := slOut_len hr
  have hn : n ≤ 2097152 := by have := bulkOut_len l; omega
  have HR := Lib.hid hr
  have HB := Lib.hid hb
  clear hl hr hb
  go_enter Tryd.func10, Tryd.ntmps10
  go_wp2_with fail
  go_loop [3] (fun i => ∃ k : Nat, k ≤ n ∧ i = .int .i64 k) (fun i => n - (intOf i).toNat)
  case atStart => exact ⟨0, by omega, rfl⟩
  case round =>
    obtain ⟨k, hk, rfl⟩ := hrel
    by_cases hlt : k < n
    · by_cases h40 : k < 40
      · obtain ⟨b, off, x, rfl, _, hget, A2, c2, h2⟩ := slOut_at HR.out hlt
        obtain ⟨c0, c1, c2', c3, c4, r2⟩ := h2
        have hbk := bulkOut_get hget
        unfold Out.bulk at hbk
        have hts : x.key.size ≤ 2097152 ∧ x.name.size ≤ 2097152 := by have := HB.out; omega
        have HC := Lib.hid (flat4 r2 (by have := HB.out; omega))
        clear r2 hget hbk
        generalize flatB x.args = fb at HC
        by_cases hs : 100 < x.key.size
        · go_wp2_with fail
          go_ret
          exact ⟨false, rfl, 0, rfl⟩
        · by_cases ht : 100 < x.name.size
          · go_wp2_with fail
            go_ret
            exact ⟨false, rfl, 0, rfl⟩
          · go_wp2_with fail
            (with_reducible refine HC.out.mono ?_)
            rintro e w' ⟨rfl, rfl⟩
            cases fb
            · go_wp2_with fail
              go_ret
              exact ⟨false, rfl, 0, rfl⟩
            · go_wp2_with fail
              go_round
              case rel => exact ⟨k + 1, by omega, by go_num⟩
              case measure => simp [intOf]; omega
      · go_wp2_with fail
        go_ret
        exact ⟨_, rfl, 0, rfl⟩
    · go_wp2_with fail
      all_goals
        go_ret
        exact ⟨_, rfl, 0, rfl⟩

set_option maxHeartbeats 2000000 in
theorem commands_any {ok : Nat → Prop} {l : List Cmd} {A : Option Addr} {n c : Nat} {w : World} (hr : Rd ok w (slCmd l) (.slice A n c)) (hb : bulkCmd l ≤ 2097152) :
    Calls Tryd.prog 11 #[.slice A n c] w (SomeBool w) := by
  have hl := slCmd_len hr
  have hn : n ≤ 2097152 := by have := bulkCmd_len l; omega
  have HR := Lib.hid hr
  have HB := Lib.hid hb
  clear hl hr hb
  go_enter Tryd.func11, Tryd.ntmps11
  go_wp2_with fail
  go_loopw [3] (fun i wr => ∃ k q : Nat, k ≤ n ∧ i = .int .i64 k ∧ wr = w.drewN q) (fun i _ => n - (intOf i).toNat)
  case atStart => exact ⟨0, 0, by omega, rfl, rfl⟩
  case round =>
    obtain ⟨k, q, hk, rfl, rfl⟩ := hrel
    by_cases hlt : k < n
    · by_cases h40 : k < 40
      · obtain ⟨b, off, x, rfl, _, hget, A5, c5', h2⟩ := slCmd_at HR.out hlt
        obtain ⟨c0, c1, c2, c3, c4, c5, r5⟩ := h2
        have hbk := bulkCmd_get hget
        unfold Cmd.bulk at hbk
        have hts : x.key.size ≤ 2097152 ∧ x.of.size ≤ 2097152 ∧ x.new.size ≤ 2097152 ∧ x.name.size ≤ 2097152 := by have := HB.out; omega
        have HC := Lib.hid (fun (W : World) (hW : Rd ok W (vs x.args) (.slice A5 x.args.length c5')) => flat4 hW (by have := HB.out; omega))
        have HR5 := Lib.hid r5
        clear r5 hget hbk
        generalize flatB x.args = fb at HC
        have i0 : (0 : Int) ≤ (k : Int) := by omega
        have i1 : (k : Int) < (n : Int) := by omega
        have s1 : IntKind.i64.wrap ((x.key.size : Int) + (x.of.size : Int)) = (x.key.size : Int) + (x.of.size : Int) := IntWalk.i64_in _ (by omega)
        have s2 : IntKind.i64.wrap ((x.key.size : Int) + (x.of.size : Int) + (x.new.size : Int)) = (x.key.size : Int) + (x.of.size : Int) + (x.new.size : Int) := IntWalk.i64_in _ (by omega)
        have s3 : IntKind.i64.wrap ((x.key.size : Int) + (x.of.size : Int) + (x.new.size : Int) + (x.name.size : Int)) = (x.key.size : Int) + (x.of.size : Int) + (x.new.size : Int) + (x.name.size : Int) := IntWalk.i64_in _ (by omega)
        by_cases hs : (400 : Int) < (x.key.size : Int) + (x.of.size : Int) + (x.new.size : Int) + (x.name.size : Int)
        · have hd : decide ((400 : Int) < (x.key.size : Int) + (x.of.size : Int) + (x.new.size : Int) + (x.name.size : Int)) = true := by simpa using hs
          go_wp2_with fail
          go_quiet (fail)
          go_wp2_with fail
          go_ret
          exact ⟨false, rfl, _, World.drewN_drewN _ _ _⟩
        · have hd : decide ((400 : Int) < (x.key.size : Int) + (x.of.size : Int) + (x.new.size : Int) + (x.name.size : Int)) = false := by simpa using hs
          go_wp2_with fail
          go_quiet ((go_at_call 27; exact quiet_add_left (HC.out _ (HR5.out.drewN _))))
          cases fb
          · go_wp2_with fail
            go_ret
            exact ⟨false, rfl, _, World.drewN_drewN _ _ _⟩
          · go_wp2_with fail
            go_roundw
            case rel => exact ⟨k + 1, _, by omega, by go_num, rfl⟩
            case measure => simp [intOf]; omega
      · go_wp2_with fail
        go_ret
        exact ⟨_, rfl, q, rfl⟩
    · go_wp2_with fail
      all_goals
        go_ret
        exact ⟨_, rfl, q, rfl⟩
set_option maxHeartbeats 2000000 in
theorem requests_any {ok : Nat → Prop} {l : List Req} {A : Option Addr} {n c : Nat} {w : World} (hr : Rd ok w (slReq l) (.slice A n c)) (hb : bulkReq l ≤ 2097152) :
    Calls Tryd.prog 17 #[.slice A n c] w (SomeBool w) := by
  have hl := slReq_len hr
  have hn : n ≤ 2097152 := by have := bulkReq_len l; omega
  have HR := Lib.hid hr
  have HB := Lib.hid hb
  clear hl hr hb
  go_enter Tryd.func17, Tryd.ntmps17
  go_wp2_with fail
  go_loopw [3] (fun i wr => ∃ k q : Nat, k ≤ n ∧ i = .int .i64 k ∧ wr = w.drewN q) (fun i _ => n - (intOf i).toNat)
  case atStart => exact ⟨0, 0, by omega, rfl, rfl⟩
  case round =>
    obtain ⟨k, q, hk, rfl, rfl⟩ := hrel
    by_cases hlt : k < n
    · by_cases h40 : k < 30
      · obtain ⟨b, off, x, rfl, _, hget, A2, c2', h2⟩ := slReq_at HR.out hlt
        obtain ⟨c0, c1, c2, c3, c4, c5, c6, c7, r5⟩ := h2
        have hbk := bulkReq_get hget
        unfold Req.bulk at hbk
        have hts : x.path.size ≤ 2097152 ∧ x.name.size ≤ 2097152 ∧ x.reply.size ≤ 2097152 := by have := HB.out; omega
        have HC := Lib.hid (fun (W : World) (hW : Rd ok W (vs x.args) (.slice A2 x.args.length c2')) => flat4 hW (by have := HB.out; omega))
        have HR5 := Lib.hid r5
        clear r5 hget hbk
        generalize flatB x.args = fb at HC
        have i0 : (0 : Int) ≤ (k : Int) := by omega
        have i1 : (k : Int) < (n : Int) := by omega
        have s1 : IntKind.i64.wrap ((x.path.size : Int) + (x.name.size : Int)) = (x.path.size : Int) + (x.name.size : Int) := IntWalk.i64_in _ (by omega)
        have s2 : IntKind.i64.wrap ((x.path.size : Int) + (x.name.size : Int) + (x.reply.size : Int)) = (x.path.size : Int) + (x.name.size : Int) + (x.reply.size : Int) := IntWalk.i64_in _ (by omega)
        by_cases hs : (300 : Int) < (x.path.size : Int) + (x.name.size : Int) + (x.reply.size : Int)
        · have hd : decide ((300 : Int) < (x.path.size : Int) + (x.name.size : Int) + (x.reply.size : Int)) = true := by simpa using hs
          go_wp2_with fail
          go_quiet (fail)
          go_wp2_with fail
          go_ret
          exact ⟨false, rfl, _, World.drewN_drewN _ _ _⟩
        · have hd : decide ((300 : Int) < (x.path.size : Int) + (x.name.size : Int) + (x.reply.size : Int)) = false := by simpa using hs
          go_wp2_with fail
          go_quiet ((go_at_call 27; exact quiet_add_left (HC.out _ (HR5.out.drewN _))))
          cases fb
          · go_wp2_with fail
            go_ret
            exact ⟨false, rfl, _, World.drewN_drewN _ _ _⟩
          · go_wp2_with fail
            go_roundw
            case rel => exact ⟨k + 1, _, by omega, by go_num, rfl⟩
            case measure => simp [intOf]; omega
      · go_wp2_with fail
        go_ret
        exact ⟨_, rfl, q, rfl⟩
    · go_wp2_with fail
      all_goals
        go_ret
        exact ⟨_, rfl, q, rfl⟩

end Go.Proofs.YtlnfdpdancolmaaDoor
namespace Go.Proofs.YtlnfdpdancolmaaDoor
open Go.RowKit

/-- all keys of l are distinct and not empty -/
def Distinct (l : List Out) : Prop := ∀ (i : Nat) (o : Out), l[i]? = some o → o.key.toList ≠ [] ∧ ∀ (k : Nat) (p : Out), k < i → l[k]? = some p → p.key.toList ≠ o.key.toList

def DistPost (l : List Out) (w : World) (e : Ending) (w' : World) : Prop := ∃ b : Bool, e = .returned (.bool b) ∧ (b = true ↔ Distinct l) ∧ ∃ q, w' = w.drewN q

set_option maxHeartbeats 1000000 in
theorem distinct_any {ok : Nat → Prop} {l : List Out} {A : Option Addr} {n c : Nat} {w : World} (hr : Rd ok w (slOut l) (.slice A n c)) (hb : bulkOut l ≤ 2097152) :
    Calls Tryd.prog 24 #[.slice A n c] w (DistPost l w) := by
  have hl := slOut_len hr
  have hn : n ≤ 2097152 := by have := bulkOut_len l; omega
  have HR := Lib.hid hr
  have HL := Lib.hid hl.1
  clear hl hr hb
  go_enter Tryd.func24, Tryd.ntmps24
  go_wp2_with fail
  go_loopw [3, 4] (fun i _ wr => ∃ k q : Nat, k ≤ n ∧ i = .int .i64 k ∧ wr = w.drewN q ∧ Hid (∀ (j : Nat) (o : Out), j < k → l[j]? = some o → o.key.toList ≠ [] ∧ ∀ (k : Nat) (p : Out), k < j → l[k]? = some p → p.key.toList ≠ o.key.toList)) (fun i _ _ => n - (intOf i).toNat)
  case atStart => exact ⟨0, 0, by omega, rfl, rfl, Lib.hid (fun j o h => absurd h (by omega))⟩
  case round =>
    obtain ⟨k, q, hk, rfl, rfl, HK⟩ := hrel
    by_cases hlt : k < n
    · obtain ⟨b, off, x, rfl, _, hget, A2, c2, h2⟩ := slOut_at HR.out hlt
      obtain ⟨d0, _, _, _, _, _⟩ := h2
      have HG := Lib.hid hget
      clear hget
      go_wp2_with fail
      obtain ⟨wo, hwo⟩ : ∃ wo : World, wo = w.drewN q := ⟨_, rfl⟩
      have HWO := Lib.hid hwo
      clear hwo
      go_loopw [4] (fun i wr => ∃ j q : Nat, j ≤ k ∧ i = .int .i64 j ∧ wr = w.drewN q ∧ Hid (∀ (m : Nat) (p : Out), m < j → l[m]? = some p → p.key.toList ≠ x.key.toList)) (fun i _ => k - (intOf i).toNat)
      case atStart => exact ⟨0, q, by omega, rfl, rfl, Lib.hid (fun m p h => absurd h (by omega))⟩
      case round =>
        obtain ⟨j, q', hj, rfl, rfl, HJ⟩ := hrel
        by_cases hlt2 : j < k
        · obtain ⟨b', off', y, he, _, hget', A2', c2', h2'⟩ := slOut_at HR.out (i := j) (by omega)
          obtain ⟨d1, _, _, _, _, _⟩ := h2'
          injection he with he
          injection he with he1 he2
          subst he1 he2
          have HG' := Lib.hid hget'
          clear hget'
          have i0 : (0 : Int) ≤ (k : Int) := by omega
          have i1 : (k : Int) < (n : Int) := by omega
          have i2 : (0 : Int) ≤ (j : Int) := by omega
          have i3 : (j : Int) < (n : Int) := by omega
          cases hyx : (y.key.toList == x.key.toList) with
          | true =>
            have HE : Hid (¬ Distinct l) := Lib.hid (fun hd => (hd k x HG.out).2 j y hlt2 HG'.out (by simpa using hyx))
            go_wp2_with fail
            go_quiet (fail)
            go_wp2_with fail
            go_ret
            exact ⟨false, rfl, ⟨fun h => Bool.noConfusion h, fun h => absurd h HE.out⟩, _, World.drewN_drewN _ _ _⟩
          | false =>
            have HE : Hid (∀ (m : Nat) (p : Out), m < j + 1 → l[m]? = some p → p.key.toList ≠ x.key.toList) := Lib.hid (fun m p h hm => by
              rcases Nat.lt_or_ge m j with h1 | h1
              · exact HJ.out m p h1 hm
              · obtain rfl : m = j := by omega
                rw [HG'.out] at hm
                injection hm with hm
                subst hm
                simpa using hyx)
            go_wp2_with fail
            go_quiet (fail)
            go_wp2_with fail
            go_roundw
            case rel => exact ⟨j + 1, _, by omega, by go_num, rfl, HE⟩
            case measure => simp [intOf]; omega
        · cases hem : x.key.toList.isEmpty with
          | true =>
            have HE : Hid (¬ Distinct l) := Lib.hid (fun hd => (hd k x HG.out).1 (by simpa using hem))
            go_wp2_with fail
            go_ret
            exact ⟨false, rfl, ⟨fun h => Bool.noConfusion h, fun h => absurd h HE.out⟩, q', rfl⟩
          | false =>
            have HE : Hid (∀ (j : Nat) (o : Out), j < k + 1 → l[j]? = some o → o.key.toList ≠ [] ∧ ∀ (k : Nat) (p : Out), k < j → l[k]? = some p → p.key.toList ≠ o.key.toList) := Lib.hid (fun i o h ho => by
              rcases Nat.lt_or_ge i k with h1 | h1
              · exact HK.out i o h1 ho
              · obtain rfl : i = k := by omega
                rw [HG.out] at ho
                injection ho with ho
                subst ho
                exact ⟨fun he => (by rw [he] at hem; cases hem), fun m p hm hp => HJ.out m p (by omega) hp⟩)
            go_wp2_with fail
            go_roundw
            case rel => exact ⟨k + 1, q', by omega, by go_num, rfl, HE⟩
            case measure => simp [intOf]; omega
    · go_wp2_with fail
      go_ret
      exact ⟨true, rfl, ⟨fun _ => fun i o hi => HK.out i o (by
        have := HL.out
        have : i < l.length := (List.getElem?_eq_some_iff.1 hi).1
        omega) hi, fun _ => rfl⟩, q, rfl⟩
end Go.Proofs.YtlnfdpdancolmaaDoor
