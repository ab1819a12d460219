/- Plain laws on undoing and performing the difference of two lists of requests; then the walk of retroactlaw44.turn. Conditions: those in each statement. -/
import Derived.Test.YtlnfdpdancolmaaDoorPlainS
import Derived.Test.YtlnfdpdancolmaaDoorDiff
import Derived.Deep.RegionHeld3
import Derived.Deep.AppendLies
import Derived.Laws.Concat
namespace Go.Proofs.YtlnfdpdancolmaaDoor
open Go.RowKit

theorem core_key (o : Out) : (core o).key = o.key := rfl
theorem nodup_core {L : List Out} (h : Distinct L) : (L.map core).Nodup := by
  have h1 := ((distinct_iff L).1 h).1
  unfold keysOf at h1
  unfold List.Nodup at h1 ⊢
  rw [List.pairwise_map] at h1 ⊢
  exact h1.imp fun {a b} hab e => hab (by rw [← core_key a, e, core_key])
theorem same_of_mem {L M : List Out} (hL : Distinct L) (hM : Distinct M) (h : ∀ o, o ∈ L.map core ↔ o ∈ M.map core) : (decide (L.length = M.length) && sameS L M) = true := by
  have hp : (L.map core).Perm (M.map core) := (List.perm_ext_iff_of_nodup (nodup_core hL) (nodup_core hM)).2 h
  have hl := hp.length_eq
  rw [List.length_map, List.length_map] at hl
  rw [decide_eq_true hl, sameS_perm _ _ hp]; rfl

/-- the command that undoes an effect, and the one that performs it -/
def undoC (o : Out) : Cmd := ⟨⟨#[117]⟩ ++ o.key, 2, o.key, ⟨#[]⟩, ⟨#[]⟩, []⟩
def doC (o : Out) : Cmd := ⟨⟨#[100]⟩ ++ o.key, 1, ⟨#[]⟩, o.key, o.name, o.args⟩
def turnS (u d : List Out) : List Cmd := u.map undoC ++ d.map doC

theorem undo_fold : ∀ (U L : List Out), Distinct L → Distinct U → (∀ u ∈ U, ∃ o ∈ L, o.key.toList = u.key.toList) →
    ∃ M, foldS L (U.map undoC) = (M, 0) ∧ Distinct M ∧ ∀ o, o ∈ M ↔ o ∈ L ∧ ∀ u ∈ U, o.key.toList ≠ u.key.toList
  | [], L, hL, _, _ => ⟨L, rfl, hL, fun o => by simp⟩
  | u :: U, L, hL, hU, hin => by
    have hU2 := (distinct_iff _).1 hU
    unfold keysOf at hU2
    rw [List.map_cons, List.nodup_cons] at hU2
    have hU' : Distinct U := (distinct_iff U).2 ⟨hU2.1.2, fun o ho => hU2.2 o (List.mem_cons_of_mem _ ho)⟩
    have hE : stepE L (undoC u) = 0 := by
      obtain ⟨o, ho, hk⟩ := hin u List.mem_cons_self
      have : ¬ findI L u.key < 0 := fun hn => findI_none hn o ho hk
      show (if (2 : Int) = 2 then (if findI L u.key < 0 then 5 else 0) else _) = (0 : Int)
      rw [if_pos rfl, if_neg this]
    have hD := step_distinct hL hE
    have hm : ∀ o, o ∈ stepR L (undoC u) ↔ o ∈ L ∧ o.key.toList ≠ u.key.toList := fun o => by
      rw [mem_step hL hE]
      unfold Keep Add
      show (o ∈ L ∧ ((2 : Int) = 1 ∨ o.key.toList ≠ u.key.toList)) ∨ (((2 : Int) = 1 ∨ (2 : Int) = 4) ∧ _) ∨ ((2 : Int) = 3 ∧ _) ↔ _
      simp
    obtain ⟨M, h1, h2, h3⟩ := undo_fold U (stepR L (undoC u)) hD hU' (fun v hv => by
      obtain ⟨o, ho, hk⟩ := hin v (List.mem_cons_of_mem _ hv)
      refine ⟨o, (hm o).2 ⟨ho, fun e => ?_⟩, hk⟩
      exact hU2.1.1 (List.mem_map.2 ⟨v, hv, by rw [← hk, e]⟩))
    refine ⟨M, ?_, h2, fun o => ?_⟩
    · rw [List.map_cons, foldS, if_pos hE, h1]
    · rw [h3, hm]
      constructor
      · rintro ⟨⟨h4, h5⟩, h6⟩
        refine ⟨h4, fun v hv => ?_⟩
        rcases List.mem_cons.1 hv with rfl | hv
        · exact h5
        · exact h6 v hv
      · rintro ⟨h4, h5⟩
        exact ⟨⟨h4, h5 u List.mem_cons_self⟩, fun v hv => h5 v (List.mem_cons_of_mem _ hv)⟩

theorem do_fold : ∀ (D L : List Out), Distinct L → Distinct D → (∀ d ∈ D, ∀ o ∈ L, o.key.toList ≠ d.key.toList) →
    ∃ M, foldS L (D.map doC) = (M, 0) ∧ Distinct M ∧ ∀ o, o ∈ M ↔ o ∈ L ∨ ∃ d ∈ D, o = made (doC d)
  | [], L, hL, _, _ => ⟨L, rfl, hL, fun o => by simp⟩
  | d :: D, L, hL, hD, hno => by
    have hD2 := (distinct_iff _).1 hD
    unfold keysOf at hD2
    rw [List.map_cons, List.nodup_cons] at hD2
    have hD' : Distinct D := (distinct_iff D).2 ⟨hD2.1.2, fun o ho => hD2.2 o (List.mem_cons_of_mem _ ho)⟩
    have hE : stepE L (doC d) = 0 := by
      have h1 : findI L d.key < 0 := (findI_iff L d.key).2 (hno d List.mem_cons_self)
      have h2 : ¬ d.key.toList.isEmpty = true := fun h => hD2.2 d List.mem_cons_self (List.isEmpty_iff.1 h)
      show (if (1 : Int) = 2 then _ else if (1 : Int) = 3 then _ else if (1 : Int) = 1 then (if d.key.toList.isEmpty then 1 else if 0 ≤ findI L d.key then 4 else 0) else _) = (0 : Int)
      rw [if_neg (by decide), if_neg (by decide), if_pos rfl, if_neg h2, if_neg (by omega)]
    have hS := step_distinct hL hE
    have hm : ∀ o, o ∈ stepR L (doC d) ↔ o ∈ L ∨ o = made (doC d) := fun o => by
      rw [mem_step hL hE]
      unfold Keep Add
      show (o ∈ L ∧ ((1 : Int) = 1 ∨ _)) ∨ (((1 : Int) = 1 ∨ (1 : Int) = 4) ∧ _) ∨ ((1 : Int) = 3 ∧ _) ↔ _
      simp
    obtain ⟨M, h1, h2, h3⟩ := do_fold D (stepR L (doC d)) hS hD' (fun v hv o ho => by
      rcases (hm o).1 ho with ho | rfl
      · exact hno v (List.mem_cons_of_mem _ hv) o ho
      · intro e
        exact hD2.1.1 (List.mem_map.2 ⟨v, hv, by rw [← e]; rfl⟩))
    refine ⟨M, ?_, h2, fun o => ?_⟩
    · rw [List.map_cons, foldS, if_pos hE, h1]
    · rw [h3, hm]
      constructor
      · rintro ((h4 | h4) | ⟨v, hv, e⟩)
        · exact .inl h4
        · exact .inr ⟨d, List.mem_cons_self, h4⟩
        · exact .inr ⟨v, List.mem_cons_of_mem _ hv, e⟩
      · rintro (h4 | ⟨v, hv, e⟩)
        · exact .inl (.inl h4)
        · rcases List.mem_cons.1 hv with rfl | hv
          · exact .inl (.inr e)
          · exact .inr ⟨v, hv, e⟩

theorem matchedI_none (a : List Req) (i : Nat) : matchedI a [] i = false := by
  unfold matchedI
  cases a[i]? with
  | none => rfl
  | some r => simp
theorem onlyTo_none (a : List Req) : ∀ n, onlyTo a [] n = a.take n
  | 0 => by simp [onlyTo]
  | n + 1 => by
    rw [onlyTo_succ, onlyTo_none a n, matchedI_none, List.take_add_one]; rfl
theorem onlyS_none (a : List Req) : onlyS a [] = a := by
  unfold onlyS; rw [onlyTo_none, List.take_length]
theorem effS_get (kf : Req → ByteArray) (a : List Req) (i : Nat) : (effS kf a)[i]? = a[i]?.map (effR kf) := by unfold effS; rw [List.getElem?_map]
/-- with distinct keys an element is unmatched just if none of b is alike -/
theorem only_mem {kf : Req → ByteArray} (hC : Compat kf) {a b : List Req} (hD : Distinct (effS kf a)) (r : Req) : r ∈ onlyS a b ↔ r ∈ a ∧ ∀ q ∈ b, alikeB q r = false := by
  have hcnt : ∀ i r, a[i]? = some r → (a.take i).countP (fun q => alikeB q r) = 0 := by
    intro i r hr
    rw [List.countP_eq_zero]
    intro q hq hal
    obtain ⟨j, hj⟩ := List.mem_iff_getElem?.1 hq
    rw [List.getElem?_take] at hj
    split at hj
    · rename_i hji
      have h1 := (hD i (effR kf r) (by rw [effS_get, hr]; rfl)).2 j (effR kf q) hji (by rw [effS_get, hj]; rfl)
      exact h1 (by show (kf q).toList = (kf r).toList; rw [hC q r hal])
    · cases hj
  unfold onlyS onlyTo
  rw [List.mem_filterMap]
  constructor
  · rintro ⟨i, hi, h⟩
    cases hr : a[i]? with
    | none => rw [hr] at h; split at h <;> cases h
    | some x =>
      rw [hr] at h
      unfold matchedI at h
      rw [hr] at h
      simp only [hcnt i x hr] at h
      split at h
      · cases h
      · rename_i hn
        obtain rfl := Option.some.inj h
        refine ⟨List.mem_of_getElem? hr, fun q hq => ?_⟩
        cases ha : alikeB q x with
        | false => rfl
        | true => exact absurd (decide_eq_true (List.countP_pos_iff.2 ⟨q, hq, ha⟩)) hn
  · rintro ⟨hr, hno⟩
    obtain ⟨i, hi⟩ := List.mem_iff_getElem?.1 hr
    have hil : i < a.length := (List.getElem?_eq_some_iff.1 hi).1
    refine ⟨i, List.mem_range.2 hil, ?_⟩
    unfold matchedI
    rw [hi]
    have : b.countP (fun q => alikeB q r) = 0 := List.countP_eq_zero.2 fun q hq h => by rw [hno q hq] at h; cases h
    simp [this]
theorem onlyTo_sub (a b : List Req) : ∀ n, (onlyTo a b n).Sublist (a.take n)
  | 0 => by simp [onlyTo]
  | n + 1 => by
    rw [onlyTo_succ, List.take_add_one]
    refine List.Sublist.append (onlyTo_sub a b n) ?_
    split
    · exact List.nil_sublist _
    · exact List.Sublist.refl _
theorem onlyS_sub (a b : List Req) : (onlyS a b).Sublist a := by
  have := onlyTo_sub a b a.length
  rwa [List.take_length] at this
theorem distinct_sub {L M : List Out} (h : M.Sublist L) (hL : Distinct L) : Distinct M := by
  rw [distinct_iff] at hL ⊢
  exact ⟨(h.map _).nodup hL.1, fun o ho => hL.2 o (h.subset ho)⟩
theorem mem_effS {kf : Req → ByteArray} {a : List Req} {o : Out} : o ∈ effS kf a ↔ ∃ r ∈ a, effR kf r = o := by unfold effS; rw [List.mem_map]
theorem core_made (kf : Req → ByteArray) (r : Req) : core (made (doC (effR kf r))) = core (effR kf r) := rfl
theorem made_eff (kf : Req → ByteArray) (r : Req) : made (doC (effR kf r)) = core (effR kf r) := rfl

/-- THE TURN: performing the requests of a, then undoing and performing the difference, puts those of b into force -/
theorem turns_plain {kf : Req → ByteArray} (hC : Compat kf) {a b : List Req} (hA : Distinct (effS kf a)) (hB : Distinct (effS kf b)) (hab : ∀ x ∈ a, ∀ y ∈ b, kf x = kf y → alikeB x y = true) :
    ∃ X Y, foldS [] (turnS [] (effS kf a)) = (X, 0) ∧ foldS X (turnS (effS kf (onlyS a b)) (effS kf (onlyS b a))) = (Y, 0) ∧
      (decide (X.length = (effS kf a).length) && sameS X (effS kf a)) = true ∧ (decide (Y.length = (effS kf b).length) && sameS Y (effS kf b)) = true := by
  have h0 : Distinct ([] : List Out) := fun i o h => by simp at h
  obtain ⟨X, x1, x2, x3⟩ := do_fold (effS kf a) [] h0 hA (fun d _ o ho => by cases ho)
  have hX : ∀ o, o ∈ X ↔ ∃ r ∈ a, o = core (effR kf r) := fun o => by
    rw [x3]
    constructor
    · rintro (h | ⟨d, hd, rfl⟩)
      · cases h
      · obtain ⟨r, hr, rfl⟩ := mem_effS.1 hd
        exact ⟨r, hr, made_eff kf r⟩
    · rintro ⟨r, hr, rfl⟩
      exact .inr ⟨effR kf r, mem_effS.2 ⟨r, hr, rfl⟩, (made_eff kf r).symm⟩
  have hU : Distinct (effS kf (onlyS a b)) := distinct_sub ((onlyS_sub a b).map _) hA
  have hD : Distinct (effS kf (onlyS b a)) := distinct_sub ((onlyS_sub b a).map _) hB
  obtain ⟨M, m1, m2, m3⟩ := undo_fold (effS kf (onlyS a b)) X x2 hU (fun u hu => by
    obtain ⟨r, hr, rfl⟩ := mem_effS.1 hu
    exact ⟨core (effR kf r), (hX _).2 ⟨r, ((only_mem hC hA r).1 hr).1, rfl⟩, rfl⟩)
  have hkey : ∀ x ∈ a, ∀ y ∈ b, (kf x).toList = (kf y).toList → alikeB x y = true := fun x hx y hy e => hab x hx y hy (bytes_ext e)
  have hM : ∀ o, o ∈ M ↔ ∃ r ∈ a, o = core (effR kf r) ∧ ∃ q ∈ b, alikeB q r = true := fun o => by
    rw [m3, hX]
    constructor
    · rintro ⟨⟨r, hr, rfl⟩, hno⟩
      refine ⟨r, hr, rfl, ?_⟩
      rcases Classical.em (∃ q ∈ b, alikeB q r = true) with h | h
      · exact h
      · exfalso
        refine hno (effR kf r) (mem_effS.2 ⟨r, (only_mem hC hA r).2 ⟨hr, fun q hq => ?_⟩, rfl⟩) rfl
        cases hq2 : alikeB q r with
        | false => rfl
        | true => exact absurd ⟨q, hq, hq2⟩ h
    · rintro ⟨r, hr, rfl, q, hq, hal⟩
      refine ⟨⟨r, hr, rfl⟩, fun u hu e => ?_⟩
      obtain ⟨p, hp, rfl⟩ := mem_effS.1 hu
      have hp2 := (only_mem hC hA p).1 hp
      have e2 : (kf r).toList = (kf p).toList := e
      have e3 : (kf p).toList = (kf q).toList := by rw [← e2, hC q r hal]
      have := hkey p hp2.1 q hq e3
      rw [alike_symm, hp2.2 q hq] at this
      cases this
  obtain ⟨Y, y1, y2, y3⟩ := do_fold (effS kf (onlyS b a)) M m2 hD (fun d hd o ho e => by
    obtain ⟨p, hp, rfl⟩ := mem_effS.1 hd
    obtain ⟨r, hr, rfl, q, hq, hal⟩ := (hM o).1 ho
    have hp2 := (only_mem hC hB p).1 hp
    have := hkey r hr p hp2.1 e
    rw [hp2.2 r hr] at this
    cases this)
  refine ⟨X, Y, ?_, ?_, same_of_mem x2 hA (fun o => ?_), same_of_mem y2 hB (fun o => ?_)⟩
  · exact x1
  · unfold turnS; rw [foldS_ok _ _ _ _ m1, y1]
  · rw [List.mem_map, List.mem_map]
    constructor
    · rintro ⟨p, hp, rfl⟩
      obtain ⟨r, hr, rfl⟩ := (hX p).1 hp
      exact ⟨effR kf r, mem_effS.2 ⟨r, hr, rfl⟩, rfl⟩
    · rintro ⟨p, hp, rfl⟩
      obtain ⟨r, hr, rfl⟩ := mem_effS.1 hp
      exact ⟨core (effR kf r), (hX _).2 ⟨r, hr, rfl⟩, rfl⟩
  · rw [List.mem_map, List.mem_map]
    constructor
    · rintro ⟨p, hp, rfl⟩
      rcases (y3 p).1 hp with h | ⟨d, hd, rfl⟩
      · obtain ⟨r, hr, rfl, q, hq, hal⟩ := (hM p).1 h
        refine ⟨effR kf q, mem_effS.2 ⟨q, hq, rfl⟩, ?_⟩
        have hk := hC q r hal
        obtain ⟨_, _, h3, h4⟩ := (alikeB_iff q r).1 hal
        show core (effR kf q) = core (core (effR kf r))
        unfold core effR
        simp only [hk, h3, h4]
      · obtain ⟨r, hr, rfl⟩ := mem_effS.1 hd
        exact ⟨effR kf r, mem_effS.2 ⟨r, ((only_mem hC hB r).1 hr).1, rfl⟩, rfl⟩
    · rintro ⟨p, hp, rfl⟩
      obtain ⟨q, hq, rfl⟩ := mem_effS.1 hp
      rcases Classical.em (∃ r ∈ a, alikeB r q = true) with ⟨r, hr, hal⟩ | h
      · refine ⟨core (effR kf r), (y3 _).2 (.inl ((hM _).2 ⟨r, hr, rfl, q, hq, by rw [alike_symm]; exact hal⟩)), ?_⟩
        have hk := hC r q hal
        obtain ⟨_, _, h3, h4⟩ := (alikeB_iff r q).1 hal
        show core (core (effR kf r)) = core (effR kf q)
        unfold core effR
        simp only [hk, h3, h4]
      · refine ⟨made (doC (effR kf q)), (y3 _).2 (.inr ⟨effR kf q, mem_effS.2 ⟨q, (only_mem hC hB q).2 ⟨hq, fun r hr => ?_⟩, rfl⟩, rfl⟩), rfl⟩
        cases hq2 : alikeB r q with
        | false => rfl
        | true => exact absurd ⟨r, hr, hq2⟩ h

/-- a command as it lies in a row: with the place of its arguments -/
structure CC where
  r : Cmd
  A : Option Addr
  c : Nat
def CC.cells (x : CC) : List Value := [.string x.r.key, .int .i64 x.r.kind, .string x.r.of, .string x.r.new, .string x.r.name, .slice x.A x.r.args.length x.c]
theorem CC.cells_len (x : CC) : x.cells.length = 6 := rfl
theorem CC.one (x : CC) : ∀ u ∈ x.cells, u.oneCell' = true := by
  intro u hu
  simp only [CC.cells, List.mem_cons, List.not_mem_nil, or_false] at hu
  rcases hu with rfl | rfl | rfl | rfl | rfl | rfl <;> rfl
theorem cmds_of_own {B : Nat} {w : World} {v : Value} {ks : List CC} (h : w.ownsRow B 32 6 v ks.length (ks.flatMap CC.cells)) (hk : ∀ k ∈ ks, Rd (Lt w.heap.size) w (vs k.r.args) (.slice k.A k.r.args.length k.c)) : Rd (Lt w.heap.size) w (slCmd (ks.map CC.r)) v := by
  rcases h.2 with ⟨rfl, h0⟩ | ⟨g, cap, cur, rfl, hB, hcur, hnc, hcm, hsz, htk⟩
  · have : ks = [] := List.eq_nil_of_length_eq_zero h0
    subst this
    exact Rd.sl_nil
  · have hgl : g < w.heap.size := (Array.getElem?_eq_some_iff.1 hcur).1
    have hl : (ks.map CC.r).length = ks.length := by simp
    unfold slCmd
    rw [hl]
    refine Rd.sl_mk hnc hcm fun _ => ⟨g, 0, rfl, hgl, fun i hi => ?_⟩
    have hx : ks[i]? = some ks[i] := List.getElem?_eq_getElem hi
    generalize ks[i] = k at hx
    have hc : ∀ (j : Nat) (u : Value), j < 6 → k.cells[j]? = some u → w.cell? ⟨g, 0 + i * 6 + j, none⟩ = some u := fun j u hj hu => by
      have := h.cells (g := g) rfl (i * 6 + j) u ((flat_get CC.cells 6 CC.cells_len ks i k j hx hj).trans hu)
      rw [Addr.add_lit] at this
      rw [show 0 + i * 6 + j = 0 + (i * 6 + j) by omega]; exact this
    rw [rowsCmd_get (x := k.r) (by rw [List.getElem?_map, hx]; rfl)]
    exact row_of_CmdAt (A5 := k.A) (c5 := k.c) ⟨hc 0 _ (by omega) rfl, hc 1 _ (by omega) rfl, hc 2 _ (by omega) rfl, hc 3 _ (by omega) rfl, hc 4 _ (by omega) rfl, hc 5 _ (by omega) rfl, hk k (List.mem_of_getElem? hx)⟩
theorem infoCmd : (Tryd.prog.info? 32).map (fun i => (i.zero, i.size, i.bytes)) = some (some (.agg #[.string ⟨#[]⟩, .int .i64 0, .string ⟨#[]⟩, .string ⟨#[]⟩, .string ⟨#[]⟩, .slice none 0 0]), 6, 96) := by kernel_rfl
/-- the commands so far, in a row of the call's own; their arguments lie below B -/
def CmdsTo (B : Nat) (L : List Cmd) (w : World) (v : Value) : Prop := ∃ ks : List CC, w.ownsRow B 32 6 v ks.length (ks.flatMap CC.cells) ∧ ks.map CC.r = L ∧ ∀ k ∈ ks, Rd (Lt B) w (vs k.r.args) (.slice k.A k.r.args.length k.c)
theorem CmdsTo.nil (B : Nat) (w : World) : CmdsTo B [] w (.slice none 0 0) := ⟨[], World.ownsRow_nil _ _ _ _, rfl, fun k hk => absurd hk (by simp)⟩
theorem CmdsTo.rd {B : Nat} {L : List Cmd} {w : World} {v : Value} (h : CmdsTo B L w v) (hB : B ≤ w.heap.size) : Rd (Lt w.heap.size) w (slCmd L) v := by
  obtain ⟨ks, h1, rfl, h3⟩ := h
  exact cmds_of_own h1 (fun k hk => (h3 k hk).weaken (fun b hb => Nat.lt_of_lt_of_le hb hB))
theorem cc_news (W : World) (x : CC) : ∀ (j : Nat) (u : Value), x.cells[j]? = some u → (W.alloc (.cells #[.string x.r.key, .int .i64 x.r.kind, .string x.r.of, .string x.r.new, .string x.r.name, .slice x.A x.r.args.length x.c] 32)).cell? ((⟨W.heap.size, 0, none⟩ : Addr).add j) = some u := by
  intro j u hj
  rw [Addr.add_lit, Nat.zero_add, cell_new, ← hj]
  exact List.getElem?_toArray
/-- one command more -/
theorem cmds_more {B : Nat} {w0 W W' w6 : World} {v v' : Value} {ks : List CC} {x : CC} {L : List Cmd} (hB : B ≤ W.heap.size) (hb0 : Below B w0 W) (hb : Below W.heap.size W W') (hks : W.ownsRow B 32 6 v ks.length (ks.flatMap CC.cells)) (hL : ks.map CC.r = L) (hkr : ∀ k ∈ ks, Rd (Lt B) W (vs k.r.args) (.slice k.A k.r.args.length k.c)) (hx : Rd (Lt B) W (vs x.r.args) (.slice x.A x.r.args.length x.c))
    (ho : w6.ownsRow B 32 6 v' (ks.length + 1) (ks.flatMap CC.cells ++ x.cells)) (hg : W'.grownBy w6 v.ownBlock) : CmdsTo B (L ++ [x.r]) w6 v' ∧ Below B w0 w6 := by
  have hbb : Below B W W' := hb.mono hB
  have hb6 : Below B W w6 := hbb.grown hg (Nat.le_trans hB hb.size) (fun k hk => (own_block hks k hk).1)
  refine ⟨⟨ks ++ [x], ?_, ?_, fun k hk => ?_⟩, hb0.trans hb6⟩
  · rw [List.length_append, List.length_singleton, List.flatMap_append, List.flatMap_singleton]; exact ho
  · rw [List.map_append, hL]; rfl
  · rcases List.mem_append.1 hk with hk | hk
    · exact (hkr k hk).below hb6 (fun _ h => h)
    · simp at hk; subst hk
      exact hx.below hb6 (fun _ h => h)
def TurnPost (u d : List Out) (w : World) (e : Ending) (w' : World) : Prop := ∃ v, e = .returned v ∧ Rd (Lt w'.heap.size) w' (slCmd (turnS u d)) v ∧ Below w.heap.size w w'
theorem undo_take (l : List Out) (i : Nat) (o : Out) (h : l[i]? = some o) : (l.take (i + 1)).map undoC = (l.take i).map undoC ++ [undoC o] := by
  rw [List.take_add_one, h]; simp
theorem do_take (l : List Out) (i : Nat) (o : Out) (h : l[i]? = some o) : (l.take (i + 1)).map doC = (l.take i).map doC ++ [doC o] := by
  rw [List.take_add_one, h]; simp

set_option maxHeartbeats 8000000 in
set_option maxRecDepth 100000 in
theorem turn_any (u d : List Out) (A : Option Addr) (n c : Nat) (A' : Option Addr) (n' c' : Nat) (w : World) (hb : bulkOut u ≤ 2097152) (hb' : bulkOut d ≤ 2097152)
    (hr : Rd (Lt w.heap.size) w (slOut u) (.slice A n c)) (hr' : Rd (Lt w.heap.size) w (slOut d) (.slice A' n' c')) :
    Calls Tryd.prog 25 #[.slice A n c, .slice A' n' c'] w (TurnPost u d w) := by
  have hl := slOut_len hr
  have hln := bulkOut_len u
  have hl' := slOut_len hr'
  have hln' := bulkOut_len d
  obtain ⟨i0, hi0, hz0, hz1, hz2⟩ := info_parts infoCmd
  have HI := Lib.hid (And.intro hi0 (And.intro hz0 (And.intro hz1 hz2)))
  have HL := Lib.hid hl.1
  have HL' := Lib.hid hl'.1
  have hn : n ≤ 2097152 := by omega
  have hn' : n' ≤ 2097152 := by omega
  have HR := Lib.hid hr
  have HR' := Lib.hid hr'
  clear hr hr' hl hl' hi0 hz0 hz1 hz2
  go_enter Tryd.func25, Tryd.ntmps25
  go_wp2_with fail
  go_loopw [5, 6] (fun s5 s6 wr => ∃ (i : Nat) (v : Value), i ≤ n ∧ s6 = .int .i64 i ∧ v = s5 ∧ Hid (CmdsTo w.heap.size ((u.take i).map undoC) wr v) ∧ Hid (Below w.heap.size w wr)) (fun _ s6 _ => n - (intOf s6).toNat)
  case atStart => exact ⟨0, _, by omega, rfl, rfl, Lib.hid (CmdsTo.nil _ _), Lib.hid (Below.refl _ _)⟩
  case round =>
    obtain ⟨i, vq, hi, rfl, hvq, HO, HB⟩ := hrel
    subst hvq
    have hbs := HB.out.size
    by_cases hlt : i < n
    · obtain ⟨b, off, o, e, hlb, hget, A2, c2, hat⟩ := slOut_at (HR.out.below HB.out (fun _ h => h)) hlt
      subst e
      obtain ⟨p0, p1, p2, p3, p4, r2⟩ := hat
      have hlbw : b < wr.heap.size := Nat.lt_of_lt_of_le hlb hbs
      have hke : ¬ 9223372036854775807 < 1 + o.key.size := by have := bulkOut_get hget; unfold Out.bulk at this; omega
      have HGET := Lib.hid hget
      obtain ⟨ks, hks, hkm, hkr⟩ := HO.out
      have hkl : ks.length ≤ 2097152 := by
        have := congrArg List.length hkm
        rw [List.length_map, List.length_map, List.length_take] at this
        omega
      have hmax : ks.length + 1 ≤ maxLen := by unfold maxLen; omega
      have hbyt : (ks.length + 1) * 96 ≤ 140737488355328 := by omega
      have hba : Below wr.heap.size wr (wr.drew.alloc (.cells #[.string (undoC o).key, .int .i64 (undoC o).kind, .string (undoC o).of, .string (undoC o).new, .string (undoC o).name, .slice none (undoC o).args.length 0] 32)) := (Below.refl _ _).drew.alloc (Nat.le_refl _) _
      have HBA := Lib.hid hba
      have HKS := Lib.hid hks
      have HKR := Lib.hid (And.intro hkm hkr)
      have X5 := Lib.hid (own_below hks hba)
      have N5 := Lib.hid (cc_news wr.drew ⟨undoC o, none, 0⟩)
      have S5 : Hid (w.heap.size ≤ (wr.drew.alloc (.cells #[.string (undoC o).key, .int .i64 (undoC o).kind, .string (undoC o).of, .string (undoC o).new, .string (undoC o).name, .slice none (undoC o).args.length 0] 32)).heap.size) := Lib.hid (Nat.le_trans hbs hba.size)
      have HVL := Lib.hid (fun k hk => (own_block hks k hk).1)
      have HLB := Lib.hid hlb
      clear hget hks hkm hkr hba r2 hlb
      go_wp2_with fail
      go_region_held3 (fun w' => w'.cell? ⟨b, off + i * 5, none⟩ = some (.string o.key))
        (first | go_keep)
        (first
          | (refine step_append_lies _ (by rfl) _ _ _ (by rfl) w.heap.size 32 i0 _ 6 96 Tryd.underlying23 HI.out.1 HI.out.2.1 HI.out.2.2.1 HI.out.2.2.2 rfl (by omega) vq ks.length (ks.flatMap CC.cells) (by rfl) X5.out ⟨wr.heap.size, 0, none⟩ 1 1 (CC.cells ⟨undoC o, none, 0⟩) (by rfl) (by rfl) N5.out (CC.one _) (by omega) hmax hbyt S5.out (wr.heap.size + 1) (by simp) ?_; intro gg cap w6 hown6 hgrow hat6 hlt6; have zw6 : w6.cell? ⟨b, off + i * 5, none⟩ = some (.string o.key) := (hgrow.cell_far ⟨b, off + i * 5, none⟩ (by simp; omega) (fun h => absurd (HVL.out b h.symm) (Nat.not_le_of_lt HLB.out))).trans ((HBA.out.cell (p := ⟨b, off + i * 5, none⟩) hlbw).trans p0); have HW6 := Lib.hid (And.intro hown6 hgrow); clear hown6 hgrow hat6))
      have O6 := Lib.hid (cmds_more (x := ⟨undoC o, none, 0⟩) hbs HB.out HBA.out HKS.out HKR.out.1 HKR.out.2 (Rd.sl_nil) HW6.out.1 HW6.out.2)
      go_wp2_with fail
      exact ⟨⟨i + 1, _, by omega, by go_num, rfl, Lib.hid (by rw [undo_take u i o HGET.out]; exact O6.out.1), Lib.hid O6.out.2⟩, by simp [intOf]; omega⟩
    · obtain rfl : i = n := by omega
      have HO2 : Hid (CmdsTo w.heap.size (u.map undoC) wr vq) := Lib.hid (by have := HO.out; rw [HL.out, List.take_length] at this; exact this)
      have HBB := Lib.hid HB.out
      clear HO HB
      go_wp2_with fail
      go_loopw [5, 7] (fun s5 s7 wr => ∃ (i : Nat) (v : Value), i ≤ n' ∧ s7 = .int .i64 i ∧ v = s5 ∧ Hid (CmdsTo w.heap.size (u.map undoC ++ (d.take i).map doC) wr v) ∧ Hid (Below w.heap.size w wr)) (fun _ s7 _ => n' - (intOf s7).toNat)
      case atStart => exact ⟨0, _, by omega, rfl, rfl, Lib.hid (by rw [List.take_zero, List.map_nil, List.append_nil]; exact HO2.out), HBB⟩
      case round =>

        clear HO2 HBB hbs
        obtain ⟨k, vq, hi, rfl, hvq, HO, HB⟩ := hrel
        subst hvq
        have hbs := HB.out.size
        by_cases hlt : k < n'
        · obtain ⟨b, off, o, e, hlb, hget, A2, c2, hat⟩ := slOut_at (HR'.out.below HB.out (fun _ h => h)) hlt
          subst e
          obtain ⟨p0, p1, p2, p3, p4, r2⟩ := hat
          have hlbw : b < wr.heap.size := Nat.lt_of_lt_of_le hlb hbs
          have hke : ¬ 9223372036854775807 < 1 + o.key.size := by have := bulkOut_get hget; unfold Out.bulk at this; omega
          have HGET := Lib.hid hget
          obtain ⟨ks, hks, hkm, hkr⟩ := HO.out
          have hkl : ks.length ≤ 4194304 := by
            have := congrArg List.length hkm
            rw [List.length_append, List.length_map, List.length_map, List.length_map, List.length_take] at this
            omega
          have hmax : ks.length + 1 ≤ maxLen := by unfold maxLen; omega
          have hbyt : (ks.length + 1) * 96 ≤ 140737488355328 := by omega
          have hba : Below wr.heap.size wr (wr.drew.alloc (.cells #[.string (doC o).key, .int .i64 (doC o).kind, .string (doC o).of, .string (doC o).new, .string (doC o).name, .slice A2 (doC o).args.length c2] 32)) := (Below.refl _ _).drew.alloc (Nat.le_refl _) _
          have HBA := Lib.hid hba
          have HKS := Lib.hid hks
          have HKR := Lib.hid (And.intro hkm hkr)
          have X5 := Lib.hid (own_below hks hba)
          have N5 := Lib.hid (cc_news wr.drew ⟨doC o, A2, c2⟩)
          have S5 : Hid (w.heap.size ≤ (wr.drew.alloc (.cells #[.string (doC o).key, .int .i64 (doC o).kind, .string (doC o).of, .string (doC o).new, .string (doC o).name, .slice A2 (doC o).args.length c2] 32)).heap.size) := Lib.hid (Nat.le_trans hbs hba.size)
          have HVL := Lib.hid (fun k hk => (own_block hks k hk).1)
          have HLB := Lib.hid hlb
          have R2 := Lib.hid r2
          clear hget hks hkm hkr hba r2 hlb
          go_wp2_with fail
          go_region_held3 (fun w' => w'.cell? ⟨b, off + k * 5, none⟩ = some (.string o.key) ∧ w'.cell? ⟨b, off + k * 5 + 1, none⟩ = some (.string o.name) ∧ w'.cell? ⟨b, off + k * 5 + 2, none⟩ = some (.slice A2 o.args.length c2))
            (first | go_keep)
            (first
              | (refine step_append_lies _ (by rfl) _ _ _ (by rfl) w.heap.size 32 i0 _ 6 96 Tryd.underlying23 HI.out.1 HI.out.2.1 HI.out.2.2.1 HI.out.2.2.2 rfl (by omega) vq ks.length (ks.flatMap CC.cells) (by rfl) X5.out ⟨wr.heap.size, 0, none⟩ 1 1 (CC.cells ⟨doC o, A2, c2⟩) (by rfl) (by rfl) N5.out (CC.one _) (by omega) hmax hbyt S5.out (wr.heap.size + 1) (by simp) ?_; intro gg cap w6 hown6 hgrow hat6 hlt6; have far : ∀ j, w6.cell? ⟨b, j, none⟩ = wr.cell? ⟨b, j, none⟩ := (fun j => (hgrow.cell_far ⟨b, j, none⟩ (by simp; omega) (fun h => absurd (HVL.out b h.symm) (Nat.not_le_of_lt HLB.out))).trans (HBA.out.cell (p := ⟨b, j, none⟩) hlbw)); have zw60 := (far _).trans p0; have zw61 := (far _).trans p1; have zw62 := (far _).trans p2; have HW6 := Lib.hid (And.intro hown6 hgrow); clear far hown6 hgrow hat6))
          have O6 := Lib.hid (cmds_more (x := ⟨doC o, A2, c2⟩) hbs HB.out HBA.out HKS.out HKR.out.1 HKR.out.2 R2.out HW6.out.1 HW6.out.2)
          go_wp2_with fail
          exact ⟨⟨k + 1, _, by omega, by go_num, rfl, Lib.hid (by rw [do_take d k o HGET.out, ← List.append_assoc]; exact O6.out.1), Lib.hid O6.out.2⟩, by simp [intOf]; omega⟩
        · obtain rfl : k = n' := by omega
          go_wp2_with fail
          go_ret
          refine ⟨_, rfl, ?_, HB.out⟩
          have := HO.out.rd hbs
          rw [HL'.out, List.take_length] at this
          exact this
end Go.Proofs.YtlnfdpdancolmaaDoor
