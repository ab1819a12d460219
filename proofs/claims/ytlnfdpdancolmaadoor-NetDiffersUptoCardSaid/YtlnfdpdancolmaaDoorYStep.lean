/- net.step: what one command does to a slice of effects of the call's own. Conditions: those in each statement. -/
import Derived.Test.YtlnfdpdancolmaaDoorYDelete
import Derived.Deep.RegionHeld3
import Derived.OwnWalk
import Derived.Deep.AppendLies
namespace Go.Proofs.YtlnfdpdancolmaaDoor
open Go.RowKit

/-- where the first effect with that key stands, or -1 -/
def findI (l : List Out) (key : ByteArray) : Int := idx (hasKey key) l
theorem findI_cases (l : List Out) (key : ByteArray) : findI l key = -1 ∨ ∃ (i : Nat) (o : Out), findI l key = (i : Int) ∧ i < l.length ∧ l[i]? = some o ∧ hasKey key o = true := by
  unfold findI idx
  cases h : l.findIdx? (hasKey key) with
  | none => exact .inl rfl
  | some i =>
    obtain ⟨hi, hp, _⟩ := List.findIdx?_eq_some_iff_getElem.1 h
    exact .inr ⟨i, l[i], rfl, hi, List.getElem?_eq_getElem hi, hp⟩

/-- the effect that a command makes -/
def made (x : Cmd) : Out := ⟨x.new, x.name, x.args, false, 0⟩
/-- the error that a command meets, 0 if none -/
def stepE (l : List Out) (x : Cmd) : Int :=
  if x.kind = 2 then (if findI l x.of < 0 then 5 else 0)
  else if x.kind = 3 then (if findI l x.of < 0 then 5 else if (l[(findI l x.of).toNat]?.map (·.part)).getD false then 16 else 0)
  else if x.kind = 1 then (if x.new.toList.isEmpty then 1 else if 0 ≤ findI l x.new then 4 else 0)
  else if x.kind = 4 then (if findI l x.of < 0 then 5 else if x.new.toList.isEmpty then 1 else if (x.new.toList == x.of.toList) = false ∧ 0 ≤ findI l x.new then 4 else 0)
  else 1
/-- the effects behind it -/
def stepR (l : List Out) (x : Cmd) : List Out :=
  if x.kind = 2 then l.eraseIdx (findI l x.of).toNat
  else if x.kind = 3 then l.modify (findI l x.of).toNat (fun o => { o with part := true })
  else if x.kind = 1 then l ++ [made x]
  else l.set (findI l x.of).toNat (made x)

def StepPost (B : Nat) (l : List Out) (x : Cmd) (w : World) (e : Ending) (w' : World) : Prop :=
  (stepE l x = 0 ∧ ∃ v, e = .returned (.tuple #[v, .int .i64 0]) ∧ Owned B 45 5 (stepR l x).length (rowsOut (stepR l x)) w' v ∧ Below B w w') ∨
  (stepE l x ≠ 0 ∧ e = .returned (.tuple #[.slice none 0 0, .int .i64 (stepE l x)]) ∧ Below B w w')

/-- an own slice is a slice value, and reads in the world -/
theorem Owned.form {B : Nat} {l : List Out} {w : World} {v : Value} (h : Owned B 45 5 l.length (rowsOut l) w v) : ∃ A c, v = .slice A l.length c ∧ Rd (Lt w.heap.size) w (slOut l) v := by
  have hr := h.rd.weaken (ok' := Lt w.heap.size) (fun b hb => hb.2)
  rcases h with ⟨rfl, h0⟩ | ⟨g, c, rfl, _⟩
  · exact ⟨none, 0, by rw [h0], hr⟩
  · exact ⟨_, _, rfl, hr⟩

set_option maxHeartbeats 1000000 in
set_option maxRecDepth 100000 in
theorem step_undo (B : Nat) (l : List Out) (x : Cmd) (v : Value) (A : Option Addr) (c : Nat) (w : World) (hO : Owned B 45 5 l.length (rowsOut l) w v) (hn : l.length ≤ 2097152) (hB : B ≤ w.heap.size) (hk : x.kind = 2) :
    Calls Tryd.prog 32 #[v, .agg #[.string x.key, .int .i64 x.kind, .string x.of, .string x.new, .string x.name, .slice A x.args.length c]] w (StepPost B l x w) := by
  obtain ⟨A0, c0, rfl, hr⟩ := hO.form
  rw [hk]
  have HK := Lib.hid hk
  have HO := Lib.hid hO
  have HR := Lib.hid hr
  have HF := Lib.hid (findI_cases l x.of)
  clear hO hr hk
  go_enter Tryd.func32, Tryd.ntmps32
  go_wp2_with fail
  (with_reducible refine (find_any l A0 l.length c0 x.of _ ?_ (by omega)).mono ?_)
  · exact HR.out.allocs _
  rintro e w2 ⟨rfl, hb⟩
  have hfi : idx (hasKey x.of) l = findI l x.of := rfl
  rw [hfi]
  clear hfi
  have bx1 : w2.cell? ⟨w.heap.size, 1, none⟩ = some (.int .i64 2) := (hb.cell (p := ⟨w.heap.size, 1, none⟩) (by simp)).trans (by simp)
  have hbw : Below w.heap.size w w2 := ((Below.refl _ _).alloc (Nat.le_refl _) _).trans (hb.mono (by simp))
  have O2 := Lib.hid (HO.out.below hbw)
  have B2 := Lib.hid (hbw.mono hB)
  clear hb hbw
  rcases HF.out with hf | ⟨i, o, hf, hi, hg, hp⟩
  · rw [hf]
    have HE : Hid (stepE l x = 5) := Lib.hid (by unfold stepE; rw [if_pos HK.out, hf]; rfl)
    clear hf
    go_wp2_with fail
    go_ret2
    exact .inr ⟨by rw [HE.out]; decide, by rw [HE.out]; rfl, B2.out⟩
  · rw [hf]
    have HE : Hid (stepE l x = 0) := Lib.hid (by unfold stepE; rw [if_pos HK.out, hf]; exact if_neg (by omega))
    have HX : Hid (stepR l x = l.eraseIdx i) := Lib.hid (by unfold stepR; rw [if_pos HK.out, hf]; rfl)
    clear hf hg hp
    have e1 : IntKind.i64.wrap ((i : Int) + 1) = (i : Int) + 1 := IntWalk.i64_in _ (by omega)
    obtain ⟨g, rfl⟩ : ∃ g, A0 = some ⟨g, 0, none⟩ := by
      rcases O2.out with ⟨_, h0⟩ | ⟨g, c', hv, _⟩
      · omega
      · injection hv with hv; exact ⟨g, hv⟩
    go_wp2_with fail
    (with_reducible refine (delete_any B l g c0 i w2 O2.out hi (by omega)).mono ?_)
    rintro e w3 ⟨v3, rfl, ho3, hb3⟩
    have O3 := Lib.hid ho3
    have B3 := Lib.hid (B2.out.trans hb3)
    clear ho3 hb3
    go_wp2_with fail
    go_ret2
    refine .inl ⟨HE.out, v3, rfl, ?_, B3.out⟩
    rw [HX.out]; exact O3.out

section
variable {B : Nat} {e : TypeId} {n c g i : Nat} {f f' : Nat → Nat → D} {w : World}
/-- one cell of a row turned -/
theorem Owned.setOne (h : Owned B e 5 n f w (.slice (some ⟨g, 0, none⟩) n c)) (hi : i < n) {j0 : Nat} (hj0 : j0 < 5) {u : Value} (hu : Rd (fun b => Bt B w.heap.size b ∧ b ≠ g) w (f' i j0) u)
    (h1 : ∀ a, a < n → a ≠ i → f' a = f a) (h2 : ∀ j, j < 5 → j ≠ j0 → f' i j = f i j) : Owned B e 5 n f' (w.setCell ⟨g, i * 5 + j0, none⟩ u) (.slice (some ⟨g, 0, none⟩) n c) := by
  rcases h with ⟨hv, _⟩ | ⟨g', c', hv, hB, hnc, hc, hbk, hr⟩
  · injection hv with hv; cases hv
  injection hv with hv1 hv2 hv3
  injection hv1 with hv1
  injection hv1 with hv1
  subst hv1 hv3
  have hne : ∀ b, (Bt B w.heap.size b ∧ b ≠ g) → b ≠ (⟨g, i * 5 + j0, none⟩ : Addr).block := fun b hb => hb.2
  refine .inr ⟨g, c, rfl, hB, hnc, hc, hbk.setCells g (i * 5 + j0) [u], fun a ha => ?_⟩
  rw [size_setCell]
  intro j hj
  by_cases hai : a = i
  · subst hai
    by_cases hjj : j = j0
    · subst hjj
      obtain ⟨u0, hu0, _⟩ := hr a ha j hj
      exact ⟨u, World.cell?_setCell_same _ _ _ hu0, hu.setCell hne _⟩
    · obtain ⟨u0, hu0, hd⟩ := hr a ha j hj
      rw [h2 j hj hjj]
      exact ⟨u0, (World.cell?_setCell_other w _ _ _ (by simp <;> omega)).trans hu0, hd.setCell hne _⟩
  · obtain ⟨u0, hu0, hd⟩ := hr a ha j hj
    rw [h1 a ha hai]
    exact ⟨u0, (World.cell?_setCell_other w _ _ _ (by simp <;> omega)).trans hu0, hd.setCell hne _⟩
/-- a whole row turned -/
theorem Owned.setRow (h : Owned B e 5 n f w (.slice (some ⟨g, 0, none⟩) n c)) (hi : i < n) {us : List Value} (hl : us.length = 5) (hu : ∀ j u, us[j]? = some u → Rd (fun b => Bt B w.heap.size b ∧ b ≠ g) w (f' i j) u)
    (h1 : ∀ a, a < n → a ≠ i → f' a = f a) : Owned B e 5 n f' (w.setCells g (i * 5) us) (.slice (some ⟨g, 0, none⟩) n c) := by
  rcases h with ⟨hv, _⟩ | ⟨g', c', hv, hB, hnc, hc, hbk, hr⟩
  · injection hv with hv; cases hv
  injection hv with hv1 hv2 hv3
  injection hv1 with hv1
  injection hv1 with hv1
  subst hv1 hv3
  have hne : ∀ b, (Bt B w.heap.size b ∧ b ≠ g) → b ≠ g := fun b hb => hb.2
  refine .inr ⟨g, c, rfl, hB, hnc, hc, hbk.setCells _ _ _, fun a ha => ?_⟩
  rw [size_setCells]
  intro j hj
  by_cases hai : a = i
  · subst hai
    refine ⟨us[j]'(by omega), ?_, (hu j _ (List.getElem?_eq_getElem (by omega))).setCells hne _ _⟩
    rw [cell_in (fun q hq => hbk.some (by omega)) (a * 5 + j) (by omega) (by omega), show a * 5 + j - a * 5 = j by omega, List.getElem?_eq_getElem (by omega)]
  · obtain ⟨u0, hu0, hd⟩ := hr a ha j hj
    rw [h1 a ha hai]
    exact ⟨u0, (cell_out _ (by omega)).trans hu0, hd.setCells hne _ _⟩
end

theorem five_cells {w : World} {g o n : Nat} (h : ∀ j, j < n → (w.cell? ⟨g, j, none⟩).isSome = true) (ho : o + 5 ≤ n) : ∃ u0 u1 u2 u3 u4, w.cell? ⟨g, o, none⟩ = some u0 ∧ w.cell? ⟨g, o + 1, none⟩ = some u1 ∧ w.cell? ⟨g, o + 2, none⟩ = some u2 ∧ w.cell? ⟨g, o + 3, none⟩ = some u3 ∧ w.cell? ⟨g, o + 4, none⟩ = some u4 := by
  obtain ⟨u0, h0⟩ := Option.isSome_iff_exists.1 (h o (by omega))
  obtain ⟨u1, h1⟩ := Option.isSome_iff_exists.1 (h (o + 1) (by omega))
  obtain ⟨u2, h2⟩ := Option.isSome_iff_exists.1 (h (o + 2) (by omega))
  obtain ⟨u3, h3⟩ := Option.isSome_iff_exists.1 (h (o + 3) (by omega))
  obtain ⟨u4, h4⟩ := Option.isSome_iff_exists.1 (h (o + 4) (by omega))
  exact ⟨u0, u1, u2, u3, u4, h0, h1, h2, h3, h4⟩
theorem far5 {w : World} {g b o p0 p1 p2 p3 p4 : Nat} {u0 u1 u2 u3 u4 : Value} (h : b ≠ g) : (((((w.setCell ⟨g, p0, none⟩ u0).setCell ⟨g, p1, none⟩ u1).setCell ⟨g, p2, none⟩ u2).setCell ⟨g, p3, none⟩ u3).setCell ⟨g, p4, none⟩ u4).cell? ⟨b, o, none⟩ = w.cell? ⟨b, o, none⟩ := by
  have hne : ∀ p, (⟨g, p, none⟩ : Addr) ≠ ⟨b, o, none⟩ := fun p e => h (by injection e with e; exact e.symm)
  rw [World.cell?_setCell_other _ _ _ _ (hne _), World.cell?_setCell_other _ _ _ _ (hne _), World.cell?_setCell_other _ _ _ _ (hne _), World.cell?_setCell_other _ _ _ _ (hne _), World.cell?_setCell_other _ _ _ _ (hne _)]
theorem modify_set {α : Type} {l : List α} {i : Nat} {f : α → α} {o : α} (h : l[i]? = some o) : l.modify i f = l.set i (f o) := by
  apply List.ext_getElem?
  intro a
  rw [List.getElem?_modify, List.getElem?_set]
  have hi : i < l.length := (List.getElem?_eq_some_iff.1 h).1
  by_cases hia : i = a
  · subst hia
    rw [List.getElem?_eq_getElem hi] at h
    have h2 := Option.some.inj h
    simp [hi, h2]
  · simp [hia]
theorem rowsOut_set (l : List Out) (i : Nat) (o : Out) (hi : i < l.length) : rowsOut (l.set i o) i = o.row := rowsOut_get (by rw [List.getElem?_set_self hi])
theorem rowsOut_set_ne (l : List Out) (i a : Nat) (o : Out) (h : a ≠ i) : rowsOut (l.set i o) a = rowsOut l a := by
  unfold rowsOut; rw [List.getElem?_set_ne (fun e => h e.symm)]

set_option maxHeartbeats 1000000 in
set_option maxRecDepth 100000 in
theorem step_part (B : Nat) (l : List Out) (x : Cmd) (v : Value) (A : Option Addr) (c : Nat) (w : World) (hO : Owned B 45 5 l.length (rowsOut l) w v) (hn : l.length ≤ 2097152) (hB : B ≤ w.heap.size) (hk : x.kind = 3) :
    Calls Tryd.prog 32 #[v, .agg #[.string x.key, .int .i64 x.kind, .string x.of, .string x.new, .string x.name, .slice A x.args.length c]] w (StepPost B l x w) := by
  obtain ⟨A0, c0, rfl, hr⟩ := hO.form
  rw [hk]
  have hk2 : x.kind ≠ 2 := by omega
  have HK := Lib.hid hk
  have HK2 := Lib.hid hk2
  have HO := Lib.hid hO
  have HR := Lib.hid hr
  have HF := Lib.hid (findI_cases l x.of)
  clear hO hr hk hk2
  go_enter Tryd.func32, Tryd.ntmps32
  go_wp2_with fail
  (with_reducible refine (find_any l A0 l.length c0 x.of _ ?_ (by omega)).mono ?_)
  · exact HR.out.allocs _
  rintro e w2 ⟨rfl, hb⟩
  have hfi : idx (hasKey x.of) l = findI l x.of := rfl
  rw [hfi]
  clear hfi
  have bx1 : w2.cell? ⟨w.heap.size, 1, none⟩ = some (.int .i64 3) := (hb.cell (p := ⟨w.heap.size, 1, none⟩) (by simp)).trans (by simp)
  have hbw : Below w.heap.size w w2 := ((Below.refl _ _).alloc (Nat.le_refl _) _).trans (hb.mono (by simp))
  have O2 := Lib.hid (HO.out.below hbw)
  have B2 := Lib.hid (hbw.mono hB)
  clear hb hbw
  rcases HF.out with hf | ⟨i, o, hf, hi, hg, hp⟩
  · rw [hf]
    have HE : Hid (stepE l x = 5) := Lib.hid (by unfold stepE; rw [if_neg HK2.out, if_pos HK.out, hf]; rfl)
    clear hf
    go_wp2_with fail
    go_ret2
    exact .inr ⟨by rw [HE.out]; decide, by rw [HE.out]; rfl, B2.out⟩
  · rw [hf]
    have hE : stepE l x = if o.part then 16 else 0 := by
      unfold stepE; rw [if_neg HK2.out, if_pos HK.out, hf, if_neg (by omega), Int.toNat_natCast, hg]; rfl
    have HX : Hid (stepR l x = l.set i { o with part := true }) := Lib.hid (by
      unfold stepR; rw [if_neg HK2.out, if_pos HK.out, hf, Int.toNat_natCast, modify_set hg])
    have HE := Lib.hid hE
    have HG := Lib.hid hg
    clear hf hg hp hE
    obtain ⟨g, rfl⟩ : ∃ g, A0 = some ⟨g, 0, none⟩ := by
      rcases O2.out with ⟨_, h0⟩ | ⟨g, c', hv, _⟩
      · omega
      · injection hv with hv; exact ⟨g, hv⟩
    obtain ⟨d3, fz⟩ : w2.cell? ⟨g, i * 5 + 3, none⟩ = some (.bool o.part) ∧ ∀ j, w2.frozen? ⟨g, j, none⟩ = false := by
      rcases O2.out with ⟨_, h0⟩ | ⟨g', c', hv, _, _, _, hbk, hrr⟩
      · omega
      · injection hv with hv; injection hv with hv; injection hv with hv; subst hv
        obtain ⟨u, hu, hd⟩ := hrr i hi 3 (by omega)
        rw [rowsOut_get HG.out] at hd
        have hd' : u = .bool o.part := hd
        rw [hd'] at hu
        exact ⟨hu, hbk.frozen⟩
    cases hpt : o.part with
    | true =>
      rw [hpt] at d3
      have HE2 : Hid (stepE l x = 16) := Lib.hid (by rw [HE.out, hpt]; rfl)
      clear hpt
      go_wp2_with fail
      go_ret2
      exact .inr ⟨by rw [HE2.out]; decide, by rw [HE2.out]; rfl, B2.out⟩
    | false =>
      rw [hpt] at d3
      have HE2 : Hid (stepE l x = 0) := Lib.hid (by rw [HE.out, hpt]; rfl)
      clear hpt
      have hgB : B ≤ g := by
        rcases O2.out with ⟨_, h0⟩ | ⟨g', c', hv, hh, _⟩
        · omega
        · injection hv with hv; injection hv with hv; injection hv with hv; subst hv; exact hh
      have O3 : Hid (Owned B 45 5 l.length (rowsOut (l.set i { o with part := true })) (w2.setCell ⟨g, i * 5 + 3, none⟩ (.bool true)) (.slice (some ⟨g, 0, none⟩) l.length c0)) := Lib.hid (by
        refine O2.out.setOne hi (j0 := 3) (by omega) ?_ (fun a _ hne => rowsOut_set_ne l i a _ hne) (fun j hj hne => ?_)
        · rw [rowsOut_set l i _ hi]; rfl
        · rw [rowsOut_set l i _ hi, rowsOut_get HG.out]
          match j, hj, hne with
          | 0, _, _ => rfl
          | 1, _, _ => rfl
          | 2, _, _ => rfl
          | 4, _, _ => rfl)
      go_wp2_with fail
      go_ret2
      refine .inl ⟨HE2.out, .slice (some ⟨g, 0, none⟩) l.length c0, rfl, ?_, B2.out.setCell hgB _⟩
      rw [HX.out, List.length_set]; exact O3.out

theorem rowsOut_append (l : List Out) (o : Out) (a : Nat) (h : a < l.length) : rowsOut (l ++ [o]) a = rowsOut l a := by
  unfold rowsOut; rw [List.getElem?_append_left h]
theorem rowsOut_last (l : List Out) (o : Out) : rowsOut (l ++ [o]) l.length = o.row := rowsOut_get (by rw [List.getElem?_append_right (Nat.le_refl _)]; simp)
def zeroO : Out := ⟨⟨#[]⟩, ⟨#[]⟩, [], false, 0⟩
theorem zOut_rd {ok : Nat → Prop} {w : World} : ∀ (j : Nat) (u : Value), zOut[j]? = some u → Rd ok w (zeroO.row j) u := by
  intro j u hj
  match j with
  | 0 => simp [zOut] at hj; subst hj; rfl
  | 1 => simp [zOut] at hj; subst hj; rfl
  | 2 => simp [zOut] at hj; subst hj; exact Rd.sl_nil
  | 3 => simp [zOut] at hj; subst hj; rfl
  | 4 => simp [zOut] at hj; subst hj; rfl
  | j + 5 => simp [zOut] at hj

set_option maxHeartbeats 800000 in
set_option maxRecDepth 100000 in
theorem step_do (B : Nat) (l : List Out) (x : Cmd) (v : Value) (A : Option Addr) (c : Nat) (w : World) (hO : Owned B 45 5 l.length (rowsOut l) w v) (hn : l.length ≤ 2097152) (hB : B ≤ w.heap.size) (hk : x.kind = 1)
    (hx : Rd (Lt B) w (vs x.args) (.slice A x.args.length c)) (hxb : bulkV x.args ≤ 2097152) :
    Calls Tryd.prog 32 #[v, .agg #[.string x.key, .int .i64 x.kind, .string x.of, .string x.new, .string x.name, .slice A x.args.length c]] w (StepPost B l x w) := by
  obtain ⟨A0, c0, rfl, hr⟩ := hO.form
  have hE : stepE l x = if x.new.toList.isEmpty then 1 else if 0 ≤ findI l x.new then 4 else 0 := by
    unfold stepE; rw [if_neg (by omega), if_neg (by omega), if_pos hk]
  have HX : Hid (stepR l x = l ++ [made x]) := Lib.hid (by unfold stepR; rw [if_neg (by omega), if_neg (by omega), if_pos hk])
  obtain ⟨i0, hi0, hz0, hz1, hz2⟩ := info_parts infoOut
  rw [hk]
  have HEE := Lib.hid hE
  have HO := Lib.hid hO
  have HR := Lib.hid hr
  have HXR := Lib.hid hx
  have HF := Lib.hid (findI_cases l x.new)
  clear hO hr hk hE hx
  cases hem : x.new.toList.isEmpty with
  | true =>
    have HE : Hid (stepE l x = 1) := Lib.hid (by rw [HEE.out, hem]; rfl)
    have hnil : x.new.toList = [] := by simpa using hem
    go_enter Tryd.func32, Tryd.ntmps32
    go_wp2_with fail
    go_ret2
    exact .inr ⟨by rw [HE.out]; decide, by rw [HE.out]; rfl, ((Below.refl _ _).alloc (Nat.le_refl _) _).mono hB⟩
  | false =>
    have hE2 : stepE l x = if 0 ≤ findI l x.new then 4 else 0 := by rw [HEE.out, hem]; rfl
    have HE2 := Lib.hid hE2
    clear hE2
    go_enter Tryd.func32, Tryd.ntmps32
    go_wp2_with fail
    (with_reducible refine (find_any l A0 l.length c0 x.new _ ?_ (by omega)).mono ?_)
    · exact HR.out.allocs _
    rintro e w2 ⟨rfl, hb⟩
    have hfi : idx (hasKey x.new) l = findI l x.new := rfl
    rw [hfi]
    clear hfi
    have bx3 : w2.cell? ⟨w.heap.size, 3, none⟩ = some (.string x.new) := (hb.cell (p := ⟨w.heap.size, 3, none⟩) (by simp)).trans (by simp)
    have bx4 : w2.cell? ⟨w.heap.size, 4, none⟩ = some (.string x.name) := (hb.cell (p := ⟨w.heap.size, 4, none⟩) (by simp)).trans (by simp)
    have bx5 : w2.cell? ⟨w.heap.size, 5, none⟩ = some (.slice A x.args.length c) := (hb.cell (p := ⟨w.heap.size, 5, none⟩) (by simp)).trans (by simp)
    have hbw : Below w.heap.size w w2 := ((Below.refl _ _).alloc (Nat.le_refl _) _).trans (hb.mono (by simp))
    have hw2 : w.heap.size < w2.heap.size := by have := hb.size; simp at this; omega
    have O2 := Lib.hid (HO.out.below hbw)
    have B2 := Lib.hid (hbw.mono hB)
    clear hb hbw
    rcases HF.out with hf | ⟨i, o, hf, hi, hg, hp⟩
    · rw [hf]
      have HE : Hid (stepE l x = 0) := Lib.hid (by rw [HE2.out, hf]; rfl)
      clear hf
      obtain ⟨xs, hown⟩ := O2.out.own
      have hbl : ∀ o, (w2.alloc o).ownsRow B 45 5 (.slice A0 l.length c0) l.length xs := fun o => hown.alloc o
      have HW := Lib.hid hown
      clear hown
      go_wp2_with (at_builtin; refine wpList_append_lies _ rfl (.tmp 78) (.tmp 80) _ rfl B 45 i0 _ 5 72 Tryd.underlying22 hi0 hz0 hz1 hz2 rfl (by omega) _ l.length xs rfl (hbl _) ⟨w2.heap.size, 0, none⟩ 1 1 zOut rfl rfl ?c1 ?c2 (by omega) ?c3 ?c4 ?c5 (w2.heap.size + 1) (by simp) ?_)
      case c1 =>
        intro j u hj
        rw [Addr.add_lit, Nat.zero_add, cell_new, ← hj]
        unfold zOut
        exact List.getElem?_toArray
      case c2 => exact oneOut
      case c3 => unfold maxLen; omega
      case c4 => omega
      case c5 => simp; omega
      intro g cap w3 hown3 hgr3 hat3 hlt3
      have O3 : Hid (Owned B 45 5 (l.length + 1) (rowsOut (l ++ [zeroO])) w3 (.slice (some ⟨g, 0, none⟩) (l.length + 1) cap)) := Lib.hid (by
        refine Owned.append (O2.out.below ((Below.refl _ _).alloc (Nat.le_refl _) _)) (hbl _) hown3 hgr3 (by simpa using hat3) rfl (fun a ha => rowsOut_append l zeroO a ha) (fun j u hj => ?_)
        rw [rowsOut_last]; exact zOut_rd j u hj)
      have hnb : some w.heap.size ≠ (Value.slice A0 l.length c0).ownBlock := by
        rcases HO.out with ⟨hv, _⟩ | ⟨g0, c1, hv, _, _, _, hbk, _⟩
        · rw [hv]; simp [Value.ownBlock]
        · rw [hv]; intro h; have h2 : w.heap.size = g0 := by simpa [Value.ownBlock] using h
          have := hbk.lt; omega
      have far : ∀ o, w3.cell? ⟨w.heap.size, o, none⟩ = w2.cell? ⟨w.heap.size, o, none⟩ := fun o => (World.cell?_of_block (hgr3.block w.heap.size (by simp; omega) hnb)).trans (World.cell?_alloc_lt w2 _ ⟨w.heap.size, o, none⟩ hw2)
      have hgw : w.heap.size ≠ g := by
        rcases hat3 with h | h
        · intro e; exact hnb (by rw [h, e])
        · omega
      have hz3 : w2.heap.size + 1 ≤ w3.heap.size := by have := hgr3.size; simp at this; exact this
      have B3 : Hid (Below B w w3) := Lib.hid ((B2.out.alloc (by omega) _).grown hgr3 (by simp; omega) (fun q hq => (HW.out.lt q hq).1))
      have X3 : Hid (Rd (Lt w3.heap.size) w3 (vs x.args) (.slice A x.args.length c)) := Lib.hid ((HXR.out.below B3.out (fun _ h => h)).weaken (fun b hb => by unfold Lt at *; omega))
      have d3 := (far 3).trans bx3
      have d4 := (far 4).trans bx4
      have d5 := (far 5).trans bx5
      clear far hown3 hgr3 hat3 hbl bx3 bx4 bx5
      obtain ⟨fz, hsm, hgB⟩ : (∀ j, w3.frozen? ⟨g, j, none⟩ = false) ∧ (∀ j, j < (l.length + 1) * 5 → (w3.cell? ⟨g, j, none⟩).isSome = true) ∧ B ≤ g := by
        rcases O3.out with ⟨hv, _⟩ | ⟨g', c', hv, hB', hnc, _, hbk, _⟩
        · injection hv with hv; cases hv
        · injection hv with hv _ hv3
          injection hv with hv; injection hv with hv; subst hv hv3
          exact ⟨hbk.frozen, fun j hj => hbk.some (by omega), hB'⟩
      have FZ := Lib.hid fz
      have SM := Lib.hid hsm
      clear fz hsm
      have il0 : (0 : Int) ≤ (l.length : Int) := by omega
      have il1 : (l.length : Int) < (l.length : Int) + 1 := by omega
      have e3 : w3.drew.cell? ⟨w.heap.size, 3, none⟩ = some (.string x.new) := d3
      have e4 : w3.drew.cell? ⟨w.heap.size, 4, none⟩ = some (.string x.name) := d4
      have e5 : w3.drew.cell? ⟨w.heap.size, 5, none⟩ = some (.slice A x.args.length c) := d5
      go_wp2_with fail
      go_region_held3 (fun W => W.cell? ⟨w.heap.size, 3, none⟩ = some (.string x.new) ∧ W.cell? ⟨w.heap.size, 4, none⟩ = some (.string x.name) ∧ W.cell? ⟨w.heap.size, 5, none⟩ = some (.slice A x.args.length c)) (first | with_reducible exact ⟨d3, d4, d5⟩ | with_reducible exact ⟨e3, e4, e5⟩ | with_reducible exact ⟨y3, y4, y5⟩ | exact ⟨(far5 hgw).trans y3, (far5 hgw).trans y4, (far5 hgw).trans y5⟩)
        (first | (go_at_call 48; refine (clone_values (l := x.args) ?_ hxb).mono ?_; (exact X3.out.drew); rintro e w4 ⟨v4, rfl, hr4, hb4⟩; obtain ⟨A4, c4, rfl, _⟩ := hr4.sl_inv; have y3 : w4.cell? ⟨w.heap.size, 3, none⟩ = some (.string x.new) := (hb4.cell (p := ⟨w.heap.size, 3, none⟩) (by simp; omega)).trans d3; have y4 : w4.cell? ⟨w.heap.size, 4, none⟩ = some (.string x.name) := (hb4.cell (p := ⟨w.heap.size, 4, none⟩) (by simp; omega)).trans d4; have y5 : w4.cell? ⟨w.heap.size, 5, none⟩ = some (.slice A x.args.length c) := (hb4.cell (p := ⟨w.heap.size, 5, none⟩) (by simp; omega)).trans d5; have f4 : ∀ j, w4.frozen? ⟨g, j, none⟩ = false := fun j => (hb4.frozen (p := ⟨g, j, none⟩) hlt3).trans (FZ.out j); obtain ⟨u0, u1, u2, u3, u4, hu0, hu1, hu2, hu3, hu4⟩ := five_cells (w := w4) (g := g) (o := l.length * 5) (n := (l.length + 1) * 5) (fun j hj => by rw [hb4.cell (p := ⟨g, j, none⟩) hlt3]; exact SM.out j hj) (by omega); have R4 := Lib.hid hr4; have B4 := Lib.hid hb4; clear hr4 hb4))
      have hr4 := R4.out
      have hb4 : Below w3.heap.size w3 w4 := ((Below.refl w3.heap.size w3).drew).trans B4.out
      have OF : Hid (Owned B 45 5 (l.length + 1) (rowsOut (l ++ [made x])) (w4.setCells g (l.length * 5) [.string x.new, .string x.name, .slice A4 x.args.length c4, .bool false, .int .i64 0]) (.slice (some ⟨g, 0, none⟩) (l.length + 1) cap)) := Lib.hid (by
        refine (O3.out.below hb4).setRow (i := l.length) (by omega) rfl (fun j u hj => ?_) (fun a ha hne => ?_)
        · rw [rowsOut_last]
          refine cells_rdOut (x := made x) ?_ j u hj
          refine hr4.weaken (fun b hb => ?_)
          have h1 : w3.heap.size ≤ b := hb.1
          exact ⟨⟨by omega, hb.2⟩, by omega⟩
        · rw [rowsOut_append l _ a (by omega), rowsOut_append l _ a (by omega)])
      have BF : Hid (Below B w (w4.setCells g (l.length * 5) [.string x.new, .string x.name, .slice A4 x.args.length c4, .bool false, .int .i64 0])) := Lib.hid (below_setCells g hgB _ _ (B3.out.trans (hb4.mono (by omega))))
      clear hr4 hb4
      go_wp2_with fail
      go_ret2
      refine .inl ⟨HE.out, .slice (some ⟨g, 0, none⟩) (l.length + 1) cap, rfl, ?_, BF.out⟩
      rw [HX.out, List.length_append]
      exact OF.out
    · rw [hf]
      have HE : Hid (stepE l x = 4) := Lib.hid (by rw [HE2.out, hf]; exact if_pos (by omega))
      clear hf hg hp
      go_wp2_with fail
      go_ret2
      exact .inr ⟨by rw [HE.out]; decide, by rw [HE.out]; rfl, B2.out⟩
end Go.Proofs.YtlnfdpdancolmaaDoor
