/- How many of a class are free: what the steps of match.group and match.Pairs do to the counts. No memory here. math/bits.RotateLeft32 at the ten counts that SHA-256 uses. Conditions: none. -/
import Derived.Test.YtlnfdpdancolmaaDoorYCls
import Derived.Test.YtlnfdpdancolmaaDoorYCloneOutFindNum
namespace Go.Proofs.YtlnfdpdancolmaaDoor
open Go.RowKit

theorem alike_trans {a b c : Req} (h : alikeB b c = true) : alikeB a b = alikeB a c := by
  rw [alikeB_iff] at h
  obtain ⟨h1, h2, h3, h4⟩ := h
  unfold alikeB
  rw [h1, h2, h3, h4]
theorem alike_symm (a b : Req) : alikeB a b = alikeB b a := by
  cases h : alikeB a b with
  | true =>
    rw [alikeB_iff] at h
    symm
    rw [alikeB_iff]
    exact ⟨h.1.symm, h.2.1.symm, h.2.2.1.symm, h.2.2.2.symm⟩
  | false =>
    cases h2 : alikeB b a with
    | false => rfl
    | true =>
      rw [alikeB_iff] at h2
      rw [(alikeB_iff a b).2 ⟨h2.1.symm, h2.2.1.symm, h2.2.2.1.symm, h2.2.2.2.symm⟩] at h
      cases h
def cntC (l : List Cl) (r : Req) : Nat := match l.find? (fun x => alikeB x.first r) with | some x => x.fl | none => 0
def cntS (S : List Ent) (k : ByteArray) (r : Req) : Nat := match S.find? (fun e => decide (e.key = k)) with | some e => cntC e.cls r | none => 0
/-- keys of requests that are alike are equal -/
def Compat (kf : Req → ByteArray) : Prop := ∀ a b, alikeB a b = true → kf a = kf b

theorem find_key {S : List Ent} (hs : ∀ (i j : Nat) (e f : Ent), S[i]? = some e → S[j]? = some f → e.key = f.key → i = j) {i : Nat} {e : Ent} (he : S[i]? = some e) : S.find? (fun f => decide (f.key = e.key)) = some e := by
  cases h : S.find? (fun f => decide (f.key = e.key)) with
  | none =>
    have := List.find?_eq_none.1 h e (List.mem_of_getElem? he)
    simp at this
  | some f =>
    have h1 := List.mem_of_find?_eq_some h
    have h2 := List.find?_some h
    obtain ⟨j, hj⟩ := mem_get h1
    have h2 : f.key = e.key := by simpa using h2
    have := hs i j e f he hj h2.symm
    subst this
    rw [he] at hj; rw [hj]
theorem find_no {S : List Ent} {k : ByteArray} (h : ∀ f ∈ S, f.key ≠ k) : S.find? (fun f => decide (f.key = k)) = none := by
  rw [List.find?_eq_none]; intro f hf; simp [h f hf]
theorem find_set {S : List Ent} (hs : ∀ (i j : Nat) (e f : Ent), S[i]? = some e → S[j]? = some f → e.key = f.key → i = j) {i : Nat} {e e' : Ent} (he : S[i]? = some e) (hk : e'.key = e.key) (k : ByteArray) :
    (S.set i e').find? (fun f => decide (f.key = k)) = if k = e.key then some e' else S.find? (fun f => decide (f.key = k)) := by
  have hi : i < S.length := (List.getElem?_eq_some_iff.1 he).1
  have hs' : ∀ (a b : Nat) (f g : Ent), (S.set i e')[a]? = some f → (S.set i e')[b]? = some g → f.key = g.key → a = b := by
    intro a b f g ha hb hab
    rcases set_get ha with ⟨rfl, rfl⟩ | ⟨hni, ha'⟩ <;> rcases set_get hb with ⟨rfl, rfl⟩ | ⟨hnj, hb'⟩
    · rfl
    · exact hs _ _ _ _ he hb' (hk.symm.trans hab)
    · exact hs _ _ _ _ ha' he (hab.trans hk)
    · exact hs _ _ _ _ ha' hb' hab
  by_cases h : k = e.key
  · rw [if_pos h, h, ← hk]
    exact find_key hs' (List.getElem?_set_self hi)
  · rw [if_neg h]
    cases hf : S.find? (fun f => decide (f.key = k)) with
    | none =>
      rw [List.find?_eq_none] at hf ⊢
      intro f hf'
      obtain ⟨j, hj⟩ := mem_get hf'
      rcases set_get hj with ⟨rfl, rfl⟩ | ⟨_, hj⟩
      · simp [hk]; exact fun h' => h h'.symm
      · exact hf f (List.mem_of_getElem? hj)
    | some f =>
      have h1 := List.mem_of_find?_eq_some hf
      have h2 := List.find?_some hf
      have h2 : f.key = k := by simpa using h2
      obtain ⟨j, hj⟩ := mem_get h1
      have hne : i ≠ j := fun e0 => by subst e0; rw [he] at hj; rw [Option.some.inj hj] at h; exact h h2.symm
      rw [← h2]
      exact find_key hs' (by rw [List.getElem?_set_ne hne]; exact hj)
theorem cntC_set {l : List Cl} {ci : Nat} {x x' : Cl} {r0 : Req} (hx : l[ci]? = some x) (hfirst : ∀ (j : Nat) (y : Cl), j < ci → l[j]? = some y → alikeB y.first r0 = false) (hal : alikeB x.first r0 = true) (h1 : x'.first = x.first) (r : Req) :
    cntC (l.set ci x') r = if alikeB r0 r = true then x'.fl else cntC l r := by
  unfold cntC
  induction l generalizing ci with
  | nil => simp at hx
  | cons y t ih =>
    cases ci with
    | zero =>
      simp at hx; subst hx
      rw [List.set_cons_zero, List.find?_cons, List.find?_cons, h1]
      by_cases hr : alikeB r0 r = true
      · rw [if_pos hr, ← alike_trans hr, hal]
      · rw [if_neg hr]
        have : alikeB y.first r = false := by
          cases hq : alikeB y.first r with
          | false => rfl
          | true =>
            have h2 : alikeB r0 r = alikeB r0 y.first := (alike_trans hq).symm
            rw [h2, alike_symm] at hr
            exact absurd hal hr
        rw [this]
    | succ ci =>
      have hy := hfirst 0 y (by omega) rfl
      rw [List.set_cons_succ, List.find?_cons, List.find?_cons]
      have ih' := ih (ci := ci) (by simpa using hx) (fun j z hj hz => hfirst (j + 1) z (by omega) (by simpa using hz))
      by_cases hr : alikeB r0 r = true
      · rw [if_pos hr] at ih' ⊢
        rw [← alike_trans hr, hy]
        exact ih'
      · rw [if_neg hr] at ih' ⊢
        cases alikeB y.first r with
        | true => rfl
        | false => exact ih'
theorem cntC_snoc {l : List Cl} {x : Cl} {r0 : Req} (hno : ∀ y ∈ l, alikeB y.first r0 = false) (h1 : x.first = r0) (r : Req) : cntC (l ++ [x]) r = if alikeB r0 r = true then x.fl else cntC l r := by
  unfold cntC
  rw [List.find?_append]
  by_cases hr : alikeB r0 r = true
  · rw [if_pos hr, List.find?_eq_none.2 (fun y hy => by rw [← alike_trans hr, hno y hy]; simp)]
    simp [h1, hr]
  · rw [if_neg hr]
    cases l.find? (fun x => alikeB x.first r) with
    | some y => rfl
    | none => simp [h1, hr]
theorem cntC_none {l : List Cl} {r0 r : Req} (hno : ∀ y ∈ l, alikeB y.first r0 = false) (hr : alikeB r0 r = true) : cntC l r = 0 := by
  unfold cntC
  rw [List.find?_eq_none.2 (fun y hy => by rw [← alike_trans hr, hno y hy]; simp)]
theorem cntC_at {l : List Cl} {ci : Nat} {x : Cl} {r0 r : Req} (hx : l[ci]? = some x) (hfirst : ∀ (j : Nat) (y : Cl), j < ci → l[j]? = some y → alikeB y.first r0 = false) (hal : alikeB x.first r0 = true) (hr : alikeB r0 r = true) : cntC l r = x.fl := by
  have := cntC_set (x' := x) hx hfirst hal rfl r
  have hl : l.set ci x = l := by
    apply List.ext_getElem?
    intro j
    rw [List.getElem?_set]
    by_cases hj : ci = j
    · subst hj; rw [if_pos rfl, if_pos (List.getElem?_eq_some_iff.1 hx).1, hx]
    · rw [if_neg hj]
  rwa [if_pos hr, hl] at this

/-- what group holds of the requests p -/
def CInv (kf : Req → ByteArray) (S : List Ent) (p : List Req) : Prop := ∀ r, cntS S (kf r) r = p.countP (fun q => alikeB q r)
def SizeInv (S : List Ent) (n : Nat) : Prop := ∀ e ∈ S, e.cls.length ≤ n ∧ ∀ x ∈ e.cls, x.fl ≤ n
theorem countP_snoc (p : List Req) (q r : Req) : (p ++ [q]).countP (fun q => alikeB q r) = p.countP (fun q => alikeB q r) + if alikeB q r = true then 1 else 0 := by
  rw [List.countP_append]; simp [List.countP_cons]
section
variable {kf : Req → ByteArray} {S : List Ent} {p : List Req} {ei ci : Nat} {e : Ent} {x x' : Cl} {r0 : Req}
theorem cntS_setFree (hs : Sep S) (he : S[ei]? = some e) (hk : e.key = kf r0) (hc : Compat kf) (hx : e.cls[ci]? = some x) (hfirst : ∀ (j : Nat) (y : Cl), j < ci → e.cls[j]? = some y → alikeB y.first r0 = false) (hal : alikeB x.first r0 = true) (h1 : x'.first = x.first) (r : Req) :
    cntS (S.set ei { e with cls := e.cls.set ci x' }) (kf r) r = if alikeB r0 r = true then x'.fl else cntS S (kf r) r := by
  have hf := find_set hs.2.1 he (e' := { e with cls := e.cls.set ci x' }) rfl (kf r)
  have h0 := find_key hs.2.1 he
  unfold cntS
  rw [hf]
  by_cases hr : alikeB r0 r = true
  · rw [if_pos hr, if_pos (by rw [hk]; exact (hc _ _ hr).symm)]
    show cntC (e.cls.set ci x') r = _
    rw [cntC_set hx hfirst hal h1, if_pos hr]
  · rw [if_neg hr]
    by_cases hkr : kf r = e.key
    · rw [if_pos hkr, hkr, h0]
      show cntC (e.cls.set ci x') r = _
      rw [cntC_set hx hfirst hal h1, if_neg hr]
    · rw [if_neg hkr]
theorem cntS_at (hs : Sep S) (he : S[ei]? = some e) (hk : e.key = kf r0) (hc : Compat kf) (hx : e.cls[ci]? = some x) (hfirst : ∀ (j : Nat) (y : Cl), j < ci → e.cls[j]? = some y → alikeB y.first r0 = false) (hal : alikeB x.first r0 = true) (r : Req) (hr : alikeB r0 r = true) :
    cntS S (kf r) r = x.fl := by
  unfold cntS
  rw [← hc _ _ hr, ← hk, find_key hs.2.1 he]
  exact cntC_at hx hfirst hal hr
theorem CInv.found (h : CInv kf S p) (hs : Sep S) (he : S[ei]? = some e) (hk : e.key = kf r0) (hc : Compat kf) (hx : e.cls[ci]? = some x) (hfirst : ∀ (j : Nat) (y : Cl), j < ci → e.cls[j]? = some y → alikeB y.first r0 = false) (hal : alikeB x.first r0 = true) (h1 : x'.first = x.first) (h2 : x'.fl = x.fl + 1) :
    CInv kf (S.set ei { e with cls := e.cls.set ci x' }) (p ++ [r0]) := by
  intro r
  rw [countP_snoc, cntS_setFree hs he hk hc hx hfirst hal h1, ← h r]
  by_cases hr : alikeB r0 r = true
  · rw [if_pos hr, if_pos hr, h2, cntS_at hs he hk hc hx hfirst hal r hr]
  · rw [if_neg hr, if_neg hr]; rfl
theorem CInv.more (h : CInv kf S p) (hs : Sep S) (he : S[ei]? = some e) (hk : e.key = kf r0) (hc : Compat kf) (hno : ∀ y ∈ e.cls, alikeB y.first r0 = false) (h1 : x.first = r0) (h2 : x.fl = 1) (g cap : Nat) :
    CInv kf (S.set ei ⟨e.key, g, cap, e.cls ++ [x]⟩) (p ++ [r0]) := by
  intro r
  have hf := find_set hs.2.1 he (e' := ⟨e.key, g, cap, e.cls ++ [x]⟩) rfl (kf r)
  have h0 := find_key hs.2.1 he
  rw [countP_snoc, ← h r]
  unfold cntS
  rw [hf]
  by_cases hr : alikeB r0 r = true
  · have hkr : kf r = e.key := by rw [hk]; exact (hc _ _ hr).symm
    rw [if_pos hkr, if_pos hr, hkr, h0]
    show cntC (e.cls ++ [x]) r = cntC e.cls r + 1
    rw [cntC_snoc hno h1, if_pos hr, h2, cntC_none hno hr]
  · rw [if_neg hr]
    by_cases hkr : kf r = e.key
    · rw [if_pos hkr, hkr, h0]
      show cntC (e.cls ++ [x]) r = cntC e.cls r + 0
      rw [cntC_snoc hno h1, if_neg hr]; rfl
    · rw [if_neg hkr]; rfl
theorem CInv.first (h : CInv kf S p) (hc : Compat kf) (hno : ∀ f ∈ S, f.key ≠ kf r0) (h1 : x.first = r0) (h2 : x.fl = 1) (g cap : Nat) : CInv kf (S ++ [⟨kf r0, g, cap, [x]⟩]) (p ++ [r0]) := by
  intro r
  rw [countP_snoc, ← h r]
  unfold cntS
  rw [List.find?_append]
  by_cases hr : alikeB r0 r = true
  · have hkr : kf r = kf r0 := (hc _ _ hr).symm
    rw [hkr, find_no hno, if_pos hr]
    simp [cntC, h1, hr, h2]
  · rw [if_neg hr]
    cases hf : S.find? (fun e => decide (e.key = kf r)) with
    | some f => simp
    | none =>
      by_cases hkr : kf r0 = kf r
      · simp [hkr, cntC, h1, hr]
      · simp [hkr]
end
end Go.Proofs.YtlnfdpdancolmaaDoor
namespace Go.Proofs.YtlnfdpdancolmaaDoor
open Go.RowKit
/-- rotated right by s -/
def ror (p q : Int) (x : Int) : Int := bits .or .u32 (x * p % 4294967296) (x / q)
set_option maxHeartbeats 400000 in
theorem rot_2 (x : Int) (w : World) : Calls Tryd.prog 86 #[.int .u32 x, .int .i64 (-2)] w fun e w' => e = .returned (.int .u32 (ror 1073741824 4 x)) ∧ w = w' := by
  have hb : bits .and .u64 (IntKind.u64.wrap (-2)) 31 = 30 := by decide
  go_enter Tryd.func86, Tryd.ntmps86
  go_wp2_with fail
  go_ret
  exact ⟨rfl, rfl⟩
set_option maxHeartbeats 400000 in
theorem rot_6 (x : Int) (w : World) : Calls Tryd.prog 86 #[.int .u32 x, .int .i64 (-6)] w fun e w' => e = .returned (.int .u32 (ror 67108864 64 x)) ∧ w = w' := by
  have hb : bits .and .u64 (IntKind.u64.wrap (-6)) 31 = 26 := by decide
  go_enter Tryd.func86, Tryd.ntmps86
  go_wp2_with fail
  go_ret
  exact ⟨rfl, rfl⟩
set_option maxHeartbeats 400000 in
theorem rot_7 (x : Int) (w : World) : Calls Tryd.prog 86 #[.int .u32 x, .int .i64 (-7)] w fun e w' => e = .returned (.int .u32 (ror 33554432 128 x)) ∧ w = w' := by
  have hb : bits .and .u64 (IntKind.u64.wrap (-7)) 31 = 25 := by decide
  go_enter Tryd.func86, Tryd.ntmps86
  go_wp2_with fail
  go_ret
  exact ⟨rfl, rfl⟩
set_option maxHeartbeats 400000 in
theorem rot_11 (x : Int) (w : World) : Calls Tryd.prog 86 #[.int .u32 x, .int .i64 (-11)] w fun e w' => e = .returned (.int .u32 (ror 2097152 2048 x)) ∧ w = w' := by
  have hb : bits .and .u64 (IntKind.u64.wrap (-11)) 31 = 21 := by decide
  go_enter Tryd.func86, Tryd.ntmps86
  go_wp2_with fail
  go_ret
  exact ⟨rfl, rfl⟩
set_option maxHeartbeats 400000 in
theorem rot_13 (x : Int) (w : World) : Calls Tryd.prog 86 #[.int .u32 x, .int .i64 (-13)] w fun e w' => e = .returned (.int .u32 (ror 524288 8192 x)) ∧ w = w' := by
  have hb : bits .and .u64 (IntKind.u64.wrap (-13)) 31 = 19 := by decide
  go_enter Tryd.func86, Tryd.ntmps86
  go_wp2_with fail
  go_ret
  exact ⟨rfl, rfl⟩
set_option maxHeartbeats 400000 in
theorem rot_17 (x : Int) (w : World) : Calls Tryd.prog 86 #[.int .u32 x, .int .i64 (-17)] w fun e w' => e = .returned (.int .u32 (ror 32768 131072 x)) ∧ w = w' := by
  have hb : bits .and .u64 (IntKind.u64.wrap (-17)) 31 = 15 := by decide
  go_enter Tryd.func86, Tryd.ntmps86
  go_wp2_with fail
  go_ret
  exact ⟨rfl, rfl⟩
set_option maxHeartbeats 400000 in
theorem rot_18 (x : Int) (w : World) : Calls Tryd.prog 86 #[.int .u32 x, .int .i64 (-18)] w fun e w' => e = .returned (.int .u32 (ror 16384 262144 x)) ∧ w = w' := by
  have hb : bits .and .u64 (IntKind.u64.wrap (-18)) 31 = 14 := by decide
  go_enter Tryd.func86, Tryd.ntmps86
  go_wp2_with fail
  go_ret
  exact ⟨rfl, rfl⟩
set_option maxHeartbeats 400000 in
theorem rot_19 (x : Int) (w : World) : Calls Tryd.prog 86 #[.int .u32 x, .int .i64 (-19)] w fun e w' => e = .returned (.int .u32 (ror 8192 524288 x)) ∧ w = w' := by
  have hb : bits .and .u64 (IntKind.u64.wrap (-19)) 31 = 13 := by decide
  go_enter Tryd.func86, Tryd.ntmps86
  go_wp2_with fail
  go_ret
  exact ⟨rfl, rfl⟩
set_option maxHeartbeats 400000 in
theorem rot_22 (x : Int) (w : World) : Calls Tryd.prog 86 #[.int .u32 x, .int .i64 (-22)] w fun e w' => e = .returned (.int .u32 (ror 1024 4194304 x)) ∧ w = w' := by
  have hb : bits .and .u64 (IntKind.u64.wrap (-22)) 31 = 10 := by decide
  go_enter Tryd.func86, Tryd.ntmps86
  go_wp2_with fail
  go_ret
  exact ⟨rfl, rfl⟩
set_option maxHeartbeats 400000 in
theorem rot_25 (x : Int) (w : World) : Calls Tryd.prog 86 #[.int .u32 x, .int .i64 (-25)] w fun e w' => e = .returned (.int .u32 (ror 128 33554432 x)) ∧ w = w' := by
  have hb : bits .and .u64 (IntKind.u64.wrap (-25)) 31 = 7 := by decide
  go_enter Tryd.func86, Tryd.ntmps86
  go_wp2_with fail
  go_ret
  exact ⟨rfl, rfl⟩
end Go.Proofs.YtlnfdpdancolmaaDoor
