/- Channels kept in order without duplicates, and kept by a set: as many. No walk here. ref20.Ready: an actor can handle a message. Conditions: those in each statement. -/
import Derived.Test.YtlbmfgiepcemdaaGreatYEnabledCopies
namespace Go.Proofs.YtlbmfgiepcemdaaGreat
open Go.RowKit

def ltC (a b : Int × Int) : Prop := a.1 < b.1 ∨ a.1 = b.1 ∧ a.2 < b.2
instance (a b : Int × Int) : Decidable (ltC a b) := by unfold ltC; exact inferInstance
theorem ltC_irrefl (a : Int × Int) : ¬ ltC a a := by unfold ltC; omega
theorem ltC_trans {a b c : Int × Int} (h1 : ltC a b) (h2 : ltC b c) : ltC a c := by unfold ltC at *; omega
theorem ltC_not {a b : Int × Int} (h1 : ¬ ltC a b) (h2 : a ≠ b) : ltC b a := by
  obtain ⟨a1, a2⟩ := a
  obtain ⟨b1, b2⟩ := b
  unfold ltC at *
  dsimp only at *
  rcases Int.lt_trichotomy a1 b1 with h | h | h
  · omega
  · subst h
    rcases Int.lt_trichotomy a2 b2 with h | h | h
    · omega
    · subst h; exact absurd rfl h2
    · omega
  · omega
def insS (l : List (Int × Int)) (c : Int × Int) : List (Int × Int) := match l with
  | [] => [c]
  | a :: l => if ltC a c then a :: insS l c else if a = c then a :: l else c :: a :: l
theorem insS_mem (c x : Int × Int) : ∀ l, x ∈ insS l c ↔ x = c ∨ x ∈ l
  | [] => by rw [insS]; simp
  | a :: l => by
    rw [insS]
    split
    · rw [List.mem_cons, insS_mem c x l, List.mem_cons]
      constructor
      · rintro (h | h | h)
        · exact .inr (.inl h)
        · exact .inl h
        · exact .inr (.inr h)
      · rintro (h | h | h)
        · exact .inr (.inl h)
        · exact .inl h
        · exact .inr (.inr h)
    · split
      · rename_i h
        subst h
        rw [List.mem_cons]
        constructor
        · exact fun h => .inr h
        · rintro (h | h)
          · exact .inl h
          · exact h
      · rw [List.mem_cons]
def Srt (l : List (Int × Int)) : Prop := l.Pairwise ltC
theorem insS_srt (c : Int × Int) : ∀ l, Srt l → Srt (insS l c)
  | [], _ => by rw [insS]; exact List.pairwise_singleton _ _
  | a :: l, h => by
    obtain ⟨h1, h2⟩ := List.pairwise_cons.1 h
    rw [insS]
    split
    · rename_i hlt
      refine List.pairwise_cons.2 ⟨fun x hx => ?_, insS_srt c l h2⟩
      rcases (insS_mem c x l).1 hx with rfl | hx
      · exact hlt
      · exact h1 x hx
    · split
      · exact h
      · rename_i hn he
        have hca := ltC_not hn he
        refine List.pairwise_cons.2 ⟨fun x hx => ?_, h⟩
        rcases List.mem_cons.1 hx with rfl | hx
        · exact hca
        · exact ltC_trans hca (h1 x hx)
theorem insS_len (c : Int × Int) : ∀ l, Srt l → (insS l c).length = if c ∈ l then l.length else l.length + 1
  | [], _ => by rw [insS]; simp
  | a :: l, h => by
    obtain ⟨h1, h2⟩ := List.pairwise_cons.1 h
    rw [insS]
    split
    · rename_i hlt
      have hne : c ≠ a := fun e => by subst e; exact ltC_irrefl _ hlt
      have he : (c ∈ a :: l) ↔ c ∈ l := by rw [List.mem_cons]; exact ⟨fun h => h.elim (fun h => absurd h hne) id, .inr⟩
      rw [List.length_cons, insS_len c l h2]
      by_cases hc : c ∈ l
      · rw [if_pos hc, if_pos (he.2 hc), List.length_cons]
      · rw [if_neg hc, if_neg (fun h => hc (he.1 h)), List.length_cons]
    · split
      · rename_i he
        subst he
        rw [if_pos List.mem_cons_self]
      · rename_i hn he
        have hca := ltC_not hn he
        have hc : ¬ c ∈ a :: l := fun hm => by
          rcases List.mem_cons.1 hm with rfl | hm
          · exact he rfl
          · exact ltC_irrefl _ (ltC_trans hca (h1 c hm))
        rw [if_neg hc]; rfl
def addS (l : List (Int × Int)) (c : Int × Int) : List (Int × Int) := if c ∈ l then l else l ++ [c]
theorem addS_mem (c x : Int × Int) (l : List (Int × Int)) : x ∈ addS l c ↔ x = c ∨ x ∈ l := by
  unfold addS
  split
  · rename_i h
    exact ⟨.inr, fun h' => h'.elim (fun e => e ▸ h) id⟩
  · rw [List.mem_append, List.mem_singleton]; exact ⟨fun h => h.symm, fun h => h.symm⟩
theorem addS_len (c : Int × Int) (l : List (Int × Int)) : (addS l c).length = if c ∈ l then l.length else l.length + 1 := by
  unfold addS
  split <;> simp
theorem fold_alike : ∀ (fl l1 l2 : List (Int × Int)), Srt l1 → (∀ x, x ∈ l1 ↔ x ∈ l2) → l1.length = l2.length → (fl.foldl insS l1).length = (fl.foldl addS l2).length
  | [], _, _, _, _, h => h
  | c :: fl, l1, l2, hs, hm, hl => by
    rw [List.foldl_cons, List.foldl_cons]
    refine fold_alike fl _ _ (insS_srt c l1 hs) (fun x => ?_) ?_
    · rw [insS_mem, addS_mem, hm]
    · rw [insS_len c l1 hs, addS_len]
      by_cases hc : c ∈ l2
      · rw [if_pos hc, if_pos ((hm c).2 hc), hl]
      · rw [if_neg hc, if_neg (fun h => hc ((hm c).1 h)), hl]
theorem channels_alike (fl : List (Int × Int)) : (fl.foldl insS []).length = (fl.foldl addS []).length :=
  fold_alike fl [] [] List.Pairwise.nil (fun _ => Iff.rfl) rfl
theorem addS_fold_len : ∀ (fl l : List (Int × Int)), (fl.foldl addS l).length ≤ l.length + fl.length
  | [], l => by simp
  | c :: fl, l => by
    rw [List.foldl_cons]
    have h1 := addS_fold_len fl (addS l c)
    have h2 : (addS l c).length ≤ l.length + 1 := by rw [addS_len]; split <;> omega
    rw [List.length_cons]; omega
/-- what the loop of insert comes to -/
theorem insS_at (c : Int × Int) : ∀ (l : List (Int × Int)) (k : Nat), k ≤ l.length → (∀ j x, j < k → l[j]? = some x → ltC x c) → (∀ x, l[k]? = some x → ¬ ltC x c) → insS l c = if l[k]? = some c then l else l.take k ++ c :: l.drop k
  | [], k, hk, _, _ => by
    obtain rfl : k = 0 := by simpa using hk
    rw [insS]; simp
  | a :: l, 0, _, _, h2 => by
    have hn := h2 a rfl
    rw [insS, if_neg hn]
    by_cases he : a = c
    · rw [if_pos he, if_pos (by rw [he]; rfl)]
    · rw [if_neg he, if_neg (show ¬ (a :: l)[0]? = some c from fun h => he (Option.some.inj h))]; rfl
  | a :: l, k + 1, hk, h1, h2 => by
    rw [insS, if_pos (h1 0 a (by omega) rfl), insS_at c l k (by simpa using hk) (fun j x hj hx => h1 (j + 1) x (by omega) hx) (fun x hx => h2 x hx)]
    have e : (a :: l)[k + 1]? = l[k]? := rfl
    rw [e]
    split
    · rfl
    · rw [List.take_succ_cons, List.drop_succ_cons]; rfl
end Go.Proofs.YtlbmfgiepcemdaaGreat
namespace Go.Proofs.YtlbmfgiepcemdaaGreat
open Go.RowKit Go.Sort

set_option maxHeartbeats 4000000 in
set_option maxRecDepth 100000 in
theorem ready20_any (s : Sys) (x : Act1) (v1 v3 v4 v5 v6 : Value) (Am : Option Addr) (cm : Nat) (w : World) (hs : SysAt (Lt w.heap.size) w s) :
    Calls Tryz.prog 59 #[.agg #[.slice s.Au s.up.length s.cu, .int .i64 s.sm, .int .i64 s.sc, .int .i64 s.sq, .slice s.Aa s.acts.length s.ca, .slice s.Af s.fl.length s.cf, .slice s.Al s.nl s.cl, .slice s.Ak s.nk s.ck, .int .i64 s.sd], .agg #[.string x.path, v1, .int .i64 x.node, v3, v4, v5, v6, .bool x.stopped, .slice Am x.mail cm]] w fun e w' => e = .returned (.bool (readyS s.up x)) ∧ Below w.heap.size w w' := by
  have hun := hs.un
  have HS := Lib.hid hs
  obtain ⟨R, hR⟩ : ∃ R, readyS s.up x = R := ⟨_, rfl⟩
  have HU : Hid (R = (!x.stopped && (decide (0 < x.mail) && (decide (0 ≤ x.node) && (decide (x.node < s.up.length) && s.up.getD x.node.toNat false))))) := Lib.hid (by rw [← hR]; rfl)
  rw [hR]
  obtain ⟨path, node, stopped, mail⟩ := x
  dsimp only at *
  obtain ⟨W, hW⟩ : ∃ W, (w.alloc (.cells #[.slice s.Au s.up.length s.cu, .int .i64 s.sm, .int .i64 s.sc, .int .i64 s.sq, .slice s.Aa s.acts.length s.ca, .slice s.Af s.fl.length s.cf, .slice s.Al s.nl s.cl, .slice s.Ak s.nk s.ck, .int .i64 s.sd] 29)).alloc (.cells #[.string path, v1, .int .i64 node, v3, v4, v5, v6, .bool stopped, .slice Am mail cm] 49) = W := ⟨_, rfl⟩
  have hal : Below w.heap.size w W := by rw [← hW]; exact ((Below.refl _ _).alloc (Nat.le_refl _) _).alloc (by simp) _
  have HAL := Lib.hid hal
  have hC : CellsAt W w.heap.size #[.slice s.Au s.up.length s.cu, .int .i64 s.sm, .int .i64 s.sc, .int .i64 s.sq, .slice s.Aa s.acts.length s.ca, .slice s.Af s.fl.length s.cf, .slice s.Al s.nl s.cl, .slice s.Ak s.nk s.ck, .int .i64 s.sd] 29 := by rw [← hW]; exact (CellsAt.new w _ _).keep ((Chg.refl (fun _ => False) _).alloc _) (fun h => h)
  have hD : CellsAt W (w.heap.size + 1) #[.string path, v1, .int .i64 node, v3, v4, v5, v6, .bool stopped, .slice Am mail cm] 49 := by
    rw [← hW]
    have := CellsAt.new (w.alloc (.cells #[.slice s.Au s.up.length s.cu, .int .i64 s.sm, .int .i64 s.sc, .int .i64 s.sq, .slice s.Aa s.acts.length s.ca, .slice s.Af s.fl.length s.cf, .slice s.Al s.nl s.cl, .slice s.Ak s.nk s.ck, .int .i64 s.sd] 29)) #[.string path, v1, .int .i64 node, v3, v4, v5, v6, .bool stopped, .slice Am mail cm] 49
    simpa using this
  have r0 : W.cell? ⟨w.heap.size, 0, none⟩ = some (.slice s.Au s.up.length s.cu) := by rw [hC.cell]; rfl
  have d2 : W.cell? ⟨w.heap.size + 1, 2, none⟩ = some (.int .i64 node) := by rw [hD.cell]; rfl
  have d7 : W.cell? ⟨w.heap.size + 1, 7, none⟩ = some (.bool stopped) := by rw [hD.cell]; rfl
  have d8 : W.cell? ⟨w.heap.size + 1, 8, none⟩ = some (.slice Am mail cm) := by rw [hD.cell]; rfl
  clear hs hR hal hC hD
  cases stopped with
  | true =>
    have HR : Hid (R = false) := Lib.hid (by rw [HU.out]; rfl)
    go_enter Tryz.func59, Tryz.ntmps59
    go_wp2_with fail
    go_ret
    exact ⟨by rw [HR.out]; rfl, HAL.out⟩
  | false =>
    by_cases h1 : 0 < mail
    · have h1i : (0 : Int) < (mail : Int) := by omega
      have h1d : decide (0 < mail) = true := by simpa using h1
      by_cases h2 : 0 ≤ node
      · have h2d : decide (0 ≤ node) = true := by simpa using h2
        by_cases h3 : node < s.up.length
        · have h3d : decide (node < (s.up.length : Int)) = true := by simpa using h3
          obtain ⟨bu, ou, hau, hbu, hcu⟩ := HS.out.up (by omega)
          obtain ⟨k, rfl⟩ : ∃ k : Nat, node = k := ⟨node.toNat, by omega⟩
          have hk : k < s.up.length := by omega
          obtain ⟨g, hg⟩ : ∃ g, s.up[k]? = some g := ⟨_, List.getElem?_eq_getElem hk⟩
          have hgd : s.up.getD k false = g := by rw [List.getD_eq_getElem?_getD, hg]; rfl
          have HR : Hid (R = g) := Lib.hid (by rw [HU.out, h1d, h2d, h3d, Int.toNat_natCast, hgd]; rfl)
          have u0 := (HAL.out.cell (p := ⟨bu, _, none⟩) hbu).trans (hcu k g hg)
          rw [hau] at r0
          have HAU := Lib.hid hau
          clear hau hbu hcu hg hgd
          rw [HAU.out] at hW ⊢
          go_enter Tryz.func59, Tryz.ntmps59
          go_wp2_with fail
          go_ret
          exact ⟨by rw [HR.out]; rfl, HAL.out⟩
        · have h3d : decide (node < (s.up.length : Int)) = false := by simpa using h3
          have HR : Hid (R = false) := Lib.hid (by rw [HU.out, h3d]; simp)
          go_enter Tryz.func59, Tryz.ntmps59
          go_wp2_with fail
          go_ret
          exact ⟨by rw [HR.out]; rfl, HAL.out⟩
      · have h2d : decide (0 ≤ node) = false := by simpa using h2
        have HR : Hid (R = false) := Lib.hid (by rw [HU.out, h2d]; simp)
        go_enter Tryz.func59, Tryz.ntmps59
        go_wp2_with fail
        go_ret
        exact ⟨by rw [HR.out]; rfl, HAL.out⟩
    · have h1i : ¬ (0 : Int) < (mail : Int) := by omega
      have h1d : decide (0 < mail) = false := by simpa using h1
      have HR : Hid (R = false) := Lib.hid (by rw [HU.out, h1d]; simp)
      go_enter Tryz.func59, Tryz.ntmps59
      go_wp2_with fail
      go_ret
      exact ⟨by rw [HR.out]; rfl, HAL.out⟩
end Go.Proofs.YtlbmfgiepcemdaaGreat
