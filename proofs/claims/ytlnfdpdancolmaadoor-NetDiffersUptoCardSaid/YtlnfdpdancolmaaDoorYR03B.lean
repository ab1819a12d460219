/- Rows of words of the call's own; ref03.words: the schedule of a block. Conditions: those in each statement. -/
import Derived.Test.YtlnfdpdancolmaaDoorYR39OR03A
import Derived.Test.YtlnfdpdancolmaaDoorYCloneSame
import Derived.Deep.RegionHeld3
import Derived.Deep.AppendLies
namespace Go.Proofs.YtlnfdpdancolmaaDoor
open Go.RowKit

def u32c (xs : List Int) : List Value := xs.map fun x => .int .u32 x
def RowW (B : Nat) (w : World) (v : Value) (xs : List Int) : Prop := w.ownsRow B 105 1 v xs.length (u32c xs)
theorem infoW : (Tryd.prog.info? 105).map (fun i => (i.zero, i.size, i.bytes)) = some (some (.int .u32 0), 1, 4) := by kernel_rfl
theorem wp_append_u32 {w : World} {ops : Array Oper} {rest : List Oper} {o : Oper} {a : Act} {Q : Exit → Act → World → Prop} (hgd : o.guard = none) (s x : Operand)
    (ho : o.op = .call { callee := .builtin .append, args := #[s, x], argTypes := #[112, 112] })
    (B : Nat) (hB : B ≤ w.heap.size) (v : Value) (xs : List Int) (hs : a.eval s = v) (hown : RowW B w v xs)
    (b o' c : Nat) (y : Int) (hx : a.eval x = .slice (some ⟨b, o', none⟩) 1 c) (hc : w.cell? ⟨b, o', none⟩ = some (.int .u32 y)) (hl : xs.length ≤ 1048576)
    (h : ∀ v' w', RowW B w' v' (xs ++ [y]) → w.grownBy w' v.ownBlock → wpList Tryd.prog ops Q rest (a.put o.dst v') w') : wpList Tryd.prog ops Q (o :: rest) a w := by
  obtain ⟨i0, hi0, hz0, hz1, hz2⟩ := info_parts infoW
  refine wpList_append_lies w hgd s x 112 ho B 105 i0 _ 1 4 Tryd.underlying112 hi0 hz0 hz1 hz2 rfl (by omega) v xs.length (u32c xs) hs hown ⟨b, o', none⟩ 1 c [.int .u32 y] hx rfl (fun j u hu => ?_) (fun u hu => by simp at hu; subst hu; rfl) (by omega) (by unfold maxLen; omega) (by omega) hB w.heap.size rfl ?_
  · cases j with
    | zero => simp at hu; subst hu; rw [Addr.add_lit]; exact hc
    | succ j => simp at hu
  · intro g cap w' h2 h3 _ _
    refine h _ w' ?_ h3
    unfold RowW
    rw [List.length_append, show u32c (xs ++ [y]) = u32c xs ++ [.int .u32 y] by simp [u32c]]
    exact h2
theorem one_news (w : World) (u : Value) (e : TypeId) : ∀ j x, [u][j]? = some x → (w.alloc (.cells #[u] e)).cell? ((⟨w.heap.size, 0, none⟩ : Addr).add j) = some x := fun j x hx => by
  rw [Addr.add_lit, Nat.zero_add, cell_new]
  cases j with
  | zero => exact hx
  | succ j => simp at hx
/-- v holds xs in a row of the call's own; what lies below B is as in w0 -/
def OwnW (B : Nat) (w0 w : World) (v : Value) (xs : List Int) : Prop := RowW B w v xs ∧ Below B w0 w ∧ B ≤ w.heap.size
section
variable {B : Nat} {w0 w w' : World} {v v' : Value} {xs ys : List Int}
theorem OwnW.nil (hB : Below B w0 w) (h : B ≤ w.heap.size) : OwnW B w0 w (.slice none 0 0) [] := ⟨World.ownsRow_nil _ _ _ _, hB, h⟩
theorem OwnW.below (h : OwnW B w0 w v xs) (hb : Below w.heap.size w w') : OwnW B w0 w' v xs := ⟨own_below h.1 hb, h.2.1.trans (hb.mono h.2.2), Nat.le_trans h.2.2 hb.size⟩
theorem OwnW.alloc (h : OwnW B w0 w v xs) (o : Obj) : OwnW B w0 (w.alloc o) v xs := h.below ((Below.refl _ _).alloc (Nat.le_refl _) o)
theorem OwnW.drew (h : OwnW B w0 w v xs) : OwnW B w0 w.drew v xs := h.below ((Below.refl _ _).drew)
theorem OwnW.app (h : OwnW B w0 w v xs) (hown : RowW B w' v' ys) (hg : w.grownBy w' v.ownBlock) : OwnW B w0 w' v' ys :=
  ⟨hown, h.2.1.grown hg h.2.2 (fun k hk => (h.1.lt k hk).1), Nat.le_trans h.2.2 hg.size⟩
theorem OwnW.form (h : OwnW B w0 w v xs) (hn : 0 < xs.length) : ∃ g c, v = .slice (some ⟨g, 0, none⟩) xs.length c ∧ B ≤ g ∧ xs.length ≤ c ∧ c ≤ 9223372036854775807 ∧ g < w.heap.size ∧ (∀ j x, xs[j]? = some x → w.cell? ⟨g, j, none⟩ = some (.int .u32 x)) ∧ ∀ j, w.frozen? ⟨g, j, none⟩ = false := by
  rcases h.1.2 with ⟨_, h0⟩ | ⟨g, cap, cur, hv, hB, hcur, hnc, hcm, hsz, htk⟩
  · omega
  · refine ⟨g, cap, hv, hB, hnc, hcm, (Array.getElem?_eq_some_iff.1 hcur).1, fun j x hx => ?_, fun j => by simp [World.frozen?, hcur]⟩
    have := h.1.cells (g := g) (by rw [hv]; rfl) j (.int .u32 x) (by simp [u32c, hx])
    rw [Addr.add_lit, Nat.zero_add] at this
    exact this
end
/-- a cell of old is as it was behind a block laid and an append onto a row of the call's own -/
theorem far_cell {w wr w6 : World} {v : Value} {xs : List Int} {o : Obj} (h : OwnW w.heap.size w wr v xs) {g : Nat} (hg : g < w.heap.size) (h6 : World.grownBy (wr.drew.alloc o) w6 v.ownBlock) {off : Nat} {u : Value} (hu : wr.cell? ⟨g, off, none⟩ = some u) : w6.cell? ⟨g, off, none⟩ = some u := by
  have hlt : g < wr.heap.size := Nat.lt_of_lt_of_le hg h.2.2
  have hne : some g ≠ v.ownBlock := fun e => by
    have := (h.1.lt g e.symm).1
    omega
  refine (h6.cell_far ⟨g, off, none⟩ (by simp; exact Nat.lt_succ_of_lt hlt) hne).trans ?_
  exact (((Below.refl wr.heap.size wr).drew.alloc (Nat.le_refl _) o).cell (p := ⟨g, off, none⟩) hlt).trans hu
/-- the slice's n cells read as the bytes of s -/
def BytesAt (w : World) (g o n : Nat) (s : ByteArray) : Prop := ∀ j, j < n → w.cell? ⟨g, o + j, none⟩ = some (.int .u8 (byt s j))
theorem BytesAt.below {w w' : World} {g o n B : Nat} {s : ByteArray} (h : BytesAt w g o n s) (hb : Below B w w') (hg : g < B) : BytesAt w' g o n s := fun j hj => (hb.cell (p := ⟨g, o + j, none⟩) hg).trans (h j hj)
theorem wL_lo (s : ByteArray) (k : Nat) (h : k < 16) : wL s (k + 1) = wL s k ++ [word s k] := by rw [wL, if_pos h]
theorem wL_hi (s : ByteArray) (m : Nat) : wL s (m + 16 + 1) = wL s (m + 16) ++ [nextW ((wL s (m + 16)).getD m 0) ((wL s (m + 16)).getD (m + 1) 0) ((wL s (m + 16)).getD (m + 9) 0) ((wL s (m + 16)).getD (m + 14) 0)] := by
  rw [wL, if_neg (by omega), show m + 16 - 16 = m by omega, show m + 16 - 15 = m + 1 by omega, show m + 16 - 7 = m + 9 by omega, show m + 16 - 2 = m + 14 by omega]
theorem wL_at (s : ByteArray) {n j : Nat} (h : j < n) : (wL s n)[j]? = some ((wL s n).getD j 0) := by
  have hl := wL_length s n
  rw [List.getD_eq_getElem?_getD, List.getElem?_eq_getElem (by omega)]; rfl
def WordsPost (s : ByteArray) (w : World) (e : Ending) (w' : World) : Prop := ∃ v, e = .returned v ∧ OwnW w.heap.size w w' v (wL s 64)

set_option maxHeartbeats 4000000 in
set_option maxRecDepth 100000 in
theorem rwords_any (s : ByteArray) (gb ob cb : Nat) (w : World) (hg : gb < w.heap.size) (hB : BytesAt w gb ob 64 s) :
    Calls Tryd.prog 89 #[.slice (some ⟨gb, ob, none⟩) 64 cb] w (WordsPost s w) := by
  have HBY := Lib.hid hB
  clear hB
  go_enter Tryd.func89, Tryd.ntmps89
  go_wp2_with fail
  go_loopw [3, 4] (fun s3 s4 wr => ∃ (k : Nat), k ≤ 16 ∧ s4 = .int .i64 k ∧ Hid (OwnW w.heap.size w wr s3 (wL s k))) (fun _ s4 _ => (16 - intOf s4).toNat)
  case atStart => exact ⟨0, by omega, rfl, Lib.hid (OwnW.nil (Below.refl _ _) (Nat.le_refl _))⟩
  case round =>
    obtain ⟨k, hk, rfl, HO⟩ := hrel
    by_cases h : k = 16
    · subst h
      go_wp2_with fail
      go_loopw [3, 5] (fun s3 s5 wr => ∃ (m : Nat), m ≤ 48 ∧ s5 = .int .i64 (m + 16) ∧ Hid (OwnW w.heap.size w wr s3 (wL s (m + 16)))) (fun _ s5 _ => (64 - intOf s5).toNat)
      case atStart => exact ⟨0, by omega, rfl, HO⟩
      case round =>
        clear HO
        obtain ⟨m, hm, rfl, HO⟩ := hrel
        have hll := wL_length s (m + 16)
        by_cases h : m = 48
        · subst h
          go_wp2_with fail
          go_ret
          exact ⟨_, rfl, HO.out⟩
        · have HX := Lib.hid (wL_hi s m)
          obtain ⟨g, c, hv, hBg, hlc, hcm2, hgw, hcell, hfr⟩ := HO.out.form (by omega)
          subst hv
          have c1 := hcell (m + 1) _ (wL_at s (by omega))
          have c14 := hcell (m + 14) _ (wL_at s (by omega))
          have c0 := hcell m _ (wL_at s (by omega))
          have c9 := hcell (m + 9) _ (wL_at s (by omega))
          rw [hll] at hlc
          have HO2 : Hid (OwnW w.heap.size w wr (.slice (some ⟨g, 0, none⟩) (m + 16) c) (wL s (m + 16))) := Lib.hid (by have := HO.out; rwa [hll] at this)
          obtain ⟨q, hq⟩ : ∃ q, wL s (m + 16) = q := ⟨_, rfl⟩
          rw [hll]
          rw [hq] at HX HO2 c0 c1 c9 c14 hll
          have HL := Lib.hid hll
          obtain ⟨x0, h0⟩ : ∃ X, q.getD m 0 = X := ⟨_, rfl⟩
          obtain ⟨x1, h1⟩ : ∃ X, q.getD (m + 1) 0 = X := ⟨_, rfl⟩
          obtain ⟨x9, h9⟩ : ∃ X, q.getD (m + 9) 0 = X := ⟨_, rfl⟩
          obtain ⟨x14, h14⟩ : ∃ X, q.getD (m + 14) 0 = X := ⟨_, rfl⟩
          rw [h0] at HX c0
          rw [h1] at HX c1
          rw [h9] at HX c9
          rw [h14] at HX c14
          clear h0 h1 h9 h14 hq hcell hfr HO hll
          have hmm : (m : Int) < 48 := by omega
          go_wp2_with fail
          (with_reducible refine (turn_7 _ _).mono ?_)
          rintro e w1 ⟨rfl, n1, rfl⟩
          go_wp2_with fail
          (with_reducible refine (turn_18 _ _).mono ?_)
          rintro e w1 ⟨rfl, n2, rfl⟩
          go_wp2_with fail
          (with_reducible refine (turn_17 _ _).mono ?_)
          rintro e w1 ⟨rfl, n3, rfl⟩
          go_wp2_with fail
          (with_reducible refine (turn_19 _ _).mono ?_)
          rintro e w1 ⟨rfl, n4, rfl⟩
          go_wp2_with fail
          obtain ⟨W, hW⟩ : ∃ W, wr.drewN (n1 + n2 + n3 + n4) = W := ⟨_, rfl⟩
          have hOW : OwnW w.heap.size w W (.slice (some ⟨g, 0, none⟩) (m + 16) c) q := by rw [← hW]; exact HO2.out.below (below_drewN (Below.refl _ _) _)
          have d0 : W.cell? ⟨g, m, none⟩ = some (.int .u32 x0) := by rw [← hW]; exact c0
          have d9 : W.cell? ⟨g, m + 9, none⟩ = some (.int .u32 x9) := by rw [← hW]; exact c9
          rw [hW]
          unfold nextW at HX
          generalize bits .xor .u32 (bits .xor .u32 (ror 33554432 128 x1) (ror 16384 262144 x1)) (x1 / 8) = σ at HX ⊢
          generalize bits .xor .u32 (bits .xor .u32 (ror 32768 131072 x14) (ror 8192 524288 x14)) (x14 / 1024) = τ at HX ⊢
          obtain ⟨i9, hi9, hz9, hy9, hx9⟩ := info_parts infoW
          have HI := Lib.hid (And.intro hi9 (And.intro hz9 (And.intro hy9 hx9)))
          have hql : q.length = m + 16 := HL.out
          have hmax : m + 16 + 1 ≤ maxLen := by unfold maxLen; omega
          have hbyt : (m + 16 + 1) * 4 ≤ 140737488355328 := by omega
          have HW : Hid (wL s (m + 16 + 1) = q ++ [IntKind.u32.wrap (IntKind.u32.wrap (IntKind.u32.wrap (x0 + σ) + x9) + τ)]) := Lib.hid (by rw [HX.out]; simp only [IntKind.wrap_u32]; congr 2; omega)
          have X5 := Lib.hid (hOW.drew.alloc (.cells #[.int .u32 (IntKind.u32.wrap (IntKind.u32.wrap (IntKind.u32.wrap (x0 + σ) + x9) + τ))] 105))
          have R5 : Hid (World.ownsRow (W.drew.alloc (.cells #[.int .u32 (IntKind.u32.wrap (IntKind.u32.wrap (IntKind.u32.wrap (x0 + σ) + x9) + τ))] 105)) w.heap.size 105 1 (.slice (some ⟨g, 0, none⟩) (m + 16) c) (m + 16) (u32c q)) := Lib.hid (by have := X5.out.1; unfold RowW at this; rwa [hql] at this)
          have N5 := Lib.hid (one_news W.drew (.int .u32 (IntKind.u32.wrap (IntKind.u32.wrap (IntKind.u32.wrap (x0 + σ) + x9) + τ))) 105)
          have y1 : (0 : Int) ≤ m := by omega
          have y2 : (m : Int) < m + 16 := by omega
          have y3 : (0 : Int) ≤ (m : Int) + 9 := by omega
          have y4 : (m : Int) + 9 < m + 16 := by omega
          have y5 : ((m : Int) + 9).toNat = m + 9 := by omega
          have y6 : IntKind.i64.wrap (m : Int) = m := IntWalk.i64_in _ (by omega)
          have y7 : (m : Int) + 16 - 7 = m + 9 := by omega
          have y8 : IntKind.i64.wrap ((m : Int) + 9) = m + 9 := IntWalk.i64_in _ (by omega)
          clear hW hOW hi9 hz9 hy9 hx9 HX hql c0 c1 c9 c14 HO2
          go_region_law (refine step_append_lies _ (by rfl) _ _ _ (by rfl) w.heap.size 105 i9 _ 1 4 Tryd.underlying112 HI.out.1 HI.out.2.1 HI.out.2.2.1 HI.out.2.2.2 rfl (by omega) (.slice (some ⟨g, 0, none⟩) (m + 16) c) (m + 16) (u32c q) (by rfl) R5.out ⟨W.heap.size, 0, none⟩ 1 1 [.int .u32 (IntKind.u32.wrap (IntKind.u32.wrap (IntKind.u32.wrap (x0 + σ) + x9) + τ))] (by rfl) (by rfl) N5.out (by simp [Value.oneCell']) (by omega) hmax hbyt X5.out.2.2 (W.heap.size + 1) (by simp) ?_; intro gg cap w6 hown6 hgrow hat6 hlt6; have HW6 := Lib.hid (And.intro hown6 hgrow); clear hown6 hgrow hat6)
          all_goals (
            have HO3 : Hid (OwnW w.heap.size w w6 (.slice (some ⟨gg, 0, none⟩) (m + 16 + 1) cap) (wL s (m + 1 + 16))) := Lib.hid (by
              rw [show m + 1 + 16 = m + 16 + 1 by omega, HW.out]
              refine X5.out.app ?_ HW6.out.2
              unfold RowW
              have hql : q.length = m + 16 := HL.out
              rw [List.length_append, show ∀ y, u32c (q ++ [y]) = u32c q ++ [.int .u32 y] from fun y => by simp [u32c], hql]
              exact HW6.out.1)
            go_wp2_with fail
            refine ⟨?_, by simp [intOf]; omega⟩
            (repeat apply Exists.intro)
            refine ⟨?_, rfl⟩
            exact ⟨m + 1, by omega, by go_num, HO3⟩)
    · have hll := wL_length s k
      have j0 : 0 ≤ 4 * (k:Int) := by omega
      have j1 : 0 ≤ 4 * (k:Int) + 1 := by omega
      have j2 : 0 ≤ 4 * (k:Int) + 2 := by omega
      have j3 : 0 ≤ 4 * (k:Int) + 3 := by omega
      have i0 : 4 * (k:Int) < 64 := by omega
      have i1 : 4 * (k:Int)+1 < 64 := by omega
      have i2 : 4 * (k:Int)+2 < 64 := by omega
      have i3 : 4 * (k:Int)+3 < 64 := by omega
      have hby := HBY.out.below HO.out.2.1 hg
      have c0 : wr.cell? ⟨gb, ob + 4 * k, none⟩ = some (.int .u8 (byt s (4 * k))) := hby (4 * k) (by omega)
      have c1 : wr.cell? ⟨gb, ob + (4 * k + 1), none⟩ = some (.int .u8 (byt s (4 * k + 1))) := hby (4 * k + 1) (by omega)
      have c2 : wr.cell? ⟨gb, ob + (4 * k + 2), none⟩ = some (.int .u8 (byt s (4 * k + 2))) := hby (4 * k + 2) (by omega)
      have c3 : wr.cell? ⟨gb, ob + (4 * k + 3), none⟩ = some (.int .u8 (byt s (4 * k + 3))) := hby (4 * k + 3) (by omega)
      have HX := Lib.hid (wL_lo s k (by omega))
      unfold word at HX
      obtain ⟨X0, h0⟩ : ∃ X, byt s (4 * k) = X := ⟨_, rfl⟩
      obtain ⟨X1, h1⟩ : ∃ X, byt s (4 * k + 1) = X := ⟨_, rfl⟩
      obtain ⟨X2, h2⟩ : ∃ X, byt s (4 * k + 2) = X := ⟨_, rfl⟩
      obtain ⟨X3, h3⟩ : ∃ X, byt s (4 * k + 3) = X := ⟨_, rfl⟩
      rw [h0] at c0 HX
      rw [h1] at c1 HX
      rw [h2] at c2 HX
      rw [h3] at c3 HX
      obtain ⟨q, hq⟩ : ∃ q, wL s k = q := ⟨_, rfl⟩
      rw [hq] at HO HX hll
      have HL := Lib.hid hll
      have hkk : (k : Int) < 16 := by omega
      have t0 : (4 * (k : Int)).toNat = 4 * k := by omega
      have t1 : (4 * (k : Int) + 1).toNat = 4 * k + 1 := by omega
      have t2 : (4 * (k : Int) + 2).toNat = 4 * k + 2 := by omega
      have t3 : (4 * (k : Int) + 3).toNat = 4 * k + 3 := by omega
      have v0 : IntKind.i64.wrap (4 * (k : Int)) = 4 * (k : Int) := IntWalk.i64_in _ (by omega)
      have v1 : IntKind.i64.wrap (4 * (k : Int) + 1) = 4 * (k : Int) + 1 := IntWalk.i64_in _ (by omega)
      have v2 : IntKind.i64.wrap (4 * (k : Int) + 2) = 4 * (k : Int) + 2 := IntWalk.i64_in _ (by omega)
      have v3 : IntKind.i64.wrap (4 * (k : Int) + 3) = 4 * (k : Int) + 3 := IntWalk.i64_in _ (by omega)
      obtain ⟨i9, hi9, hz9, hy9, hx9⟩ := info_parts infoW
      have HI := Lib.hid (And.intro hi9 (And.intro hz9 (And.intro hy9 hx9)))
      have hmax : q.length + 1 ≤ maxLen := by unfold maxLen; omega
      have hbyt : (q.length + 1) * 4 ≤ 140737488355328 := by omega
      have HW : Hid (wL s (k + 1) = q ++ [bits .or .u32 (bits .or .u32 (bits .or .u32 (IntKind.u32.wrap (IntKind.u32.wrap X0 * 16777216)) (IntKind.u32.wrap (IntKind.u32.wrap X1 * 65536))) (IntKind.u32.wrap (IntKind.u32.wrap X2 * 256))) (IntKind.u32.wrap X3)]) := Lib.hid (by rw [HX.out]; simp only [IntKind.wrap_u32])
      have X5 := Lib.hid (HO.out.drew.alloc (.cells #[.int .u32 (bits .or .u32 (bits .or .u32 (bits .or .u32 (IntKind.u32.wrap (IntKind.u32.wrap X0 * 16777216)) (IntKind.u32.wrap (IntKind.u32.wrap X1 * 65536))) (IntKind.u32.wrap (IntKind.u32.wrap X2 * 256))) (IntKind.u32.wrap X3))] 105))
      have N5 := Lib.hid (one_news wr.drew (.int .u32 (bits .or .u32 (bits .or .u32 (bits .or .u32 (IntKind.u32.wrap (IntKind.u32.wrap X0 * 16777216)) (IntKind.u32.wrap (IntKind.u32.wrap X1 * 65536))) (IntKind.u32.wrap (IntKind.u32.wrap X2 * 256))) (IntKind.u32.wrap X3))) 105)
      have HFAR : Hid (∀ w6, World.grownBy (wr.drew.alloc (.cells #[.int .u32 (bits .or .u32 (bits .or .u32 (bits .or .u32 (IntKind.u32.wrap (IntKind.u32.wrap X0 * 16777216)) (IntKind.u32.wrap (IntKind.u32.wrap X1 * 65536))) (IntKind.u32.wrap (IntKind.u32.wrap X2 * 256))) (IntKind.u32.wrap X3))] 105)) w6 u3.ownBlock → w6.cell? ⟨gb, ob + 4 * k, none⟩ = some (.int .u8 X0) ∧ w6.cell? ⟨gb, ob + (4 * k + 1), none⟩ = some (.int .u8 X1) ∧ w6.cell? ⟨gb, ob + (4 * k + 2), none⟩ = some (.int .u8 X2) ∧ w6.cell? ⟨gb, ob + (4 * k + 3), none⟩ = some (.int .u8 X3)) := Lib.hid (fun w6 hg6 => by
        have far : ∀ o u, wr.cell? ⟨gb, o, none⟩ = some u → w6.cell? ⟨gb, o, none⟩ = some u := fun o u hu => far_cell HO.out hg hg6 hu
        exact ⟨far _ _ c0, far _ _ c1, far _ _ c2, far _ _ c3⟩)
      clear h0 h1 h2 h3 hq hby hll hi9 hz9 hy9 hx9 HX HL
      go_wp2_with fail
      go_region_held3 (fun w' => w'.cell? ⟨gb, ob + 4 * k, none⟩ = some (.int .u8 X0) ∧ w'.cell? ⟨gb, ob + (4 * k + 1), none⟩ = some (.int .u8 X1) ∧ w'.cell? ⟨gb, ob + (4 * k + 2), none⟩ = some (.int .u8 X2) ∧ w'.cell? ⟨gb, ob + (4 * k + 3), none⟩ = some (.int .u8 X3))
        (first | go_keep)
        (first
          | (refine step_append_lies _ (by rfl) _ _ _ (by rfl) w.heap.size 105 i9 _ 1 4 Tryd.underlying112 HI.out.1 HI.out.2.1 HI.out.2.2.1 HI.out.2.2.2 rfl (by omega) u3 q.length (u32c q) (by rfl) X5.out.1 ⟨wr.heap.size, 0, none⟩ 1 1 [.int .u32 (bits .or .u32 (bits .or .u32 (bits .or .u32 (IntKind.u32.wrap (IntKind.u32.wrap X0 * 16777216)) (IntKind.u32.wrap (IntKind.u32.wrap X1 * 65536))) (IntKind.u32.wrap (IntKind.u32.wrap X2 * 256))) (IntKind.u32.wrap X3))] (by rfl) (by rfl) N5.out (by simp [Value.oneCell']) (by omega) hmax hbyt X5.out.2.2 (wr.heap.size + 1) (by simp) ?_; intro gg cap w6 hown6 hgrow hat6 hlt6; obtain ⟨zq0, zq1, zq2, zq3⟩ := HFAR.out w6 hgrow; have HW6 := Lib.hid (And.intro hown6 hgrow); clear hown6 hgrow hat6))
      have HO2 : Hid (OwnW w.heap.size w w6 (.slice (some ⟨gg, 0, none⟩) (q.length + 1) cap) (wL s (k + 1))) := Lib.hid (by
        rw [HW.out]
        refine X5.out.app ?_ HW6.out.2
        unfold RowW
        rw [List.length_append, show ∀ y, u32c (q ++ [y]) = u32c q ++ [.int .u32 y] from fun y => by simp [u32c]]
        exact HW6.out.1)
      go_wp2_with fail
      exact ⟨⟨k + 1, by omega, by go_num, HO2⟩, by simp [intOf]; omega⟩
end Go.Proofs.YtlnfdpdancolmaaDoor
