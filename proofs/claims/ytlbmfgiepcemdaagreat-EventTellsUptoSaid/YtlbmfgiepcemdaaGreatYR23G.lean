/- ref23.group: what it reads is g23. Conditions: those in each statement. -/
import Derived.Test.YtlbmfgiepcemdaaGreatYR23T
import Derived.Test.YtlbmfgiepcemdaaGreatYR2TTkP
namespace Go.Proofs.YtlbmfgiepcemdaaGreat
open Go.RowKit

def Group2Post (b : Nat) (p : List Ev × RS) (w : World) (e : Ending) (w' : World) : Prop :=
  Chg (fun k => k = b) w w' ∧ ∃ (A : Option Addr) (c : Nat), e = .returned (.slice A p.1.length c) ∧ Rd (Bt w.heap.size w'.heap.size) w' (slEv p.1) (.slice A p.1.length c) ∧ R2At w' b p.2
/-- what the steps keep: the reader, the event's box -/
structure G2 (w0 : World) (b : Nat) (W : World) (r : RS) (vb : Nat) (cs : Array Value) : Prop where
  chg : Chg (fun k => k = b) w0 W
  rd : R2At W b r
  v : CellsAt W vb cs 37
  vb : w0.heap.size ≤ vb
section
variable {w0 : World} {b vb : Nat} {W w1 : World} {r r' : RS} {cs : Array Value}
theorem G2.call (h : G2 w0 b W r vb cs) (hb : b < w0.heap.size) (hc : Chg (fun k => k = b) W w1) (hr : R2At w1 b r') : G2 w0 b w1 r' vb cs :=
  ⟨h.chg.next hc, hr, h.v.keep hc (by have := h.vb; omega), h.vb⟩
theorem G2.store (h : G2 w0 b W r vb cs) (hb : b < w0.heap.size) (j : Nat) (u : Value) : G2 w0 b (W.setCell ⟨vb, j, none⟩ u) r vb (cs.setIfInBounds j u) := by
  have hv := h.vb
  have hc : Chg (fun k => k = vb) W (W.setCell ⟨vb, j, none⟩ u) := (Chg.refl (fun k => k = vb) W).setCell (p := ⟨vb, j, none⟩) (.inl rfl) u
  exact ⟨h.chg.trans hc (fun k hk => .inr (by omega)), h.rd.keep hc (by omega), h.v.set j u, h.vb⟩
theorem G2.later (h : G2 w0 b W r vb cs) (hb : b < w0.heap.size) (hc : Chg (fun k => vb < k) W w1) : G2 w0 b w1 r vb cs := by
  have hv := h.vb
  exact ⟨h.chg.trans hc (fun k hk => .inr (by omega)), h.rd.keep hc (by omega), h.v.keep hc (by omega), h.vb⟩
theorem G2.new (hc : Chg (fun k => k = b) w0 W) (hr : R2At W b r) (cs : Array Value) : G2 w0 b (W.alloc (.cells cs 37)) r W.heap.size cs :=
  ⟨hc.alloc _, hr.keep ((Chg.refl (fun _ => False) W).alloc _) (fun h => h), CellsAt.new W cs _, hc.size⟩
end
/-- a value read, whatever comes -/
theorem read2_val (b : Nat) (r : RS) (w : World) (hr : R2At w b r) (hf : Sane r) (hs : r.s.size ≤ 1048576) : Calls Tryz.prog 67 #[.pointer (some ⟨b, 0, none⟩)] w fun e w' => Chg (fun k => k = b) w w' ∧ ∃ A c ok, e = .returned (.tuple #[.agg #[.int .i64 (valR r).1.kind, .string (valR r).1.t, .int .i64 (valR r).1.n, .int .i64 (valR r).1.m, .string (valR r).1.s, .slice A (valR r).1.l.length c], .bool ok]) ∧ Rd (Bt w.heap.size w'.heap.size) w' (vs (valR r).1.l) (.slice A (valR r).1.l.length c) ∧ R2At w' b (valR r).2 := by
  refine (read2_any b r w hr hf hs).mono ?_
  rintro e w' ⟨hc, h⟩
  refine ⟨hc, ?_⟩
  unfold valR
  cases ho : readS r with
  | none =>
    rw [ho] at h
    obtain ⟨rfl, h2⟩ := h
    exact ⟨none, 0, false, rfl, Rd.sl_nil, h2⟩
  | some q =>
    rw [ho] at h
    obtain ⟨v, r'⟩ := q
    obtain ⟨A, c, rfl, h2, h3⟩ := h
    exact ⟨A, c, true, rfl, h2, h3⟩
/-- i values are read -/
def ArTo (c : Nat) (r0 : RS) (i : Nat) (acc : List V) (r : RS) : Prop := argG c r0 = (acc ++ (argG (c - i) r).1, (argG (c - i) r).2)
theorem ArTo.start (c : Nat) (r0 : RS) : ArTo c r0 0 [] r0 := by unfold ArTo; simp
theorem ArTo.step {c : Nat} {r0 : RS} {i : Nat} {acc : List V} {r : RS} (h : ArTo c r0 i acc r) (hi : i < c) (hd : ¬ r.s.size = 0) : ArTo c r0 (i + 1) (acc ++ [(valR r).1]) (valR r).2 := by
  unfold ArTo at h ⊢
  rw [h, show c - i = (c - (i + 1)) + 1 by omega, argG, if_neg hd]
  simp
theorem ArTo.stop {c : Nat} {r0 : RS} {i : Nat} {acc : List V} {r : RS} (h : ArTo c r0 i acc r) (hd : r.s.size = 0) : argG c r0 = (acc, r) := by
  unfold ArTo at h
  rw [h]
  cases c - i with
  | zero => rw [argG]; simp
  | succ n => rw [argG, if_pos hd]; simp
theorem ArTo.done {c : Nat} {r0 : RS} {acc : List V} {r : RS} (h : ArTo c r0 c acc r) : argG c r0 = (acc, r) := by
  unfold ArTo at h
  rw [h, Nat.sub_self, argG]; simp
theorem valR_next {r : RS} (hs : Sane r) (hz : r.s.size ≤ 1048576) : Sane (valR r).2 ∧ (valR r).2.s.size ≤ 1048576 := by
  obtain ⟨a1, _, a2, _⟩ := valR_sum hs hz
  exact ⟨a1, by omega⟩
/-- one event, built as a slice -/
theorem group_one {w0 : World} {b : Nat} {W : World} {r : RS} {vb : Nat} {x : Ev} {A C : Option Addr} {c d : Nat} (h : G2 w0 b W r vb #[.int .i64 x.kind, .string x.path, .string x.msg, .slice A x.args.length c, .int .i64 x.ord, .int .i64 x.vk, .string x.vt, .int .i64 x.vn, .int .i64 x.vm, .string x.vx, .slice C x.vl.length d, .int .i64 x.n]) (ra : Rd (Bt w0.heap.size W.heap.size) W (vs x.args) (.slice A x.args.length c)) (rv : Rd (Bt w0.heap.size W.heap.size) W (vs x.vl) (.slice C x.vl.length d)) :
    Group2Post b ([x], r) w0 (.returned (.slice (some ⟨W.heap.size, 0, none⟩) 1 1)) (W.alloc (.cells #[.int .i64 x.kind, .string x.path, .string x.msg, .slice A x.args.length c, .int .i64 x.ord, .int .i64 x.vk, .string x.vt, .int .i64 x.vn, .int .i64 x.vm, .string x.vx, .slice C x.vl.length d, .int .i64 x.n] 37)) := by
  have hz := h.chg.size
  have hb : Below W.heap.size W (W.alloc (.cells #[.int .i64 x.kind, .string x.path, .string x.msg, .slice A x.args.length c, .int .i64 x.ord, .int .i64 x.vk, .string x.vt, .int .i64 x.vn, .int .i64 x.vm, .string x.vx, .slice C x.vl.length d, .int .i64 x.n] 37)) := (Below.refl _ _).alloc (Nat.le_refl _) _
  refine ⟨h.chg.alloc _, _, 1, rfl, ?_, h.rd.keep ((Chg.refl (fun _ => False) W).alloc _) (fun h => h)⟩
  have hn := CellsAt.new W #[.int .i64 x.kind, .string x.path, .string x.msg, .slice A x.args.length c, .int .i64 x.ord, .int .i64 x.vk, .string x.vt, .int .i64 x.vn, .int .i64 x.vm, .string x.vx, .slice C x.vl.length d, .int .i64 x.n] 37
  refine slEv_one (c3 := c) (c10 := d) (A3 := A) (A10 := C) ⟨hz, by simp⟩ ⟨by rw [hn.cell]; rfl, by rw [hn.cell]; rfl, by rw [hn.cell]; rfl, by rw [hn.cell]; rfl, by rw [hn.cell]; rfl, by rw [hn.cell]; rfl, by rw [hn.cell]; rfl, by rw [hn.cell]; rfl, by rw [hn.cell]; rfl, by rw [hn.cell]; rfl, by rw [hn.cell]; rfl, by rw [hn.cell]; rfl, ?_, ?_⟩
  · exact (ra.below hb (fun q hq => hq.2)).weaken (fun q hq => ⟨hq.1, by have := hq.2; simp; omega⟩)
  · exact (rv.below hb (fun q hq => hq.2)).weaken (fun q hq => ⟨hq.1, by have := hq.2; simp; omega⟩)
set_option maxHeartbeats 16000000 in
set_option maxRecDepth 100000 in
theorem group2_any (b : Nat) (r : RS) (most : Nat) (w : World) (hr : R2At w b r) (hs : r.s.size ≤ 1048000) (hm : most ≤ 1048576) : Calls Tryz.prog 38 #[.pointer (some ⟨b, 0, none⟩), .int .i64 most] w (Group2Post b (g23 r most) w) := by
  have hb := hr.lt
  have hs1 : (numR r).s.size ≤ 1048000 := Nat.le_trans (numR_size r) hs
  have hk := numV_le r
  have hk2 := numV_le (numR r)
  have H1 := Lib.hid (r2num_any b r w hr (by omega))
  have H2 : Hid (∀ W, R2At W b (numR r) → Calls Tryz.prog 36 #[.pointer (some ⟨b, 0, none⟩)] W (R2Post b (numR (numR r)) (.int .i64 (numV (numR r))) W)) := Lib.hid (fun W h => r2num_any b (numR r) W h (by omega))
  obtain ⟨O, hO⟩ : ∃ O, g23 r most = O := ⟨_, rfl⟩
  have HO : Hid (O = g23 r most) := Lib.hid hO.symm
  rw [hO]
  clear hO hr
  obtain ⟨K, hK⟩ : ∃ K, numV r = K := ⟨_, rfl⟩
  rw [hK] at hk H1
  have HK := Lib.hid hK
  clear hK
  go_enter Tryz.func38, Tryz.ntmps38
  go_wp2_with fail
  (with_reducible refine H1.out.mono ?_)
  rintro e w1 ⟨rfl, hc, hr1⟩
  have HC1 := Lib.hid hc
  have HR1 := Lib.hid hr1
  clear hc hr1 H1
  by_cases k0 : K = 0
  · have b0 : ((K : Int) == 0) = true := by simp [k0]
    subst k0
    have S1 := Lib.hid (G2.new HC1.out HR1.out #[.int .i64 2, .string ⟨#[]⟩, .string ⟨#[]⟩, .slice none 0 0, .int .i64 0, .int .i64 0, .string ⟨#[]⟩, .int .i64 0, .int .i64 0, .string ⟨#[]⟩, .slice none 0 0, .int .i64 0])
    have hcz := HC1.out.size
    go_wp2_with fail
    generalize hV : w1.heap.size = vb at S1 hcz ⊢
    obtain ⟨X0, hX0⟩ : ∃ X, w1.alloc (.cells #[.int .i64 2, .string ⟨#[]⟩, .string ⟨#[]⟩, .slice none 0 0, .int .i64 0, .int .i64 0, .string ⟨#[]⟩, .int .i64 0, .int .i64 0, .string ⟨#[]⟩, .slice none 0 0, .int .i64 0] 37) = X := ⟨_, rfl⟩
    rw [hX0] at S1 ⊢
    clear hX0 hV HC1 HR1
    have HOX : Hid (O = (List.replicate (min (numV (numR r)) most) (evN 2 0), numR (numR r))) := Lib.hid (by rw [HO.out]; unfold g23; rw [HK.out, if_pos (.inl rfl), if_pos rfl])
    clear HO HK
    (with_reducible refine (H2.out _ S1.out.rd).mono ?_)
    rintro e w2 ⟨rfl, hc, hr⟩
    have S2 := Lib.hid (S1.out.call hb hc hr)
    clear hc hr S1 H2
    generalize numR (numR r) = R2 at *
    generalize numV (numR r) = N at *
    have hMN : min (N : Int) (most : Int) = ((min N most : Nat) : Int) := by omega
    have hMM : min N most ≤ most := Nat.min_le_right _ _
    generalize min N most = M at *
    go_wp2_with fail
    clear hMN
    go_loopw [7, 8] (fun s7 s8 wr => ∃ (i : Nat) (L : List Ev), i ≤ M ∧ s8 = .int .i64 i ∧ Hid (L = List.replicate i (evN 2 0)) ∧ Hid (G2 w b wr R2 vb #[.int .i64 2, .string ⟨#[]⟩, .string ⟨#[]⟩, .slice none 0 0, .int .i64 0, .int .i64 0, .string ⟨#[]⟩, .int .i64 0, .int .i64 0, .string ⟨#[]⟩, .slice none 0 0, .int .i64 0]) ∧ Hid (Owned (vb + 1) 37 12 L.length (rowsEv L) wr s7)) (fun _ s8 _ => M - (intOf s8).toNat)
    case atStart => exact ⟨0, [], by omega, rfl, Lib.hid rfl, S2, Lib.hid (Owned.nil _ _ _ _ _)⟩
    case round =>
      obtain ⟨i, L, hi, rfl, HLR, HS, HW⟩ := hrel
      obtain ⟨A9, c9, rfl, _⟩ := HW.out.rd.sl_inv
      by_cases hlt : i < M
      · have hil : (i : Int) < M := by omega
        have v0 : wr.cell? ⟨vb, 0, none⟩ = some (.int .i64 2) := by rw [HS.out.v.cell]; rfl
        have v1 : wr.cell? ⟨vb, 1, none⟩ = some (.string ⟨#[]⟩) := by rw [HS.out.v.cell]; rfl
        have v2 : wr.cell? ⟨vb, 2, none⟩ = some (.string ⟨#[]⟩) := by rw [HS.out.v.cell]; rfl
        have v3 : wr.cell? ⟨vb, 3, none⟩ = some (.slice none 0 0) := by rw [HS.out.v.cell]; rfl
        have v4 : wr.cell? ⟨vb, 4, none⟩ = some (.int .i64 0) := by rw [HS.out.v.cell]; rfl
        have v5 : wr.cell? ⟨vb, 5, none⟩ = some (.int .i64 0) := by rw [HS.out.v.cell]; rfl
        have v6 : wr.cell? ⟨vb, 6, none⟩ = some (.string ⟨#[]⟩) := by rw [HS.out.v.cell]; rfl
        have v7 : wr.cell? ⟨vb, 7, none⟩ = some (.int .i64 0) := by rw [HS.out.v.cell]; rfl
        have v8 : wr.cell? ⟨vb, 8, none⟩ = some (.int .i64 0) := by rw [HS.out.v.cell]; rfl
        have v9 : wr.cell? ⟨vb, 9, none⟩ = some (.string ⟨#[]⟩) := by rw [HS.out.v.cell]; rfl
        have v10 : wr.cell? ⟨vb, 10, none⟩ = some (.slice none 0 0) := by rw [HS.out.v.cell]; rfl
        have v11 : wr.cell? ⟨vb, 11, none⟩ = some (.int .i64 0) := by rw [HS.out.v.cell]; rfl
        have hvl := HS.out.v.lt
        have hal : Below wr.heap.size wr (wr.alloc (.cells #[.int .i64 2, .string ⟨#[]⟩, .string ⟨#[]⟩, .slice none 0 0, .int .i64 0, .int .i64 0, .string ⟨#[]⟩, .int .i64 0, .int .i64 0, .string ⟨#[]⟩, .slice none 0 0, .int .i64 0] 37)) := (Below.refl _ _).alloc (Nat.le_refl _) _
        have HW2 := Lib.hid (HW.out.below hal)
        have HOB := Lib.hid HW.out.below_own
        have HAL := Lib.hid hal
        clear hal
        go_wp2_with (at_builtin; refine wp_append_ev rfl _ _ rfl (vb + 1) ?cx1 (.slice A9 L.length c9) L rfl HW2.out ⟨wr.heap.size, 0, none⟩ 1 (evN 2 0) none 0 none 0 rfl ?cx2 ?cx3 ?cx4 ?cx5 ?_)
        case cx1 => simp; omega
        case cx2 =>
          intro j u hj
          rw [Addr.add_lit, Nat.zero_add, cell_new]
          exact List.getElem?_toArray.trans hj
        case cx3 => exact Rd.sl_nil
        case cx4 => exact Rd.sl_nil
        case cx5 => rw [HLR.out, List.length_replicate]; omega
        intro v' w10 hO10 hg10 hv10
        obtain ⟨A10, c10, rfl, _⟩ := hO10.rd.sl_inv
        have hch : Chg (fun k => vb < k) wr w10 := (Chg.of_below HAL.out).next (Chg.of_grown hg10 (fun k hk => by have := (HOB.out k hk).1; omega))
        have S10 := Lib.hid (HS.out.later hb hch)
        have HLR2 : Hid (L ++ [evN 2 0] = List.replicate (i + 1) (evN 2 0)) := Lib.hid (by rw [HLR.out]; exact replicate_snoc [] i _)
        have W10 : Hid (Owned (vb + 1) 37 12 (L ++ [evN 2 0]).length (rowsEv (L ++ [evN 2 0])) w10 (.slice A10 (L.length + 1) c10)) := Lib.hid (by rw [show (L ++ [evN 2 0]).length = L.length + 1 by simp]; exact hO10)
        clear hO10 hg10 hv10 hch HW2 HAL HOB
        go_wp2_with fail
        exact ⟨⟨i + 1, _, by omega, by go_num, HLR2, S10, W10⟩, by simp [intOf]; omega⟩
      · obtain rfl : i = M := by omega
        have hle := HS.out.chg.size
        have hvb := HS.out.vb
        have HR9 : Hid (Group2Post b O w (.returned (.slice A9 L.length c9)) wr) := Lib.hid (by
          rw [HOX.out, ← HLR.out]
          exact ⟨HS.out.chg, A9, c9, rfl, HW.out.rd.weaken (fun q hq => ⟨by have := hq.1; omega, hq.2⟩), HS.out.rd⟩)
        go_wp2_with fail
        go_ret
        exact HR9.out
  have b0 : ((K : Int) == 0) = false := by rw [beq_eq_false_iff_ne]; omega
  by_cases k3 : K = 3
  · have b3 : ((K : Int) == 3) = true := by simp [k3]
    subst k3
    have S1 := Lib.hid (G2.new HC1.out HR1.out #[.int .i64 3, .string ⟨#[]⟩, .string ⟨#[]⟩, .slice none 0 0, .int .i64 0, .int .i64 0, .string ⟨#[]⟩, .int .i64 0, .int .i64 0, .string ⟨#[]⟩, .slice none 0 0, .int .i64 0])
    have hcz := HC1.out.size
    go_wp2_with fail
    generalize hV : w1.heap.size = vb at S1 hcz ⊢
    obtain ⟨X0, hX0⟩ : ∃ X, w1.alloc (.cells #[.int .i64 3, .string ⟨#[]⟩, .string ⟨#[]⟩, .slice none 0 0, .int .i64 0, .int .i64 0, .string ⟨#[]⟩, .int .i64 0, .int .i64 0, .string ⟨#[]⟩, .slice none 0 0, .int .i64 0] 37) = X := ⟨_, rfl⟩
    rw [hX0] at S1 ⊢
    clear hX0 hV HC1 HR1
    have HOX : Hid (O = (List.replicate (min (numV (numR r)) most) (evN 3 0), numR (numR r))) := Lib.hid (by rw [HO.out]; unfold g23; rw [HK.out, if_pos (.inr rfl), if_neg (by decide)])
    clear HO HK
    (with_reducible refine (H2.out _ S1.out.rd).mono ?_)
    rintro e w2 ⟨rfl, hc, hr⟩
    have S2 := Lib.hid (S1.out.call hb hc hr)
    clear hc hr S1 H2
    generalize numR (numR r) = R2 at *
    generalize numV (numR r) = N at *
    have hMN : min (N : Int) (most : Int) = ((min N most : Nat) : Int) := by omega
    have hMM : min N most ≤ most := Nat.min_le_right _ _
    generalize min N most = M at *
    go_wp2_with fail
    clear hMN
    go_loopw [7, 8] (fun s7 s8 wr => ∃ (i : Nat) (L : List Ev), i ≤ M ∧ s8 = .int .i64 i ∧ Hid (L = List.replicate i (evN 3 0)) ∧ Hid (G2 w b wr R2 vb #[.int .i64 3, .string ⟨#[]⟩, .string ⟨#[]⟩, .slice none 0 0, .int .i64 0, .int .i64 0, .string ⟨#[]⟩, .int .i64 0, .int .i64 0, .string ⟨#[]⟩, .slice none 0 0, .int .i64 0]) ∧ Hid (Owned (vb + 1) 37 12 L.length (rowsEv L) wr s7)) (fun _ s8 _ => M - (intOf s8).toNat)
    case atStart => exact ⟨0, [], by omega, rfl, Lib.hid rfl, S2, Lib.hid (Owned.nil _ _ _ _ _)⟩
    case round =>
      obtain ⟨i, L, hi, rfl, HLR, HS, HW⟩ := hrel
      obtain ⟨A9, c9, rfl, _⟩ := HW.out.rd.sl_inv
      by_cases hlt : i < M
      · have hil : (i : Int) < M := by omega
        have v0 : wr.cell? ⟨vb, 0, none⟩ = some (.int .i64 3) := by rw [HS.out.v.cell]; rfl
        have v1 : wr.cell? ⟨vb, 1, none⟩ = some (.string ⟨#[]⟩) := by rw [HS.out.v.cell]; rfl
        have v2 : wr.cell? ⟨vb, 2, none⟩ = some (.string ⟨#[]⟩) := by rw [HS.out.v.cell]; rfl
        have v3 : wr.cell? ⟨vb, 3, none⟩ = some (.slice none 0 0) := by rw [HS.out.v.cell]; rfl
        have v4 : wr.cell? ⟨vb, 4, none⟩ = some (.int .i64 0) := by rw [HS.out.v.cell]; rfl
        have v5 : wr.cell? ⟨vb, 5, none⟩ = some (.int .i64 0) := by rw [HS.out.v.cell]; rfl
        have v6 : wr.cell? ⟨vb, 6, none⟩ = some (.string ⟨#[]⟩) := by rw [HS.out.v.cell]; rfl
        have v7 : wr.cell? ⟨vb, 7, none⟩ = some (.int .i64 0) := by rw [HS.out.v.cell]; rfl
        have v8 : wr.cell? ⟨vb, 8, none⟩ = some (.int .i64 0) := by rw [HS.out.v.cell]; rfl
        have v9 : wr.cell? ⟨vb, 9, none⟩ = some (.string ⟨#[]⟩) := by rw [HS.out.v.cell]; rfl
        have v10 : wr.cell? ⟨vb, 10, none⟩ = some (.slice none 0 0) := by rw [HS.out.v.cell]; rfl
        have v11 : wr.cell? ⟨vb, 11, none⟩ = some (.int .i64 0) := by rw [HS.out.v.cell]; rfl
        have hvl := HS.out.v.lt
        have hal : Below wr.heap.size wr (wr.alloc (.cells #[.int .i64 3, .string ⟨#[]⟩, .string ⟨#[]⟩, .slice none 0 0, .int .i64 0, .int .i64 0, .string ⟨#[]⟩, .int .i64 0, .int .i64 0, .string ⟨#[]⟩, .slice none 0 0, .int .i64 0] 37)) := (Below.refl _ _).alloc (Nat.le_refl _) _
        have HW2 := Lib.hid (HW.out.below hal)
        have HOB := Lib.hid HW.out.below_own
        have HAL := Lib.hid hal
        clear hal
        go_wp2_with (at_builtin; refine wp_append_ev rfl _ _ rfl (vb + 1) ?cx1 (.slice A9 L.length c9) L rfl HW2.out ⟨wr.heap.size, 0, none⟩ 1 (evN 3 0) none 0 none 0 rfl ?cx2 ?cx3 ?cx4 ?cx5 ?_)
        case cx1 => simp; omega
        case cx2 =>
          intro j u hj
          rw [Addr.add_lit, Nat.zero_add, cell_new]
          exact List.getElem?_toArray.trans hj
        case cx3 => exact Rd.sl_nil
        case cx4 => exact Rd.sl_nil
        case cx5 => rw [HLR.out, List.length_replicate]; omega
        intro v' w10 hO10 hg10 hv10
        obtain ⟨A10, c10, rfl, _⟩ := hO10.rd.sl_inv
        have hch : Chg (fun k => vb < k) wr w10 := (Chg.of_below HAL.out).next (Chg.of_grown hg10 (fun k hk => by have := (HOB.out k hk).1; omega))
        have S10 := Lib.hid (HS.out.later hb hch)
        have HLR2 : Hid (L ++ [evN 3 0] = List.replicate (i + 1) (evN 3 0)) := Lib.hid (by rw [HLR.out]; exact replicate_snoc [] i _)
        have W10 : Hid (Owned (vb + 1) 37 12 (L ++ [evN 3 0]).length (rowsEv (L ++ [evN 3 0])) w10 (.slice A10 (L.length + 1) c10)) := Lib.hid (by rw [show (L ++ [evN 3 0]).length = L.length + 1 by simp]; exact hO10)
        clear hO10 hg10 hv10 hch HW2 HAL HOB
        go_wp2_with fail
        exact ⟨⟨i + 1, _, by omega, by go_num, HLR2, S10, W10⟩, by simp [intOf]; omega⟩
      · obtain rfl : i = M := by omega
        have hle := HS.out.chg.size
        have hvb := HS.out.vb
        have HR9 : Hid (Group2Post b O w (.returned (.slice A9 L.length c9)) wr) := Lib.hid (by
          rw [HOX.out, ← HLR.out]
          exact ⟨HS.out.chg, A9, c9, rfl, HW.out.rd.weaken (fun q hq => ⟨by have := hq.1; omega, hq.2⟩), HS.out.rd⟩)
        go_wp2_with fail
        go_ret
        exact HR9.out
  have b3 : ((K : Int) == 3) = false := by rw [beq_eq_false_iff_ne]; omega
  by_cases k14 : K ≠ 1 ∧ K ≠ 4
  · have b1 : ((K : Int) != 1) = true := by rw [bne_iff_ne]; omega
    have b4 : ((K : Int) != 4) = true := by rw [bne_iff_ne]; omega
    have HOX : Hid (O = ([evN K (numV (numR r))], numR (numR r))) := Lib.hid (by rw [HO.out]; unfold g23; rw [HK.out, if_neg (by omega), if_pos k14])
    have S1 := Lib.hid (G2.new HC1.out HR1.out #[.int .i64 (K : Int), .string ⟨#[]⟩, .string ⟨#[]⟩, .slice none 0 0, .int .i64 0, .int .i64 0, .string ⟨#[]⟩, .int .i64 0, .int .i64 0, .string ⟨#[]⟩, .slice none 0 0, .int .i64 0])
    have hcz := HC1.out.size
    go_wp2_with fail
    generalize hV : w1.heap.size = vb at S1 hcz ⊢
    obtain ⟨X0, hX0⟩ : ∃ X, w1.alloc (.cells #[.int .i64 (K : Int), .string ⟨#[]⟩, .string ⟨#[]⟩, .slice none 0 0, .int .i64 0, .int .i64 0, .string ⟨#[]⟩, .int .i64 0, .int .i64 0, .string ⟨#[]⟩, .slice none 0 0, .int .i64 0] 37) = X := ⟨_, rfl⟩
    rw [hX0] at S1 ⊢
    clear hX0 hV HC1 HR1
    clear HO HK
    (with_reducible refine (H2.out _ S1.out.rd).mono ?_)
    rintro e w2 ⟨rfl, hc, hr⟩
    have S2 := Lib.hid (S1.out.call hb hc hr)
    clear hc hr S1 H2
    generalize numR (numR r) = R2 at *
    generalize numV (numR r) = N at *
    have S3 : Hid (G2 w b (w2.setCell ⟨vb, 11, none⟩ (.int .i64 (N : Int))) R2 vb #[.int .i64 (K : Int), .string ⟨#[]⟩, .string ⟨#[]⟩, .slice none 0 0, .int .i64 0, .int .i64 0, .string ⟨#[]⟩, .int .i64 0, .int .i64 0, .string ⟨#[]⟩, .slice none 0 0, .int .i64 (N : Int)]) := Lib.hid (by simpa using S2.out.store hb 11 (.int .i64 (N : Int)))
    have v0 : w2.cell? ⟨vb, 0, none⟩ = some (.int .i64 (K : Int)) := by rw [S2.out.v.cell]; rfl
    have v1 : w2.cell? ⟨vb, 1, none⟩ = some (.string ⟨#[]⟩) := by rw [S2.out.v.cell]; rfl
    have v2 : w2.cell? ⟨vb, 2, none⟩ = some (.string ⟨#[]⟩) := by rw [S2.out.v.cell]; rfl
    have v3 : w2.cell? ⟨vb, 3, none⟩ = some (.slice none 0 0) := by rw [S2.out.v.cell]; rfl
    have v4 : w2.cell? ⟨vb, 4, none⟩ = some (.int .i64 0) := by rw [S2.out.v.cell]; rfl
    have v5 : w2.cell? ⟨vb, 5, none⟩ = some (.int .i64 0) := by rw [S2.out.v.cell]; rfl
    have v6 : w2.cell? ⟨vb, 6, none⟩ = some (.string ⟨#[]⟩) := by rw [S2.out.v.cell]; rfl
    have v7 : w2.cell? ⟨vb, 7, none⟩ = some (.int .i64 0) := by rw [S2.out.v.cell]; rfl
    have v8 : w2.cell? ⟨vb, 8, none⟩ = some (.int .i64 0) := by rw [S2.out.v.cell]; rfl
    have v9 : w2.cell? ⟨vb, 9, none⟩ = some (.string ⟨#[]⟩) := by rw [S2.out.v.cell]; rfl
    have v10 : w2.cell? ⟨vb, 10, none⟩ = some (.slice none 0 0) := by rw [S2.out.v.cell]; rfl
    have v11 : w2.cell? ⟨vb, 11, none⟩ = some (.int .i64 0) := by rw [S2.out.v.cell]; rfl
    have vf := S2.out.v.fz
    have HR9 : Hid (Group2Post b O w (.returned (.slice (some ⟨(w2.setCell ⟨vb, 11, none⟩ (.int .i64 (N : Int))).heap.size, 0, none⟩) 1 1)) ((w2.setCell ⟨vb, 11, none⟩ (.int .i64 (N : Int))).alloc (.cells #[.int .i64 (K : Int), .string ⟨#[]⟩, .string ⟨#[]⟩, .slice none 0 0, .int .i64 0, .int .i64 0, .string ⟨#[]⟩, .int .i64 0, .int .i64 0, .string ⟨#[]⟩, .slice none 0 0, .int .i64 (N : Int)] 37))) := Lib.hid (by
      rw [HOX.out]
      exact group_one (x := evN K N) (A := none) (C := none) (c := 0) (d := 0) S3.out Rd.sl_nil Rd.sl_nil)
    clear S2 S3 HOX
    go_wp2_with fail
    go_ret
    simpa using HR9.out
  by_cases k1 : K = 1
  · have b1 : ((K : Int) == 1) = true := by simp [k1]
    subst k1
    have hs2 : (grL1 r).s.size ≤ 1048000 := Nat.le_trans (textR_size (numR r)) hs1
    have hs3 : (grL2 r).s.size ≤ 1048000 := Nat.le_trans (textR_size (grL1 r)) hs2
    have hs4 : (grL3 r).s.size ≤ 1048000 := Nat.le_trans (numR_size (grL2 r)) hs3
    have hCC := numV_le (grL2 r)
    have HS3 : Hid (Sane (grL3 r)) := Lib.hid (sane_num (r := grL2 r) sane_text)
    have HT1 : Hid (∀ W, R2At W b (numR r) → Calls Tryz.prog 66 #[.pointer (some ⟨b, 0, none⟩)] W (R2Post b (grL1 r) (.string (textS (numR r))) W)) := Lib.hid (fun W h => r2text_any b (numR r) W h (by omega))
    have HT2 : Hid (∀ W, R2At W b (grL1 r) → Calls Tryz.prog 66 #[.pointer (some ⟨b, 0, none⟩)] W (R2Post b (grL2 r) (.string (textS (grL1 r))) W)) := Lib.hid (fun W h => r2text_any b (grL1 r) W h (by omega))
    have HT3 : Hid (∀ W, R2At W b (grL2 r) → Calls Tryz.prog 36 #[.pointer (some ⟨b, 0, none⟩)] W (R2Post b (grL3 r) (.int .i64 (numV (grL2 r))) W)) := Lib.hid (fun W h => r2num_any b (grL2 r) W h (by omega))
    have HOX : Hid (O = ([evA (textS (numR r)) (textS (grL1 r)) (argG (numV (grL2 r)) (grL3 r)).1], (argG (numV (grL2 r)) (grL3 r)).2)) := Lib.hid (by rw [HO.out]; unfold g23; rw [HK.out, if_neg (by decide), if_neg (by decide), if_neg (by decide)])
    clear HO HK H2 hs2 hs3
    generalize grL3 r = R3 at *
    generalize numV (grL2 r) = C at *
    generalize textS (grL1 r) = M at *
    generalize grL2 r = R2 at *
    generalize textS (numR r) = T at *
    generalize grL1 r = R1 at *
    generalize numR r = R0 at *
    have S1 := Lib.hid (G2.new HC1.out HR1.out #[.int .i64 1, .string ⟨#[]⟩, .string ⟨#[]⟩, .slice none 0 0, .int .i64 0, .int .i64 0, .string ⟨#[]⟩, .int .i64 0, .int .i64 0, .string ⟨#[]⟩, .slice none 0 0, .int .i64 0])
    have hcz := HC1.out.size
    go_wp2_with fail
    generalize hV : w1.heap.size = vb at S1 hcz ⊢
    obtain ⟨X0, hX0⟩ : ∃ X, w1.alloc (.cells #[.int .i64 1, .string ⟨#[]⟩, .string ⟨#[]⟩, .slice none 0 0, .int .i64 0, .int .i64 0, .string ⟨#[]⟩, .int .i64 0, .int .i64 0, .string ⟨#[]⟩, .slice none 0 0, .int .i64 0] 37) = X := ⟨_, rfl⟩
    rw [hX0] at S1 ⊢
    clear hX0 hV HC1 HR1
    (with_reducible refine (HT1.out _ S1.out.rd).mono ?_)
    rintro e w2 ⟨rfl, hc, hr⟩
    have S2 := Lib.hid (S1.out.call hb hc hr)
    clear hc hr S1 HT1
    have v1 : w2.cell? ⟨vb, 1, none⟩ = some (.string ⟨#[]⟩) := by rw [S2.out.v.cell]; rfl
    have vf := S2.out.v.fz
    have S3 : Hid (G2 w b (w2.setCell ⟨vb, 1, none⟩ (.string T)) R1 vb #[.int .i64 1, .string T, .string ⟨#[]⟩, .slice none 0 0, .int .i64 0, .int .i64 0, .string ⟨#[]⟩, .int .i64 0, .int .i64 0, .string ⟨#[]⟩, .slice none 0 0, .int .i64 0]) := Lib.hid (by simpa using S2.out.store hb 1 (.string T))
    clear S2
    go_wp2_with fail
    clear v1 vf
    (with_reducible refine (HT2.out _ S3.out.rd).mono ?_)
    rintro e w4 ⟨rfl, hc, hr⟩
    have S4 := Lib.hid (S3.out.call hb hc hr)
    clear hc hr S3 HT2
    have v2 : w4.cell? ⟨vb, 2, none⟩ = some (.string ⟨#[]⟩) := by rw [S4.out.v.cell]; rfl
    have vf := S4.out.v.fz
    have S5 : Hid (G2 w b (w4.setCell ⟨vb, 2, none⟩ (.string M)) R2 vb #[.int .i64 1, .string T, .string M, .slice none 0 0, .int .i64 0, .int .i64 0, .string ⟨#[]⟩, .int .i64 0, .int .i64 0, .string ⟨#[]⟩, .slice none 0 0, .int .i64 0]) := Lib.hid (by simpa using S4.out.store hb 2 (.string M))
    clear S4
    go_wp2_with fail
    clear v2 vf
    (with_reducible refine (HT3.out _ S5.out.rd).mono ?_)
    rintro e w6 ⟨rfl, hc, hr⟩
    have S6 := Lib.hid (S5.out.call hb hc hr)
    clear hc hr S5 HT3
    go_wp2_with fail
    go_loopw [10] (fun s10 wr => ∃ (i : Nat) (acc : List V) (ri : RS) (vq : Value), i ≤ C ∧ s10 = .int .i64 i ∧ ri.s.size ≤ 1048576 ∧ Hid (Sane ri) ∧ Hid (G2 w b wr ri vb #[.int .i64 1, .string T, .string M, vq, .int .i64 0, .int .i64 0, .string ⟨#[]⟩, .int .i64 0, .int .i64 0, .string ⟨#[]⟩, .slice none 0 0, .int .i64 0]) ∧ Hid (Owned (vb + 1) 35 6 acc.length (rowsV acc) wr vq) ∧ Hid (ArTo C R3 i acc ri)) (fun s10 _ => C - (intOf s10).toNat)
    case atStart => exact ⟨0, [], R3, .slice none 0 0, by omega, rfl, by omega, HS3, S6, Lib.hid (Owned.nil _ _ _ _ _), Lib.hid (ArTo.start _ _)⟩
    case round =>
      clear S6
      obtain ⟨i, acc, ri, vq, hi, rfl, hri, HSA, HS, HW, HL⟩ := hrel
      obtain ⟨A9, c9, rfl, _⟩ := HW.out.rd.sl_inv
      have hal2 : acc.length ≤ 2097152 := by
        have h1 := (argG_sum C R3 HS3.out (by omega)).2.1
        have e := HL.out
        unfold ArTo at e
        rw [e] at h1
        have h2 := bulkV_len (acc ++ (argG (C - i) ri).1)
        rw [List.length_append] at h2
        dsimp only at h1
        omega
      have HLF := Lib.hid (r2left_any b ri wr HS.out.rd)
      by_cases hlt : i < C
      · have hic : (i : Int) < C := by omega
        by_cases hz0 : ri.s.size = 0
        · have hzi : ¬ ((0 : Int) < ri.s.size) := by omega
          have HAR : Hid (argG C R3 = (acc, ri)) := Lib.hid (HL.out.stop hz0)
          go_wp2_with fail
          (with_reducible refine HLF.out.mono ?_)
          rintro e w7 ⟨rfl, rfl⟩
          have v0 : wr.cell? ⟨vb, 0, none⟩ = some (.int .i64 1) := by rw [HS.out.v.cell]; rfl
          have v1 : wr.cell? ⟨vb, 1, none⟩ = some (.string T) := by rw [HS.out.v.cell]; rfl
          have v2 : wr.cell? ⟨vb, 2, none⟩ = some (.string M) := by rw [HS.out.v.cell]; rfl
          have v3 : wr.cell? ⟨vb, 3, none⟩ = some (.slice A9 acc.length c9) := by rw [HS.out.v.cell]; rfl
          have v4 : wr.cell? ⟨vb, 4, none⟩ = some (.int .i64 0) := by rw [HS.out.v.cell]; rfl
          have v5 : wr.cell? ⟨vb, 5, none⟩ = some (.int .i64 0) := by rw [HS.out.v.cell]; rfl
          have v6 : wr.cell? ⟨vb, 6, none⟩ = some (.string ⟨#[]⟩) := by rw [HS.out.v.cell]; rfl
          have v7 : wr.cell? ⟨vb, 7, none⟩ = some (.int .i64 0) := by rw [HS.out.v.cell]; rfl
          have v8 : wr.cell? ⟨vb, 8, none⟩ = some (.int .i64 0) := by rw [HS.out.v.cell]; rfl
          have v9 : wr.cell? ⟨vb, 9, none⟩ = some (.string ⟨#[]⟩) := by rw [HS.out.v.cell]; rfl
          have v10 : wr.cell? ⟨vb, 10, none⟩ = some (.slice none 0 0) := by rw [HS.out.v.cell]; rfl
          have v11 : wr.cell? ⟨vb, 11, none⟩ = some (.int .i64 0) := by rw [HS.out.v.cell]; rfl
          have hvb := HS.out.vb
          have HR9 : Hid (Group2Post b O w (.returned (.slice (some ⟨wr.heap.size, 0, none⟩) 1 1)) (wr.alloc (.cells #[.int .i64 1, .string T, .string M, .slice A9 acc.length c9, .int .i64 0, .int .i64 0, .string ⟨#[]⟩, .int .i64 0, .int .i64 0, .string ⟨#[]⟩, .slice none 0 0, .int .i64 0] 37))) := Lib.hid (by
            rw [HOX.out, HAR.out]
            exact group_one (x := evA T M acc) (A := A9) (C := none) (c := c9) (d := 0) HS.out (HW.out.rd.weaken (fun q hq => ⟨by have := hq.1; omega, hq.2⟩)) Rd.sl_nil)
          go_wp2_with fail
          go_ret
          exact HR9.out
        · have hzi : (0 : Int) < ri.s.size := by omega
          have HC := Lib.hid (read2_val b ri wr HS.out.rd HSA.out hri)
          have HL2 := Lib.hid (HL.out.step hlt hz0)
          have hvs := valR_next HSA.out hri
          go_wp2_with fail
          (with_reducible refine HLF.out.mono ?_)
          rintro e w7 ⟨rfl, rfl⟩
          generalize valR ri = p8 at *
          obtain ⟨x, r8⟩ := p8
          obtain ⟨hsa8, hr8s⟩ := hvs
          have HSA8 := Lib.hid hsa8
          clear hsa8 HL
          go_wp2_with fail
          (with_reducible refine HC.out.mono ?_)
          rintro e w8 ⟨hc8, A8, c8, ok8, rfl, hx8, hr8⟩
          have S8 := Lib.hid (HS.out.call hb hc8 hr8)
          have hvb := HS.out.vb
          have hvl := HS.out.v.lt
          have W8 := Lib.hid (HW.out.chg hc8 (fun j hj => by omega))
          have hsz := hc8.size
          have HOB := Lib.hid HW.out.below_own
          have hB : Below w8.heap.size w8 ((w8.alloc (.cells #[.int .i64 x.kind, .string x.t, .int .i64 x.n, .int .i64 x.m, .string x.s, .slice A8 x.l.length c8] 35)).alloc (.cells #[.int .i64 x.kind, .string x.t, .int .i64 x.n, .int .i64 x.m, .string x.s, .slice A8 x.l.length c8] 35)) := ((Below.refl _ _).alloc (Nat.le_refl _) _).alloc (by simp) _
          have HB := Lib.hid hB
          have HXO := Lib.hid (W8.out.below hB)
          have HX8 := Lib.hid (hx8.below hB (fun b hb => hb.2))
          have v3 : w8.cell? ⟨vb, 3, none⟩ = some (.slice A9 acc.length c9) := by rw [S8.out.v.cell]; rfl
          have h8 : vb < w8.heap.size := S8.out.v.lt
          clear hx8 hr8 hc8 hB HC HLF
          go_wp2_with (at_builtin; refine wp_append_val rfl _ _ rfl (vb + 1) ?cz1 (.slice A9 acc.length c9) acc rfl HXO.out ⟨w8.heap.size + 1, 0, none⟩ 1 x A8 c8 rfl ?cz2 ?cz3 ?cz4 ?_)
          case cz1 => simp; omega
          case cz2 =>
            intro j u hj
            rw [Addr.add_lit, Nat.zero_add, show w8.heap.size + 1 = (w8.alloc (.cells #[.int .i64 x.kind, .string x.t, .int .i64 x.n, .int .i64 x.m, .string x.s, .slice A8 x.l.length c8] 35)).heap.size by simp, cell_new]
            exact List.getElem?_toArray.trans hj
          case cz3 =>
            refine HX8.out.weaken (fun q hq => ⟨⟨by have := hq.1; omega, by have := hq.2; simp; omega⟩, fun h => ?_⟩)
            have := (HOB.out q h.symm).2
            have := hq.1
            omega
          case cz4 => omega
          intro v' w10 hO10 hg10
          obtain ⟨A10, c10, rfl, _⟩ := hO10.rd.sl_inv
          have hch : Chg (fun k => vb < k) w8 w10 := (Chg.of_below HB.out).next (Chg.of_grown hg10 (fun k hk => by have := (HOB.out k hk).1; omega))
          have S10 := Lib.hid (S8.out.later hb hch)
          have y3 : w10.cell? ⟨vb, 3, none⟩ = some (.slice A9 acc.length c9) := by rw [S10.out.v.cell]; rfl
          have yf := S10.out.v.fz
          have hal3 : (acc ++ [x]).length = acc.length + 1 := by simp
          have S11 : Hid (G2 w b (w10.setCell ⟨vb, 3, none⟩ (.slice A10 (acc.length + 1) c10)) r8 vb #[.int .i64 1, .string T, .string M, .slice A10 (acc.length + 1) c10, .int .i64 0, .int .i64 0, .string ⟨#[]⟩, .int .i64 0, .int .i64 0, .string ⟨#[]⟩, .slice none 0 0, .int .i64 0]) := Lib.hid (by simpa using S10.out.store hb 3 (.slice A10 (acc.length + 1) c10))
          have W11 : Hid (Owned (vb + 1) 35 6 (acc ++ [x]).length (rowsV (acc ++ [x])) (w10.setCell ⟨vb, 3, none⟩ (.slice A10 (acc.length + 1) c10)) (.slice A10 (acc.length + 1) c10)) := Lib.hid (by rw [hal3]; exact hO10.chg ((Chg.refl (fun k => k = vb) w10).setCell (p := ⟨vb, 3, none⟩) (.inl rfl) (.slice A10 (acc.length + 1) c10)) (fun j hj => by omega))
          clear hO10 hg10 hch hal3
          go_wp2_with fail
          exact ⟨⟨i + 1, acc ++ [x], r8, _, by omega, by go_num, by omega, HSA8, S11, W11, HL2⟩, by simp [intOf]; omega⟩
      · obtain rfl : i = C := by omega
        have hic : ¬ ((i : Int) < i) := by omega
        have HAR : Hid (argG i R3 = (acc, ri)) := Lib.hid HL.out.done
        have v0 : wr.cell? ⟨vb, 0, none⟩ = some (.int .i64 1) := by rw [HS.out.v.cell]; rfl
        have v1 : wr.cell? ⟨vb, 1, none⟩ = some (.string T) := by rw [HS.out.v.cell]; rfl
        have v2 : wr.cell? ⟨vb, 2, none⟩ = some (.string M) := by rw [HS.out.v.cell]; rfl
        have v3 : wr.cell? ⟨vb, 3, none⟩ = some (.slice A9 acc.length c9) := by rw [HS.out.v.cell]; rfl
        have v4 : wr.cell? ⟨vb, 4, none⟩ = some (.int .i64 0) := by rw [HS.out.v.cell]; rfl
        have v5 : wr.cell? ⟨vb, 5, none⟩ = some (.int .i64 0) := by rw [HS.out.v.cell]; rfl
        have v6 : wr.cell? ⟨vb, 6, none⟩ = some (.string ⟨#[]⟩) := by rw [HS.out.v.cell]; rfl
        have v7 : wr.cell? ⟨vb, 7, none⟩ = some (.int .i64 0) := by rw [HS.out.v.cell]; rfl
        have v8 : wr.cell? ⟨vb, 8, none⟩ = some (.int .i64 0) := by rw [HS.out.v.cell]; rfl
        have v9 : wr.cell? ⟨vb, 9, none⟩ = some (.string ⟨#[]⟩) := by rw [HS.out.v.cell]; rfl
        have v10 : wr.cell? ⟨vb, 10, none⟩ = some (.slice none 0 0) := by rw [HS.out.v.cell]; rfl
        have v11 : wr.cell? ⟨vb, 11, none⟩ = some (.int .i64 0) := by rw [HS.out.v.cell]; rfl
        have hvb := HS.out.vb
        have HR9 : Hid (Group2Post b O w (.returned (.slice (some ⟨wr.heap.size, 0, none⟩) 1 1)) (wr.alloc (.cells #[.int .i64 1, .string T, .string M, .slice A9 acc.length c9, .int .i64 0, .int .i64 0, .string ⟨#[]⟩, .int .i64 0, .int .i64 0, .string ⟨#[]⟩, .slice none 0 0, .int .i64 0] 37))) := Lib.hid (by
          rw [HOX.out, HAR.out]
          exact group_one (x := evA T M acc) (A := A9) (C := none) (c := c9) (d := 0) HS.out (HW.out.rd.weaken (fun q hq => ⟨by have := hq.1; omega, hq.2⟩)) Rd.sl_nil)
        go_wp2_with fail
        go_ret
        exact HR9.out
  · have b1 : ((K : Int) == 1) = false := by rw [beq_eq_false_iff_ne]; omega
    have k4 : K = 4 := by omega
    have b4 : ((K : Int) == 4) = true := by simp [k4]
    subst k4
    have hs2 : (grL1 r).s.size ≤ 1048000 := Nat.le_trans (textR_size (numR r)) hs1
    have hs3 : (grL2 r).s.size ≤ 1048000 := Nat.le_trans (textR_size (grL1 r)) hs2
    have hs4 : (grL3 r).s.size ≤ 1048000 := Nat.le_trans (numR_size (grL2 r)) hs3
    have hCC := numV_le (grL2 r)
    have HS3 : Hid (Sane (grL3 r)) := Lib.hid (sane_num (r := grL2 r) sane_text)
    have HT1 : Hid (∀ W, R2At W b (numR r) → Calls Tryz.prog 66 #[.pointer (some ⟨b, 0, none⟩)] W (R2Post b (grL1 r) (.string (textS (numR r))) W)) := Lib.hid (fun W h => r2text_any b (numR r) W h (by omega))
    have HT2 : Hid (∀ W, R2At W b (grL1 r) → Calls Tryz.prog 66 #[.pointer (some ⟨b, 0, none⟩)] W (R2Post b (grL2 r) (.string (textS (grL1 r))) W)) := Lib.hid (fun W h => r2text_any b (grL1 r) W h (by omega))
    have HT3 : Hid (∀ W, R2At W b (grL2 r) → Calls Tryz.prog 36 #[.pointer (some ⟨b, 0, none⟩)] W (R2Post b (grL3 r) (.int .i64 (numV (grL2 r))) W)) := Lib.hid (fun W h => r2num_any b (grL2 r) W h (by omega))
    have HOX : Hid (O = ([evB (textS (numR r)) (textS (grL1 r)) (argG (numV (grL2 r)) (grL3 r)).1 (numV (argG (numV (grL2 r)) (grL3 r)).2) (valR (numR (argG (numV (grL2 r)) (grL3 r)).2)).1], (valR (numR (argG (numV (grL2 r)) (grL3 r)).2)).2)) := Lib.hid (by rw [HO.out]; unfold g23; rw [HK.out, if_neg (by decide), if_neg (by decide), if_pos rfl])
    clear HO HK H2 hs2 hs3
    generalize grL3 r = R3 at *
    generalize numV (grL2 r) = C at *
    generalize textS (grL1 r) = M at *
    generalize grL2 r = R2 at *
    generalize textS (numR r) = T at *
    generalize grL1 r = R1 at *
    generalize numR r = R0 at *
    have S1 := Lib.hid (G2.new HC1.out HR1.out #[.int .i64 4, .string ⟨#[]⟩, .string ⟨#[]⟩, .slice none 0 0, .int .i64 0, .int .i64 0, .string ⟨#[]⟩, .int .i64 0, .int .i64 0, .string ⟨#[]⟩, .slice none 0 0, .int .i64 0])
    have hcz := HC1.out.size
    go_wp2_with fail
    generalize hV : w1.heap.size = vb at S1 hcz ⊢
    obtain ⟨X0, hX0⟩ : ∃ X, w1.alloc (.cells #[.int .i64 4, .string ⟨#[]⟩, .string ⟨#[]⟩, .slice none 0 0, .int .i64 0, .int .i64 0, .string ⟨#[]⟩, .int .i64 0, .int .i64 0, .string ⟨#[]⟩, .slice none 0 0, .int .i64 0] 37) = X := ⟨_, rfl⟩
    rw [hX0] at S1 ⊢
    clear hX0 hV HC1 HR1
    (with_reducible refine (HT1.out _ S1.out.rd).mono ?_)
    rintro e w2 ⟨rfl, hc, hr⟩
    have S2 := Lib.hid (S1.out.call hb hc hr)
    clear hc hr S1 HT1
    have v1 : w2.cell? ⟨vb, 1, none⟩ = some (.string ⟨#[]⟩) := by rw [S2.out.v.cell]; rfl
    have vf := S2.out.v.fz
    have S3 : Hid (G2 w b (w2.setCell ⟨vb, 1, none⟩ (.string T)) R1 vb #[.int .i64 4, .string T, .string ⟨#[]⟩, .slice none 0 0, .int .i64 0, .int .i64 0, .string ⟨#[]⟩, .int .i64 0, .int .i64 0, .string ⟨#[]⟩, .slice none 0 0, .int .i64 0]) := Lib.hid (by simpa using S2.out.store hb 1 (.string T))
    clear S2
    go_wp2_with fail
    clear v1 vf
    (with_reducible refine (HT2.out _ S3.out.rd).mono ?_)
    rintro e w4 ⟨rfl, hc, hr⟩
    have S4 := Lib.hid (S3.out.call hb hc hr)
    clear hc hr S3 HT2
    have v2 : w4.cell? ⟨vb, 2, none⟩ = some (.string ⟨#[]⟩) := by rw [S4.out.v.cell]; rfl
    have vf := S4.out.v.fz
    have S5 : Hid (G2 w b (w4.setCell ⟨vb, 2, none⟩ (.string M)) R2 vb #[.int .i64 4, .string T, .string M, .slice none 0 0, .int .i64 0, .int .i64 0, .string ⟨#[]⟩, .int .i64 0, .int .i64 0, .string ⟨#[]⟩, .slice none 0 0, .int .i64 0]) := Lib.hid (by simpa using S4.out.store hb 2 (.string M))
    clear S4
    go_wp2_with fail
    clear v2 vf
    (with_reducible refine (HT3.out _ S5.out.rd).mono ?_)
    rintro e w6 ⟨rfl, hc, hr⟩
    have S6 := Lib.hid (S5.out.call hb hc hr)
    clear hc hr S5 HT3
    go_wp2_with fail
    go_loopw [10] (fun s10 wr => ∃ (i : Nat) (acc : List V) (ri : RS) (vq : Value), i ≤ C ∧ s10 = .int .i64 i ∧ ri.s.size ≤ 1048576 ∧ Hid (Sane ri) ∧ Hid (G2 w b wr ri vb #[.int .i64 4, .string T, .string M, vq, .int .i64 0, .int .i64 0, .string ⟨#[]⟩, .int .i64 0, .int .i64 0, .string ⟨#[]⟩, .slice none 0 0, .int .i64 0]) ∧ Hid (Owned (vb + 1) 35 6 acc.length (rowsV acc) wr vq) ∧ Hid (ArTo C R3 i acc ri)) (fun s10 _ => C - (intOf s10).toNat)
    case atStart => exact ⟨0, [], R3, .slice none 0 0, by omega, rfl, by omega, HS3, S6, Lib.hid (Owned.nil _ _ _ _ _), Lib.hid (ArTo.start _ _)⟩
    case round =>
      clear S6
      obtain ⟨i, acc, ri, vq, hi, rfl, hri, HSA, HS, HW, HL⟩ := hrel
      obtain ⟨A9, c9, rfl, _⟩ := HW.out.rd.sl_inv
      have hal2 : acc.length ≤ 2097152 := by
        have h1 := (argG_sum C R3 HS3.out (by omega)).2.1
        have e := HL.out
        unfold ArTo at e
        rw [e] at h1
        have h2 := bulkV_len (acc ++ (argG (C - i) ri).1)
        rw [List.length_append] at h2
        dsimp only at h1
        omega
      have HLF := Lib.hid (r2left_any b ri wr HS.out.rd)
      by_cases hlt : i < C
      · have hic : (i : Int) < C := by omega
        by_cases hz0 : ri.s.size = 0
        · have hzi : ¬ ((0 : Int) < ri.s.size) := by omega
          have HAR : Hid (argG C R3 = (acc, ri)) := Lib.hid (HL.out.stop hz0)
          go_wp2_with fail
          (with_reducible refine HLF.out.mono ?_)
          rintro e w7 ⟨rfl, rfl⟩
          have HO4 : Hid (O = ([evB T M acc (numV ri) (valR (numR ri)).1], (valR (numR ri)).2)) := Lib.hid (by rw [HOX.out, HAR.out])
          have hs5 : (numR ri).s.size ≤ 1048576 := Nat.le_trans (numR_size ri) hri
          have HS5 : Hid (Sane (numR ri)) := Lib.hid (sane_num HSA.out)
          have HT4 : Hid (∀ W, R2At W b ri → Calls Tryz.prog 36 #[.pointer (some ⟨b, 0, none⟩)] W (R2Post b (numR ri) (.int .i64 (numV ri)) W)) := Lib.hid (fun W h => r2num_any b ri W h (by omega))
          generalize numV ri = D at *
          generalize numR ri = R5 at *
          have v0 : wr.cell? ⟨vb, 0, none⟩ = some (.int .i64 4) := by rw [HS.out.v.cell]; rfl
          clear HOX HL HSA HAR
          go_wp2_with fail
          (with_reducible refine (HT4.out _ HS.out.rd).mono ?_)
          rintro e w8 ⟨rfl, hc, hr⟩
          have hvb := HS.out.vb
          have S8 := Lib.hid (HS.out.call hb hc hr)
          have W8 := Lib.hid (HW.out.chg hc (fun j hj => by omega))
          have h8 : vb < w8.heap.size := S8.out.v.lt
          clear v0
          have v4 : w8.cell? ⟨vb, 4, none⟩ = some (.int .i64 0) := by rw [S8.out.v.cell]; rfl
          have vf := S8.out.v.fz
          clear hc hr HS HW HT4
          have S9 : Hid (G2 w b (w8.setCell ⟨vb, 4, none⟩ (.int .i64 (D : Int))) R5 vb #[.int .i64 4, .string T, .string M, .slice A9 acc.length c9, .int .i64 (D : Int), .int .i64 0, .string ⟨#[]⟩, .int .i64 0, .int .i64 0, .string ⟨#[]⟩, .slice none 0 0, .int .i64 0]) := Lib.hid (by simpa using S8.out.store hb 4 (.int .i64 (D : Int)))
          have W9 : Hid (Owned (vb + 1) 35 6 acc.length (rowsV acc) (w8.setCell ⟨vb, 4, none⟩ (.int .i64 (D : Int))) (.slice A9 acc.length c9)) := Lib.hid (W8.out.chg ((Chg.refl (fun k => k = vb) w8).setCell (p := ⟨vb, 4, none⟩) (.inl rfl) _) (fun j hj => by omega))
          have HC := Lib.hid (read2_val b R5 (w8.setCell ⟨vb, 4, none⟩ (.int .i64 (D : Int))) S9.out.rd HS5.out hs5)
          generalize valR R5 = p8 at *
          obtain ⟨x, R9⟩ := p8
          go_wp2_with fail
          (with_reducible refine HC.out.mono ?_)
          rintro e w9 ⟨hc9, A8, c8, ok8, rfl, hx9, hr9⟩
          clear HC vf v4
          have S10 := Lib.hid (S9.out.call hb hc9 hr9)
          have W10 := Lib.hid (W9.out.chg hc9 (fun j hj => by omega))
          have HX := Lib.hid hx9
          have h9 : vb < w9.heap.size := S10.out.v.lt
          have hsz9 := hc9.size
          clear hc9 hr9 hx9 S9 W9 S8 W8
          obtain ⟨W11, hW11⟩ : ∃ W, w9.alloc (.cells #[.int .i64 x.kind, .string x.t, .int .i64 x.n, .int .i64 x.m, .string x.s, .slice A8 x.l.length c8] 35) = W := ⟨_, rfl⟩
          have hal : Below w9.heap.size w9 W11 := by rw [← hW11]; exact (Below.refl _ _).alloc (Nat.le_refl _) _
          have S11 := Lib.hid (S10.out.later hb (Chg.of_below hal))
          have W11O := Lib.hid (W10.out.below hal)
          have X11 := Lib.hid (HX.out.below hal (fun q hq => hq.2))
          have NC : CellsAt W11 w9.heap.size #[.int .i64 x.kind, .string x.t, .int .i64 x.n, .int .i64 x.m, .string x.s, .slice A8 x.l.length c8] 35 := by rw [← hW11]; exact CellsAt.new w9 _ _
          have hz11 : W11.heap.size = w9.heap.size + 1 := by rw [← hW11]; simp
          have n0 : W11.cell? ⟨w9.heap.size, 0, none⟩ = some (.int .i64 x.kind) := by rw [NC.cell]; rfl
          have n1 : W11.cell? ⟨w9.heap.size, 1, none⟩ = some (.string x.t) := by rw [NC.cell]; rfl
          have n2 : W11.cell? ⟨w9.heap.size, 2, none⟩ = some (.int .i64 x.n) := by rw [NC.cell]; rfl
          have n3 : W11.cell? ⟨w9.heap.size, 3, none⟩ = some (.int .i64 x.m) := by rw [NC.cell]; rfl
          have n4 : W11.cell? ⟨w9.heap.size, 4, none⟩ = some (.string x.s) := by rw [NC.cell]; rfl
          have n5 : W11.cell? ⟨w9.heap.size, 5, none⟩ = some (.slice A8 x.l.length c8) := by rw [NC.cell]; rfl
          clear hal W10 HX NC S10
          have v0 : W11.cell? ⟨vb, 0, none⟩ = some (.int .i64 4) := by rw [S11.out.v.cell]; rfl
          have v1 : W11.cell? ⟨vb, 1, none⟩ = some (.string T) := by rw [S11.out.v.cell]; rfl
          have v2 : W11.cell? ⟨vb, 2, none⟩ = some (.string M) := by rw [S11.out.v.cell]; rfl
          have v3 : W11.cell? ⟨vb, 3, none⟩ = some (.slice A9 acc.length c9) := by rw [S11.out.v.cell]; rfl
          have v4 : W11.cell? ⟨vb, 4, none⟩ = some (.int .i64 (D : Int)) := by rw [S11.out.v.cell]; rfl
          have v5 : W11.cell? ⟨vb, 5, none⟩ = some (.int .i64 0) := by rw [S11.out.v.cell]; rfl
          have v6 : W11.cell? ⟨vb, 6, none⟩ = some (.string ⟨#[]⟩) := by rw [S11.out.v.cell]; rfl
          have v7 : W11.cell? ⟨vb, 7, none⟩ = some (.int .i64 0) := by rw [S11.out.v.cell]; rfl
          have v8 : W11.cell? ⟨vb, 8, none⟩ = some (.int .i64 0) := by rw [S11.out.v.cell]; rfl
          have v9 : W11.cell? ⟨vb, 9, none⟩ = some (.string ⟨#[]⟩) := by rw [S11.out.v.cell]; rfl
          have v10 : W11.cell? ⟨vb, 10, none⟩ = some (.slice none 0 0) := by rw [S11.out.v.cell]; rfl
          have v11 : W11.cell? ⟨vb, 11, none⟩ = some (.int .i64 0) := by rw [S11.out.v.cell]; rfl
          have vf := S11.out.v.fz
          have hvb2 := S11.out.vb
          have S12 : Hid (G2 w b ((((((W11.setCell ⟨vb, 5, none⟩ (.int .i64 x.kind)).setCell ⟨vb, 6, none⟩ (.string x.t)).setCell ⟨vb, 7, none⟩ (.int .i64 x.n)).setCell ⟨vb, 8, none⟩ (.int .i64 x.m)).setCell ⟨vb, 9, none⟩ (.string x.s)).setCell ⟨vb, 10, none⟩ (.slice A8 x.l.length c8)) R9 vb #[.int .i64 4, .string T, .string M, .slice A9 acc.length c9, .int .i64 (D : Int), .int .i64 x.kind, .string x.t, .int .i64 x.n, .int .i64 x.m, .string x.s, .slice A8 x.l.length c8, .int .i64 0]) := Lib.hid (by simpa using ((((((S11.out.store hb 5 (.int .i64 x.kind)).store hb 6 (.string x.t)).store hb 7 (.int .i64 x.n)).store hb 8 (.int .i64 x.m)).store hb 9 (.string x.s)).store hb 10 (.slice A8 x.l.length c8)))
          have C12 : Hid (Chg (fun k => k = vb) W11 ((((((W11.setCell ⟨vb, 5, none⟩ (.int .i64 x.kind)).setCell ⟨vb, 6, none⟩ (.string x.t)).setCell ⟨vb, 7, none⟩ (.int .i64 x.n)).setCell ⟨vb, 8, none⟩ (.int .i64 x.m)).setCell ⟨vb, 9, none⟩ (.string x.s)).setCell ⟨vb, 10, none⟩ (.slice A8 x.l.length c8))) := Lib.hid (((((((Chg.refl (fun k => k = vb) _).setCell (p := ⟨vb, 5, none⟩) (.inl rfl) (.int .i64 x.kind)).setCell (p := ⟨vb, 6, none⟩) (.inl rfl) (.string x.t)).setCell (p := ⟨vb, 7, none⟩) (.inl rfl) (.int .i64 x.n)).setCell (p := ⟨vb, 8, none⟩) (.inl rfl) (.int .i64 x.m)).setCell (p := ⟨vb, 9, none⟩) (.inl rfl) (.string x.s)).setCell (p := ⟨vb, 10, none⟩) (.inl rfl) (.slice A8 x.l.length c8))
          have HR9 : Hid (Group2Post b O w (.returned (.slice (some ⟨((((((W11.setCell ⟨vb, 5, none⟩ (.int .i64 x.kind)).setCell ⟨vb, 6, none⟩ (.string x.t)).setCell ⟨vb, 7, none⟩ (.int .i64 x.n)).setCell ⟨vb, 8, none⟩ (.int .i64 x.m)).setCell ⟨vb, 9, none⟩ (.string x.s)).setCell ⟨vb, 10, none⟩ (.slice A8 x.l.length c8)).heap.size, 0, none⟩) 1 1)) (((((((W11.setCell ⟨vb, 5, none⟩ (.int .i64 x.kind)).setCell ⟨vb, 6, none⟩ (.string x.t)).setCell ⟨vb, 7, none⟩ (.int .i64 x.n)).setCell ⟨vb, 8, none⟩ (.int .i64 x.m)).setCell ⟨vb, 9, none⟩ (.string x.s)).setCell ⟨vb, 10, none⟩ (.slice A8 x.l.length c8)).alloc (.cells #[.int .i64 4, .string T, .string M, .slice A9 acc.length c9, .int .i64 (D : Int), .int .i64 x.kind, .string x.t, .int .i64 x.n, .int .i64 x.m, .string x.s, .slice A8 x.l.length c8, .int .i64 0] 37))) := Lib.hid (by
            rw [HO4.out]
            refine group_one (x := evB T M acc (D : Int) x) (A := A9) (C := A8) (c := c9) (d := c8) S12.out ?_ ?_
            · exact ((W11O.out.chg C12.out (fun j hj => by omega)).rd).weaken (fun q hq => ⟨by have := hq.1; omega, hq.2⟩)
            · exact (C12.out.rd (fun q hq => ⟨hq.2, by have := hq.1; omega⟩) (X11.out.weaken (ok' := Bt w8.heap.size W11.heap.size) (fun q hq => ⟨by have := hq.1; simpa using this, by have := hq.2; omega⟩))).weaken (fun q hq => ⟨by have := hq.1; omega, Nat.lt_of_lt_of_le hq.2 C12.out.size⟩))
          clear S11 W11O X11 C12 S12
          go_wp2_with fail
          go_ret
          simpa [hz11] using HR9.out
        · have hzi : (0 : Int) < ri.s.size := by omega
          have HC := Lib.hid (read2_val b ri wr HS.out.rd HSA.out hri)
          have HL2 := Lib.hid (HL.out.step hlt hz0)
          have hvs := valR_next HSA.out hri
          go_wp2_with fail
          (with_reducible refine HLF.out.mono ?_)
          rintro e w7 ⟨rfl, rfl⟩
          generalize valR ri = p8 at *
          obtain ⟨x, r8⟩ := p8
          obtain ⟨hsa8, hr8s⟩ := hvs
          have HSA8 := Lib.hid hsa8
          clear hsa8 HL
          go_wp2_with fail
          (with_reducible refine HC.out.mono ?_)
          rintro e w8 ⟨hc8, A8, c8, ok8, rfl, hx8, hr8⟩
          have S8 := Lib.hid (HS.out.call hb hc8 hr8)
          have hvb := HS.out.vb
          have hvl := HS.out.v.lt
          have W8 := Lib.hid (HW.out.chg hc8 (fun j hj => by omega))
          have hsz := hc8.size
          have HOB := Lib.hid HW.out.below_own
          have hB : Below w8.heap.size w8 ((w8.alloc (.cells #[.int .i64 x.kind, .string x.t, .int .i64 x.n, .int .i64 x.m, .string x.s, .slice A8 x.l.length c8] 35)).alloc (.cells #[.int .i64 x.kind, .string x.t, .int .i64 x.n, .int .i64 x.m, .string x.s, .slice A8 x.l.length c8] 35)) := ((Below.refl _ _).alloc (Nat.le_refl _) _).alloc (by simp) _
          have HB := Lib.hid hB
          have HXO := Lib.hid (W8.out.below hB)
          have HX8 := Lib.hid (hx8.below hB (fun b hb => hb.2))
          have v3 : w8.cell? ⟨vb, 3, none⟩ = some (.slice A9 acc.length c9) := by rw [S8.out.v.cell]; rfl
          have h8 : vb < w8.heap.size := S8.out.v.lt
          clear hx8 hr8 hc8 hB HC HLF
          go_wp2_with (at_builtin; refine wp_append_val rfl _ _ rfl (vb + 1) ?cz1 (.slice A9 acc.length c9) acc rfl HXO.out ⟨w8.heap.size + 1, 0, none⟩ 1 x A8 c8 rfl ?cz2 ?cz3 ?cz4 ?_)
          case cz1 => simp; omega
          case cz2 =>
            intro j u hj
            rw [Addr.add_lit, Nat.zero_add, show w8.heap.size + 1 = (w8.alloc (.cells #[.int .i64 x.kind, .string x.t, .int .i64 x.n, .int .i64 x.m, .string x.s, .slice A8 x.l.length c8] 35)).heap.size by simp, cell_new]
            exact List.getElem?_toArray.trans hj
          case cz3 =>
            refine HX8.out.weaken (fun q hq => ⟨⟨by have := hq.1; omega, by have := hq.2; simp; omega⟩, fun h => ?_⟩)
            have := (HOB.out q h.symm).2
            have := hq.1
            omega
          case cz4 => omega
          intro v' w10 hO10 hg10
          obtain ⟨A10, c10, rfl, _⟩ := hO10.rd.sl_inv
          have hch : Chg (fun k => vb < k) w8 w10 := (Chg.of_below HB.out).next (Chg.of_grown hg10 (fun k hk => by have := (HOB.out k hk).1; omega))
          have S10 := Lib.hid (S8.out.later hb hch)
          have y3 : w10.cell? ⟨vb, 3, none⟩ = some (.slice A9 acc.length c9) := by rw [S10.out.v.cell]; rfl
          have yf := S10.out.v.fz
          have hal3 : (acc ++ [x]).length = acc.length + 1 := by simp
          have S11 : Hid (G2 w b (w10.setCell ⟨vb, 3, none⟩ (.slice A10 (acc.length + 1) c10)) r8 vb #[.int .i64 4, .string T, .string M, .slice A10 (acc.length + 1) c10, .int .i64 0, .int .i64 0, .string ⟨#[]⟩, .int .i64 0, .int .i64 0, .string ⟨#[]⟩, .slice none 0 0, .int .i64 0]) := Lib.hid (by simpa using S10.out.store hb 3 (.slice A10 (acc.length + 1) c10))
          have W11 : Hid (Owned (vb + 1) 35 6 (acc ++ [x]).length (rowsV (acc ++ [x])) (w10.setCell ⟨vb, 3, none⟩ (.slice A10 (acc.length + 1) c10)) (.slice A10 (acc.length + 1) c10)) := Lib.hid (by rw [hal3]; exact hO10.chg ((Chg.refl (fun k => k = vb) w10).setCell (p := ⟨vb, 3, none⟩) (.inl rfl) (.slice A10 (acc.length + 1) c10)) (fun j hj => by omega))
          clear hO10 hg10 hch hal3
          go_wp2_with fail
          exact ⟨⟨i + 1, acc ++ [x], r8, _, by omega, by go_num, by omega, HSA8, S11, W11, HL2⟩, by simp [intOf]; omega⟩
      · obtain rfl : i = C := by omega
        have hic : ¬ ((i : Int) < i) := by omega
        have HAR : Hid (argG i R3 = (acc, ri)) := Lib.hid HL.out.done
        have HO4 : Hid (O = ([evB T M acc (numV ri) (valR (numR ri)).1], (valR (numR ri)).2)) := Lib.hid (by rw [HOX.out, HAR.out])
        have hs5 : (numR ri).s.size ≤ 1048576 := Nat.le_trans (numR_size ri) hri
        have HS5 : Hid (Sane (numR ri)) := Lib.hid (sane_num HSA.out)
        have HT4 : Hid (∀ W, R2At W b ri → Calls Tryz.prog 36 #[.pointer (some ⟨b, 0, none⟩)] W (R2Post b (numR ri) (.int .i64 (numV ri)) W)) := Lib.hid (fun W h => r2num_any b ri W h (by omega))
        generalize numV ri = D at *
        generalize numR ri = R5 at *
        have v0 : wr.cell? ⟨vb, 0, none⟩ = some (.int .i64 4) := by rw [HS.out.v.cell]; rfl
        clear HOX HL HSA HAR
        go_wp2_with fail
        (with_reducible refine (HT4.out _ HS.out.rd).mono ?_)
        rintro e w8 ⟨rfl, hc, hr⟩
        have hvb := HS.out.vb
        have S8 := Lib.hid (HS.out.call hb hc hr)
        have W8 := Lib.hid (HW.out.chg hc (fun j hj => by omega))
        have h8 : vb < w8.heap.size := S8.out.v.lt
        clear v0
        have v4 : w8.cell? ⟨vb, 4, none⟩ = some (.int .i64 0) := by rw [S8.out.v.cell]; rfl
        have vf := S8.out.v.fz
        clear hc hr HS HW HT4
        have S9 : Hid (G2 w b (w8.setCell ⟨vb, 4, none⟩ (.int .i64 (D : Int))) R5 vb #[.int .i64 4, .string T, .string M, .slice A9 acc.length c9, .int .i64 (D : Int), .int .i64 0, .string ⟨#[]⟩, .int .i64 0, .int .i64 0, .string ⟨#[]⟩, .slice none 0 0, .int .i64 0]) := Lib.hid (by simpa using S8.out.store hb 4 (.int .i64 (D : Int)))
        have W9 : Hid (Owned (vb + 1) 35 6 acc.length (rowsV acc) (w8.setCell ⟨vb, 4, none⟩ (.int .i64 (D : Int))) (.slice A9 acc.length c9)) := Lib.hid (W8.out.chg ((Chg.refl (fun k => k = vb) w8).setCell (p := ⟨vb, 4, none⟩) (.inl rfl) _) (fun j hj => by omega))
        have HC := Lib.hid (read2_val b R5 (w8.setCell ⟨vb, 4, none⟩ (.int .i64 (D : Int))) S9.out.rd HS5.out hs5)
        generalize valR R5 = p8 at *
        obtain ⟨x, R9⟩ := p8
        go_wp2_with fail
        (with_reducible refine HC.out.mono ?_)
        rintro e w9 ⟨hc9, A8, c8, ok8, rfl, hx9, hr9⟩
        clear HC vf v4
        have S10 := Lib.hid (S9.out.call hb hc9 hr9)
        have W10 := Lib.hid (W9.out.chg hc9 (fun j hj => by omega))
        have HX := Lib.hid hx9
        have h9 : vb < w9.heap.size := S10.out.v.lt
        have hsz9 := hc9.size
        clear hc9 hr9 hx9 S9 W9 S8 W8
        obtain ⟨W11, hW11⟩ : ∃ W, w9.alloc (.cells #[.int .i64 x.kind, .string x.t, .int .i64 x.n, .int .i64 x.m, .string x.s, .slice A8 x.l.length c8] 35) = W := ⟨_, rfl⟩
        have hal : Below w9.heap.size w9 W11 := by rw [← hW11]; exact (Below.refl _ _).alloc (Nat.le_refl _) _
        have S11 := Lib.hid (S10.out.later hb (Chg.of_below hal))
        have W11O := Lib.hid (W10.out.below hal)
        have X11 := Lib.hid (HX.out.below hal (fun q hq => hq.2))
        have NC : CellsAt W11 w9.heap.size #[.int .i64 x.kind, .string x.t, .int .i64 x.n, .int .i64 x.m, .string x.s, .slice A8 x.l.length c8] 35 := by rw [← hW11]; exact CellsAt.new w9 _ _
        have hz11 : W11.heap.size = w9.heap.size + 1 := by rw [← hW11]; simp
        have n0 : W11.cell? ⟨w9.heap.size, 0, none⟩ = some (.int .i64 x.kind) := by rw [NC.cell]; rfl
        have n1 : W11.cell? ⟨w9.heap.size, 1, none⟩ = some (.string x.t) := by rw [NC.cell]; rfl
        have n2 : W11.cell? ⟨w9.heap.size, 2, none⟩ = some (.int .i64 x.n) := by rw [NC.cell]; rfl
        have n3 : W11.cell? ⟨w9.heap.size, 3, none⟩ = some (.int .i64 x.m) := by rw [NC.cell]; rfl
        have n4 : W11.cell? ⟨w9.heap.size, 4, none⟩ = some (.string x.s) := by rw [NC.cell]; rfl
        have n5 : W11.cell? ⟨w9.heap.size, 5, none⟩ = some (.slice A8 x.l.length c8) := by rw [NC.cell]; rfl
        clear hal W10 HX NC S10
        have v0 : W11.cell? ⟨vb, 0, none⟩ = some (.int .i64 4) := by rw [S11.out.v.cell]; rfl
        have v1 : W11.cell? ⟨vb, 1, none⟩ = some (.string T) := by rw [S11.out.v.cell]; rfl
        have v2 : W11.cell? ⟨vb, 2, none⟩ = some (.string M) := by rw [S11.out.v.cell]; rfl
        have v3 : W11.cell? ⟨vb, 3, none⟩ = some (.slice A9 acc.length c9) := by rw [S11.out.v.cell]; rfl
        have v4 : W11.cell? ⟨vb, 4, none⟩ = some (.int .i64 (D : Int)) := by rw [S11.out.v.cell]; rfl
        have v5 : W11.cell? ⟨vb, 5, none⟩ = some (.int .i64 0) := by rw [S11.out.v.cell]; rfl
        have v6 : W11.cell? ⟨vb, 6, none⟩ = some (.string ⟨#[]⟩) := by rw [S11.out.v.cell]; rfl
        have v7 : W11.cell? ⟨vb, 7, none⟩ = some (.int .i64 0) := by rw [S11.out.v.cell]; rfl
        have v8 : W11.cell? ⟨vb, 8, none⟩ = some (.int .i64 0) := by rw [S11.out.v.cell]; rfl
        have v9 : W11.cell? ⟨vb, 9, none⟩ = some (.string ⟨#[]⟩) := by rw [S11.out.v.cell]; rfl
        have v10 : W11.cell? ⟨vb, 10, none⟩ = some (.slice none 0 0) := by rw [S11.out.v.cell]; rfl
        have v11 : W11.cell? ⟨vb, 11, none⟩ = some (.int .i64 0) := by rw [S11.out.v.cell]; rfl
        have vf := S11.out.v.fz
        have hvb2 := S11.out.vb
        have S12 : Hid (G2 w b ((((((W11.setCell ⟨vb, 5, none⟩ (.int .i64 x.kind)).setCell ⟨vb, 6, none⟩ (.string x.t)).setCell ⟨vb, 7, none⟩ (.int .i64 x.n)).setCell ⟨vb, 8, none⟩ (.int .i64 x.m)).setCell ⟨vb, 9, none⟩ (.string x.s)).setCell ⟨vb, 10, none⟩ (.slice A8 x.l.length c8)) R9 vb #[.int .i64 4, .string T, .string M, .slice A9 acc.length c9, .int .i64 (D : Int), .int .i64 x.kind, .string x.t, .int .i64 x.n, .int .i64 x.m, .string x.s, .slice A8 x.l.length c8, .int .i64 0]) := Lib.hid (by simpa using ((((((S11.out.store hb 5 (.int .i64 x.kind)).store hb 6 (.string x.t)).store hb 7 (.int .i64 x.n)).store hb 8 (.int .i64 x.m)).store hb 9 (.string x.s)).store hb 10 (.slice A8 x.l.length c8)))
        have C12 : Hid (Chg (fun k => k = vb) W11 ((((((W11.setCell ⟨vb, 5, none⟩ (.int .i64 x.kind)).setCell ⟨vb, 6, none⟩ (.string x.t)).setCell ⟨vb, 7, none⟩ (.int .i64 x.n)).setCell ⟨vb, 8, none⟩ (.int .i64 x.m)).setCell ⟨vb, 9, none⟩ (.string x.s)).setCell ⟨vb, 10, none⟩ (.slice A8 x.l.length c8))) := Lib.hid (((((((Chg.refl (fun k => k = vb) _).setCell (p := ⟨vb, 5, none⟩) (.inl rfl) (.int .i64 x.kind)).setCell (p := ⟨vb, 6, none⟩) (.inl rfl) (.string x.t)).setCell (p := ⟨vb, 7, none⟩) (.inl rfl) (.int .i64 x.n)).setCell (p := ⟨vb, 8, none⟩) (.inl rfl) (.int .i64 x.m)).setCell (p := ⟨vb, 9, none⟩) (.inl rfl) (.string x.s)).setCell (p := ⟨vb, 10, none⟩) (.inl rfl) (.slice A8 x.l.length c8))
        have HR9 : Hid (Group2Post b O w (.returned (.slice (some ⟨((((((W11.setCell ⟨vb, 5, none⟩ (.int .i64 x.kind)).setCell ⟨vb, 6, none⟩ (.string x.t)).setCell ⟨vb, 7, none⟩ (.int .i64 x.n)).setCell ⟨vb, 8, none⟩ (.int .i64 x.m)).setCell ⟨vb, 9, none⟩ (.string x.s)).setCell ⟨vb, 10, none⟩ (.slice A8 x.l.length c8)).heap.size, 0, none⟩) 1 1)) (((((((W11.setCell ⟨vb, 5, none⟩ (.int .i64 x.kind)).setCell ⟨vb, 6, none⟩ (.string x.t)).setCell ⟨vb, 7, none⟩ (.int .i64 x.n)).setCell ⟨vb, 8, none⟩ (.int .i64 x.m)).setCell ⟨vb, 9, none⟩ (.string x.s)).setCell ⟨vb, 10, none⟩ (.slice A8 x.l.length c8)).alloc (.cells #[.int .i64 4, .string T, .string M, .slice A9 acc.length c9, .int .i64 (D : Int), .int .i64 x.kind, .string x.t, .int .i64 x.n, .int .i64 x.m, .string x.s, .slice A8 x.l.length c8, .int .i64 0] 37))) := Lib.hid (by
          rw [HO4.out]
          refine group_one (x := evB T M acc (D : Int) x) (A := A9) (C := A8) (c := c9) (d := c8) S12.out ?_ ?_
          · exact ((W11O.out.chg C12.out (fun j hj => by omega)).rd).weaken (fun q hq => ⟨by have := hq.1; omega, hq.2⟩)
          · exact (C12.out.rd (fun q hq => ⟨hq.2, by have := hq.1; omega⟩) (X11.out.weaken (ok' := Bt w8.heap.size W11.heap.size) (fun q hq => ⟨by have := hq.1; simpa using this, by have := hq.2; omega⟩))).weaken (fun q hq => ⟨by have := hq.1; omega, Nat.lt_of_lt_of_le hq.2 C12.out.size⟩))
        clear S11 W11O X11 C12 S12
        go_wp2_with fail
        go_ret
        simpa [hz11] using HR9.out
end Go.Proofs.YtlbmfgiepcemdaaGreat
