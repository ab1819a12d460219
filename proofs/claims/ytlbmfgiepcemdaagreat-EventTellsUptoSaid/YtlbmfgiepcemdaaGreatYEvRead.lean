/- event.Read: the events that a text holds. Conditions: those in each statement. -/
import Derived.Test.YtlbmfgiepcemdaaGreatYEvReadPEvFine
namespace Go.Proofs.YtlbmfgiepcemdaaGreat
open Go.RowKit

theorem groupS_le {r r' : RS} {x : Ev} {k : Int} (hz : r.s.size ≤ 1048576) (h : groupS r = some (x, k, r')) : r'.s.size ≤ r.s.size := by
  have s1 := numR_size r
  have s2 := numR_size (numR r)
  have t1 := textR_size (numR r)
  have t2 := textR_size (grL1 r)
  have t3 := numR_size (grL2 r)
  have q1 : (grL1 r).s.size = (textR (numR r)).s.size := rfl
  have q2 : (grL2 r).s.size = (textR (grL1 r)).s.size := rfl
  have q3 : (grL3 r).s.size = (numR (grL2 r)).s.size := rfl
  have hsl : Sane (grL3 r) := sane_num (r := grL2 r) sane_text
  unfold groupS at h
  split at h
  · cases h
  split at h
  · cases h; omega
  split at h
  · cases h; omega
  split at h
  · cases h; omega
  split at h
  · split at h
    · cases h
    cases h1 : rdLoop (numV (grL2 r)) (grL3 r) with
    | none => rw [h1] at h; cases h
    | some p =>
      obtain ⟨l, r1⟩ := p
      obtain ⟨_, b2, _, _⟩ := rdLoop_sum _ _ _ _ hsl (by omega) h1
      rw [h1] at h
      cases h
      show r1.s.size ≤ _
      omega
  split at h
  · split at h
    · cases h
    cases h1 : rdLoop (numV (grL2 r)) (grL3 r) with
    | none => rw [h1] at h; cases h
    | some p =>
      obtain ⟨l, r1⟩ := p
      obtain ⟨b1, b2, _, _⟩ := rdLoop_sum _ _ _ _ hsl (by omega) h1
      rw [h1, Option.bind_some] at h
      have u1 := numR_size r1
      cases h2 : readS (numR r1) with
      | none => rw [h2] at h; cases h
      | some q =>
        obtain ⟨v, r2⟩ := q
        obtain ⟨_, c2, _, _, _⟩ := readS_sum (sane_num b1) (by omega) h2
        rw [h2] at h
        cases h
        show r2.s.size ≤ _
        omega
  · cases h
def lenOf : Value → Nat
  | .slice _ n _ => n
  | _ => 0
/-- every event of a list is of a bounded size, its numbers are Go's ints -/
def FineL (l : List Ev) : Prop := ∀ x ∈ l, x.size ≤ 2097152 ∧ x.Wf
theorem FineL.nil : FineL [] := fun _ h => by cases h
theorem FineL.append {l m : List Ev} (h1 : FineL l) (h2 : FineL m) : FineL (l ++ m) := fun x hx => by
  rcases List.mem_append.1 hx with h | h
  · exact h1 x h
  · exact h2 x h
theorem FineL.one {x : Ev} (h1 : x.size ≤ 2097152) (h2 : x.Wf) : FineL [x] := fun y hy => by
  rw [List.mem_singleton] at hy
  subst hy
  exact ⟨h1, h2⟩
/-- how far the loop has come -/
def RGo (N : Nat) (r0 : RS) (acc : List Ev) (r : RS) : Prop := ∃ F, N - acc.length < F ∧ readGo N (N + 1) r0 [] = readGo N F r acc
theorem RGo.start (N : Nat) (r0 : RS) : RGo N r0 [] r0 := ⟨N + 1, by simp, rfl⟩
theorem RGo.done {N : Nat} {r0 : RS} {acc : List Ev} {r : RS} (h : RGo N r0 acc r) (hN : N ≤ acc.length) : readGo N (N + 1) r0 [] = some (acc, r) := by
  obtain ⟨F, hF, h⟩ := h
  obtain ⟨F', rfl⟩ : ∃ F', F = F' + 1 := ⟨F - 1, by omega⟩
  rw [h, readGo, if_pos hN]
theorem RGo.stop {N : Nat} {r0 : RS} {acc : List Ev} {r : RS} (h : RGo N r0 acc r) (hN : acc.length < N) (hg : groupS r = none) : readGo N (N + 1) r0 [] = none := by
  obtain ⟨F, hF, h⟩ := h
  obtain ⟨F', rfl⟩ : ∃ F', F = F' + 1 := ⟨F - 1, by omega⟩
  rw [h, readGo, if_neg (by omega), hg]; rfl
theorem RGo.bad {N : Nat} {r0 : RS} {acc : List Ev} {r r' : RS} {x : Ev} {k : Int} (h : RGo N r0 acc r) (hN : acc.length < N) (hg : groupS r = some (x, k, r')) (hk : k < 1 ∨ ((N - acc.length : Nat) : Int) < k) : readGo N (N + 1) r0 [] = none := by
  obtain ⟨F, hF, h⟩ := h
  obtain ⟨F', rfl⟩ : ∃ F', F = F' + 1 := ⟨F - 1, by omega⟩
  rw [h, readGo, if_neg (by omega), hg, Option.bind_some, if_pos hk]
theorem RGo.step {N : Nat} {r0 : RS} {acc : List Ev} {r r' : RS} {x : Ev} {K : Nat} (h : RGo N r0 acc r) (hN : acc.length < N) (hg : groupS r = some (x, (K : Int), r')) (h1 : 1 ≤ K) (h2 : K ≤ N - acc.length) : RGo N r0 (acc ++ List.replicate K x) r' := by
  obtain ⟨F, hF, h⟩ := h
  obtain ⟨F', rfl⟩ : ∃ F', F = F' + 1 := ⟨F - 1, by omega⟩
  refine ⟨F', by simp; omega, ?_⟩
  rw [h, readGo, if_neg (by omega), hg, Option.bind_some, if_neg (by dsimp only; omega)]
  rfl
theorem replicate_snoc (acc : List Ev) (i : Nat) (x : Ev) : (acc ++ List.replicate i x) ++ [x] = acc ++ List.replicate (i + 1) x := by
  rw [List.append_assoc, List.replicate_succ']
def ERPost (o : Option (List Ev)) (w : World) (e : Ending) (w' : World) : Prop :=
  Below w.heap.size w w' ∧
  match o with
  | none => e = .returned (.tuple #[.slice none 0 0, .bool false])
  | some l => ∃ (A : Option Addr) (c : Nat), e = .returned (.tuple #[.slice A l.length c, .bool true]) ∧ Rd (Bt w.heap.size w'.heap.size) w' (slEv l) (.slice A l.length c) ∧ FineL l ∧ l.length ≤ 1048576
/-- what the rounds that append keep -/
structure IL (w : World) (H1 H3 : Nat) (x : Ev) (A3 C3 : Option Addr) (c3 d3 : Nat) (r3 : RS) (W : World) (v : Value) : Prop where
  le : H1 ≤ H3
  low : Below w.heap.size w W
  rd : RdrAt W w.heap.size r3
  cs : CellsAt W H3 #[.int .i64 x.kind, .string x.path, .string x.msg, .slice A3 x.args.length c3, .int .i64 x.ord, .int .i64 x.vk, .string x.vt, .int .i64 x.vn, .int .i64 x.vm, .string x.vx, .slice C3 x.vl.length d3, .int .i64 x.n] 37
  ra : Rd (Bt H1 H3) W (vs x.args) (.slice A3 x.args.length c3)
  rv : Rd (Bt H1 H3) W (vs x.vl) (.slice C3 x.vl.length d3)
  ob : ∀ q, v.ownBlock = some q → w.heap.size < q ∧ (q < H1 ∨ H3 < q)
section
variable {w : World} {H1 H3 : Nat} {x : Ev} {A3 C3 : Option Addr} {c3 d3 : Nat} {r3 : RS} {W W' : World} {v v' : Value}
theorem IL.below (h : IL w H1 H3 x A3 C3 c3 d3 r3 W v) (hb : Below W.heap.size W W') : IL w H1 H3 x A3 C3 c3 d3 r3 W' v := by
  have hl := h.cs.lt
  have hr := h.rd.lt
  exact ⟨h.le, h.low.trans (hb.mono (by omega)), h.rd.below hb, h.cs.keep (Chg.of_below (M := fun _ => False) hb) (fun h => h), h.ra.below hb (fun b hb => by have := hb.2; omega), h.rv.below hb (fun b hb => by have := hb.2; omega), h.ob⟩
theorem IL.step (h : IL w H1 H3 x A3 C3 c3 d3 r3 W v) (hg : W.grownBy W' v.ownBlock) (hv : ∀ q, v'.ownBlock = some q → v.ownBlock = some q ∨ q = W.heap.size) : IL w H1 H3 x A3 C3 c3 d3 r3 W' v' := by
  have hl := h.cs.lt
  have hr := h.rd.lt
  have hc : Chg (fun k => w.heap.size < k ∧ (k < H1 ∨ H3 < k)) W W' := Chg.of_grown hg h.ob
  have hle := h.le
  refine ⟨hle, h.low.trans (hc.below (by omega) (fun j hj => by omega)), h.rd.keep hc (by omega), h.cs.keep hc (by omega), hc.rd (fun b hb => ⟨by have := hb.2; omega, by have := hb.1; have := hb.2; omega⟩) h.ra, hc.rd (fun b hb => ⟨by have := hb.2; omega, by have := hb.1; have := hb.2; omega⟩) h.rv, fun q hq => ?_⟩
  rcases hv q hq with h1 | h1
  · exact h.ob q h1
  · omega
end
theorem numG_le (r : RS) (h : r.s.size ≤ 1048000) : (numR r).s.size ≤ 1048000 := Nat.le_trans (numR_size r) h
set_option maxHeartbeats 8000000 in
set_option maxRecDepth 100000 in
theorem read_ev (s : ByteArray) (w : World) (hs : s.size ≤ 1048000) : Calls Tryz.prog 12 #[.string s] w (ERPost (readE s) w) := by
  obtain ⟨O, hO⟩ : ∃ O, readE s = O := ⟨_, rfl⟩
  have HO := Lib.hid hO.symm
  rw [hO]
  clear hO
  have HR1 : Hid (∀ W b, RdrAt W b ⟨s, false⟩ → Calls Tryz.prog 32 #[.pointer (some ⟨b, 0, none⟩)] W (RPost b (numR ⟨s, false⟩) (.int .i64 (numV ⟨s, false⟩)) W)) := Lib.hid (fun W b h => rnum_any b ⟨s, false⟩ W h (by show s.size ≤ _; omega))
  have hs1 : (numR ⟨s, false⟩).s.size ≤ 1048000 := numG_le _ hs
  have HSN : Hid (Sane (numR ⟨s, false⟩)) := Lib.hid (sane_num (.inl rfl))
  have HO2 : Hid (O = if 1048576 < numV ⟨s, false⟩ then none else (readGo (numV ⟨s, false⟩) (numV ⟨s, false⟩ + 1) (numR ⟨s, false⟩) []).bind fun p => if doneB p.2 && ((bytesE p.1).toList == s.toList) then some p.1 else none) := Lib.hid HO.out
  clear HO
  have hnv := numV_le ⟨s, false⟩
  generalize numR ⟨s, false⟩ = R0 at *
  generalize numV ⟨s, false⟩ = N at *
  go_enter Tryz.func12, Tryz.ntmps12
  go_wp2_with fail
  (with_reducible refine (open_any s w).mono ?_)
  rintro e w1 ⟨rfl, hb1, hr1⟩
  have hbw : w.heap.size < w1.heap.size := hr1.lt
  have HB1 := Lib.hid hb1
  have HX1 := Lib.hid (HR1.out w1 w.heap.size hr1)
  clear hb1 hr1 HR1
  go_wp2_with fail
  (with_reducible refine HX1.out.mono ?_)
  rintro e w2 ⟨rfl, hc2, hr2⟩
  have HB2 : Hid (Below w.heap.size w w2) := Lib.hid (HB1.out.trans (hc2.below (by omega) (fun j hj => by omega)))
  have hbw2 : w.heap.size < w2.heap.size := hr2.lt
  have HR2 := Lib.hid hr2
  clear hc2 hr2 HX1 HB1
  by_cases hbig : 1048576 < N
  · have hbi : (1048576 : Int) < (N : Int) := by omega
    have HN : Hid (O = none) := Lib.hid (by rw [HO2.out, if_pos hbig])
    go_wp2_with fail
    go_ret2
    rw [HN.out]
    exact ⟨HB2.out, rfl⟩
  · have hbi : ¬ (1048576 : Int) < (N : Int) := by omega
    have HO3 : Hid (O = (readGo N (N + 1) R0 []).bind fun p => if doneB p.2 && ((bytesE p.1).toList == s.toList) then some p.1 else none) := Lib.hid (by rw [HO2.out, if_neg hbig])
    clear HO2
    go_wp2_with fail
    go_loopw [6] (fun s6 wr => ∃ (A : Option Addr) (c : Nat) (acc : List Ev) (ri : RS), s6 = .slice A acc.length c ∧ acc.length ≤ N ∧ ri.s.size ≤ 1048000 ∧ Hid (Sane ri) ∧ Hid (Below w.heap.size w wr) ∧ Hid (RdrAt wr w.heap.size ri) ∧ Hid (Owned (w.heap.size + 1) 37 12 acc.length (rowsEv acc) wr (.slice A acc.length c)) ∧ Hid (FineL acc) ∧ Hid (RGo N R0 acc ri)) (fun s6 _ => N - lenOf s6)
    case atStart => exact ⟨none, 0, [], R0, rfl, by simp, hs1, HSN, HB2, HR2, Lib.hid (Owned.nil _ _ _ _ _), Lib.hid FineL.nil, Lib.hid (RGo.start _ _)⟩
    case round =>
      rename World => wo
      obtain ⟨A, c, acc, ri, rfl, hacc, hri, HSA, HB, HR, HW, HF, HL⟩ := hrel
      have hsz : w.heap.size < wo.heap.size := HR.out.lt
      clear HB2 HR2 HSN
      by_cases hlt : acc.length < N
      · have hlti : (acc.length : Int) < (N : Int) := by omega
        have HC := Lib.hid (group_any w.heap.size ri wo HR.out (by omega))
        obtain ⟨o, ho⟩ : ∃ o, groupS ri = o := ⟨_, rfl⟩
        rw [ho] at HC
        have HOO := Lib.hid ho
        clear ho
        go_wp2_with fail
        (with_reducible refine HC.out.mono ?_)
        rintro e w3 ⟨hc3, hp3⟩
        clear HC
        have HB3 : Hid (Below w.heap.size w w3) := Lib.hid (HB.out.trans (hc3.below (by omega) (fun j hj => by omega)))
        have hsz3 := hc3.size
        cases o with
        | none =>
          obtain ⟨x, A3, C3, c3, d3, k, rfl⟩ := hp3
          have HN : Hid (O = none) := Lib.hid (by rw [HO3.out, HL.out.stop hlt HOO.out]; rfl)
          clear hc3
          go_wp2_with fail
          go_ret2
          rw [HN.out]
          exact ⟨HB3.out.alloc (by omega) _, rfl⟩
        | some p =>
          obtain ⟨x, k, r3⟩ := p
          obtain ⟨A3, C3, c3, d3, rfl, ha3, hv3, hr3⟩ := hp3
          obtain ⟨q1, q2, q3, q4⟩ := groupS_sum HSA.out (by omega) HOO.out
          have HW3 := Lib.hid (HW.out.chg hc3 (fun j hj => by omega))
          have HR3 := Lib.hid hr3
          have HA3 := Lib.hid ha3
          have HV3 := Lib.hid hv3
          have HQ1 := Lib.hid q1
          have hx3 : x.size ≤ 2097152 := by omega
          have hr3s : r3.s.size ≤ 1048000 := Nat.le_trans (groupS_le (by omega) HOO.out) hri
          have HQ3 := Lib.hid q3
          have HW3own := Lib.hid HW.out.below_own
          clear hc3 hr3 ha3 hv3 q1 q2 q3 HR HW
          by_cases hk1 : k < 1
          · have HN : Hid (O = none) := Lib.hid (by rw [HO3.out, HL.out.bad hlt HOO.out (.inl hk1)]; rfl)
            go_wp2_with fail
            go_ret2
            rw [HN.out]
            exact ⟨HB3.out.alloc (by omega) _, rfl⟩
          · obtain ⟨K, rfl⟩ : ∃ K : Nat, k = K := ⟨k.toNat, by omega⟩
            by_cases hk2 : N - acc.length < K
            · have HN : Hid (O = none) := Lib.hid (by rw [HO3.out, HL.out.bad hlt HOO.out (.inr (by omega))]; rfl)
              have hk3 : (N : Int) - (acc.length : Int) < (K : Int) := by omega
              go_wp2_with fail
              go_ret2
              rw [HN.out]
              exact ⟨HB3.out.alloc (by omega) _, rfl⟩
            · have hk3 : ¬ (N : Int) - (acc.length : Int) < (K : Int) := by omega
              have HL2 := Lib.hid (HL.out.step hlt HOO.out (by omega) (by omega))
              have hkN : acc.length + K ≤ N := by omega
              have HOW := Lib.hid HW3own.out
              clear HL HOO HW3own
              go_wp2_with fail
              have hal : Below w3.heap.size w3 (w3.alloc (.cells #[.int .i64 x.kind, .string x.path, .string x.msg, .slice A3 x.args.length c3, .int .i64 x.ord, .int .i64 x.vk, .string x.vt, .int .i64 x.vn, .int .i64 x.vm, .string x.vx, .slice C3 x.vl.length d3, .int .i64 x.n] 37)) := (Below.refl _ _).alloc (Nat.le_refl _) _
              have HO4 : Hid (Owned (w.heap.size + 1) 37 12 acc.length (rowsEv acc) (w3.alloc (.cells #[.int .i64 x.kind, .string x.path, .string x.msg, .slice A3 x.args.length c3, .int .i64 x.ord, .int .i64 x.vk, .string x.vt, .int .i64 x.vn, .int .i64 x.vm, .string x.vx, .slice C3 x.vl.length d3, .int .i64 x.n] 37)) (.slice A acc.length c)) := Lib.hid (HW3.out.below hal)
              have HI4 : Hid (IL w wo.heap.size w3.heap.size x A3 C3 c3 d3 r3 (w3.alloc (.cells #[.int .i64 x.kind, .string x.path, .string x.msg, .slice A3 x.args.length c3, .int .i64 x.ord, .int .i64 x.vk, .string x.vt, .int .i64 x.vn, .int .i64 x.vm, .string x.vx, .slice C3 x.vl.length d3, .int .i64 x.n] 37)) (.slice A acc.length c)) := Lib.hid
                ⟨hsz3, HB3.out.alloc (by omega) _, HR3.out.below hal, CellsAt.new _ _ _, HA3.out.below hal (fun b hb => hb.2), HV3.out.below hal (fun b hb => hb.2), fun q hq => by
                  have := HOW.out q hq
                  omega⟩
              have HK := Lib.hid HF.out
              clear hal HW3 HB3 HR3 HA3 HV3 HOW
              go_loopw [6, 41] (fun s6 s41 wr => ∃ (i : Nat) (A' : Option Addr) (c' : Nat) (L : List Ev), i ≤ K ∧ s41 = .int .i64 i ∧ s6 = .slice A' L.length c' ∧ Hid (L = acc ++ List.replicate i x) ∧ Hid (Owned (w.heap.size + 1) 37 12 L.length (rowsEv L) wr (.slice A' L.length c')) ∧ Hid (IL w wo.heap.size w3.heap.size x A3 C3 c3 d3 r3 wr (.slice A' L.length c'))) (fun _ s41 _ => K - (intOf s41).toNat)
              case atStart => exact ⟨0, A, c, acc, by omega, rfl, rfl, Lib.hid (by simp), HO4, HI4⟩
              case round =>
                obtain ⟨i, A', c', L, hi, rfl, rfl, HLE, HW, HI⟩ := hrel
                have HLN : Hid (L.length = acc.length + i) := Lib.hid (by rw [HLE.out]; simp)
                by_cases hik : i < K
                · have HC := HI.out.cs
                  have e0 : wr.cell? ⟨w3.heap.size, 0, none⟩ = some (.int .i64 x.kind) := by rw [HC.cell]; rfl
                  have e1 : wr.cell? ⟨w3.heap.size, 1, none⟩ = some (.string x.path) := by rw [HC.cell]; rfl
                  have e2 : wr.cell? ⟨w3.heap.size, 2, none⟩ = some (.string x.msg) := by rw [HC.cell]; rfl
                  have e3 : wr.cell? ⟨w3.heap.size, 3, none⟩ = some (.slice A3 x.args.length c3) := by rw [HC.cell]; rfl
                  have e4 : wr.cell? ⟨w3.heap.size, 4, none⟩ = some (.int .i64 x.ord) := by rw [HC.cell]; rfl
                  have e5 : wr.cell? ⟨w3.heap.size, 5, none⟩ = some (.int .i64 x.vk) := by rw [HC.cell]; rfl
                  have e6 : wr.cell? ⟨w3.heap.size, 6, none⟩ = some (.string x.vt) := by rw [HC.cell]; rfl
                  have e7 : wr.cell? ⟨w3.heap.size, 7, none⟩ = some (.int .i64 x.vn) := by rw [HC.cell]; rfl
                  have e8 : wr.cell? ⟨w3.heap.size, 8, none⟩ = some (.int .i64 x.vm) := by rw [HC.cell]; rfl
                  have e9 : wr.cell? ⟨w3.heap.size, 9, none⟩ = some (.string x.vx) := by rw [HC.cell]; rfl
                  have e10 : wr.cell? ⟨w3.heap.size, 10, none⟩ = some (.slice C3 x.vl.length d3) := by rw [HC.cell]; rfl
                  have e11 : wr.cell? ⟨w3.heap.size, 11, none⟩ = some (.int .i64 x.n) := by rw [HC.cell]; rfl
                  have hlt3 : w3.heap.size < wr.heap.size := HC.lt
                  have hal : Below wr.heap.size wr (wr.alloc (.cells #[.int .i64 x.kind, .string x.path, .string x.msg, .slice A3 x.args.length c3, .int .i64 x.ord, .int .i64 x.vk, .string x.vt, .int .i64 x.vn, .int .i64 x.vm, .string x.vx, .slice C3 x.vl.length d3, .int .i64 x.n] 37)) := (Below.refl _ _).alloc (Nat.le_refl _) _
                  have HW2 := Lib.hid (HW.out.below hal)
                  have HI2 := Lib.hid (HI.out.below hal)
                  clear HC hal
                  go_wp2_with (at_builtin; refine wp_append_ev rfl _ _ rfl (w.heap.size + 1) ?cx1 (.slice A' L.length c') L rfl HW2.out ⟨wr.heap.size, 0, none⟩ 1 x A3 c3 C3 d3 rfl ?cx2 ?cx3 ?cx4 ?cx5 ?_)
                  case cx1 => simp; omega
                  case cx2 =>
                    intro j u hj
                    rw [Addr.add_lit, Nat.zero_add, cell_new]
                    exact List.getElem?_toArray.trans hj
                  case cx3 =>
                    refine HI2.out.ra.weaken (fun q hq => ⟨⟨by have := hq.1; omega, by have := hq.2; simp; omega⟩, fun h => ?_⟩)
                    have := (HI2.out.ob q h.symm).2
                    have := hq.1
                    have := hq.2
                    omega
                  case cx4 =>
                    refine HI2.out.rv.weaken (fun q hq => ⟨⟨by have := hq.1; omega, by have := hq.2; simp; omega⟩, fun h => ?_⟩)
                    have := (HI2.out.ob q h.symm).2
                    have := hq.1
                    have := hq.2
                    omega
                  case cx5 => rw [HLN.out]; omega
                  intro v' w10 hO10 hg10 hv10
                  obtain ⟨A10, c10, rfl, _⟩ := hO10.rd.sl_inv
                  have HI10 := Lib.hid (HI2.out.step hg10 (fun q hq => by simpa using hv10 q hq))
                  have HW10 := Lib.hid hO10
                  have HLE2 : Hid (L ++ [x] = acc ++ List.replicate (i + 1) x) := Lib.hid (by rw [HLE.out, replicate_snoc])
                  have HLL : Hid (L.length + 1 = (L ++ [x]).length) := Lib.hid (by simp)
                  generalize L ++ [x] = L2 at *
                  clear hO10 hg10 hv10
                  go_wp2_with fail
                  exact ⟨⟨i + 1, A10, c10, L2, by omega, by go_num, by rw [HLL.out], HLE2, Lib.hid (by have := HW10.out; rw [HLL.out] at this; exact this), Lib.hid (by have := HI10.out; rw [HLL.out] at this; exact this)⟩, by simp [intOf]; omega⟩
                · obtain rfl : i = K := by omega
                  have HL3 : Hid (RGo N R0 L r3) := Lib.hid (by rw [HLE.out]; exact HL2.out)
                  have HF2 : Hid (FineL L) := Lib.hid (by
                    rw [HLE.out]
                    exact HK.out.append (fun y hy => by
                    obtain rfl := List.eq_of_mem_replicate hy
                    exact ⟨hx3, HQ3.out⟩))
                  go_wp2_with fail
                  exact ⟨⟨A', c', L, r3, rfl, by rw [HLN.out]; omega, hr3s, HQ1, Lib.hid HI.out.low, Lib.hid HI.out.rd, HW, HF2, HL3⟩, by have := HLN.out; simp [lenOf]; omega⟩
      · have hlti : ¬ (acc.length : Int) < (N : Int) := by omega
        have HO4 : Hid (O = if doneB ri && ((bytesE acc).toList == s.toList) then some acc else none) := Lib.hid (by rw [HO3.out, HL.out.done (by omega), Option.bind_some])
        obtain ⟨g1, hg1⟩ : ∃ g, doneB ri = g := ⟨_, rfl⟩
        have HD : Hid (∀ W, RdrAt W w.heap.size ri → Calls Tryz.prog 34 #[.pointer (some ⟨w.heap.size, 0, none⟩)] W fun e w' => e = .returned (.bool g1) ∧ W = w') := Lib.hid (fun W h => by rw [← hg1]; exact done_any _ _ _ h)
        rw [hg1] at HO4
        clear HO3 HL hg1
        go_wp2_with fail
        (with_reducible refine (HD.out _ HR.out).mono ?_)
        rintro e w3 ⟨rfl, rfl⟩
        cases g1 with
        | false =>
          have HN : Hid (O = none) := Lib.hid (by rw [HO4.out]; rfl)
          go_wp2_with fail
          go_ret2
          rw [HN.out]
          exact ⟨HB.out, rfl⟩
        | true =>
          have HBT : Hid (Calls Tryz.prog 14 #[.slice A acc.length c] wo fun e w' => e = .returned (.string (bytesE acc)) ∧ Below wo.heap.size wo w') := Lib.hid (bytes_ev acc A acc.length c wo (by omega) (fun x hx => (HF.out x hx).1) (fun x hx => (HF.out x hx).2) (HW.out.rd.weaken (fun b hb => hb.2)))
          generalize bytesE acc = t at *
          go_wp2_with fail
          (with_reducible refine HBT.out.mono ?_)
          rintro e w3 ⟨rfl, hb3⟩
          have HB3 := Lib.hid (HB.out.trans (hb3.mono (by omega)))
          have HW3 := Lib.hid (HW.out.below hb3)
          clear hb3
          cases hg2 : (t.toList == s.toList) with
          | false =>
            rw [hg2] at HO4
            have HN : Hid (O = none) := Lib.hid (by rw [HO4.out]; rfl)
            go_wp2_with fail
            go_ret2
            rw [HN.out]
            exact ⟨HB3.out, rfl⟩
          | true =>
            rw [hg2] at HO4
            have HN : Hid (O = some acc) := Lib.hid (by rw [HO4.out]; rfl)
            go_wp2_with fail
            go_ret2
            rw [HN.out]
            exact ⟨HB3.out, A, c, rfl, HW3.out.rd.weaken (fun b hb => ⟨by have := hb.1; omega, hb.2⟩), HF.out, by omega⟩
end Go.Proofs.YtlbmfgiepcemdaaGreat
