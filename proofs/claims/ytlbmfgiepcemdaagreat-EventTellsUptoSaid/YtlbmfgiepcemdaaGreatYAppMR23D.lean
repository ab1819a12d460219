/- The elements of a slice appended to a row of the call's own, whatever struct they are. Conditions: those in each statement. ref23.Read comes to what event.Read comes to. Conditions: those in each statement. -/
import Derived.Test.YtlbmfgiepcemdaaGreatYEvAllSchedAppG
import Derived.Deep.Upon
import Derived.Test.YtlbmfgiepcemdaaGreatYR23G
import Derived.Test.YtlbmfgiepcemdaaGreatYR23B
namespace Go.Proofs.YtlbmfgiepcemdaaGreat
open Go.RowKit

/-- behind an append of m rows -/
theorem Owned.appendMany {B : Nat} {e : TypeId} {k n m : Nat} {f f' : Nat → Nat → D} {w w' : World} {v : Value} {xs news : List Value} {g cap : Nat} (h : Owned B e k n f w v) (hown : w.ownsRow B e k v n xs)
    (hown' : w'.ownsRow B e k (.slice (some ⟨g, 0, none⟩) (n + m) cap) (n + m) (xs ++ news)) (hg : w.grownBy w' v.ownBlock) (hat : v.ownBlock = some g ∨ g = w.heap.size) (hk : news.length = m * k)
    (hf : ∀ a, a < n → f' a = f a) (hnew : ∀ i j u, i < m → j < k → news[i * k + j]? = some u → Rd (fun b => Bt B w.heap.size b ∧ some b ≠ v.ownBlock) w (f' (n + i) j) u) :
    Owned B e k (n + m) f' w' (.slice (some ⟨g, 0, none⟩) (n + m) cap) := by
  have hxl : xs.length = n * k := hown.1
  have hcells := hown'.cells (g := g) rfl
  rcases hown'.2 with ⟨hv, _⟩ | ⟨g', cap', cur, hv, hBg, hcur, hnc, hc, hsz, _⟩
  · injection hv with hv; cases hv
  injection hv with hv1 _ hv3
  injection hv1 with hv1
  injection hv1 with hv1
  subst hv1 hv3
  have keep : ∀ {d : D} {u : Value}, Rd (fun b => Bt B w.heap.size b ∧ some b ≠ v.ownBlock) w d u → Rd (fun b => Bt B w'.heap.size b ∧ b ≠ g) w' d u := fun hd =>
    (hd.keep (fun b o hb => World.cell?_of_block (hg.block b hb.1.2 hb.2))).weaken (fun b hb => ⟨⟨hb.1.1, Nat.lt_of_lt_of_le hb.1.2 hg.size⟩, fun hbg => by
      subst hbg
      rcases hat with h1 | h1
      · exact hb.2 h1.symm
      · have := hb.1.2; omega⟩)
  refine .inr ⟨g, cap, rfl, hBg, hnc, hc, ⟨cur, hcur, hsz⟩, fun a ha j hj => ?_⟩
  rcases Nat.lt_or_ge a n with han | han
  · have hak := row_le (k := k) han
    have hu : xs[a * k + j]? = some (xs[a * k + j]'(by omega)) := List.getElem?_eq_getElem (by omega)
    have hc1 := hcells (a * k + j) _ ((List.getElem?_append_left (by omega)).trans hu)
    rw [Addr.add_lit, Nat.zero_add] at hc1
    refine ⟨_, hc1, ?_⟩
    rw [hf a han]
    rcases h with ⟨_, h0⟩ | ⟨g0, c0, rfl, _, _, _, _, hr⟩
    · omega
    obtain ⟨u, hcu, hd⟩ := hr a han j hj
    have hc0 := hown.cells (g := g0) rfl (a * k + j) _ hu
    rw [Addr.add_lit, Nat.zero_add, hcu] at hc0
    have he := Option.some.inj hc0
    rw [← he]
    exact keep (hd.weaken (fun b hb => ⟨hb.1, fun h => by
      have : some b = some g0 := h
      injection this with this
      exact hb.2 this⟩))
  · obtain ⟨i, rfl⟩ : ∃ i, a = n + i := ⟨a - n, by omega⟩
    have him : i < m := by omega
    have hik := row_le (k := k) him
    have hd : (n + i) * k + j - n * k = i * k + j := by rw [Nat.add_mul]; omega
    have hge : n * k ≤ (n + i) * k + j := by rw [Nat.add_mul]; omega
    have hu : news[i * k + j]? = some (news[i * k + j]'(by omega)) := List.getElem?_eq_getElem (by omega)
    have hc1 := hcells ((n + i) * k + j) _ (by rw [List.getElem?_append_right (by omega), hxl, hd]; exact hu)
    rw [Addr.add_lit, Nat.zero_add] at hc1
    exact ⟨_, hc1, keep (hnew i j _ him hj hu)⟩
/-- APPEND OF A WHOLE SLICE ONTO A ROW OF THE CALL's OWN -/
theorem wp_append_rows {T E : TypeId} {size bytes : Nat} {z : Value} (hinfo : (Tryz.prog.info? E).map (fun i => (i.zero, i.size, i.bytes)) = some (some z, size, bytes)) (hund : Tryz.prog.underlying T = some (.slice E)) (hzs : z.cells.size = size) (hsz : 0 < size) (hbb : bytes ≤ 8192)
    {w : World} {ops : Array Oper} {rest : List Oper} {o : Oper} {a : Act} {Q : Exit → Act → World → Prop} (hgd : o.guard = none) (s x : Operand)
    (ho : o.op = .call { callee := .builtin .append, args := #[s, x], argTypes := #[T, T] })
    (B : Nat) (hB : B ≤ w.heap.size) (v : Value) (n : Nat) (f : Nat → Nat → D) (hs : a.eval s = v) (hO : Owned B E size n f w v)
    (m c : Nat) (A : Option Addr) (fl f' : Nat → Nat → D) (hx : a.eval x = .slice A m c)
    (hsrc : 0 < m → ∃ b off, A = some ⟨b, off, none⟩ ∧ ∀ i, i < m → RdRow (fun b => Bt B w.heap.size b ∧ some b ≠ v.ownBlock) w b (off + i * size) size (fl i))
    (hf : ∀ a, a < n → f' a = f a) (hf2 : ∀ i j, i < m → j < size → f' (n + i) j = fl i j) (hlen : n + m ≤ 4194304)
    (h : ∀ v' w', Owned B E size (n + m) f' w' v' → w.grownBy w' v.ownBlock → (∀ q, v'.ownBlock = some q → v.ownBlock = some q ∨ q = w.heap.size) → wpList Tryz.prog ops Q rest (a.put o.dst v') w') : wpList Tryz.prog ops Q (o :: rest) a w := by
  obtain ⟨i0, hi0, hz0, hz1, hz2⟩ := info_parts hinfo
  by_cases hm0 : m = 0
  · subst hm0
    have hsr : Src Tryz.prog i0.size T (.slice A 0 c) 0 [] w := by
      cases A with
      | none => exact Src.ofNil w hund c
      | some p => exact Src.ofSlice w hund p 0 c [] (by simp) (fun j u hu => by simp at hu) (fun u hu => by simp at hu)
    obtain ⟨A0, c0, e, hnc, _⟩ := hO.rd.sl_inv
    have hrun := run_append_nothing (P := Tryz.prog) w T T o.type E i0 hund hi0 A0 n c0 hnc _ hsr
    subst e
    refine wpList_plain hgd fun K hK => ?_
    unfold Oper.wp
    simp [execOp, ho, resolve, invoke, builtin, hs, hx, hrun, Result.andThen]
    refine hK _ _ (h _ w ?_ ⟨rfl, rfl, rfl, Nat.le_refl _, fun _ _ _ => rfl⟩ (fun q hq => .inl hq))
    rcases hO with ⟨h1, h2⟩ | ⟨g, c1, h1, h2, h3, h4, h5, h6⟩
    · exact .inl ⟨h1, h2⟩
    · exact .inr ⟨g, c1, h1, h2, h3, h4, h5, fun k hk => by rw [hf k hk]; exact h6 k hk⟩
  · obtain ⟨b, off, rfl, hrow⟩ := hsrc (by omega)
    obtain ⟨xs, hown⟩ := hO.own
    obtain ⟨news, hnws⟩ : ∃ news : List Value, news = (List.range (m * size)).map (fun q => (w.cell? ⟨b, off + q, none⟩).getD undef) := ⟨_, rfl⟩
    have hnl : news.length = m * size := by rw [hnws]; simp
    have hget : ∀ q, q < m * size → ∃ u, news[q]? = some u ∧ w.cell? ⟨b, off + q, none⟩ = some u ∧ Rd (fun b => Bt B w.heap.size b ∧ some b ≠ v.ownBlock) w (fl (q / size) (q % size)) u := fun q hq => by
      have h1 : q / size < m := Nat.div_lt_of_lt_mul (by rw [Nat.mul_comm]; exact hq)
      have h2 : q % size < size := Nat.mod_lt _ hsz
      have h3 : q / size * size + q % size = q := by rw [Nat.mul_comm]; exact Nat.div_add_mod q size
      obtain ⟨u, hu, hd⟩ := hrow _ h1 _ h2
      rw [Nat.add_assoc, h3] at hu
      refine ⟨u, ?_, hu, hd⟩
      rw [hnws]
      simp [hq, hu]
    have hb : (n + m) * bytes ≤ 4194304 * 8192 := Nat.mul_le_mul hlen hbb
    refine wpList_append_lies w hgd s x T ho B E i0 z size bytes hund hi0 hz0 hz1 hz2 hzs hsz v n xs hs hown ⟨b, off, none⟩ m c news hx hnl (fun j u hj => ?_) (fun u hu => ?_) (by omega) (by unfold maxLen; omega) (by omega) hB w.heap.size rfl ?_
    · have hjl := (List.getElem?_eq_some_iff.1 hj).1
      obtain ⟨u', h1, h2, _⟩ := hget j (by omega)
      rw [Addr.add_lit, h2, ← h1, hj]
    · obtain ⟨j, hj⟩ := List.getElem?_of_mem hu
      have hjl := (List.getElem?_eq_some_iff.1 hj).1
      obtain ⟨u', h1, _, h3⟩ := hget j (by omega)
      rw [h1] at hj
      obtain rfl := Option.some.inj hj
      exact h3.oneCell
    intro g cap w' h2 h3 h4 _
    refine h _ w' ?_ h3 (fun q hq => by
      obtain rfl : g = q := Option.some.inj hq
      exact h4)
    refine hO.appendMany hown h2 h3 h4 hnl hf (fun i j u hi hj hu => ?_)
    have hik := row_le (k := size) hi
    obtain ⟨u', h5, _, h6⟩ := hget (i * size + j) (by omega)
    rw [h5] at hu
    obtain rfl := Option.some.inj hu
    have e1 : (i * size + j) / size = i := by rw [Nat.add_comm, Nat.add_mul_div_right _ _ hsz, Nat.div_eq_of_lt hj]; omega
    have e2 : (i * size + j) % size = j := by rw [Nat.add_comm, Nat.add_mul_mod_self_right, Nat.mod_eq_of_lt hj]
    rw [e1, e2] at h6
    rw [hf2 i j hi hj]
    exact h6
end Go.Proofs.YtlbmfgiepcemdaaGreat
namespace Go.Proofs.YtlbmfgiepcemdaaGreat
open Go.RowKit

/-- how much the reader in block b has left -/
def rdSize (w : World) (b : Nat) : Nat := match w.cell? ⟨b, 0, none⟩ with | some (.string s) => s.size | _ => 0
theorem rdSize_at {w : World} {b : Nat} {r : RS} (h : R2At w b r) : rdSize w b = r.s.size := by unfold rdSize; rw [h.c0]
/-- the loop stands at r, acc read -/
def GTo (N M : Nat) (r0 : RS) (acc : List Ev) (r : RS) : Prop := ∃ F, r.s.size ≤ F ∧ go23 N M r0 [] = go23 N F r acc
theorem GTo.start (N M : Nat) (r0 : RS) (h : r0.s.size ≤ M) : GTo N M r0 [] r0 := ⟨M, h, rfl⟩
theorem GTo.stop {N M : Nat} {r0 : RS} {acc : List Ev} {r : RS} (h : GTo N M r0 acc r) (hc : N ≤ acc.length ∨ r.s.size = 0) : go23 N M r0 [] = (acc, r) := by
  obtain ⟨F, _, e⟩ := h
  rw [e]
  cases F with
  | zero => rfl
  | succ F => rw [go23, if_pos hc]
theorem GTo.step {N M : Nat} {r0 : RS} {acc : List Ev} {r : RS} (h : GTo N M r0 acc r) (h1 : acc.length < N) (h2 : ¬ r.s.size = 0) (h3 : (g23 r (N - acc.length)).2.s.size < r.s.size) : GTo N M r0 (acc ++ (g23 r (N - acc.length)).1) (g23 r (N - acc.length)).2 := by
  obtain ⟨F, hF, e⟩ := h
  obtain ⟨F', rfl⟩ : ∃ F', F = F' + 1 := ⟨F - 1, by omega⟩
  rw [go23, if_neg (fun h => h.elim (by omega) h2)] at e
  exact ⟨F', by omega, e⟩
theorem slEv_def (l : List Ev) : slEv l = .sl 12 l.length (rowsEv l) := rfl
/-- what the rounds keep -/
structure RL (w W : World) (ri : RS) (acc : List Ev) (v : Value) : Prop where
  low : Below w.heap.size w W
  rd : R2At W w.heap.size ri
  own : Owned (w.heap.size + 1) 37 12 acc.length (rowsEv acc) W v
set_option maxHeartbeats 8000000 in
set_option maxRecDepth 100000 in
theorem read23_any (s : ByteArray) (w : World) (hs : s.size ≤ 1048000) : Calls Tryz.prog 13 #[.string s] w (ERPost (readE s) w) := by
  rw [← read23_eq s hs]
  obtain ⟨O, hO⟩ : ∃ O, read23 s = O := ⟨_, rfl⟩
  have HO := Lib.hid hO.symm
  rw [hO]
  clear hO
  have HR1 : Hid (∀ W b, R2At W b ⟨s, false⟩ → Calls Tryz.prog 36 #[.pointer (some ⟨b, 0, none⟩)] W (R2Post b (numR ⟨s, false⟩) (.int .i64 (numV ⟨s, false⟩)) W)) := Lib.hid (fun W b h => r2num_any b ⟨s, false⟩ W h (by show s.size ≤ _; omega))
  have hs1 : (numR ⟨s, false⟩).s.size ≤ s.size := numR_size ⟨s, false⟩
  have HSN : Hid (Sane (numR ⟨s, false⟩)) := Lib.hid (sane_num (.inl rfl))
  have HO2 : Hid (O = if 1048576 < numV ⟨s, false⟩ then none else if doneB (go23 (numV ⟨s, false⟩) s.size (numR ⟨s, false⟩) []).2 && ((bytesE (go23 (numV ⟨s, false⟩) s.size (numR ⟨s, false⟩) []).1).toList == s.toList) then some (go23 (numV ⟨s, false⟩) s.size (numR ⟨s, false⟩) []).1 else none) := Lib.hid HO.out
  clear HO
  have hnv := numV_le ⟨s, false⟩
  generalize numR ⟨s, false⟩ = R0 at *
  generalize numV ⟨s, false⟩ = N at *
  go_enter Tryz.func13, Tryz.ntmps13
  go_wp2_with fail
  (with_reducible refine (r2open_any s w).mono ?_)
  rintro e w1 ⟨rfl, hb1, hr1⟩
  have hbw : w.heap.size < w1.heap.size := hr1.lt
  have HB1 := Lib.hid hb1
  have HX1 := Lib.hid (HR1.out w1 w.heap.size hr1)
  clear hb1 hr1 HR1
  go_wp2_with fail
  (with_reducible refine HX1.out.mono ?_)
  rintro e w2 ⟨rfl, hc2, hr2⟩
  have HB2 : Hid (Below w.heap.size w w2) := Lib.hid (HB1.out.trans (hc2.below (by omega) (fun j hj => by omega)))
  have HR2 := Lib.hid hr2
  clear hc2 hr2 HX1 HB1
  by_cases hbig : 1048576 < N
  · have hbi : (1048576 : Int) < (N : Int) := by omega
    have HN : Hid (O = none) := Lib.hid (by rw [HO2.out, if_pos hbig])
    go_wp2_with fail
    go_ret2
    rw [HN.out]
    exact ⟨HB2.out, rfl⟩
  · have hbi : ¬ (1048576 : Int) < (N : Int) := by omega
    have HEND : Hid (∀ acc ri, go23 N s.size R0 [] = (acc, ri) → O = if doneB ri && ((bytesE acc).toList == s.toList) then some acc else none) := Lib.hid (fun acc ri h => by rw [HO2.out, if_neg hbig, h])
    clear HO2
    go_wp2_with fail
    go_loopw [6] (fun s6 wr => ∃ (acc : List Ev) (ri : RS), acc.length ≤ N ∧ ri.s.size ≤ 1048000 ∧ Hid (Sane ri) ∧ Hid (FineL acc) ∧ Hid (GTo N s.size R0 acc ri) ∧ Hid (RL w wr ri acc s6)) (fun _ wr => rdSize wr w.heap.size)
    case atStart => exact ⟨[], R0, by simp, by omega, HSN, Lib.hid FineL.nil, Lib.hid (GTo.start _ _ _ hs1), Lib.hid ⟨HB2.out, HR2.out, Owned.nil _ _ _ _ _⟩⟩
    case round =>
      clear HB2 HR2
      obtain ⟨acc, ri, hal, hri, HSA, HF, HGO, HX⟩ := hrel
      obtain ⟨A, c, rfl, _⟩ := HX.out.own.rd.sl_inv
      have HLF := Lib.hid (r2left_any w.heap.size ri wr HX.out.rd)
      by_cases hlt : acc.length < N
      · have hlti : (acc.length : Int) < (N : Int) := by omega
        by_cases hz0 : ri.s.size = 0
        · have hzi : ¬ ((0 : Int) < ri.s.size) := by omega
          have HG9 : Hid (go23 N s.size R0 [] = (acc, ri)) := Lib.hid (HGO.out.stop (.inr hz0))
          go_wp2_with fail
          (with_reducible refine HLF.out.mono ?_)
          rintro e w7 ⟨rfl, rfl⟩
          have HO4 := Lib.hid (HEND.out _ _ HG9.out)
          obtain ⟨g1, hg1⟩ : ∃ g, doneB ri = g := ⟨_, rfl⟩
          have HD : Hid (∀ W, R2At W w.heap.size ri → Calls Tryz.prog 39 #[.pointer (some ⟨w.heap.size, 0, none⟩)] W fun e w' => e = .returned (.bool g1) ∧ W = w') := Lib.hid (fun W h => by rw [← hg1]; exact r2done_any _ _ _ h)
          rw [hg1] at HO4
          have hlw := HX.out.low.size
          have HBT : Hid (Calls Tryz.prog 15 #[.slice A acc.length c] wr fun e w' => e = .returned (.string (bytesE acc)) ∧ Below wr.heap.size wr w') := Lib.hid (bytes23_any acc A acc.length c wr (by omega) (fun x hx => (HF.out x hx).1) (fun x hx => (HF.out x hx).2) (HX.out.own.rd.weaken (fun b hb => hb.2)))
          generalize bytesE acc = t at *
          clear HEND HGO HG9 hg1
          go_wp2_with fail
          (with_reducible refine (HD.out _ HX.out.rd).mono ?_)
          rintro e w3 ⟨rfl, rfl⟩
          go_wp2_with fail
          (with_reducible refine HBT.out.mono ?_)
          rintro e w4 ⟨rfl, hb4⟩
          have HB4 := Lib.hid (HX.out.low.trans (hb4.mono hlw))
          have HW4 := Lib.hid (HX.out.own.below hb4)
          clear hb4 HD HBT
          cases g1 with
          | false =>
            have HN : Hid (O = none) := Lib.hid (by rw [HO4.out]; rfl)
            go_wp2_with fail
            go_ret2
            rw [HN.out]
            exact ⟨HB4.out, rfl⟩
          | true =>
            cases hg2 : (t.toList == s.toList) with
            | false =>
              rw [hg2] at HO4
              have HN : Hid (O = none) := Lib.hid (by rw [HO4.out]; rfl)
              have hg3 : (t.toList != s.toList) = true := by rw [bne, hg2]; rfl
              go_wp2_with fail
              go_ret2
              rw [HN.out]
              exact ⟨HB4.out, rfl⟩
            | true =>
              rw [hg2] at HO4
              have HN : Hid (O = some acc) := Lib.hid (by rw [HO4.out]; rfl)
              have hg3 : (t.toList != s.toList) = false := by rw [bne, hg2]; rfl
              go_wp2_with fail
              go_ret2
              rw [HN.out]
              exact ⟨HB4.out, A, c, rfl, HW4.out.rd.weaken (fun b hb => ⟨by have := hb.1; omega, hb.2⟩), HF.out, by omega⟩
        · have hzi : (0 : Int) < ri.s.size := by omega
          have hdif : IntKind.i64.wrap ((N : Int) - (acc.length : Int)) = ((N - acc.length : Nat) : Int) := by rw [IntWalk.i64_in _ (by omega)]; omega
          have HGR := Lib.hid (group2_any w.heap.size ri (N - acc.length) wr HX.out.rd hri (by omega))
          obtain ⟨g1, g2, g3, g4⟩ := g23_sum (N - acc.length) HSA.out hri hz0 (by omega)
          have HGO2 := Lib.hid (HGO.out.step hlt hz0 g2)
          have HSA2 := Lib.hid g1
          have HF2 := Lib.hid (HF.out.append g4)
          generalize g23 ri (N - acc.length) = q at *
          obtain ⟨L, r2⟩ := q
          dsimp only at g2 g3
          clear g1 g4 HGO
          go_wp2_with fail
          (with_reducible refine HLF.out.mono ?_)
          rintro e w7 ⟨rfl, rfl⟩
          go_wp2_with fail
          (with_reducible refine HGR.out.mono ?_)
          rintro e w8 ⟨hc8, A8, c8, rfl, hx8, hr8⟩
          have hsz := hc8.size
          have hlw := HX.out.low.size
          have hbw9 := HX.out.rd.lt
          have hmr : rdSize wr w.heap.size = ri.s.size := rdSize_at HX.out.rd
          have HOB := Lib.hid HX.out.own.below_own
          have HX8 := Lib.hid (show RL w w8 r2 acc (.slice A acc.length c) from ⟨HX.out.low.trans (hc8.below (by omega) (fun j hj => by omega)), hr8, HX.out.own.chg hc8 (fun j hj => by omega)⟩)
          have HS8 := Lib.hid hx8
          clear hc8 hx8 hr8 HX HGR HLF
          go_wp2_with (at_builtin; refine wp_append_rows infoE12 Tryz.underlying22 rfl (by omega) (by omega) rfl _ _ rfl (w.heap.size + 1) ?cx1 (.slice A acc.length c) acc.length (rowsEv acc) rfl HX8.out.own L.length c8 A8 (rowsEv L) (rowsEv (acc ++ L)) rfl ?cx2 ?cx3 ?cx4 ?cx5 ?_)
          case cx1 => omega
          case cx2 =>
            intro hm
            obtain ⟨A0, c0, e, _, _, h3⟩ := HS8.out.sl_inv
            injection e with e1 e2 e3
            subst e1
            obtain ⟨b9, off9, rfl, hb9, hrow⟩ := h3 hm
            refine ⟨b9, off9, rfl, fun i hi => (hrow i hi).weaken (fun q hq => ⟨⟨by have := hq.1; omega, hq.2⟩, fun h => ?_⟩)⟩
            have := (HOB.out q h.symm).2
            have := hq.1
            omega
          case cx3 =>
            intro k hk
            have hxk : acc[k]? = some acc[k] := List.getElem?_eq_getElem hk
            rw [rowsEv_get hxk, rowsEv_get (l := acc ++ L) (i := k) (by rw [List.getElem?_append_left hk]; exact hxk)]
          case cx4 =>
            intro k j hk _
            have hxk : L[k]? = some L[k] := List.getElem?_eq_getElem hk
            rw [rowsEv_get hxk, rowsEv_get (l := acc ++ L) (i := acc.length + k) (by rw [List.getElem?_append_right (by omega), show acc.length + k - acc.length = k by omega]; exact hxk)]
          case cx5 => omega
          intro v' w10 hO10 hg10 hv10
          have hch : Chg (fun k => w.heap.size < k) w8 w10 := Chg.of_grown hg10 (fun k hk => by have := (HOB.out k (by simpa using hk)).1; omega)
          have X10 : Hid (RL w w10 r2 (acc ++ L) v') := Lib.hid ⟨HX8.out.low.trans (hch.below (by omega) (fun j hj => by omega)), HX8.out.rd.keep hch (by omega), by rw [List.length_append]; exact hO10⟩
          have hm11 : rdSize w10 w.heap.size = r2.s.size := rdSize_at X10.out.rd
          clear hO10 hg10 hv10 hch
          go_wp2_with fail
          exact ⟨⟨acc ++ L, r2, by rw [List.length_append]; omega, by omega, HSA2, HF2, HGO2, X10⟩, by show rdSize w10 w.heap.size < rdSize wr w.heap.size; omega⟩
      · have hlti : ¬ (acc.length : Int) < (N : Int) := by omega
        have HG9 : Hid (go23 N s.size R0 [] = (acc, ri)) := Lib.hid (HGO.out.stop (.inl (by omega)))
        have HO4 := Lib.hid (HEND.out _ _ HG9.out)
        obtain ⟨g1, hg1⟩ : ∃ g, doneB ri = g := ⟨_, rfl⟩
        have HD : Hid (∀ W, R2At W w.heap.size ri → Calls Tryz.prog 39 #[.pointer (some ⟨w.heap.size, 0, none⟩)] W fun e w' => e = .returned (.bool g1) ∧ W = w') := Lib.hid (fun W h => by rw [← hg1]; exact r2done_any _ _ _ h)
        rw [hg1] at HO4
        have hlw := HX.out.low.size
        have HBT : Hid (Calls Tryz.prog 15 #[.slice A acc.length c] wr fun e w' => e = .returned (.string (bytesE acc)) ∧ Below wr.heap.size wr w') := Lib.hid (bytes23_any acc A acc.length c wr (by omega) (fun x hx => (HF.out x hx).1) (fun x hx => (HF.out x hx).2) (HX.out.own.rd.weaken (fun b hb => hb.2)))
        generalize bytesE acc = t at *
        clear HEND HGO HG9 hg1
        go_wp2_with fail
        (with_reducible refine (HD.out _ HX.out.rd).mono ?_)
        rintro e w3 ⟨rfl, rfl⟩
        go_wp2_with fail
        (with_reducible refine HBT.out.mono ?_)
        rintro e w4 ⟨rfl, hb4⟩
        have HB4 := Lib.hid (HX.out.low.trans (hb4.mono hlw))
        have HW4 := Lib.hid (HX.out.own.below hb4)
        clear hb4 HD HBT
        cases g1 with
        | false =>
          have HN : Hid (O = none) := Lib.hid (by rw [HO4.out]; rfl)
          go_wp2_with fail
          go_ret2
          rw [HN.out]
          exact ⟨HB4.out, rfl⟩
        | true =>
          cases hg2 : (t.toList == s.toList) with
          | false =>
            rw [hg2] at HO4
            have HN : Hid (O = none) := Lib.hid (by rw [HO4.out]; rfl)
            have hg3 : (t.toList != s.toList) = true := by rw [bne, hg2]; rfl
            go_wp2_with fail
            go_ret2
            rw [HN.out]
            exact ⟨HB4.out, rfl⟩
          | true =>
            rw [hg2] at HO4
            have HN : Hid (O = some acc) := Lib.hid (by rw [HO4.out]; rfl)
            have hg3 : (t.toList != s.toList) = false := by rw [bne, hg2]; rfl
            go_wp2_with fail
            go_ret2
            rw [HN.out]
            exact ⟨HB4.out, A, c, rfl, HW4.out.rd.weaken (fun b hb => ⟨by have := hb.1; omega, hb.2⟩), HF.out, by omega⟩
end Go.Proofs.YtlbmfgiepcemdaaGreat
