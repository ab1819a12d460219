/- sched.Enabled, if sched.channels comes to a list of channels. Conditions: those in each statement. event.copies: copies of values at all levels. Conditions: those in each statement. -/
import Derived.Test.YtlbmfgiepcemdaaGreatYEvAllSchedAppG
import Derived.Test.YtlbmfgiepcemdaaGreatYDecPBldE
import Derived.Laws.MakeOwn
namespace Go.Proofs.YtlbmfgiepcemdaaGreat
open Go.RowKit Go.Sort

/-- a channel's two cells; an action's three -/
def rowC (c : Int × Int) : Nat → D
  | 0 => .num .i64 c.1
  | _ => .num .i64 c.2
def rowAn (a : ByteArray × Int × Int) : Nat → D
  | 0 => .str a.1
  | 1 => .num .i64 a.2.1
  | _ => .num .i64 a.2.2
def ChPost (chs : List (Int × Int)) (w : World) (e : Ending) (w' : World) : Prop :=
  ∃ A c, e = .returned (.slice A chs.length c) ∧ Rd (Bt w.heap.size w'.heap.size) w' (slG 2 rowC chs) (.slice A chs.length c) ∧ Below w.heap.size w w'
def readyA (up : List Bool) (l : List Act1) : List (ByteArray × Int × Int) := (l.filter (readyS up)).map fun x => (x.path, 0, 0)
def chA (l : List (Int × Int)) : List (ByteArray × Int × Int) := l.map fun c => (⟨#[]⟩, c.1, c.2)
theorem readyA_snoc {up : List Bool} {l : List Act1} {i : Nat} {x : Act1} (h : l[i]? = some x) : readyA up (l.take (i + 1)) = readyA up (l.take i) ++ if readyS up x then [(x.path, 0, 0)] else [] := by
  unfold readyA
  rw [List.take_add_one, h, List.filter_append, List.map_append]
  cases hr : readyS up x <;> simp [hr]
theorem chA_snoc {l : List (Int × Int)} {i : Nat} {c : Int × Int} (h : l[i]? = some c) : chA (l.take (i + 1)) = chA (l.take i) ++ [(⟨#[]⟩, c.1, c.2)] := by
  unfold chA
  rw [List.take_add_one, h, List.map_append]; rfl
theorem readyA_len (up : List Bool) (l : List Act1) : (readyA up l).length ≤ l.length := by
  unfold readyA
  rw [List.length_map]; exact List.length_filter_le _ _
theorem infoAn : (Tryz.prog.info? 91).map (fun i => (i.zero, i.size, i.bytes)) = some (some (.agg #[.string ⟨#[]⟩, .int .i64 0, .int .i64 0]), 3, 32) := by kernel_rfl
/-- what the rounds over the channels keep -/
structure EL (w : World) (H1 H3 : Nat) (d : D) (u : Value) (W : World) (v : Value) : Prop where
  le : w.heap.size < H1 ∧ H1 ≤ H3 ∧ H3 ≤ W.heap.size
  low : Below w.heap.size w W
  rd : Rd (Bt H1 H3) W d u
  ob : ∀ q, v.ownBlock = some q → w.heap.size < q ∧ (q < H1 ∨ H3 ≤ q)
section
variable {w : World} {H1 H3 : Nat} {d : D} {u : Value} {W W' : World} {v v' : Value}
theorem EL.below (h : EL w H1 H3 d u W v) (hb : Below W.heap.size W W') : EL w H1 H3 d u W' v := by
  obtain ⟨h1, h2, h3⟩ := h.le
  exact ⟨⟨h1, h2, Nat.le_trans h3 hb.size⟩, h.low.trans (hb.mono (by omega)), h.rd.below hb (fun b hb => by have := hb.2; omega), h.ob⟩
theorem EL.step (h : EL w H1 H3 d u W v) (hg : W.grownBy W' v.ownBlock) (hv : ∀ q, v'.ownBlock = some q → v.ownBlock = some q ∨ q = W.heap.size) : EL w H1 H3 d u W' v' := by
  obtain ⟨h1, h2, h3⟩ := h.le
  have hc : Chg (fun k => w.heap.size < k ∧ (k < H1 ∨ H3 ≤ k)) W W' := Chg.of_grown hg h.ob
  refine ⟨⟨h1, h2, Nat.le_trans h3 hc.size⟩, h.low.trans (hc.below (by omega) (fun j hj => by omega)), hc.rd (fun b hb => ⟨by have := hb.2; omega, by have := hb.1; have := hb.2; omega⟩) h.rd, fun q hq => ?_⟩
  rcases hv q hq with h4 | h4
  · exact h.ob q h4
  · omega
end
set_option maxHeartbeats 4000000 in
set_option maxRecDepth 100000 in
theorem enabled_of (s : Sys) (chs : List (Int × Int)) (w : World) (hs : SysAt (Lt w.heap.size) w s) (hl : s.acts.length ≤ 1048576) (hc : chs.length ≤ 1048576)
    (HC : ∀ W, SysAt (Lt W.heap.size) W s → Calls Tryz.prog 58 #[.agg #[.slice s.Au s.up.length s.cu, .int .i64 s.sm, .int .i64 s.sc, .int .i64 s.sq, .slice s.Aa s.acts.length s.ca, .slice s.Af s.fl.length s.cf, .slice s.Al s.nl s.cl, .slice s.Ak s.nk s.ck, .int .i64 s.sd]] W (ChPost chs W)) :
    Calls Tryz.prog 29 #[.agg #[.slice s.Au s.up.length s.cu, .int .i64 s.sm, .int .i64 s.sc, .int .i64 s.sq, .slice s.Aa s.acts.length s.ca, .slice s.Af s.fl.length s.cf, .slice s.Al s.nl s.cl, .slice s.Ak s.nk s.ck, .int .i64 s.sd]] w fun e w' => ∃ A c, e = .returned (.slice A (readyA s.up s.acts ++ chA chs).length c) ∧ Rd (Bt w.heap.size w'.heap.size) w' (slG 3 rowAn (readyA s.up s.acts ++ chA chs)) (.slice A (readyA s.up s.acts ++ chA chs).length c) ∧ Below w.heap.size w w' := by
  have HS := Lib.hid hs
  have HCH := Lib.hid HC
  clear hs HC
  go_enter Tryz.func29, Tryz.ntmps29
  go_wp2_with fail
  go_loopw [3, 10] (fun s3 s10 wr => ∃ (i : Nat) (A : Option Addr) (c : Nat) (L : List (ByteArray × Int × Int)), i ≤ s.acts.length ∧ s10 = .int .i64 i ∧ s3 = .slice A L.length c ∧ Hid (L = readyA s.up (s.acts.take i)) ∧ Hid (Owned (w.heap.size + 1) 91 3 L.length (rowsG rowAn L) wr (.slice A L.length c)) ∧ Hid (Below w.heap.size w wr) ∧ Hid (CellsAt wr w.heap.size #[.slice s.Au s.up.length s.cu, .int .i64 s.sm, .int .i64 s.sc, .int .i64 s.sq, .slice s.Aa s.acts.length s.ca, .slice s.Af s.fl.length s.cf, .slice s.Al s.nl s.cl, .slice s.Ak s.nk s.ck, .int .i64 s.sd] 29)) (fun _ s10 _ => s.acts.length - (intOf s10).toNat)
  case atStart => exact ⟨0, none, 0, [], by omega, rfl, rfl, Lib.hid rfl, Lib.hid (Owned.nil _ _ _ _ _), Lib.hid ((Below.refl _ _).alloc (Nat.le_refl _) _), Lib.hid (CellsAt.new _ _ _)⟩
  case round =>
    obtain ⟨i, A, c, L, hi, rfl, rfl, HL, HO, HB, HX⟩ := hrel
    have X := HX.out
    have x0 : wr.cell? ⟨w.heap.size, 0, none⟩ = some (.slice s.Au s.up.length s.cu) := by rw [X.cell]; rfl
    have x1 : wr.cell? ⟨w.heap.size, 1, none⟩ = some (.int .i64 s.sm) := by rw [X.cell]; rfl
    have x2 : wr.cell? ⟨w.heap.size, 2, none⟩ = some (.int .i64 s.sc) := by rw [X.cell]; rfl
    have x3 : wr.cell? ⟨w.heap.size, 3, none⟩ = some (.int .i64 s.sq) := by rw [X.cell]; rfl
    have x4 : wr.cell? ⟨w.heap.size, 4, none⟩ = some (.slice s.Aa s.acts.length s.ca) := by rw [X.cell]; rfl
    have x5 : wr.cell? ⟨w.heap.size, 5, none⟩ = some (.slice s.Af s.fl.length s.cf) := by rw [X.cell]; rfl
    have x6 : wr.cell? ⟨w.heap.size, 6, none⟩ = some (.slice s.Al s.nl s.cl) := by rw [X.cell]; rfl
    have x7 : wr.cell? ⟨w.heap.size, 7, none⟩ = some (.slice s.Ak s.nk s.ck) := by rw [X.cell]; rfl
    have x8 : wr.cell? ⟨w.heap.size, 8, none⟩ = some (.int .i64 s.sd) := by rw [X.cell]; rfl
    have hgl := X.lt
    have hlen : L.length ≤ i := by rw [HL.out]; exact Nat.le_trans (readyA_len _ _) (by rw [List.length_take]; omega)
    clear X
    by_cases hlt : i < s.acts.length
    · obtain ⟨b, off, haa, hb, hat⟩ := HS.out.acts (by omega)
      obtain ⟨x, hx⟩ : ∃ x, s.acts[i]? = some x := ⟨_, List.getElem?_eq_getElem hlt⟩
      have HX1 := Lib.hid (readyA_snoc (up := s.up) hx)
      have hatx := (hat i x hx).keep (fun o => HB.out.cell (p := ⟨b, o, none⟩) hb)
      have hbr : b < wr.heap.size := Nat.lt_of_lt_of_le hb HB.out.size
      obtain ⟨p0, p2, p7, Am, cm, p8, hm⟩ := hatx
      have hatx : ActAt wr b (off + i * 9) x := ⟨p0, p2, p7, Am, cm, p8, hm⟩
      have HAT := Lib.hid hatx
      have K0 := Lib.hid (fun d os => Calls.regrown_of (ready_any s b (off + i * 9) x (grow (redrawn wr d) os) ((HS.out.belows HB.out).belows (below_regrown wr d os)) (HAT.out.keep (fun o => (below_regrown wr d os).cell (p := ⟨b, o, none⟩) hbr)) (Nat.lt_of_lt_of_le hbr (below_regrown wr d os).size)))
      obtain ⟨g, hg⟩ : ∃ g, readyS s.up x = g := ⟨_, rfl⟩
      rw [hg] at K0 HX1
      have hin : (i : Int) < s.acts.length := by omega
      have m0 := fun d os => cell_regrown x0 d os
      have m1 := fun d os => cell_regrown x1 d os
      have m2 := fun d os => cell_regrown x2 d os
      have m3 := fun d os => cell_regrown x3 d os
      have m4 := fun d os => cell_regrown x4 d os
      have m5 := fun d os => cell_regrown x5 d os
      have m6 := fun d os => cell_regrown x6 d os
      have m7 := fun d os => cell_regrown x7 d os
      have m8 := fun d os => cell_regrown x8 d os
      rw [haa] at m4 K0
      have HAA := Lib.hid haa
      have P0 := Lib.hid p0
      have HB0 : Hid (b < w.heap.size) := Lib.hid hb
      have hst : s.acts.length ≤ 9223372036854775807 := by omega
      clear x0 x1 x2 x3 x4 x5 x6 x7 x8 p0 p2 p7 p8 hatx hx hg haa hat hb
      go_wp2_with fail
      refine wp_region_quiet_below (by kernel_rfl) (by kernel_rfl) ?_
      repeat (go_big_quiet_step (first | with_reducible exact K0.out _ _))
      refine wpQuiet_nil ?_
      intro _ hw'
      obtain ⟨⟨dq, osq⟩, hw''⟩ := hw'
      subst hw''
      clear m0 m1 m2 m3 m4 m5 m6 m7 m8 K0
      have hb1 := below_regrown wr dq osq
      obtain ⟨w1, hw1⟩ : ∃ w1, grow (redrawn wr dq) osq = w1 := ⟨_, rfl⟩
      rw [hw1] at hb1 ⊢
      have HB2 := Lib.hid (HB.out.trans (hb1.mono HB.out.size))
      have HO2 := Lib.hid (HO.out.below hb1)
      have HX2 := Lib.hid (HX.out.keep (Chg.of_below (M := fun _ => False) hb1) (fun h => h))
      have p0 : w1.cell? ⟨b, off + i * 9, none⟩ = some (.string x.path) := (hb1.cell (p := ⟨b, _, none⟩) hbr).trans P0.out
      have hg1 : w.heap.size < w1.heap.size := HX2.out.lt
      clear hw1 hb1 HO HB HX
      cases g with
      | false =>
        have HL2 : Hid (L = readyA s.up (s.acts.take (i + 1))) := Lib.hid (by rw [HX1.out, HL.out]; simp)
        go_wp2_with fail
        exact ⟨⟨i + 1, A, c, L, by omega, by go_num, rfl, HL2, HO2, HB2, HX2⟩, by simp [intOf]; omega⟩
      | true =>
        have HL2 : Hid (L ++ [(x.path, 0, 0)] = readyA s.up (s.acts.take (i + 1))) := Lib.hid (by rw [HX1.out, HL.out]; simp)
        have y4 : w1.cell? ⟨w.heap.size, 4, none⟩ = some (.slice (some ⟨b, off, none⟩) s.acts.length s.ca) := by rw [← HAA.out, HX2.out.cell]; rfl
        have hal : Below w1.heap.size w1 (w1.alloc (.cells #[.string x.path, .int .i64 0, .int .i64 0] 91)) := (Below.refl _ _).alloc (Nat.le_refl _) _
        have HO3 := Lib.hid (HO2.out.below hal)
        have HOB := Lib.hid HO2.out.below_own
        clear hal
        go_wp2_with (at_builtin; refine wp_append_row rowAn infoAn Tryz.underlying57 rfl (by omega) (by omega) rfl _ _ rfl (w.heap.size + 1) ?cx1 (.slice A L.length c) L rfl HO3.out ⟨w1.heap.size, 0, none⟩ 1 (x.path, 0, 0) [.string x.path, .int .i64 0, .int .i64 0] rfl rfl ?cx2 ?cx3 ?cx4 ?_)
        case cx1 => omega
        case cx3 =>
          intro j u hj
          match j with
          | 0 => simp at hj; subst hj; rfl
          | 1 => simp at hj; subst hj; rfl
          | 2 => simp at hj; subst hj; rfl
          | j + 3 => simp at hj
        case cx4 => omega
        intro v' w10 hO10 hg10 hv10
        obtain ⟨A10, c10, rfl, _⟩ := hO10.rd.sl_inv
        have hch : Chg (fun k => w.heap.size < k) w1 w10 := (Chg.of_below ((Below.refl w1.heap.size w1).alloc (Nat.le_refl _) _)).next (Chg.of_grown hg10 (fun k hk => by have := (HOB.out k hk).1; omega))
        have HB10 := Lib.hid (HB2.out.trans (hch.below (by omega) (fun j hj => by omega)))
        have HX10 := Lib.hid (HX2.out.keep hch (by omega))
        have HO10 := Lib.hid hO10
        have HLL : Hid (L.length + 1 = (L ++ [(x.path, 0, 0)]).length) := Lib.hid (by simp)
        generalize L ++ [(x.path, 0, 0)] = L2 at *
        clear hO10 hg10 hv10 hch
        go_wp2_with fail
        exact ⟨⟨i + 1, A10, c10, L2, by omega, by go_num, by rw [HLL.out], HL2, Lib.hid (by have := HO10.out; rw [HLL.out] at this; exact this), HB10, HX10⟩, by simp [intOf]; omega⟩
    · obtain ⟨wo, hwo⟩ : ∃ wo, wo = wr := ⟨_, rfl⟩
      subst hwo
      obtain rfl : i = s.acts.length := by omega
      have HL2 : Hid (L = readyA s.up s.acts) := Lib.hid (by rw [HL.out, List.take_length])
      have HC0 := Lib.hid (HCH.out wo (HS.out.belows HB.out))
      go_wp2_with fail
      (with_reducible refine HC0.out.mono ?_)
      rintro e w2 ⟨A2, c2, rfl, hr2, hb2⟩
      have HR2 := Lib.hid hr2
      have HB2 := Lib.hid (HB.out.trans (hb2.mono HB.out.size))
      have HO2 := Lib.hid (HO.out.below hb2)
      have hz2 := hb2.size
      have HEL : Hid (EL w wo.heap.size w2.heap.size (slG 2 rowC chs) (.slice A2 chs.length c2) w2 (.slice A L.length c)) := Lib.hid ⟨⟨hgl, hz2, Nat.le_refl _⟩, HB2.out, hr2, fun q hq => by have := HO.out.below_own q hq; omega⟩
      clear hr2 hb2 x0 x1 x2 x3 x4 x5 x6 x7 x8 HX HB HO HR2 HB2
      go_wp2_with fail
      go_loopw [3, 33] (fun s3 s33 wq => ∃ (i : Nat) (A' : Option Addr) (c' : Nat) (M : List (ByteArray × Int × Int)), i ≤ chs.length ∧ s33 = .int .i64 i ∧ s3 = .slice A' M.length c' ∧ Hid (M = L ++ chA (chs.take i)) ∧ Hid (Owned (w.heap.size + 1) 91 3 M.length (rowsG rowAn M) wq (.slice A' M.length c')) ∧ Hid (EL w wo.heap.size w2.heap.size (slG 2 rowC chs) (.slice A2 chs.length c2) wq (.slice A' M.length c'))) (fun _ s33 _ => chs.length - (intOf s33).toNat)
      case atStart => exact ⟨0, A, c, L, by omega, rfl, rfl, Lib.hid (by simp [chA]), HO2, HEL⟩
      case round =>
        obtain ⟨i, A', c', M, hi, rfl, rfl, HM, HO, HE⟩ := hrel
        have hmlen : M.length ≤ 2097152 := by rw [HM.out]; simp [chA]; omega
        by_cases hlt2 : i < chs.length
        · obtain ⟨b, off, ch, e, hb, hget, hrow⟩ := slG_at HE.out.rd hlt2
          subst e
          obtain ⟨u0, q0, r0⟩ := hrow 0 (by omega)
          obtain ⟨u1, q1, r1⟩ := hrow 1 (by omega)
          have e0 : u0 = .int .i64 ch.1 := r0
          have e1 : u1 = .int .i64 ch.2 := r1
          subst e0 e1
          rw [Nat.add_zero] at q0
          have HM2 := Lib.hid (chA_snoc hget)
          have hww := HE.out.le
          have hal : Below wr.heap.size wr ((wr.alloc (.cells #[.int .i64 ch.1, .int .i64 ch.2] 95)).alloc (.cells #[.string ⟨#[]⟩, .int .i64 ch.1, .int .i64 ch.2] 91)) := ((Below.refl _ _).alloc (Nat.le_refl _) _).alloc (by simp) _
          have HO3 := Lib.hid (HO.out.below hal)
          have HE3 := Lib.hid (HE.out.below hal)
          clear hal hrow r0 r1 hget
          go_wp2_with (at_builtin; refine wp_append_row rowAn infoAn Tryz.underlying57 rfl (by omega) (by omega) rfl _ _ rfl (w.heap.size + 1) ?cy1 (.slice A' M.length c') M rfl HO3.out ⟨wr.heap.size + 1, 0, none⟩ 1 (⟨#[]⟩, ch.1, ch.2) [.string ⟨#[]⟩, .int .i64 ch.1, .int .i64 ch.2] rfl rfl ?cy2 ?cy3 ?cy4 ?_)
          case cy1 => simp; omega
          case cy2 =>
            intro j u hj
            rw [Addr.add_lit, Nat.zero_add, show wr.heap.size + 1 = (wr.alloc (.cells #[.int .i64 ch.1, .int .i64 ch.2] 95)).heap.size by simp, cell_new]
            exact List.getElem?_toArray.trans hj
          case cy3 =>
            intro j u hj
            match j with
            | 0 => simp at hj; subst hj; rfl
            | 1 => simp at hj; subst hj; rfl
            | 2 => simp at hj; subst hj; rfl
            | j + 3 => simp at hj
          case cy4 => omega
          intro v' w10 hO10 hg10 hv10
          obtain ⟨A10, c10, rfl, _⟩ := hO10.rd.sl_inv
          have HE10 := Lib.hid (HE3.out.step hg10 (fun q hq => by simpa using hv10 q hq))
          have HO10 := Lib.hid hO10
          have HM3 : Hid (M ++ [(⟨#[]⟩, ch.1, ch.2)] = L ++ chA (chs.take (i + 1))) := Lib.hid (by rw [HM2.out, ← List.append_assoc, ← HM.out])
          have HLL : Hid (M.length + 1 = (M ++ [((⟨#[]⟩ : ByteArray), ch.1, ch.2)]).length) := Lib.hid (by simp)
          generalize M ++ [((⟨#[]⟩ : ByteArray), ch.1, ch.2)] = M2 at *
          clear hO10 hg10 hv10 q0 q1
          go_wp2_with fail
          exact ⟨⟨i + 1, A10, c10, M2, by omega, by go_num, by rw [HLL.out], HM3, Lib.hid (by have := HO10.out; rw [HLL.out] at this; exact this), Lib.hid (by have := HE10.out; rw [HLL.out] at this; exact this)⟩, by simp [intOf]; omega⟩
        · obtain rfl : i = chs.length := by omega
          have HM2 : Hid (M = readyA s.up s.acts ++ chA chs) := Lib.hid (by rw [HM.out, HL2.out, List.take_length])
          go_wp2_with fail
          go_ret
          rw [← HM2.out]
          exact ⟨A', c', rfl, HO.out.rd.weaken (fun b hb => ⟨by have := hb.1; omega, hb.2⟩), HE.out.low⟩
end Go.Proofs.YtlbmfgiepcemdaaGreat
namespace Go.Proofs.YtlbmfgiepcemdaaGreat
open Go.RowKit

theorem run_make_rowN {P : Program} (t e : TypeId) (i : TypeInfo) (z : Value) (ht : P.underlying t = some (.slice e)) (hi : P.info? e = some i) (hz : i.zero = some z)
    (kl kc : IntKind) (n c : Nat) (hnc : n ≤ c) (hbytes : i.bytes * c ≤ 281474976710656) (h63 : c ≤ 9223372036854775807) (w : World) :
    (Instr.makeSlice t (.int kl (n : Int)) (.int kc (c : Int))).run P w = .ok (.slice (some ⟨w.heap.size, 0, none⟩) n c) (w.alloc (.cells (madeCells z.cells (c * i.size)) e)) := by
  have hb : (i.bytes : Int) * (c : Int) ≤ 281474976710656 := by
    have h : ((i.bytes * c : Nat) : Int) ≤ 281474976710656 := by omega
    rwa [Int.natCast_mul] at h
  have hr := run_make (P := P) w t e i z ht hi hz kl kc n c (by omega) (by omega) hb (by omega)
  simp only [Int.toNat_natCast] at hr
  exact hr
theorem infoV : (Tryz.prog.info? 35).map (fun i => (i.zero, i.size, i.bytes)) = some (some (.agg #[.int .i64 0, .string ⟨#[]⟩, .int .i64 0, .int .i64 0, .string ⟨#[]⟩, .slice none 0 0]), 6, 80) := by kernel_rfl

set_option maxHeartbeats 1000000 in
theorem copies_any : ∀ (N : Nat) (l : List V), bulkV l ≤ N → N ≤ 2097152 → ∀ (A : Option Addr) (n c : Nat) (w : World), Rd (Lt w.heap.size) w (vs l) (.slice A n c) →
    Calls Tryz.prog 28 #[.slice A n c] w (ClonePost (vs l) w) := by
  intro N
  induction N with
  | zero =>
    intro l hb hN A n c w hr
    obtain ⟨rfl, _⟩ := vs_len hr
    have hz : l = [] := List.eq_nil_of_length_eq_zero (by have := bulkV_len l; omega)
    subst hz
    clear hr hb
    go_enter Tryz.func28, Tryz.ntmps28
    go_wp2_with fail
    go_ret
    exact ⟨.slice none 0 0, rfl, Rd.sl_nil, Below.refl _ _⟩
  | succ N ih =>
    intro l hb hN A n c w hr
    obtain ⟨rfl, hn1, hn2⟩ := vs_len hr
    have hn : l.length ≤ 2097152 := by have := bulkV_len l; omega
    have HR := Lib.hid hr
    by_cases h0 : l.length = 0
    · have hz : l = [] := List.eq_nil_of_length_eq_zero h0
      subst hz
      clear hr ih hb
      go_enter Tryz.func28, Tryz.ntmps28
      go_wp2_with fail
      go_ret
      exact ⟨.slice none 0 0, rfl, Rd.sl_nil, Below.refl _ _⟩
    · have hne : ((l.length : Int) == 0) = false := by rw [beq_eq_false_iff_ne]; omega
      obtain ⟨i0, hi, hz0, hz1, hz2⟩ := info_parts infoV
      have hmk : ∀ W : World, (Instr.makeSlice 33 (.int .i64 (l.length : Int)) (.int .i64 (l.length : Int))).run Tryz.prog W = .ok (.slice (some ⟨W.heap.size, 0, none⟩) l.length l.length) (W.alloc (.cells (madeCells (Value.agg #[.int .i64 0, .string ⟨#[]⟩, .int .i64 0, .int .i64 0, .string ⟨#[]⟩, .slice none 0 0]).cells (l.length * 6)) 35)) := fun W => by
        have := run_make_rowN (P := Tryz.prog) 33 35 i0 _ Tryz.underlying33 hi hz0 .i64 .i64 l.length l.length (Nat.le_refl _) (by rw [hz2]; omega) (by omega) W
        rw [hz1] at this
        exact this
      have HV : Hid (∀ (i : Nat) k t n m s l', l[i]? = some (V.mk k t n m s l') → ∀ W A c, Rd (Lt W.heap.size) W (vs l') (.slice A l'.length c) → Calls Tryz.prog 28 #[.slice A l'.length c] W (ClonePost (vs l') W)) := Lib.hid (fun i k t n m s l' h W A' c' hr' => by
        have hbk := bulkV_get _ _ _ h
        rw [bulk_mk] at hbk
        exact ih l' (by omega) (by omega) A' l'.length c' W hr')
      clear hr ih hb hi hz0 hz1 hz2
      generalize hmd : madeCells (Value.agg #[.int .i64 0, .string ⟨#[]⟩, .int .i64 0, .int .i64 0, .string ⟨#[]⟩, .slice none 0 0]).cells (l.length * 6) = made at hmk
      have hms : made.size = l.length * 6 := by rw [← hmd]; exact size_madeCells _ _
      have HMS := Lib.hid hms
      clear hmd hms
      go_enter Tryz.func28, Tryz.ntmps28
      go_wp2_with fail
      go_loopw [14] (fun i wr => ∃ k : Nat, k ≤ l.length ∧ i = .int .i64 k ∧ Hid (Filled 35 (w.heap.size + 1) w.heap.size 6 l.length k (rowsV l) wr) ∧ Hid (Below w.heap.size w wr)) (fun i _ => l.length - (intOf i).toNat)
      case atStart =>
        refine ⟨0, by omega, rfl, Lib.hid ⟨?_, fun a ha => absurd ha (by omega)⟩, Lib.hid ((Below.refl _ _).alloc (Nat.le_refl _) _)⟩
        rw [← HMS.out]
        exact Blk.new _ _ _
      case round =>
        obtain ⟨k, hk, rfl, HF, HB⟩ := hrel
        by_cases hlt : k < l.length
        · obtain ⟨b, off, kd, t, n', m, s, l', A', c', e, hlb, hget, h2⟩ := vs_at (HR.out.below HB.out (fun _ h => h)) hlt
          subst e
          obtain ⟨c0, c1, c2, c3, c4, c5, r5⟩ := h2
          have hbs := HB.out.size
          have hgl : w.heap.size < wr.heap.size := HF.out.1.lt
          have HC := Lib.hid (HV.out k kd t n' m s l' hget)
          have R5 := Lib.hid (r5.weaken (ok' := Lt wr.heap.size) (fun b hb => Nat.lt_of_lt_of_le hb hbs))
          have HG := Lib.hid hget
          clear r5 hget
          go_wp2_with fail
          (with_reducible refine (HC.out _ A' c' ?_).mono ?_)
          · exact R5.out.allocs _
          rintro e w4 ⟨v4, rfl, hr4, hb4⟩
          obtain ⟨A4, c4', rfl, _⟩ := hr4.sl_inv
          simp only [World.size_alloc] at hr4
          have hx4 : w4.heap[wr.heap.size]? = some (.cells #[.int .i64 kd, .string t, .int .i64 n', .int .i64 m, .string s, .slice A' l'.length c'] 35 (0, 0)) := (hb4.block _ (by simp)).trans (heap_alloc_new wr _)
          have X4 : CellsAt w4 wr.heap.size #[.int .i64 kd, .string t, .int .i64 n', .int .i64 m, .string s, .slice A' l'.length c'] 35 := hx4
          have x0 : w4.cell? ⟨wr.heap.size, 0, none⟩ = some (.int .i64 kd) := by rw [X4.cell]; rfl
          have x1 : w4.cell? ⟨wr.heap.size, 1, none⟩ = some (.string t) := by rw [X4.cell]; rfl
          have x2 : w4.cell? ⟨wr.heap.size, 2, none⟩ = some (.int .i64 n') := by rw [X4.cell]; rfl
          have x3 : w4.cell? ⟨wr.heap.size, 3, none⟩ = some (.int .i64 m) := by rw [X4.cell]; rfl
          have x4 : w4.cell? ⟨wr.heap.size, 4, none⟩ = some (.string s) := by rw [X4.cell]; rfl
          have x5 : w4.cell? ⟨wr.heap.size, 5, none⟩ = some (.slice A' l'.length c') := by rw [X4.cell]; rfl
          have xf := X4.fz
          have hbr : Below wr.heap.size wr (w4.setCell ⟨wr.heap.size, 5, none⟩ (.slice A4 l'.length c4')) := (((Below.refl _ _).alloc (Nat.le_refl _) _).trans (hb4.mono (by simp))).setCell (p := ⟨wr.heap.size, 5, none⟩) (Nat.le_refl _) _
          have F4 := Lib.hid (HF.out.below hbr)
          have B4 := Lib.hid (HB.out.trans (hbr.mono hbs))
          have hr5 : Rd (Bt (wr.heap.size + 1) w4.heap.size) (w4.setCell ⟨wr.heap.size, 5, none⟩ (.slice A4 l'.length c4')) (vs l') (.slice A4 l'.length c4') := hr4.setCell (p := ⟨wr.heap.size, 5, none⟩) (fun b hb => by have := hb.1; show b ≠ wr.heap.size; omega) _
          obtain ⟨w5, hw5⟩ : ∃ w5, w4.setCell ⟨wr.heap.size, 5, none⟩ (.slice A4 l'.length c4') = w5 := ⟨_, rfl⟩
          have hz5 : w5.heap.size = w4.heap.size := by rw [← hw5, size_setCell]
          have X5 : CellsAt w5 wr.heap.size #[.int .i64 kd, .string t, .int .i64 n', .int .i64 m, .string s, .slice A4 l'.length c4'] 35 := by
            have := X4.set 5 (.slice A4 l'.length c4')
            rw [hw5] at this
            simpa using this
          have y0 : w5.cell? ⟨wr.heap.size, 0, none⟩ = some (.int .i64 kd) := by rw [X5.cell]; rfl
          have y1 : w5.cell? ⟨wr.heap.size, 1, none⟩ = some (.string t) := by rw [X5.cell]; rfl
          have y2 : w5.cell? ⟨wr.heap.size, 2, none⟩ = some (.int .i64 n') := by rw [X5.cell]; rfl
          have y3 : w5.cell? ⟨wr.heap.size, 3, none⟩ = some (.int .i64 m) := by rw [X5.cell]; rfl
          have y4 : w5.cell? ⟨wr.heap.size, 4, none⟩ = some (.string s) := by rw [X5.cell]; rfl
          have y5 : w5.cell? ⟨wr.heap.size, 5, none⟩ = some (.slice A4 l'.length c4') := by rw [X5.cell]; rfl
          rw [hw5] at F4 B4 hr5
          have f0 := F4.out.1.frozen
          have h4s := fun j (hj : j < l.length * 6) => F4.out.1.some hj
          obtain ⟨u0, hu0⟩ : ∃ u, w5.cell? ⟨w.heap.size, k * 6, none⟩ = some u := Option.isSome_iff_exists.1 (h4s (k * 6) (by omega))
          obtain ⟨u1, hu1⟩ : ∃ u, w5.cell? ⟨w.heap.size, k * 6 + 1, none⟩ = some u := Option.isSome_iff_exists.1 (h4s (k * 6 + 1) (by omega))
          obtain ⟨u2, hu2⟩ : ∃ u, w5.cell? ⟨w.heap.size, k * 6 + 2, none⟩ = some u := Option.isSome_iff_exists.1 (h4s (k * 6 + 2) (by omega))
          obtain ⟨u3, hu3⟩ : ∃ u, w5.cell? ⟨w.heap.size, k * 6 + 3, none⟩ = some u := Option.isSome_iff_exists.1 (h4s (k * 6 + 3) (by omega))
          obtain ⟨u4, hu4⟩ : ∃ u, w5.cell? ⟨w.heap.size, k * 6 + 4, none⟩ = some u := Option.isSome_iff_exists.1 (h4s (k * 6 + 4) (by omega))
          obtain ⟨u5, hu5⟩ : ∃ u, w5.cell? ⟨w.heap.size, k * 6 + 5, none⟩ = some u := Option.isSome_iff_exists.1 (h4s (k * 6 + 5) (by omega))
          have HS : Hid (Filled 35 (w.heap.size + 1) w.heap.size 6 l.length (k + 1) (rowsV l) (w5.setCells w.heap.size (k * 6) [.int .i64 kd, .string t, .int .i64 n', .int .i64 m, .string s, .slice A4 l'.length c4'])) := Lib.hid (F4.out.step (by omega) hlt rfl (fun j u hj => by
            rw [rowsV_get l k _ HG.out]
            exact cells_rdV (hr5.weaken (fun b hb => ⟨by have := hb.1; omega, by have := hb.2; omega⟩)) j u hj))
          have HT : Hid (Below w.heap.size w (w5.setCells w.heap.size (k * 6) [.int .i64 kd, .string t, .int .i64 n', .int .i64 m, .string s, .slice A4 l'.length c4'])) := Lib.hid (below_setCells _ (Nat.le_refl _) _ _ B4.out)
          clear h4s hb4 hr4 hbr hr5 X4 X5 hx4 hz5
          go_wp2_with fail
          exact ⟨⟨k + 1, by omega, by go_num, HS, HT⟩, by simp [intOf]; omega⟩
        · obtain rfl : k = l.length := by omega
          go_wp2_with fail
          go_ret
          exact ⟨_, rfl, (HF.out.done (by omega) w.heap.size (Nat.le_refl _) (by omega)).rd, HB.out⟩
theorem copies_of {l : List V} {A : Option Addr} {n c : Nat} {w : World} (hb : bulkV l ≤ 2097152) (hr : Rd (Lt w.heap.size) w (vs l) (.slice A n c)) :
    Calls Tryz.prog 28 #[.slice A n c] w (ClonePost (vs l) w) := copies_any (bulkV l) l (Nat.le_refl _) hb A n c w hr
end Go.Proofs.YtlbmfgiepcemdaaGreat
