/- ref20.Enabled: how many actions. Conditions: those in each statement. -/
import Derived.Test.YtlbmfgiepcemdaaGreatYR20I
import Derived.Test.YtlbmfgiepcemdaaGreatYNorm
namespace Go.Proofs.YtlbmfgiepcemdaaGreat
open Go.RowKit Go.Sort

/-- the actors' cells are all there -/
def ActsW (ok : Nat → Prop) (w : World) (s : Sys) : Prop := 0 < s.acts.length → ∃ b off, s.Aa = some ⟨b, off, none⟩ ∧ ok b ∧ ∀ i, i < s.acts.length → ∀ j, j < 9 → ∃ v, w.cell? ⟨b, off + i * 9 + j, none⟩ = some v
theorem insS_ne (l : List (Int × Int)) (c : Int × Int) : insS l c ≠ [] := fun h => by
  have := (insS_mem c c l).2 (.inl rfl)
  rw [h] at this
  cases this
theorem insS_le (c : Int × Int) : ∀ l, (insS l c).length ≤ l.length + 1
  | [] => by rw [insS]; simp
  | a :: l => by
    rw [insS]
    split
    · have := insS_le c l
      rw [List.length_cons, List.length_cons]; omega
    · split
      · omega
      · simp
theorem fold_snoc {l : List (Int × Int)} {i : Nat} {c : Int × Int} (h : l[i]? = some c) : (l.take (i + 1)).foldl insS [] = insS ((l.take i).foldl insS []) c := by
  rw [List.take_add_one, h, List.foldl_append]; rfl
theorem fold_le : ∀ (fl l : List (Int × Int)), (fl.foldl insS l).length ≤ l.length + fl.length
  | [], l => by simp
  | c :: fl, l => by
    rw [List.foldl_cons]
    have h1 := fold_le fl (insS l c)
    have h2 := insS_le c l
    rw [List.length_cons]; omega
set_option maxHeartbeats 4000000 in
set_option maxRecDepth 100000 in
theorem enabled20_any (s : Sys) (w : World) (hs : SysAt (Lt w.heap.size) w s) (hw : ActsW (Lt w.heap.size) w s) (hl : s.acts.length ≤ 1048576) (hc : s.fl.length ≤ 1048576) :
    Calls Tryz.prog 30 #[.agg #[.slice s.Au s.up.length s.cu, .int .i64 s.sm, .int .i64 s.sc, .int .i64 s.sq, .slice s.Aa s.acts.length s.ca, .slice s.Af s.fl.length s.cf, .slice s.Al s.nl s.cl, .slice s.Ak s.nk s.ck, .int .i64 s.sd]] w (EnPost ((readyA s.up s.acts).length + (s.fl.foldl insS []).length) w) := by
  have HS := Lib.hid hs
  have HW := Lib.hid hw
  clear hs hw
  go_enter Tryz.func30, Tryz.ntmps30
  go_wp2_with fail
  go_loopw [3, 4] (fun s3 s4 wr => ∃ (i : Nat) (A : Option Addr) (c : Nat) (L : List (ByteArray × Int × Int)), i ≤ s.acts.length ∧ s4 = .int .i64 i ∧ s3 = .slice A L.length c ∧ Hid (L = readyA s.up (s.acts.take i)) ∧ Hid (Owned (w.heap.size + 1) 91 3 L.length (rowsG rowAn L) wr (.slice A L.length c)) ∧ Hid (Below w.heap.size w wr) ∧ Hid (CellsAt wr w.heap.size #[.slice s.Au s.up.length s.cu, .int .i64 s.sm, .int .i64 s.sc, .int .i64 s.sq, .slice s.Aa s.acts.length s.ca, .slice s.Af s.fl.length s.cf, .slice s.Al s.nl s.cl, .slice s.Ak s.nk s.ck, .int .i64 s.sd] 29)) (fun _ s4 _ => s.acts.length - (intOf s4).toNat)
  case atStart => exact ⟨0, none, 0, [], by omega, rfl, rfl, Lib.hid rfl, Lib.hid (Owned.nil _ _ _ _ _), Lib.hid ((Below.refl _ _).alloc (Nat.le_refl _) _), Lib.hid (CellsAt.new _ _ _)⟩
  case round =>
    obtain ⟨i, A, c, L, hi, rfl, rfl, HL, HO, HB, HX⟩ := hrel
    have X := HX.out
    have x0 : wr.cell? ⟨w.heap.size, 0, none⟩ = some (.slice s.Au s.up.length s.cu) := by rw [X.cell]; rfl
    have x1 : wr.cell? ⟨w.heap.size, 1, none⟩ = some (.int .i64 s.sm) := by rw [X.cell]; rfl
    have x2 : wr.cell? ⟨w.heap.size, 2, none⟩ = some (.int .i64 s.sc) := by rw [X.cell]; rfl
    have x3 : wr.cell? ⟨w.heap.size, 3, none⟩ = some (.int .i64 s.sq) := by rw [X.cell]; rfl
    have x4 : wr.cell? ⟨w.heap.size, 4, none⟩ = some (.slice s.Aa s.acts.length s.ca) := by rw [X.cell]; rfl
    have x5 : wr.cell? ⟨w.heap.size, 5, none⟩ = some (.slice s.Af s.fl.length s.cf) := by rw [X.cell]; rfl
    have x6 : wr.cell? ⟨w.heap.size, 6, none⟩ = some (.slice s.Al s.nl s.cl) := by rw [X.cell]; rfl
    have x7 : wr.cell? ⟨w.heap.size, 7, none⟩ = some (.slice s.Ak s.nk s.ck) := by rw [X.cell]; rfl
    have x8 : wr.cell? ⟨w.heap.size, 8, none⟩ = some (.int .i64 s.sd) := by rw [X.cell]; rfl
    have hgl := X.lt
    have hlen : L.length ≤ i := by rw [HL.out]; exact Nat.le_trans (readyA_len _ _) (by rw [List.length_take]; omega)
    clear X
    by_cases hlt : i < s.acts.length
    · obtain ⟨b, off, haa, hb, hat⟩ := HS.out.acts (by omega)
      obtain ⟨x, hx⟩ : ∃ x, s.acts[i]? = some x := ⟨_, List.getElem?_eq_getElem hlt⟩
      have HX1 := Lib.hid (readyA_snoc (up := s.up) hx)
      have hatx := (hat i x hx).keep (fun o => HB.out.cell (p := ⟨b, o, none⟩) hb)
      have hbr : b < wr.heap.size := Nat.lt_of_lt_of_le hb HB.out.size
      obtain ⟨p0, p2, p7, Am, cm, p8, hm⟩ := hatx
      obtain ⟨bw, ow, haw, hbw, hcw⟩ := HW.out (by omega)
      rw [haa] at haw
      cases haw
      obtain ⟨v1, p1⟩ := hcw i hlt 1 (by omega)
      obtain ⟨v3, p3⟩ := hcw i hlt 3 (by omega)
      obtain ⟨v4, p4⟩ := hcw i hlt 4 (by omega)
      obtain ⟨v5, p5⟩ := hcw i hlt 5 (by omega)
      obtain ⟨v6, p6⟩ := hcw i hlt 6 (by omega)
      have p1 := (HB.out.cell (p := ⟨b, _, none⟩) hb).trans p1
      have p3 := (HB.out.cell (p := ⟨b, _, none⟩) hb).trans p3
      have p4 := (HB.out.cell (p := ⟨b, _, none⟩) hb).trans p4
      have p5 := (HB.out.cell (p := ⟨b, _, none⟩) hb).trans p5
      have p6 := (HB.out.cell (p := ⟨b, _, none⟩) hb).trans p6
      have K0 := Lib.hid (fun d os => Calls.regrown_of (ready20_any s x v1 v3 v4 v5 v6 Am cm (grow (redrawn wr d) os) ((HS.out.belows HB.out).belows (below_regrown wr d os))))
      obtain ⟨g, hg⟩ : ∃ g, readyS s.up x = g := ⟨_, rfl⟩
      rw [hg] at K0 HX1
      have hin : (i : Int) < s.acts.length := by omega
      have m0 := fun d os => cell_regrown x0 d os
      have m1 := fun d os => cell_regrown x1 d os
      have m2 := fun d os => cell_regrown x2 d os
      have m3 := fun d os => cell_regrown x3 d os
      have m4 := fun d os => cell_regrown x4 d os
      have m5 := fun d os => cell_regrown x5 d os
      have m6 := fun d os => cell_regrown x6 d os
      have m7 := fun d os => cell_regrown x7 d os
      have m8 := fun d os => cell_regrown x8 d os
      have l0 := fun d os => cell_regrown p0 d os
      have l1 := fun d os => cell_regrown p1 d os
      have l2 := fun d os => cell_regrown p2 d os
      have l3 := fun d os => cell_regrown p3 d os
      have l4 := fun d os => cell_regrown p4 d os
      have l5 := fun d os => cell_regrown p5 d os
      have l6 := fun d os => cell_regrown p6 d os
      have l7 := fun d os => cell_regrown p7 d os
      have l8 := fun d os => cell_regrown p8 d os
      rw [haa] at m4 K0
      have HAA := Lib.hid haa
      have P0 := Lib.hid p0
      have HB0 : Hid (b < w.heap.size) := Lib.hid hb
      have hst : s.acts.length ≤ 9223372036854775807 := by omega
      clear x0 x1 x2 x3 x5 x6 x7 x8 p0 p1 p2 p3 p4 p5 p6 p7 p8 hx hg haa hat hb hcw
      go_wp2_with fail
      refine wp_region_quiet_below (by kernel_rfl) (by kernel_rfl) ?_
      repeat (go_big_quiet_step (first | with_reducible exact K0.out _ _))
      refine wpQuiet_nil ?_
      intro _ hw'
      obtain ⟨⟨dq, osq⟩, hw''⟩ := hw'
      subst hw''
      clear x4 m0 m1 m2 m3 m4 m5 m6 m7 m8 l0 l1 l2 l3 l4 l5 l6 l7 l8 K0
      have hb1 := below_regrown wr dq osq
      obtain ⟨w1, hw1⟩ : ∃ w1, grow (redrawn wr dq) osq = w1 := ⟨_, rfl⟩
      rw [hw1] at hb1 ⊢
      have HB2 := Lib.hid (HB.out.trans (hb1.mono HB.out.size))
      have HO2 := Lib.hid (HO.out.below hb1)
      have HX2 := Lib.hid (HX.out.keep (Chg.of_below (M := fun _ => False) hb1) (fun h => h))
      have p0 : w1.cell? ⟨b, off + i * 9, none⟩ = some (.string x.path) := (hb1.cell (p := ⟨b, _, none⟩) hbr).trans P0.out
      have hg1 : w.heap.size < w1.heap.size := HX2.out.lt
      clear hw1 hb1 HO HB HX
      cases g with
      | false =>
        have HL2 : Hid (L = readyA s.up (s.acts.take (i + 1))) := Lib.hid (by rw [HX1.out, HL.out]; simp)
        go_wp2_with fail
        exact ⟨⟨i + 1, A, c, L, by omega, by go_num, rfl, HL2, HO2, HB2, HX2⟩, by simp [intOf]; omega⟩
      | true =>
        have HL2 : Hid (L ++ [(x.path, 0, 0)] = readyA s.up (s.acts.take (i + 1))) := Lib.hid (by rw [HX1.out, HL.out]; simp)
        have y4 : w1.cell? ⟨w.heap.size, 4, none⟩ = some (.slice (some ⟨b, off, none⟩) s.acts.length s.ca) := by rw [← HAA.out, HX2.out.cell]; rfl
        have hal : Below w1.heap.size w1 (w1.alloc (.cells #[.string x.path, .int .i64 0, .int .i64 0] 91)) := (Below.refl _ _).alloc (Nat.le_refl _) _
        have HO3 := Lib.hid (HO2.out.below hal)
        have HOB := Lib.hid HO2.out.below_own
        clear hal
        go_wp2_with (at_builtin; refine wp_append_row rowAn infoAn Tryz.underlying57 rfl (by omega) (by omega) rfl _ _ rfl (w.heap.size + 1) ?cx1 (.slice A L.length c) L rfl HO3.out ⟨w1.heap.size, 0, none⟩ 1 (x.path, 0, 0) [.string x.path, .int .i64 0, .int .i64 0] rfl rfl ?cx2 ?cx3 ?cx4 ?_)
        case cx1 => omega
        case cx3 =>
          intro j u hj
          match j with
          | 0 => simp at hj; subst hj; rfl
          | 1 => simp at hj; subst hj; rfl
          | 2 => simp at hj; subst hj; rfl
          | j + 3 => simp at hj
        case cx4 => omega
        intro v' w10 hO10 hg10 hv10
        obtain ⟨A10, c10, rfl, _⟩ := hO10.rd.sl_inv
        have hch : Chg (fun k => w.heap.size < k) w1 w10 := (Chg.of_below ((Below.refl w1.heap.size w1).alloc (Nat.le_refl _) _)).next (Chg.of_grown hg10 (fun k hk => by have := (HOB.out k hk).1; omega))
        have HB10 := Lib.hid (HB2.out.trans (hch.below (by omega) (fun j hj => by omega)))
        have HX10 := Lib.hid (HX2.out.keep hch (by omega))
        have HO10 := Lib.hid hO10
        have HLL : Hid (L.length + 1 = (L ++ [(x.path, 0, 0)]).length) := Lib.hid (by simp)
        generalize L ++ [(x.path, 0, 0)] = L2 at *
        clear hO10 hg10 hv10 hch
        go_wp2_with fail
        exact ⟨⟨i + 1, A10, c10, L2, by omega, by go_num, by rw [HLL.out], HL2, Lib.hid (by have := HO10.out; rw [HLL.out] at this; exact this), HB10, HX10⟩, by simp [intOf]; omega⟩
    · obtain ⟨wo, hwo⟩ : ∃ wo, wo = wr := ⟨_, rfl⟩
      subst hwo
      obtain rfl : i = s.acts.length := by omega
      have HL2 : Hid (L = readyA s.up s.acts) := Lib.hid (by rw [HL.out, List.take_length])
      have hins : ¬ ((s.acts.length : Int) < s.acts.length) := by omega
      have hz2 := HB.out.size
      have HX0 := Lib.hid (show CellsAt wo w.heap.size #[.slice s.Au s.up.length s.cu, .int .i64 s.sm, .int .i64 s.sc, .int .i64 s.sq, .slice s.Aa s.acts.length s.ca, .slice s.Af s.fl.length s.cf, .slice s.Al s.nl s.cl, .slice s.Ak s.nk s.ck, .int .i64 s.sd] 29 from HX.out)
      clear HX x0 x1 x2 x3 x5 x6 x7 x8
      go_wp2_with fail
      clear x4
      go_loopw [6, 7] (fun s6 s7 wr => ∃ (j : Nat) (A' : Option Addr) (c' : Nat) (M : List (Int × Int)), j ≤ s.fl.length ∧ s7 = .int .i64 j ∧ s6 = .slice A' M.length c' ∧ Hid (M = (s.fl.take j).foldl insS []) ∧ Hid (M = [] → A' = none ∧ c' = 0) ∧ Hid (Rd (Lt wr.heap.size) wr (slG 3 rowAn (chA M)) (.slice A' M.length c')) ∧ Hid (Below wo.heap.size wo wr)) (fun _ s7 _ => s.fl.length - (intOf s7).toNat)
      case atStart => exact ⟨0, none, 0, [], by omega, rfl, rfl, Lib.hid rfl, Lib.hid (fun _ => ⟨rfl, rfl⟩), Lib.hid Rd.sl_nil, Lib.hid (Below.refl _ _)⟩
      case round =>
        obtain ⟨j, A', c', M, hj, rfl, rfl, HM, HA, HR, HB2⟩ := hrel
        have HX2 := Lib.hid (HX0.out.keep (Chg.of_below (M := fun _ => False) HB2.out) (fun h => h))
        have x5 : wr.cell? ⟨w.heap.size, 5, none⟩ = some (.slice s.Af s.fl.length s.cf) := by rw [HX2.out.cell]; rfl
        have hml : M.length ≤ j := by
          rw [HM.out]
          have := fold_le (s.fl.take j) []
          rw [List.length_take] at this
          simp at this; omega
        by_cases hlt : j < s.fl.length
        · obtain ⟨b, off, haf, hb, hat⟩ := HS.out.fl (by omega)
          obtain ⟨x, hx⟩ : ∃ x, s.fl[j]? = some x := ⟨_, List.getElem?_eq_getElem hlt⟩
          obtain ⟨p0, p1⟩ := hat j x hx
          have hbo : b < wo.heap.size := Nat.lt_of_lt_of_le hb hz2
          have p0 := (HB2.out.cell (p := ⟨b, _, none⟩) hbo).trans ((HB.out.cell (p := ⟨b, _, none⟩) hb).trans p0)
          have p1 := (HB2.out.cell (p := ⟨b, _, none⟩) hbo).trans ((HB.out.cell (p := ⟨b, _, none⟩) hb).trans p1)
          have hbr : b < wr.heap.size := Nat.lt_of_lt_of_le hbo HB2.out.size
          have HM2 := Lib.hid (fold_snoc hx)
          rw [haf] at x5
          have hji : (j : Int) < s.fl.length := by omega
          have hsl : s.fl.length ≤ 9223372036854775807 := by omega
          have hml2 : M.length ≤ 1048576 := by omega
          obtain ⟨f, t⟩ := x
          dsimp only at p0 p1
          have hgr : w.heap.size < wr.heap.size := HX2.out.lt
          have HRD : Hid (Rd (Lt wr.drew.heap.size) wr.drew (slG 3 rowAn (chA M)) (.slice A' M.length c')) := Lib.hid (HR.out.belows (below_drewN (Below.refl _ wr) 1))
          have HBD : Hid (Below wo.heap.size wo wr.drew) := Lib.hid (HB2.out.trans ((below_drewN (Below.refl _ wr) 1).mono HB2.out.size))
          have hgd : w.heap.size < wr.drew.heap.size := hgr
          have hbd : b < wr.drew.heap.size := hbr
          clear hat haf hx HR HX2 hgr hbr
          go_wp2_with fail
          go_region_held3 (fun w' => w'.cell? ⟨w.heap.size, 5, none⟩ = some (.slice (some ⟨b, off, none⟩) s.fl.length s.cf) ∧ w'.cell? ⟨b, off + j * 7, none⟩ = some (.int .i64 f) ∧ w'.cell? ⟨b, off + j * 7 + 1, none⟩ = some (.int .i64 t))
            (first | go_keep)
            (first
              | (go_at_call 60; go_loud ((refine (insert_any M A' c' (f, t) _ hml2 HA.out HRD.out).mono ?_); rintro e w4 ⟨A4, c4, rfl, hr4, hb4⟩; have z5 : w4.cell? ⟨w.heap.size, 5, none⟩ = some (.slice (some ⟨b, off, none⟩) s.fl.length s.cf) := ((hb4.cell (p := ⟨w.heap.size, 5, none⟩) hgd).trans x5); have z0 : w4.cell? ⟨b, off + j * 7, none⟩ = some (.int .i64 f) := ((hb4.cell (p := ⟨b, _, none⟩) hbd).trans p0); have z1 : w4.cell? ⟨b, off + j * 7 + 1, none⟩ = some (.int .i64 t) := ((hb4.cell (p := ⟨b, _, none⟩) hbd).trans p1); have HR4 := Lib.hid hr4; have HB4 := Lib.hid (HBD.out.trans (hb4.mono HBD.out.size)); clear hr4 hb4)))
          all_goals (
            have HM3 : Hid (insS M (f, t) = (s.fl.take (j + 1)).foldl insS []) := Lib.hid (by rw [HM2.out, HM.out])
            have HA3 : Hid (insS M (f, t) = [] → A4 = none ∧ c4 = 0) := Lib.hid (fun h => absurd h (insS_ne _ _))
            generalize insS M (f, t) = M2 at *
            go_wp2_with fail
            exact ⟨⟨j + 1, A4, c4, M2, by omega, by go_num, rfl, HM3, HA3, HR4, HB4⟩, by simp [intOf]; omega⟩)
        · obtain rfl : j = s.fl.length := by omega
          have hji : ¬ ((s.fl.length : Int) < s.fl.length) := by omega
          have HM2 : Hid (M = s.fl.foldl insS []) := Lib.hid (by rw [HM.out, List.take_length])
          have HO2 := Lib.hid (HO.out.below HB2.out)
          have hlen2 : L.length ≤ 1048576 := by omega
          have HF : Hid (∀ w', Below w.heap.size w w' → ∀ A c, EnPost ((readyA s.up s.acts).length + (s.fl.foldl insS []).length) w (.returned (.slice A (L.length + M.length) c)) w') := Lib.hid (fun w' h A c => ⟨A, c, by rw [← HL2.out, ← HM2.out], h⟩)
          have HBW := Lib.hid (HB.out.trans (HB2.out.mono hz2))
          have hwz := HBW.out.size
          have hwz2 := HB2.out.size
          have HSRC : Hid (0 < M.length → ∃ b off, A' = some ⟨b, off, none⟩ ∧ ∀ i, i < M.length → RdRow (fun q => Bt (w.heap.size + 1) wr.heap.size q ∧ some q ≠ (Value.slice A L.length c).ownBlock) wr b (off + i * 3) 3 (rowsG rowAn (chA M) i)) := Lib.hid (fun hm => by
            obtain ⟨b, off, x0, e, hb, hx0, _⟩ := slG_at HR.out hm
            refine ⟨b, off, e, fun i hi => ?_⟩
            obtain ⟨b', off', x1, e', hb', hx1, hrd⟩ := slG_at HR.out hi
            rw [e] at e'
            cases e'
            rw [rowsG_get hx1]
            exact (rowAn_read hrd).2.2.2)
          clear HM HA HL2
          go_wp2_with (at_builtin; go_loud (refine wp_append_rows infoAn Tryz.underlying57 rfl (by omega) (by omega) rfl _ _ rfl (w.heap.size + 1) (by have := HX2.out.lt; omega) (.slice A L.length c) L.length (rowsG rowAn L) rfl HO2.out M.length _ _ (rowsG rowAn (chA M)) (rowsG rowAn (L ++ chA M)) rfl HSRC.out (fun a ha => rowsAn_app _ _ _ ha) (fun i j hi _ => congrFun (rowsAn_app2 _ _ _ _ rfl (by rw [chA_len]; exact hi)) j) (by omega) ?_))
          intro v' w10 hO10 hg10 hv10
          obtain ⟨A10, c10, rfl, _⟩ := hO10.rd.sl_inv
          have HF2 := Lib.hid (HF.out w10 (HBW.out.grown hg10 hwz (fun k hk => by have := HO2.out.below_own k (by simpa using hk); omega)) A10 c10)
          clear hO10 hg10 hv10 HF
          go_wp2_with fail
          go_ret
          exact HF2.out
end Go.Proofs.YtlbmfgiepcemdaaGreat
