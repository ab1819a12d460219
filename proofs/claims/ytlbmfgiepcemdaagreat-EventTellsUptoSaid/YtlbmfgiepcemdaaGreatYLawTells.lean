/- retroactlaw23.EventTells returns true. Conditions: those in each statement. -/
import Derived.Test.YtlbmfgiepcemdaaGreatYSmEv
import Derived.Test.YtlbmfgiepcemdaaGreatYFew
import Derived.Test.YtlbmfgiepcemdaaGreatYAppMR23D
import Derived.Test.YtlbmfgiepcemdaaGreatYR23M
import Derived.Test.YtlbmfgiepcemdaaGreatYR20E
import Derived.Test.YtlbmfgiepcemdaaGreatYChKeyChSrtChan
import Derived.Test.YtlbmfgiepcemdaaGreatYEvAllSchedAppG
namespace Go.Proofs.YtlbmfgiepcemdaaGreat
open Go.RowKit

theorem ActsW.belows {s : Sys} {w w' : World} (h : ActsW (Lt w.heap.size) w s) (hb : Below w.heap.size w w') : ActsW (Lt w'.heap.size) w' s := fun h0 => by
  obtain ⟨b, off, e, hlt, hc⟩ := h h0
  refine ⟨b, off, e, Nat.lt_of_lt_of_le hlt hb.size, fun i hi j hj => ?_⟩
  obtain ⟨v, hv⟩ := hc i hi j hj
  exact ⟨v, (hb.cell (p := ⟨b, _, none⟩) hlt).trans hv⟩
theorem few_len {l : List Ev} (h : fewS l = true) : l.length ≤ 200 := by
  unfold fewS at h
  have h := of_decide_eq_true h
  rw [List.take_of_length_le (by omega)] at h
  exact h.1
/-- how many actions there are -/
def actN (s : Sys) : Nat := (readyA s.up s.acts).length + (s.fl.foldl insS []).length
theorem enabled_len (s : Sys) (W : World) (hs : SysAt (Lt W.heap.size) W s) (ha : s.acts.length ≤ 1048576) (hf : s.fl.length ≤ 1048576) : Calls Tryz.prog 29 #[.agg #[.slice s.Au s.up.length s.cu, .int .i64 s.sm, .int .i64 s.sc, .int .i64 s.sq, .slice s.Aa s.acts.length s.ca, .slice s.Af s.fl.length s.cf, .slice s.Al s.nl s.cl, .slice s.Ak s.nk s.ck, .int .i64 s.sd]] W (EnPost (actN s) W) := by
  have hl : (chS s.fl).length ≤ s.fl.length := by
    rw [chS_len]
    have := fold_le s.fl []
    simpa using this
  refine (enabled_of s (chS s.fl) W hs ha (by omega) (fun W' h => channels_any s W' h hf)).mono ?_
  rintro e w' ⟨A, c, rfl, _, hb⟩
  refine ⟨A, c, ?_, hb⟩
  unfold actN
  rw [List.length_append, chA_len, chS_len]
/-- the system's box -/
structure TS (s : Sys) (w W : World) : Prop where
  low : Below w.heap.size w W
  x : CellsAt W w.heap.size #[.slice s.Au s.up.length s.cu, .int .i64 s.sm, .int .i64 s.sc, .int .i64 s.sq, .slice s.Aa s.acts.length s.ca, .slice s.Af s.fl.length s.cf, .slice s.Al s.nl s.cl, .slice s.Ak s.nk s.ck, .int .i64 s.sd] 29
theorem TS.below {s : Sys} {w W W' : World} (h : TS s w W) (hb : Below W.heap.size W W') : TS s w W' :=
  ⟨h.low.trans (hb.mono (by have := h.x.lt; omega)), h.x.keep (Chg.of_below (M := fun _ => False) hb) (fun h => h)⟩
set_option maxHeartbeats 8000000 in
set_option maxRecDepth 100000 in
theorem law_tells (l : List Ev) (s' : ByteArray) (s : Sys) (A : Option Addr) (n c : Nat) (w : World) (hz : FineL l) (hs : s'.size ≤ 9223372036854775807) (hsys : SysAt (Lt w.heap.size) w s) (hact : ActsW (Lt w.heap.size) w s) (hr : Rd (Lt w.heap.size) w (slEv l) (.slice A n c)) :
    Calls Tryz.prog 3 #[.slice A n c, .string s', .agg #[.slice s.Au s.up.length s.cu, .int .i64 s.sm, .int .i64 s.sc, .int .i64 s.sq, .slice s.Aa s.acts.length s.ca, .slice s.Af s.fl.length s.cf, .slice s.Al s.nl s.cl, .slice s.Ak s.nk s.ck, .int .i64 s.sd]] w fun e w' => e = .returned (.bool true) ∧ Below w.heap.size w w' := by
  obtain ⟨rfl, hn1, hn2⟩ := slEv_len hr
  have HR := Lib.hid hr
  have HZ := Lib.hid hz
  have HS := Lib.hid hsys
  have HW := Lib.hid hact
  have HF := Lib.hid (fun W (h : Rd (Lt W.heap.size) W (slEv l) (.slice A l.length c)) => few_any l A l.length c W (fun x hx => (HZ.out x hx).1) h)
  obtain ⟨g, hg⟩ : ∃ g, fewS l = g := ⟨_, rfl⟩
  rw [hg] at HF
  have HG := Lib.hid hg
  have X0 : Hid (TS s w (w.alloc (.cells #[.slice s.Au s.up.length s.cu, .int .i64 s.sm, .int .i64 s.sc, .int .i64 s.sq, .slice s.Aa s.acts.length s.ca, .slice s.Af s.fl.length s.cf, .slice s.Al s.nl s.cl, .slice s.Ak s.nk s.ck, .int .i64 s.sd] 29))) := Lib.hid ⟨(Below.refl _ _).alloc (Nat.le_refl _) _, CellsAt.new _ _ _⟩
  clear hr hz hg hsys hact
  go_enter Tryz.func3, Tryz.ntmps3
  go_wp2_with fail
  (with_reducible refine (small_ev _).mono ?_)
  rintro e w1 ⟨rfl, hb1⟩
  have X1 := Lib.hid (X0.out.below hb1)
  clear hb1 X0
  go_wp2_with fail
  (with_reducible refine (HF.out _ (HR.out.belows X1.out.low)).mono ?_)
  rintro e w2 ⟨rfl, hb2⟩
  have X2 := Lib.hid (X1.out.below hb2)
  clear hb2 X1 HF
  cases g with
  | false =>
    go_wp2_with fail
    go_ret
    exact ⟨rfl, X2.out.low⟩
  | true =>
    have hl200 := few_len HG.out
    by_cases hbig : 3000 < s'.size
    · have hbi : (3000 : Int) < s'.size := by omega
      go_wp2_with fail
      go_ret
      exact ⟨rfl, X2.out.low⟩
    have hbi : ¬ (3000 : Int) < s'.size := by omega
    have x4 : w2.cell? ⟨w.heap.size, 4, none⟩ = some (.slice s.Aa s.acts.length s.ca) := by rw [X2.out.x.cell]; rfl
    have x5 : w2.cell? ⟨w.heap.size, 5, none⟩ = some (.slice s.Af s.fl.length s.cf) := by rw [X2.out.x.cell]; rfl
    by_cases ha100 : 100 < s.acts.length
    · have hai : (100 : Int) < s.acts.length := by omega
      go_wp2_with fail
      go_ret
      exact ⟨rfl, X2.out.low⟩
    have hai : ¬ (100 : Int) < s.acts.length := by omega
    by_cases hf100 : 100 < s.fl.length
    · have hfi : (100 : Int) < s.fl.length := by omega
      go_wp2_with fail
      go_ret
      exact ⟨rfl, X2.out.low⟩
    have hfi : ¬ (100 : Int) < s.fl.length := by omega
    go_wp2_with fail
    clear x4 x5
    have hnact : actN s ≤ 200 := by
      unfold actN
      have h1 := readyA_len s.up s.acts
      have h2 := fold_le s.fl []
      simp at h2
      omega
    go_loopw [8] (fun s8 wr => ∃ i : Nat, i ≤ l.length ∧ s8 = .int .i64 i ∧ Hid (TS s w wr)) (fun s8 _ => l.length - (intOf s8).toNat)
    case atStart => exact ⟨0, by omega, rfl, X2⟩
    case round =>
      clear X2
      obtain ⟨i, hi, rfl, HX⟩ := hrel
      by_cases hlt : i < l.length

      · have hlw := HX.out.low.size
        have hlp : 0 < l.length := by omega
        obtain ⟨k, hk⟩ : ∃ k, k = (i + 1) % l.length := ⟨_, rfl⟩
        have hkl : k < l.length := by rw [hk]; exact Nat.mod_lt _ hlp
        have hrem : ((i : Int) + 1).tmod (l.length : Int) = (k : Int) := by
          rw [hk, Int.tmod_eq_emod_of_nonneg (by omega), Int.natCast_emod]; rfl
        have hw1 : IntKind.i64.wrap ((i : Int) + 1) = (i : Int) + 1 := IntWalk.i64_in _ (by omega)
        have hw2 : IntKind.i64.wrap (k : Int) = (k : Int) := IntWalk.i64_in _ (by omega)
        have hl0 : ((l.length : Int) == 0) = false := by rw [beq_eq_false_iff_ne]; omega
        have hl00 : ¬ (l.length : Int) = 0 := by omega
        have hin : (i : Int) < l.length := by omega
        have hkn : (k : Int) < l.length := by omega
        obtain ⟨b, off, x, e, hlb, hget, A3, c3, A10, c10, hat⟩ := slEv_at (HR.out.belows HX.out.low) hlt
        subst e
        obtain ⟨b', off', y, e, hlb', hget', A4, c4, A11, c11, hat'⟩ := slEv_at (HR.out.belows HX.out.low) hkl
        cases e
        have HPP : Hid (∀ W, Below wr.heap.size wr W → Below w.heap.size w W → CellsAt W w.heap.size #[.slice s.Au s.up.length s.cu, .int .i64 s.sm, .int .i64 s.sc, .int .i64 s.sq, .slice s.Aa s.acts.length s.ca, .slice s.Af s.fl.length s.cf, .slice s.Al s.nl s.cl, .slice s.Ak s.nk s.ck, .int .i64 s.sd] 29 → W.cell? ⟨b, off + i * 12, none⟩ = some (.int .i64 x.kind) ∧ W.cell? ⟨b, off + i * 12 + 1, none⟩ = some (.string x.path) ∧ W.cell? ⟨b, off + i * 12 + 2, none⟩ = some (.string x.msg) ∧ W.cell? ⟨b, off + i * 12 + 3, none⟩ = some (.slice A3 x.args.length c3) ∧ W.cell? ⟨b, off + i * 12 + 4, none⟩ = some (.int .i64 x.ord) ∧ W.cell? ⟨b, off + i * 12 + 5, none⟩ = some (.int .i64 x.vk) ∧ W.cell? ⟨b, off + i * 12 + 6, none⟩ = some (.string x.vt) ∧ W.cell? ⟨b, off + i * 12 + 7, none⟩ = some (.int .i64 x.vn) ∧ W.cell? ⟨b, off + i * 12 + 8, none⟩ = some (.int .i64 x.vm) ∧ W.cell? ⟨b, off + i * 12 + 9, none⟩ = some (.string x.vx) ∧ W.cell? ⟨b, off + i * 12 + 10, none⟩ = some (.slice A10 x.vl.length c10) ∧ W.cell? ⟨b, off + i * 12 + 11, none⟩ = some (.int .i64 x.n) ∧ W.cell? ⟨b, off + k * 12, none⟩ = some (.int .i64 y.kind) ∧ W.cell? ⟨b, off + k * 12 + 1, none⟩ = some (.string y.path) ∧ W.cell? ⟨b, off + k * 12 + 2, none⟩ = some (.string y.msg) ∧ W.cell? ⟨b, off + k * 12 + 3, none⟩ = some (.slice A4 y.args.length c4) ∧ W.cell? ⟨b, off + k * 12 + 4, none⟩ = some (.int .i64 y.ord) ∧ W.cell? ⟨b, off + k * 12 + 5, none⟩ = some (.int .i64 y.vk) ∧ W.cell? ⟨b, off + k * 12 + 6, none⟩ = some (.string y.vt) ∧ W.cell? ⟨b, off + k * 12 + 7, none⟩ = some (.int .i64 y.vn) ∧ W.cell? ⟨b, off + k * 12 + 8, none⟩ = some (.int .i64 y.vm) ∧ W.cell? ⟨b, off + k * 12 + 9, none⟩ = some (.string y.vx) ∧ W.cell? ⟨b, off + k * 12 + 10, none⟩ = some (.slice A11 y.vl.length c11) ∧ W.cell? ⟨b, off + k * 12 + 11, none⟩ = some (.int .i64 y.n) ∧ W.cell? ⟨w.heap.size, 0, none⟩ = some (.slice s.Au s.up.length s.cu) ∧ W.cell? ⟨w.heap.size, 1, none⟩ = some (.int .i64 s.sm) ∧ W.cell? ⟨w.heap.size, 2, none⟩ = some (.int .i64 s.sc) ∧ W.cell? ⟨w.heap.size, 3, none⟩ = some (.int .i64 s.sq) ∧ W.cell? ⟨w.heap.size, 4, none⟩ = some (.slice s.Aa s.acts.length s.ca) ∧ W.cell? ⟨w.heap.size, 5, none⟩ = some (.slice s.Af s.fl.length s.cf) ∧ W.cell? ⟨w.heap.size, 6, none⟩ = some (.slice s.Al s.nl s.cl) ∧ W.cell? ⟨w.heap.size, 7, none⟩ = some (.slice s.Ak s.nk s.ck) ∧ W.cell? ⟨w.heap.size, 8, none⟩ = some (.int .i64 s.sd)) := Lib.hid (fun W h _ hx => by
          obtain ⟨p0, p1, p2, p3, p4, p5, p6, p7, p8, p9, p10, p11, _, _⟩ := hat
          obtain ⟨q0, q1, q2, q3, q4, q5, q6, q7, q8, q9, q10, q11, _, _⟩ := hat'
          have m : ∀ o, W.cell? ⟨b, o, none⟩ = wr.cell? ⟨b, o, none⟩ := fun o => h.cell (p := ⟨b, o, none⟩) hlb
          exact ⟨(m _).trans p0, (m _).trans p1, (m _).trans p2, (m _).trans p3, (m _).trans p4, (m _).trans p5, (m _).trans p6, (m _).trans p7, (m _).trans p8, (m _).trans p9, (m _).trans p10, (m _).trans p11, (m _).trans q0, (m _).trans q1, (m _).trans q2, (m _).trans q3, (m _).trans q4, (m _).trans q5, (m _).trans q6, (m _).trans q7, (m _).trans q8, (m _).trans q9, (m _).trans q10, (m _).trans q11, by rw [hx.cell]; rfl, by rw [hx.cell]; rfl, by rw [hx.cell]; rfl, by rw [hx.cell]; rfl, by rw [hx.cell]; rfl, by rw [hx.cell]; rfl, by rw [hx.cell]; rfl, by rw [hx.cell]; rfl, by rw [hx.cell]; rfl⟩)
        have R3 := Lib.hid hat.2.2.2.2.2.2.2.2.2.2.2.2.1
        have R10 := Lib.hid hat.2.2.2.2.2.2.2.2.2.2.2.2.2
        have S3 := Lib.hid hat'.2.2.2.2.2.2.2.2.2.2.2.2.1
        have S10 := Lib.hid hat'.2.2.2.2.2.2.2.2.2.2.2.2.2
        have hbx := (HZ.out x (List.mem_of_getElem? hget)).1
        have hby := (HZ.out y (List.mem_of_getElem? hget')).1
        unfold Ev.size at hbx hby
        have hvx : x.val.bulk = 7 + x.vt.size + x.vx.size + bulkV x.vl := by unfold Ev.val; rw [bulk_mk]
        have hvy : y.val.bulk = 7 + y.vt.size + y.vx.size + bulkV y.vl := by unfold Ev.val; rw [bulk_mk]
        have KR1 := Lib.hid (fun W (h : Below wr.heap.size wr W) => right_any x A3 A10 c3 c10 W (by omega) (by omega) (by omega) (by omega) (R3.out.belows h) (R10.out.belows h))
        have KR2 := Lib.hid (fun W (h : Below wr.heap.size wr W) => right23_any x A3 A10 c3 c10 W (by omega) (by omega) (by omega) (by omega) (R3.out.belows h) (R10.out.belows h))
        generalize rightE x = g1 at KR1 KR2
        have KS1 := Lib.hid (fun W (h : Below wr.heap.size wr W) => evsame_any x y A3 A4 A10 A11 c3 c4 c10 c11 W (by omega) (by omega) (by omega) (by omega) (R3.out.belows h) (S3.out.belows h) (R10.out.belows h) (S10.out.belows h))
        have KS2 := Lib.hid (fun W (h : Below wr.heap.size wr W) => revsame_any x y A3 A4 A10 A11 c3 c4 c10 c11 W (by omega) (by omega) (by omega) (by omega) (R3.out.belows h) (S3.out.belows h) (R10.out.belows h) (S10.out.belows h))
        generalize eqE x y = g2 at KS1 KS2
        have KN1 := Lib.hid (fun W (h : Below wr.heap.size wr W) (hl : Below w.heap.size w W) => norm_of s x A3 A10 c3 c10 (actN s) W (HS.out.belows hl) (by omega) (by omega) (by omega) (R3.out.belows h) (R10.out.belows h) (fun W' h' => enabled_len s W' h' (by omega) (by omega)))
        have KN2 := Lib.hid (fun W (h : Below wr.heap.size wr W) (hl : Below w.heap.size w W) => norm23_of s x A3 A10 c3 c10 (actN s) W (by omega) (fun W' h' => enabled20_any s W' ((HS.out.belows hl).belows h') ((HW.out.belows hl).belows h') (by omega) (by omega)))
        have KA : Hid (bulkV (normE (actN s) x).args ≤ 2097152 ∧ bulkV (normE (actN s) x).vl ≤ 2097152 ∧ (normE (actN s) x).args = x.args ∧ (normE (actN s) x).vl = x.vl) := Lib.hid (by
          unfold normE
          split
          · exact ⟨by dsimp only; omega, by dsimp only; omega, rfl, rfl⟩
          · exact ⟨by omega, by omega, rfl, rfl⟩)
        have RZ3 : Hid (Rd (Lt wr.heap.size) wr (vs (normE (actN s) x).args) (.slice A3 (normE (actN s) x).args.length c3)) := Lib.hid (by rw [KA.out.2.2.1]; exact R3.out)
        have RZ10 : Hid (Rd (Lt wr.heap.size) wr (vs (normE (actN s) x).vl) (.slice A10 (normE (actN s) x).vl.length c10)) := Lib.hid (by rw [KA.out.2.2.2]; exact R10.out)
        generalize normE (actN s) x = z at *
        have BW : Hid (Below wr.heap.size wr wr.drew) := Lib.hid (below_drewN (Below.refl _ wr) 1)
        have XX : Hid (TS s w wr.drew) := Lib.hid (HX.out.below (below_drewN (Below.refl _ wr) 1))
        clear hat hat' hget hget' hk hbx hby hvx hvy
        go_wp2_with fail
        obtain ⟨z0, z1, z2, z3, z4, z5, z6, z7, z8, z9, z10, z11, z12, z13, z14, z15, z16, z17, z18, z19, z20, z21, z22, z23, z24, z25, z26, z27, z28, z29, z30, z31, z32⟩ := HPP.out wr (Below.refl _ _) HX.out.low HX.out.x
        go_region_held3 (fun w' => w'.cell? ⟨b, off + i * 12, none⟩ = some (.int .i64 x.kind) ∧ w'.cell? ⟨b, off + i * 12 + 1, none⟩ = some (.string x.path) ∧ w'.cell? ⟨b, off + i * 12 + 2, none⟩ = some (.string x.msg) ∧ w'.cell? ⟨b, off + i * 12 + 3, none⟩ = some (.slice A3 x.args.length c3) ∧ w'.cell? ⟨b, off + i * 12 + 4, none⟩ = some (.int .i64 x.ord) ∧ w'.cell? ⟨b, off + i * 12 + 5, none⟩ = some (.int .i64 x.vk) ∧ w'.cell? ⟨b, off + i * 12 + 6, none⟩ = some (.string x.vt) ∧ w'.cell? ⟨b, off + i * 12 + 7, none⟩ = some (.int .i64 x.vn) ∧ w'.cell? ⟨b, off + i * 12 + 8, none⟩ = some (.int .i64 x.vm) ∧ w'.cell? ⟨b, off + i * 12 + 9, none⟩ = some (.string x.vx) ∧ w'.cell? ⟨b, off + i * 12 + 10, none⟩ = some (.slice A10 x.vl.length c10) ∧ w'.cell? ⟨b, off + i * 12 + 11, none⟩ = some (.int .i64 x.n) ∧ w'.cell? ⟨b, off + k * 12, none⟩ = some (.int .i64 y.kind) ∧ w'.cell? ⟨b, off + k * 12 + 1, none⟩ = some (.string y.path) ∧ w'.cell? ⟨b, off + k * 12 + 2, none⟩ = some (.string y.msg) ∧ w'.cell? ⟨b, off + k * 12 + 3, none⟩ = some (.slice A4 y.args.length c4) ∧ w'.cell? ⟨b, off + k * 12 + 4, none⟩ = some (.int .i64 y.ord) ∧ w'.cell? ⟨b, off + k * 12 + 5, none⟩ = some (.int .i64 y.vk) ∧ w'.cell? ⟨b, off + k * 12 + 6, none⟩ = some (.string y.vt) ∧ w'.cell? ⟨b, off + k * 12 + 7, none⟩ = some (.int .i64 y.vn) ∧ w'.cell? ⟨b, off + k * 12 + 8, none⟩ = some (.int .i64 y.vm) ∧ w'.cell? ⟨b, off + k * 12 + 9, none⟩ = some (.string y.vx) ∧ w'.cell? ⟨b, off + k * 12 + 10, none⟩ = some (.slice A11 y.vl.length c11) ∧ w'.cell? ⟨b, off + k * 12 + 11, none⟩ = some (.int .i64 y.n) ∧ w'.cell? ⟨w.heap.size, 0, none⟩ = some (.slice s.Au s.up.length s.cu) ∧ w'.cell? ⟨w.heap.size, 1, none⟩ = some (.int .i64 s.sm) ∧ w'.cell? ⟨w.heap.size, 2, none⟩ = some (.int .i64 s.sc) ∧ w'.cell? ⟨w.heap.size, 3, none⟩ = some (.int .i64 s.sq) ∧ w'.cell? ⟨w.heap.size, 4, none⟩ = some (.slice s.Aa s.acts.length s.ca) ∧ w'.cell? ⟨w.heap.size, 5, none⟩ = some (.slice s.Af s.fl.length s.cf) ∧ w'.cell? ⟨w.heap.size, 6, none⟩ = some (.slice s.Al s.nl s.cl) ∧ w'.cell? ⟨w.heap.size, 7, none⟩ = some (.slice s.Ak s.nk s.ck) ∧ w'.cell? ⟨w.heap.size, 8, none⟩ = some (.int .i64 s.sd))
          (first | go_keep)
          (first
            | (go_at_call 6; go_loud ((with_reducible refine (KR1.out _ BW.out).mono ?_); rintro e w4 ⟨rfl, hb⟩; have BW := Lib.hid (BW.out.trans (hb.mono BW.out.size)); have XX := Lib.hid (XX.out.below hb); clear hb; obtain ⟨z0, z1, z2, z3, z4, z5, z6, z7, z8, z9, z10, z11, z12, z13, z14, z15, z16, z17, z18, z19, z20, z21, z22, z23, z24, z25, z26, z27, z28, z29, z30, z31, z32⟩ := HPP.out w4 BW.out XX.out.low XX.out.x))
            | (go_at_call 7; go_loud ((with_reducible refine (KR2.out _ BW.out).mono ?_); rintro e w4 ⟨rfl, hb⟩; have BW := Lib.hid (BW.out.trans (hb.mono BW.out.size)); have XX := Lib.hid (XX.out.below hb); clear hb; obtain ⟨z0, z1, z2, z3, z4, z5, z6, z7, z8, z9, z10, z11, z12, z13, z14, z15, z16, z17, z18, z19, z20, z21, z22, z23, z24, z25, z26, z27, z28, z29, z30, z31, z32⟩ := HPP.out w4 BW.out XX.out.low XX.out.x))
            | (go_at_call 8; go_loud ((with_reducible refine (KS1.out _ BW.out).mono ?_); rintro e w4 ⟨rfl, hb⟩; have BW := Lib.hid (BW.out.trans (hb.mono BW.out.size)); have XX := Lib.hid (XX.out.below hb); clear hb; obtain ⟨z0, z1, z2, z3, z4, z5, z6, z7, z8, z9, z10, z11, z12, z13, z14, z15, z16, z17, z18, z19, z20, z21, z22, z23, z24, z25, z26, z27, z28, z29, z30, z31, z32⟩ := HPP.out w4 BW.out XX.out.low XX.out.x))
            | (go_at_call 10; go_loud ((with_reducible refine (KN1.out _ BW.out XX.out.low).mono ?_); rintro e w4 ⟨A9, C9, c9, d9, rfl, rn3, rn10, hb⟩; have RN3 := Lib.hid (rn3.weaken (ok' := Lt w4.heap.size) (fun q hq => hq.2)); have RN10 := Lib.hid (rn10.weaken (ok' := Lt w4.heap.size) (fun q hq => hq.2)); clear rn3 rn10; have BW := Lib.hid (BW.out.trans (hb.mono BW.out.size)); have XX := Lib.hid (XX.out.below hb); clear hb; obtain ⟨z0, z1, z2, z3, z4, z5, z6, z7, z8, z9, z10, z11, z12, z13, z14, z15, z16, z17, z18, z19, z20, z21, z22, z23, z24, z25, z26, z27, z28, z29, z30, z31, z32⟩ := HPP.out w4 BW.out XX.out.low XX.out.x))
            | (go_at_call 11; go_loud ((with_reducible refine (KN2.out _ BW.out XX.out.low).mono ?_); rintro e w4 ⟨rfl, hb⟩; have RN3 := Lib.hid (RN3.out.belows hb); have RN10 := Lib.hid (RN10.out.belows hb); have BW := Lib.hid (BW.out.trans (hb.mono BW.out.size)); have XX := Lib.hid (XX.out.below hb); clear hb; obtain ⟨z0, z1, z2, z3, z4, z5, z6, z7, z8, z9, z10, z11, z12, z13, z14, z15, z16, z17, z18, z19, z20, z21, z22, z23, z24, z25, z26, z27, z28, z29, z30, z31, z32⟩ := HPP.out w4 BW.out XX.out.low XX.out.x))
            | (go_at_call 9; (with_reducible refine (KS2.out _ BW.out).mono ?_); rintro e w4 ⟨rfl, hb⟩; have BW := Lib.hid (BW.out.trans (hb.mono BW.out.size)); have XX := Lib.hid (XX.out.below hb); clear hb; obtain ⟨z0, z1, z2, z3, z4, z5, z6, z7, z8, z9, z10, z11, z12, z13, z14, z15, z16, z17, z18, z19, z20, z21, z22, z23, z24, z25, z26, z27, z28, z29, z30, z31, z32⟩ := HPP.out w4 BW.out XX.out.low XX.out.x)
            | (go_at_call 9; go_loud ((with_reducible refine (revsame_any z z A9 A3 C9 A10 c9 c3 d9 c10 _ KA.out.1 KA.out.1 KA.out.2.1 KA.out.2.1 RN3.out (RZ3.out.belows BW.out) RN10.out (RZ10.out.belows BW.out)).mono ?_); rw [eqE_self]; rintro e w4 ⟨rfl, hb⟩; have BW := Lib.hid (BW.out.trans (hb.mono BW.out.size)); have XX := Lib.hid (XX.out.below hb); clear hb; obtain ⟨z0, z1, z2, z3, z4, z5, z6, z7, z8, z9, z10, z11, z12, z13, z14, z15, z16, z17, z18, z19, z20, z21, z22, z23, z24, z25, z26, z27, z28, z29, z30, z31, z32⟩ := HPP.out w4 BW.out XX.out.low XX.out.x)))
        all_goals (go_wp2_with fail; exact ⟨⟨i + 1, by omega, by go_num, XX⟩, by simp [intOf]; omega⟩)
      · obtain rfl : i = l.length := by omega
        have hin : ¬ ((l.length : Int) < l.length) := by omega
        have hlw := HX.out.low.size
        have HB1 := Lib.hid (fun W h => bytes_ev l A l.length c W (by omega) (fun x hx => (HZ.out x hx).1) (fun x hx => (HZ.out x hx).2) h)
        have HB2 := Lib.hid (fun W h => bytes23_any l A l.length c W (by omega) (fun x hx => (HZ.out x hx).1) (fun x hx => (HZ.out x hx).2) h)
        generalize bytesE l = t at *
        have HD1 := Lib.hid (fun W => read_ev s' W (by omega))
        have HD2 := Lib.hid (fun W => read23_any s' W (by omega))
        generalize readE s' = o at *
        go_wp2_with fail
        (with_reducible refine (HD1.out _).mono ?_)
        rintro e w3 ⟨hb3, hp3⟩
        have X3 := Lib.hid (HX.out.below hb3)
        clear HD1
        cases o with
        | none =>
          obtain rfl := hp3
          clear hb3
          go_wp2_with fail
          (with_reducible refine (HD2.out _).mono ?_)
          rintro e w4 ⟨hb4, rfl⟩
          have X4 := Lib.hid (X3.out.below hb4)
          clear HD2 hb4
          go_wp2_with fail
          (with_reducible refine (HB1.out _ (HR.out.belows X4.out.low)).mono ?_)
          rintro e w5 ⟨rfl, hb5⟩
          have X5 := Lib.hid (X4.out.below hb5)
          clear hb5
          go_wp2_with fail
          (with_reducible refine (HB2.out _ (HR.out.belows X5.out.low)).mono ?_)
          rintro e w6 ⟨rfl, hb6⟩
          have X6 := Lib.hid (X5.out.below hb6)
          clear hb6
          go_wp2_with fail
          (with_reducible refine (rall_same [] none none 0 0 0 w6 (by omega) (fun x hx => absurd hx (by simp)) Rd.sl_nil Rd.sl_nil).mono ?_)
          rintro e w7 ⟨rfl, hb7⟩
          have X7 := Lib.hid (X6.out.below hb7)
          clear hb7
          go_wp2_with fail
          go_ret
          exact ⟨rfl, X7.out.low⟩
        | some L =>
          obtain ⟨A3, c3, rfl, hr3, hf3, hl3⟩ := hp3
          have R3 := Lib.hid (hr3.weaken (ok' := Lt w3.heap.size) (fun b hb => hb.2))
          have hz3 : Hid (∀ x ∈ L, x.size ≤ 2097152) := Lib.hid (fun x hx => (hf3 x hx).1)
          clear hf3
          clear hb3 hr3
          go_wp2_with fail
          (with_reducible refine (HD2.out _).mono ?_)
          rintro e w4 ⟨hb4, A4, c4, rfl, hr4, _, _⟩
          have X4 := Lib.hid (X3.out.below hb4)
          have R3 := Lib.hid (R3.out.belows hb4)
          have R4 := Lib.hid (hr4.weaken (ok' := Lt w4.heap.size) (fun b hb => hb.2))
          clear HD2 hb4 hr4
          go_wp2_with fail
          (with_reducible refine (HB1.out _ (HR.out.belows X4.out.low)).mono ?_)
          rintro e w5 ⟨rfl, hb5⟩
          have X5 := Lib.hid (X4.out.below hb5)
          have R3 := Lib.hid (R3.out.belows hb5)
          have R4 := Lib.hid (R4.out.belows hb5)
          clear hb5
          go_wp2_with fail
          (with_reducible refine (HB2.out _ (HR.out.belows X5.out.low)).mono ?_)
          rintro e w6 ⟨rfl, hb6⟩
          have X6 := Lib.hid (X5.out.below hb6)
          have R3 := Lib.hid (R3.out.belows hb6)
          have R4 := Lib.hid (R4.out.belows hb6)
          clear hb6
          go_wp2_with fail
          (with_reducible refine (rall_same L A3 A4 L.length c3 c4 w6 hl3 hz3.out R3.out R4.out).mono ?_)
          rintro e w7 ⟨rfl, hb7⟩
          have X7 := Lib.hid (X6.out.below hb7)
          clear hb7
          go_wp2_with fail
          go_ret
          exact ⟨rfl, X7.out.low⟩
end Go.Proofs.YtlbmfgiepcemdaaGreat
