/- Systems in memory, as far as the scheduler reads them; sched.ready and sched.Enabled (how many actions). Conditions: those in each statement. -/
import Derived.Test.YtlbmfgiepcemdaaDecP
import Derived.Lib.QuietBelow
namespace Go.Proofs.Ytlbmfgiepcemdaa
open Go.RowKit Go.Sort

/-- an actor, as far as the scheduler reads it -/
structure Act1 where
  path : ByteArray
  node : Int
  stopped : Bool
  mail : Nat
/-- a system's nine cells -/
structure Sys where
  up : List Bool
  Au : Option Addr
  cu : Nat
  sm : Int
  sc : Int
  sq : Int
  acts : List Act1
  Aa : Option Addr
  ca : Nat
  fl : List (Int × Int)
  Af : Option Addr
  cf : Nat
  Al : Option Addr
  nl : Nat
  cl : Nat
  Ak : Option Addr
  nk : Nat
  ck : Nat
  sd : Int
def ActAt (w : World) (b o : Nat) (x : Act1) : Prop :=
  w.cell? ⟨b, o, none⟩ = some (.string x.path) ∧ w.cell? ⟨b, o + 2, none⟩ = some (.int .i64 x.node) ∧ w.cell? ⟨b, o + 7, none⟩ = some (.bool x.stopped) ∧ ∃ A c, w.cell? ⟨b, o + 8, none⟩ = some (.slice A x.mail c) ∧ x.mail ≤ 9223372036854775807
/-- what the system's slices lead to, in blocks that are ok -/
structure SysAt (ok : Nat → Prop) (w : World) (s : Sys) : Prop where
  up : 0 < s.up.length → ∃ b off, s.Au = some ⟨b, off, none⟩ ∧ ok b ∧ ∀ i x, s.up[i]? = some x → w.cell? ⟨b, off + i, none⟩ = some (.bool x)
  un : s.up.length ≤ 9223372036854775807
  acts : 0 < s.acts.length → ∃ b off, s.Aa = some ⟨b, off, none⟩ ∧ ok b ∧ ∀ i x, s.acts[i]? = some x → ActAt w b (off + i * 9) x
  fl : 0 < s.fl.length → ∃ b off, s.Af = some ⟨b, off, none⟩ ∧ ok b ∧ ∀ i x, s.fl[i]? = some x → w.cell? ⟨b, off + i * 7, none⟩ = some (.int .i64 x.1) ∧ w.cell? ⟨b, off + i * 7 + 1, none⟩ = some (.int .i64 x.2)
theorem ActAt.keep {w w' : World} {b o : Nat} {x : Act1} (h : ActAt w b o x) (hc : ∀ o, w'.cell? ⟨b, o, none⟩ = w.cell? ⟨b, o, none⟩) : ActAt w' b o x := by
  obtain ⟨h1, h2, h3, A, c, h4, h5⟩ := h
  exact ⟨(hc _).trans h1, (hc _).trans h2, (hc _).trans h3, A, c, (hc _).trans h4, h5⟩
theorem SysAt.keep {ok : Nat → Prop} {w w' : World} {s : Sys} (h : SysAt ok w s) (hc : ∀ b o, ok b → w'.cell? ⟨b, o, none⟩ = w.cell? ⟨b, o, none⟩) : SysAt ok w' s := by
  refine ⟨fun h0 => ?_, h.un, fun h0 => ?_, fun h0 => ?_⟩
  · obtain ⟨b, off, h1, h2, h3⟩ := h.up h0
    exact ⟨b, off, h1, h2, fun i x hi => (hc _ _ h2).trans (h3 i x hi)⟩
  · obtain ⟨b, off, h1, h2, h3⟩ := h.acts h0
    exact ⟨b, off, h1, h2, fun i x hi => (h3 i x hi).keep (fun o => hc b o h2)⟩
  · obtain ⟨b, off, h1, h2, h3⟩ := h.fl h0
    exact ⟨b, off, h1, h2, fun i x hi => ⟨(hc _ _ h2).trans (h3 i x hi).1, (hc _ _ h2).trans (h3 i x hi).2⟩⟩
theorem SysAt.weaken {ok ok' : Nat → Prop} {w : World} {s : Sys} (h : SysAt ok w s) (hk : ∀ b, ok b → ok' b) : SysAt ok' w s := by
  refine ⟨fun h0 => ?_, h.un, fun h0 => ?_, fun h0 => ?_⟩
  · obtain ⟨b, off, h1, h2, h3⟩ := h.up h0
    exact ⟨b, off, h1, hk b h2, h3⟩
  · obtain ⟨b, off, h1, h2, h3⟩ := h.acts h0
    exact ⟨b, off, h1, hk b h2, h3⟩
  · obtain ⟨b, off, h1, h2, h3⟩ := h.fl h0
    exact ⟨b, off, h1, hk b h2, h3⟩
theorem SysAt.belows {w w' : World} {s : Sys} (h : SysAt (Lt w.heap.size) w s) (hb : Below w.heap.size w w') : SysAt (Lt w'.heap.size) w' s :=
  (h.keep (fun b o hb' => hb.cell (p := ⟨b, o, none⟩) hb')).weaken (fun _ hb' => Nat.lt_of_lt_of_le hb' hb.size)
/-- can the actor handle a message? -/
def readyS (up : List Bool) (x : Act1) : Bool := !x.stopped && (decide (0 < x.mail) && (decide (0 ≤ x.node) && (decide (x.node < up.length) && up.getD x.node.toNat false)))
set_option maxHeartbeats 4000000 in
set_option maxRecDepth 100000 in
theorem ready_any (s : Sys) (b o : Nat) (x : Act1) (w : World) (hs : SysAt (Lt w.heap.size) w s) (hx : ActAt w b o x) (hb : b < w.heap.size) :
    Calls Try.prog 52 #[.agg #[.slice s.Au s.up.length s.cu, .int .i64 s.sm, .int .i64 s.sc, .int .i64 s.sq, .slice s.Aa s.acts.length s.ca, .slice s.Af s.fl.length s.cf, .slice s.Al s.nl s.cl, .slice s.Ak s.nk s.ck, .int .i64 s.sd], .pointer (some ⟨b, o, none⟩)] w fun e w' => e = .returned (.bool (readyS s.up x)) ∧ Below w.heap.size w w' := by
  obtain ⟨p0, p2, p7, Am, cm, p8, hm⟩ := hx
  have hun := hs.un
  have HS := Lib.hid hs
  obtain ⟨R, hR⟩ : ∃ R, readyS s.up x = R := ⟨_, rfl⟩
  have HU : Hid (R = (!x.stopped && (decide (0 < x.mail) && (decide (0 ≤ x.node) && (decide (x.node < s.up.length) && s.up.getD x.node.toNat false))))) := Lib.hid (by rw [← hR]; rfl)
  rw [hR]
  obtain ⟨W, hW⟩ : ∃ W, w.alloc (.cells #[.slice s.Au s.up.length s.cu, .int .i64 s.sm, .int .i64 s.sc, .int .i64 s.sq, .slice s.Aa s.acts.length s.ca, .slice s.Af s.fl.length s.cf, .slice s.Al s.nl s.cl, .slice s.Ak s.nk s.ck, .int .i64 s.sd] 55) = W := ⟨_, rfl⟩
  have hal : Below w.heap.size w W := by rw [← hW]; exact (Below.refl _ _).alloc (Nat.le_refl _) _
  have HAL := Lib.hid hal
  have q0 := (hal.cell (p := ⟨b, _, none⟩) hb).trans p0
  have q2 := (hal.cell (p := ⟨b, _, none⟩) hb).trans p2
  have q7 := (hal.cell (p := ⟨b, _, none⟩) hb).trans p7
  have q8 := (hal.cell (p := ⟨b, _, none⟩) hb).trans p8
  have hC : CellsAt W w.heap.size #[.slice s.Au s.up.length s.cu, .int .i64 s.sm, .int .i64 s.sc, .int .i64 s.sq, .slice s.Aa s.acts.length s.ca, .slice s.Af s.fl.length s.cf, .slice s.Al s.nl s.cl, .slice s.Ak s.nk s.ck, .int .i64 s.sd] 55 := by rw [← hW]; exact CellsAt.new _ _ _
  have r0 : W.cell? ⟨w.heap.size, 0, none⟩ = some (.slice s.Au s.up.length s.cu) := by rw [hC.cell]; rfl
  obtain ⟨path, node, stopped, mail⟩ := x
  dsimp only at *
  clear p0 p2 p7 p8 hs hR hal hC
  cases stopped with
  | true =>
    have HR : Hid (R = false) := Lib.hid (by rw [HU.out]; rfl)
    go_enter Try.func52, Try.ntmps52
    go_wp2_with fail
    clear hW
    go_quiet (fail)
    go_wp2_with fail
    go_ret
    exact ⟨by rw [HR.out]; rfl, below_drewN HAL.out _⟩
  | false =>
    by_cases h1 : 0 < mail
    · have h1d : decide (0 < mail) = true := by simpa using h1
      by_cases h2 : 0 ≤ node
      · have h2d : decide (0 ≤ node) = true := by simpa using h2
        by_cases h3 : node < s.up.length
        · have h3d : decide (node < (s.up.length : Int)) = true := by simpa using h3
          obtain ⟨bu, ou, hau, hbu, hcu⟩ := HS.out.up (by omega)
          obtain ⟨k, rfl⟩ : ∃ k : Nat, node = k := ⟨node.toNat, by omega⟩
          have hk : k < s.up.length := by omega
          obtain ⟨g, hg⟩ : ∃ g, s.up[k]? = some g := ⟨_, List.getElem?_eq_getElem hk⟩
          have hgd : s.up.getD k false = g := by rw [List.getD_eq_getElem?_getD, hg]; rfl
          have HR : Hid (R = g) := Lib.hid (by rw [HU.out, h1d, h2d, h3d, Int.toNat_natCast, hgd]; rfl)
          have u0 := (HAL.out.cell (p := ⟨bu, _, none⟩) hbu).trans (hcu k g hg)
          rw [hau] at r0
          have HAU := Lib.hid hau
          clear hau hbu hcu hg hgd
          rw [HAU.out] at hW ⊢
          go_enter Try.func52, Try.ntmps52
          go_wp2_with fail
          clear hW
          go_quiet (fail)
          go_wp2_with fail
          go_ret
          exact ⟨by rw [HR.out]; rfl, below_drewN HAL.out _⟩
        · have h3d : decide (node < (s.up.length : Int)) = false := by simpa using h3
          have HR : Hid (R = false) := Lib.hid (by rw [HU.out, h3d]; simp)
          go_enter Try.func52, Try.ntmps52
          go_wp2_with fail
          clear hW
          go_quiet (fail)
          go_wp2_with fail
          go_ret
          exact ⟨by rw [HR.out]; rfl, below_drewN HAL.out _⟩
      · have h2d : decide (0 ≤ node) = false := by simpa using h2
        have HR : Hid (R = false) := Lib.hid (by rw [HU.out, h2d]; simp)
        go_enter Try.func52, Try.ntmps52
        go_wp2_with fail
        clear hW
        go_quiet (fail)
        go_wp2_with fail
        go_ret
        exact ⟨by rw [HR.out]; rfl, below_drewN HAL.out _⟩
    · have h1d : decide (0 < mail) = false := by simpa using h1
      have HR : Hid (R = false) := Lib.hid (by rw [HU.out, h1d]; simp)
      go_enter Try.func52, Try.ntmps52
      go_wp2_with fail
      clear hW
      go_quiet (fail)
      go_wp2_with fail
      go_ret
      exact ⟨by rw [HR.out]; rfl, below_drewN HAL.out _⟩
end Go.Proofs.Ytlbmfgiepcemdaa
