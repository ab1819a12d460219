/- The fixed example of the statements' package returns true (printed by wip/tools/gen_smev.py). Conditions: those in each statement. -/
import Derived.Test.YtlbmfgiepcemdaaGreatYSrtChNilSmE
import Derived.Deep.RegionHeld3
namespace Go.Proofs.YtlbmfgiepcemdaaGreat
open Go.RowKit

def sys1 (h5 h6 : Nat) : Sys := ⟨[true], some ⟨h5, 0, none⟩, 1, 0, 0, 0, [⟨⟨#[48]⟩, 0, false, 1⟩, ⟨⟨#[48, 46, 48]⟩, 0, false, 1⟩], some ⟨h6, 0, none⟩, 2, [], none, 0, none, 0, 0, none, 0, 0, 0⟩
def sys0 : Sys := ⟨[], none, 0, 0, 0, 0, [], none, 0, [], none, 0, none, 0, 0, none, 0, 0, 0⟩
theorem sys0_at (w : World) : SysAt (Lt w.heap.size) w sys0 := ⟨fun h => absurd h (by decide), by decide, fun h => absurd h (by decide), fun h => absurd h (by decide)⟩
def Norm2 (k : Int) (w : World) (e : Ending) (w' : World) : Prop := ∃ (A C : Option Addr) (c d : Nat), e = .returned (.agg #[.int .i64 2, .string ⟨#[]⟩, .string ⟨#[]⟩, .slice A 0 c, .int .i64 0, .int .i64 0, .string ⟨#[]⟩, .int .i64 0, .int .i64 0, .string ⟨#[]⟩, .slice C 0 d, .int .i64 k]) ∧ Below w.heap.size w w'
theorem norm_two (s : Sys) (n : Nat) (k : Int) (w : World) (hs : SysAt (Lt w.heap.size) w s) (hl : s.acts.length ≤ 1048576) (hf : s.fl = []) (hn : (readyA s.up s.acts).length = n) (hn2 : n ≤ 1048576) :
    Calls Tryz.prog 10 #[.agg #[.slice s.Au s.up.length s.cu, .int .i64 s.sm, .int .i64 s.sc, .int .i64 s.sq, .slice s.Aa s.acts.length s.ca, .slice s.Af s.fl.length s.cf, .slice s.Al s.nl s.cl, .slice s.Ak s.nk s.ck, .int .i64 s.sd], .agg #[.int .i64 2, .string ⟨#[]⟩, .string ⟨#[]⟩, .slice none 0 0, .int .i64 0, .int .i64 0, .string ⟨#[]⟩, .int .i64 0, .int .i64 0, .string ⟨#[]⟩, .slice none 0 0, .int .i64 k]] w (Norm2 (normN n k) w) := by
  refine (norm_of s (evN 2 k) none none 0 0 n w hs (by show bulkV [] ≤ _; rw [bulkV]; omega) (by show bulkV [] ≤ _; rw [bulkV]; omega) (by omega) Rd.sl_nil Rd.sl_nil (fun W hW => ?_)).mono ?_
  · refine (enabled_nil s W hW hl hf).mono ?_
    rintro e w' ⟨A, c, h1, h2⟩
    rw [hn] at h1
    exact ⟨A, c, h1, h2⟩
  · rintro e w' ⟨A, C, c, d, h1, _, _, h2⟩
    rw [show normE n (evN 2 k) = evN 2 (normN n k) from if_pos (show (evN 2 k).kind = 2 from rfl)] at h1
    exact ⟨A, C, c, d, h1, h2⟩
theorem right_at (x : Ev) (g : Bool) (A B : Option Addr) (c d : Nat) (w : World) (hg : rightE x = g) (hz : x.size ≤ 2097152) (ra : Rd (Lt w.heap.size) w (vs x.args) (.slice A x.args.length c)) (rv : Rd (Lt w.heap.size) w (vs x.vl) (.slice B x.vl.length d)) :
    Calls Tryz.prog 6 #[.agg #[.int .i64 x.kind, .string x.path, .string x.msg, .slice A x.args.length c, .int .i64 x.ord, .int .i64 x.vk, .string x.vt, .int .i64 x.vn, .int .i64 x.vm, .string x.vx, .slice B x.vl.length d, .int .i64 x.n]] w fun e w' => e = .returned (.bool g) ∧ Below w.heap.size w w' := by
  unfold Ev.size at hz
  rw [← hg]
  exact right_any x A B c d w (by omega) (by omega) (by omega) (by omega) ra rv
theorem size_n (a b : Int) : (evN a b).size ≤ 2097152 := by
  show 16 + 0 + 0 + bulkV [] + (V.mk 0 ⟨#[]⟩ 0 0 ⟨#[]⟩ []).bulk ≤ _
  rw [bulk_mk, bulkV]; decide
/-- the cells that the last region loads -/
def SCe (g1 g3 nb : Nat) (W : World) : Prop :=
  W.cell? ⟨nb, 11, none⟩ = some (.int .i64 1) ∧ W.cell? ⟨g1, 0, none⟩ = some (.int .i64 2) ∧ W.cell? ⟨g1, 1, none⟩ = some (.string ⟨#[]⟩) ∧ W.cell? ⟨g1, 2, none⟩ = some (.string ⟨#[]⟩) ∧ W.cell? ⟨g1, 3, none⟩ = some (.slice none 0 0) ∧ W.cell? ⟨g1, 4, none⟩ = some (.int .i64 0) ∧ W.cell? ⟨g1, 5, none⟩ = some (.int .i64 0) ∧ W.cell? ⟨g1, 6, none⟩ = some (.string ⟨#[]⟩) ∧ W.cell? ⟨g1, 7, none⟩ = some (.int .i64 0) ∧ W.cell? ⟨g1, 8, none⟩ = some (.int .i64 0) ∧ W.cell? ⟨g1, 9, none⟩ = some (.string ⟨#[]⟩) ∧ W.cell? ⟨g1, 10, none⟩ = some (.slice none 0 0) ∧ W.cell? ⟨g1, 11, none⟩ = some (.int .i64 0) ∧ W.cell? ⟨g3, 36, none⟩ = some (.int .i64 3) ∧ W.cell? ⟨g3, 37, none⟩ = some (.string ⟨#[]⟩) ∧ W.cell? ⟨g3, 38, none⟩ = some (.string ⟨#[]⟩) ∧ W.cell? ⟨g3, 39, none⟩ = some (.slice none 0 0) ∧ W.cell? ⟨g3, 40, none⟩ = some (.int .i64 0) ∧ W.cell? ⟨g3, 41, none⟩ = some (.int .i64 0) ∧ W.cell? ⟨g3, 42, none⟩ = some (.string ⟨#[]⟩) ∧ W.cell? ⟨g3, 43, none⟩ = some (.int .i64 0) ∧ W.cell? ⟨g3, 44, none⟩ = some (.int .i64 0) ∧ W.cell? ⟨g3, 45, none⟩ = some (.string ⟨#[]⟩) ∧ W.cell? ⟨g3, 46, none⟩ = some (.slice none 0 0) ∧ W.cell? ⟨g3, 47, none⟩ = some (.int .i64 0) ∧ W.cell? ⟨g3, 48, none⟩ = some (.int .i64 2) ∧ W.cell? ⟨g3, 49, none⟩ = some (.string ⟨#[]⟩) ∧ W.cell? ⟨g3, 50, none⟩ = some (.string ⟨#[]⟩) ∧ W.cell? ⟨g3, 51, none⟩ = some (.slice none 0 0) ∧ W.cell? ⟨g3, 52, none⟩ = some (.int .i64 0) ∧ W.cell? ⟨g3, 53, none⟩ = some (.int .i64 0) ∧ W.cell? ⟨g3, 54, none⟩ = some (.string ⟨#[]⟩) ∧ W.cell? ⟨g3, 55, none⟩ = some (.int .i64 0) ∧ W.cell? ⟨g3, 56, none⟩ = some (.int .i64 0) ∧ W.cell? ⟨g3, 57, none⟩ = some (.string ⟨#[]⟩) ∧ W.cell? ⟨g3, 58, none⟩ = some (.slice none 0 0) ∧ W.cell? ⟨g3, 59, none⟩ = some (.int .i64 2) ∧ W.cell? ⟨g3, 60, none⟩ = some (.int .i64 1) ∧ W.cell? ⟨g3, 61, none⟩ = some (.string ⟨#[48]⟩) ∧ W.cell? ⟨g3, 62, none⟩ = some (.string ⟨#[65]⟩) ∧ W.cell? ⟨g3, 63, none⟩ = some (.slice (some ⟨g1 + 1, 0, none⟩) 1 1) ∧ W.cell? ⟨g3, 64, none⟩ = some (.int .i64 0) ∧ W.cell? ⟨g3, 65, none⟩ = some (.int .i64 0) ∧ W.cell? ⟨g3, 66, none⟩ = some (.string ⟨#[]⟩) ∧ W.cell? ⟨g3, 67, none⟩ = some (.int .i64 0) ∧ W.cell? ⟨g3, 68, none⟩ = some (.int .i64 0) ∧ W.cell? ⟨g3, 69, none⟩ = some (.string ⟨#[]⟩) ∧ W.cell? ⟨g3, 70, none⟩ = some (.slice none 0 0) ∧ W.cell? ⟨g3, 71, none⟩ = some (.int .i64 0)
structure SmR (w : World) (A : Option Addr) (c nb : Nat) (nbox : Array Value) (W : World) : Prop where
  low : Below w.heap.size w W
  sm : Sm w.heap.size (w.heap.size + 1) (w.heap.size + 1 + 1) W
  rd : Rd (Lt W.heap.size) W (slEv L6) (.slice A 6 c)
  nb : CellsAt W nb nbox 37
theorem SmR.below {w : World} {A : Option Addr} {c nb : Nat} {nbox : Array Value} {W W' : World} (h : SmR w A c nb nbox W) (hb : Below W.heap.size W W') : SmR w A c nb nbox W' :=
  ⟨h.low.trans (hb.mono h.low.size), h.sm.below hb, h.rd.belows hb, h.nb.keep (Chg.of_below (M := fun _ => False) hb) (fun h => h)⟩
theorem SmR.sc {w : World} {A : Option Addr} {c nb : Nat} {nbox : Array Value} {W : World} (h : SmR w A c nb nbox W) (h11 : nbox[11]? = some (.int .i64 1)) : SCe w.heap.size (w.heap.size + 1 + 1) nb W :=
  ⟨by rw [h.nb.cell]; exact h11, by rw [h.sm.b1.cell]; rfl, by rw [h.sm.b1.cell]; rfl, by rw [h.sm.b1.cell]; rfl, by rw [h.sm.b1.cell]; rfl, by rw [h.sm.b1.cell]; rfl, by rw [h.sm.b1.cell]; rfl, by rw [h.sm.b1.cell]; rfl, by rw [h.sm.b1.cell]; rfl, by rw [h.sm.b1.cell]; rfl, by rw [h.sm.b1.cell]; rfl, by rw [h.sm.b1.cell]; rfl, by rw [h.sm.b1.cell]; rfl, by rw [h.sm.b3.cell]; rfl, by rw [h.sm.b3.cell]; rfl, by rw [h.sm.b3.cell]; rfl, by rw [h.sm.b3.cell]; rfl, by rw [h.sm.b3.cell]; rfl, by rw [h.sm.b3.cell]; rfl, by rw [h.sm.b3.cell]; rfl, by rw [h.sm.b3.cell]; rfl, by rw [h.sm.b3.cell]; rfl, by rw [h.sm.b3.cell]; rfl, by rw [h.sm.b3.cell]; rfl, by rw [h.sm.b3.cell]; rfl, by rw [h.sm.b3.cell]; rfl, by rw [h.sm.b3.cell]; rfl, by rw [h.sm.b3.cell]; rfl, by rw [h.sm.b3.cell]; rfl, by rw [h.sm.b3.cell]; rfl, by rw [h.sm.b3.cell]; rfl, by rw [h.sm.b3.cell]; rfl, by rw [h.sm.b3.cell]; rfl, by rw [h.sm.b3.cell]; rfl, by rw [h.sm.b3.cell]; rfl, by rw [h.sm.b3.cell]; rfl, by rw [h.sm.b3.cell]; rfl, by rw [h.sm.b3.cell]; rfl, by rw [h.sm.b3.cell]; rfl, by rw [h.sm.b3.cell]; rfl, by rw [h.sm.b3.cell]; rfl, by rw [h.sm.b3.cell]; rfl, by rw [h.sm.b3.cell]; rfl, by rw [h.sm.b3.cell]; rfl, by rw [h.sm.b3.cell]; rfl, by rw [h.sm.b3.cell]; rfl, by rw [h.sm.b3.cell]; rfl, by rw [h.sm.b3.cell]; rfl, by rw [h.sm.b3.cell]; rfl⟩
set_option maxHeartbeats 16000000 in
set_option maxRecDepth 100000 in
theorem small_ev (w : World) : Calls Tryz.prog 4 #[] w fun e w' => e = .returned (.bool true) ∧ Below w.heap.size w w' := by
  obtain ⟨W, hW⟩ : ∃ W, ((w.alloc (.cells #[.int .i64 2, .string ⟨#[]⟩, .string ⟨#[]⟩, .slice none 0 0, .int .i64 0, .int .i64 0, .string ⟨#[]⟩, .int .i64 0, .int .i64 0, .string ⟨#[]⟩, .slice none 0 0, .int .i64 0] 37)).alloc (.cells #[.int .i64 3, .string ⟨#[]⟩, .int .i64 1, .int .i64 0, .string ⟨#[]⟩, .slice none 0 0] 35)).alloc (.cells #[.int .i64 2, .string ⟨#[]⟩, .string ⟨#[]⟩, .slice none 0 0, .int .i64 0, .int .i64 0, .string ⟨#[]⟩, .int .i64 0, .int .i64 0, .string ⟨#[]⟩, .slice none 0 0, .int .i64 0, .int .i64 2, .string ⟨#[]⟩, .string ⟨#[]⟩, .slice none 0 0, .int .i64 0, .int .i64 0, .string ⟨#[]⟩, .int .i64 0, .int .i64 0, .string ⟨#[]⟩, .slice none 0 0, .int .i64 0, .int .i64 2, .string ⟨#[]⟩, .string ⟨#[]⟩, .slice none 0 0, .int .i64 0, .int .i64 0, .string ⟨#[]⟩, .int .i64 0, .int .i64 0, .string ⟨#[]⟩, .slice none 0 0, .int .i64 0, .int .i64 3, .string ⟨#[]⟩, .string ⟨#[]⟩, .slice none 0 0, .int .i64 0, .int .i64 0, .string ⟨#[]⟩, .int .i64 0, .int .i64 0, .string ⟨#[]⟩, .slice none 0 0, .int .i64 0, .int .i64 2, .string ⟨#[]⟩, .string ⟨#[]⟩, .slice none 0 0, .int .i64 0, .int .i64 0, .string ⟨#[]⟩, .int .i64 0, .int .i64 0, .string ⟨#[]⟩, .slice none 0 0, .int .i64 2, .int .i64 1, .string ⟨#[48]⟩, .string ⟨#[65]⟩, .slice (some ⟨w.heap.size + 1, 0, none⟩) 1 1, .int .i64 0, .int .i64 0, .string ⟨#[]⟩, .int .i64 0, .int .i64 0, .string ⟨#[]⟩, .slice none 0 0, .int .i64 0] 37) = W := ⟨_, rfl⟩
  have hlow : Below w.heap.size w W := by rw [← hW]; exact (((Below.refl _ _).alloc (Nat.le_refl _) _).alloc (by simp) _).alloc (by simp; omega) _
  have hS : Sm w.heap.size (w.heap.size + 1) (w.heap.size + 1 + 1) W := by
    rw [← hW]
    refine ⟨?_, ?_, ?_⟩
    · exact ((CellsAt.new w _ _).keep ((Chg.refl (fun _ => False) _).alloc _) (fun h => h)).keep ((Chg.refl (fun _ => False) _).alloc _) (fun h => h)
    · have := CellsAt.new (w.alloc (.cells #[.int .i64 2, .string ⟨#[]⟩, .string ⟨#[]⟩, .slice none 0 0, .int .i64 0, .int .i64 0, .string ⟨#[]⟩, .int .i64 0, .int .i64 0, .string ⟨#[]⟩, .slice none 0 0, .int .i64 0] 37)) #[.int .i64 3, .string ⟨#[]⟩, .int .i64 1, .int .i64 0, .string ⟨#[]⟩, .slice none 0 0] 35
      rw [World.size_alloc] at this
      exact this.keep ((Chg.refl (fun _ => False) _).alloc _) (fun h => h)
    · have := CellsAt.new ((w.alloc (.cells #[.int .i64 2, .string ⟨#[]⟩, .string ⟨#[]⟩, .slice none 0 0, .int .i64 0, .int .i64 0, .string ⟨#[]⟩, .int .i64 0, .int .i64 0, .string ⟨#[]⟩, .slice none 0 0, .int .i64 0] 37)).alloc (.cells #[.int .i64 3, .string ⟨#[]⟩, .int .i64 1, .int .i64 0, .string ⟨#[]⟩, .slice none 0 0] 35)) #[.int .i64 2, .string ⟨#[]⟩, .string ⟨#[]⟩, .slice none 0 0, .int .i64 0, .int .i64 0, .string ⟨#[]⟩, .int .i64 0, .int .i64 0, .string ⟨#[]⟩, .slice none 0 0, .int .i64 0, .int .i64 2, .string ⟨#[]⟩, .string ⟨#[]⟩, .slice none 0 0, .int .i64 0, .int .i64 0, .string ⟨#[]⟩, .int .i64 0, .int .i64 0, .string ⟨#[]⟩, .slice none 0 0, .int .i64 0, .int .i64 2, .string ⟨#[]⟩, .string ⟨#[]⟩, .slice none 0 0, .int .i64 0, .int .i64 0, .string ⟨#[]⟩, .int .i64 0, .int .i64 0, .string ⟨#[]⟩, .slice none 0 0, .int .i64 0, .int .i64 3, .string ⟨#[]⟩, .string ⟨#[]⟩, .slice none 0 0, .int .i64 0, .int .i64 0, .string ⟨#[]⟩, .int .i64 0, .int .i64 0, .string ⟨#[]⟩, .slice none 0 0, .int .i64 0, .int .i64 2, .string ⟨#[]⟩, .string ⟨#[]⟩, .slice none 0 0, .int .i64 0, .int .i64 0, .string ⟨#[]⟩, .int .i64 0, .int .i64 0, .string ⟨#[]⟩, .slice none 0 0, .int .i64 2, .int .i64 1, .string ⟨#[48]⟩, .string ⟨#[65]⟩, .slice (some ⟨w.heap.size + 1, 0, none⟩) 1 1, .int .i64 0, .int .i64 0, .string ⟨#[]⟩, .int .i64 0, .int .i64 0, .string ⟨#[]⟩, .slice none 0 0, .int .i64 0] 37
      rw [World.size_alloc, World.size_alloc] at this
      exact this
  have B0 := Lib.hid hlow
  have S0 := Lib.hid hS
  have hb0 : Calls Tryz.prog 14 #[.slice (some ⟨w.heap.size + 1 + 1, 0, none⟩) 6 6] W fun e w' => e = .returned (.string ⟨#[6, 0, 3, 3, 1, 2, 2, 1, 1, 48, 1, 65, 1, 3, 0, 2, 0, 0, 0]⟩) ∧ Below W.heap.size W w' := by
    have := bytes_ev L6 (some ⟨w.heap.size + 1 + 1, 0, none⟩) 6 6 W (by omega) (fun x hx => (all6 x hx).2) wf6 S0.out.evs
    rw [bytes6] at this
    exact this
  have K0 := Lib.hid hb0
  clear hlow hS hb0
  go_enter Tryz.func4, Tryz.ntmps4
  go_wp2_with fail
  clear hW
  (with_reducible refine K0.out.mono ?_)
  rintro e w1 ⟨rfl, hb1⟩
  have B1 := Lib.hid (B0.out.trans (hb1.mono B0.out.size))
  have S1 := Lib.hid (S0.out.below hb1)
  have K1 : Hid (Calls Tryz.prog 12 #[.string ⟨#[6, 0, 3, 3, 1, 2, 2, 1, 1, 48, 1, 65, 1, 3, 0, 2, 0, 0, 0]⟩] w1 fun e w' => ∃ A c, e = .returned (.tuple #[.slice A 6 c, .bool true]) ∧ Rd (Lt w'.heap.size) w' (slEv L6) (.slice A 6 c) ∧ Below w1.heap.size w1 w') := Lib.hid (by
    have := read_ev ⟨#[6, 0, 3, 3, 1, 2, 2, 1, 1, 48, 1, 65, 1, 3, 0, 2, 0, 0, 0]⟩ w1 (by decide)
    rw [read6] at this
    refine this.mono ?_
    rintro e w' ⟨h1, A, c, h2, h3, _⟩
    exact ⟨A, c, h2, h3.weaken (fun b hb => hb.2), h1⟩)
  clear hb1 K0
  go_wp2_with fail
  (with_reducible refine K1.out.mono ?_)
  rintro e w2 ⟨A2, c2, rfl, hr2, hb2⟩
  have B2 := Lib.hid (B1.out.trans (hb2.mono B1.out.size))
  have S2 := Lib.hid (S1.out.below hb2)
  have R2 := Lib.hid hr2
  clear hb2 hr2 K1
  obtain ⟨W3, hW3⟩ : ∃ W3, (((w2.alloc (.cells #[.string ⟨#[]⟩, .string ⟨#[65]⟩, .slice none 0 0, .int .i64 0] 46)).alloc (.cells #[.bool true] 4)).alloc (.cells #[.string ⟨#[48]⟩, .string ⟨#[]⟩, .int .i64 0, .slice none 0 0, .slice none 0 0, .int .i64 0, .int .i64 0, .bool false, .slice (some ⟨w2.heap.size, 0, none⟩) 1 1, .string ⟨#[48, 46, 48]⟩, .string ⟨#[]⟩, .int .i64 0, .slice none 0 0, .slice none 0 0, .int .i64 0, .int .i64 0, .bool false, .slice (some ⟨w2.heap.size, 0, none⟩) 1 1] 49)).alloc (.cells #[.slice (some ⟨w2.heap.size + 1, 0, none⟩) 1 1, .int .i64 0, .int .i64 0, .int .i64 0, .slice (some ⟨w2.heap.size + 1 + 1, 0, none⟩) 2 2, .slice none 0 0, .slice none 0 0, .slice none 0 0, .int .i64 0] 29) = W3 := ⟨_, rfl⟩
  have hb3 : Below w2.heap.size w2 W3 := by rw [← hW3]; exact ((((Below.refl _ _).alloc (Nat.le_refl _) _).alloc (by simp) _).alloc (by simp; omega) _).alloc (by simp; omega) _
  have B3 := Lib.hid (B2.out.trans (hb3.mono B2.out.size))
  have S3 := Lib.hid (S2.out.below hb3)
  have R3 := Lib.hid (R2.out.belows hb3)
  have h5 : CellsAt W3 (w2.heap.size + 1) #[.bool true] 4 := by
    rw [← hW3]
    have := CellsAt.new (w2.alloc (.cells #[.string ⟨#[]⟩, .string ⟨#[65]⟩, .slice none 0 0, .int .i64 0] 46)) #[.bool true] 4
    rw [World.size_alloc] at this
    exact (this.keep ((Chg.refl (fun _ => False) _).alloc _) (fun h => h)).keep ((Chg.refl (fun _ => False) _).alloc _) (fun h => h)
  have h6 : CellsAt W3 (w2.heap.size + 1 + 1) #[.string ⟨#[48]⟩, .string ⟨#[]⟩, .int .i64 0, .slice none 0 0, .slice none 0 0, .int .i64 0, .int .i64 0, .bool false, .slice (some ⟨w2.heap.size, 0, none⟩) 1 1, .string ⟨#[48, 46, 48]⟩, .string ⟨#[]⟩, .int .i64 0, .slice none 0 0, .slice none 0 0, .int .i64 0, .int .i64 0, .bool false, .slice (some ⟨w2.heap.size, 0, none⟩) 1 1] 49 := by
    rw [← hW3]
    have := CellsAt.new ((w2.alloc (.cells #[.string ⟨#[]⟩, .string ⟨#[65]⟩, .slice none 0 0, .int .i64 0] 46)).alloc (.cells #[.bool true] 4)) #[.string ⟨#[48]⟩, .string ⟨#[]⟩, .int .i64 0, .slice none 0 0, .slice none 0 0, .int .i64 0, .int .i64 0, .bool false, .slice (some ⟨w2.heap.size, 0, none⟩) 1 1, .string ⟨#[48, 46, 48]⟩, .string ⟨#[]⟩, .int .i64 0, .slice none 0 0, .slice none 0 0, .int .i64 0, .int .i64 0, .bool false, .slice (some ⟨w2.heap.size, 0, none⟩) 1 1] 49
    rw [World.size_alloc, World.size_alloc] at this
    exact this.keep ((Chg.refl (fun _ => False) _).alloc _) (fun h => h)
  have hsys : SysAt (Lt W3.heap.size) W3 (sys1 (w2.heap.size + 1) (w2.heap.size + 1 + 1)) := by
    refine ⟨fun _ => ⟨w2.heap.size + 1, 0, rfl, h5.lt, fun i x hi => ?_⟩, by show 1 ≤ _; omega, fun _ => ⟨w2.heap.size + 1 + 1, 0, rfl, h6.lt, fun i x hi => ?_⟩, fun h => absurd h (Nat.lt_irrefl 0)⟩
    · match i with
      | 0 => cases hi; rw [h5.cell]; rfl
      | i + 1 => cases hi
    · match i with
      | 0 => cases hi; exact ⟨by rw [h6.cell]; rfl, by rw [h6.cell]; rfl, by rw [h6.cell]; rfl, some ⟨w2.heap.size, 0, none⟩, 1, by rw [h6.cell]; rfl, by show 1 ≤ _; omega⟩
      | 1 => cases hi; exact ⟨by rw [h6.cell]; rfl, by rw [h6.cell]; rfl, by rw [h6.cell]; rfl, some ⟨w2.heap.size, 0, none⟩, 1, by rw [h6.cell]; rfl, by show 1 ≤ _; omega⟩
      | i + 2 => cases hi
  have K3 : Hid (Calls Tryz.prog 10 #[.agg #[.slice (some ⟨w2.heap.size + 1, 0, none⟩) 1 1, .int .i64 0, .int .i64 0, .int .i64 0, .slice (some ⟨w2.heap.size + 1 + 1, 0, none⟩) 2 2, .slice none 0 0, .slice none 0 0, .slice none 0 0, .int .i64 0], .agg #[.int .i64 2, .string ⟨#[]⟩, .string ⟨#[]⟩, .slice none 0 0, .int .i64 0, .int .i64 0, .string ⟨#[]⟩, .int .i64 0, .int .i64 0, .string ⟨#[]⟩, .slice none 0 0, .int .i64 (-1)]] W3 (Norm2 1 W3)) := Lib.hid (by
    have := norm_two (sys1 (w2.heap.size + 1) (w2.heap.size + 1 + 1)) 2 (-1) W3 hsys (by show 2 ≤ 1048576; omega) rfl rfl (by omega)
    rw [show normN 2 (-1) = 1 from rfl] at this
    exact this)
  have HW3 := Lib.hid hW3
  clear hb3 h5 h6 hsys hW3
  go_wp2_with fail
  rw [HW3.out]
  clear HW3
  (with_reducible refine K3.out.mono ?_)
  rintro e w4 ⟨A4, C4, c4, d4, rfl, hb4⟩
  obtain ⟨W5, hW5⟩ : ∃ W5, w4.alloc (.cells #[.int .i64 2, .string ⟨#[]⟩, .string ⟨#[]⟩, .slice A4 0 c4, .int .i64 0, .int .i64 0, .string ⟨#[]⟩, .int .i64 0, .int .i64 0, .string ⟨#[]⟩, .slice C4 0 d4, .int .i64 1] 37) = W5 := ⟨_, rfl⟩
  have hb5 : Below w4.heap.size w4 W5 := by rw [← hW5]; exact (Below.refl _ _).alloc (Nat.le_refl _) _
  have hn5 : CellsAt W5 w4.heap.size #[.int .i64 2, .string ⟨#[]⟩, .string ⟨#[]⟩, .slice A4 0 c4, .int .i64 0, .int .i64 0, .string ⟨#[]⟩, .int .i64 0, .int .i64 0, .string ⟨#[]⟩, .slice C4 0 d4, .int .i64 1] 37 := by rw [← hW5]; exact CellsAt.new _ _ _
  have hr5 : SmR w A2 c2 w4.heap.size #[.int .i64 2, .string ⟨#[]⟩, .string ⟨#[]⟩, .slice A4 0 c4, .int .i64 0, .int .i64 0, .string ⟨#[]⟩, .int .i64 0, .int .i64 0, .string ⟨#[]⟩, .slice C4 0 d4, .int .i64 1] W5 := ⟨(B3.out.trans (hb4.mono B3.out.size)).trans (hb5.mono (Nat.le_trans B3.out.size hb4.size)), (S3.out.below hb4).below hb5, (R3.out.belows hb4).belows hb5, hn5⟩
  have HW5 := Lib.hid hW5
  obtain ⟨nbox, hnb⟩ : ∃ n : Array Value, #[.int .i64 2, .string ⟨#[]⟩, .string ⟨#[]⟩, .slice A4 0 c4, .int .i64 0, .int .i64 0, .string ⟨#[]⟩, .int .i64 0, .int .i64 0, .string ⟨#[]⟩, .slice C4 0 d4, .int .i64 1] = n := ⟨_, rfl⟩
  have HNB : Hid (nbox[11]? = some (.int .i64 1)) := Lib.hid (by rw [← hnb]; rfl)
  rw [hnb] at hr5
  have RP := Lib.hid hr5
  have PD : Hid (SmR w A2 c2 w4.heap.size nbox W5.drew) := Lib.hid (hr5.below (Below.refl _ _).drew)
  have KA : Hid (∀ W, SmR w A2 c2 w4.heap.size nbox W → Calls Tryz.prog 16 #[.slice (some ⟨w.heap.size + 1 + 1, 0, none⟩) 6 6, .slice A2 6 c2] W fun e w' => e = .returned (.bool true) ∧ Below W.heap.size W w') := Lib.hid (fun W h => rall_same L6 (some ⟨w.heap.size + 1 + 1, 0, none⟩) A2 6 6 c2 W (by omega) (fun x hx => (all6 x hx).2) h.sm.evs h.rd)
  have KN : Hid (∀ W, Calls Tryz.prog 10 #[.agg #[.slice none 0 0, .int .i64 0, .int .i64 0, .int .i64 0, .slice none 0 0, .slice none 0 0, .slice none 0 0, .slice none 0 0, .int .i64 0], .agg #[.int .i64 2, .string ⟨#[]⟩, .string ⟨#[]⟩, .slice none 0 0, .int .i64 0, .int .i64 0, .string ⟨#[]⟩, .int .i64 0, .int .i64 0, .string ⟨#[]⟩, .slice none 0 0, .int .i64 2]] W (Norm2 0 W)) := Lib.hid (fun W => by
    have := norm_two sys0 0 2 W (sys0_at W) (by show 0 ≤ 1048576; omega) rfl rfl (by omega)
    exact this)
  have KR1 : Hid (∀ W, SmR w A2 c2 w4.heap.size nbox W → Calls Tryz.prog 6 #[.agg #[.int .i64 1, .string ⟨#[48]⟩, .string ⟨#[65]⟩, .slice (some ⟨w.heap.size + 1, 0, none⟩) 1 1, .int .i64 0, .int .i64 0, .string ⟨#[]⟩, .int .i64 0, .int .i64 0, .string ⟨#[]⟩, .slice none 0 0, .int .i64 0]] W fun e w' => e = .returned (.bool true) ∧ Below W.heap.size W w') := Lib.hid (fun W h => right_at inpE true (some ⟨w.heap.size + 1, 0, none⟩) none 1 0 W right_inp (all6 _ (by simp [L6])).2 h.sm.args Rd.sl_nil)
  have KR2 : Hid (∀ W, Calls Tryz.prog 6 #[.agg #[.int .i64 3, .string ⟨#[]⟩, .string ⟨#[]⟩, .slice none 0 0, .int .i64 0, .int .i64 0, .string ⟨#[]⟩, .int .i64 0, .int .i64 0, .string ⟨#[]⟩, .slice none 0 0, .int .i64 1]] W fun e w' => e = .returned (.bool false) ∧ Below W.heap.size W w') := Lib.hid (fun W => right_at (evN 3 1) false none none 0 0 W right_tick1 (size_n 3 1) Rd.sl_nil Rd.sl_nil)
  have KR3 : Hid (∀ W, Calls Tryz.prog 6 #[.agg #[.int .i64 0, .string ⟨#[]⟩, .string ⟨#[]⟩, .slice none 0 0, .int .i64 0, .int .i64 0, .string ⟨#[]⟩, .int .i64 0, .int .i64 0, .string ⟨#[]⟩, .slice none 0 0, .int .i64 0]] W fun e w' => e = .returned (.bool false) ∧ Below W.heap.size W w') := Lib.hid (fun W => right_at zE false none none 0 0 W right_zero (size_n 0 0) Rd.sl_nil Rd.sl_nil)
  have hz0 : bulkV [] ≤ 2097152 := by rw [bulkV]; omega
  have KS1 : Hid (∀ W, Calls Tryz.prog 8 #[.agg #[.int .i64 2, .string ⟨#[]⟩, .string ⟨#[]⟩, .slice none 0 0, .int .i64 0, .int .i64 0, .string ⟨#[]⟩, .int .i64 0, .int .i64 0, .string ⟨#[]⟩, .slice none 0 0, .int .i64 0], .agg #[.int .i64 2, .string ⟨#[]⟩, .string ⟨#[]⟩, .slice none 0 0, .int .i64 0, .int .i64 0, .string ⟨#[]⟩, .int .i64 0, .int .i64 0, .string ⟨#[]⟩, .slice none 0 0, .int .i64 0]] W fun e w' => e = .returned (.bool true) ∧ Below W.heap.size W w') := Lib.hid (fun W => by
    have := evsame_any (evN 2 0) (evN 2 0) none none none none 0 0 0 0 W hz0 hz0 hz0 hz0 Rd.sl_nil Rd.sl_nil Rd.sl_nil Rd.sl_nil
    rw [eqE_self] at this
    exact this)
  have KS2 : Hid (∀ W, Calls Tryz.prog 8 #[.agg #[.int .i64 2, .string ⟨#[]⟩, .string ⟨#[]⟩, .slice none 0 0, .int .i64 0, .int .i64 0, .string ⟨#[]⟩, .int .i64 0, .int .i64 0, .string ⟨#[]⟩, .slice none 0 0, .int .i64 0], .agg #[.int .i64 3, .string ⟨#[]⟩, .string ⟨#[]⟩, .slice none 0 0, .int .i64 0, .int .i64 0, .string ⟨#[]⟩, .int .i64 0, .int .i64 0, .string ⟨#[]⟩, .slice none 0 0, .int .i64 0]] W fun e w' => e = .returned (.bool false) ∧ Below W.heap.size W w') := Lib.hid (fun W => evsame_any (evN 2 0) (evN 3 0) none none none none 0 0 0 0 W hz0 hz0 hz0 hz0 Rd.sl_nil Rd.sl_nil Rd.sl_nil Rd.sl_nil)
  have KB1 : Hid (∀ W, Calls Tryz.prog 14 #[.slice (some ⟨W.heap.size, 0, none⟩) 1 1] (W.alloc (.cells #[.int .i64 0, .string ⟨#[]⟩, .string ⟨#[]⟩, .slice none 0 0, .int .i64 0, .int .i64 0, .string ⟨#[]⟩, .int .i64 0, .int .i64 0, .string ⟨#[]⟩, .slice none 0 0, .int .i64 0] 37)) fun e w' => e = .returned (.string ⟨#[]⟩) ∧ Below W.heap.size W w') := Lib.hid (fun W => by
    have hc := CellsAt.new W #[.int .i64 0, .string ⟨#[]⟩, .string ⟨#[]⟩, .slice none 0 0, .int .i64 0, .int .i64 0, .string ⟨#[]⟩, .int .i64 0, .int .i64 0, .string ⟨#[]⟩, .slice none 0 0, .int .i64 0] 37
    have hr : Rd (Lt (W.alloc (.cells #[.int .i64 0, .string ⟨#[]⟩, .string ⟨#[]⟩, .slice none 0 0, .int .i64 0, .int .i64 0, .string ⟨#[]⟩, .int .i64 0, .int .i64 0, .string ⟨#[]⟩, .slice none 0 0, .int .i64 0] 37)).heap.size) (W.alloc (.cells #[.int .i64 0, .string ⟨#[]⟩, .string ⟨#[]⟩, .slice none 0 0, .int .i64 0, .int .i64 0, .string ⟨#[]⟩, .int .i64 0, .int .i64 0, .string ⟨#[]⟩, .slice none 0 0, .int .i64 0] 37)) (slEv [zE]) (.slice (some ⟨W.heap.size, 0, none⟩) 1 1) := slEv_one (A3 := none) (c3 := 0) (A10 := none) (c10 := 0) hc.lt (evAt_cells hc (fun j u hj => by rw [Nat.zero_add]; exact List.getElem?_toArray.trans hj) Rd.sl_nil Rd.sl_nil)
    have := bytes_ev [zE] _ 1 1 _ (by omega) (fun x hx => by rw [List.mem_singleton] at hx; subst hx; exact size_n 0 0) (fun x hx => by rw [List.mem_singleton] at hx; subst hx; exact wf_n 0 0 (by omega) (by omega) (by omega) (by omega)) hr
    rw [bytes_zero] at this
    exact this.mono (fun e w' h => ⟨h.1, ((Below.refl _ _).alloc (Nat.le_refl _) _).trans (h.2.mono (by simp))⟩))
  have KB2 : Hid (∀ W, Calls Tryz.prog 14 #[.slice none 0 0] W fun e w' => e = .returned (.string ⟨#[0]⟩) ∧ Below W.heap.size W w') := Lib.hid (fun W => by
    have := bytes_ev [] none 0 0 W (by omega) (fun x hx => by cases hx) (fun x hx => by cases hx) Rd.sl_nil
    rw [bytes_nil] at this
    exact this)
  have hsl : (⟨#[6, 0, 3, 3, 1, 2, 2, 1, 1, 48, 1, 65, 1, 3, 0, 2, 0, 0, 0]⟩ : ByteArray).extract 0 7 = ⟨#[6, 0, 3, 3, 1, 2, 2]⟩ := by kernel_rfl
  have hs2 : (⟨#[6, 0, 3, 3, 1, 2, 2, 1, 1, 48, 1, 65, 1, 3, 0, 2, 0, 0, 0]⟩ : ByteArray).size = 19 := rfl
  have hg6 : (0 : Int) < 6 := by omega
  have hfld : ∀ (A C : Option Addr) (c d : Nat) (w : World), (Instr.field 37 (.agg #[.int .i64 2, .string ⟨#[]⟩, .string ⟨#[]⟩, .slice A 0 c, .int .i64 0, .int .i64 0, .string ⟨#[]⟩, .int .i64 0, .int .i64 0, .string ⟨#[]⟩, .slice C 0 d, .int .i64 0]) 6).run Tryz.prog w = .ok (.int .i64 0) w := fun A C c d w => by kernel_rfl
  have SP := Lib.hid (RP.out.sc HNB.out)
  have SD := Lib.hid (PD.out.sc HNB.out)
  clear hW5 hb5 hb4 hn5 K3 hnb hr5 hz0
  go_wp2_with fail
  have hW5 := HW5.out
  clear HW5
  subst hW5
  simp only [List.append]
  go_region_held3 (fun w' => w'.cell? ⟨w4.heap.size, 11, none⟩ = some (.int .i64 1) ∧ w'.cell? ⟨w.heap.size, 0, none⟩ = some (.int .i64 2) ∧ w'.cell? ⟨w.heap.size, 1, none⟩ = some (.string ⟨#[]⟩) ∧ w'.cell? ⟨w.heap.size, 2, none⟩ = some (.string ⟨#[]⟩) ∧ w'.cell? ⟨w.heap.size, 3, none⟩ = some (.slice none 0 0) ∧ w'.cell? ⟨w.heap.size, 4, none⟩ = some (.int .i64 0) ∧ w'.cell? ⟨w.heap.size, 5, none⟩ = some (.int .i64 0) ∧ w'.cell? ⟨w.heap.size, 6, none⟩ = some (.string ⟨#[]⟩) ∧ w'.cell? ⟨w.heap.size, 7, none⟩ = some (.int .i64 0) ∧ w'.cell? ⟨w.heap.size, 8, none⟩ = some (.int .i64 0) ∧ w'.cell? ⟨w.heap.size, 9, none⟩ = some (.string ⟨#[]⟩) ∧ w'.cell? ⟨w.heap.size, 10, none⟩ = some (.slice none 0 0) ∧ w'.cell? ⟨w.heap.size, 11, none⟩ = some (.int .i64 0) ∧ w'.cell? ⟨w.heap.size + 1 + 1, 36, none⟩ = some (.int .i64 3) ∧ w'.cell? ⟨w.heap.size + 1 + 1, 37, none⟩ = some (.string ⟨#[]⟩) ∧ w'.cell? ⟨w.heap.size + 1 + 1, 38, none⟩ = some (.string ⟨#[]⟩) ∧ w'.cell? ⟨w.heap.size + 1 + 1, 39, none⟩ = some (.slice none 0 0) ∧ w'.cell? ⟨w.heap.size + 1 + 1, 40, none⟩ = some (.int .i64 0) ∧ w'.cell? ⟨w.heap.size + 1 + 1, 41, none⟩ = some (.int .i64 0) ∧ w'.cell? ⟨w.heap.size + 1 + 1, 42, none⟩ = some (.string ⟨#[]⟩) ∧ w'.cell? ⟨w.heap.size + 1 + 1, 43, none⟩ = some (.int .i64 0) ∧ w'.cell? ⟨w.heap.size + 1 + 1, 44, none⟩ = some (.int .i64 0) ∧ w'.cell? ⟨w.heap.size + 1 + 1, 45, none⟩ = some (.string ⟨#[]⟩) ∧ w'.cell? ⟨w.heap.size + 1 + 1, 46, none⟩ = some (.slice none 0 0) ∧ w'.cell? ⟨w.heap.size + 1 + 1, 47, none⟩ = some (.int .i64 0) ∧ w'.cell? ⟨w.heap.size + 1 + 1, 48, none⟩ = some (.int .i64 2) ∧ w'.cell? ⟨w.heap.size + 1 + 1, 49, none⟩ = some (.string ⟨#[]⟩) ∧ w'.cell? ⟨w.heap.size + 1 + 1, 50, none⟩ = some (.string ⟨#[]⟩) ∧ w'.cell? ⟨w.heap.size + 1 + 1, 51, none⟩ = some (.slice none 0 0) ∧ w'.cell? ⟨w.heap.size + 1 + 1, 52, none⟩ = some (.int .i64 0) ∧ w'.cell? ⟨w.heap.size + 1 + 1, 53, none⟩ = some (.int .i64 0) ∧ w'.cell? ⟨w.heap.size + 1 + 1, 54, none⟩ = some (.string ⟨#[]⟩) ∧ w'.cell? ⟨w.heap.size + 1 + 1, 55, none⟩ = some (.int .i64 0) ∧ w'.cell? ⟨w.heap.size + 1 + 1, 56, none⟩ = some (.int .i64 0) ∧ w'.cell? ⟨w.heap.size + 1 + 1, 57, none⟩ = some (.string ⟨#[]⟩) ∧ w'.cell? ⟨w.heap.size + 1 + 1, 58, none⟩ = some (.slice none 0 0) ∧ w'.cell? ⟨w.heap.size + 1 + 1, 59, none⟩ = some (.int .i64 2) ∧ w'.cell? ⟨w.heap.size + 1 + 1, 60, none⟩ = some (.int .i64 1) ∧ w'.cell? ⟨w.heap.size + 1 + 1, 61, none⟩ = some (.string ⟨#[48]⟩) ∧ w'.cell? ⟨w.heap.size + 1 + 1, 62, none⟩ = some (.string ⟨#[65]⟩) ∧ w'.cell? ⟨w.heap.size + 1 + 1, 63, none⟩ = some (.slice (some ⟨w.heap.size + 1, 0, none⟩) 1 1) ∧ w'.cell? ⟨w.heap.size + 1 + 1, 64, none⟩ = some (.int .i64 0) ∧ w'.cell? ⟨w.heap.size + 1 + 1, 65, none⟩ = some (.int .i64 0) ∧ w'.cell? ⟨w.heap.size + 1 + 1, 66, none⟩ = some (.string ⟨#[]⟩) ∧ w'.cell? ⟨w.heap.size + 1 + 1, 67, none⟩ = some (.int .i64 0) ∧ w'.cell? ⟨w.heap.size + 1 + 1, 68, none⟩ = some (.int .i64 0) ∧ w'.cell? ⟨w.heap.size + 1 + 1, 69, none⟩ = some (.string ⟨#[]⟩) ∧ w'.cell? ⟨w.heap.size + 1 + 1, 70, none⟩ = some (.slice none 0 0) ∧ w'.cell? ⟨w.heap.size + 1 + 1, 71, none⟩ = some (.int .i64 0))
    (first | exact SD.out | exact Q6.out | exact Q7.out | exact Q8.out | exact Q9.out | exact Q10.out | exact Q11.out | exact Q12.out | exact Q13.out | exact Q14.out | exact SP.out | go_keep)
    (first
      | (go_at_call 16; (with_reducible refine (KA.out _ PD.out).mono ?_); rintro _ w6 ⟨rfl, hb⟩; have P6 := Lib.hid (PD.out.below hb); have Q6 := Lib.hid (P6.out.sc HNB.out); clear hb)
      | (go_at_call 10; (with_reducible refine (KN.out w6).mono ?_); rintro _ w7 ⟨A7, C7, c7, d7, rfl, hb⟩; have P7 := Lib.hid (P6.out.below hb); have Q7 := Lib.hid (P7.out.sc HNB.out); clear hb)
      | (go_at_call 6; (with_reducible refine (KR1.out w7 P7.out).mono ?_); rintro _ w8 ⟨rfl, hb⟩; have P8 := Lib.hid (P7.out.below hb); have Q8 := Lib.hid (P8.out.sc HNB.out); clear hb)
      | (go_at_call 6; (with_reducible refine (KR2.out w8).mono ?_); rintro _ w9 ⟨rfl, hb⟩; have P9 := Lib.hid (P8.out.below hb); have Q9 := Lib.hid (P9.out.sc HNB.out); clear hb)
      | (go_at_call 6; (with_reducible refine (KR3.out w9).mono ?_); rintro _ w10 ⟨rfl, hb⟩; have P10 := Lib.hid (P9.out.below hb); have Q10 := Lib.hid (P10.out.sc HNB.out); clear hb)
      | (go_at_call 8; (with_reducible refine (KS1.out w10).mono ?_); rintro _ w11 ⟨rfl, hb⟩; have P11 := Lib.hid (P10.out.below hb); have Q11 := Lib.hid (P11.out.sc HNB.out); clear hb)
      | (go_at_call 8; (with_reducible refine (KS2.out w11).mono ?_); rintro _ w12 ⟨rfl, hb⟩; have P12 := Lib.hid (P11.out.below hb); have Q12 := Lib.hid (P12.out.sc HNB.out); clear hb)
      | (go_at_call 14; (with_reducible refine (KB1.out w12).mono ?_); rintro _ w13 ⟨rfl, hb⟩; have P13 := Lib.hid (P12.out.below hb); have Q13 := Lib.hid (P13.out.sc HNB.out); clear hb)
      | (go_at_call 14; (with_reducible refine (KB2.out w13).mono ?_); rintro _ w14 ⟨rfl, hb⟩; have P14 := Lib.hid (P13.out.below hb); have Q14 := Lib.hid (P14.out.sc HNB.out); clear hb)
      | fail)
  all_goals (
    go_wp2_with fail
    go_ret
    exact ⟨rfl, P14.out.low⟩)
end Go.Proofs.YtlbmfgiepcemdaaGreat
