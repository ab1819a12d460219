/- The library contracts at this program, laid by the shelf's own tools in plain declarations: each is one application of a proved contract. Conditions: those in each statement. sched.channels and sched.Enabled of a system without flights. Conditions: those in each statement. The fixed example of the statements' package: what it comes to, and how it lies in memory. Conditions: those in each statement. -/
import Derived.Shelf.SlSortCmp.NoneTotal
import Derived.Shelf.SlicesG.Cmp
import Derived.Ground.SlsfProg
import Derived.Ground.SlgcProg
import Derived.Test.YtlbmfgiepcemdaaGreatProg
import Derived.Test.YtlbmfgiepcemdaaGreatYEnabledCopies
import Derived.Test.YtlbmfgiepcemdaaGreatYEvRead
import Derived.Test.YtlbmfgiepcemdaaGreatYEvBack
import Derived.Test.YtlbmfgiepcemdaaGreatYEvAllSchedAppG
import Derived.Test.YtlbmfgiepcemdaaGreatYNorm
namespace Go.Proofs
open Go.Shelf
def Tryz.sortCh_ren : Go.Shelf.Ren := ⟨fun | 6 => 79 | 15 => 96 | 14 => 95 | 28 => 115 | 29 => 116 | 20 => 107 | 21 => 108 | 22 => 109 | 23 => 110 | 24 => 111 | 25 => 112 | 26 => 113 | 27 => 114 | 46 => 120 | 47 => 121 | 48 => 122 | 49 => 123 | 50 => 124 | 57 => 126 | n => n, fun | 22 => 92 | 24 => 95 | 25 => 118 | 3 => 3 | 39 => 108 | 0 => 0 | 53 => 140 | 55 => 142 | 4 => 4 | 46 => 134 | 45 => 133 | 50 => 86 | 5 => 5 | 9 => 9 | 66 => 149 | 70 => 112 | 76 => 154 | 77 => 155 | n => n, fun | n => n⟩
theorem Tryz.sortCh : Go.Proofs.SlLaysF0.n6 Tryz.prog Tryz.sortCh_ren := {
  mixed := by kernel_rfl
  f6 := ⟨Tryz.f79.name, by decide, Tryz.func79.trans (congrArg some (by kernel_rfl))⟩
  f14 := ⟨Tryz.f95.name, by decide, Tryz.func95.trans (congrArg some (by kernel_rfl))⟩
  f15 := Tryz.func96.trans (congrArg some (by kernel_rfl))
  f20 := ⟨Tryz.f107.name, by decide, Tryz.func107.trans (congrArg some (by kernel_rfl))⟩
  f21 := ⟨Tryz.f108.name, by decide, Tryz.func108.trans (congrArg some (by kernel_rfl))⟩
  f22 := ⟨Tryz.f109.name, by decide, Tryz.func109.trans (congrArg some (by kernel_rfl))⟩
  f23 := ⟨Tryz.f110.name, by decide, Tryz.func110.trans (congrArg some (by kernel_rfl))⟩
  f24 := ⟨Tryz.f111.name, by decide, Tryz.func111.trans (congrArg some (by kernel_rfl))⟩
  f25 := ⟨Tryz.f112.name, by decide, Tryz.func112.trans (congrArg some (by kernel_rfl))⟩
  f26 := ⟨Tryz.f113.name, by decide, Tryz.func113.trans (congrArg some (by kernel_rfl))⟩
  f27 := ⟨Tryz.f114.name, by decide, Tryz.func114.trans (congrArg some (by kernel_rfl))⟩
  f28 := Tryz.func115.trans (congrArg some (by kernel_rfl))
  f29 := Tryz.func116.trans (congrArg some (by kernel_rfl))
  f46 := ⟨Tryz.f120.name, by decide, Tryz.func120.trans (congrArg some (by kernel_rfl))⟩
  f47 := Tryz.func121.trans (congrArg some (by kernel_rfl))
  f48 := Tryz.func122.trans (congrArg some (by kernel_rfl))
  f49 := ⟨Tryz.f123.name, by decide, Tryz.func123.trans (congrArg some (by kernel_rfl))⟩
  f50 := ⟨Tryz.f124.name, by decide, Tryz.func124.trans (congrArg some (by kernel_rfl))⟩
  f57 := ⟨Tryz.f126.name, by decide, Tryz.func126.trans (congrArg some (by kernel_rfl))⟩
  t0 := Tryz.underlying0
  a0 := Tryz.isAgg0
  z0 := Tryz.sizeOf0
  v0 := Tryz.zeroValue0
  t3 := Tryz.underlying3
  a3 := Tryz.isAgg3
  z3 := Tryz.sizeOf3
  v3 := Tryz.zeroValue3
  t4 := Tryz.underlying4
  a4 := Tryz.isAgg4
  z4 := Tryz.sizeOf4
  v4 := Tryz.zeroValue4
  t5 := Tryz.underlying5
  a5 := Tryz.isAgg5
  z5 := Tryz.sizeOf5
  v5 := Tryz.zeroValue5
  t9 := Tryz.underlying9
  a9 := Tryz.isAgg9
  z9 := Tryz.sizeOf9
  v9 := Tryz.zeroValue9
  t22 := Tryz.underlying92
  a22 := Tryz.isAgg92
  z22 := Tryz.sizeOf92
  v22 := Tryz.zeroValue92
  t25 := Tryz.underlying118
  a25 := Tryz.isAgg118
  z25 := Tryz.sizeOf118
  v25 := Tryz.zeroValue118
  t39 := Tryz.underlying108
  a39 := Tryz.isAgg108
  z39 := Tryz.sizeOf108
  v39 := Tryz.zeroValue108
  t45 := Tryz.underlying133
  a45 := Tryz.isAgg133
  z45 := Tryz.sizeOf133
  v45 := Tryz.zeroValue133
  t46 := Tryz.underlying134
  a46 := Tryz.isAgg134
  z46 := Tryz.sizeOf134
  v46 := Tryz.zeroValue134
  t50 := Tryz.underlying86
  a50 := Tryz.isAgg86
  z50 := Tryz.sizeOf86
  v50 := Tryz.zeroValue86
  t53 := Tryz.underlying140
  a53 := Tryz.isAgg140
  z53 := Tryz.sizeOf140
  v53 := Tryz.zeroValue140
  t55 := Tryz.underlying142
  a55 := Tryz.isAgg142
  z55 := Tryz.sizeOf142
  v55 := Tryz.zeroValue142
  t66 := Tryz.underlying149
  a66 := Tryz.isAgg149
  z66 := Tryz.sizeOf149
  v66 := Tryz.zeroValue149
  t70 := Tryz.underlying112
  a70 := Tryz.isAgg112
  z70 := Tryz.sizeOf112
  v70 := Tryz.zeroValue112
  t76 := Tryz.underlying154
  a76 := Tryz.isAgg154
  z76 := Tryz.sizeOf154
  v76 := Tryz.zeroValue154
  t77 := Tryz.underlying155
  a77 := Tryz.isAgg155
  z77 := Tryz.sizeOf155
  v77 := Tryz.zeroValue155 }
def Tryz.cmpInt_ren : Go.Shelf.Ren := ⟨fun | 5 => 82 | 7 => 97 | n => n, fun | 22 => 3 | 3 => 3 | 4 => 4 | n => n, fun | n => n⟩
theorem Tryz.cmpInt : Go.Proofs.SlLaysC2.n5 Tryz.prog Tryz.cmpInt_ren := {
  mixed := by kernel_rfl
  f5 := ⟨Tryz.f82.name, by decide, Tryz.func82.trans (congrArg some (by kernel_rfl))⟩
  f7 := ⟨Tryz.f97.name, by decide, Tryz.func97.trans (congrArg some (by kernel_rfl))⟩
  t3 := Tryz.underlying3
  a3 := Tryz.isAgg3
  z3 := Tryz.sizeOf3
  v3 := Tryz.zeroValue3
  t4 := Tryz.underlying4
  a4 := Tryz.isAgg4
  z4 := Tryz.sizeOf4
  v4 := Tryz.zeroValue4
  t22 := Tryz.underlying3
  a22 := Tryz.isAgg3
  z22 := Tryz.sizeOf3
  v22 := Tryz.zeroValue3 }
end Go.Proofs
namespace Go.Proofs.YtlbmfgiepcemdaaGreat
open Go.RowKit Go.Sort

theorem sort_nil (f : Value) (w : World) : Calls Tryz.prog 79 #[.slice none 0 0, f] w fun e w' => e = .returned (.tuple #[]) ∧ w' = w :=
  AnyF.slices_SortFunc_none Tryz.sortCh none 0 f w
set_option maxHeartbeats 1000000 in
set_option maxRecDepth 100000 in
theorem channels_nil (s : Sys) (w : World) (hf : s.fl = []) : Calls Tryz.prog 58 #[.agg #[.slice s.Au s.up.length s.cu, .int .i64 s.sm, .int .i64 s.sc, .int .i64 s.sq, .slice s.Aa s.acts.length s.ca, .slice s.Af s.fl.length s.cf, .slice s.Al s.nl s.cl, .slice s.Ak s.nk s.ck, .int .i64 s.sd]] w (ChPost [] w) := by
  have hmm := @run_makeMap Tryz.prog
  have hfl : s.fl.length = 0 := by rw [hf]; rfl
  rw [hfl]
  clear hf hfl
  go_enter Tryz.func58, Tryz.ntmps58
  go_wp2_with fail
  refine wp_loop_rounds 1 ?_
  rw [rounds_succ]
  go_wp2_with fail
  (with_reducible refine (sort_nil _ _).mono ?_)
  rintro e w1 ⟨rfl, rfl⟩
  go_wp2_with fail
  go_ret
  exact ⟨none, 0, rfl, Rd.sl_nil, ((Below.refl _ _).alloc (Nat.le_refl _) _).alloc (by simp) _⟩
theorem enabled_nil (s : Sys) (w : World) (hs : SysAt (Lt w.heap.size) w s) (hl : s.acts.length ≤ 1048576) (hf : s.fl = []) :
    Calls Tryz.prog 29 #[.agg #[.slice s.Au s.up.length s.cu, .int .i64 s.sm, .int .i64 s.sc, .int .i64 s.sq, .slice s.Aa s.acts.length s.ca, .slice s.Af s.fl.length s.cf, .slice s.Al s.nl s.cl, .slice s.Ak s.nk s.ck, .int .i64 s.sd]] w fun e w' => ∃ A c, e = .returned (.slice A (readyA s.up s.acts).length c) ∧ Below w.heap.size w w' := by
  refine (enabled_of s [] w hs hl (by simp) (fun W _ => channels_nil s W hf)).mono ?_
  rintro e w' ⟨A, c, h1, _, h3⟩
  rw [show readyA s.up s.acts ++ chA [] = readyA s.up s.acts from List.append_nil _] at h1
  exact ⟨A, c, h1, h3⟩
end Go.Proofs.YtlbmfgiepcemdaaGreat
namespace Go.Proofs.YtlbmfgiepcemdaaGreat
open Go.RowKit

def v1 : V := .mk 3 ⟨#[]⟩ 1 0 ⟨#[]⟩ []
def inpE : Ev := evA ⟨#[48]⟩ ⟨#[65]⟩ [v1]
def L6 : List Ev := [evN 2 0, evN 2 0, evN 2 0, evN 3 0, evN 2 2, inpE]
theorem bytes6 : bytesE L6 = ⟨#[6, 0, 3, 3, 1, 2, 2, 1, 1, 48, 1, 65, 1, 3, 0, 2, 0, 0, 0]⟩ := by kernel_rfl
theorem right_inp : rightE inpE = true := by kernel_rfl
theorem right_tick1 : rightE (evN 3 1) = false := by kernel_rfl
theorem right_zero : rightE zE = false := by kernel_rfl
theorem bytes_zero : bytesE [zE] = ⟨#[]⟩ := by kernel_rfl
theorem bytes_nil : bytesE [] = ⟨#[0]⟩ := by kernel_rfl
theorem all6 : ∀ x ∈ L6, rightE x = true ∧ x.size ≤ 2097152 := by
  intro x hx
  unfold L6 at hx
  simp only [List.mem_cons, List.not_mem_nil, or_false] at hx
  rcases hx with rfl | rfl | rfl | rfl | rfl | rfl <;> exact ⟨by kernel_rfl, by decide⟩
theorem read6 : readE ⟨#[6, 0, 3, 3, 1, 2, 2, 1, 1, 48, 1, 65, 1, 3, 0, 2, 0, 0, 0]⟩ = some L6 := by
  rw [← bytes6]; exact readE_bytes (by decide) all6
theorem wf_n (a b : Int) (h1 : -9223372036854775808 ≤ a) (h2 : a ≤ 9223372036854775807) (h3 : -9223372036854775808 ≤ b) (h4 : b ≤ 9223372036854775807) : (evN a b).Wf := (simple_sum a b h1 h2 h3 h4).2
theorem wf_v1 : v1.Wf := by
  unfold v1; rw [V.Wf]; exact ⟨⟨by omega, by omega⟩, ⟨by omega, by omega⟩, ⟨by omega, by omega⟩, wfV_nil⟩
theorem wf_inp : inpE.Wf := by
  refine ⟨⟨by show (-9223372036854775808 : Int) ≤ 1; omega, by show (1 : Int) ≤ _; omega⟩, ⟨by show (-9223372036854775808 : Int) ≤ 0; omega, by show (0 : Int) ≤ _; omega⟩, ⟨by show (-9223372036854775808 : Int) ≤ 0; omega, by show (0 : Int) ≤ _; omega⟩, ?_, ?_⟩
  · show WfV [v1]; rw [WfV]; exact ⟨wf_v1, wfV_nil⟩
  · show (V.mk 0 ⟨#[]⟩ 0 0 ⟨#[]⟩ []).Wf
    rw [V.Wf]; exact ⟨⟨by omega, by omega⟩, ⟨by omega, by omega⟩, ⟨by omega, by omega⟩, wfV_nil⟩
theorem wf6 : ∀ x ∈ L6, x.Wf := by
  intro x hx
  unfold L6 at hx
  simp only [List.mem_cons, List.not_mem_nil, or_false] at hx
  rcases hx with rfl | rfl | rfl | rfl | rfl | rfl
  · exact wf_n 2 0 (by omega) (by omega) (by omega) (by omega)
  · exact wf_n 2 0 (by omega) (by omega) (by omega) (by omega)
  · exact wf_n 2 0 (by omega) (by omega) (by omega) (by omega)
  · exact wf_n 3 0 (by omega) (by omega) (by omega) (by omega)
  · exact wf_n 2 2 (by omega) (by omega) (by omega) (by omega)
  · exact wf_inp
/-- one event at the head of twelve cells -/
theorem evAt_cells {ok : Nat → Prop} {w : World} {g o : Nat} {cs : Array Value} {x : Ev} {A C : Option Addr} {c d : Nat} (h : CellsAt w g cs 37) (hx : ∀ (j : Nat) (u : Value), (cells12 x A c C d)[j]? = some u → cs[o + j]? = some u) (ra : Rd ok w (vs x.args) (.slice A x.args.length c)) (rv : Rd ok w (vs x.vl) (.slice C x.vl.length d)) : EvAt ok w g o x A c C d := by
  have k : ∀ (j : Nat) (u : Value), (cells12 x A c C d)[j]? = some u → w.cell? ⟨g, o + j, none⟩ = some u := fun j u hj => (h.cell _).trans (hx j u hj)
  exact ⟨k 0 _ rfl, k 1 _ rfl, k 2 _ rfl, k 3 _ rfl, k 4 _ rfl, k 5 _ rfl, k 6 _ rfl, k 7 _ rfl, k 8 _ rfl, k 9 _ rfl, k 10 _ rfl, k 11 _ rfl, ra, rv⟩
/-- the example's blocks: the box of a step, the argument, the six events -/
structure Sm (g1 g2 g3 : Nat) (W : World) : Prop where
  b1 : CellsAt W g1 #[.int .i64 2, .string ⟨#[]⟩, .string ⟨#[]⟩, .slice none 0 0, .int .i64 0, .int .i64 0, .string ⟨#[]⟩, .int .i64 0, .int .i64 0, .string ⟨#[]⟩, .slice none 0 0, .int .i64 0] 37
  b2 : CellsAt W g2 #[.int .i64 3, .string ⟨#[]⟩, .int .i64 1, .int .i64 0, .string ⟨#[]⟩, .slice none 0 0] 35
  b3 : CellsAt W g3 #[.int .i64 2, .string ⟨#[]⟩, .string ⟨#[]⟩, .slice none 0 0, .int .i64 0, .int .i64 0, .string ⟨#[]⟩, .int .i64 0, .int .i64 0, .string ⟨#[]⟩, .slice none 0 0, .int .i64 0, .int .i64 2, .string ⟨#[]⟩, .string ⟨#[]⟩, .slice none 0 0, .int .i64 0, .int .i64 0, .string ⟨#[]⟩, .int .i64 0, .int .i64 0, .string ⟨#[]⟩, .slice none 0 0, .int .i64 0, .int .i64 2, .string ⟨#[]⟩, .string ⟨#[]⟩, .slice none 0 0, .int .i64 0, .int .i64 0, .string ⟨#[]⟩, .int .i64 0, .int .i64 0, .string ⟨#[]⟩, .slice none 0 0, .int .i64 0, .int .i64 3, .string ⟨#[]⟩, .string ⟨#[]⟩, .slice none 0 0, .int .i64 0, .int .i64 0, .string ⟨#[]⟩, .int .i64 0, .int .i64 0, .string ⟨#[]⟩, .slice none 0 0, .int .i64 0, .int .i64 2, .string ⟨#[]⟩, .string ⟨#[]⟩, .slice none 0 0, .int .i64 0, .int .i64 0, .string ⟨#[]⟩, .int .i64 0, .int .i64 0, .string ⟨#[]⟩, .slice none 0 0, .int .i64 2, .int .i64 1, .string ⟨#[48]⟩, .string ⟨#[65]⟩, .slice (some ⟨g2, 0, none⟩) 1 1, .int .i64 0, .int .i64 0, .string ⟨#[]⟩, .int .i64 0, .int .i64 0, .string ⟨#[]⟩, .slice none 0 0, .int .i64 0] 37
section
variable {g1 g2 g3 : Nat} {W W' : World}
theorem Sm.below (h : Sm g1 g2 g3 W) (hb : Below W.heap.size W W') : Sm g1 g2 g3 W' :=
  ⟨h.b1.keep (Chg.of_below (M := fun _ => False) hb) (fun h => h), h.b2.keep (Chg.of_below (M := fun _ => False) hb) (fun h => h), h.b3.keep (Chg.of_below (M := fun _ => False) hb) (fun h => h)⟩
theorem Sm.args (h : Sm g1 g2 g3 W) : Rd (Lt W.heap.size) W (vs [v1]) (.slice (some ⟨g2, 0, none⟩) 1 1) := by
  refine Rd.sl_mk (Nat.le_refl _) (by omega) fun _ => ⟨g2, 0, rfl, h.b2.lt, fun i hi => ?_⟩
  obtain rfl : i = 0 := by simpa using hi
  rw [rowsV_get [v1] 0 v1 rfl]
  refine row_of_VAt (A := none) (c := 0) (l := []) ⟨?_, ?_, ?_, ?_, ?_, ?_, Rd.sl_nil⟩ <;> (rw [h.b2.cell]; rfl)
theorem Sm.evs (h : Sm g1 g2 g3 W) : Rd (Lt W.heap.size) W (slEv L6) (.slice (some ⟨g3, 0, none⟩) 6 6) := by
  refine Rd.sl_mk (Nat.le_refl _) (by omega) fun _ => ⟨g3, 0, rfl, h.b3.lt, fun i hi => ?_⟩
  have hi6 : i < 6 := hi
  have n0 : ∀ (a b : Int), Rd (Lt W.heap.size) W (vs (evN a b).args) (.slice none (evN a b).args.length 0) := fun a b => Rd.sl_nil
  have n1 : ∀ (a b : Int), Rd (Lt W.heap.size) W (vs (evN a b).vl) (.slice none (evN a b).vl.length 0) := fun a b => Rd.sl_nil
  have key : ∀ (a b : Int) (o : Nat), (∀ (j : Nat) (u : Value), (cells12 (evN a b) none 0 none 0)[j]? = some u → (#[.int .i64 2, .string ⟨#[]⟩, .string ⟨#[]⟩, .slice none 0 0, .int .i64 0, .int .i64 0, .string ⟨#[]⟩, .int .i64 0, .int .i64 0, .string ⟨#[]⟩, .slice none 0 0, .int .i64 0, .int .i64 2, .string ⟨#[]⟩, .string ⟨#[]⟩, .slice none 0 0, .int .i64 0, .int .i64 0, .string ⟨#[]⟩, .int .i64 0, .int .i64 0, .string ⟨#[]⟩, .slice none 0 0, .int .i64 0, .int .i64 2, .string ⟨#[]⟩, .string ⟨#[]⟩, .slice none 0 0, .int .i64 0, .int .i64 0, .string ⟨#[]⟩, .int .i64 0, .int .i64 0, .string ⟨#[]⟩, .slice none 0 0, .int .i64 0, .int .i64 3, .string ⟨#[]⟩, .string ⟨#[]⟩, .slice none 0 0, .int .i64 0, .int .i64 0, .string ⟨#[]⟩, .int .i64 0, .int .i64 0, .string ⟨#[]⟩, .slice none 0 0, .int .i64 0, .int .i64 2, .string ⟨#[]⟩, .string ⟨#[]⟩, .slice none 0 0, .int .i64 0, .int .i64 0, .string ⟨#[]⟩, .int .i64 0, .int .i64 0, .string ⟨#[]⟩, .slice none 0 0, .int .i64 2, .int .i64 1, .string ⟨#[48]⟩, .string ⟨#[65]⟩, .slice (some ⟨g2, 0, none⟩) 1 1, .int .i64 0, .int .i64 0, .string ⟨#[]⟩, .int .i64 0, .int .i64 0, .string ⟨#[]⟩, .slice none 0 0, .int .i64 0] : Array Value)[o + j]? = some u) → RdRow (Lt W.heap.size) W g3 o 12 (evN a b).row := fun a b o hx => row_of_EvAt (evAt_cells h.b3 hx (n0 a b) (n1 a b))
  have sub : ∀ (j : Nat) (l : List Value) (o : Nat), l.length = 12 → (∀ j, j < 12 → (#[.int .i64 2, .string ⟨#[]⟩, .string ⟨#[]⟩, .slice none 0 0, .int .i64 0, .int .i64 0, .string ⟨#[]⟩, .int .i64 0, .int .i64 0, .string ⟨#[]⟩, .slice none 0 0, .int .i64 0, .int .i64 2, .string ⟨#[]⟩, .string ⟨#[]⟩, .slice none 0 0, .int .i64 0, .int .i64 0, .string ⟨#[]⟩, .int .i64 0, .int .i64 0, .string ⟨#[]⟩, .slice none 0 0, .int .i64 0, .int .i64 2, .string ⟨#[]⟩, .string ⟨#[]⟩, .slice none 0 0, .int .i64 0, .int .i64 0, .string ⟨#[]⟩, .int .i64 0, .int .i64 0, .string ⟨#[]⟩, .slice none 0 0, .int .i64 0, .int .i64 3, .string ⟨#[]⟩, .string ⟨#[]⟩, .slice none 0 0, .int .i64 0, .int .i64 0, .string ⟨#[]⟩, .int .i64 0, .int .i64 0, .string ⟨#[]⟩, .slice none 0 0, .int .i64 0, .int .i64 2, .string ⟨#[]⟩, .string ⟨#[]⟩, .slice none 0 0, .int .i64 0, .int .i64 0, .string ⟨#[]⟩, .int .i64 0, .int .i64 0, .string ⟨#[]⟩, .slice none 0 0, .int .i64 2, .int .i64 1, .string ⟨#[48]⟩, .string ⟨#[65]⟩, .slice (some ⟨g2, 0, none⟩) 1 1, .int .i64 0, .int .i64 0, .string ⟨#[]⟩, .int .i64 0, .int .i64 0, .string ⟨#[]⟩, .slice none 0 0, .int .i64 0] : Array Value)[o + j]? = l[j]?) → ∀ u, l[j]? = some u → (#[.int .i64 2, .string ⟨#[]⟩, .string ⟨#[]⟩, .slice none 0 0, .int .i64 0, .int .i64 0, .string ⟨#[]⟩, .int .i64 0, .int .i64 0, .string ⟨#[]⟩, .slice none 0 0, .int .i64 0, .int .i64 2, .string ⟨#[]⟩, .string ⟨#[]⟩, .slice none 0 0, .int .i64 0, .int .i64 0, .string ⟨#[]⟩, .int .i64 0, .int .i64 0, .string ⟨#[]⟩, .slice none 0 0, .int .i64 0, .int .i64 2, .string ⟨#[]⟩, .string ⟨#[]⟩, .slice none 0 0, .int .i64 0, .int .i64 0, .string ⟨#[]⟩, .int .i64 0, .int .i64 0, .string ⟨#[]⟩, .slice none 0 0, .int .i64 0, .int .i64 3, .string ⟨#[]⟩, .string ⟨#[]⟩, .slice none 0 0, .int .i64 0, .int .i64 0, .string ⟨#[]⟩, .int .i64 0, .int .i64 0, .string ⟨#[]⟩, .slice none 0 0, .int .i64 0, .int .i64 2, .string ⟨#[]⟩, .string ⟨#[]⟩, .slice none 0 0, .int .i64 0, .int .i64 0, .string ⟨#[]⟩, .int .i64 0, .int .i64 0, .string ⟨#[]⟩, .slice none 0 0, .int .i64 2, .int .i64 1, .string ⟨#[48]⟩, .string ⟨#[65]⟩, .slice (some ⟨g2, 0, none⟩) 1 1, .int .i64 0, .int .i64 0, .string ⟨#[]⟩, .int .i64 0, .int .i64 0, .string ⟨#[]⟩, .slice none 0 0, .int .i64 0] : Array Value)[o + j]? = some u := fun j l o hl hx u hu => by
    have hj := (List.getElem?_eq_some_iff.1 hu).1
    rw [hx j (by omega)]; exact hu
  match i, hi6 with
  | 0, _ => exact key 2 0 _ (fun j u => sub j _ _ rfl (by intro j hj; match j, hj with | 0, _ => rfl | 1, _ => rfl | 2, _ => rfl | 3, _ => rfl | 4, _ => rfl | 5, _ => rfl | 6, _ => rfl | 7, _ => rfl | 8, _ => rfl | 9, _ => rfl | 10, _ => rfl | 11, _ => rfl) u)
  | 1, _ => exact key 2 0 _ (fun j u => sub j _ _ rfl (by intro j hj; match j, hj with | 0, _ => rfl | 1, _ => rfl | 2, _ => rfl | 3, _ => rfl | 4, _ => rfl | 5, _ => rfl | 6, _ => rfl | 7, _ => rfl | 8, _ => rfl | 9, _ => rfl | 10, _ => rfl | 11, _ => rfl) u)
  | 2, _ => exact key 2 0 _ (fun j u => sub j _ _ rfl (by intro j hj; match j, hj with | 0, _ => rfl | 1, _ => rfl | 2, _ => rfl | 3, _ => rfl | 4, _ => rfl | 5, _ => rfl | 6, _ => rfl | 7, _ => rfl | 8, _ => rfl | 9, _ => rfl | 10, _ => rfl | 11, _ => rfl) u)
  | 3, _ => exact key 3 0 _ (fun j u => sub j _ _ rfl (by intro j hj; match j, hj with | 0, _ => rfl | 1, _ => rfl | 2, _ => rfl | 3, _ => rfl | 4, _ => rfl | 5, _ => rfl | 6, _ => rfl | 7, _ => rfl | 8, _ => rfl | 9, _ => rfl | 10, _ => rfl | 11, _ => rfl) u)
  | 4, _ => exact key 2 2 _ (fun j u => sub j _ _ rfl (by intro j hj; match j, hj with | 0, _ => rfl | 1, _ => rfl | 2, _ => rfl | 3, _ => rfl | 4, _ => rfl | 5, _ => rfl | 6, _ => rfl | 7, _ => rfl | 8, _ => rfl | 9, _ => rfl | 10, _ => rfl | 11, _ => rfl) u)
  | 5, _ => exact row_of_EvAt (x := inpE) (evAt_cells h.b3 (fun j u => sub j _ _ rfl (by intro j hj; match j, hj with | 0, _ => rfl | 1, _ => rfl | 2, _ => rfl | 3, _ => rfl | 4, _ => rfl | 5, _ => rfl | 6, _ => rfl | 7, _ => rfl | 8, _ => rfl | 9, _ => rfl | 10, _ => rfl | 11, _ => rfl) u) h.args Rd.sl_nil)
end
end Go.Proofs.YtlbmfgiepcemdaaGreat
