/- sched.channels and sched.Enabled of a system without flights. Conditions: those in each statement. -/
import Derived.Test.YtlbmfgiepcemdaaEnabled
import Derived.Test.YtlbmfgiepcemdaaSrt
namespace Go.Proofs.Ytlbmfgiepcemdaa
open Go.RowKit Go.Sort

theorem sort_nil (f : Value) (w : World) : Calls Try.prog 60 #[.slice none 0 0, f] w fun e w' => e = .returned (.tuple #[]) ∧ w' = w :=
  AnyF.slices_SortFunc_none Try.sortCh none 0 f w
set_option maxHeartbeats 1000000 in
set_option maxRecDepth 100000 in
theorem channels_nil (s : Sys) (w : World) (hf : s.fl = []) : Calls Try.prog 53 #[.agg #[.slice s.Au s.up.length s.cu, .int .i64 s.sm, .int .i64 s.sc, .int .i64 s.sq, .slice s.Aa s.acts.length s.ca, .slice s.Af s.fl.length s.cf, .slice s.Al s.nl s.cl, .slice s.Ak s.nk s.ck, .int .i64 s.sd]] w (ChPost [] w) := by
  have hmm := @run_makeMap Try.prog
  have hfl : s.fl.length = 0 := by rw [hf]; rfl
  rw [hfl]
  clear hf hfl
  go_enter Try.func53, Try.ntmps53
  go_wp2_with fail
  refine wp_loop_rounds 1 ?_
  rw [rounds_succ]
  go_wp2_with fail
  (with_reducible refine (sort_nil _ _).mono ?_)
  rintro e w1 ⟨rfl, rfl⟩
  go_wp2_with fail
  go_ret
  exact ⟨none, 0, rfl, Rd.sl_nil, ((Below.refl _ _).alloc (Nat.le_refl _) _).alloc (by simp) _⟩
theorem enabled_nil (s : Sys) (w : World) (hs : SysAt (Lt w.heap.size) w s) (hl : s.acts.length ≤ 1048576) (hf : s.fl = []) :
    Calls Try.prog 35 #[.agg #[.slice s.Au s.up.length s.cu, .int .i64 s.sm, .int .i64 s.sc, .int .i64 s.sq, .slice s.Aa s.acts.length s.ca, .slice s.Af s.fl.length s.cf, .slice s.Al s.nl s.cl, .slice s.Ak s.nk s.ck, .int .i64 s.sd]] w fun e w' => ∃ A c, e = .returned (.slice A (readyA s.up s.acts).length c) ∧ Below w.heap.size w w' := by
  refine (enabled_of s [] w hs hl (by simp) (fun W _ => channels_nil s W hf)).mono ?_
  rintro e w' ⟨A, c, h1, _, h3⟩
  rw [show readyA s.up s.acts ++ chA [] = readyA s.up s.acts from List.append_nil _] at h1
  exact ⟨A, c, h1, h3⟩
end Go.Proofs.Ytlbmfgiepcemdaa
