/- math/bits.RotateLeft32 at the ten counts that SHA-256 uses. Conditions: none. -/
import Derived.Test.YtlnfdpdancolmaaDoorNum
namespace Go.Proofs.YtlnfdpdancolmaaDoor
open Go.RowKit
/-- rotated right by s -/
def ror (p q : Int) (x : Int) : Int := bits .or .u32 (x * p % 4294967296) (x / q)
set_option maxHeartbeats 400000 in
theorem rot_2 (x : Int) (w : World) : Calls Tryd.prog 86 #[.int .u32 x, .int .i64 (-2)] w fun e w' => e = .returned (.int .u32 (ror 1073741824 4 x)) ∧ w = w' := by
  have hb : bits .and .u64 (IntKind.u64.wrap (-2)) 31 = 30 := by decide
  go_enter Tryd.func86, Tryd.ntmps86
  go_wp2_with fail
  go_ret
  exact ⟨rfl, rfl⟩
set_option maxHeartbeats 400000 in
theorem rot_6 (x : Int) (w : World) : Calls Tryd.prog 86 #[.int .u32 x, .int .i64 (-6)] w fun e w' => e = .returned (.int .u32 (ror 67108864 64 x)) ∧ w = w' := by
  have hb : bits .and .u64 (IntKind.u64.wrap (-6)) 31 = 26 := by decide
  go_enter Tryd.func86, Tryd.ntmps86
  go_wp2_with fail
  go_ret
  exact ⟨rfl, rfl⟩
set_option maxHeartbeats 400000 in
theorem rot_7 (x : Int) (w : World) : Calls Tryd.prog 86 #[.int .u32 x, .int .i64 (-7)] w fun e w' => e = .returned (.int .u32 (ror 33554432 128 x)) ∧ w = w' := by
  have hb : bits .and .u64 (IntKind.u64.wrap (-7)) 31 = 25 := by decide
  go_enter Tryd.func86, Tryd.ntmps86
  go_wp2_with fail
  go_ret
  exact ⟨rfl, rfl⟩
set_option maxHeartbeats 400000 in
theorem rot_11 (x : Int) (w : World) : Calls Tryd.prog 86 #[.int .u32 x, .int .i64 (-11)] w fun e w' => e = .returned (.int .u32 (ror 2097152 2048 x)) ∧ w = w' := by
  have hb : bits .and .u64 (IntKind.u64.wrap (-11)) 31 = 21 := by decide
  go_enter Tryd.func86, Tryd.ntmps86
  go_wp2_with fail
  go_ret
  exact ⟨rfl, rfl⟩
set_option maxHeartbeats 400000 in
theorem rot_13 (x : Int) (w : World) : Calls Tryd.prog 86 #[.int .u32 x, .int .i64 (-13)] w fun e w' => e = .returned (.int .u32 (ror 524288 8192 x)) ∧ w = w' := by
  have hb : bits .and .u64 (IntKind.u64.wrap (-13)) 31 = 19 := by decide
  go_enter Tryd.func86, Tryd.ntmps86
  go_wp2_with fail
  go_ret
  exact ⟨rfl, rfl⟩
set_option maxHeartbeats 400000 in
theorem rot_17 (x : Int) (w : World) : Calls Tryd.prog 86 #[.int .u32 x, .int .i64 (-17)] w fun e w' => e = .returned (.int .u32 (ror 32768 131072 x)) ∧ w = w' := by
  have hb : bits .and .u64 (IntKind.u64.wrap (-17)) 31 = 15 := by decide
  go_enter Tryd.func86, Tryd.ntmps86
  go_wp2_with fail
  go_ret
  exact ⟨rfl, rfl⟩
set_option maxHeartbeats 400000 in
theorem rot_18 (x : Int) (w : World) : Calls Tryd.prog 86 #[.int .u32 x, .int .i64 (-18)] w fun e w' => e = .returned (.int .u32 (ror 16384 262144 x)) ∧ w = w' := by
  have hb : bits .and .u64 (IntKind.u64.wrap (-18)) 31 = 14 := by decide
  go_enter Tryd.func86, Tryd.ntmps86
  go_wp2_with fail
  go_ret
  exact ⟨rfl, rfl⟩
set_option maxHeartbeats 400000 in
theorem rot_19 (x : Int) (w : World) : Calls Tryd.prog 86 #[.int .u32 x, .int .i64 (-19)] w fun e w' => e = .returned (.int .u32 (ror 8192 524288 x)) ∧ w = w' := by
  have hb : bits .and .u64 (IntKind.u64.wrap (-19)) 31 = 13 := by decide
  go_enter Tryd.func86, Tryd.ntmps86
  go_wp2_with fail
  go_ret
  exact ⟨rfl, rfl⟩
set_option maxHeartbeats 400000 in
theorem rot_22 (x : Int) (w : World) : Calls Tryd.prog 86 #[.int .u32 x, .int .i64 (-22)] w fun e w' => e = .returned (.int .u32 (ror 1024 4194304 x)) ∧ w = w' := by
  have hb : bits .and .u64 (IntKind.u64.wrap (-22)) 31 = 10 := by decide
  go_enter Tryd.func86, Tryd.ntmps86
  go_wp2_with fail
  go_ret
  exact ⟨rfl, rfl⟩
set_option maxHeartbeats 400000 in
theorem rot_25 (x : Int) (w : World) : Calls Tryd.prog 86 #[.int .u32 x, .int .i64 (-25)] w fun e w' => e = .returned (.int .u32 (ror 128 33554432 x)) ∧ w = w' := by
  have hb : bits .and .u64 (IntKind.u64.wrap (-25)) 31 = 7 := by decide
  go_enter Tryd.func86, Tryd.ntmps86
  go_wp2_with fail
  go_ret
  exact ⟨rfl, rfl⟩
end Go.Proofs.YtlnfdpdancolmaaDoor
