/- outs, commands, requests of the statements' package: each returns a bool that depends on the data alone, and writes nothing. Conditions: those in each statement. -/
import Derived.Test.YtlnfdpdancolmaaDoorFlat
namespace Go.Proofs.YtlnfdpdancolmaaDoor
open Go.RowKit

def SomeBool (w : World) (e : Ending) (w' : World) : Prop := ∃ b, e = .returned (.bool b) ∧ ∃ q, w' = w.drewN q

set_option maxHeartbeats 1000000 in
theorem outs_any {ok : Nat → Prop} {l : List Out} {A : Option Addr} {n c : Nat} {w : World} (hr : Rd ok w (slOut l) (.slice A n c)) (hb : bulkOut l ≤ 2097152) :
    Calls Tryd.prog 10 #[.slice A n c] w (SomeBool w) := by
  have hl := slOut_len hr
  have hn : n ≤ 2097152 := by have := bulkOut_len l; omega
  have HR := Lib.hid hr
  have HB := Lib.hid hb
  clear hl hr hb
  go_enter Tryd.func10, Tryd.ntmps10
  go_wp2_with fail
  go_loop [3] (fun i => ∃ k : Nat, k ≤ n ∧ i = .int .i64 k) (fun i => n - (intOf i).toNat)
  case atStart => exact ⟨0, by omega, rfl⟩
  case round =>
    obtain ⟨k, hk, rfl⟩ := hrel
    by_cases hlt : k < n
    · by_cases h40 : k < 40
      · obtain ⟨b, off, x, rfl, _, hget, A2, c2, h2⟩ := slOut_at HR.out hlt
        obtain ⟨c0, c1, c2', c3, c4, r2⟩ := h2
        have hbk := bulkOut_get hget
        unfold Out.bulk at hbk
        have hts : x.key.size ≤ 2097152 ∧ x.name.size ≤ 2097152 := by have := HB.out; omega
        have HC := Lib.hid (flat4 r2 (by have := HB.out; omega))
        clear r2 hget hbk
        generalize flatB x.args = fb at HC
        by_cases hs : 100 < x.key.size
        · go_wp2_with fail
          go_ret
          exact ⟨false, rfl, 0, rfl⟩
        · by_cases ht : 100 < x.name.size
          · go_wp2_with fail
            go_ret
            exact ⟨false, rfl, 0, rfl⟩
          · go_wp2_with fail
            (with_reducible refine HC.out.mono ?_)
            rintro e w' ⟨rfl, rfl⟩
            cases fb
            · go_wp2_with fail
              go_ret
              exact ⟨false, rfl, 0, rfl⟩
            · go_wp2_with fail
              go_round
              case rel => exact ⟨k + 1, by omega, by go_num⟩
              case measure => simp [intOf]; omega
      · go_wp2_with fail
        go_ret
        exact ⟨_, rfl, 0, rfl⟩
    · go_wp2_with fail
      all_goals
        go_ret
        exact ⟨_, rfl, 0, rfl⟩

set_option maxHeartbeats 2000000 in
theorem commands_any {ok : Nat → Prop} {l : List Cmd} {A : Option Addr} {n c : Nat} {w : World} (hr : Rd ok w (slCmd l) (.slice A n c)) (hb : bulkCmd l ≤ 2097152) :
    Calls Tryd.prog 11 #[.slice A n c] w (SomeBool w) := by
  have hl := slCmd_len hr
  have hn : n ≤ 2097152 := by have := bulkCmd_len l; omega
  have HR := Lib.hid hr
  have HB := Lib.hid hb
  clear hl hr hb
  go_enter Tryd.func11, Tryd.ntmps11
  go_wp2_with fail
  go_loopw [3] (fun i wr => ∃ k q : Nat, k ≤ n ∧ i = .int .i64 k ∧ wr = w.drewN q) (fun i _ => n - (intOf i).toNat)
  case atStart => exact ⟨0, 0, by omega, rfl, rfl⟩
  case round =>
    obtain ⟨k, q, hk, rfl, rfl⟩ := hrel
    by_cases hlt : k < n
    · by_cases h40 : k < 40
      · obtain ⟨b, off, x, rfl, _, hget, A5, c5', h2⟩ := slCmd_at HR.out hlt
        obtain ⟨c0, c1, c2, c3, c4, c5, r5⟩ := h2
        have hbk := bulkCmd_get hget
        unfold Cmd.bulk at hbk
        have hts : x.key.size ≤ 2097152 ∧ x.of.size ≤ 2097152 ∧ x.new.size ≤ 2097152 ∧ x.name.size ≤ 2097152 := by have := HB.out; omega
        have HC := Lib.hid (fun (W : World) (hW : Rd ok W (vs x.args) (.slice A5 x.args.length c5')) => flat4 hW (by have := HB.out; omega))
        have HR5 := Lib.hid r5
        clear r5 hget hbk
        generalize flatB x.args = fb at HC
        have i0 : (0 : Int) ≤ (k : Int) := by omega
        have i1 : (k : Int) < (n : Int) := by omega
        have s1 : IntKind.i64.wrap ((x.key.size : Int) + (x.of.size : Int)) = (x.key.size : Int) + (x.of.size : Int) := IntWalk.i64_in _ (by omega)
        have s2 : IntKind.i64.wrap ((x.key.size : Int) + (x.of.size : Int) + (x.new.size : Int)) = (x.key.size : Int) + (x.of.size : Int) + (x.new.size : Int) := IntWalk.i64_in _ (by omega)
        have s3 : IntKind.i64.wrap ((x.key.size : Int) + (x.of.size : Int) + (x.new.size : Int) + (x.name.size : Int)) = (x.key.size : Int) + (x.of.size : Int) + (x.new.size : Int) + (x.name.size : Int) := IntWalk.i64_in _ (by omega)
        by_cases hs : (400 : Int) < (x.key.size : Int) + (x.of.size : Int) + (x.new.size : Int) + (x.name.size : Int)
        · have hd : decide ((400 : Int) < (x.key.size : Int) + (x.of.size : Int) + (x.new.size : Int) + (x.name.size : Int)) = true := by simpa using hs
          go_wp2_with fail
          go_quiet (fail)
          go_wp2_with fail
          go_ret
          exact ⟨false, rfl, _, World.drewN_drewN _ _ _⟩
        · have hd : decide ((400 : Int) < (x.key.size : Int) + (x.of.size : Int) + (x.new.size : Int) + (x.name.size : Int)) = false := by simpa using hs
          go_wp2_with fail
          go_quiet ((go_at_call 27; exact quiet_add_left (HC.out _ (HR5.out.drewN _))))
          cases fb
          · go_wp2_with fail
            go_ret
            exact ⟨false, rfl, _, World.drewN_drewN _ _ _⟩
          · go_wp2_with fail
            go_roundw
            case rel => exact ⟨k + 1, _, by omega, by go_num, rfl⟩
            case measure => simp [intOf]; omega
      · go_wp2_with fail
        go_ret
        exact ⟨_, rfl, q, rfl⟩
    · go_wp2_with fail
      all_goals
        go_ret
        exact ⟨_, rfl, q, rfl⟩
set_option maxHeartbeats 2000000 in
theorem requests_any {ok : Nat → Prop} {l : List Req} {A : Option Addr} {n c : Nat} {w : World} (hr : Rd ok w (slReq l) (.slice A n c)) (hb : bulkReq l ≤ 2097152) :
    Calls Tryd.prog 17 #[.slice A n c] w (SomeBool w) := by
  have hl := slReq_len hr
  have hn : n ≤ 2097152 := by have := bulkReq_len l; omega
  have HR := Lib.hid hr
  have HB := Lib.hid hb
  clear hl hr hb
  go_enter Tryd.func17, Tryd.ntmps17
  go_wp2_with fail
  go_loopw [3] (fun i wr => ∃ k q : Nat, k ≤ n ∧ i = .int .i64 k ∧ wr = w.drewN q) (fun i _ => n - (intOf i).toNat)
  case atStart => exact ⟨0, 0, by omega, rfl, rfl⟩
  case round =>
    obtain ⟨k, q, hk, rfl, rfl⟩ := hrel
    by_cases hlt : k < n
    · by_cases h40 : k < 30
      · obtain ⟨b, off, x, rfl, _, hget, A2, c2', h2⟩ := slReq_at HR.out hlt
        obtain ⟨c0, c1, c2, c3, c4, c5, c6, c7, r5⟩ := h2
        have hbk := bulkReq_get hget
        unfold Req.bulk at hbk
        have hts : x.path.size ≤ 2097152 ∧ x.name.size ≤ 2097152 ∧ x.reply.size ≤ 2097152 := by have := HB.out; omega
        have HC := Lib.hid (fun (W : World) (hW : Rd ok W (vs x.args) (.slice A2 x.args.length c2')) => flat4 hW (by have := HB.out; omega))
        have HR5 := Lib.hid r5
        clear r5 hget hbk
        generalize flatB x.args = fb at HC
        have i0 : (0 : Int) ≤ (k : Int) := by omega
        have i1 : (k : Int) < (n : Int) := by omega
        have s1 : IntKind.i64.wrap ((x.path.size : Int) + (x.name.size : Int)) = (x.path.size : Int) + (x.name.size : Int) := IntWalk.i64_in _ (by omega)
        have s2 : IntKind.i64.wrap ((x.path.size : Int) + (x.name.size : Int) + (x.reply.size : Int)) = (x.path.size : Int) + (x.name.size : Int) + (x.reply.size : Int) := IntWalk.i64_in _ (by omega)
        by_cases hs : (300 : Int) < (x.path.size : Int) + (x.name.size : Int) + (x.reply.size : Int)
        · have hd : decide ((300 : Int) < (x.path.size : Int) + (x.name.size : Int) + (x.reply.size : Int)) = true := by simpa using hs
          go_wp2_with fail
          go_quiet (fail)
          go_wp2_with fail
          go_ret
          exact ⟨false, rfl, _, World.drewN_drewN _ _ _⟩
        · have hd : decide ((300 : Int) < (x.path.size : Int) + (x.name.size : Int) + (x.reply.size : Int)) = false := by simpa using hs
          go_wp2_with fail
          go_quiet ((go_at_call 27; exact quiet_add_left (HC.out _ (HR5.out.drewN _))))
          cases fb
          · go_wp2_with fail
            go_ret
            exact ⟨false, rfl, _, World.drewN_drewN _ _ _⟩
          · go_wp2_with fail
            go_roundw
            case rel => exact ⟨k + 1, _, by omega, by go_num, rfl⟩
            case measure => simp [intOf]; omega
      · go_wp2_with fail
        go_ret
        exact ⟨_, rfl, q, rfl⟩
    · go_wp2_with fail
      all_goals
        go_ret
        exact ⟨_, rfl, q, rfl⟩

end Go.Proofs.YtlnfdpdancolmaaDoor
