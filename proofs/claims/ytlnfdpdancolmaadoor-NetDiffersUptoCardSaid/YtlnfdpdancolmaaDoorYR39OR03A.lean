/- ref39.Only: the requests without a partner. Conditions: those in each statement. ref03.turn at the ten counts that SHA-256 uses, firsts, adds (printed by wip/tools/gen_r03a.py). Conditions: those in each statement. -/
import Derived.Test.YtlnfdpdancolmaaDoorYR12CR39P
import Derived.Test.YtlnfdpdancolmaaDoorYSha2
import Derived.Test.YtlnfdpdancolmaaDoorYR02R01
import Derived.IntWalk
namespace Go.Proofs.YtlnfdpdancolmaaDoor
open Go.RowKit

set_option maxHeartbeats 8000000 in
set_option maxRecDepth 100000 in
theorem ronly_any (l l' : List Req) (A : Option Addr) (n c : Nat) (A' : Option Addr) (n' c' : Nat) (w : World) (hb : bulkReq l ≤ 2097152) (hb' : bulkReq l' ≤ 2097152)
    (hr : Rd (Lt w.heap.size) w (slReq l) (.slice A n c)) (hr' : Rd (Lt w.heap.size) w (slReq l') (.slice A' n' c')) :
    Calls Tryd.prog 36 #[.slice A n c, .slice A' n' c'] w (OnlyPost l l' w) := by
  have hl := slReq_len hr
  have hln := bulkReq_len l
  obtain ⟨i0, hi, hz0, hz1, hz2⟩ := info_parts infoReq
  have HI := Lib.hid (And.intro hi (And.intro hz0 (And.intro hz1 hz2)))
  have HL := Lib.hid hl.1
  have hn : n ≤ 2097152 := by omega
  have HR := Lib.hid hr
  have HPP := Lib.hid (rpairs_any l l' A n c A' n' c' w hb hb' hr hr')
  clear hr hr' hl hi hz0 hz1 hz2
  go_enter Tryd.func36, Tryd.ntmps36
  go_wp2_with fail
  (with_reducible refine HPP.out.mono ?_)
  rintro _ wg ⟨vp, rfl, ⟨ps, hps, hpi, hpl⟩, hgb⟩
  obtain ⟨Ap, cp, hvp⟩ : ∃ Ap cp, vp = .slice Ap ps.length cp := by
    rcases hps.2 with ⟨h1, h2⟩ | ⟨g, cap, cur, h1, _⟩
    · exact ⟨none, 0, by rw [h1, h2]⟩
    · exact ⟨_, _, h1⟩
  subst hvp
  have B0 := Lib.hid hgb
  have P0 := Lib.hid hps
  rw [← HL.out] at hpi
  have HPI := Lib.hid hpi
  have hpl2 : ps.length ≤ 2097152 := by omega
  clear hgb hps hpi
  go_wp2_with fail
  go_loopw [5, 7, 8] (fun s5 s7 s8 wr => ∃ (i nx : Nat) (v : Value), i ≤ n ∧ s8 = .int .i64 i ∧ s7 = .int .i64 nx ∧ nx ≤ 2097152 + i ∧ v = s5 ∧ Hid (OnlyTo w.heap.size l l' i wr v) ∧ Hid (Below w.heap.size w wr) ∧ Hid (wr.ownsRow w.heap.size 72 2 (.slice Ap ps.length cp) ps.length (ps.flatMap pcells)) ∧ Hid (nx = (idxs l l' i).length)) (fun _ _ s8 _ => n - (intOf s8).toNat)
  case atStart =>
    exact ⟨0, 0, _, by omega, rfl, rfl, by omega, rfl, Lib.hid ⟨[], World.ownsRow_nil _ _ _ _, rfl, by simp, fun k hk => absurd hk (by simp)⟩, B0, P0, Lib.hid rfl⟩
  case round =>
    clear B0 P0
    obtain ⟨i, nx, vq, hi, rfl, rfl, hnx, hvq, HO, HB, HPS, HNX⟩ := hrel
    subst hvq
    have hbs := HB.out.size
    by_cases hlt : i < n
    · obtain ⟨b, off, r, e, hlb, hget, A2, c2, hat⟩ := slReq_at (HR.out.below HB.out (fun _ h => h)) hlt
      subst e
      obtain ⟨p0, p1, p2, p3, p4, p5, p6, p7, r2⟩ := hat
      have R2 := Lib.hid r2
      have HGET := Lib.hid hget
      have hlbw : b < wr.heap.size := Nat.lt_of_lt_of_le hlb hbs
      have htell := next_tells HPI.out hlt
      rw [← HNX.out] at htell
      clear hget r2
      have hna : Below wr.heap.size wr (wr.alloc (.cells #[.string r.path, .string r.name, .slice A2 r.args.length c2, .int .i64 r.ord, .string r.reply, .int .i64 r.sent, .int .i64 r.tick, .bool r.isopen] 42)) := (Below.refl _ _).alloc (Nat.le_refl _) _
      obtain ⟨ks, hks, hki, hkl, hkr⟩ := HO.out
      have HXO := Lib.hid (own_below hks hna)
      have HPS2 := Lib.hid (own_below HPS.out hna)
      have HNA := Lib.hid hna
      have HKS := Lib.hid (And.intro hki hkr)
      clear hks hki hkr hna
      have MORE : Hid (matchedI l l' i = false → ∀ v' w3, w3.ownsRow w.heap.size 42 8 v' (ks.length + 1) (ks.flatMap RC.cells ++ RC.cells ⟨r, A2, c2⟩) → (wr.alloc (.cells #[.string r.path, .string r.name, .slice A2 r.args.length c2, .int .i64 r.ord, .string r.reply, .int .i64 r.sent, .int .i64 r.tick, .bool r.isopen] 42)).grownBy w3 vq.ownBlock →
          Hid (OnlyTo w.heap.size l l' (i + 1) w3 v') ∧ Hid (Below w.heap.size w w3) ∧ Hid (w3.ownsRow w.heap.size 72 2 (.slice Ap ps.length cp) ps.length (ps.flatMap pcells)) ∧ Hid (nx = (idxs l l' (i + 1)).length)) := Lib.hid (fun hm v' w3 ho3 hg3 => by
        refine ⟨Lib.hid ⟨ks ++ [⟨r, A2, c2⟩], by
          rw [List.length_append, List.length_singleton, List.flatMap_append, List.flatMap_singleton]; exact ho3, by
          rw [List.map_append, HKS.out.1, onlyTo_succ, hm, HGET.out]; rfl, by rw [List.length_append, List.length_singleton]; omega, fun k hk => ?_⟩, Lib.hid ((HB.out.trans (HNA.out.mono hbs)).grown hg3 (by simp; omega) (fun k hk => (own_block HXO.out k hk).1)), Lib.hid (own_other HPS2.out HXO.out hg3 (by decide)), Lib.hid (by rw [idxs_succ, hm, HNX.out]; simp)⟩
        rcases List.mem_append.1 hk with hk | hk
        · exact ((HKS.out.2 k hk).below (HNA.out.mono hbs) (fun _ h => h)).below ((Below.refl w.heap.size _).grown hg3 (by simp; omega) (fun k hk => (own_block HXO.out k hk).1)) (fun _ h => h)
        · simp at hk; subst hk
          exact (R2.out.below (HNA.out.mono hbs) (fun _ h => h)).below ((Below.refl w.heap.size _).grown hg3 (by simp; omega) (fun k hk => (own_block HXO.out k hk).1)) (fun _ h => h))
      by_cases hnl : nx < ps.length
      · have hq : ps[nx]? = some ps[nx] := List.getElem?_eq_getElem hnl
        generalize ps[nx] = q at hq
        obtain ⟨gp, cp', hv, _, _, hgpl⟩ := own_form HPS.out (by omega)
        injection hv with hv1 _ hv3
        subst hv1 hv3
        have hcq : wr.cell? ⟨gp, nx * 2, none⟩ = some (.int .i64 (q.1 : Int)) := by
          have := HPS.out.cells (g := gp) rfl (nx * 2 + 0) _ ((flat_get pcells 2 pcells_len ps nx q 0 hq (by omega)).trans rfl)
          rwa [Addr.add_lit, Nat.zero_add, Nat.add_zero] at this
        have hnl2 : (nx : Int) < ps.length := by omega
        by_cases hqi : q.1 = i
        · have hm : matchedI l l' i = true := htell.2 ⟨q, hq, hqi⟩
          have hqb : ((q.1 : Int) == (i : Int)) = true := by simp [hqi]
          have O3 : Hid (OnlyTo w.heap.size l l' (i + 1) wr vq) := Lib.hid (by
            obtain ⟨ks, k1, k2, k3, k4⟩ := HO.out
            exact ⟨ks, k1, by rw [onlyTo_succ, hm, k2]; simp, by omega, k4⟩)
          have HN2 : Hid (nx + 1 = (idxs l l' (i + 1)).length) := Lib.hid (by rw [idxs_succ, hm, HNX.out]; simp)
          clear hm hq htell hqi
          go_wp2_with fail
          exact ⟨⟨i + 1, nx + 1, vq, by omega, by go_num, by go_num, by omega, rfl, O3, HB, HPS, HN2⟩, by simp [intOf]; omega⟩
        · have HM : Hid (matchedI l l' i = false) := Lib.hid (by
            cases hm : matchedI l l' i with
            | false => rfl
            | true =>
              obtain ⟨q', h1, h2⟩ := htell.1 hm
              rw [hq] at h1
              rw [← Option.some.inj h1] at h2
              exact absurd h2 hqi)
          have hqb : ((q.1 : Int) == (i : Int)) = false := by simp; omega
          clear hq htell hqi
          go_wp2_with (at_builtin; refine wpList_append_own_at _ rfl _ _ 36 rfl w.heap.size 42 i0 _ 8 104 Tryd.underlying36 HI.out.1 HI.out.2.1 HI.out.2.2.1 HI.out.2.2.2 rfl (by decide) _ _ _ rfl HXO.out ⟨wr.heap.size, 0, none⟩ 1 1 (RC.cells ⟨r, A2, c2⟩) rfl rfl ?c1x ?c2x ?c3x ?c4x ?c5x ?_)
          case c1x => exact fun j u h => h
          case c2x => exact reqs_one r A2 c2
          case c3x => unfold maxLen; omega
          case c4x => omega
          case c5x => omega
          intro v' w3 ho3 hg3 _ _
          obtain ⟨O3, B3, PS3, HN2⟩ := MORE.out HM.out v' w3 ho3 hg3
          clear ho3 hg3
          go_wp2_with fail
          exact ⟨⟨i + 1, nx, v', by omega, by go_num, rfl, by omega, rfl, O3, B3, PS3, HN2⟩, by simp [intOf]; omega⟩
      · have HM : Hid (matchedI l l' i = false) := Lib.hid (by
          cases hm : matchedI l l' i with
          | false => rfl
          | true =>
            obtain ⟨q', h1, h2⟩ := htell.1 hm
            rw [List.getElem?_eq_none (by omega)] at h1
            cases h1)
        have hnl2 : ¬ (nx : Int) < ps.length := by omega
        clear htell
        go_wp2_with (at_builtin; refine wpList_append_own_at _ rfl _ _ 36 rfl w.heap.size 42 i0 _ 8 104 Tryd.underlying36 HI.out.1 HI.out.2.1 HI.out.2.2.1 HI.out.2.2.2 rfl (by decide) _ _ _ rfl HXO.out ⟨wr.heap.size, 0, none⟩ 1 1 (RC.cells ⟨r, A2, c2⟩) rfl rfl ?c1y ?c2y ?c3y ?c4y ?c5y ?_)
        case c1y => exact fun j u h => h
        case c2y => exact reqs_one r A2 c2
        case c3y => unfold maxLen; omega
        case c4y => omega
        case c5y => omega
        intro v' w3 ho3 hg3 _ _
        obtain ⟨O3, B3, PS3, HN2⟩ := MORE.out HM.out v' w3 ho3 hg3
        clear ho3 hg3
        go_wp2_with fail
        exact ⟨⟨i + 1, nx, v', by omega, by go_num, rfl, by omega, rfl, O3, B3, PS3, HN2⟩, by simp [intOf]; omega⟩
    · obtain rfl : i = n := by omega
      go_wp2_with fail
      go_ret
      obtain ⟨ks, k1, k2, _, k4⟩ := HO.out
      refine ⟨_, rfl, ?_, HB.out⟩
      have := rd_of_own k1 (fun k hk => (k4 k hk).weaken (fun b hb => Nat.lt_of_lt_of_le hb hbs))
      rw [k2, HL.out] at this
      exact this
end Go.Proofs.YtlnfdpdancolmaaDoor
namespace Go.Proofs.YtlnfdpdancolmaaDoor
open Go.RowKit
theorem or_comm32 (a b : Int) : bits .or .u32 a b = bits .or .u32 b a := by
  show IntKind.u32.wrap ((BitVec.ofInt 32 a ||| BitVec.ofInt 32 b).toNat : Int) = IntKind.u32.wrap ((BitVec.ofInt 32 b ||| BitVec.ofInt 32 a).toNat : Int)
  rw [BitVec.or_comm]
set_option maxHeartbeats 400000 in
theorem turn_2 (x : Int) (w : World) : Calls Tryd.prog 91 #[.int .u32 x, .int .i64 2] w fun e w' => e = .returned (.int .u32 (ror 1073741824 4 x)) ∧ ∃ n, w' = w.drewN n := by
  have HE : Hid (ror 1073741824 4 x = bits .or .u32 (x / 4) (x * 1073741824 % 4294967296)) := Lib.hid (by unfold ror; rw [or_comm32])
  go_enter Tryd.func91, Tryd.ntmps91
  go_wp2_with fail
  go_region
  go_wp2_with fail
  go_ret
  exact ⟨by rw [HE.out]; rfl, 1, rfl⟩
set_option maxHeartbeats 400000 in
theorem turn_6 (x : Int) (w : World) : Calls Tryd.prog 91 #[.int .u32 x, .int .i64 6] w fun e w' => e = .returned (.int .u32 (ror 67108864 64 x)) ∧ ∃ n, w' = w.drewN n := by
  have HE : Hid (ror 67108864 64 x = bits .or .u32 (x / 64) (x * 67108864 % 4294967296)) := Lib.hid (by unfold ror; rw [or_comm32])
  go_enter Tryd.func91, Tryd.ntmps91
  go_wp2_with fail
  go_region
  go_wp2_with fail
  go_ret
  exact ⟨by rw [HE.out]; rfl, 1, rfl⟩
set_option maxHeartbeats 400000 in
theorem turn_7 (x : Int) (w : World) : Calls Tryd.prog 91 #[.int .u32 x, .int .i64 7] w fun e w' => e = .returned (.int .u32 (ror 33554432 128 x)) ∧ ∃ n, w' = w.drewN n := by
  have HE : Hid (ror 33554432 128 x = bits .or .u32 (x / 128) (x * 33554432 % 4294967296)) := Lib.hid (by unfold ror; rw [or_comm32])
  go_enter Tryd.func91, Tryd.ntmps91
  go_wp2_with fail
  go_region
  go_wp2_with fail
  go_ret
  exact ⟨by rw [HE.out]; rfl, 1, rfl⟩
set_option maxHeartbeats 400000 in
theorem turn_11 (x : Int) (w : World) : Calls Tryd.prog 91 #[.int .u32 x, .int .i64 11] w fun e w' => e = .returned (.int .u32 (ror 2097152 2048 x)) ∧ ∃ n, w' = w.drewN n := by
  have HE : Hid (ror 2097152 2048 x = bits .or .u32 (x / 2048) (x * 2097152 % 4294967296)) := Lib.hid (by unfold ror; rw [or_comm32])
  go_enter Tryd.func91, Tryd.ntmps91
  go_wp2_with fail
  go_region
  go_wp2_with fail
  go_ret
  exact ⟨by rw [HE.out]; rfl, 1, rfl⟩
set_option maxHeartbeats 400000 in
theorem turn_13 (x : Int) (w : World) : Calls Tryd.prog 91 #[.int .u32 x, .int .i64 13] w fun e w' => e = .returned (.int .u32 (ror 524288 8192 x)) ∧ ∃ n, w' = w.drewN n := by
  have HE : Hid (ror 524288 8192 x = bits .or .u32 (x / 8192) (x * 524288 % 4294967296)) := Lib.hid (by unfold ror; rw [or_comm32])
  go_enter Tryd.func91, Tryd.ntmps91
  go_wp2_with fail
  go_region
  go_wp2_with fail
  go_ret
  exact ⟨by rw [HE.out]; rfl, 1, rfl⟩
set_option maxHeartbeats 400000 in
theorem turn_17 (x : Int) (w : World) : Calls Tryd.prog 91 #[.int .u32 x, .int .i64 17] w fun e w' => e = .returned (.int .u32 (ror 32768 131072 x)) ∧ ∃ n, w' = w.drewN n := by
  have HE : Hid (ror 32768 131072 x = bits .or .u32 (x / 131072) (x * 32768 % 4294967296)) := Lib.hid (by unfold ror; rw [or_comm32])
  go_enter Tryd.func91, Tryd.ntmps91
  go_wp2_with fail
  go_region
  go_wp2_with fail
  go_ret
  exact ⟨by rw [HE.out]; rfl, 1, rfl⟩
set_option maxHeartbeats 400000 in
theorem turn_18 (x : Int) (w : World) : Calls Tryd.prog 91 #[.int .u32 x, .int .i64 18] w fun e w' => e = .returned (.int .u32 (ror 16384 262144 x)) ∧ ∃ n, w' = w.drewN n := by
  have HE : Hid (ror 16384 262144 x = bits .or .u32 (x / 262144) (x * 16384 % 4294967296)) := Lib.hid (by unfold ror; rw [or_comm32])
  go_enter Tryd.func91, Tryd.ntmps91
  go_wp2_with fail
  go_region
  go_wp2_with fail
  go_ret
  exact ⟨by rw [HE.out]; rfl, 1, rfl⟩
set_option maxHeartbeats 400000 in
theorem turn_19 (x : Int) (w : World) : Calls Tryd.prog 91 #[.int .u32 x, .int .i64 19] w fun e w' => e = .returned (.int .u32 (ror 8192 524288 x)) ∧ ∃ n, w' = w.drewN n := by
  have HE : Hid (ror 8192 524288 x = bits .or .u32 (x / 524288) (x * 8192 % 4294967296)) := Lib.hid (by unfold ror; rw [or_comm32])
  go_enter Tryd.func91, Tryd.ntmps91
  go_wp2_with fail
  go_region
  go_wp2_with fail
  go_ret
  exact ⟨by rw [HE.out]; rfl, 1, rfl⟩
set_option maxHeartbeats 400000 in
theorem turn_22 (x : Int) (w : World) : Calls Tryd.prog 91 #[.int .u32 x, .int .i64 22] w fun e w' => e = .returned (.int .u32 (ror 1024 4194304 x)) ∧ ∃ n, w' = w.drewN n := by
  have HE : Hid (ror 1024 4194304 x = bits .or .u32 (x / 4194304) (x * 1024 % 4294967296)) := Lib.hid (by unfold ror; rw [or_comm32])
  go_enter Tryd.func91, Tryd.ntmps91
  go_wp2_with fail
  go_region
  go_wp2_with fail
  go_ret
  exact ⟨by rw [HE.out]; rfl, 1, rfl⟩
set_option maxHeartbeats 400000 in
theorem turn_25 (x : Int) (w : World) : Calls Tryd.prog 91 #[.int .u32 x, .int .i64 25] w fun e w' => e = .returned (.int .u32 (ror 128 33554432 x)) ∧ ∃ n, w' = w.drewN n := by
  have HE : Hid (ror 128 33554432 x = bits .or .u32 (x / 33554432) (x * 128 % 4294967296)) := Lib.hid (by unfold ror; rw [or_comm32])
  go_enter Tryd.func91, Tryd.ntmps91
  go_wp2_with fail
  go_region
  go_wp2_with fail
  go_ret
  exact ⟨by rw [HE.out]; rfl, 1, rfl⟩
/-- rotated right by n, at the ten counts -/
def rorZ (n x : Int) : Int :=
  if n = 2 then ror 1073741824 4 x
  else if n = 6 then ror 67108864 64 x
  else if n = 7 then ror 33554432 128 x
  else if n = 11 then ror 2097152 2048 x
  else if n = 13 then ror 524288 8192 x
  else if n = 17 then ror 32768 131072 x
  else if n = 18 then ror 16384 262144 x
  else if n = 19 then ror 8192 524288 x
  else if n = 22 then ror 1024 4194304 x
  else if n = 25 then ror 128 33554432 x
  else 0
theorem turn_Z (n x : Int) (w : World) (h : n = 2 ∨ n = 6 ∨ n = 7 ∨ n = 11 ∨ n = 13 ∨ n = 17 ∨ n = 18 ∨ n = 19 ∨ n = 22 ∨ n = 25) : Calls Tryd.prog 91 #[.int .u32 x, .int .i64 n] w fun e w' => e = .returned (.int .u32 (rorZ n x)) ∧ ∃ n, w' = w.drewN n := by
  rcases h with rfl | rfl | rfl | rfl | rfl | rfl | rfl | rfl | rfl | rfl
  · exact turn_2 x w
  · exact turn_6 x w
  · exact turn_7 x w
  · exact turn_11 x w
  · exact turn_13 x w
  · exact turn_17 x w
  · exact turn_18 x w
  · exact turn_19 x w
  · exact turn_22 x w
  · exact turn_25 x w
end Go.Proofs.YtlnfdpdancolmaaDoor
