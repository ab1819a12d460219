/- net.Key, net.effects, net.Diff. Conditions: those in each statement. net.Diff. Conditions: those in each statement. net.equal, and slices.IndexFunc with it. Conditions: those in each statement. -/
import Derived.Test.YtlnfdpdancolmaaDoorYOnlyR39Q
import Derived.Test.YtlnfdpdancolmaaDoorYFoldFlatGuardsDistinct
import Derived.Deep.RegionHeld3
import Derived.Deep.AppendLies
import Derived.Test.YtlnfdpdancolmaaDoorYCloneSame
import Derived.Test.YtlnfdpdancolmaaDoorYDelete
namespace Go.Proofs.YtlnfdpdancolmaaDoor
open Go.RowKit

set_option maxHeartbeats 1000000 in
theorem netkey_of {kf : Req → ByteArray} {r : Req} (h : KeyOk kf r) (W : World) (A : Option Addr) (c : Nat) (hr : Rd (Lt W.heap.size) W (vs r.args) (.slice A r.args.length c)) (hR : Row32 W 0 64 kF) :
    Calls Tryd.prog 20 #[.agg #[.string r.path, .string r.name, .slice A r.args.length c, .int .i64 r.ord, .string r.reply, .int .i64 r.sent, .int .i64 r.tick, .bool r.isopen]] W fun e w' => e = .returned (.string (kf r)) ∧ Below W.heap.size W w' := by
  have hw0 : 0 < W.heap.size := World.block_lt_of_cell? W _ (hR 0 (by omega))
  have HK := Lib.hid (h.2 (W.alloc (.cells #[.string r.path, .string r.name, .slice A r.args.length c, .int .i64 r.ord, .string r.reply, .int .i64 r.sent, .int .i64 r.tick, .bool r.isopen] 42)) A c (hr.allocs _) (hR.below ((Below.refl W.heap.size W).alloc (Nat.le_refl _) _) hw0))
  clear h hr hR
  go_enter Tryd.func20, Tryd.ntmps20
  go_wp2_with fail
  (with_reducible refine HK.out.mono ?_)
  rintro e w1 ⟨rfl, hb1⟩
  have HB := Lib.hid hb1
  clear hb1
  go_wp2_with fail
  go_ret
  exact ⟨rfl, ((Below.refl _ _).alloc (Nat.le_refl _) _).trans (HB.out.mono (by simp))⟩
/-- the effect of a request -/
def effR (kf : Req → ByteArray) (r : Req) : Out := ⟨kf r, r.name, r.args, false, r.tick⟩
def effS (kf : Req → ByteArray) (l : List Req) : List Out := l.map (effR kf)
theorem effS_take (kf : Req → ByteArray) (l : List Req) (i : Nat) (r : Req) (h : l[i]? = some r) : effS kf (l.take (i + 1)) = effS kf (l.take i) ++ [effR kf r] := by
  unfold effS; rw [List.take_add_one, h]; simp
def EffPost (L : List Out) (w : World) (e : Ending) (w' : World) : Prop := ∃ v, e = .returned v ∧ Owned w.heap.size 45 5 L.length (rowsOut L) w' v ∧ Below w.heap.size w w'
def eff5 (kf : Req → ByteArray) (r : Req) (A5 : Option Addr) (c5 : Nat) : List Value := [.string (kf r), .string r.name, .slice A5 r.args.length c5, .bool false, .int .i64 r.tick]
theorem eff5_one (kf : Req → ByteArray) (r : Req) (A5 : Option Addr) (c5 : Nat) : ∀ u ∈ eff5 kf r A5 c5, u.oneCell' = true := by
  intro u hu
  simp only [eff5, List.mem_cons, List.not_mem_nil, or_false] at hu
  rcases hu with rfl | rfl | rfl | rfl | rfl <;> rfl
theorem eff5_rd {ok : Nat → Prop} {w : World} {kf : Req → ByteArray} {r : Req} {A5 : Option Addr} {c5 : Nat} (h : Rd ok w (vs r.args) (.slice A5 r.args.length c5)) : ∀ (j : Nat) (u : Value), (eff5 kf r A5 c5)[j]? = some u → Rd ok w ((effR kf r).row j) u := by
  intro j u hj
  match j with
  | 0 => simp [eff5] at hj; subst hj; rfl
  | 1 => simp [eff5] at hj; subst hj; rfl
  | 2 => simp [eff5] at hj; subst hj; exact h
  | 3 => simp [eff5] at hj; subst hj; rfl
  | 4 => simp [eff5] at hj; subst hj; rfl
  | j + 5 => simp [eff5] at hj

theorem eff5_news (w5 : World) (kf : Req → ByteArray) (r : Req) (A5 : Option Addr) (c5 : Nat) : ∀ (j : Nat) (u : Value), (eff5 kf r A5 c5)[j]? = some u → (w5.alloc (.cells #[.string (kf r), .string r.name, .slice A5 r.args.length c5, .bool false, .int .i64 r.tick] 45)).cell? ((⟨w5.heap.size, 0, none⟩ : Addr).add j) = some u := by
  intro j u hj
  rw [Addr.add_lit, Nat.zero_add, cell_new, ← hj]
  exact List.getElem?_toArray
set_option maxHeartbeats 8000000 in
set_option maxRecDepth 100000 in
theorem effects_any (kf : Req → ByteArray) (l : List Req) (A : Option Addr) (n c : Nat) (w : World) (hb : bulkReq l ≤ 2097152) (hK : ∀ r ∈ l, KeyOk kf r) (hr : Rd (Lt w.heap.size) w (slReq l) (.slice A n c)) (hR : Row32 w 0 64 kF) :
    Calls Tryd.prog 33 #[.slice A n c] w (EffPost (effS kf l) w) := by
  have hw0 : 0 < w.heap.size := World.block_lt_of_cell? w _ (hR 0 (by omega))
  have hl := slReq_len hr
  have hln := bulkReq_len l
  obtain ⟨i0, hi0, hz0, hz1, hz2⟩ := info_parts infoOut
  have HI := Lib.hid (And.intro hi0 (And.intro hz0 (And.intro hz1 hz2)))
  have HL := Lib.hid hl.1
  have hn : n ≤ 2097152 := by omega
  have HR := Lib.hid hr
  have HK := Lib.hid hK
  have HRR := Lib.hid hR
  clear hr hK hR hl hi0 hz0 hz1 hz2
  go_enter Tryd.func33, Tryd.ntmps33
  go_wp2_with fail
  go_loopw [3, 8] (fun s3 s8 wr => ∃ (i : Nat) (v : Value), i ≤ n ∧ s8 = .int .i64 i ∧ v = s3 ∧ Hid (Owned w.heap.size 45 5 i (rowsOut (effS kf (l.take i))) wr v) ∧ Hid (Below w.heap.size w wr)) (fun _ s8 _ => n - (intOf s8).toNat)
  case atStart => exact ⟨0, _, by omega, rfl, rfl, Lib.hid (Owned.nil _ _ _ _ _), Lib.hid (Below.refl _ _)⟩
  case round =>
    obtain ⟨i, vq, hi, rfl, hvq, HO, HB⟩ := hrel
    subst hvq
    have hbs := HB.out.size
    by_cases hlt : i < n
    · obtain ⟨b, off, r, e, hlb, hget, A2, c2, hat⟩ := slReq_at (HR.out.below HB.out (fun _ h => h)) hlt
      subst e
      obtain ⟨p0, p1, p2, p3, p4, p5, p6, p7, r2⟩ := hat
      have hkr := HK.out r (List.mem_of_getElem? hget)
      have hbk := hkr.1
      have hlbw : b < wr.heap.size := Nat.lt_of_lt_of_le hlb hbs
      have hba : Below wr.heap.size wr (wr.alloc (.cells #[.string r.path, .string r.name, .slice A2 r.args.length c2, .int .i64 r.ord, .string r.reply, .int .i64 r.sent, .int .i64 r.tick, .bool r.isopen] 42)) := (Below.refl _ _).alloc (Nat.le_refl _) _
      have hr1 : Rd (Lt (wr.alloc (.cells #[.string r.path, .string r.name, .slice A2 r.args.length c2, .int .i64 r.ord, .string r.reply, .int .i64 r.sent, .int .i64 r.tick, .bool r.isopen] 42)).drew.heap.size) (wr.alloc (.cells #[.string r.path, .string r.name, .slice A2 r.args.length c2, .int .i64 r.ord, .string r.reply, .int .i64 r.sent, .int .i64 r.tick, .bool r.isopen] 42)).drew (vs r.args) (.slice A2 r.args.length c2) := ((r2.weaken (ok' := Lt wr.heap.size) (fun b hb => Nat.lt_of_lt_of_le hb hbs)).allocs _).drew
      have hk1 : Row32 (wr.alloc (.cells #[.string r.path, .string r.name, .slice A2 r.args.length c2, .int .i64 r.ord, .string r.reply, .int .i64 r.sent, .int .i64 r.tick, .bool r.isopen] 42)).drew 0 64 kF := ((HRR.out.below HB.out hw0).below hba (by omega)).drew
      have HQ := Lib.hid (netkey_of hkr (wr.alloc (.cells #[.string r.path, .string r.name, .slice A2 r.args.length c2, .int .i64 r.ord, .string r.reply, .int .i64 r.sent, .int .i64 r.tick, .bool r.isopen] 42)).drew A2 c2 hr1 hk1)
      have R1 := Lib.hid hr1
      have HBA := Lib.hid hba
      have HGET := Lib.hid hget
      have hbx : (wr.alloc (.cells #[.string r.path, .string r.name, .slice A2 r.args.length c2, .int .i64 r.ord, .string r.reply, .int .i64 r.sent, .int .i64 r.tick, .bool r.isopen] 42)).heap[wr.heap.size]? = some (.cells #[.string r.path, .string r.name, .slice A2 r.args.length c2, .int .i64 r.ord, .string r.reply, .int .i64 r.sent, .int .i64 r.tick, .bool r.isopen] 42 (0, 0)) := heap_alloc_new wr _
      have HBX := Lib.hid hbx
      have hlt5 : wr.heap.size < (wr.alloc (.cells #[.string r.path, .string r.name, .slice A2 r.args.length c2, .int .i64 r.ord, .string r.reply, .int .i64 r.sent, .int .i64 r.tick, .bool r.isopen] 42)).drew.heap.size := (Array.getElem?_eq_some_iff.1 hbx).1
      have HLT := Lib.hid hlt5
      clear hlt5
      obtain ⟨xs, hown⟩ := HO.out.own
      have HW := Lib.hid hown
      have hvl : ∀ g, vq.ownBlock = some g → w.heap.size ≤ g ∧ g < wr.heap.size := fun g hg => hown.lt g hg
      have HVL := Lib.hid hvl
      clear hget r2 hkr hba hr1 hk1 hbx hown hvl
      have hmax : i + 1 ≤ maxLen := by unfold maxLen; omega
      have hbyt : (i + 1) * 72 ≤ 140737488355328 := by omega
      go_wp2_with fail
      go_region_held3 (fun w' => w'.cell? ⟨wr.heap.size, 0, none⟩ = some (.string r.path) ∧ w'.cell? ⟨wr.heap.size, 1, none⟩ = some (.string r.name) ∧ w'.cell? ⟨wr.heap.size, 2, none⟩ = some (.slice A2 r.args.length c2) ∧ w'.cell? ⟨wr.heap.size, 3, none⟩ = some (.int .i64 r.ord) ∧ w'.cell? ⟨wr.heap.size, 4, none⟩ = some (.string r.reply) ∧ w'.cell? ⟨wr.heap.size, 5, none⟩ = some (.int .i64 r.sent) ∧ w'.cell? ⟨wr.heap.size, 6, none⟩ = some (.int .i64 r.tick) ∧ w'.cell? ⟨wr.heap.size, 7, none⟩ = some (.bool r.isopen))
        (first | go_keep)
        (first
          | (go_at_call 20; go_loud (refine HQ.out.mono ?_; rintro e w4 ⟨rfl, hb4⟩; have hbx4 : w4.heap[wr.heap.size]? = some (.cells #[.string r.path, .string r.name, .slice A2 r.args.length c2, .int .i64 r.ord, .string r.reply, .int .i64 r.sent, .int .i64 r.tick, .bool r.isopen] 42 (0, 0)) := (hb4.block wr.heap.size HLT.out).trans HBX.out; have zw40 : w4.cell? ⟨wr.heap.size, 0, none⟩ = some (.string r.path) := (Lib.cell_of_heap hbx4 0).trans rfl; have zw41 : w4.cell? ⟨wr.heap.size, 1, none⟩ = some (.string r.name) := (Lib.cell_of_heap hbx4 1).trans rfl; have zw42 : w4.cell? ⟨wr.heap.size, 2, none⟩ = some (.slice A2 r.args.length c2) := (Lib.cell_of_heap hbx4 2).trans rfl; have zw43 : w4.cell? ⟨wr.heap.size, 3, none⟩ = some (.int .i64 r.ord) := (Lib.cell_of_heap hbx4 3).trans rfl; have zw44 : w4.cell? ⟨wr.heap.size, 4, none⟩ = some (.string r.reply) := (Lib.cell_of_heap hbx4 4).trans rfl; have zw45 : w4.cell? ⟨wr.heap.size, 5, none⟩ = some (.int .i64 r.sent) := (Lib.cell_of_heap hbx4 5).trans rfl; have zw46 : w4.cell? ⟨wr.heap.size, 6, none⟩ = some (.int .i64 r.tick) := (Lib.cell_of_heap hbx4 6).trans rfl; have zw47 : w4.cell? ⟨wr.heap.size, 7, none⟩ = some (.bool r.isopen) := (Lib.cell_of_heap hbx4 7).trans rfl; have R4 := Lib.hid (R1.out.belows hb4); have B4 := Lib.hid hb4; clear hb4 hbx4))
          | (go_at_call 48; refine (clone_values R4.out hbk).mono ?_; rintro e w5 ⟨v5, rfl, hr5, hb5⟩; have hbx5 : w5.heap[wr.heap.size]? = some (.cells #[.string r.path, .string r.name, .slice A2 r.args.length c2, .int .i64 r.ord, .string r.reply, .int .i64 r.sent, .int .i64 r.tick, .bool r.isopen] 42 (0, 0)) := (hb5.block wr.heap.size (Nat.lt_of_lt_of_le HLT.out B4.out.size)).trans ((B4.out.block wr.heap.size HLT.out).trans HBX.out); have zw50 : w5.cell? ⟨wr.heap.size, 0, none⟩ = some (.string r.path) := (Lib.cell_of_heap hbx5 0).trans rfl; have zw51 : w5.cell? ⟨wr.heap.size, 1, none⟩ = some (.string r.name) := (Lib.cell_of_heap hbx5 1).trans rfl; have zw52 : w5.cell? ⟨wr.heap.size, 2, none⟩ = some (.slice A2 r.args.length c2) := (Lib.cell_of_heap hbx5 2).trans rfl; have zw53 : w5.cell? ⟨wr.heap.size, 3, none⟩ = some (.int .i64 r.ord) := (Lib.cell_of_heap hbx5 3).trans rfl; have zw54 : w5.cell? ⟨wr.heap.size, 4, none⟩ = some (.string r.reply) := (Lib.cell_of_heap hbx5 4).trans rfl; have zw55 : w5.cell? ⟨wr.heap.size, 5, none⟩ = some (.int .i64 r.sent) := (Lib.cell_of_heap hbx5 5).trans rfl; have zw56 : w5.cell? ⟨wr.heap.size, 6, none⟩ = some (.int .i64 r.tick) := (Lib.cell_of_heap hbx5 6).trans rfl; have zw57 : w5.cell? ⟨wr.heap.size, 7, none⟩ = some (.bool r.isopen) := (Lib.cell_of_heap hbx5 7).trans rfl; obtain ⟨A5, c5, rfl, _⟩ := hr5.sl_inv; have R5 := Lib.hid hr5; have B5 : Hid (Below wr.heap.size wr w5) := Lib.hid (HBA.out.drew.trans ((B4.out.mono (Nat.le_of_lt HLT.out)).trans (hb5.mono (Nat.le_trans (Nat.le_of_lt HLT.out) B4.out.size)))); have X5 := Lib.hid (fun o => own_below HW.out (B5.out.alloc B5.out.size o)); have N5 := Lib.hid (eff5_news w5 kf r A5 c5); have S5 : Hid (w.heap.size ≤ (w5.alloc (.cells #[.string (kf r), .string r.name, .slice A5 r.args.length c5, .bool false, .int .i64 r.tick] 45)).heap.size) := Lib.hid (Nat.le_trans hbs (Nat.le_trans B5.out.size (by rw [World.size_alloc]; omega))); have HBQ5 := Lib.hid hbx5; clear hb5 hr5 hbx5)
          | (refine step_append_lies _ (by rfl) _ _ _ (by rfl) w.heap.size 45 i0 _ 5 72 Tryd.underlying22 HI.out.1 HI.out.2.1 HI.out.2.2.1 HI.out.2.2.2 rfl (by omega) vq i xs (by rfl) (X5.out (.cells #[.string (kf r), .string r.name, .slice A5 r.args.length c5, .bool false, .int .i64 r.tick] 45)) ⟨w5.heap.size, 0, none⟩ 1 1 (eff5 kf r A5 c5) (by rfl) (by rfl) N5.out (eff5_one kf r A5 c5) (by omega) hmax hbyt S5.out (w5.heap.size + 1) (by simp) ?_; intro gg cap w6 hown6 hgrow hat6 hlt6; have hbx6 : w6.heap[wr.heap.size]? = some (.cells #[.string r.path, .string r.name, .slice A2 r.args.length c2, .int .i64 r.ord, .string r.reply, .int .i64 r.sent, .int .i64 r.tick, .bool r.isopen] 42 (0, 0)) := (hgrow.block wr.heap.size (Nat.lt_of_lt_of_le (Array.getElem?_eq_some_iff.1 HBQ5.out).1 (by rw [World.size_alloc]; omega)) (fun h => absurd (HVL.out _ h.symm).2 (Nat.lt_irrefl _))).trans ((Below.heap_alloc w5 _ wr.heap.size (Array.getElem?_eq_some_iff.1 HBQ5.out).1).trans HBQ5.out); have zw60 : w6.cell? ⟨wr.heap.size, 0, none⟩ = some (.string r.path) := (Lib.cell_of_heap hbx6 0).trans rfl; have zw61 : w6.cell? ⟨wr.heap.size, 1, none⟩ = some (.string r.name) := (Lib.cell_of_heap hbx6 1).trans rfl; have zw62 : w6.cell? ⟨wr.heap.size, 2, none⟩ = some (.slice A2 r.args.length c2) := (Lib.cell_of_heap hbx6 2).trans rfl; have zw63 : w6.cell? ⟨wr.heap.size, 3, none⟩ = some (.int .i64 r.ord) := (Lib.cell_of_heap hbx6 3).trans rfl; have zw64 : w6.cell? ⟨wr.heap.size, 4, none⟩ = some (.string r.reply) := (Lib.cell_of_heap hbx6 4).trans rfl; have zw65 : w6.cell? ⟨wr.heap.size, 5, none⟩ = some (.int .i64 r.sent) := (Lib.cell_of_heap hbx6 5).trans rfl; have zw66 : w6.cell? ⟨wr.heap.size, 6, none⟩ = some (.int .i64 r.tick) := (Lib.cell_of_heap hbx6 6).trans rfl; have zw67 : w6.cell? ⟨wr.heap.size, 7, none⟩ = some (.bool r.isopen) := (Lib.cell_of_heap hbx6 7).trans rfl; have HW6 := Lib.hid (And.intro hown6 (And.intro hgrow hat6)); clear hbx6 hown6 hgrow hat6))
      have O6 : Hid (Owned w.heap.size 45 5 (i + 1) (rowsOut (effS kf (l.take (i + 1)))) w6 (.slice (some ⟨gg, 0, none⟩) (i + 1) cap)) := Lib.hid (by
        have hO5 : Owned w.heap.size 45 5 i (rowsOut (effS kf (l.take i))) (w5.alloc (.cells #[.string (kf r), .string r.name, .slice A5 r.args.length c5, .bool false, .int .i64 r.tick] 45)) vq := HO.out.below (B5.out.alloc B5.out.size _)
        have hlen : (effS kf (l.take i)).length = i := by unfold effS; rw [List.length_map, List.length_take]; have := HL.out; omega
        have hat : vq.ownBlock = some gg ∨ gg = (w5.alloc (.cells #[.string (kf r), .string r.name, .slice A5 r.args.length c5, .bool false, .int .i64 r.tick] 45)).heap.size := HW6.out.2.2.elim .inl (fun h => .inr (by rw [h, World.size_alloc]))
        refine hO5.append (X5.out _) HW6.out.1 HW6.out.2.1 hat rfl (fun a ha => ?_) (fun j u hj => ?_)
        · rw [effS_take kf l i r HGET.out, rowsOut_append _ _ a (by omega)]
        · have h1 : rowsOut (effS kf (l.take (i + 1))) i = (effR kf r).row := by
            rw [effS_take kf l i r HGET.out]
            have := rowsOut_last (effS kf (l.take i)) (effR kf r)
            rwa [hlen] at this
          rw [h1]
          have hb6 : Below w5.heap.size w5 (w5.alloc (.cells #[.string (kf r), .string r.name, .slice A5 r.args.length c5, .bool false, .int .i64 r.tick] 45)) := (Below.refl _ _).alloc (Nat.le_refl _) _
          refine eff5_rd ((R5.out.below hb6 (fun b hb => hb.2)).weaken (fun b hb => ?_)) j u hj
          have hw4 : wr.heap.size ≤ w4.heap.size := Nat.le_trans (Nat.le_of_lt HLT.out) B4.out.size
          refine ⟨⟨Nat.le_trans hbs (Nat.le_trans hw4 hb.1), Nat.lt_of_lt_of_le hb.2 hb6.size⟩, fun h => ?_⟩
          have h1 := (HVL.out b h.symm).2
          have h2 := hb.1
          omega)
      have B6 : Hid (Below w.heap.size w w6) := Lib.hid ((HB.out.trans ((B5.out.alloc B5.out.size (.cells #[.string (kf r), .string r.name, .slice A5 r.args.length c5, .bool false, .int .i64 r.tick] 45)).mono hbs)).grown HW6.out.2.1 S5.out (fun k hk => (HVL.out k hk).1))
      go_wp2_with fail
      exact ⟨⟨i + 1, _, by omega, by go_num, rfl, O6, B6⟩, by simp [intOf]; omega⟩
    · obtain rfl : i = n := by omega
      go_wp2_with fail
      go_ret
      refine ⟨_, rfl, ?_, HB.out⟩
      have := HO.out
      rw [HL.out, List.take_length] at this
      have hl2 : (effS kf l).length = l.length := by unfold effS; simp
      rw [hl2]
      exact this
end Go.Proofs.YtlnfdpdancolmaaDoor
namespace Go.Proofs.YtlnfdpdancolmaaDoor
open Go.RowKit

theorem bulkReq_append (a b : List Req) : bulkReq (a ++ b) = bulkReq a + bulkReq b := by unfold bulkReq; rw [List.map_append, List.sum_append]
theorem onlyTo_bulk (a b : List Req) : ∀ n, bulkReq (onlyTo a b n) ≤ bulkReq (a.take n)
  | 0 => by simp [onlyTo, bulkReq]
  | n + 1 => by
    have := onlyTo_bulk a b n
    rw [onlyTo_succ, List.take_add_one, bulkReq_append, bulkReq_append]
    split
    · have : bulkReq ([] : List Req) = 0 := rfl
      omega
    · omega
theorem onlyS_bulk (a b : List Req) : bulkReq (onlyS a b) ≤ bulkReq a := by
  have := onlyTo_bulk a b a.length
  rwa [List.take_length] at this
theorem onlyTo_mem (a b : List Req) (r : Req) : ∀ n, r ∈ onlyTo a b n → r ∈ a := by
  intro n h
  unfold onlyTo at h
  obtain ⟨i, _, hi⟩ := List.mem_filterMap.1 h
  split at hi
  · cases hi
  · exact List.mem_of_getElem? hi
def DiffPost (kf : Req → ByteArray) (a b : List Req) (w : World) (e : Ending) (w' : World) : Prop :=
  ∃ v1 v2, e = .returned (.tuple #[v1, v2]) ∧ Owned w.heap.size 45 5 (effS kf (onlyS a b)).length (rowsOut (effS kf (onlyS a b))) w' v1 ∧ Owned w.heap.size 45 5 (effS kf (onlyS b a)).length (rowsOut (effS kf (onlyS b a))) w' v2 ∧ Below w.heap.size w w'
theorem rd_slice {ok : Nat → Prop} {w : World} {l : List Req} {v : Value} (h : Rd ok w (slReq l) v) : ∃ A n c, v = .slice A n c := by
  obtain ⟨A, c, e, _⟩ := h.sl_inv
  exact ⟨A, _, c, e⟩

set_option maxHeartbeats 2000000 in
theorem diff_any (kf : Req → ByteArray) (l l' : List Req) (A : Option Addr) (n c : Nat) (A' : Option Addr) (n' c' : Nat) (w : World) (hb : bulkReq l ≤ 2097152) (hb' : bulkReq l' ≤ 2097152) (hK : ∀ r ∈ l, KeyOk kf r) (hK' : ∀ r ∈ l', KeyOk kf r) (hC : Compat kf)
    (hr : Rd (Lt w.heap.size) w (slReq l) (.slice A n c)) (hr' : Rd (Lt w.heap.size) w (slReq l') (.slice A' n' c')) (hR : Row32 w 0 64 kF) :
    Calls Tryd.prog 18 #[.slice A n c, .slice A' n' c'] w (DiffPost kf l l' w) := by
  have hw0 : 0 < w.heap.size := World.block_lt_of_cell? w _ (hR 0 (by omega))
  have H1 := Lib.hid (only_any kf l l' A n c A' n' c' w hb hb' hK hK' hC hr hr' hR)
  have H2 := Lib.hid (fun W h1 h2 h3 => only_any kf l' l A' n' c' A n c W hb' hb hK' hK hC h1 h2 h3)
  have H3 := Lib.hid (fun W A n c h1 h2 => effects_any kf (onlyS l l') A n c W (Nat.le_trans (onlyS_bulk l l') hb) (fun r hr => hK r (onlyTo_mem _ _ _ _ hr)) h1 h2)
  have H4 := Lib.hid (fun W A n c h1 h2 => effects_any kf (onlyS l' l) A n c W (Nat.le_trans (onlyS_bulk l' l) hb') (fun r hr => hK' r (onlyTo_mem _ _ _ _ hr)) h1 h2)
  have HR := Lib.hid hr
  have HR' := Lib.hid hr'
  have HRR := Lib.hid hR
  clear hr hr' hR hK hK' hC
  go_enter Tryd.func18, Tryd.ntmps18
  go_wp2_with fail
  (with_reducible refine H1.out.mono ?_)
  rintro e w1 ⟨v1, rfl, hr1, hb1⟩
  obtain ⟨A1, n1, c1, rfl⟩ := rd_slice hr1
  have HR1 := Lib.hid hr1
  have HB1 := Lib.hid hb1
  clear hr1 hb1
  go_wp2_with fail
  (with_reducible refine (H3.out w1 A1 n1 c1 HR1.out ?_).mono ?_)
  · exact HRR.out.below HB1.out hw0
  rintro e w2 ⟨v2, rfl, ho2, hb2⟩
  have HO2 := Lib.hid (ho2.lower HB1.out.size)
  have HB2 := Lib.hid (HB1.out.trans (hb2.mono HB1.out.size))
  clear ho2 hb2
  go_wp2_with fail
  (with_reducible refine (H2.out w2 ?_ ?_ ?_).mono ?_)
  · exact HR'.out.belows HB2.out
  · exact HR.out.belows HB2.out
  · exact HRR.out.below HB2.out hw0
  rintro e w3 ⟨v3, rfl, hr3, hb3⟩
  obtain ⟨A3, n3, c3, rfl⟩ := rd_slice hr3
  have HR3 := Lib.hid hr3
  have HO3 := Lib.hid (HO2.out.below hb3)
  have HB3 := Lib.hid (HB2.out.trans (hb3.mono HB2.out.size))
  clear hr3 hb3
  go_wp2_with fail
  (with_reducible refine (H4.out w3 A3 n3 c3 HR3.out ?_).mono ?_)
  · exact HRR.out.below HB3.out hw0
  rintro e w4 ⟨v4, rfl, ho4, hb4⟩
  have HO4 := Lib.hid (ho4.lower HB3.out.size)
  have HO5 := Lib.hid (HO3.out.below hb4)
  have HB4 := Lib.hid (HB3.out.trans (hb4.mono HB3.out.size))
  clear ho4 hb4
  go_wp2_with fail
  go_ret2
  exact ⟨v2, v4, rfl, HO5.out, HO4.out, HB4.out⟩
end Go.Proofs.YtlnfdpdancolmaaDoor
namespace Go.Proofs.YtlnfdpdancolmaaDoor
open Go.RowKit

/-- equal but for the tick -/
def eqO (a b : Out) : Bool := (a.key.toList == b.key.toList) && ((a.name.toList == b.name.toList) && ((a.part == b.part) && eqVs a.args b.args))
theorem eqO_iff (a b : Out) : eqO a b = true ↔ a.key = b.key ∧ a.name = b.name ∧ a.part = b.part ∧ a.args = b.args := by
  unfold eqO
  simp only [Bool.and_eq_true, beq_iff_eq, eqVs_iff]
  constructor
  · rintro ⟨h1, h2, h3, h4⟩; exact ⟨bytes_ext h1, bytes_ext h2, h3, h4⟩
  · rintro ⟨h1, h2, h3, h4⟩; exact ⟨by rw [h1], by rw [h2], h3, h4⟩

set_option maxHeartbeats 4000000 in
theorem nequal_any (x y : Out) (A : Option Addr) (c : Nat) (A' : Option Addr) (c' : Nat) (w : World) (hb : bulkV x.args ≤ 2097152) (hb' : bulkV y.args ≤ 2097152)
    (hr : Rd (Lt w.heap.size) w (vs x.args) (.slice A x.args.length c)) (hr' : Rd (Lt w.heap.size) w (vs y.args) (.slice A' y.args.length c')) :
    Calls Tryd.prog 41 #[.agg #[.string x.key, .string x.name, .slice A x.args.length c, .bool x.part, .int .i64 x.tick], .agg #[.string y.key, .string y.name, .slice A' y.args.length c', .bool y.part, .int .i64 y.tick]] w
      fun e w' => e = .returned (.bool (eqO x y)) ∧ Below w.heap.size w w' := by
  have HS := sameOk hb
  unfold SameOk at HS
  have HC := Lib.hid (HS y.args A A' x.args.length y.args.length c c')
  have HR := Lib.hid hr
  have HR' := Lib.hid hr'
  clear hr hr' HS
  have HU : Hid (eqO x y = ((x.key.toList == y.key.toList) && ((x.name.toList == y.name.toList) && ((x.part == y.part) && eqVs x.args y.args)))) := Lib.hid rfl
  generalize eqO x y = R at *
  have fin : ∀ a b : Obj, Below w.heap.size w ((w.alloc a).alloc b) := fun a b => ((Below.refl _ _).alloc (Nat.le_refl _) _).alloc (by simp) _
  have FIN := Lib.hid fin
  clear fin
  cases h1 : (x.key.toList == y.key.toList) with
  | false =>
    rw [h1] at HU
    go_enter Tryd.func41, Tryd.ntmps41
    go_wp2_with fail
    go_ret
    exact ⟨by rw [HU.out]; rfl, FIN.out _ _⟩
  | true =>
    rw [h1] at HU
    cases h2 : (x.name.toList == y.name.toList) with
    | false =>
      rw [h2] at HU
      go_enter Tryd.func41, Tryd.ntmps41
      go_wp2_with fail
      go_ret
      exact ⟨by rw [HU.out]; rfl, FIN.out _ _⟩
    | true =>
      rw [h2] at HU
      cases h3 : (x.part == y.part) with
      | false =>
        rw [h3] at HU
        go_enter Tryd.func41, Tryd.ntmps41
        go_wp2_with fail
        go_ret
        exact ⟨by rw [HU.out]; rfl, FIN.out _ _⟩
      | true =>
        rw [h3] at HU
        go_enter Tryd.func41, Tryd.ntmps41
        go_wp2_with fail
        (with_reducible refine (HC.out _ hb' ?_ ?_).mono ?_)
        · exact (HR.out.allocs _).allocs _
        · exact (HR'.out.allocs _).allocs _
        rintro e w1 ⟨rfl, hb1⟩
        have HB1 := Lib.hid hb1
        clear hb1
        go_wp2_with fail
        go_ret
        exact ⟨by rw [HU.out]; simp, (FIN.out _ _).trans (HB1.out.mono (by simp; omega))⟩

/-- block ob holds y -/
def OutIn (w : World) (ob : Nat) (y : Out) (A' : Option Addr) (c' : Nat) : Prop := w.heap[ob]? = some (.cells #[.string y.key, .string y.name, .slice A' y.args.length c', .bool y.part, .int .i64 y.tick] 45 (0, 0)) ∧ Rd (Lt w.heap.size) w (vs y.args) (.slice A' y.args.length c')
theorem OutIn.below {w w' : World} {ob : Nat} {y : Out} {A' : Option Addr} {c' : Nat} (h : OutIn w ob y A' c') (hb : Below w.heap.size w w') : OutIn w' ob y A' c' :=
  ⟨(hb.block ob (Array.getElem?_eq_some_iff.1 h.1).1).trans h.1, h.2.belows hb⟩

set_option maxHeartbeats 2000000 in
theorem same1_any (x y : Out) (A : Option Addr) (c : Nat) (A' : Option Addr) (c' ob : Nat) (w : World) (hb : bulkV x.args ≤ 2097152) (hb' : bulkV y.args ≤ 2097152)
    (hr : Rd (Lt w.heap.size) w (vs x.args) (.slice A x.args.length c)) (ho : OutIn w ob y A' c') :
    Calls Tryd.prog 40 #[.agg #[.string x.key, .string x.name, .slice A x.args.length c, .bool x.part, .int .i64 x.tick], .pointer (some ⟨ob, 0, none⟩)] w fun e w' => e = .returned (.bool (eqO x y)) ∧ Below w.heap.size w w' := by
  have hol : ob < w.heap.size := (Array.getElem?_eq_some_iff.1 ho.1).1
  have hbx := (Below.heap_alloc w (.cells #[.string x.key, .string x.name, .slice A x.args.length c, .bool x.part, .int .i64 x.tick] 45) ob hol).trans ho.1
  have q0 := (Lib.cell_of_heap hbx 0).trans rfl
  have q1 := (Lib.cell_of_heap hbx 1).trans rfl
  have q2 := (Lib.cell_of_heap hbx 2).trans rfl
  have q3 := (Lib.cell_of_heap hbx 3).trans rfl
  have q4 := (Lib.cell_of_heap hbx 4).trans rfl
  have HK := Lib.hid (nequal_any x y A c A' c' _ hb hb' (hr.allocs (.cells #[.string x.key, .string x.name, .slice A x.args.length c, .bool x.part, .int .i64 x.tick] 45)) (ho.2.allocs _))
  have hne : w.heap.size ≠ ob := by omega
  clear hbx ho hr
  go_enter Tryd.func40, Tryd.ntmps40
  go_wp2_with fail
  (with_reducible refine HK.out.mono ?_)
  rintro e w1 ⟨rfl, hb1⟩
  have HB := Lib.hid hb1
  clear hb1
  go_wp2_with fail
  go_ret
  exact ⟨rfl, ((Below.refl _ _).alloc (Nat.le_refl _) _).trans (HB.out.mono (by simp))⟩

set_option maxHeartbeats 2000000 in
theorem indexSame (l : List Out) (A : Option Addr) (n c : Nat) (y : Out) (A' : Option Addr) (c' ob : Nat) (w : World) (hr : Rd (Lt w.heap.size) w (slOut l) (.slice A n c)) (hn : n ≤ 4194304) (hbl : ∀ x ∈ l, bulkV x.args ≤ 2097152) (hb' : bulkV y.args ≤ 2097152) (ho : OutIn w ob y A' c') :
    Calls Tryd.prog 39 #[.slice A n c, .func (.func 40) #[] #[.pointer (some ⟨ob, 0, none⟩)]] w (IdxPost (fun x => eqO x y) l w) := by
  have hl := slOut_len hr
  have HR := Lib.hid hr
  have HL := Lib.hid hl.1
  have HO := Lib.hid ho
  have HBL := Lib.hid hbl
  clear hr hl ho hbl
  go_enter Tryd.func39, Tryd.ntmps39
  go_wp2_with fail
  go_loopw [8] (fun i wr => ∃ k : Nat, k ≤ n ∧ i = .int .i64 k ∧ Hid (∀ (i : Nat) (x : Out), i < k → l[i]? = some x → eqO x y = false) ∧ Hid (Below w.heap.size w wr)) (fun i _ => n - (intOf i).toNat)
  case atStart => exact ⟨0, by omega, rfl, Lib.hid (fun i y h => absurd h (by omega)), Lib.hid (Below.refl _ _)⟩
  case round =>
    obtain ⟨k, hk, rfl, HN, HB⟩ := hrel
    by_cases hlt : k < n
    · obtain ⟨b, off, x, e, hlb, hget, A2, c2, h2⟩ := slOut_at (HR.out.belows HB.out) hlt
      subst e
      obtain ⟨d0, d1, d2, d3, d4, r2⟩ := h2
      have HG := Lib.hid hget
      have HC := Lib.hid (same1_any x y A2 c2 A' c' ob wr (HBL.out x (List.mem_of_getElem? hget)) hb' r2 (HO.out.below HB.out))
      clear hget r2
      cases hp : eqO x y with
      | true =>
        have HI := Lib.hid (idx_yes (p := fun x => eqO x y) HN.out HG.out hp)
        rw [hp] at HC
        clear hp
        go_wp2_with fail
        (with_reducible refine HC.out.mono ?_)
        rintro e w4 ⟨rfl, hb4⟩
        have B4 := Lib.hid (HB.out.trans (hb4.mono HB.out.size))
        clear hb4
        go_wp2_with fail
        go_ret
        exact ⟨by rw [HI.out]; rfl, B4.out⟩
      | false =>
        have HI : Hid (∀ (i : Nat) (x : Out), i < k + 1 → l[i]? = some x → eqO x y = false) := Lib.hid (fun i z h hz => by
          rcases Nat.lt_or_ge i k with h1 | h1
          · exact HN.out i z h1 hz
          · obtain rfl : i = k := by omega
            rw [HG.out] at hz
            injection hz with hz
            rw [← hz]; exact hp)
        rw [hp] at HC
        clear hp
        go_wp2_with fail
        (with_reducible refine HC.out.mono ?_)
        rintro e w4 ⟨rfl, hb4⟩
        have B4 := Lib.hid (HB.out.trans (hb4.mono HB.out.size))
        clear hb4
        go_wp2_with fail
        exact ⟨⟨k + 1, by omega, by go_num, HI, B4⟩, by simp [intOf]; omega⟩
    · have HI := Lib.hid (idx_no (p := fun x => eqO x y) (l := l) (fun i z hz => HN.out i z (by
        have := (List.getElem?_eq_some_iff.1 hz).1
        have := HL.out
        omega) hz))
      go_wp2_with fail
      go_ret
      exact ⟨by rw [HI.out]; rfl, HB.out⟩
end Go.Proofs.YtlnfdpdancolmaaDoor
