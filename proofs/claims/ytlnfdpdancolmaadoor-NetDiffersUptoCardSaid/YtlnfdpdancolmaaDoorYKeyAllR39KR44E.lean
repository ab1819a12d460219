/- match.Key at every request that is not too large. Conditions: those in each statement. ref39.Key and ref44.Key: they come to what match.Key comes to. Conditions: those in each statement. ref44.Effects and ref44.Diff. Conditions: those in each statement. -/
import Derived.Test.YtlnfdpdancolmaaDoorYNode
import Derived.Test.YtlnfdpdancolmaaDoorYSmallPOpen
import Derived.Test.YtlnfdpdancolmaaDoorYR12CR39P
import Derived.Test.YtlnfdpdancolmaaDoorYHexR03GBuilder
import Derived.Test.YtlnfdpdancolmaaDoorYR39OR03A
import Derived.Test.YtlnfdpdancolmaaDoorYPlainNRefA
import Derived.Test.YtlnfdpdancolmaaDoorYEffectsDiffNetEq
namespace Go.Proofs.YtlnfdpdancolmaaDoor
open Go.RowKit

theorem bytesOk_all (v : V) (hb : v.bulk ≤ 2097152) (hwf : v.Wf) : BytesOk (bytesP nodeP) v := by
  refine ⟨?_, fun k t n m s l h W A c hr => ?_⟩
  · unfold bytesP
    split
    · have := bytesV_len v
      simpa [ByteArray.size] using this
    · exact Nat.zero_le _
  · subst h
    exact bytes_of nodeP k t n m s l A c W hb hwf (nodeOk_all _ hb) hr
/-- the key of a request -/
def kfG : Req → ByteArray := keyS (bytesP nodeP)
theorem compat_kfG : Compat kfG := compat_keyS _
theorem bulkV_mem {l : List V} {v : V} (h : v ∈ l) : v.bulk ≤ bulkV l := by
  obtain ⟨i, hi⟩ := List.mem_iff_getElem?.1 h
  exact bulkV_get l i v hi
theorem WfV_mem {l : List V} {v : V} (hw : WfV l) (h : v ∈ l) : v.Wf := by
  obtain ⟨i, hi⟩ := List.mem_iff_getElem?.1 h
  exact WfV_get l i v hw hi
theorem keyOk_all (r : Req) (hb : r.bulk ≤ 2097152) (hwf : WfV r.args) : KeyOk kfG r :=
  ⟨by unfold Req.bulk at hb; omega, fun W A c hr hR => key_any (bytesP nodeP) r A c W hb (fun v hv => bytesOk_all v (by
    have := bulkV_mem hv
    unfold Req.bulk at hb
    omega) (WfV_mem hwf hv)) hr hR⟩
theorem kfG_size (r : Req) : (kfG r).size = 64 := by
  unfold kfG keyS hexS
  rw [strOfNums_size]; simp
end Go.Proofs.YtlnfdpdancolmaaDoor
namespace Go.Proofs.YtlnfdpdancolmaaDoor
open Go.RowKit Go.Sort

set_option maxHeartbeats 4000000 in
set_option maxRecDepth 100000 in
theorem rkey_any (r : Req) (A : Option Addr) (c : Nat) (w : World) (hb : r.bulk ≤ 2097152) (hwf : WfV r.args) (hr : Rd (Lt w.heap.size) w (vs r.args) (.slice A r.args.length c)) :
    Calls Tryd.prog 38 #[.agg #[.string r.path, .string r.name, .slice A r.args.length c, .int .i64 r.ord, .string r.reply, .int .i64 r.sent, .int .i64 r.tick, .bool r.isopen]] w fun e w' => e = .returned (.string (kfG r)) ∧ Below w.heap.size w w' := by
  unfold Req.bulk at hb
  have hll := bulkV_len r.args
  have HR := Lib.hid hr
  have HWF := Lib.hid hwf
  have HBO := Lib.hid (fun v (hv : v ∈ r.args) => (bytesOk_all v (by have := bulkV_mem hv; omega) (WfV_mem hwf hv)).1)
  have h0 := textB_size r.path
  have h1 := textB_size r.name
  have h2 := intB_size r.ord
  have h3 := numB_size r.args.length
  obtain ⟨W, hW⟩ : ∃ W, w.alloc (.cells #[.string r.path, .string r.name, .slice A r.args.length c, .int .i64 r.ord, .string r.reply, .int .i64 r.sent, .int .i64 r.tick, .bool r.isopen] 42) = W := ⟨_, rfl⟩
  have hbx : W.heap[w.heap.size]? = some (.cells #[.string r.path, .string r.name, .slice A r.args.length c, .int .i64 r.ord, .string r.reply, .int .i64 r.sent, .int .i64 r.tick, .bool r.isopen] 42 (0, 0)) := by rw [← hW]; exact heap_alloc_new w _
  have HBX := Lib.hid hbx
  have HWB : Hid (Below w.heap.size w W) := Lib.hid (by rw [← hW]; exact (Below.refl _ _).alloc (Nat.le_refl _) _)
  have HWZ : Hid (W.heap.size = w.heap.size + 1) := Lib.hid (by rw [← hW]; simp)
  have c0 : ∀ d os, (grow (redrawn W d) os).cell? ⟨w.heap.size, 0, none⟩ = some (.string r.path) := fun d os => cell_regrown (by rw [Lib.cell_of_heap hbx]; rfl) d os
  have c1 : ∀ d os, (grow (redrawn W d) os).cell? ⟨w.heap.size, 1, none⟩ = some (.string r.name) := fun d os => cell_regrown (by rw [Lib.cell_of_heap hbx]; rfl) d os
  have c2 : ∀ d os, (grow (redrawn W d) os).cell? ⟨w.heap.size, 2, none⟩ = some (.slice A r.args.length c) := fun d os => cell_regrown (by rw [Lib.cell_of_heap hbx]; rfl) d os
  have c3 : ∀ d os, (grow (redrawn W d) os).cell? ⟨w.heap.size, 3, none⟩ = some (.int .i64 r.ord) := fun d os => cell_regrown (by rw [Lib.cell_of_heap hbx]; rfl) d os
  have K0 := Lib.hid (fun d os => Calls.regrown_of (rtext_any r.path (by omega) (grow (redrawn W d) os)))
  have K1 := Lib.hid (fun d os => Calls.regrown_of (rtext_any r.name (by omega) (grow (redrawn W d) os)))
  have K2 := Lib.hid (fun d os => Calls.regrown_of (rint_any r.ord (grow (redrawn W d) os)))
  have K3 := Lib.hid (fun d os => Calls.regrown_of (rnum_any r.args.length (by omega) (grow (redrawn W d) os)))
  have HY : Hid (keyB (bytesP nodeP) r = (textB r.path ++ textB r.name ++ intB r.ord ++ numB r.args.length).data.toList ++ textsF (bytesP nodeP) r.args) := Lib.hid (by unfold keyB; simp [ByteArray.data_append])
  obtain ⟨x0, e0⟩ : ∃ x, textB r.path = x := ⟨_, rfl⟩
  obtain ⟨x1, e1⟩ : ∃ x, textB r.name = x := ⟨_, rfl⟩
  obtain ⟨x2, e2⟩ : ∃ x, intB r.ord = x := ⟨_, rfl⟩
  obtain ⟨x3, e3⟩ : ∃ x, numB r.args.length = x := ⟨_, rfl⟩
  rw [e0, e1, e2, e3] at HY
  rw [e0] at h0 K0
  rw [e1] at h1 K1
  rw [e2] at h2 K2
  rw [e3] at h3 K3
  have z1 : ¬ 9223372036854775807 < x0.size + x1.size := by omega
  have z2 : ¬ 9223372036854775807 < x0.size + x1.size + x2.size := by omega
  have z3 : ¬ 9223372036854775807 < x0.size + x1.size + x2.size + x3.size := by omega
  clear hr hwf hbx e0 e1 e2 e3
  go_enter Tryd.func38, Tryd.ntmps38
  go_wp2_with fail
  clear hW
  refine wp_region_quiet_below (by kernel_rfl) (by kernel_rfl) ?_
  repeat (quiet_step (first | with_reducible exact K0.out _ _ | with_reducible exact K1.out _ _ | with_reducible exact K2.out _ _ | with_reducible exact K3.out _ _))
  refine wpQuiet_nil ?_
  intro _ hw'
  obtain ⟨⟨dq, osq⟩, hw''⟩ := hw'
  subst hw''
  clear c0 c1 c2 c3 K0 K1 K2 K3
  have hb1 := below_regrown W dq osq
  obtain ⟨w1, hw1⟩ : ∃ w1, grow (redrawn W dq) osq = w1 := ⟨_, rfl⟩
  rw [hw1] at hb1 ⊢
  have HB2 := Lib.hid hb1
  clear hw1 hb1
  obtain ⟨hd, hhd⟩ : ∃ hd, x0 ++ x1 ++ x2 ++ x3 = hd := ⟨_, rfl⟩
  have hhs : hd.size ≤ 36 + r.path.size + r.name.size := by rw [← hhd]; simp only [ByteArray.size_append]; omega
  have HH := Lib.hid hhd
  rw [hhd] at HY
  go_wp2_with fail
  rw [HH.out]
  clear hhd HH z1 z2 z3 h0 h1 h2 h3
  go_loopw [3, 4] (fun s3 s4 wr => ∃ (i : Nat) (acc : ByteArray), i ≤ r.args.length ∧ s4 = .int .i64 i ∧ s3 = .string acc ∧ Hid (acc.data.toList = hd.data.toList ++ textsF (bytesP nodeP) (r.args.take i)) ∧ Hid (Below W.heap.size W wr)) (fun _ s4 _ => r.args.length - (intOf s4).toNat)
  case atStart => exact ⟨0, hd, by omega, rfl, rfl, Lib.hid (by simp [textsF]), HB2⟩
  case round =>
    obtain ⟨i, acc, hi, rfl, rfl, HQ, HB⟩ := hrel
    have hbw : Below w.heap.size w wr := HWB.out.trans (HB.out.mono (by rw [HWZ.out]; omega))
    have hc5 : wr.cell? ⟨w.heap.size, 2, none⟩ = some (.slice A r.args.length c) := by rw [Lib.cell_of_heap ((HB.out.block w.heap.size (by rw [HWZ.out]; omega)).trans HBX.out)]; rfl
    have hbt := textsF_len (bytesP nodeP) (r.args.take i) (fun v hv => HBO.out v (List.mem_of_mem_take hv))
    have hbt2 := bulkV_take r.args i
    have hacc : acc.size ≤ 36 + r.path.size + r.name.size + 18 * bulkV r.args := by
      have := congrArg List.length HQ.out
      rw [List.length_append, size_toList, size_toList] at this
      omega
    by_cases hlt : i < r.args.length
    · obtain ⟨b, off, kd, t', n', m', s', l', A', c', e, hlb, hget, h2⟩ := vs_at (HR.out.belows hbw) hlt
      subst e
      obtain ⟨c0, c1, c2, c3, c4, c5, r5⟩ := h2
      have hbk := bulkV_get _ _ _ hget
      have HC := Lib.hid (rBytes_any kd t' n' m' s' l' A' c' wr (by omega) (WfV_get _ _ _ HWF.out hget) r5)
      have hyl := HBO.out _ (List.mem_of_getElem? hget)
      have HQ2 : Hid ((acc ++ textB (bytesP nodeP (.mk kd t' n' m' s' l'))).data.toList = hd.data.toList ++ textsF (bytesP nodeP) (r.args.take (i + 1))) := Lib.hid (by
        rw [ByteArray.data_append, Array.toList_append, HQ.out, textsF_snoc _ r.args i _ hget, List.append_assoc])
      obtain ⟨y, hy⟩ : ∃ y : ByteArray, bytesP nodeP (.mk kd t' n' m' s' l') = y := ⟨_, rfl⟩
      rw [hy] at HC HQ2 hyl
      have HCT := Lib.hid (fun W => rtext_any y (by omega) W)
      have hty := textB_size y
      obtain ⟨ty, hty2⟩ : ∃ ty, textB y = ty := ⟨_, rfl⟩
      rw [hty2] at HCT HQ2 hty
      have HWS := Lib.hid HB.out.size
      clear r5 hget hy HQ hbw hty2
      go_wp2_with fail
      (with_reducible refine HC.out.mono ?_)
      rintro e w4 ⟨rfl, hb4⟩
      have B4 := Lib.hid (HB.out.trans (hb4.mono HWS.out))
      clear hb4
      go_wp2_with fail
      (with_reducible refine (HCT.out _).mono ?_)
      rintro e w5 ⟨rfl, hb5⟩
      have B5 := Lib.hid (B4.out.trans (hb5.mono B4.out.size))
      clear hb5
      go_wp2_with fail
      exact ⟨⟨i + 1, acc ++ ty, by omega, by go_num, rfl, HQ2, B5⟩, by simp [intOf]; omega⟩
    · obtain rfl : i = r.args.length := by omega
      have HKS : Hid (kfG r = hexS (digF (shaS acc))) := Lib.hid (by
        unfold kfG keyS
        have h1 := HQ.out
        rw [List.take_length, ← HY.out] at h1
        rw [← h1, bytes_mk_toList])
      have HBW := Lib.hid hbw
      clear hbw HQ
      go_wp2_with fail
      (with_reducible refine (rsha_any acc (by omega) _).mono ?_)
      rintro e w8 ⟨rfl, hb8⟩
      have HBW8 := Lib.hid (HBW.out.trans (hb8.mono HBW.out.size))
      clear hb8
      rw [show digRow (shaS acc) = row8 (digF (shaS acc)) from rfl]
      go_wp2_with fail
      (with_reducible refine (rhex_any _ (digF_range _) _).mono ?_)
      rintro e w9 ⟨rfl, hb9⟩
      have HBW9 := Lib.hid (HBW8.out.trans (hb9.mono HBW8.out.size))
      clear hb9
      go_wp2_with fail
      go_ret
      exact ⟨by rw [HKS.out]; rfl, HBW9.out⟩
set_option maxHeartbeats 400000 in
theorem rkey44_any (r : Req) (A : Option Addr) (c : Nat) (w : World) (hb : r.bulk ≤ 2097152) (hwf : WfV r.args) (hr : Rd (Lt w.heap.size) w (vs r.args) (.slice A r.args.length c)) :
    Calls Tryd.prog 21 #[.agg #[.string r.path, .string r.name, .slice A r.args.length c, .int .i64 r.ord, .string r.reply, .int .i64 r.sent, .int .i64 r.tick, .bool r.isopen]] w fun e w' => e = .returned (.string (kfG r)) ∧ Below w.heap.size w w' := by
  have HC := Lib.hid (fun W h => rkey_any r A c W hb hwf h)
  have HR := Lib.hid hr
  clear hr hwf
  go_enter Tryd.func21, Tryd.ntmps21
  go_wp2_with fail
  (with_reducible refine (HC.out _ ?_).mono ?_)
  · exact HR.out.allocs _
  rintro e w1 ⟨rfl, hb1⟩
  have HB := Lib.hid (((Below.refl _ _).alloc (Nat.le_refl w.heap.size) _).trans (hb1.mono (by simp)))
  clear hb1
  go_wp2_with fail
  go_ret
  exact ⟨rfl, HB.out⟩
end Go.Proofs.YtlnfdpdancolmaaDoor
namespace Go.Proofs.YtlnfdpdancolmaaDoor
open Go.RowKit

theorem OC.news (w5 : World) (x : OC) : ∀ (j : Nat) (u : Value), x.cells[j]? = some u → (w5.alloc (.cells #[.string x.r.key, .string x.r.name, .slice x.A x.r.args.length x.c, .bool x.r.part, .int .i64 x.r.tick] 45)).cell? ((⟨w5.heap.size, 0, none⟩ : Addr).add j) = some u := by
  intro j u hj
  rw [Addr.add_lit, Nat.zero_add]
  rw [cell_new]
  rw [← hj]
  exact List.getElem?_toArray
theorem OC.one1 (x : OC) : ∀ u ∈ x.cells, u.oneCell' = true := fun u hu => OC.one [x] u (by simpa using hu)
def REffPost (L : List Out) (w : World) (e : Ending) (w' : World) : Prop := ∃ v, e = .returned v ∧ RowO w.heap.size L w' v ∧ Below w.heap.size w w'
set_option maxHeartbeats 8000000 in
set_option maxRecDepth 100000 in
theorem reffects_any (l : List Req) (A : Option Addr) (n c : Nat) (w : World) (hb : bulkReq l ≤ 2097152) (hwf : ∀ r ∈ l, WfV r.args) (hr : Rd (Lt w.heap.size) w (slReq l) (.slice A n c)) :
    Calls Tryd.prog 35 #[.slice A n c] w (REffPost (effS kfG l) w) := by
  have hl := slReq_len hr
  have hln := bulkReq_len l
  obtain ⟨i0, hi0, hz0, hz1, hz2⟩ := info_parts infoOut
  have HI := Lib.hid (And.intro hi0 (And.intro hz0 (And.intro hz1 hz2)))
  have HL := Lib.hid hl.1
  have hn : n ≤ 2097152 := by omega
  have HR := Lib.hid hr
  have HK := Lib.hid (fun r hr W A c h => rkey44_any r A c W (by obtain ⟨i, hi⟩ := List.mem_iff_getElem?.1 hr; have := bulkReq_get hi; omega) (hwf r hr) h)
  clear hr hl hi0 hz0 hz1 hz2 hwf
  go_enter Tryd.func35, Tryd.ntmps35
  go_wp2_with fail
  go_loopw [3, 4] (fun s3 s4 wr => ∃ (i : Nat) (v : Value) (ks : List OC), i ≤ n ∧ s4 = .int .i64 i ∧ v = s3 ∧ ks.length = i ∧ Hid (wr.ownsRow w.heap.size 45 5 v ks.length (ks.flatMap OC.cells)) ∧ Hid (ks.map OC.r = effS kfG (l.take i)) ∧ Hid (ArgsOk w.heap.size wr ks) ∧ Hid (Below w.heap.size w wr)) (fun _ s4 _ => n - (intOf s4).toNat)
  case atStart => exact ⟨0, _, [], by omega, rfl, rfl, rfl, Lib.hid (World.ownsRow_nil _ _ _ _), Lib.hid rfl, Lib.hid (fun k hk => by simp at hk), Lib.hid (Below.refl _ _)⟩
  case round =>
    obtain ⟨i, vq, ks, hi, rfl, hvq, hkl, HO, HKM, HA, HB⟩ := hrel
    subst hvq
    have hbs := HB.out.size
    by_cases hlt : i < n
    · obtain ⟨b, off, r, e, hlb, hget, A2, c2, hat⟩ := slReq_at (HR.out.below HB.out (fun _ h => h)) hlt
      subst e
      obtain ⟨p0, p1, p2, p3, p4, p5, p6, p7, r2⟩ := hat
      have hlbw : b < wr.heap.size := Nat.lt_of_lt_of_le hlb hbs
      have HLB : Hid (b < w.heap.size) := Lib.hid hlb
      have R2 := Lib.hid r2
      have HQ := Lib.hid (HK.out r (List.mem_of_getElem? hget) wr.drew A2 c2 ((r2.weaken (ok' := Lt wr.heap.size) (fun b hb => Nat.lt_of_lt_of_le hb hbs)).drew))
      have HGET := Lib.hid hget
      have hvl : ∀ g, vq.ownBlock = some g → w.heap.size ≤ g ∧ g < wr.heap.size := fun g hg => HO.out.lt g hg
      have HVL := Lib.hid hvl
      clear hget r2 hlb hvl
      have hmax : i + 1 ≤ maxLen := by unfold maxLen; omega
      have hbyt : (i + 1) * 72 ≤ 140737488355328 := by omega
      have HP := Lib.hid (And.intro p0 (And.intro p1 (And.intro p2 (And.intro p3 (And.intro p4 (And.intro p5 (And.intro p6 p7)))))))
      have CELL : Hid (∀ w4 : World, Below w.heap.size wr w4 → w4.cell? ⟨b, off + i * 8, none⟩ = some (.string r.path) ∧ w4.cell? ⟨b, off + i * 8 + 1, none⟩ = some (.string r.name) ∧ w4.cell? ⟨b, off + i * 8 + 2, none⟩ = some (.slice A2 r.args.length c2) ∧ w4.cell? ⟨b, off + i * 8 + 3, none⟩ = some (.int .i64 r.ord) ∧ w4.cell? ⟨b, off + i * 8 + 4, none⟩ = some (.string r.reply) ∧ w4.cell? ⟨b, off + i * 8 + 5, none⟩ = some (.int .i64 r.sent) ∧ w4.cell? ⟨b, off + i * 8 + 6, none⟩ = some (.int .i64 r.tick) ∧ w4.cell? ⟨b, off + i * 8 + 7, none⟩ = some (.bool r.isopen)) := Lib.hid (fun w4 h4 => by
        have hc : ∀ o, w4.cell? ⟨b, o, none⟩ = wr.cell? ⟨b, o, none⟩ := fun o => h4.cell (p := ⟨b, o, none⟩) HLB.out
        rw [hc, hc, hc, hc, hc, hc, hc, hc]
        exact HP.out)
      go_wp2_with fail
      go_region_held3 (fun w' => w'.cell? ⟨b, off + i * 8, none⟩ = some (.string r.path) ∧ w'.cell? ⟨b, off + i * 8 + 1, none⟩ = some (.string r.name) ∧ w'.cell? ⟨b, off + i * 8 + 2, none⟩ = some (.slice A2 r.args.length c2) ∧ w'.cell? ⟨b, off + i * 8 + 3, none⟩ = some (.int .i64 r.ord) ∧ w'.cell? ⟨b, off + i * 8 + 4, none⟩ = some (.string r.reply) ∧ w'.cell? ⟨b, off + i * 8 + 5, none⟩ = some (.int .i64 r.sent) ∧ w'.cell? ⟨b, off + i * 8 + 6, none⟩ = some (.int .i64 r.tick) ∧ w'.cell? ⟨b, off + i * 8 + 7, none⟩ = some (.bool r.isopen))
        (first | go_keep)
        (first
          | (go_at_call 21; go_loud (refine HQ.out.mono ?_; rintro e w4 ⟨rfl, hb4⟩; have B4 : Hid (Below wr.heap.size wr w4) := Lib.hid (((Below.refl wr.heap.size wr).drew).trans hb4); obtain ⟨zw40, zw41, zw42, zw43, zw44, zw45, zw46, zw47⟩ := CELL.out w4 (B4.out.mono hbs); have X4 := Lib.hid (fun o => own_below HO.out (B4.out.alloc B4.out.size o)); have N4 := Lib.hid (OC.news w4 ⟨effR kfG r, A2, c2⟩); have S4 : Hid (w.heap.size ≤ (w4.alloc (.cells #[.string (kfG r), .string r.name, .slice A2 r.args.length c2, .bool false, .int .i64 r.tick] 45)).heap.size) := Lib.hid (Nat.le_trans hbs (Nat.le_trans B4.out.size (by rw [World.size_alloc]; omega))); clear hb4))
          | (refine step_append_lies _ (by rfl) _ _ _ (by rfl) w.heap.size 45 i0 _ 5 72 Tryd.underlying22 HI.out.1 HI.out.2.1 HI.out.2.2.1 HI.out.2.2.2 rfl (by omega) vq ks.length (ks.flatMap OC.cells) (by rfl) (X4.out (.cells #[.string (kfG r), .string r.name, .slice A2 r.args.length c2, .bool false, .int .i64 r.tick] 45)) ⟨w4.heap.size, 0, none⟩ 1 1 (OC.cells ⟨effR kfG r, A2, c2⟩) (by rfl) (by rfl) N4.out (OC.one1 _) (by omega) (by omega) (by omega) S4.out (w4.heap.size + 1) (by simp) ?_; intro gg cap w6 hown6 hgrow hat6 hlt6; have B6 : Hid (Below w.heap.size w w6) := Lib.hid (((HB.out.trans (B4.out.mono hbs)).alloc (Nat.le_trans hbs B4.out.size) _).grown hgrow S4.out (fun k hk => (HVL.out k hk).1)); have B6r : Hid (Below w.heap.size wr w6) := Lib.hid (((B4.out.mono hbs).alloc (Nat.le_trans hbs B4.out.size) _).grown hgrow S4.out (fun k hk => (HVL.out k hk).1)); obtain ⟨zw60, zw61, zw62, zw63, zw64, zw65, zw66, zw67⟩ := CELL.out w6 B6r.out; have HW6 := Lib.hid hown6; clear hown6 hgrow hat6))
      all_goals (
        have HKM2 : Hid ((ks ++ [(⟨effR kfG r, A2, c2⟩ : OC)]).map OC.r = effS kfG (l.take (i + 1))) := Lib.hid (by rw [List.map_append, HKM.out, effS_take kfG l i r HGET.out]; rfl)
        have HA2 : Hid (ArgsOk w.heap.size w6 (ks ++ [(⟨effR kfG r, A2, c2⟩ : OC)])) := Lib.hid (fun k hk => by
          rcases List.mem_append.1 hk with hk | hk
          · exact (HA.out k hk).below B6r.out (fun _ h => h)
          · simp at hk; subst hk
            exact R2.out.below B6r.out (fun _ h => h))
        have HO2 : Hid (w6.ownsRow w.heap.size 45 5 (.slice (some ⟨gg, 0, none⟩) (i + 1) cap) (ks ++ [(⟨effR kfG r, A2, c2⟩ : OC)]).length ((ks ++ [(⟨effR kfG r, A2, c2⟩ : OC)]).flatMap OC.cells)) := Lib.hid (by
          rw [List.length_append, List.length_singleton, List.flatMap_append, List.flatMap_singleton, ← hkl]; exact HW6.out)
        go_wp2_with fail
        exact ⟨⟨i + 1, _, ks ++ [(⟨effR kfG r, A2, c2⟩ : OC)], by omega, by go_num, rfl, by rw [List.length_append, List.length_singleton, hkl], HO2, HKM2, HA2, B6⟩, by simp [intOf]; omega⟩)
    · obtain rfl : i = n := by omega
      go_wp2_with fail
      go_ret
      have h := HKM.out
      rw [HL.out, List.take_length] at h
      exact ⟨_, rfl, ⟨ks, HO.out, h, HA.out⟩, HB.out⟩
def RDiffPost (a b : List Req) (w : World) (e : Ending) (w' : World) : Prop :=
  ∃ A1 n1 c1 A2 n2 c2, e = .returned (.tuple #[.slice A1 n1 c1, .slice A2 n2 c2]) ∧ Rd (Lt w'.heap.size) w' (slOut (effS kfG (onlyS a b))) (.slice A1 n1 c1) ∧ Rd (Lt w'.heap.size) w' (slOut (effS kfG (onlyS b a))) (.slice A2 n2 c2) ∧ Below w.heap.size w w'
theorem rd_sliceO {ok : Nat → Prop} {w : World} {l : List Out} {v : Value} (h : Rd ok w (slOut l) v) : ∃ A n c, v = .slice A n c := by
  obtain ⟨A, c, e, _⟩ := h.sl_inv
  exact ⟨A, _, c, e⟩
set_option maxHeartbeats 2000000 in
theorem rdiff_any (l l' : List Req) (A : Option Addr) (n c : Nat) (A' : Option Addr) (n' c' : Nat) (w : World) (hb : bulkReq l ≤ 2097152) (hb' : bulkReq l' ≤ 2097152) (hwf : ∀ r ∈ l, WfV r.args) (hwf' : ∀ r ∈ l', WfV r.args)
    (hr : Rd (Lt w.heap.size) w (slReq l) (.slice A n c)) (hr' : Rd (Lt w.heap.size) w (slReq l') (.slice A' n' c')) :
    Calls Tryd.prog 19 #[.slice A n c, .slice A' n' c'] w (RDiffPost l l' w) := by
  have H1 := Lib.hid (ronly_any l l' A n c A' n' c' w hb hb' hr hr')
  have H2 := Lib.hid (fun W h1 h2 => ronly_any l' l A' n' c' A n c W hb' hb h1 h2)
  have H3 := Lib.hid (fun W A n c h1 => reffects_any (onlyS l l') A n c W (Nat.le_trans (onlyS_bulk l l') hb) (fun r hr => hwf r (onlyTo_mem _ _ _ _ hr)) h1)
  have H4 := Lib.hid (fun W A n c h1 => reffects_any (onlyS l' l) A n c W (Nat.le_trans (onlyS_bulk l' l) hb') (fun r hr => hwf' r (onlyTo_mem _ _ _ _ hr)) h1)
  have HR := Lib.hid hr
  have HR' := Lib.hid hr'
  clear hr hr' hwf hwf'
  go_enter Tryd.func19, Tryd.ntmps19
  go_wp2_with fail
  (with_reducible refine H1.out.mono ?_)
  rintro e w1 ⟨v1, rfl, hr1, hb1⟩
  obtain ⟨A1, n1, c1, rfl⟩ := rd_slice hr1
  have HR1 := Lib.hid hr1
  have HB1 := Lib.hid hb1
  clear hr1 hb1
  go_wp2_with fail
  (with_reducible refine (H3.out w1 A1 n1 c1 HR1.out).mono ?_)
  rintro e w2 ⟨v2, rfl, ho2, hb2⟩
  have hd2 := ho2.rd hb2.size
  obtain ⟨A2, n2, c2, rfl⟩ := rd_sliceO hd2
  have HO2 := Lib.hid hd2
  have HB2 := Lib.hid (HB1.out.trans (hb2.mono HB1.out.size))
  clear ho2 hb2 hd2
  go_wp2_with fail
  (with_reducible refine (H2.out w2 ?_ ?_).mono ?_)
  · exact HR'.out.belows HB2.out
  · exact HR.out.belows HB2.out
  rintro e w3 ⟨v3, rfl, hr3, hb3⟩
  obtain ⟨A3, n3, c3, rfl⟩ := rd_slice hr3
  have HR3 := Lib.hid hr3
  have HO3 := Lib.hid (HO2.out.belows hb3)
  have HB3 := Lib.hid (HB2.out.trans (hb3.mono HB2.out.size))
  clear hr3 hb3
  go_wp2_with fail
  (with_reducible refine (H4.out w3 A3 n3 c3 HR3.out).mono ?_)
  rintro e w4 ⟨v4, rfl, ho4, hb4⟩
  have hd4 := ho4.rd hb4.size
  obtain ⟨A4, n4, c4, rfl⟩ := rd_sliceO hd4
  have HO4 := Lib.hid hd4
  have HO5 := Lib.hid (HO3.out.belows hb4)
  have HB4 := Lib.hid (HB3.out.trans (hb4.mono HB3.out.size))
  clear ho4 hb4 hd4
  go_wp2_with fail
  go_ret2
  exact ⟨_, _, _, _, _, _, rfl, HO5.out, HO4.out, HB4.out⟩
end Go.Proofs.YtlnfdpdancolmaaDoor
