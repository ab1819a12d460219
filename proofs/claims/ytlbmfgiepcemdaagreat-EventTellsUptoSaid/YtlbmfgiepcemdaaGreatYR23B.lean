/- ref23.Bytes: the bytes of a list of events. Conditions: those in each statement. -/
import Derived.Test.YtlbmfgiepcemdaaGreatYR23QR23C
import Derived.Test.YtlbmfgiepcemdaaGreatYR23NR23PR23R
import Derived.Test.YtlbmfgiepcemdaaGreatYR23VR23WR23S
import Derived.Test.YtlbmfgiepcemdaaGreatYRefSameEvRSame
namespace Go.Proofs.YtlbmfgiepcemdaaGreat
open Go.RowKit Go.Sort

set_option maxHeartbeats 32000000 in
set_option maxRecDepth 100000 in
theorem bytes23_any (l : List Ev) (A : Option Addr) (n c : Nat) (w : World) (hn : n ≤ 1073741824) (hz : ∀ x ∈ l, x.size ≤ 2097152) (hw : ∀ x ∈ l, x.Wf) (hr : Rd (Lt w.heap.size) w (slEv l) (.slice A n c)) :
    Calls Tryz.prog 15 #[.slice A n c] w fun e w' => e = .returned (.string (bytesE l)) ∧ Below w.heap.size w w' := by
  obtain rfl := (slEv_len hr).1
  have HR := Lib.hid hr
  have HZ := Lib.hid hz
  have HWF := Lib.hid hw
  clear hr hz hw
  obtain ⟨O, hO⟩ : ∃ O, bytesE l = O := ⟨_, rfl⟩
  have HOO := Lib.hid hO
  rw [hO]
  clear hO
  by_cases hbig : 1048576 < l.length
  · have hbi : (1048576 : Int) < l.length := by omega
    have HN : Hid (O = ⟨#[]⟩) := Lib.hid (by rw [← HOO.out, bytesE, if_pos hbig])
    go_enter Tryz.func15, Tryz.ntmps15
    go_wp2_with fail
    go_ret
    exact ⟨by rw [HN.out]; rfl, Below.refl _ _⟩
  · have hbi : ¬ (1048576 : Int) < l.length := by omega
    have HNM := Lib.hid (r02num_any l.length (by omega) w)
    have hnz : (numB l.length).size ≤ 9 := numB_size _
    have HEND : Hid (∀ i acc, BGo l i acc → l.length ≤ i → O = ⟨((numB l.length).data.toList ++ acc).toArray⟩) := Lib.hid (fun i acc h1 h2 => by rw [← HOO.out]; exact h1.done h2 (by omega))
    have HBAD : Hid (refB l.length l = none → O = ⟨#[]⟩) := Lib.hid (fun h => by rw [← HOO.out]; exact bytes_none h (by omega))
    generalize numB l.length = hd at *
    have kc := fun (w : World) (s : ByteArray) => Lib.run_convert_string_bytes (P := Tryz.prog) w 9 68 5 s Tryz.underlying9 Tryz.underlying68 Tryz.underlying5
    go_enter Tryz.func15, Tryz.ntmps15
    go_wp2_with fail
    (with_reducible refine HNM.out.mono ?_)
    rintro e w1 ⟨rfl, hb1⟩
    have HM := Lib.hid (OwnM.made hb1 hb1.size hd (by omega))
    clear hb1 HNM
    go_wp2_with fail
    clear kc
    go_loopw [3, 4] (fun s3 s4 wr => ∃ (i : Nat) (acc : List UInt8), i ≤ l.length ∧ s4 = .int .i64 i ∧ Hid (BGo l i acc) ∧ Hid (acc.length ≤ i * 18874404) ∧ Hid (OwnM w.heap.size w wr s3 (hd.data.toList ++ acc))) (fun _ s4 _ => l.length - (intOf s4).toNat)
    case atStart => exact ⟨0, [], by omega, rfl, Lib.hid (BGo.start l), Lib.hid (by simp), Lib.hid (by rw [List.append_nil]; exact HM.out)⟩
    case round =>
      clear HM
      obtain ⟨i, acc, hi, rfl, HG, HL, HO⟩ := hrel
      obtain ⟨wo, hwo⟩ : ∃ wo, wo = wr := ⟨_, rfl⟩
      subst hwo
      by_cases hlt : i < l.length
      · obtain ⟨b, off, x, e, hlb, hget, A3, c3, A10, c10, hat⟩ := slEv_at (HR.out.below HO.out.bel (fun _ h => h)) hlt
        subst e
        obtain ⟨p0, p1, p2, p3, p4, p5, p6, p7, p8, p9, p10, p11, r3, r10⟩ := hat
        have hmem := List.mem_of_getElem? hget
        have hbx := HZ.out x hmem
        have hbx2 := hbx
        unfold Ev.size at hbx
        have hvb : x.val.bulk = 7 + x.vt.size + x.vx.size + bulkV x.vl := by unfold Ev.val; rw [bulk_mk]
        have R3 := Lib.hid r3
        have R10 := Lib.hid r10
        obtain ⟨g, hg⟩ : ∃ g, rightE x = g := ⟨_, rfl⟩
        have HRT : Hid (∀ W, Below w.heap.size wo W → w.heap.size ≤ W.heap.size → Calls Tryz.prog 7 #[.agg #[.int .i64 x.kind, .string x.path, .string x.msg, .slice A3 x.args.length c3, .int .i64 x.ord, .int .i64 x.vk, .string x.vt, .int .i64 x.vn, .int .i64 x.vm, .string x.vx, .slice A10 x.vl.length c10, .int .i64 x.n]] W fun e w' => e = .returned (.bool g) ∧ Below W.heap.size W w') := Lib.hid (fun W h h2 => by
          rw [← hg]
          exact right23_any x A3 A10 c3 c10 W (by omega) (by omega) (by omega) (by omega) ((R3.out.below h (fun _ h => h)).weaken (fun q hq => Nat.lt_of_lt_of_le hq h2)) ((R10.out.below h (fun _ h => h)).weaken (fun q hq => Nat.lt_of_lt_of_le hq h2)))
        have hzo := HO.out.le
        have X0 : Hid (B23 w wo (wo.alloc (.cells #[.int .i64 x.kind, .string x.path, .string x.msg, .slice A3 x.args.length c3, .int .i64 x.ord, .int .i64 x.vk, .string x.vt, .int .i64 x.vn, .int .i64 x.vm, .string x.vx, .slice A10 x.vl.length c10, .int .i64 x.n] 37)) wo.heap.size #[.int .i64 x.kind, .string x.path, .string x.msg, .slice A3 x.args.length c3, .int .i64 x.ord, .int .i64 x.vk, .string x.vt, .int .i64 x.vn, .int .i64 x.vm, .string x.vx, .slice A10 x.vl.length c10, .int .i64 x.n] u3 (hd.data.toList ++ acc)) := Lib.hid ⟨HO.out.alloc _, CellsAt.new _ _ _, fun e => by have := (HO.out.lt _ e).2; omega, (Below.refl _ _).alloc hzo _⟩
        have hin : (i : Int) < l.length := by omega
        have HX := Lib.hid hget
        have HGG := Lib.hid hg
        have HM := Lib.hid hmem
        clear r3 r10 hget hg hmem HO
        go_wp2_with fail
        (with_reducible refine (HRT.out _ X0.out.low X0.out.own.le).mono ?_)
        rintro e w2 ⟨rfl, hb2⟩
        have X2 := Lib.hid (X0.out.below hb2)
        clear hb2 X0 HRT p0 p1 p2 p3 p4 p5 p6 p7 p8 p9 p10 p11
        cases g with
        | false =>
          have HN := Lib.hid (HBAD.out (HG.out.bad HX.out HGG.out))
          go_wp2_with fail
          go_ret
          exact ⟨by rw [HN.out]; rfl, X2.out.own.bel⟩
        | true =>
          have hacc : acc.length ≤ i * 18874404 := HL.out
          have hhd : (hd.data.toList ++ acc).length = hd.size + acc.length := by rw [List.length_append, size_toList]
          have hxs : x.size ≤ 2097152 := hbx2
          by_cases hk : x.kind = 3
          · have hn0 : x.n = 0 := by rw [right_three HGG.out hk]; rfl
            have HT : Hid (∀ W, Calls Tryz.prog 46 #[.int .i64 3] W fun e w' => e = .returned (.string (numB 3)) ∧ Below W.heap.size W w') := Lib.hid (fun W => r02num_any 3 (by omega) W)
            have hz1 : (numB 3).size ≤ 9 := numB_size _
            have hgr : groupedE x = true := by unfold groupedE; rw [hk]; rfl
            have z0 : w2.cell? ⟨wo.heap.size, 0, none⟩ = some (.int .i64 3) := by rw [X2.out.e.cell]; show (some (.int .i64 x.kind) : Option Value) = _; rw [hk]
            have z1 : w2.cell? ⟨wo.heap.size, 1, none⟩ = some (.string x.path) := by rw [X2.out.e.cell]; rfl
            have z2 : w2.cell? ⟨wo.heap.size, 2, none⟩ = some (.string x.msg) := by rw [X2.out.e.cell]; rfl
            have z3 : w2.cell? ⟨wo.heap.size, 3, none⟩ = some (.slice A3 x.args.length c3) := by rw [X2.out.e.cell]; rfl
            have z4 : w2.cell? ⟨wo.heap.size, 4, none⟩ = some (.int .i64 x.ord) := by rw [X2.out.e.cell]; rfl
            have z5 : w2.cell? ⟨wo.heap.size, 5, none⟩ = some (.int .i64 x.vk) := by rw [X2.out.e.cell]; rfl
            have z6 : w2.cell? ⟨wo.heap.size, 6, none⟩ = some (.string x.vt) := by rw [X2.out.e.cell]; rfl
            have z7 : w2.cell? ⟨wo.heap.size, 7, none⟩ = some (.int .i64 x.vn) := by rw [X2.out.e.cell]; rfl
            have z8 : w2.cell? ⟨wo.heap.size, 8, none⟩ = some (.int .i64 x.vm) := by rw [X2.out.e.cell]; rfl
            have z9 : w2.cell? ⟨wo.heap.size, 9, none⟩ = some (.string x.vx) := by rw [X2.out.e.cell]; rfl
            have z10 : w2.cell? ⟨wo.heap.size, 10, none⟩ = some (.slice A10 x.vl.length c10) := by rw [X2.out.e.cell]; rfl
            have z11 : w2.cell? ⟨wo.heap.size, 11, none⟩ = some (.int .i64 0) := by rw [X2.out.e.cell]; show (some (.int .i64 x.n) : Option Value) = _; rw [hn0]
            go_wp2_with fail
            clear z0 z1 z2 z3 z4 z5 z6 z7 z8 z9 z10 z11
            have hSG : Hid (SGo l x i i) := Lib.hid (SGo.start l x i)
            go_loopw [8] (fun s8 wr => ∃ k : Nat, i ≤ k ∧ k ≤ l.length ∧ s8 = .int .i64 k ∧ Hid (SGo l x i k) ∧ Hid (B23 w wo wr wo.heap.size #[.int .i64 x.kind, .string x.path, .string x.msg, .slice A3 x.args.length c3, .int .i64 x.ord, .int .i64 x.vk, .string x.vt, .int .i64 x.vn, .int .i64 x.vm, .string x.vx, .slice A10 x.vl.length c10, .int .i64 x.n] u3 (hd.data.toList ++ acc))) (fun s8 _ => l.length - (intOf s8).toNat)
            case atStart => exact ⟨i, by omega, by omega, rfl, hSG, X2⟩
            case round =>
              clear hSG X2
              obtain ⟨k, hik, hkl, rfl, HS, X⟩ := hrel
              by_cases hkn : k < l.length
              · obtain ⟨b2, off2, y, e, hlb2, hgety, A4, c4, A11, c11, haty⟩ := slEv_at (HR.out.below X.out.own.bel (fun _ h => h)) hkn
                cases e
                obtain ⟨q0, q1, q2, q3, q4, q5, q6, q7, q8, q9, q10, q11, s3, s10⟩ := haty
                have hin2 : (k : Int) < l.length := by omega
                have HY := Lib.hid hgety
                have hmemy := List.mem_of_getElem? hgety
                have hby := HZ.out y hmemy
                clear s3 s10 hgety
                have e0 : wr.cell? ⟨wo.heap.size, 0, none⟩ = some (.int .i64 3) := by rw [X.out.e.cell]; show (some (.int .i64 x.kind) : Option Value) = _; rw [hk]
                have e1 : wr.cell? ⟨wo.heap.size, 1, none⟩ = some (.string x.path) := by rw [X.out.e.cell]; rfl
                have e2 : wr.cell? ⟨wo.heap.size, 2, none⟩ = some (.string x.msg) := by rw [X.out.e.cell]; rfl
                have e3 : wr.cell? ⟨wo.heap.size, 3, none⟩ = some (.slice A3 x.args.length c3) := by rw [X.out.e.cell]; rfl
                have e4 : wr.cell? ⟨wo.heap.size, 4, none⟩ = some (.int .i64 x.ord) := by rw [X.out.e.cell]; rfl
                have e5 : wr.cell? ⟨wo.heap.size, 5, none⟩ = some (.int .i64 x.vk) := by rw [X.out.e.cell]; rfl
                have e6 : wr.cell? ⟨wo.heap.size, 6, none⟩ = some (.string x.vt) := by rw [X.out.e.cell]; rfl
                have e7 : wr.cell? ⟨wo.heap.size, 7, none⟩ = some (.int .i64 x.vn) := by rw [X.out.e.cell]; rfl
                have e8 : wr.cell? ⟨wo.heap.size, 8, none⟩ = some (.int .i64 x.vm) := by rw [X.out.e.cell]; rfl
                have e9 : wr.cell? ⟨wo.heap.size, 9, none⟩ = some (.string x.vx) := by rw [X.out.e.cell]; rfl
                have e10 : wr.cell? ⟨wo.heap.size, 10, none⟩ = some (.slice A10 x.vl.length c10) := by rw [X.out.e.cell]; rfl
                have e11 : wr.cell? ⟨wo.heap.size, 11, none⟩ = some (.int .i64 0) := by rw [X.out.e.cell]; show (some (.int .i64 x.n) : Option Value) = _; rw [hn0]
                cases hyk : (y.kind == 3) with
                | false =>
                  have HSP : Hid (refSpan x (l.drop i) = some (k - i)) := Lib.hid (HS.out.stop HY.out (by rw [hk, hyk]; rfl))
                  go_wp2_with fail
                  go_quiet (fail)
                  obtain ⟨hik1, hg2⟩ := HG.out.more HX.out HGG.out hgr hik HSP.out
                  have HG2 := Lib.hid hg2
                  have hki : (i : Int) < (k : Int) := by omega
                  have hkm : IntKind.i64.wrap ((k : Int) - (i : Int)) = ((k - i : Nat) : Int) := by rw [IntWalk.i64_in _ (by omega)]; omega
                  clear hg2 HSP e0 e1 e2 e3 e4 e5 e6 e7 e8 e9 e10 e11
                  generalize hW : World.drewN wr _ = W4
                  have X4 : Hid (B23 w wo W4 wo.heap.size #[.int .i64 x.kind, .string x.path, .string x.msg, .slice A3 x.args.length c3, .int .i64 x.ord, .int .i64 x.vk, .string x.vt, .int .i64 x.vn, .int .i64 x.vm, .string x.vx, .slice A10 x.vl.length c10, .int .i64 x.n] u3 (hd.data.toList ++ acc)) := Lib.hid (X.out.below (by rw [← hW]; exact below_drewN (Below.refl _ wr) _))
                  clear hW X
                  have e0 : W4.cell? ⟨wo.heap.size, 0, none⟩ = some (.int .i64 3) := by rw [X4.out.e.cell]; show (some (.int .i64 x.kind) : Option Value) = _; rw [hk]
                  go_wp2_with fail
                  (with_reducible refine (HT.out W4).mono ?_)
                  rintro e w5 ⟨rfl, hb5⟩
                  have X5 := Lib.hid (X4.out.below hb5)
                  have HT2 := Lib.hid (r02num_any (k - i) (by omega) w5)
                  have hz2 : (numB (k - i)).size ≤ 9 := numB_size _
                  have HGB : Hid (groupB x (k - i) = (numB 3 ++ numB (k - i)).data.toList) := Lib.hid (by unfold groupB; rw [if_pos (by rw [hk]; rfl)])
                  rw [HGB.out] at HG2
                  generalize numB (k - i) = G2 at *
                  clear hb5 X4 e0 HGB
                  go_wp2_with fail
                  (with_reducible refine HT2.out.mono ?_)
                  rintro e w6 ⟨rfl, hb6⟩
                  have X6 := Lib.hid (X5.out.below hb6)
                  clear hb6 X5 HT2
                  go_wp2_with (at_builtin; refine wp_append_strM rfl _ _ rfl rfl X6.out.own (numB 3 ++ G2) rfl ?cz1 ?_)
                  case cz1 => rw [hhd, ByteArray.size_append]; omega
                  intro v' w10 hO10 hg10 hv10
                  have HO10 : Hid (OwnM w.heap.size w w10 v' (hd.data.toList ++ (acc ++ (numB 3 ++ G2).data.toList))) := Lib.hid (by have h := hO10; simp only [ByteArray.data_append, Array.toList_append] at h ⊢; exact h)
                  have HL10 : Hid ((acc ++ (numB 3 ++ G2).data.toList).length ≤ k * 18874404) := Lib.hid (by rw [List.length_append, size_toList, ByteArray.size_append]; omega)
                  generalize acc ++ (numB 3 ++ G2).data.toList = acc2 at *
                  have hks : IntKind.i64.wrap ((k : Int) - 1) = (k : Int) - 1 := IntWalk.i64_in _ (by omega)
                  have hks2 : IntKind.i64.wrap ((k : Int) - 1 + 1) = (k : Int) := by rw [IntWalk.i64_in _ (by omega)]; omega
                  clear hO10 hg10 hv10 X6
                  go_wp2_with fail
                  exact ⟨⟨k, acc2, by omega, by go_num, HG2, HL10, HO10⟩, by simp [intOf]; omega⟩
                | true =>
                  cases hyn : (y.n == 0) with
                  | false =>
                    have HSP : Hid (refSpan x (l.drop i) = some (k - i)) := Lib.hid (HS.out.stop HY.out (by rw [hyn, Bool.and_false]))
                    go_wp2_with fail
                    go_quiet (fail)
                    obtain ⟨hik1, hg2⟩ := HG.out.more HX.out HGG.out hgr hik HSP.out
                    have HG2 := Lib.hid hg2
                    have hki : (i : Int) < (k : Int) := by omega
                    have hkm : IntKind.i64.wrap ((k : Int) - (i : Int)) = ((k - i : Nat) : Int) := by rw [IntWalk.i64_in _ (by omega)]; omega
                    clear hg2 HSP e0 e1 e2 e3 e4 e5 e6 e7 e8 e9 e10 e11
                    generalize hW : World.drewN wr _ = W4
                    have X4 : Hid (B23 w wo W4 wo.heap.size #[.int .i64 x.kind, .string x.path, .string x.msg, .slice A3 x.args.length c3, .int .i64 x.ord, .int .i64 x.vk, .string x.vt, .int .i64 x.vn, .int .i64 x.vm, .string x.vx, .slice A10 x.vl.length c10, .int .i64 x.n] u3 (hd.data.toList ++ acc)) := Lib.hid (X.out.below (by rw [← hW]; exact below_drewN (Below.refl _ wr) _))
                    clear hW X
                    have e0 : W4.cell? ⟨wo.heap.size, 0, none⟩ = some (.int .i64 3) := by rw [X4.out.e.cell]; show (some (.int .i64 x.kind) : Option Value) = _; rw [hk]
                    go_wp2_with fail
                    (with_reducible refine (HT.out W4).mono ?_)
                    rintro e w5 ⟨rfl, hb5⟩
                    have X5 := Lib.hid (X4.out.below hb5)
                    have HT2 := Lib.hid (r02num_any (k - i) (by omega) w5)
                    have hz2 : (numB (k - i)).size ≤ 9 := numB_size _
                    have HGB : Hid (groupB x (k - i) = (numB 3 ++ numB (k - i)).data.toList) := Lib.hid (by unfold groupB; rw [if_pos (by rw [hk]; rfl)])
                    rw [HGB.out] at HG2
                    generalize numB (k - i) = G2 at *
                    clear hb5 X4 e0 HGB
                    go_wp2_with fail
                    (with_reducible refine HT2.out.mono ?_)
                    rintro e w6 ⟨rfl, hb6⟩
                    have X6 := Lib.hid (X5.out.below hb6)
                    clear hb6 X5 HT2
                    go_wp2_with (at_builtin; refine wp_append_strM rfl _ _ rfl rfl X6.out.own (numB 3 ++ G2) rfl ?cz1 ?_)
                    case cz1 => rw [hhd, ByteArray.size_append]; omega
                    intro v' w10 hO10 hg10 hv10
                    have HO10 : Hid (OwnM w.heap.size w w10 v' (hd.data.toList ++ (acc ++ (numB 3 ++ G2).data.toList))) := Lib.hid (by have h := hO10; simp only [ByteArray.data_append, Array.toList_append] at h ⊢; exact h)
                    have HL10 : Hid ((acc ++ (numB 3 ++ G2).data.toList).length ≤ k * 18874404) := Lib.hid (by rw [List.length_append, size_toList, ByteArray.size_append]; omega)
                    generalize acc ++ (numB 3 ++ G2).data.toList = acc2 at *
                    have hks : IntKind.i64.wrap ((k : Int) - 1) = (k : Int) - 1 := IntWalk.i64_in _ (by omega)
                    have hks2 : IntKind.i64.wrap ((k : Int) - 1 + 1) = (k : Int) := by rw [IntWalk.i64_in _ (by omega)]; omega
                    clear hO10 hg10 hv10 X6
                    go_wp2_with fail
                    exact ⟨⟨k, acc2, by omega, by go_num, HG2, HL10, HO10⟩, by simp [intOf]; omega⟩
                  | true =>
                    go_wp2_with fail
                    go_quiet (fail)
                    clear e0 e1 e2 e3 e4 e5 e6 e7 e8 e9 e10 e11 q0 q1 q2 q3 q4 q5 q6 q7 q8 q9 q10 q11
                    generalize hW : World.drewN wr _ = W4
                    have X4 : Hid (B23 w wo W4 wo.heap.size #[.int .i64 x.kind, .string x.path, .string x.msg, .slice A3 x.args.length c3, .int .i64 x.ord, .int .i64 x.vk, .string x.vt, .int .i64 x.vn, .int .i64 x.vm, .string x.vx, .slice A10 x.vl.length c10, .int .i64 x.n] u3 (hd.data.toList ++ acc)) := Lib.hid (X.out.below (by rw [← hW]; exact below_drewN (Below.refl _ wr) _))
                    clear hW X
                    have HYK := Lib.hid (show (y.kind == x.kind) = true by rw [hk]; exact hyk)
                    have HYN := Lib.hid hyn
                    clear hk hn0 hyk hyn
                    obtain ⟨b3, off3, y3, e, hlb3, hgety3, A5, c5, A12, c12, haty3⟩ := slEv_at (HR.out.below X4.out.own.bel (fun _ h => h)) hkn
                    cases e
                    obtain rfl : y = y3 := Option.some.inj (HY.out.symm.trans hgety3)
                    obtain ⟨q0, q1, q2, q3, q4, q5, q6, q7, q8, q9, q10, q11, s3, s10⟩ := haty3
                    have hby3 := hby
                    unfold Ev.size at hby3
                    have hvy : y.val.bulk = 7 + y.vt.size + y.vx.size + bulkV y.vl := by unfold Ev.val; rw [bulk_mk]
                    have hlw := X4.out.own.le
                    have S3 := Lib.hid (s3.weaken (fun q hq => Nat.lt_of_lt_of_le hq hlw))
                    have S10 := Lib.hid (s10.weaken (fun q hq => Nat.lt_of_lt_of_le hq hlw))
                    have T3 := Lib.hid ((R3.out.below X4.out.low (fun _ h => h)).weaken (fun q hq => Nat.lt_of_lt_of_le hq hlw))
                    have T10 := Lib.hid ((R10.out.below X4.out.low (fun _ h => h)).weaken (fun q hq => Nat.lt_of_lt_of_le hq hlw))
                    obtain ⟨g2, hg2⟩ : ∃ g2, eqE y x = g2 := ⟨_, rfl⟩
                    have K0 := Lib.hid (fun d os => Calls.regrown_of (revsame_any y x A5 A3 A12 A10 c5 c3 c12 c10 (grow (redrawn W4 d) os) (by omega) (by omega) (by omega) (by omega) (S3.out.belows (below_regrown W4 d os)) (T3.out.belows (below_regrown W4 d os)) (S10.out.belows (below_regrown W4 d os)) (T10.out.belows (below_regrown W4 d os))))
                    rw [hg2] at K0
                    have HG2 := Lib.hid hg2
                    have m0 := fun d os => cell_regrown q0 d os
                    have m1 := fun d os => cell_regrown q1 d os
                    have m2 := fun d os => cell_regrown q2 d os
                    have m3 := fun d os => cell_regrown q3 d os
                    have m4 := fun d os => cell_regrown q4 d os
                    have m5 := fun d os => cell_regrown q5 d os
                    have m6 := fun d os => cell_regrown q6 d os
                    have m7 := fun d os => cell_regrown q7 d os
                    have m8 := fun d os => cell_regrown q8 d os
                    have m9 := fun d os => cell_regrown q9 d os
                    have m10 := fun d os => cell_regrown q10 d os
                    have m11 := fun d os => cell_regrown q11 d os
                    have e0 : W4.cell? ⟨wo.heap.size, 0, none⟩ = some (.int .i64 x.kind) := by rw [X4.out.e.cell]; rfl
                    have o0 := fun d os => cell_regrown e0 d os
                    have e1 : W4.cell? ⟨wo.heap.size, 1, none⟩ = some (.string x.path) := by rw [X4.out.e.cell]; rfl
                    have o1 := fun d os => cell_regrown e1 d os
                    have e2 : W4.cell? ⟨wo.heap.size, 2, none⟩ = some (.string x.msg) := by rw [X4.out.e.cell]; rfl
                    have o2 := fun d os => cell_regrown e2 d os
                    have e3 : W4.cell? ⟨wo.heap.size, 3, none⟩ = some (.slice A3 x.args.length c3) := by rw [X4.out.e.cell]; rfl
                    have o3 := fun d os => cell_regrown e3 d os
                    have e4 : W4.cell? ⟨wo.heap.size, 4, none⟩ = some (.int .i64 x.ord) := by rw [X4.out.e.cell]; rfl
                    have o4 := fun d os => cell_regrown e4 d os
                    have e5 : W4.cell? ⟨wo.heap.size, 5, none⟩ = some (.int .i64 x.vk) := by rw [X4.out.e.cell]; rfl
                    have o5 := fun d os => cell_regrown e5 d os
                    have e6 : W4.cell? ⟨wo.heap.size, 6, none⟩ = some (.string x.vt) := by rw [X4.out.e.cell]; rfl
                    have o6 := fun d os => cell_regrown e6 d os
                    have e7 : W4.cell? ⟨wo.heap.size, 7, none⟩ = some (.int .i64 x.vn) := by rw [X4.out.e.cell]; rfl
                    have o7 := fun d os => cell_regrown e7 d os
                    have e8 : W4.cell? ⟨wo.heap.size, 8, none⟩ = some (.int .i64 x.vm) := by rw [X4.out.e.cell]; rfl
                    have o8 := fun d os => cell_regrown e8 d os
                    have e9 : W4.cell? ⟨wo.heap.size, 9, none⟩ = some (.string x.vx) := by rw [X4.out.e.cell]; rfl
                    have o9 := fun d os => cell_regrown e9 d os
                    have e10 : W4.cell? ⟨wo.heap.size, 10, none⟩ = some (.slice A10 x.vl.length c10) := by rw [X4.out.e.cell]; rfl
                    have o10 := fun d os => cell_regrown e10 d os
                    have e11 : W4.cell? ⟨wo.heap.size, 11, none⟩ = some (.int .i64 x.n) := by rw [X4.out.e.cell]; rfl
                    have o11 := fun d os => cell_regrown e11 d os
                    clear e0 e1 e2 e3 e4 e5 e6 e7 e8 e9 e10 e11 q0 q1 q2 q3 q4 q5 q6 q7 q8 q9 q10 q11 s3 s10 hg2 hby3 hvy hgety3
                    go_wp2_with fail
                    refine wp_region_quiet_below (by kernel_rfl) (by kernel_rfl) ?_
                    repeat (go_big_quiet_step (first | with_reducible exact K0.out _ _))
                    refine wpQuiet_nil ?_
                    intro _ hw'
                    obtain ⟨⟨dq, osq⟩, hw''⟩ := hw'
                    subst hw''
                    clear m0 m1 m2 m3 m4 m5 m6 m7 m8 m9 m10 m11 o0 o1 o2 o3 o4 o5 o6 o7 o8 o9 o10 o11 K0
                    have hb1 := below_regrown W4 dq osq
                    obtain ⟨w5, hw5⟩ : ∃ w5, grow (redrawn W4 dq) osq = w5 := ⟨_, rfl⟩
                    rw [hw5] at hb1 ⊢
                    have X5 := Lib.hid (X4.out.below hb1)
                    clear hw5 hb1 X4
                    cases g2 with
                    | false =>
                      have HN := Lib.hid (HBAD.out (HG.out.gone HX.out HGG.out hgr (HS.out.gone HY.out HYK.out HYN.out HG2.out)))
                      go_wp2_with fail
                      go_ret
                      exact ⟨by rw [HN.out]; rfl, X5.out.own.bel⟩
                    | true =>
                      have HS2 := Lib.hid (HS.out.step hik HY.out HYK.out HYN.out HG2.out)
                      go_wp2_with fail
                      exact ⟨⟨k + 1, by omega, by omega, by go_num, HS2, X5⟩, by simp [intOf]; omega⟩
              · obtain rfl : k = l.length := by omega
                have hin2 : ¬ ((l.length : Int) < l.length) := by omega
                have HSP : Hid (refSpan x (l.drop i) = some (l.length - i)) := Lib.hid (HS.out.end (Nat.le_refl _))
                have e0 : wr.cell? ⟨wo.heap.size, 0, none⟩ = some (.int .i64 3) := by rw [X.out.e.cell]; show (some (.int .i64 x.kind) : Option Value) = _; rw [hk]
                have e1 : wr.cell? ⟨wo.heap.size, 1, none⟩ = some (.string x.path) := by rw [X.out.e.cell]; rfl
                have e2 : wr.cell? ⟨wo.heap.size, 2, none⟩ = some (.string x.msg) := by rw [X.out.e.cell]; rfl
                have e3 : wr.cell? ⟨wo.heap.size, 3, none⟩ = some (.slice A3 x.args.length c3) := by rw [X.out.e.cell]; rfl
                have e4 : wr.cell? ⟨wo.heap.size, 4, none⟩ = some (.int .i64 x.ord) := by rw [X.out.e.cell]; rfl
                have e5 : wr.cell? ⟨wo.heap.size, 5, none⟩ = some (.int .i64 x.vk) := by rw [X.out.e.cell]; rfl
                have e6 : wr.cell? ⟨wo.heap.size, 6, none⟩ = some (.string x.vt) := by rw [X.out.e.cell]; rfl
                have e7 : wr.cell? ⟨wo.heap.size, 7, none⟩ = some (.int .i64 x.vn) := by rw [X.out.e.cell]; rfl
                have e8 : wr.cell? ⟨wo.heap.size, 8, none⟩ = some (.int .i64 x.vm) := by rw [X.out.e.cell]; rfl
                have e9 : wr.cell? ⟨wo.heap.size, 9, none⟩ = some (.string x.vx) := by rw [X.out.e.cell]; rfl
                have e10 : wr.cell? ⟨wo.heap.size, 10, none⟩ = some (.slice A10 x.vl.length c10) := by rw [X.out.e.cell]; rfl
                have e11 : wr.cell? ⟨wo.heap.size, 11, none⟩ = some (.int .i64 0) := by rw [X.out.e.cell]; show (some (.int .i64 x.n) : Option Value) = _; rw [hn0]
                go_wp2_with fail
                go_quiet (fail)
                obtain ⟨hik1, hg2⟩ := HG.out.more HX.out HGG.out hgr hik HSP.out
                have HG2 := Lib.hid hg2
                have hki : (i : Int) < (l.length : Int) := by omega
                have hkm : IntKind.i64.wrap ((l.length : Int) - (i : Int)) = ((l.length - i : Nat) : Int) := by rw [IntWalk.i64_in _ (by omega)]; omega
                clear hg2 HSP e0 e1 e2 e3 e4 e5 e6 e7 e8 e9 e10 e11
                generalize hW : World.drewN wr _ = W4
                have X4 : Hid (B23 w wo W4 wo.heap.size #[.int .i64 x.kind, .string x.path, .string x.msg, .slice A3 x.args.length c3, .int .i64 x.ord, .int .i64 x.vk, .string x.vt, .int .i64 x.vn, .int .i64 x.vm, .string x.vx, .slice A10 x.vl.length c10, .int .i64 x.n] u3 (hd.data.toList ++ acc)) := Lib.hid (X.out.below (by rw [← hW]; exact below_drewN (Below.refl _ wr) _))
                clear hW X
                have e0 : W4.cell? ⟨wo.heap.size, 0, none⟩ = some (.int .i64 3) := by rw [X4.out.e.cell]; show (some (.int .i64 x.kind) : Option Value) = _; rw [hk]
                go_wp2_with fail
                (with_reducible refine (HT.out W4).mono ?_)
                rintro e w5 ⟨rfl, hb5⟩
                have X5 := Lib.hid (X4.out.below hb5)
                have HT2 := Lib.hid (r02num_any (l.length - i) (by omega) w5)
                have hz2 : (numB (l.length - i)).size ≤ 9 := numB_size _
                have HGB : Hid (groupB x (l.length - i) = (numB 3 ++ numB (l.length - i)).data.toList) := Lib.hid (by unfold groupB; rw [if_pos (by rw [hk]; rfl)])
                rw [HGB.out] at HG2
                generalize numB (l.length - i) = G2 at *
                clear hb5 X4 e0 HGB
                go_wp2_with fail
                (with_reducible refine HT2.out.mono ?_)
                rintro e w6 ⟨rfl, hb6⟩
                have X6 := Lib.hid (X5.out.below hb6)
                clear hb6 X5 HT2
                go_wp2_with (at_builtin; refine wp_append_strM rfl _ _ rfl rfl X6.out.own (numB 3 ++ G2) rfl ?cz1 ?_)
                case cz1 => rw [hhd, ByteArray.size_append]; omega
                intro v' w10 hO10 hg10 hv10
                have HO10 : Hid (OwnM w.heap.size w w10 v' (hd.data.toList ++ (acc ++ (numB 3 ++ G2).data.toList))) := Lib.hid (by have h := hO10; simp only [ByteArray.data_append, Array.toList_append] at h ⊢; exact h)
                have HL10 : Hid ((acc ++ (numB 3 ++ G2).data.toList).length ≤ l.length * 18874404) := Lib.hid (by rw [List.length_append, size_toList, ByteArray.size_append]; omega)
                generalize acc ++ (numB 3 ++ G2).data.toList = acc2 at *
                have hks : IntKind.i64.wrap ((l.length : Int) - 1) = (l.length : Int) - 1 := IntWalk.i64_in _ (by omega)
                have hks2 : IntKind.i64.wrap ((l.length : Int) - 1 + 1) = (l.length : Int) := by rw [IntWalk.i64_in _ (by omega)]; omega
                clear hO10 hg10 hv10 X6
                go_wp2_with fail
                exact ⟨⟨l.length, acc2, by omega, by go_num, HG2, HL10, HO10⟩, by simp [intOf]; omega⟩
          by_cases hk20 : x.kind = 2 ∧ x.n = 0
          · obtain ⟨hk, hn0⟩ := hk20
            have HT : Hid (∀ W, Calls Tryz.prog 46 #[.int .i64 0] W fun e w' => e = .returned (.string (numB 0)) ∧ Below W.heap.size W w') := Lib.hid (fun W => r02num_any 0 (by omega) W)
            have hz1 : (numB 0).size ≤ 9 := numB_size _
            have hgr : groupedE x = true := by unfold groupedE; rw [hk, hn0]; rfl
            have z0 : w2.cell? ⟨wo.heap.size, 0, none⟩ = some (.int .i64 2) := by rw [X2.out.e.cell]; show (some (.int .i64 x.kind) : Option Value) = _; rw [hk]
            have z1 : w2.cell? ⟨wo.heap.size, 1, none⟩ = some (.string x.path) := by rw [X2.out.e.cell]; rfl
            have z2 : w2.cell? ⟨wo.heap.size, 2, none⟩ = some (.string x.msg) := by rw [X2.out.e.cell]; rfl
            have z3 : w2.cell? ⟨wo.heap.size, 3, none⟩ = some (.slice A3 x.args.length c3) := by rw [X2.out.e.cell]; rfl
            have z4 : w2.cell? ⟨wo.heap.size, 4, none⟩ = some (.int .i64 x.ord) := by rw [X2.out.e.cell]; rfl
            have z5 : w2.cell? ⟨wo.heap.size, 5, none⟩ = some (.int .i64 x.vk) := by rw [X2.out.e.cell]; rfl
            have z6 : w2.cell? ⟨wo.heap.size, 6, none⟩ = some (.string x.vt) := by rw [X2.out.e.cell]; rfl
            have z7 : w2.cell? ⟨wo.heap.size, 7, none⟩ = some (.int .i64 x.vn) := by rw [X2.out.e.cell]; rfl
            have z8 : w2.cell? ⟨wo.heap.size, 8, none⟩ = some (.int .i64 x.vm) := by rw [X2.out.e.cell]; rfl
            have z9 : w2.cell? ⟨wo.heap.size, 9, none⟩ = some (.string x.vx) := by rw [X2.out.e.cell]; rfl
            have z10 : w2.cell? ⟨wo.heap.size, 10, none⟩ = some (.slice A10 x.vl.length c10) := by rw [X2.out.e.cell]; rfl
            have z11 : w2.cell? ⟨wo.heap.size, 11, none⟩ = some (.int .i64 0) := by rw [X2.out.e.cell]; show (some (.int .i64 x.n) : Option Value) = _; rw [hn0]
            go_wp2_with fail
            clear z0 z1 z2 z3 z4 z5 z6 z7 z8 z9 z10 z11
            have hSG : Hid (SGo l x i i) := Lib.hid (SGo.start l x i)
            go_loopw [8] (fun s8 wr => ∃ k : Nat, i ≤ k ∧ k ≤ l.length ∧ s8 = .int .i64 k ∧ Hid (SGo l x i k) ∧ Hid (B23 w wo wr wo.heap.size #[.int .i64 x.kind, .string x.path, .string x.msg, .slice A3 x.args.length c3, .int .i64 x.ord, .int .i64 x.vk, .string x.vt, .int .i64 x.vn, .int .i64 x.vm, .string x.vx, .slice A10 x.vl.length c10, .int .i64 x.n] u3 (hd.data.toList ++ acc))) (fun s8 _ => l.length - (intOf s8).toNat)
            case atStart => exact ⟨i, by omega, by omega, rfl, hSG, X2⟩
            case round =>
              clear hSG X2
              obtain ⟨k, hik, hkl, rfl, HS, X⟩ := hrel
              by_cases hkn : k < l.length
              · obtain ⟨b2, off2, y, e, hlb2, hgety, A4, c4, A11, c11, haty⟩ := slEv_at (HR.out.below X.out.own.bel (fun _ h => h)) hkn
                cases e
                obtain ⟨q0, q1, q2, q3, q4, q5, q6, q7, q8, q9, q10, q11, s3, s10⟩ := haty
                have hin2 : (k : Int) < l.length := by omega
                have HY := Lib.hid hgety
                have hmemy := List.mem_of_getElem? hgety
                have hby := HZ.out y hmemy
                clear s3 s10 hgety
                have e0 : wr.cell? ⟨wo.heap.size, 0, none⟩ = some (.int .i64 2) := by rw [X.out.e.cell]; show (some (.int .i64 x.kind) : Option Value) = _; rw [hk]
                have e1 : wr.cell? ⟨wo.heap.size, 1, none⟩ = some (.string x.path) := by rw [X.out.e.cell]; rfl
                have e2 : wr.cell? ⟨wo.heap.size, 2, none⟩ = some (.string x.msg) := by rw [X.out.e.cell]; rfl
                have e3 : wr.cell? ⟨wo.heap.size, 3, none⟩ = some (.slice A3 x.args.length c3) := by rw [X.out.e.cell]; rfl
                have e4 : wr.cell? ⟨wo.heap.size, 4, none⟩ = some (.int .i64 x.ord) := by rw [X.out.e.cell]; rfl
                have e5 : wr.cell? ⟨wo.heap.size, 5, none⟩ = some (.int .i64 x.vk) := by rw [X.out.e.cell]; rfl
                have e6 : wr.cell? ⟨wo.heap.size, 6, none⟩ = some (.string x.vt) := by rw [X.out.e.cell]; rfl
                have e7 : wr.cell? ⟨wo.heap.size, 7, none⟩ = some (.int .i64 x.vn) := by rw [X.out.e.cell]; rfl
                have e8 : wr.cell? ⟨wo.heap.size, 8, none⟩ = some (.int .i64 x.vm) := by rw [X.out.e.cell]; rfl
                have e9 : wr.cell? ⟨wo.heap.size, 9, none⟩ = some (.string x.vx) := by rw [X.out.e.cell]; rfl
                have e10 : wr.cell? ⟨wo.heap.size, 10, none⟩ = some (.slice A10 x.vl.length c10) := by rw [X.out.e.cell]; rfl
                have e11 : wr.cell? ⟨wo.heap.size, 11, none⟩ = some (.int .i64 0) := by rw [X.out.e.cell]; show (some (.int .i64 x.n) : Option Value) = _; rw [hn0]
                cases hyk : (y.kind == 2) with
                | false =>
                  have HSP : Hid (refSpan x (l.drop i) = some (k - i)) := Lib.hid (HS.out.stop HY.out (by rw [hk, hyk]; rfl))
                  go_wp2_with fail
                  go_quiet (fail)
                  obtain ⟨hik1, hg2⟩ := HG.out.more HX.out HGG.out hgr hik HSP.out
                  have HG2 := Lib.hid hg2
                  have hki : (i : Int) < (k : Int) := by omega
                  have hkm : IntKind.i64.wrap ((k : Int) - (i : Int)) = ((k - i : Nat) : Int) := by rw [IntWalk.i64_in _ (by omega)]; omega
                  clear hg2 HSP e0 e1 e2 e3 e4 e5 e6 e7 e8 e9 e10 e11
                  generalize hW : World.drewN wr _ = W4
                  have X4 : Hid (B23 w wo W4 wo.heap.size #[.int .i64 x.kind, .string x.path, .string x.msg, .slice A3 x.args.length c3, .int .i64 x.ord, .int .i64 x.vk, .string x.vt, .int .i64 x.vn, .int .i64 x.vm, .string x.vx, .slice A10 x.vl.length c10, .int .i64 x.n] u3 (hd.data.toList ++ acc)) := Lib.hid (X.out.below (by rw [← hW]; exact below_drewN (Below.refl _ wr) _))
                  clear hW X
                  have e0 : W4.cell? ⟨wo.heap.size, 0, none⟩ = some (.int .i64 2) := by rw [X4.out.e.cell]; show (some (.int .i64 x.kind) : Option Value) = _; rw [hk]
                  go_wp2_with fail
                  (with_reducible refine (HT.out W4).mono ?_)
                  rintro e w5 ⟨rfl, hb5⟩
                  have X5 := Lib.hid (X4.out.below hb5)
                  have HT2 := Lib.hid (r02num_any (k - i) (by omega) w5)
                  have hz2 : (numB (k - i)).size ≤ 9 := numB_size _
                  have HGB : Hid (groupB x (k - i) = (numB 0 ++ numB (k - i)).data.toList) := Lib.hid (by unfold groupB; rw [if_neg (by rw [hk]; decide), if_pos hgr])
                  rw [HGB.out] at HG2
                  generalize numB (k - i) = G2 at *
                  clear hb5 X4 e0 HGB
                  go_wp2_with fail
                  (with_reducible refine HT2.out.mono ?_)
                  rintro e w6 ⟨rfl, hb6⟩
                  have X6 := Lib.hid (X5.out.below hb6)
                  clear hb6 X5 HT2
                  go_wp2_with (at_builtin; refine wp_append_strM rfl _ _ rfl rfl X6.out.own (numB 0 ++ G2) rfl ?cz1 ?_)
                  case cz1 => rw [hhd, ByteArray.size_append]; omega
                  intro v' w10 hO10 hg10 hv10
                  have HO10 : Hid (OwnM w.heap.size w w10 v' (hd.data.toList ++ (acc ++ (numB 0 ++ G2).data.toList))) := Lib.hid (by have h := hO10; simp only [ByteArray.data_append, Array.toList_append] at h ⊢; exact h)
                  have HL10 : Hid ((acc ++ (numB 0 ++ G2).data.toList).length ≤ k * 18874404) := Lib.hid (by rw [List.length_append, size_toList, ByteArray.size_append]; omega)
                  generalize acc ++ (numB 0 ++ G2).data.toList = acc2 at *
                  have hks : IntKind.i64.wrap ((k : Int) - 1) = (k : Int) - 1 := IntWalk.i64_in _ (by omega)
                  have hks2 : IntKind.i64.wrap ((k : Int) - 1 + 1) = (k : Int) := by rw [IntWalk.i64_in _ (by omega)]; omega
                  clear hO10 hg10 hv10 X6
                  go_wp2_with fail
                  exact ⟨⟨k, acc2, by omega, by go_num, HG2, HL10, HO10⟩, by simp [intOf]; omega⟩
                | true =>
                  cases hyn : (y.n == 0) with
                  | false =>
                    have HSP : Hid (refSpan x (l.drop i) = some (k - i)) := Lib.hid (HS.out.stop HY.out (by rw [hyn, Bool.and_false]))
                    go_wp2_with fail
                    go_quiet (fail)
                    obtain ⟨hik1, hg2⟩ := HG.out.more HX.out HGG.out hgr hik HSP.out
                    have HG2 := Lib.hid hg2
                    have hki : (i : Int) < (k : Int) := by omega
                    have hkm : IntKind.i64.wrap ((k : Int) - (i : Int)) = ((k - i : Nat) : Int) := by rw [IntWalk.i64_in _ (by omega)]; omega
                    clear hg2 HSP e0 e1 e2 e3 e4 e5 e6 e7 e8 e9 e10 e11
                    generalize hW : World.drewN wr _ = W4
                    have X4 : Hid (B23 w wo W4 wo.heap.size #[.int .i64 x.kind, .string x.path, .string x.msg, .slice A3 x.args.length c3, .int .i64 x.ord, .int .i64 x.vk, .string x.vt, .int .i64 x.vn, .int .i64 x.vm, .string x.vx, .slice A10 x.vl.length c10, .int .i64 x.n] u3 (hd.data.toList ++ acc)) := Lib.hid (X.out.below (by rw [← hW]; exact below_drewN (Below.refl _ wr) _))
                    clear hW X
                    have e0 : W4.cell? ⟨wo.heap.size, 0, none⟩ = some (.int .i64 2) := by rw [X4.out.e.cell]; show (some (.int .i64 x.kind) : Option Value) = _; rw [hk]
                    go_wp2_with fail
                    (with_reducible refine (HT.out W4).mono ?_)
                    rintro e w5 ⟨rfl, hb5⟩
                    have X5 := Lib.hid (X4.out.below hb5)
                    have HT2 := Lib.hid (r02num_any (k - i) (by omega) w5)
                    have hz2 : (numB (k - i)).size ≤ 9 := numB_size _
                    have HGB : Hid (groupB x (k - i) = (numB 0 ++ numB (k - i)).data.toList) := Lib.hid (by unfold groupB; rw [if_neg (by rw [hk]; decide), if_pos hgr])
                    rw [HGB.out] at HG2
                    generalize numB (k - i) = G2 at *
                    clear hb5 X4 e0 HGB
                    go_wp2_with fail
                    (with_reducible refine HT2.out.mono ?_)
                    rintro e w6 ⟨rfl, hb6⟩
                    have X6 := Lib.hid (X5.out.below hb6)
                    clear hb6 X5 HT2
                    go_wp2_with (at_builtin; refine wp_append_strM rfl _ _ rfl rfl X6.out.own (numB 0 ++ G2) rfl ?cz1 ?_)
                    case cz1 => rw [hhd, ByteArray.size_append]; omega
                    intro v' w10 hO10 hg10 hv10
                    have HO10 : Hid (OwnM w.heap.size w w10 v' (hd.data.toList ++ (acc ++ (numB 0 ++ G2).data.toList))) := Lib.hid (by have h := hO10; simp only [ByteArray.data_append, Array.toList_append] at h ⊢; exact h)
                    have HL10 : Hid ((acc ++ (numB 0 ++ G2).data.toList).length ≤ k * 18874404) := Lib.hid (by rw [List.length_append, size_toList, ByteArray.size_append]; omega)
                    generalize acc ++ (numB 0 ++ G2).data.toList = acc2 at *
                    have hks : IntKind.i64.wrap ((k : Int) - 1) = (k : Int) - 1 := IntWalk.i64_in _ (by omega)
                    have hks2 : IntKind.i64.wrap ((k : Int) - 1 + 1) = (k : Int) := by rw [IntWalk.i64_in _ (by omega)]; omega
                    clear hO10 hg10 hv10 X6
                    go_wp2_with fail
                    exact ⟨⟨k, acc2, by omega, by go_num, HG2, HL10, HO10⟩, by simp [intOf]; omega⟩
                  | true =>
                    go_wp2_with fail
                    go_quiet (fail)
                    clear e0 e1 e2 e3 e4 e5 e6 e7 e8 e9 e10 e11 q0 q1 q2 q3 q4 q5 q6 q7 q8 q9 q10 q11
                    generalize hW : World.drewN wr _ = W4
                    have X4 : Hid (B23 w wo W4 wo.heap.size #[.int .i64 x.kind, .string x.path, .string x.msg, .slice A3 x.args.length c3, .int .i64 x.ord, .int .i64 x.vk, .string x.vt, .int .i64 x.vn, .int .i64 x.vm, .string x.vx, .slice A10 x.vl.length c10, .int .i64 x.n] u3 (hd.data.toList ++ acc)) := Lib.hid (X.out.below (by rw [← hW]; exact below_drewN (Below.refl _ wr) _))
                    clear hW X
                    have HYK := Lib.hid (show (y.kind == x.kind) = true by rw [hk]; exact hyk)
                    have HYN := Lib.hid hyn
                    clear hk hn0 hyk hyn
                    obtain ⟨b3, off3, y3, e, hlb3, hgety3, A5, c5, A12, c12, haty3⟩ := slEv_at (HR.out.below X4.out.own.bel (fun _ h => h)) hkn
                    cases e
                    obtain rfl : y = y3 := Option.some.inj (HY.out.symm.trans hgety3)
                    obtain ⟨q0, q1, q2, q3, q4, q5, q6, q7, q8, q9, q10, q11, s3, s10⟩ := haty3
                    have hby3 := hby
                    unfold Ev.size at hby3
                    have hvy : y.val.bulk = 7 + y.vt.size + y.vx.size + bulkV y.vl := by unfold Ev.val; rw [bulk_mk]
                    have hlw := X4.out.own.le
                    have S3 := Lib.hid (s3.weaken (fun q hq => Nat.lt_of_lt_of_le hq hlw))
                    have S10 := Lib.hid (s10.weaken (fun q hq => Nat.lt_of_lt_of_le hq hlw))
                    have T3 := Lib.hid ((R3.out.below X4.out.low (fun _ h => h)).weaken (fun q hq => Nat.lt_of_lt_of_le hq hlw))
                    have T10 := Lib.hid ((R10.out.below X4.out.low (fun _ h => h)).weaken (fun q hq => Nat.lt_of_lt_of_le hq hlw))
                    obtain ⟨g2, hg2⟩ : ∃ g2, eqE y x = g2 := ⟨_, rfl⟩
                    have K0 := Lib.hid (fun d os => Calls.regrown_of (revsame_any y x A5 A3 A12 A10 c5 c3 c12 c10 (grow (redrawn W4 d) os) (by omega) (by omega) (by omega) (by omega) (S3.out.belows (below_regrown W4 d os)) (T3.out.belows (below_regrown W4 d os)) (S10.out.belows (below_regrown W4 d os)) (T10.out.belows (below_regrown W4 d os))))
                    rw [hg2] at K0
                    have HG2 := Lib.hid hg2
                    have m0 := fun d os => cell_regrown q0 d os
                    have m1 := fun d os => cell_regrown q1 d os
                    have m2 := fun d os => cell_regrown q2 d os
                    have m3 := fun d os => cell_regrown q3 d os
                    have m4 := fun d os => cell_regrown q4 d os
                    have m5 := fun d os => cell_regrown q5 d os
                    have m6 := fun d os => cell_regrown q6 d os
                    have m7 := fun d os => cell_regrown q7 d os
                    have m8 := fun d os => cell_regrown q8 d os
                    have m9 := fun d os => cell_regrown q9 d os
                    have m10 := fun d os => cell_regrown q10 d os
                    have m11 := fun d os => cell_regrown q11 d os
                    have e0 : W4.cell? ⟨wo.heap.size, 0, none⟩ = some (.int .i64 x.kind) := by rw [X4.out.e.cell]; rfl
                    have o0 := fun d os => cell_regrown e0 d os
                    have e1 : W4.cell? ⟨wo.heap.size, 1, none⟩ = some (.string x.path) := by rw [X4.out.e.cell]; rfl
                    have o1 := fun d os => cell_regrown e1 d os
                    have e2 : W4.cell? ⟨wo.heap.size, 2, none⟩ = some (.string x.msg) := by rw [X4.out.e.cell]; rfl
                    have o2 := fun d os => cell_regrown e2 d os
                    have e3 : W4.cell? ⟨wo.heap.size, 3, none⟩ = some (.slice A3 x.args.length c3) := by rw [X4.out.e.cell]; rfl
                    have o3 := fun d os => cell_regrown e3 d os
                    have e4 : W4.cell? ⟨wo.heap.size, 4, none⟩ = some (.int .i64 x.ord) := by rw [X4.out.e.cell]; rfl
                    have o4 := fun d os => cell_regrown e4 d os
                    have e5 : W4.cell? ⟨wo.heap.size, 5, none⟩ = some (.int .i64 x.vk) := by rw [X4.out.e.cell]; rfl
                    have o5 := fun d os => cell_regrown e5 d os
                    have e6 : W4.cell? ⟨wo.heap.size, 6, none⟩ = some (.string x.vt) := by rw [X4.out.e.cell]; rfl
                    have o6 := fun d os => cell_regrown e6 d os
                    have e7 : W4.cell? ⟨wo.heap.size, 7, none⟩ = some (.int .i64 x.vn) := by rw [X4.out.e.cell]; rfl
                    have o7 := fun d os => cell_regrown e7 d os
                    have e8 : W4.cell? ⟨wo.heap.size, 8, none⟩ = some (.int .i64 x.vm) := by rw [X4.out.e.cell]; rfl
                    have o8 := fun d os => cell_regrown e8 d os
                    have e9 : W4.cell? ⟨wo.heap.size, 9, none⟩ = some (.string x.vx) := by rw [X4.out.e.cell]; rfl
                    have o9 := fun d os => cell_regrown e9 d os
                    have e10 : W4.cell? ⟨wo.heap.size, 10, none⟩ = some (.slice A10 x.vl.length c10) := by rw [X4.out.e.cell]; rfl
                    have o10 := fun d os => cell_regrown e10 d os
                    have e11 : W4.cell? ⟨wo.heap.size, 11, none⟩ = some (.int .i64 x.n) := by rw [X4.out.e.cell]; rfl
                    have o11 := fun d os => cell_regrown e11 d os
                    clear e0 e1 e2 e3 e4 e5 e6 e7 e8 e9 e10 e11 q0 q1 q2 q3 q4 q5 q6 q7 q8 q9 q10 q11 s3 s10 hg2 hby3 hvy hgety3
                    go_wp2_with fail
                    refine wp_region_quiet_below (by kernel_rfl) (by kernel_rfl) ?_
                    repeat (go_big_quiet_step (first | with_reducible exact K0.out _ _))
                    refine wpQuiet_nil ?_
                    intro _ hw'
                    obtain ⟨⟨dq, osq⟩, hw''⟩ := hw'
                    subst hw''
                    clear m0 m1 m2 m3 m4 m5 m6 m7 m8 m9 m10 m11 o0 o1 o2 o3 o4 o5 o6 o7 o8 o9 o10 o11 K0
                    have hb1 := below_regrown W4 dq osq
                    obtain ⟨w5, hw5⟩ : ∃ w5, grow (redrawn W4 dq) osq = w5 := ⟨_, rfl⟩
                    rw [hw5] at hb1 ⊢
                    have X5 := Lib.hid (X4.out.below hb1)
                    clear hw5 hb1 X4
                    cases g2 with
                    | false =>
                      have HN := Lib.hid (HBAD.out (HG.out.gone HX.out HGG.out hgr (HS.out.gone HY.out HYK.out HYN.out HG2.out)))
                      go_wp2_with fail
                      go_ret
                      exact ⟨by rw [HN.out]; rfl, X5.out.own.bel⟩
                    | true =>
                      have HS2 := Lib.hid (HS.out.step hik HY.out HYK.out HYN.out HG2.out)
                      go_wp2_with fail
                      exact ⟨⟨k + 1, by omega, by omega, by go_num, HS2, X5⟩, by simp [intOf]; omega⟩
              · obtain rfl : k = l.length := by omega
                have hin2 : ¬ ((l.length : Int) < l.length) := by omega
                have HSP : Hid (refSpan x (l.drop i) = some (l.length - i)) := Lib.hid (HS.out.end (Nat.le_refl _))
                have e0 : wr.cell? ⟨wo.heap.size, 0, none⟩ = some (.int .i64 2) := by rw [X.out.e.cell]; show (some (.int .i64 x.kind) : Option Value) = _; rw [hk]
                have e1 : wr.cell? ⟨wo.heap.size, 1, none⟩ = some (.string x.path) := by rw [X.out.e.cell]; rfl
                have e2 : wr.cell? ⟨wo.heap.size, 2, none⟩ = some (.string x.msg) := by rw [X.out.e.cell]; rfl
                have e3 : wr.cell? ⟨wo.heap.size, 3, none⟩ = some (.slice A3 x.args.length c3) := by rw [X.out.e.cell]; rfl
                have e4 : wr.cell? ⟨wo.heap.size, 4, none⟩ = some (.int .i64 x.ord) := by rw [X.out.e.cell]; rfl
                have e5 : wr.cell? ⟨wo.heap.size, 5, none⟩ = some (.int .i64 x.vk) := by rw [X.out.e.cell]; rfl
                have e6 : wr.cell? ⟨wo.heap.size, 6, none⟩ = some (.string x.vt) := by rw [X.out.e.cell]; rfl
                have e7 : wr.cell? ⟨wo.heap.size, 7, none⟩ = some (.int .i64 x.vn) := by rw [X.out.e.cell]; rfl
                have e8 : wr.cell? ⟨wo.heap.size, 8, none⟩ = some (.int .i64 x.vm) := by rw [X.out.e.cell]; rfl
                have e9 : wr.cell? ⟨wo.heap.size, 9, none⟩ = some (.string x.vx) := by rw [X.out.e.cell]; rfl
                have e10 : wr.cell? ⟨wo.heap.size, 10, none⟩ = some (.slice A10 x.vl.length c10) := by rw [X.out.e.cell]; rfl
                have e11 : wr.cell? ⟨wo.heap.size, 11, none⟩ = some (.int .i64 0) := by rw [X.out.e.cell]; show (some (.int .i64 x.n) : Option Value) = _; rw [hn0]
                go_wp2_with fail
                go_quiet (fail)
                obtain ⟨hik1, hg2⟩ := HG.out.more HX.out HGG.out hgr hik HSP.out
                have HG2 := Lib.hid hg2
                have hki : (i : Int) < (l.length : Int) := by omega
                have hkm : IntKind.i64.wrap ((l.length : Int) - (i : Int)) = ((l.length - i : Nat) : Int) := by rw [IntWalk.i64_in _ (by omega)]; omega
                clear hg2 HSP e0 e1 e2 e3 e4 e5 e6 e7 e8 e9 e10 e11
                generalize hW : World.drewN wr _ = W4
                have X4 : Hid (B23 w wo W4 wo.heap.size #[.int .i64 x.kind, .string x.path, .string x.msg, .slice A3 x.args.length c3, .int .i64 x.ord, .int .i64 x.vk, .string x.vt, .int .i64 x.vn, .int .i64 x.vm, .string x.vx, .slice A10 x.vl.length c10, .int .i64 x.n] u3 (hd.data.toList ++ acc)) := Lib.hid (X.out.below (by rw [← hW]; exact below_drewN (Below.refl _ wr) _))
                clear hW X
                have e0 : W4.cell? ⟨wo.heap.size, 0, none⟩ = some (.int .i64 2) := by rw [X4.out.e.cell]; show (some (.int .i64 x.kind) : Option Value) = _; rw [hk]
                go_wp2_with fail
                (with_reducible refine (HT.out W4).mono ?_)
                rintro e w5 ⟨rfl, hb5⟩
                have X5 := Lib.hid (X4.out.below hb5)
                have HT2 := Lib.hid (r02num_any (l.length - i) (by omega) w5)
                have hz2 : (numB (l.length - i)).size ≤ 9 := numB_size _
                have HGB : Hid (groupB x (l.length - i) = (numB 0 ++ numB (l.length - i)).data.toList) := Lib.hid (by unfold groupB; rw [if_neg (by rw [hk]; decide), if_pos hgr])
                rw [HGB.out] at HG2
                generalize numB (l.length - i) = G2 at *
                clear hb5 X4 e0 HGB
                go_wp2_with fail
                (with_reducible refine HT2.out.mono ?_)
                rintro e w6 ⟨rfl, hb6⟩
                have X6 := Lib.hid (X5.out.below hb6)
                clear hb6 X5 HT2
                go_wp2_with (at_builtin; refine wp_append_strM rfl _ _ rfl rfl X6.out.own (numB 0 ++ G2) rfl ?cz1 ?_)
                case cz1 => rw [hhd, ByteArray.size_append]; omega
                intro v' w10 hO10 hg10 hv10
                have HO10 : Hid (OwnM w.heap.size w w10 v' (hd.data.toList ++ (acc ++ (numB 0 ++ G2).data.toList))) := Lib.hid (by have h := hO10; simp only [ByteArray.data_append, Array.toList_append] at h ⊢; exact h)
                have HL10 : Hid ((acc ++ (numB 0 ++ G2).data.toList).length ≤ l.length * 18874404) := Lib.hid (by rw [List.length_append, size_toList, ByteArray.size_append]; omega)
                generalize acc ++ (numB 0 ++ G2).data.toList = acc2 at *
                have hks : IntKind.i64.wrap ((l.length : Int) - 1) = (l.length : Int) - 1 := IntWalk.i64_in _ (by omega)
                have hks2 : IntKind.i64.wrap ((l.length : Int) - 1 + 1) = (l.length : Int) := by rw [IntWalk.i64_in _ (by omega)]; omega
                clear hO10 hg10 hv10 X6
                go_wp2_with fail
                exact ⟨⟨l.length, acc2, by omega, by go_num, HG2, HL10, HO10⟩, by simp [intOf]; omega⟩
          have q3 : (x.kind == 3) = false := by rw [beq_eq_false_iff_ne]; exact hk
          have q20 : ((x.kind == 2) && (x.n == 0)) = false := by
            cases h2 : (x.kind == 2) with
            | false => rfl
            | true =>
              cases h0 : (x.n == 0) with
              | false => rfl
              | true => exact absurd ⟨by simpa using h2, by simpa using h0⟩ hk20
          have hgr := not_grouped q3 q20
          have HG2 := Lib.hid (HG.out.one HX.out HGG.out hgr)
          have hkk := kind_of HGG.out
          have HK := Lib.hid (fun W => rnum_int x.kind (by omega) W)
          have hz1 := numZ_size x.kind
          by_cases hk1 : x.kind = 1
          · skip
            rw [hk1] at HK hz1
            have z0 : w2.cell? ⟨wo.heap.size, 0, none⟩ = some (.int .i64 x.kind) := by rw [X2.out.e.cell]; rfl
            have z1 : w2.cell? ⟨wo.heap.size, 1, none⟩ = some (.string x.path) := by rw [X2.out.e.cell]; rfl
            have z2 : w2.cell? ⟨wo.heap.size, 2, none⟩ = some (.string x.msg) := by rw [X2.out.e.cell]; rfl
            have z3 : w2.cell? ⟨wo.heap.size, 3, none⟩ = some (.slice A3 x.args.length c3) := by rw [X2.out.e.cell]; rfl
            have z4 : w2.cell? ⟨wo.heap.size, 4, none⟩ = some (.int .i64 x.ord) := by rw [X2.out.e.cell]; rfl
            have z5 : w2.cell? ⟨wo.heap.size, 5, none⟩ = some (.int .i64 x.vk) := by rw [X2.out.e.cell]; rfl
            have z6 : w2.cell? ⟨wo.heap.size, 6, none⟩ = some (.string x.vt) := by rw [X2.out.e.cell]; rfl
            have z7 : w2.cell? ⟨wo.heap.size, 7, none⟩ = some (.int .i64 x.vn) := by rw [X2.out.e.cell]; rfl
            have z8 : w2.cell? ⟨wo.heap.size, 8, none⟩ = some (.int .i64 x.vm) := by rw [X2.out.e.cell]; rfl
            have z9 : w2.cell? ⟨wo.heap.size, 9, none⟩ = some (.string x.vx) := by rw [X2.out.e.cell]; rfl
            have z10 : w2.cell? ⟨wo.heap.size, 10, none⟩ = some (.slice A10 x.vl.length c10) := by rw [X2.out.e.cell]; rfl
            have z11 : w2.cell? ⟨wo.heap.size, 11, none⟩ = some (.int .i64 x.n) := by rw [X2.out.e.cell]; rfl
            rw [hk1] at z0
            have hlt1 : (i : Int) < l.length := hin
            go_wp2_with fail
            refine wp_loop_rounds 1 ?_
            rw [rounds_succ]
            go_wp2_with fail
            go_quiet (fail)
            generalize hW : World.drewN w2 _ = W4
            have X4 : Hid (B23 w wo W4 wo.heap.size #[.int .i64 x.kind, .string x.path, .string x.msg, .slice A3 x.args.length c3, .int .i64 x.ord, .int .i64 x.vk, .string x.vt, .int .i64 x.vn, .int .i64 x.vm, .string x.vx, .slice A10 x.vl.length c10, .int .i64 x.n] u3 (hd.data.toList ++ acc)) := Lib.hid (X2.out.below (by rw [← hW]; exact below_drewN (Below.refl _ w2) _))
            clear hW X2 z0 z1 z2 z3 z4 z5 z6 z7 z8 z9 z10 z11
            have z0 : W4.cell? ⟨wo.heap.size, 0, none⟩ = some (.int .i64 1) := by rw [X4.out.e.cell]; show (some (.int .i64 x.kind) : Option Value) = _; rw [hk1]
            go_wp2_with fail
            (with_reducible refine (HK.out W4).mono ?_)
            rintro e w5 ⟨rfl, hb5⟩
            have X5 := Lib.hid (X4.out.below hb5)
            clear hb5 X4 z0
            go_wp2_with (at_builtin; refine wp_append_strM rfl _ _ rfl rfl X5.out.own (numZ 1) rfl ?cz1 ?_)
            case cz1 => rw [hhd]; omega
            intro v' w10 hO10 hg10 hv10
            obtain ⟨L6, hL6⟩ : ∃ L, L = hd.data.toList ++ (acc ++ (numZ 1).data.toList) := ⟨_, rfl⟩
            have X6 : Hid (B23 w wo w10 wo.heap.size #[.int .i64 x.kind, .string x.path, .string x.msg, .slice A3 x.args.length c3, .int .i64 x.ord, .int .i64 x.vk, .string x.vt, .int .i64 x.vn, .int .i64 x.vm, .string x.vx, .slice A10 x.vl.length c10, .int .i64 x.n] v' L6) := Lib.hid (by
              have h := X5.out.app hO10 hg10 hv10
              rw [hL6]
              first | exact h | (rw [← List.append_assoc]; exact h))
            have hh6 : L6.length = hd.size + acc.length + (numZ 1).size := by rw [hL6, List.length_append, List.length_append, size_toList, size_toList]; omega
            have HL6 := Lib.hid hL6
            clear hL6 hO10 hg10 hv10 X5 HK
            have y0 : w10.cell? ⟨wo.heap.size, 0, none⟩ = some (.int .i64 1) := by rw [X6.out.e.cell]; show (some (.int .i64 x.kind) : Option Value) = _; rw [hk1]
            have y1 : w10.cell? ⟨wo.heap.size, 1, none⟩ = some (.string x.path) := by rw [X6.out.e.cell]; rfl
            have y2 : w10.cell? ⟨wo.heap.size, 2, none⟩ = some (.string x.msg) := by rw [X6.out.e.cell]; rfl
            have y3 : w10.cell? ⟨wo.heap.size, 3, none⟩ = some (.slice A3 x.args.length c3) := by rw [X6.out.e.cell]; rfl
            have ht1 := textB_size x.path
            have ht2 := textB_size x.msg
            have ht3 := valuesB_size x.args
            have zz1 : ¬ 9223372036854775807 < (textB x.path).size + (textB x.msg).size := by omega
            have zz2 : ¬ 9223372036854775807 < (textB x.path).size + (textB x.msg).size + (valuesB x.args).size := by omega
            have hll : (textB x.path ++ textB x.msg ++ valuesB x.args).size = (textB x.path).size + (textB x.msg).size + (valuesB x.args).size := by simp only [ByteArray.size_append]
            have HW3 : Hid (WfV x.args) := Lib.hid (HWF.out x HM.out).2.2.2.1
            have X6 : Hid (B23 w wo w10.drew wo.heap.size #[.int .i64 x.kind, .string x.path, .string x.msg, .slice A3 x.args.length c3, .int .i64 x.ord, .int .i64 x.vk, .string x.vt, .int .i64 x.vn, .int .i64 x.vm, .string x.vx, .slice A10 x.vl.length c10, .int .i64 x.n] v' L6) := Lib.hid (X6.out.below (below_drewN (Below.refl _ w10) 1))
            go_wp2_with fail
            go_region_held3 (fun w' => w'.cell? ⟨wo.heap.size, 1, none⟩ = some (.string x.path) ∧ w'.cell? ⟨wo.heap.size, 2, none⟩ = some (.string x.msg) ∧ w'.cell? ⟨wo.heap.size, 3, none⟩ = some (.slice A3 x.args.length c3))
              (first | go_keep)
              (first
                | (go_at_call 47; go_loud ((refine (r02text_any _ (by omega) _).mono ?_); rintro e w4 ⟨rfl, hb⟩; have X6 := Lib.hid (X6.out.below hb); clear hb; have y1 : w4.cell? ⟨wo.heap.size, 1, none⟩ = some (.string x.path) := (by rw [X6.out.e.cell]; rfl); have y2 : w4.cell? ⟨wo.heap.size, 2, none⟩ = some (.string x.msg) := (by rw [X6.out.e.cell]; rfl); have y3 : w4.cell? ⟨wo.heap.size, 3, none⟩ = some (.slice A3 x.args.length c3) := (by rw [X6.out.e.cell]; rfl)))
                | (go_at_call 48; go_loud ((refine (values23_any x.args A3 c3 _ (by omega) HW3.out ((R3.out.below X6.out.low (fun _ h => h)).weaken (fun q hq => Nat.lt_of_lt_of_le hq X6.out.own.le))).mono ?_); rintro e w4 ⟨rfl, hb⟩; have X6 := Lib.hid (X6.out.below hb); clear hb; have y1 : w4.cell? ⟨wo.heap.size, 1, none⟩ = some (.string x.path) := (by rw [X6.out.e.cell]; rfl); have y2 : w4.cell? ⟨wo.heap.size, 2, none⟩ = some (.string x.msg) := (by rw [X6.out.e.cell]; rfl); have y3 : w4.cell? ⟨wo.heap.size, 3, none⟩ = some (.slice A3 x.args.length c3) := (by rw [X6.out.e.cell]; rfl)))
                | (refine step_append_strM (by rfl) _ _ (by rfl) (by rfl) X6.out.own (textB x.path ++ textB x.msg ++ valuesB x.args) (by rfl) (by rw [hh6, hll]; omega) ?_; intro v2 w12 hO12 hg12 hv12; have X8 := Lib.hid (X6.out.app hO12 hg12 hv12); clear hO12 hg12 hv12; have y1 : w12.cell? ⟨wo.heap.size, 1, none⟩ = some (.string x.path) := (by rw [X8.out.e.cell]; rfl); have y2 : w12.cell? ⟨wo.heap.size, 2, none⟩ = some (.string x.msg) := (by rw [X8.out.e.cell]; rfl); have y3 : w12.cell? ⟨wo.heap.size, 3, none⟩ = some (.slice A3 x.args.length c3) := (by rw [X8.out.e.cell]; rfl)))
            all_goals (
              clear y0 y1 y2 y3 zz1 zz2
              have y0 : w12.cell? ⟨wo.heap.size, 0, none⟩ = some (.int .i64 1) := by rw [X8.out.e.cell]; show (some (.int .i64 x.kind) : Option Value) = _; rw [hk1]
              have HWS := Lib.hid (writeS_in hk1)
              have HO12 : Hid (OwnM w.heap.size w w12 v2 (hd.data.toList ++ (acc ++ writeS x))) := Lib.hid (by have h := X8.out.own; rw [HL6.out] at h; rw [HWS.out]; simpa only [List.append_assoc] using h)
              have HL12 : Hid ((acc ++ writeS x).length ≤ (i + 1) * 18874404) := Lib.hid (by have := writeS_len x; rw [List.length_append]; omega)
              go_wp2_with fail
              exact ⟨⟨i + 1, acc ++ writeS x, by omega, by go_num, HG2, HL12, HO12⟩, by simp [intOf]; omega⟩)
          by_cases hk4 : x.kind = 4
          · skip
            rw [hk4] at HK hz1
            have z0 : w2.cell? ⟨wo.heap.size, 0, none⟩ = some (.int .i64 x.kind) := by rw [X2.out.e.cell]; rfl
            have z1 : w2.cell? ⟨wo.heap.size, 1, none⟩ = some (.string x.path) := by rw [X2.out.e.cell]; rfl
            have z2 : w2.cell? ⟨wo.heap.size, 2, none⟩ = some (.string x.msg) := by rw [X2.out.e.cell]; rfl
            have z3 : w2.cell? ⟨wo.heap.size, 3, none⟩ = some (.slice A3 x.args.length c3) := by rw [X2.out.e.cell]; rfl
            have z4 : w2.cell? ⟨wo.heap.size, 4, none⟩ = some (.int .i64 x.ord) := by rw [X2.out.e.cell]; rfl
            have z5 : w2.cell? ⟨wo.heap.size, 5, none⟩ = some (.int .i64 x.vk) := by rw [X2.out.e.cell]; rfl
            have z6 : w2.cell? ⟨wo.heap.size, 6, none⟩ = some (.string x.vt) := by rw [X2.out.e.cell]; rfl
            have z7 : w2.cell? ⟨wo.heap.size, 7, none⟩ = some (.int .i64 x.vn) := by rw [X2.out.e.cell]; rfl
            have z8 : w2.cell? ⟨wo.heap.size, 8, none⟩ = some (.int .i64 x.vm) := by rw [X2.out.e.cell]; rfl
            have z9 : w2.cell? ⟨wo.heap.size, 9, none⟩ = some (.string x.vx) := by rw [X2.out.e.cell]; rfl
            have z10 : w2.cell? ⟨wo.heap.size, 10, none⟩ = some (.slice A10 x.vl.length c10) := by rw [X2.out.e.cell]; rfl
            have z11 : w2.cell? ⟨wo.heap.size, 11, none⟩ = some (.int .i64 x.n) := by rw [X2.out.e.cell]; rfl
            rw [hk4] at z0
            have hlt1 : (i : Int) < l.length := hin
            go_wp2_with fail
            refine wp_loop_rounds 1 ?_
            rw [rounds_succ]
            go_wp2_with fail
            go_quiet (fail)
            generalize hW : World.drewN w2 _ = W4
            have X4 : Hid (B23 w wo W4 wo.heap.size #[.int .i64 x.kind, .string x.path, .string x.msg, .slice A3 x.args.length c3, .int .i64 x.ord, .int .i64 x.vk, .string x.vt, .int .i64 x.vn, .int .i64 x.vm, .string x.vx, .slice A10 x.vl.length c10, .int .i64 x.n] u3 (hd.data.toList ++ acc)) := Lib.hid (X2.out.below (by rw [← hW]; exact below_drewN (Below.refl _ w2) _))
            clear hW X2 z0 z1 z2 z3 z4 z5 z6 z7 z8 z9 z10 z11
            have z0 : W4.cell? ⟨wo.heap.size, 0, none⟩ = some (.int .i64 4) := by rw [X4.out.e.cell]; show (some (.int .i64 x.kind) : Option Value) = _; rw [hk4]
            go_wp2_with fail
            (with_reducible refine (HK.out W4).mono ?_)
            rintro e w5 ⟨rfl, hb5⟩
            have X5 := Lib.hid (X4.out.below hb5)
            clear hb5 X4 z0
            go_wp2_with (at_builtin; refine wp_append_strM rfl _ _ rfl rfl X5.out.own (numZ 4) rfl ?cz1 ?_)
            case cz1 => rw [hhd]; omega
            intro v' w10 hO10 hg10 hv10
            obtain ⟨L6, hL6⟩ : ∃ L, L = hd.data.toList ++ (acc ++ (numZ 4).data.toList) := ⟨_, rfl⟩
            have X6 : Hid (B23 w wo w10 wo.heap.size #[.int .i64 x.kind, .string x.path, .string x.msg, .slice A3 x.args.length c3, .int .i64 x.ord, .int .i64 x.vk, .string x.vt, .int .i64 x.vn, .int .i64 x.vm, .string x.vx, .slice A10 x.vl.length c10, .int .i64 x.n] v' L6) := Lib.hid (by
              have h := X5.out.app hO10 hg10 hv10
              rw [hL6]
              first | exact h | (rw [← List.append_assoc]; exact h))
            have hh6 : L6.length = hd.size + acc.length + (numZ 4).size := by rw [hL6, List.length_append, List.length_append, size_toList, size_toList]; omega
            have HL6 := Lib.hid hL6
            clear hL6 hO10 hg10 hv10 X5 HK
            have y0 : w10.cell? ⟨wo.heap.size, 0, none⟩ = some (.int .i64 4) := by rw [X6.out.e.cell]; show (some (.int .i64 x.kind) : Option Value) = _; rw [hk4]
            have y1 : w10.cell? ⟨wo.heap.size, 1, none⟩ = some (.string x.path) := by rw [X6.out.e.cell]; rfl
            have y2 : w10.cell? ⟨wo.heap.size, 2, none⟩ = some (.string x.msg) := by rw [X6.out.e.cell]; rfl
            have y3 : w10.cell? ⟨wo.heap.size, 3, none⟩ = some (.slice A3 x.args.length c3) := by rw [X6.out.e.cell]; rfl
            have ht1 := textB_size x.path
            have ht2 := textB_size x.msg
            have ht3 := valuesB_size x.args
            have zz1 : ¬ 9223372036854775807 < (textB x.path).size + (textB x.msg).size := by omega
            have zz2 : ¬ 9223372036854775807 < (textB x.path).size + (textB x.msg).size + (valuesB x.args).size := by omega
            have hll : (textB x.path ++ textB x.msg ++ valuesB x.args).size = (textB x.path).size + (textB x.msg).size + (valuesB x.args).size := by simp only [ByteArray.size_append]
            have HW3 : Hid (WfV x.args) := Lib.hid (HWF.out x HM.out).2.2.2.1
            have X6 : Hid (B23 w wo w10.drew wo.heap.size #[.int .i64 x.kind, .string x.path, .string x.msg, .slice A3 x.args.length c3, .int .i64 x.ord, .int .i64 x.vk, .string x.vt, .int .i64 x.vn, .int .i64 x.vm, .string x.vx, .slice A10 x.vl.length c10, .int .i64 x.n] v' L6) := Lib.hid (X6.out.below (below_drewN (Below.refl _ w10) 1))
            go_wp2_with fail
            go_region_held3 (fun w' => w'.cell? ⟨wo.heap.size, 1, none⟩ = some (.string x.path) ∧ w'.cell? ⟨wo.heap.size, 2, none⟩ = some (.string x.msg) ∧ w'.cell? ⟨wo.heap.size, 3, none⟩ = some (.slice A3 x.args.length c3))
              (first | go_keep)
              (first
                | (go_at_call 47; go_loud ((refine (r02text_any _ (by omega) _).mono ?_); rintro e w4 ⟨rfl, hb⟩; have X6 := Lib.hid (X6.out.below hb); clear hb; have y1 : w4.cell? ⟨wo.heap.size, 1, none⟩ = some (.string x.path) := (by rw [X6.out.e.cell]; rfl); have y2 : w4.cell? ⟨wo.heap.size, 2, none⟩ = some (.string x.msg) := (by rw [X6.out.e.cell]; rfl); have y3 : w4.cell? ⟨wo.heap.size, 3, none⟩ = some (.slice A3 x.args.length c3) := (by rw [X6.out.e.cell]; rfl)))
                | (go_at_call 48; go_loud ((refine (values23_any x.args A3 c3 _ (by omega) HW3.out ((R3.out.below X6.out.low (fun _ h => h)).weaken (fun q hq => Nat.lt_of_lt_of_le hq X6.out.own.le))).mono ?_); rintro e w4 ⟨rfl, hb⟩; have X6 := Lib.hid (X6.out.below hb); clear hb; have y1 : w4.cell? ⟨wo.heap.size, 1, none⟩ = some (.string x.path) := (by rw [X6.out.e.cell]; rfl); have y2 : w4.cell? ⟨wo.heap.size, 2, none⟩ = some (.string x.msg) := (by rw [X6.out.e.cell]; rfl); have y3 : w4.cell? ⟨wo.heap.size, 3, none⟩ = some (.slice A3 x.args.length c3) := (by rw [X6.out.e.cell]; rfl)))
                | (refine step_append_strM (by rfl) _ _ (by rfl) (by rfl) X6.out.own (textB x.path ++ textB x.msg ++ valuesB x.args) (by rfl) (by rw [hh6, hll]; omega) ?_; intro v2 w12 hO12 hg12 hv12; have X8 := Lib.hid (X6.out.app hO12 hg12 hv12); clear hO12 hg12 hv12; have y1 : w12.cell? ⟨wo.heap.size, 1, none⟩ = some (.string x.path) := (by rw [X8.out.e.cell]; rfl); have y2 : w12.cell? ⟨wo.heap.size, 2, none⟩ = some (.string x.msg) := (by rw [X8.out.e.cell]; rfl); have y3 : w12.cell? ⟨wo.heap.size, 3, none⟩ = some (.slice A3 x.args.length c3) := (by rw [X8.out.e.cell]; rfl)))
            all_goals (
              clear y0 y1 y2 y3 zz1 zz2
              have y0 : w12.cell? ⟨wo.heap.size, 0, none⟩ = some (.int .i64 4) := by rw [X8.out.e.cell]; show (some (.int .i64 x.kind) : Option Value) = _; rw [hk4]
              have y4 : w12.cell? ⟨wo.heap.size, 4, none⟩ = some (.int .i64 x.ord) := by rw [X8.out.e.cell]; rfl
              have y5 : w12.cell? ⟨wo.heap.size, 5, none⟩ = some (.int .i64 x.vk) := by rw [X8.out.e.cell]; rfl
              have y6 : w12.cell? ⟨wo.heap.size, 6, none⟩ = some (.string x.vt) := by rw [X8.out.e.cell]; rfl
              have y7 : w12.cell? ⟨wo.heap.size, 7, none⟩ = some (.int .i64 x.vn) := by rw [X8.out.e.cell]; rfl
              have y8 : w12.cell? ⟨wo.heap.size, 8, none⟩ = some (.int .i64 x.vm) := by rw [X8.out.e.cell]; rfl
              have y9 : w12.cell? ⟨wo.heap.size, 9, none⟩ = some (.string x.vx) := by rw [X8.out.e.cell]; rfl
              have y10 : w12.cell? ⟨wo.heap.size, 10, none⟩ = some (.slice A10 x.vl.length c10) := by rw [X8.out.e.cell]; rfl
              obtain ⟨L8, hL8⟩ : ∃ L, L = L6 ++ (textB x.path ++ textB x.msg ++ valuesB x.args).data.toList := ⟨_, rfl⟩
              have X8 : Hid (B23 w wo w12.drew wo.heap.size #[.int .i64 x.kind, .string x.path, .string x.msg, .slice A3 x.args.length c3, .int .i64 x.ord, .int .i64 x.vk, .string x.vt, .int .i64 x.vn, .int .i64 x.vm, .string x.vx, .slice A10 x.vl.length c10, .int .i64 x.n] v2 L8) := Lib.hid (by rw [hL8]; exact X8.out.below (below_drewN (Below.refl _ w12) 1))
              have hh8 : L8.length = L6.length + ((textB x.path).size + (textB x.msg).size + (valuesB x.args).size) := by rw [hL8, List.length_append, size_toList, hll]
              have HL8 := Lib.hid hL8
              clear hL8
              have hz4 := numZ_size x.ord
              have hz5 := bytesP_size x.val
              have zz3 : ¬ 9223372036854775807 < (numZ x.ord).size + (bytesP nodeP x.val).size := by omega
              have hll2 : (numZ x.ord ++ bytesP nodeP x.val).size = (numZ x.ord).size + (bytesP nodeP x.val).size := by simp only [ByteArray.size_append]
              have hord := (HWF.out x HM.out).2.1.2
              have HVB : Hid (∀ W, Rd (Lt W.heap.size) W (vs x.vl) (.slice A10 x.vl.length c10) → Calls Tryz.prog 49 #[.agg #[.int .i64 x.vk, .string x.vt, .int .i64 x.vn, .int .i64 x.vm, .string x.vx, .slice A10 x.vl.length c10]] W fun e w' => e = .returned (.string (bytesP nodeP x.val)) ∧ Below W.heap.size W w') := Lib.hid (fun W h => rBytes_any x.vk x.vt x.vn x.vm x.vx x.vl A10 c10 W (by show x.val.bulk ≤ _; omega) (HWF.out x HM.out).2.2.2.2 h)
              go_wp2_with fail
              go_region_held3 (fun w' => w'.cell? ⟨wo.heap.size, 4, none⟩ = some (.int .i64 x.ord) ∧ w'.cell? ⟨wo.heap.size, 5, none⟩ = some (.int .i64 x.vk) ∧ w'.cell? ⟨wo.heap.size, 6, none⟩ = some (.string x.vt) ∧ w'.cell? ⟨wo.heap.size, 7, none⟩ = some (.int .i64 x.vn) ∧ w'.cell? ⟨wo.heap.size, 8, none⟩ = some (.int .i64 x.vm) ∧ w'.cell? ⟨wo.heap.size, 9, none⟩ = some (.string x.vx) ∧ w'.cell? ⟨wo.heap.size, 10, none⟩ = some (.slice A10 x.vl.length c10))
                (first | go_keep)
                (first
                  | (go_at_call 46; go_loud ((refine (rnum_int x.ord hord _).mono ?_); rintro e w4 ⟨rfl, hb⟩; have X8 := Lib.hid (X8.out.below hb); clear hb; have y4 : w4.cell? ⟨wo.heap.size, 4, none⟩ = some (.int .i64 x.ord) := (by rw [X8.out.e.cell]; rfl); have y5 : w4.cell? ⟨wo.heap.size, 5, none⟩ = some (.int .i64 x.vk) := (by rw [X8.out.e.cell]; rfl); have y6 : w4.cell? ⟨wo.heap.size, 6, none⟩ = some (.string x.vt) := (by rw [X8.out.e.cell]; rfl); have y7 : w4.cell? ⟨wo.heap.size, 7, none⟩ = some (.int .i64 x.vn) := (by rw [X8.out.e.cell]; rfl); have y8 : w4.cell? ⟨wo.heap.size, 8, none⟩ = some (.int .i64 x.vm) := (by rw [X8.out.e.cell]; rfl); have y9 : w4.cell? ⟨wo.heap.size, 9, none⟩ = some (.string x.vx) := (by rw [X8.out.e.cell]; rfl); have y10 : w4.cell? ⟨wo.heap.size, 10, none⟩ = some (.slice A10 x.vl.length c10) := (by rw [X8.out.e.cell]; rfl)))
                  | (go_at_call 49; go_loud ((refine (HVB.out _ ((R10.out.below X8.out.low (fun _ h => h)).weaken (fun q hq => Nat.lt_of_lt_of_le hq X8.out.own.le))).mono ?_); rintro e w4 ⟨rfl, hb⟩; have X8 := Lib.hid (X8.out.below hb); clear hb; have y4 : w4.cell? ⟨wo.heap.size, 4, none⟩ = some (.int .i64 x.ord) := (by rw [X8.out.e.cell]; rfl); have y5 : w4.cell? ⟨wo.heap.size, 5, none⟩ = some (.int .i64 x.vk) := (by rw [X8.out.e.cell]; rfl); have y6 : w4.cell? ⟨wo.heap.size, 6, none⟩ = some (.string x.vt) := (by rw [X8.out.e.cell]; rfl); have y7 : w4.cell? ⟨wo.heap.size, 7, none⟩ = some (.int .i64 x.vn) := (by rw [X8.out.e.cell]; rfl); have y8 : w4.cell? ⟨wo.heap.size, 8, none⟩ = some (.int .i64 x.vm) := (by rw [X8.out.e.cell]; rfl); have y9 : w4.cell? ⟨wo.heap.size, 9, none⟩ = some (.string x.vx) := (by rw [X8.out.e.cell]; rfl); have y10 : w4.cell? ⟨wo.heap.size, 10, none⟩ = some (.slice A10 x.vl.length c10) := (by rw [X8.out.e.cell]; rfl)))
                  | (refine step_append_strM (by rfl) _ _ (by rfl) (by rfl) X8.out.own (numZ x.ord ++ bytesP nodeP x.val) (by rfl) (by rw [hh8, hh6, hll2]; omega) ?_; intro v3 w14 hO14 hg14 hv14; have X9 := Lib.hid (X8.out.app hO14 hg14 hv14); clear hO14 hg14 hv14; have y4 : w14.cell? ⟨wo.heap.size, 4, none⟩ = some (.int .i64 x.ord) := (by rw [X9.out.e.cell]; rfl); have y5 : w14.cell? ⟨wo.heap.size, 5, none⟩ = some (.int .i64 x.vk) := (by rw [X9.out.e.cell]; rfl); have y6 : w14.cell? ⟨wo.heap.size, 6, none⟩ = some (.string x.vt) := (by rw [X9.out.e.cell]; rfl); have y7 : w14.cell? ⟨wo.heap.size, 7, none⟩ = some (.int .i64 x.vn) := (by rw [X9.out.e.cell]; rfl); have y8 : w14.cell? ⟨wo.heap.size, 8, none⟩ = some (.int .i64 x.vm) := (by rw [X9.out.e.cell]; rfl); have y9 : w14.cell? ⟨wo.heap.size, 9, none⟩ = some (.string x.vx) := (by rw [X9.out.e.cell]; rfl); have y10 : w14.cell? ⟨wo.heap.size, 10, none⟩ = some (.slice A10 x.vl.length c10) := (by rw [X9.out.e.cell]; rfl)))
              all_goals (
                have HWS := Lib.hid (writeS_ans hk4)
                have HO12 : Hid (OwnM w.heap.size w w14 v3 (hd.data.toList ++ (acc ++ writeS x))) := Lib.hid (by have h := X9.out.own; rw [HL8.out, HL6.out] at h; rw [HWS.out]; simpa only [List.append_assoc] using h)
                have HL12 : Hid ((acc ++ writeS x).length ≤ (i + 1) * 18874404) := Lib.hid (by have := writeS_len x; rw [List.length_append]; omega)
                go_wp2_with fail
                exact ⟨⟨i + 1, acc ++ writeS x, by omega, by go_num, HG2, HL12, HO12⟩, by simp [intOf]; omega⟩))
          by_cases hk2 : x.kind = 2
          · skip
            rw [hk2] at HK hz1
            have z0 : w2.cell? ⟨wo.heap.size, 0, none⟩ = some (.int .i64 x.kind) := by rw [X2.out.e.cell]; rfl
            have z1 : w2.cell? ⟨wo.heap.size, 1, none⟩ = some (.string x.path) := by rw [X2.out.e.cell]; rfl
            have z2 : w2.cell? ⟨wo.heap.size, 2, none⟩ = some (.string x.msg) := by rw [X2.out.e.cell]; rfl
            have z3 : w2.cell? ⟨wo.heap.size, 3, none⟩ = some (.slice A3 x.args.length c3) := by rw [X2.out.e.cell]; rfl
            have z4 : w2.cell? ⟨wo.heap.size, 4, none⟩ = some (.int .i64 x.ord) := by rw [X2.out.e.cell]; rfl
            have z5 : w2.cell? ⟨wo.heap.size, 5, none⟩ = some (.int .i64 x.vk) := by rw [X2.out.e.cell]; rfl
            have z6 : w2.cell? ⟨wo.heap.size, 6, none⟩ = some (.string x.vt) := by rw [X2.out.e.cell]; rfl
            have z7 : w2.cell? ⟨wo.heap.size, 7, none⟩ = some (.int .i64 x.vn) := by rw [X2.out.e.cell]; rfl
            have z8 : w2.cell? ⟨wo.heap.size, 8, none⟩ = some (.int .i64 x.vm) := by rw [X2.out.e.cell]; rfl
            have z9 : w2.cell? ⟨wo.heap.size, 9, none⟩ = some (.string x.vx) := by rw [X2.out.e.cell]; rfl
            have z10 : w2.cell? ⟨wo.heap.size, 10, none⟩ = some (.slice A10 x.vl.length c10) := by rw [X2.out.e.cell]; rfl
            have z11 : w2.cell? ⟨wo.heap.size, 11, none⟩ = some (.int .i64 x.n) := by rw [X2.out.e.cell]; rfl
            rw [hk2] at z0
            have q0 : (x.n == 0) = false := by rw [beq_eq_false_iff_ne]; intro h; exact hk20 ⟨hk2, h⟩
            have hlt1 : (i : Int) < l.length := hin
            go_wp2_with fail
            refine wp_loop_rounds 1 ?_
            rw [rounds_succ]
            go_wp2_with fail
            go_quiet (fail)
            generalize hW : World.drewN w2 _ = W4
            have X4 : Hid (B23 w wo W4 wo.heap.size #[.int .i64 x.kind, .string x.path, .string x.msg, .slice A3 x.args.length c3, .int .i64 x.ord, .int .i64 x.vk, .string x.vt, .int .i64 x.vn, .int .i64 x.vm, .string x.vx, .slice A10 x.vl.length c10, .int .i64 x.n] u3 (hd.data.toList ++ acc)) := Lib.hid (X2.out.below (by rw [← hW]; exact below_drewN (Below.refl _ w2) _))
            clear hW X2 z0 z1 z2 z3 z4 z5 z6 z7 z8 z9 z10 z11
            have z0 : W4.cell? ⟨wo.heap.size, 0, none⟩ = some (.int .i64 2) := by rw [X4.out.e.cell]; show (some (.int .i64 x.kind) : Option Value) = _; rw [hk2]
            go_wp2_with fail
            (with_reducible refine (HK.out W4).mono ?_)
            rintro e w5 ⟨rfl, hb5⟩
            have X5 := Lib.hid (X4.out.below hb5)
            clear hb5 X4 z0
            go_wp2_with (at_builtin; refine wp_append_strM rfl _ _ rfl rfl X5.out.own (numZ 2) rfl ?cz1 ?_)
            case cz1 => rw [hhd]; omega
            intro v' w10 hO10 hg10 hv10
            obtain ⟨L6, hL6⟩ : ∃ L, L = hd.data.toList ++ (acc ++ (numZ 2).data.toList) := ⟨_, rfl⟩
            have X6 : Hid (B23 w wo w10 wo.heap.size #[.int .i64 x.kind, .string x.path, .string x.msg, .slice A3 x.args.length c3, .int .i64 x.ord, .int .i64 x.vk, .string x.vt, .int .i64 x.vn, .int .i64 x.vm, .string x.vx, .slice A10 x.vl.length c10, .int .i64 x.n] v' L6) := Lib.hid (by
              have h := X5.out.app hO10 hg10 hv10
              rw [hL6]
              first | exact h | (rw [← List.append_assoc]; exact h))
            have hh6 : L6.length = hd.size + acc.length + (numZ 2).size := by rw [hL6, List.length_append, List.length_append, size_toList, size_toList]; omega
            have HL6 := Lib.hid hL6
            clear hL6 hO10 hg10 hv10 X5 HK
            have y0 : w10.cell? ⟨wo.heap.size, 0, none⟩ = some (.int .i64 2) := by rw [X6.out.e.cell]; show (some (.int .i64 x.kind) : Option Value) = _; rw [hk2]
            have y11 : w10.cell? ⟨wo.heap.size, 11, none⟩ = some (.int .i64 x.n) := by rw [X6.out.e.cell]; rfl
            have HKN := Lib.hid (rnum_int x.n (HWF.out x HM.out).2.2.1.2 w10)
            have hz2 := numZ_size x.n
            have HWS : Hid (writeS x = (numZ 2).data.toList ++ (numZ x.n).data.toList) := Lib.hid (by have e := writeS_num (x := x) hk1 hk4; rw [hk2] at e; exact e)
            go_wp2_with fail
            (with_reducible refine HKN.out.mono ?_)
            rintro e w11 ⟨rfl, hb11⟩
            have X7 := Lib.hid (X6.out.below hb11)
            clear hb11 X6 HKN y0 y11
            go_wp2_with (at_builtin; refine wp_append_strM rfl _ _ rfl rfl X7.out.own (numZ x.n) rfl ?cz2 ?_)
            case cz2 => rw [hh6]; omega
            intro v2 w12 hO12 hg12 hv12
            have X8 := Lib.hid (X7.out.app hO12 hg12 hv12)
            clear hO12 hg12 hv12 X7
            have y0 : w12.cell? ⟨wo.heap.size, 0, none⟩ = some (.int .i64 2) := by rw [X8.out.e.cell]; show (some (.int .i64 x.kind) : Option Value) = _; rw [hk2]
            have HO12 : Hid (OwnM w.heap.size w w12 v2 (hd.data.toList ++ (acc ++ writeS x))) := Lib.hid (by have h := X8.out.own; rw [HL6.out] at h; rw [HWS.out]; simpa only [List.append_assoc] using h)
            have HL12 : Hid ((acc ++ writeS x).length ≤ (i + 1) * 18874404) := Lib.hid (by have := writeS_len x; rw [List.length_append]; omega)
            go_wp2_with fail
            exact ⟨⟨i + 1, acc ++ writeS x, by omega, by go_num, HG2, HL12, HO12⟩, by simp [intOf]; omega⟩
          have z0 : w2.cell? ⟨wo.heap.size, 0, none⟩ = some (.int .i64 x.kind) := by rw [X2.out.e.cell]; rfl
          have z1 : w2.cell? ⟨wo.heap.size, 1, none⟩ = some (.string x.path) := by rw [X2.out.e.cell]; rfl
          have z2 : w2.cell? ⟨wo.heap.size, 2, none⟩ = some (.string x.msg) := by rw [X2.out.e.cell]; rfl
          have z3 : w2.cell? ⟨wo.heap.size, 3, none⟩ = some (.slice A3 x.args.length c3) := by rw [X2.out.e.cell]; rfl
          have z4 : w2.cell? ⟨wo.heap.size, 4, none⟩ = some (.int .i64 x.ord) := by rw [X2.out.e.cell]; rfl
          have z5 : w2.cell? ⟨wo.heap.size, 5, none⟩ = some (.int .i64 x.vk) := by rw [X2.out.e.cell]; rfl
          have z6 : w2.cell? ⟨wo.heap.size, 6, none⟩ = some (.string x.vt) := by rw [X2.out.e.cell]; rfl
          have z7 : w2.cell? ⟨wo.heap.size, 7, none⟩ = some (.int .i64 x.vn) := by rw [X2.out.e.cell]; rfl
          have z8 : w2.cell? ⟨wo.heap.size, 8, none⟩ = some (.int .i64 x.vm) := by rw [X2.out.e.cell]; rfl
          have z9 : w2.cell? ⟨wo.heap.size, 9, none⟩ = some (.string x.vx) := by rw [X2.out.e.cell]; rfl
          have z10 : w2.cell? ⟨wo.heap.size, 10, none⟩ = some (.slice A10 x.vl.length c10) := by rw [X2.out.e.cell]; rfl
          have z11 : w2.cell? ⟨wo.heap.size, 11, none⟩ = some (.int .i64 x.n) := by rw [X2.out.e.cell]; rfl
          have q1 : (x.kind == 1) = false := by rw [beq_eq_false_iff_ne]; omega
          have q2 : (x.kind == 2) = false := by rw [beq_eq_false_iff_ne]; omega
          have q4 : (x.kind == 4) = false := by rw [beq_eq_false_iff_ne]; omega
          have hlt1 : (i : Int) < l.length := hin
          go_wp2_with fail
          refine wp_loop_rounds 1 ?_
          rw [rounds_succ]
          go_wp2_with fail
          go_quiet (fail)
          generalize hW : World.drewN w2 _ = W4
          have X4 : Hid (B23 w wo W4 wo.heap.size #[.int .i64 x.kind, .string x.path, .string x.msg, .slice A3 x.args.length c3, .int .i64 x.ord, .int .i64 x.vk, .string x.vt, .int .i64 x.vn, .int .i64 x.vm, .string x.vx, .slice A10 x.vl.length c10, .int .i64 x.n] u3 (hd.data.toList ++ acc)) := Lib.hid (X2.out.below (by rw [← hW]; exact below_drewN (Below.refl _ w2) _))
          clear hW X2 z0 z1 z2 z3 z4 z5 z6 z7 z8 z9 z10 z11
          have z0 : W4.cell? ⟨wo.heap.size, 0, none⟩ = some (.int .i64 x.kind) := by rw [X4.out.e.cell]; rfl
          go_wp2_with fail
          (with_reducible refine (HK.out W4).mono ?_)
          rintro e w5 ⟨rfl, hb5⟩
          have X5 := Lib.hid (X4.out.below hb5)
          clear hb5 X4 z0
          go_wp2_with (at_builtin; refine wp_append_strM rfl _ _ rfl rfl X5.out.own (numZ x.kind) rfl ?cz1 ?_)
          case cz1 => rw [hhd]; omega
          intro v' w10 hO10 hg10 hv10
          obtain ⟨L6, hL6⟩ : ∃ L, L = hd.data.toList ++ (acc ++ (numZ x.kind).data.toList) := ⟨_, rfl⟩
          have X6 : Hid (B23 w wo w10 wo.heap.size #[.int .i64 x.kind, .string x.path, .string x.msg, .slice A3 x.args.length c3, .int .i64 x.ord, .int .i64 x.vk, .string x.vt, .int .i64 x.vn, .int .i64 x.vm, .string x.vx, .slice A10 x.vl.length c10, .int .i64 x.n] v' L6) := Lib.hid (by
            have h := X5.out.app hO10 hg10 hv10
            rw [hL6]
            first | exact h | (rw [← List.append_assoc]; exact h))
          have hh6 : L6.length = hd.size + acc.length + (numZ x.kind).size := by rw [hL6, List.length_append, List.length_append, size_toList, size_toList]; omega
          have HL6 := Lib.hid hL6
          clear hL6 hO10 hg10 hv10 X5 HK
          have y0 : w10.cell? ⟨wo.heap.size, 0, none⟩ = some (.int .i64 x.kind) := by rw [X6.out.e.cell]; rfl
          have y11 : w10.cell? ⟨wo.heap.size, 11, none⟩ = some (.int .i64 x.n) := by rw [X6.out.e.cell]; rfl
          have HKN := Lib.hid (rnum_int x.n (HWF.out x HM.out).2.2.1.2 w10)
          have hz2 := numZ_size x.n
          have HWS : Hid (writeS x = (numZ x.kind).data.toList ++ (numZ x.n).data.toList) := Lib.hid (by have e := writeS_num (x := x) hk1 hk4; exact e)
          go_wp2_with fail
          (with_reducible refine HKN.out.mono ?_)
          rintro e w11 ⟨rfl, hb11⟩
          have X7 := Lib.hid (X6.out.below hb11)
          clear hb11 X6 HKN y0 y11
          go_wp2_with (at_builtin; refine wp_append_strM rfl _ _ rfl rfl X7.out.own (numZ x.n) rfl ?cz2 ?_)
          case cz2 => rw [hh6]; omega
          intro v2 w12 hO12 hg12 hv12
          have X8 := Lib.hid (X7.out.app hO12 hg12 hv12)
          clear hO12 hg12 hv12 X7
          have y0 : w12.cell? ⟨wo.heap.size, 0, none⟩ = some (.int .i64 x.kind) := by rw [X8.out.e.cell]; rfl
          have HO12 : Hid (OwnM w.heap.size w w12 v2 (hd.data.toList ++ (acc ++ writeS x))) := Lib.hid (by have h := X8.out.own; rw [HL6.out] at h; rw [HWS.out]; simpa only [List.append_assoc] using h)
          have HL12 : Hid ((acc ++ writeS x).length ≤ (i + 1) * 18874404) := Lib.hid (by have := writeS_len x; rw [List.length_append]; omega)
          go_wp2_with fail
          exact ⟨⟨i + 1, acc ++ writeS x, by omega, by go_num, HG2, HL12, HO12⟩, by simp [intOf]; omega⟩
      · obtain rfl : i = l.length := by omega
        have HN := Lib.hid (HEND.out _ _ HG.out (Nat.le_refl _))
        have hcv := HO.out.conv
        go_wp2_with fail
        go_ret
        exact ⟨by rw [HN.out]; rfl, HO.out.bel⟩
end Go.Proofs.YtlbmfgiepcemdaaGreat
