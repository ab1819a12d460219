/- event.Bytes: the bytes of a list of events. Conditions: those in each statement. -/
import Derived.Test.YtlbmfgiepcemdaaEvBytesP
namespace Go.Proofs.Ytlbmfgiepcemdaa
open Go.RowKit Go.Sort Go.Shelf
attribute [local go_sem] Oper.semAt_some

theorem inRd {P : Program} {l n : Nat} {f : FuncId} {args : Array Value} {w : World} {R R' : Ending → World → Prop} (h : Calls P f args w R') (hR : ∀ e w', R' e w' → R e w') : Fence.wide.fn f ∧ CallsIn (Fence.wide.inRound l) n P f args w R :=
  ⟨trivial, (CallsIn.inRound l (callsIn_wide.2 h)).mono hR⟩
theorem all_snoc {l : List Ev} {i : Nat} {x : Ev} (h : (l.take i).all rightE = true) (hx : l[i]? = some x) (hr : rightE x = true) : (l.take (i + 1)).all rightE = true := by
  rw [List.take_add_one, hx, List.all_append, h]; simp [hr]
theorem all_not {l : List Ev} {x : Ev} (hx : x ∈ l) (hr : rightE x = false) : l.all rightE = false := by
  rw [List.all_eq_false]; exact ⟨x, hx, by simp [hr]⟩
set_option maxHeartbeats 4000000 in
set_option maxRecDepth 100000 in
theorem bytes_ev (l : List Ev) (A : Option Addr) (n c : Nat) (w : World) (hn : n ≤ 1073741824) (hz : ∀ x ∈ l, x.size ≤ 2097152) (hw : ∀ x ∈ l, x.Wf) (hr : Rd (Lt w.heap.size) w (slEv l) (.slice A n c)) :
    Calls Try.prog 8 #[.slice A n c] w fun e w' => e = .returned (.string (bytesE l)) ∧ Below w.heap.size w w' := by
  obtain rfl := (slEv_len hr).1
  have HR := Lib.hid hr
  have HZ := Lib.hid hz
  have HWF := Lib.hid hw
  clear hr hz hw
  obtain ⟨O, hO⟩ : ∃ O, bytesE l = O := ⟨_, rfl⟩
  have HO := Lib.hid hO
  rw [hO]
  clear hO
  refine (callsIn_wide (n := 6)).1 ?_
  refine callsIn_of_wp_marks Try.func8 rfl trivial ?_ rfl
  simp only [Try.ntmps8, List.size_toArray, List.length_cons, List.length_nil, Nat.reduceAdd, Nat.reduceSub, Array.replicate_succ, Array.replicate_zero, List.push_toArray, List.append_toArray, List.nil_append, List.cons_append]
  by_cases hbig : 1048576 < l.length
  · have hbi : (1048576 : Int) < l.length := by omega
    have HN : Hid (O = ⟨#[]⟩) := Lib.hid (by rw [← HO.out, bytesE, if_pos hbig])
    gi_wp2
    exact ⟨_, results_tmp rfl _ _ _, by rw [HN.out]; rfl, Below.refl _ _⟩
  · have hbi : ¬ (1048576 : Int) < l.length := by omega
    gi_wp2
    refine wpIn_wide.2 ?_
    go_loopw [13] (fun s13 wr => ∃ i : Nat, i ≤ l.length ∧ s13 = .int .i64 i ∧ Hid (Below w.heap.size w wr) ∧ Hid ((l.take i).all rightE = true)) (fun s13 _ => l.length - (intOf s13).toNat)
    case atStart => exact ⟨0, by omega, rfl, Lib.hid (Below.refl _ _), Lib.hid (by simp)⟩
    case round =>
      obtain ⟨i, hi, rfl, HB, HAL⟩ := hrel
      by_cases hlt : i < l.length
      · obtain ⟨b, off, x, e, hlb, hget, A3, c3, A10, c10, hat⟩ := slEv_at (HR.out.belows HB.out) hlt
        subst e
        obtain ⟨p0, p1, p2, p3, p4, p5, p6, p7, p8, p9, p10, p11, r3, r10⟩ := hat
        have hmem := List.mem_of_getElem? hget
        have hbx := HZ.out x hmem
        unfold Ev.size at hbx
        have R3 := Lib.hid r3
        have R10 := Lib.hid r10
        obtain ⟨g, hg⟩ : ∃ g, rightE x = g := ⟨_, rfl⟩
        have HRT : Hid (∀ W, Below wr.heap.size wr W → Calls Try.prog 7 #[.agg #[.int .i64 x.kind, .string x.path, .string x.msg, .slice A3 x.args.length c3, .int .i64 x.ord, .int .i64 x.vk, .string x.vt, .int .i64 x.vn, .int .i64 x.vm, .string x.vx, .slice A10 x.vl.length c10, .int .i64 x.n]] W fun e w' => e = .returned (.bool g) ∧ Below W.heap.size W w') := Lib.hid (fun W h => by
          rw [← hg]
          exact right_any x A3 A10 c3 c10 W (by omega) (by omega) (by omega) (by omega) (R3.out.belows h) (R10.out.belows h))
        have HBA : Hid (Below wr.heap.size wr (wr.alloc (.cells #[.int .i64 x.kind, .string x.path, .string x.msg, .slice A3 x.args.length c3, .int .i64 x.ord, .int .i64 x.vk, .string x.vt, .int .i64 x.vn, .int .i64 x.vm, .string x.vx, .slice A10 x.vl.length c10, .int .i64 x.n] 30))) := Lib.hid ((Below.refl _ _).alloc (Nat.le_refl _) _)
        have hin : (i : Int) < l.length := by omega
        have HX := Lib.hid hget
        have HG := Lib.hid hg
        have HM := Lib.hid hmem
        clear r3 r10 hbx hget hg hmem
        go_wp2_with fail
        (with_reducible refine (HRT.out _ HBA.out).mono ?_)
        rintro e w2 ⟨rfl, hb2⟩
        have HB2 := Lib.hid (HB.out.trans ((HBA.out.trans (hb2.mono HBA.out.size)).mono HB.out.size))
        clear hb2 HRT HBA p0 p1 p2 p3 p4 p5 p6 p7 p8 p9 p10 p11
        cases g with
        | false =>
          have HN : Hid (O = ⟨#[]⟩) := Lib.hid (by rw [← HO.out, bytesE, if_neg hbig, all_not HM.out HG.out]; rfl)
          go_wp2_with fail
          exact ⟨_, results_tmp rfl _ _ _, by rw [HN.out]; rfl, HB2.out⟩
        | true =>
          have HAL2 := Lib.hid (all_snoc HAL.out HX.out HG.out)
          go_wp2_with fail
          exact ⟨⟨i + 1, by omega, by go_num, HB2, HAL2⟩, by simp [intOf]; omega⟩
      · obtain rfl : i = l.length := by omega
        have HN : Hid (O = ⟨((numB l.length).data.toList ++ groupsE (runsE l.length l)).toArray⟩) := Lib.hid (by
          have := HAL.out
          rw [List.take_length] at this
          rw [← HO.out, bytesE, if_neg hbig, this]; rfl)
        have HBL := Lib.hid (BldE.new wr)
        have hnb := numB_size l.length
        have HW1 : Hid (∀ w1, Below wr.heap.size wr w1 → wr.heap.size + 1 ≤ w1.heap.size → True) := Lib.hid (fun _ _ _ => trivial)
        clear HW1 HO HAL
        go_wp2_with fail
        refine wpIn_wide.2 ?_
        go_wp2_with fail
        (with_reducible refine (num_any l.length (by omega) _).mono ?_)
        rintro e w1 ⟨rfl, hb1⟩
        have HB1 := Lib.hid (HBL.out.below hb1)
        clear hb1
        go_wp2_with fail
        (with_reducible refine (writeE_any HB1.out _ (by simp; omega)).mono ?_)
        rintro e w2 ⟨rfl, hb2⟩
        have HB2 := Lib.hid hb2
        clear hb2 HB1 HBL
        go_wp2_with fail
        (with_reducible refine (runs_any _ _ _ _).mono ?_)
        rintro e w3 ⟨rfl, rfl⟩
        go_wp2_with fail
        refine (wpIn_wide (n := 6)).1 ?_
        have HB3 := Lib.hid (HB2.out.alloc (.cells #[.slice A l.length c] 22))
        have HBS := Lib.hid (CellsAt.new w2 #[.slice A l.length c] 22)
        have hsz : (w2.alloc (.cells #[.slice A l.length c] 22)).heap.size = w2.heap.size + 1 := by simp
        obtain ⟨W, hW⟩ : ∃ W, w2.alloc (.cells #[.slice A l.length c] 22) = W := ⟨_, rfl⟩
        rw [hW] at HB3 HBS hsz ⊢
        have hlt2 : wr.heap.size < w2.heap.size := HB2.out.at_.elim (fun h => by obtain ⟨_, v, h, _⟩ := h; exact (Array.getElem?_eq_some_iff.1 h).1) (fun h => by obtain ⟨_, v, h, _⟩ := h; exact (Array.getElem?_eq_some_iff.1 h).1)
        clear hW HB2
        have hwr := HB.out.size
        have HB0 := HB
        have HBW : Hid (Below w.heap.size w W) := Lib.hid (HB.out.trans (HB3.out.low.mono hwr))
        have HRW : Hid (Rd (Lt w.heap.size) wr (slEv l) (.slice A l.length c)) := Lib.hid (HR.out.below HB.out (fun _ h => h))
        obtain ⟨b, off, zs, hmap, hA, hat0⟩ := slEv_as HRW.out
        have HA0 := Lib.hid hat0
        have hat : ∀ (i : Nat) (a : EvA), zs[i]? = some a → a.at (Lt w.heap.size) W b (off + i * 12) := fun i a hi => EvA.at_below (hA (by have := (List.getElem?_eq_some_iff.1 hi).1; omega)).2 (hat0 i a hi) (HB3.out.low.mono hwr)
        clear hat0
        have hlen : zs.length = l.length := by rw [← hmap, List.length_map]
        rw [← hlen] at HBS
        have HAT := Lib.hid hat
        have hzs : ∀ a ∈ zs, a.x ∈ l := fun a ha => by rw [← hmap]; exact List.mem_map_of_mem ha
        have HZS := Lib.hid hzs
        clear hat hzs
        refine wpIn_rangeFunc_ownH (gf := 43) (lb := #[.pointer (some ⟨w2.heap.size, 0, none⟩)]) rfl (by omega) rfl trivial (enters_of Try.func43 (by kernel_rfl) rfl)
          (runs_stops 5 (by omega) w.heap.size w2.heap.size b off c A zs (by omega) hA W (by omega) HBS.out HAT.out) KpR.trans (kpR_b (by omega) (by omega)) (Below.refl _ _) (fun _ => rfl)
          (fun pre W' => BldE wr.heap.size wr.heap.size wr W' ((numB l.length).data.toList ++ groupsA (pre.map (·.1))) ∧ CellsAt W' w2.heap.size #[.slice A zs.length c] 22)
          (fun _ _ _ => False)
          (OwnFrom.and (bldE_own _ (by omega) (by omega)) (Own.from (cellsAt_own _ _ _) _))
          (fun _ _ _ _ _ hs _ _ => hs)
          ⟨by simpa [groupsA] using HB3.out, HBS.out⟩
          (fun x a' W' => ∃ Bx, w2.heap.size < Bx ∧ CellsAt W' Bx #[.int .i64 x.1.1.x.kind, .string x.1.1.x.path, .string x.1.1.x.msg, .slice x.1.1.A x.1.1.x.args.length x.1.1.c, .int .i64 x.1.1.x.ord, .int .i64 x.1.1.x.vk, .string x.1.1.x.vt, .int .i64 x.1.1.x.vn, .int .i64 x.1.1.x.vm, .string x.1.1.x.vx, .slice x.1.1.C x.1.1.x.vl.length x.1.1.d, .int .i64 x.1.1.x.n] 30 ∧ a' = { tmps := #[.slice A l.length c, undef, u2, undef, u4, .pointer (some ⟨wr.heap.size, 0, none⟩), .pointer (some ⟨Bx, 0, none⟩), .int .i64 (x.1.2 : Int), .slice A l.length c, .int .i64 l.length, .bool false, .slice A l.length c, .int .i64 l.length, .int .i64 l.length, .bool false, u15, u16, u17, u18, u19, u20, .slice A l.length c, .int .i64 l.length, .string (numB l.length), .tuple #[.int .i64 (numB l.length).size, .nilIface], .slice A l.length c, .func (.func 43) #[] #[.pointer (some ⟨w2.heap.size, 0, none⟩)], .agg #[.int .i64 x.1.1.x.kind, .string x.1.1.x.path, .string x.1.1.x.msg, .slice x.1.1.A x.1.1.x.args.length x.1.1.c, .int .i64 x.1.1.x.ord, .int .i64 x.1.1.x.vk, .string x.1.1.x.vt, .int .i64 x.1.1.x.vn, .int .i64 x.1.1.x.vm, .string x.1.1.x.vx, .slice x.1.1.C x.1.1.x.vl.length x.1.1.d, .int .i64 x.1.1.x.n], .int .i64 (x.1.2 : Int), undef, undef, undef, undef, undef, undef, undef, undef, undef, undef, undef, undef, undef, undef, undef, undef, undef, undef, undef, undef], defers := [] })
          ?hAx ?assign ?body ?done ?stop
        case hAx =>
          rintro x a' u X Y row ⟨Bx, h1, h2, h3⟩ hg hr
          exact ⟨Bx, h1, cellsAt_own Bx _ _ () X Y row h2 hg (fun r e => (hr r e).2), h3⟩
        case assign =>
          rintro l2 pre x W2 K ⟨hB, hC⟩ hK
          gi_wp2
          have hC2 := hC.lt
          have hal : Below W2.heap.size W2 (W2.alloc (.cells #[.int .i64 x.1.1.x.kind, .string x.1.1.x.path, .string x.1.1.x.msg, .slice x.1.1.A x.1.1.x.args.length x.1.1.c, .int .i64 x.1.1.x.ord, .int .i64 x.1.1.x.vk, .string x.1.1.x.vt, .int .i64 x.1.1.x.vn, .int .i64 x.1.1.x.vm, .string x.1.1.x.vx, .slice x.1.1.C x.1.1.x.vl.length x.1.1.d, .int .i64 x.1.1.x.n] 30)) := (Below.refl _ _).alloc (Nat.le_refl _) _
          exact hK _ _ ((below_others hal).from _) (KpR.of_below (by have := hB.low.size; have := hB.le; omega) hC.lt hal) ⟨hB.alloc _, hC.keep (Chg.of_below (M := fun _ => False) hal) (fun h => h)⟩ ⟨W2.heap.size, hC2, CellsAt.new W2 _ _, rfl⟩
        case body =>
          rintro l2 pre ⟨⟨y, k⟩, hy, hk⟩ a' W2 hl2 hrec ⟨hB, hC⟩ ⟨Bx, hBx, hE, rfl⟩ hpl
          have e0 : W2.cell? ⟨Bx, 0, none⟩ = some (.int .i64 y.x.kind) := by rw [hE.cell]; rfl
          have e1 : W2.cell? ⟨Bx, 1, none⟩ = some (.string y.x.path) := by rw [hE.cell]; rfl
          have e2 : W2.cell? ⟨Bx, 2, none⟩ = some (.string y.x.msg) := by rw [hE.cell]; rfl
          have e3 : W2.cell? ⟨Bx, 3, none⟩ = some (.slice y.A y.x.args.length y.c) := by rw [hE.cell]; rfl
          have e4 : W2.cell? ⟨Bx, 4, none⟩ = some (.int .i64 y.x.ord) := by rw [hE.cell]; rfl
          have e5 : W2.cell? ⟨Bx, 5, none⟩ = some (.int .i64 y.x.vk) := by rw [hE.cell]; rfl
          have e6 : W2.cell? ⟨Bx, 6, none⟩ = some (.string y.x.vt) := by rw [hE.cell]; rfl
          have e7 : W2.cell? ⟨Bx, 7, none⟩ = some (.int .i64 y.x.vn) := by rw [hE.cell]; rfl
          have e8 : W2.cell? ⟨Bx, 8, none⟩ = some (.int .i64 y.x.vm) := by rw [hE.cell]; rfl
          have e9 : W2.cell? ⟨Bx, 9, none⟩ = some (.string y.x.vx) := by rw [hE.cell]; rfl
          have e10 : W2.cell? ⟨Bx, 10, none⟩ = some (.slice y.C y.x.vl.length y.d) := by rw [hE.cell]; rfl
          have e11 : W2.cell? ⟨Bx, 11, none⟩ = some (.int .i64 y.x.n) := by rw [hE.cell]; rfl
          have HB := Lib.hid hB
          have HC := Lib.hid hC
          have HE := Lib.hid hE
          clear hB hC hE
          have HLEN : Hid (((numB l.length).data.toList ++ groupsA (List.map (fun x => x.val) pre)).length ≤ 19791228174345) := Lib.hid (by
            have := groupsA_len (List.map (fun x => x.val) pre) (fun p hp => by
              obtain ⟨q, _, rfl⟩ := List.mem_map.1 hp
              exact HZ.out _ (HZS.out _ q.2.1))
            rw [List.length_map] at this
            rw [List.length_append, size_toList]
            have h2 : pre.length * 18874386 ≤ 1048576 * 18874386 := Nat.mul_le_mul_right _ (by omega)
            omega)
          have HSN : Hid (∀ g : List UInt8, groupB y.x k = g → ((numB l.length).data.toList ++ groupsA (List.map (fun x => x.val) pre)) ++ g = (numB l.length).data.toList ++ groupsA (List.map (fun x => x.val) (pre ++ [⟨(y, k), ⟨hy, hk⟩⟩]))) := Lib.hid (fun g e => by
            rw [List.map_append, List.map_cons, List.map_nil, groupsA_snoc, e, List.append_assoc])
          obtain ⟨g, hg⟩ : ∃ g, (y.x.kind == 3) = g := ⟨_, rfl⟩
          cases g with
          | true =>
            have HBN := Lib.hid (HSN.out (numZ 3 ++ numB k).data.toList (by rw [groupB, if_pos hg]; rfl))
            gi_wp2_with fail
            refine inRd (num_int 3 (by omega) _) ?_
            rintro e w3 ⟨rfl, hb3⟩
            have HS3 := Lib.hid (HB.out.self.below hb3)
            clear hb3
            gi_wp2_with fail
            refine inRd (num_any k (by omega) _) ?_
            rintro e w4 ⟨rfl, hb4⟩
            have HS4 := Lib.hid (HS3.out.below hb4)
            have z1 := numZ_size 3
            have z2 := numB_size k
            have hns : ¬ 9223372036854775807 < (numZ 3).size + (numB k).size := by omega
            clear hb4 HS3
            gi_wp2_with fail
            refine inRd (writeE_any HS4.out _ (by have := HLEN.out; rw [ByteArray.size_append]; omega)) ?_
            rintro e w5 ⟨rfl, hb5⟩
            have HS5 := Lib.hid hb5
            clear hb5 HS4
            gi_wp2_with fail
            exact ⟨(bldE_others HB.out.at_ HS5.out).from _, bldE_kpR (by omega) HS5.out HC.out (by omega), ⟨by rw [← HBN.out]; exact HB.out.trans HS5.out, HS5.out.cells HC.out (by omega) (by decide)⟩⟩
          | false =>
            have HGR := Lib.hid (fun w => grouped_any y.x y.A y.C y.c y.d w)
            obtain ⟨g2, hg2⟩ : ∃ g2, groupedE y.x = g2 := ⟨_, rfl⟩
            rw [hg2] at HGR
            have HG2 := Lib.hid hg2
            have HKN : Hid (¬ (y.x.kind == 3) = true) := Lib.hid (by rw [hg]; simp)
            clear hg2
            gi_wp2_with fail
            refine inRd (HGR.out _) ?_
            rintro e w8 ⟨rfl, hb8⟩
            have HS8 := Lib.hid (HB.out.self.below hb8)
            have HE8 := Lib.hid (HE.out.keep (Chg.of_below (M := fun _ => False) hb8) (fun h => h))
            have HBL8 := Lib.hid hb8
            clear hb8 e0 e1 e2 e3 e4 e5 e6 e7 e8 e9 e10 e11
            cases g2 with
            | true =>
              have HBN := Lib.hid (HSN.out (numZ 0 ++ numB k).data.toList (by rw [groupB, if_neg HKN.out, if_pos HG2.out]; rfl))
              gi_wp2_with fail
              refine inRd (num_int 0 (by omega) _) ?_
              rintro e w3 ⟨rfl, hb3⟩
              have HS3 := Lib.hid (HS8.out.below hb3)
              clear hb3
              gi_wp2_with fail
              refine inRd (num_any k (by omega) _) ?_
              rintro e w4 ⟨rfl, hb4⟩
              have HS4 := Lib.hid (HS3.out.below hb4)
              have z1 := numZ_size 0
              have z2 := numB_size k
              have hns : ¬ 9223372036854775807 < (numZ 0).size + (numB k).size := by omega
              clear hb4 HS3
              gi_wp2_with fail
              refine inRd (writeE_any HS4.out _ (by have := HLEN.out; rw [ByteArray.size_append]; omega)) ?_
              rintro e w5 ⟨rfl, hb5⟩
              have HS5 := Lib.hid hb5
              clear hb5 HS4
              gi_wp2_with fail
              exact ⟨(bldE_others HB.out.at_ HS5.out).from _, bldE_kpR (by omega) HS5.out HC.out (by omega), ⟨by rw [← HBN.out]; exact HB.out.trans HS5.out, HS5.out.cells HC.out (by omega) (by decide)⟩⟩
            | false =>
              have HBN := Lib.hid (HSN.out (writeS y.x) (by rw [groupB, if_neg HKN.out, if_neg (by rw [HG2.out]; simp)]))
              have e0 : w8.cell? ⟨Bx, 0, none⟩ = some (.int .i64 y.x.kind) := by rw [HE8.out.cell]; rfl
              have e1 : w8.cell? ⟨Bx, 1, none⟩ = some (.string y.x.path) := by rw [HE8.out.cell]; rfl
              have e2 : w8.cell? ⟨Bx, 2, none⟩ = some (.string y.x.msg) := by rw [HE8.out.cell]; rfl
              have e3 : w8.cell? ⟨Bx, 3, none⟩ = some (.slice y.A y.x.args.length y.c) := by rw [HE8.out.cell]; rfl
              have e4 : w8.cell? ⟨Bx, 4, none⟩ = some (.int .i64 y.x.ord) := by rw [HE8.out.cell]; rfl
              have e5 : w8.cell? ⟨Bx, 5, none⟩ = some (.int .i64 y.x.vk) := by rw [HE8.out.cell]; rfl
              have e6 : w8.cell? ⟨Bx, 6, none⟩ = some (.string y.x.vt) := by rw [HE8.out.cell]; rfl
              have e7 : w8.cell? ⟨Bx, 7, none⟩ = some (.int .i64 y.x.vn) := by rw [HE8.out.cell]; rfl
              have e8 : w8.cell? ⟨Bx, 8, none⟩ = some (.int .i64 y.x.vm) := by rw [HE8.out.cell]; rfl
              have e9 : w8.cell? ⟨Bx, 9, none⟩ = some (.string y.x.vx) := by rw [HE8.out.cell]; rfl
              have e10 : w8.cell? ⟨Bx, 10, none⟩ = some (.slice y.C y.x.vl.length y.d) := by rw [HE8.out.cell]; rfl
              have e11 : w8.cell? ⟨Bx, 11, none⟩ = some (.int .i64 y.x.n) := by rw [HE8.out.cell]; rfl
              have HWV : Hid (Calls Try.prog 24 #[.pointer (some ⟨wr.heap.size, 0, none⟩), .agg #[.int .i64 y.x.kind, .string y.x.path, .string y.x.msg, .slice y.A y.x.args.length y.c, .int .i64 y.x.ord, .int .i64 y.x.vk, .string y.x.vt, .int .i64 y.x.vn, .int .i64 y.x.vm, .string y.x.vx, .slice y.C y.x.vl.length y.d, .int .i64 y.x.n]] w8 (WrPost wr.heap.size wr.heap.size W2 (((numB l.length).data.toList ++ groupsA (List.map (fun x => x.val) pre)) ++ writeS y.x))) := Lib.hid (by
                obtain ⟨i, hi⟩ := List.getElem?_of_mem hy
                obtain ⟨_, _, _, _, _, _, _, _, _, _, _, _, r3, r10⟩ := HA0.out i y hi
                have hbw := HB.out.low.trans HS8.out.low
                have hyl := HZS.out y hy
                have := HLEN.out
                have := HZ.out _ hyl
                exact write_ev y.x y.A y.C y.c y.d _ _ _ _ _ HS8.out (HZ.out _ hyl) (by omega) (HWF.out _ hyl) ((r3.below (hbw.mono hwr) (fun _ h => h)).weaken (fun q hq => Nat.lt_of_lt_of_le hq hwr)) ((r10.below (hbw.mono hwr) (fun _ h => h)).weaken (fun q hq => Nat.lt_of_lt_of_le hq hwr)))
              gi_wp2_with fail
              refine inRd HWV.out ?_
              rintro e w5 ⟨rfl, hb5⟩
              have HS5 := Lib.hid hb5
              clear hb5
              gi_wp2_with fail
              exact ⟨(bldE_others HB.out.at_ HS5.out).from _, bldE_kpR (by omega) HS5.out HC.out (by omega), ⟨by rw [← HBN.out]; exact HB.out.trans HS5.out, HS5.out.cells HC.out (by omega) (by decide)⟩⟩
        case done =>
          rintro D ys W2 hD hS ⟨hB, hC⟩ hK
          have HB := Lib.hid hB
          have HK := Lib.hid hK
          have HYS := Lib.hid hS
          clear hB hK hS hC
          gi_wp2_with fail
          go_wp2_with fail
          (with_reducible refine (stringE_kept HB.out).mono ?_)
          rintro e w5 ⟨rfl, hb5⟩
          have HS5 := Lib.hid hb5
          clear hb5
          go_wp2_with fail
          have hK' := (bldE_others HB.out.at_ HS5.out).same D _ HK.out rfl
          refine ⟨by simp, .inl ⟨_, _, rfl, run_takeDeferred hK', ?_⟩⟩
          have hys : groupsA (List.map (fun x => x.val) ys) = groupsE (runsE l.length l) := by
            rw [HYS.out, ← hlen, ← hmap, runsE_map, groupsE_map]
          exact ⟨_, results_tmp rfl _ _ _, by rw [HN.out, ← hys]; rfl, (HB0.out.trans ((HB.out.low.trans HS5.out.low).mono hwr)).trans (belowK_b (w := w) (Nat.le_refl _) w5 D _ _ (by omega) hK' rfl rfl)⟩
        case stop =>
          rintro D c pre W2 _ _ h _
          exact h.elim
end Go.Proofs.Ytlbmfgiepcemdaa
