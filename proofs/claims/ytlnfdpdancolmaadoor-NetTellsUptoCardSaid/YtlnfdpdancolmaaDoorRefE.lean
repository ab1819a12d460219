/- ref44.Apply at a part, an undoing and a performance. Printed by wip/tools/gen_refe.py. Conditions: those in each statement. -/
import Derived.Test.YtlnfdpdancolmaaDoorRefD
namespace Go.Proofs.YtlnfdpdancolmaaDoor
open Go.RowKit

theorem src_take {w : World} {A : Option Addr} {ks : List OC} (h : SrcAt w A ks) (i : Nat) : SrcAt w A (ks.take i) := fun h0 => by
  obtain ⟨b, off, rfl, hc⟩ := h (by rw [List.length_take] at h0; omega)
  refine ⟨b, off, rfl, fun j u hu => hc j u ?_⟩
  have hj := (List.getElem?_eq_some_iff.1 hu).1
  conv => lhs; rw [← List.take_append_drop i ks]
  rw [List.flatMap_append, List.getElem?_append_left hj]; exact hu
theorem src_drop {w : World} {b off : Nat} {ks : List OC} (h : SrcAt w (some ⟨b, off, none⟩) ks) (i : Nat) : SrcAt w (some ⟨b, off + i * 5, none⟩) (ks.drop i) := fun h0 => by
  rw [List.length_drop] at h0
  obtain ⟨b', off', e, hc⟩ := h (by omega)
  injection e with e
  injection e with e1 e2
  subst e1 e2
  refine ⟨b, off + i * 5, rfl, fun j u hu => ?_⟩
  rw [show off + i * 5 + j = off + (i * 5 + j) by omega]
  refine hc _ u ?_
  conv => lhs; rw [← List.take_append_drop i ks]
  have hl : ((ks.take i).flatMap OC.cells).length = i * 5 := by rw [OC.flat_len, List.length_take, Nat.min_eq_left (by omega)]
  rw [List.flatMap_append, List.getElem?_append_right (by omega), hl, show i * 5 + j - i * 5 = j by omega]; exact hu
theorem src_lt {w : World} {A : Option Addr} {ks : List OC} (h : SrcAt w A ks) : ∀ p, A = some p → 0 < ks.length → p.block < w.heap.size := fun p hp h0 => by
  obtain ⟨b, off, e, hc⟩ := h h0
  have h1 : 0 < (ks.flatMap OC.cells).length := by rw [OC.flat_len]; omega
  have := World.block_lt_of_cell? w ⟨b, off + 0, none⟩ (hc 0 _ (List.getElem?_eq_getElem h1))
  rw [hp] at e
  injection e with e
  subst e
  exact this
theorem own_slice {B e k n : Nat} {w : World} {v : Value} {xs : List Value} (h : w.ownsRow B e k v n xs) : ∃ A c, v = .slice A n c := by
  rcases h.2 with ⟨rfl, rfl⟩ | ⟨g, cap, cur, rfl, _⟩
  · exact ⟨_, _, rfl⟩
  · exact ⟨_, _, rfl⟩
theorem src_one (w : World) (k : OC) (B : Nat) (hB : w.heap.size = B) : SrcAt (w.alloc (.cells k.cells.toArray 45)) (some ⟨B, 0, none⟩) [k] := fun _ => ⟨B, 0, rfl, fun j u hu => by
  subst hB
  rw [Nat.zero_add, cell_new, ← hu]
  simp⟩

set_option maxHeartbeats 4000000 in
set_option maxRecDepth 100000 in
theorem rapply_part (l : List Out) (x : Cmd) (A A1 : Option Addr) (n c c1 : Nat) (w : World) (hr : Rd (Lt w.heap.size) w (slOut l) (.slice A n c)) (hn : n ≤ 2097152) (hx : Rd (Lt w.heap.size) w (vs x.args) (.slice A1 x.args.length c1)) (hk : x.kind = 3) :
    Calls Tryd.prog 13 #[.slice A n c, .agg #[.string x.key, .int .i64 x.kind, .string x.of, .string x.new, .string x.name, .slice A1 x.args.length c1]] w (RPost (foldS l [x]).1 (foldS l [x]).2 w) := by
  have hl := slOut_len hr
  have HL := Lib.hid hl.1
  have hE : stepE l x = if findI l x.of < 0 then 5 else if (l[(findI l x.of).toNat]?.map (·.part)).getD false then 16 else 0 := by
    unfold stepE; rw [if_neg (by omega), if_pos hk]
  have hX : stepR l x = l.modify (findI l x.of).toNat (fun o => { o with part := true }) := by unfold stepR; rw [if_neg (by omega), if_pos hk]
  rw [hk]
  have HE := Lib.hid hE
  have HX := Lib.hid hX
  have HR := Lib.hid hr
  have HA := Lib.hid hx
  have HF := Lib.hid (findI_cases l x.of)
  have HF2 := Lib.hid (findI_cases l x.new)
  clear hr hx hk hE hX hl
  go_enter Tryd.func13, Tryd.ntmps13
  go_wp2_with fail
  (with_reducible refine (rfind_any l A n c x.of _ ?_ (by omega)).mono ?_)
  · exact HR.out.allocs _
  rintro e w2 ⟨rfl, rfl⟩
  rcases HF.out with hf | ⟨i, o, hf, hi, hg, hp⟩
  · rw [hf]
    have HE1 : Hid (stepE l x = 5) := Lib.hid (by rw [HE.out, hf]; rfl)
    clear hf
    go_wp2_with fail
    go_ret2
    exact rpost_err HE1.out (by omega) (box1 _ _)
  · have HE1 : Hid (stepE l x = if o.part then 16 else 0) := Lib.hid (by rw [HE.out, hf, if_neg (by omega), Int.toNat_natCast, hg]; rfl)
    have HX1 : Hid (stepR l x = l.set i { o with part := true }) := Lib.hid (by rw [HX.out, hf, Int.toNat_natCast, modify_set hg])
    rw [hf]
    have hin : i < n := by have := HL.out; omega
    have i0 : (0 : Int) ≤ (i : Int) := by omega
    have i1 : ¬ (i : Int) < 0 := by omega
    have i2 : (i : Int) < n := by omega
    obtain ⟨b, off, o', e, hlb, hget, A2, c2, hat⟩ := slOut_at HR.out hin
    subst e
    rw [hg] at hget
    obtain rfl := Option.some.inj hget
    obtain ⟨y0, y1, y2, y3, y4, ry⟩ := hat
    have hlb1 : b < w.heap.size := hlb
    have HP : Hid (∀ W, Below w.heap.size w W → Calls Tryd.prog 29 #[.slice (some ⟨b, off, none⟩) n c, .int .i64 (i : Int), .agg #[.string o.key, .string o.name, .slice A2 o.args.length c2, .bool true, .int .i64 o.tick]] W fun e w' => ∃ g cap, e = .returned (.slice (some ⟨g, 0, none⟩) n cap) ∧ Rd (Lt w'.heap.size) w' (slOut (l.set i { o with part := true })) (.slice (some ⟨g, 0, none⟩) n cap) ∧ Below w.heap.size w w') := Lib.hid (fun W hW => (rput_any l { o with part := true } (some ⟨b, off, none⟩) A2 n c c2 i W (HR.out.belows hW) hn hin (ry.belows hW)).mono (by
      rintro e w' ⟨g, cap, h1, h2, h3⟩
      exact ⟨g, cap, h1, h2, hW.trans (h3.mono hW.size)⟩))
    have hln : n = (l.set i { o with part := true }).length := by rw [List.length_set, HL.out]
    have HLN := Lib.hid hln
    clear hln hf hp HE HX ry hlb hget hg
    cases ep : o.part with
    | true =>
      rw [ep] at y3
      have HE2 : Hid (stepE l x = 16) := Lib.hid (by rw [HE1.out, ep]; rfl)
      clear ep
      go_wp2_with fail
      go_ret2
      exact rpost_err HE2.out (by omega) (box3 _ _ _ _)
    | false =>
      rw [ep] at y3
      have HE2 : Hid (stepE l x = 0) := Lib.hid (by rw [HE1.out, ep]; rfl)
      clear ep
      go_wp2_with fail
      (with_reducible refine (HP.out _ ?_).mono ?_)
      · repeat first | exact Below.refl _ _ | refine Below.setCell ?_ (by simp <;> omega) _ | refine Below.alloc ?_ (by simp <;> omega) _
      rintro e w4 ⟨g, cap, rfl, hr4, hb4⟩
      have R4 := Lib.hid hr4
      have B4 := Lib.hid hb4
      clear hr4 hb4
      go_wp2_with fail
      go_ret2
      exact rpost_ok HE2.out HX1.out HLN.out R4.out B4.out

set_option maxHeartbeats 4000000 in
set_option maxRecDepth 100000 in
theorem rapply_undo (l : List Out) (x : Cmd) (A A1 : Option Addr) (n c c1 : Nat) (w : World) (hr : Rd (Lt w.heap.size) w (slOut l) (.slice A n c)) (hn : n ≤ 2097152) (hx : Rd (Lt w.heap.size) w (vs x.args) (.slice A1 x.args.length c1)) (hk : x.kind = 2) :
    Calls Tryd.prog 13 #[.slice A n c, .agg #[.string x.key, .int .i64 x.kind, .string x.of, .string x.new, .string x.name, .slice A1 x.args.length c1]] w (RPost (foldS l [x]).1 (foldS l [x]).2 w) := by
  have hl := slOut_len hr
  have HL := Lib.hid hl.1
  have hE : stepE l x = if findI l x.of < 0 then 5 else 0 := by
    unfold stepE; rw [if_pos hk]
  have hX : stepR l x = l.eraseIdx (findI l x.of).toNat := by unfold stepR; rw [if_pos hk]
  rw [hk]
  have HE := Lib.hid hE
  have HX := Lib.hid hX
  have HR := Lib.hid hr
  have HA := Lib.hid hx
  have HF := Lib.hid (findI_cases l x.of)
  have HF2 := Lib.hid (findI_cases l x.new)
  clear hr hx hk hE hX hl
  go_enter Tryd.func13, Tryd.ntmps13
  go_wp2_with fail
  (with_reducible refine (rfind_any l A n c x.of _ ?_ (by omega)).mono ?_)
  · exact HR.out.allocs _
  rintro e w2 ⟨rfl, rfl⟩
  rcases HF.out with hf | ⟨i, o, hf, hi, hg, hp⟩
  · rw [hf]
    have HE1 : Hid (stepE l x = 5) := Lib.hid (by rw [HE.out, hf]; rfl)
    clear hf
    go_wp2_with fail
    go_ret2
    exact rpost_err HE1.out (by omega) (box1 _ _)
  · have HE1 : Hid (stepE l x = 0) := Lib.hid (by rw [HE.out, hf, if_neg (by omega)])
    have HX1 : Hid (stepR l x = l.eraseIdx i) := Lib.hid (by rw [HX.out, hf, Int.toNat_natCast])
    rw [hf]
    have hin : i < n := by have := HL.out; omega
    have i0 : (0 : Int) ≤ (i : Int) := by omega
    have i1 : ¬ (i : Int) < 0 := by omega
    have i2 : (i : Int) < n := by omega
    obtain ⟨b, off, o', e, hlb, hget, A2, c2, hat⟩ := slOut_at HR.out hin
    subst e
    obtain ⟨hne, hnc, hcm⟩ := slOut_len HR.out
    clear hne
    obtain ⟨ns, hns, hna, hsr⟩ := ocs_of_rd HR.out
    have hnl : ns.length = n := by rw [HL.out, ← hns, List.length_map]
    have HNS := Lib.hid hns
    have HNA := Lib.hid hna
    have HSR := Lib.hid hsr
    have ht : (ns.take i).length = i := by rw [List.length_take]; omega
    have hd : (ns.drop (i + 1)).length = n - (i + 1) := by rw [List.length_drop, hnl]
    have HBEL := Lib.hid (box3 w (.cells #[.string x.key, .int .i64 2, .string x.of, .string x.new, .string x.name, .slice A1 x.args.length c1] 32) (.cells #[.string x.new, .string x.name, .slice A1 x.args.length c1, .bool false, .int .i64 0] 45) (.cells #[] 45))
    have HS1 : Hid (∀ W, Below w.heap.size w W → SrcAt W (some ⟨b, off, none⟩) ns) := Lib.hid (fun W hW => HSR.out.below hW (src_lt HSR.out))
    clear hf hp HE HX hlb hget hg hat hns hna hsr
    go_wp2_with (at_builtin; refine wp_append_oc rfl _ _ rfl w.heap.size ?c1 (.slice (some ⟨w.heap.size + 1 + 1, 0, none⟩) 0 0) [] rfl ?c2 (some ⟨b, off, none⟩) i c (ns.take i) ht rfl (src_take (HS1.out _ HBEL.out) i) ?c3 ?_)
    case c1 => exact HBEL.out.size
    case c2 => exact own_empty _ _ (by simp; omega) _ (by simp)
    case c3 => simpa using (by omega : i ≤ 4194304)
    intro v3 w3 hown hgr
    have hW3 : Below w.heap.size w w3 := HBEL.out.grown hgr (by simp; omega) (fun q hq => by
      have : w.heap.size + 1 + 1 = q := by simpa [Value.ownBlock] using hq
      omega)
    have B3 := Lib.hid hW3
    have hown1 : w3.ownsRow w.heap.size 45 5 v3 (ns.take i).length ((ns.take i).flatMap OC.cells) := by
      first | exact hown | (rw [ht]; exact hown) | simpa using hown
    have HO3 := Lib.hid hown1
    clear hown hown1 hgr hW3
    have hi1 : (i : Int) + 1 ≤ n := by omega
    by_cases hci : c = i + 1
    · go_wp2_with (at_builtin; (refine wp_append_oc rfl _ _ rfl w.heap.size ?d1 v3 (ns.take i) rfl ?d2 _ _ _ (ns.drop (i + 1)) ?d5 rfl ?d4 ?d3 ?_))
      case d5 => first | exact hd | (rw [hd]; omega)
      case d1 => exact B3.out.size
      case d2 => exact HO3.out
      case d4 => exact fun h0 => absurd h0 (by rw [hd]; omega)
      case d3 => rw [ht]; omega
      intro v6 w6 hown6 hgr6
      have hown7 : w6.ownsRow w.heap.size 45 5 v6 (ns.take i ++ ns.drop (i + 1)).length ((ns.take i ++ ns.drop (i + 1)).flatMap OC.cells) := by
        first | exact hown6 | (rw [List.length_append, ht, hd, List.flatMap_append]; exact hown6)
      have hb6 : Below w.heap.size w w6 := B3.out.grown hgr6 B3.out.size (fun q hq => (own_block HO3.out q hq).1)
      obtain ⟨A7, c7, rfl⟩ := own_slice hown7
      have hrd := outs_of_own hown7 (fun z hz => (HNA.out.below hb6 (Nat.le_refl _) z (by
        rcases List.mem_append.1 hz with h | h
        · exact List.mem_of_mem_take h
        · exact List.mem_of_mem_drop h)).weaken (fun b hb => Nat.lt_of_lt_of_le hb hb6.size))
      have hmap : (ns.take i ++ ns.drop (i + 1)).map OC.r = l.eraseIdx i := by
        rw [← HNS.out, List.eraseIdx_eq_take_drop_succ, List.map_append, List.map_take, List.map_drop]
      have hlen : (ns.take i ++ ns.drop (i + 1)).length = (l.eraseIdx i).length := by rw [← hmap, List.length_map]
      rw [hmap] at hrd
      have R6 := Lib.hid hrd
      have B6 := Lib.hid hb6
      have HLN := Lib.hid hlen
      clear hown6 hown7 hgr6 hb6 hrd hmap hlen
      go_wp2_with fail
      go_ret2
      exact rpost_ok HE1.out HX1.out HLN.out R6.out B6.out
    · go_wp2_with (at_builtin; (refine wp_append_oc rfl _ _ rfl w.heap.size ?d1 v3 (ns.take i) rfl ?d2 _ (n - (i + 1)) (c - (i + 1)) (ns.drop (i + 1)) hd rfl ?d4 ?d3 ?_))
      case d1 => exact B3.out.size
      case d2 => exact HO3.out
      case d4 => exact src_drop (HS1.out _ B3.out) (i + 1)
      case d3 => rw [ht]; omega
      intro v6 w6 hown6 hgr6
      have hown7 : w6.ownsRow w.heap.size 45 5 v6 (ns.take i ++ ns.drop (i + 1)).length ((ns.take i ++ ns.drop (i + 1)).flatMap OC.cells) := by
        first | exact hown6 | (rw [List.length_append, ht, hd, List.flatMap_append]; exact hown6)
      have hb6 : Below w.heap.size w w6 := B3.out.grown hgr6 B3.out.size (fun q hq => (own_block HO3.out q hq).1)
      obtain ⟨A7, c7, rfl⟩ := own_slice hown7
      have hrd := outs_of_own hown7 (fun z hz => (HNA.out.below hb6 (Nat.le_refl _) z (by
        rcases List.mem_append.1 hz with h | h
        · exact List.mem_of_mem_take h
        · exact List.mem_of_mem_drop h)).weaken (fun b hb => Nat.lt_of_lt_of_le hb hb6.size))
      have hmap : (ns.take i ++ ns.drop (i + 1)).map OC.r = l.eraseIdx i := by
        rw [← HNS.out, List.eraseIdx_eq_take_drop_succ, List.map_append, List.map_take, List.map_drop]
      have hlen : (ns.take i ++ ns.drop (i + 1)).length = (l.eraseIdx i).length := by rw [← hmap, List.length_map]
      rw [hmap] at hrd
      have R6 := Lib.hid hrd
      have B6 := Lib.hid hb6
      have HLN := Lib.hid hlen
      clear hown6 hown7 hgr6 hb6 hrd hmap hlen
      go_wp2_with fail
      go_ret2
      exact rpost_ok HE1.out HX1.out HLN.out R6.out B6.out

set_option maxHeartbeats 4000000 in
set_option maxRecDepth 100000 in
theorem rapply_do (l : List Out) (x : Cmd) (A A1 : Option Addr) (n c c1 : Nat) (w : World) (hr : Rd (Lt w.heap.size) w (slOut l) (.slice A n c)) (hn : n ≤ 2097152) (hx : Rd (Lt w.heap.size) w (vs x.args) (.slice A1 x.args.length c1)) (hk : x.kind = 1) :
    Calls Tryd.prog 13 #[.slice A n c, .agg #[.string x.key, .int .i64 x.kind, .string x.of, .string x.new, .string x.name, .slice A1 x.args.length c1]] w (RPost (foldS l [x]).1 (foldS l [x]).2 w) := by
  have hl := slOut_len hr
  have HL := Lib.hid hl.1
  have hE : stepE l x = if x.new.toList.isEmpty then 1 else if 0 ≤ findI l x.new then 4 else 0 := by
    unfold stepE; rw [if_neg (by omega), if_neg (by omega), if_pos hk]
  have hX : stepR l x = l ++ [made x] := by unfold stepR; rw [if_neg (by omega), if_neg (by omega), if_pos hk]
  rw [hk]
  have HE := Lib.hid hE
  have HX := Lib.hid hX
  have HR := Lib.hid hr
  have HA := Lib.hid hx
  have HF := Lib.hid (findI_cases l x.of)
  have HF2 := Lib.hid (findI_cases l x.new)
  clear hr hx hk hE hX hl
  go_enter Tryd.func13, Tryd.ntmps13
  go_wp2_with fail
  (with_reducible refine (rfind_any l A n c x.of _ ?_ (by omega)).mono ?_)
  · exact HR.out.allocs _
  rintro e w2 ⟨rfl, rfl⟩
  generalize findI l x.of = fo at *
  cases em : x.new.toList.isEmpty with
  | true =>
    have HE2 : Hid (stepE l x = 1) := Lib.hid (by rw [HE.out, em]; rfl)
    go_wp2_with fail
    go_ret2
    exact rpost_err HE2.out (by omega) (box2 _ _ _)
  | false =>
    have HE2 : Hid (stepE l x = if 0 ≤ findI l x.new then 4 else 0) := Lib.hid (by rw [HE.out, em]; rfl)
    go_wp2_with fail
    (with_reducible refine (rfind_any l A n c x.new _ ?_ (by omega)).mono ?_)
    · exact HR.out.belows (box2 _ _ _)
    rintro e w3 ⟨rfl, rfl⟩
    rcases HF2.out with hf | ⟨j, o2, hf, hj, _, _⟩
    · have HE3 : Hid (stepE l x = 0) := Lib.hid (by rw [HE2.out, hf]; rfl)
      rw [hf]
      obtain ⟨ns, hns, hna, hsr⟩ := ocs_of_rd HR.out
      have hnl : ns.length = n := by rw [HL.out, ← hns, List.length_map]
      have HNS := Lib.hid hns
      have HNA := Lib.hid hna
      have HBEL := Lib.hid (box3 w (.cells #[.string x.key, .int .i64 1, .string x.of, .string x.new, .string x.name, .slice A1 x.args.length c1] 32) (.cells #[.string x.new, .string x.name, .slice A1 x.args.length c1, .bool false, .int .i64 0] 45) (.cells #[] 45))
      have HS1 : Hid (∀ W, Below w.heap.size w W → SrcAt W A ns) := Lib.hid (fun W hW => hsr.below hW (src_lt hsr))
      clear hf hns hna hsr HE HE2
      go_wp2_with (at_builtin; refine wp_append_oc rfl _ _ rfl w.heap.size ?c1 (.slice (some ⟨w.heap.size + 1 + 1, 0, none⟩) 0 0) [] rfl ?c2 A n c ns hnl rfl (HS1.out _ HBEL.out) ?c3 ?_)
      case c1 => exact HBEL.out.size
      case c2 => exact own_empty _ _ (by simp; omega) _ (by simp)
      case c3 => simpa using (by omega : n ≤ 4194304)
      intro v3 w3 hown hgr
      have hW3 : Below w.heap.size w w3 := HBEL.out.grown hgr (by simp; omega) (fun q hq => by
        have : w.heap.size + 1 + 1 = q := by simpa [Value.ownBlock] using hq
        omega)
      have far : w3.heap[w.heap.size + 1]? = some (.cells #[.string x.new, .string x.name, .slice A1 x.args.length c1, .bool false, .int .i64 0] 45 (0, 0)) := by
        rw [hgr.block (w.heap.size + 1) (by simp) (by simp [Value.ownBlock]), Below.heap_alloc _ _ _ (by simp)]
        have := heap_alloc_new (w.alloc (.cells #[.string x.key, .int .i64 1, .string x.of, .string x.new, .string x.name, .slice A1 x.args.length c1] 32)) (.cells #[.string x.new, .string x.name, .slice A1 x.args.length c1, .bool false, .int .i64 0] 45)
        rwa [World.size_alloc] at this
      have m0 : w3.cell? ⟨w.heap.size + 1, 0, none⟩ = some (.string x.new) := (Lib.cell_of_heap far 0).trans rfl
      have m1 : w3.cell? ⟨w.heap.size + 1, 1, none⟩ = some (.string x.name) := (Lib.cell_of_heap far 1).trans rfl
      have m2 : w3.cell? ⟨w.heap.size + 1, 2, none⟩ = some (.slice A1 x.args.length c1) := (Lib.cell_of_heap far 2).trans rfl
      have m3 : w3.cell? ⟨w.heap.size + 1, 3, none⟩ = some (.bool false) := (Lib.cell_of_heap far 3).trans rfl
      have m4 : w3.cell? ⟨w.heap.size + 1, 4, none⟩ = some (.int .i64 0) := (Lib.cell_of_heap far 4).trans rfl
      have B3 := Lib.hid hW3
      have hown1 : w3.ownsRow w.heap.size 45 5 v3 ns.length (ns.flatMap OC.cells) := by
        first | exact hown | (rw [hnl]; exact hown) | simpa using hown
      have HO3 := Lib.hid (hown1.alloc (.cells #[.string x.new, .string x.name, .slice A1 x.args.length c1, .bool false, .int .i64 0] 45))
      have B4 := Lib.hid (hW3.alloc hW3.size (.cells #[.string x.new, .string x.name, .slice A1 x.args.length c1, .bool false, .int .i64 0] 45))
      clear hown hown1 hgr hW3 far
      go_wp2_with (at_builtin; refine wp_append_oc rfl _ _ rfl w.heap.size ?d1 v3 ns rfl ?d2 (some ⟨w3.heap.size, 0, none⟩) 1 1 [⟨made x, A1, c1⟩] rfl rfl (src_one w3 ⟨made x, A1, c1⟩ _ rfl) ?d3 ?_)
      case d1 => exact B4.out.size
      case d2 => exact HO3.out
      case d3 => rw [hnl]; omega
      intro v6 w6 hown6 hgr6
      have hown7 : w6.ownsRow w.heap.size 45 5 v6 (ns ++ [(⟨made x, A1, c1⟩ : OC)]).length ((ns ++ [(⟨made x, A1, c1⟩ : OC)]).flatMap OC.cells) := by
        first | exact hown6 | simpa [hnl] using hown6
      have hb6 : Below w.heap.size w w6 := B4.out.grown hgr6 B4.out.size (fun q hq => (own_block HO3.out q hq).1)
      obtain ⟨A7, c7, rfl⟩ := own_slice hown7
      have hrd := outs_of_own hown7 (fun z hz => by
        rcases List.mem_append.1 hz with h | h
        · exact (HNA.out.below hb6 (Nat.le_refl _) z h).weaken (fun b hb => Nat.lt_of_lt_of_le hb hb6.size)
        · obtain rfl : z = ⟨made x, A1, c1⟩ := by simpa using h
          exact HA.out.belows hb6)
      have hmap : (ns ++ [(⟨made x, A1, c1⟩ : OC)]).map OC.r = l ++ [made x] := by rw [List.map_append, HNS.out]; rfl
      have hlen : (ns ++ [(⟨made x, A1, c1⟩ : OC)]).length = (l ++ [made x]).length := by rw [← hmap, List.length_map]
      rw [hmap] at hrd
      have R6 := Lib.hid hrd
      have B6 := Lib.hid hb6
      have HLN := Lib.hid hlen
      clear hown6 hown7 hgr6 hb6 hrd hmap hlen
      go_wp2_with fail
      go_ret2
      exact rpost_ok HE3.out HX.out HLN.out R6.out B6.out
    · have HE3 : Hid (stepE l x = 4) := Lib.hid (by rw [HE2.out, hf, if_pos (by omega)])
      rw [hf]
      have j0 : (0 : Int) ≤ (j : Int) := by omega
      clear hf HE HE2
      go_wp2_with fail
      go_ret2
      exact rpost_err HE3.out (by omega) (box2 _ _ _)
theorem rapply_any (l : List Out) (x : Cmd) (A A1 : Option Addr) (n c c1 : Nat) (w : World) (hr : Rd (Lt w.heap.size) w (slOut l) (.slice A n c)) (hn : n ≤ 2097152) (hx : Rd (Lt w.heap.size) w (vs x.args) (.slice A1 x.args.length c1)) :
    Calls Tryd.prog 13 #[.slice A n c, .agg #[.string x.key, .int .i64 x.kind, .string x.of, .string x.new, .string x.name, .slice A1 x.args.length c1]] w (RPost (foldS l [x]).1 (foldS l [x]).2 w) := by
  by_cases k1 : x.kind = 1
  · exact rapply_do l x A A1 n c c1 w hr hn hx k1
  · by_cases k2 : x.kind = 2
    · exact rapply_undo l x A A1 n c c1 w hr hn hx k2
    · by_cases k3 : x.kind = 3
      · exact rapply_part l x A A1 n c c1 w hr hn hx k3
      · by_cases k4 : x.kind = 4
        · exact rapply_amend l x A A1 n c c1 w hr hn hx k4
        · exact rapply_other l x _ A1 c1 w (by omega)
end Go.Proofs.YtlnfdpdancolmaaDoor
