/- The bytes of a list of events, and what a round over its runs keeps. Conditions: those in each statement. event.Bytes: the bytes of a list of events. Conditions: those in each statement. -/
import Derived.Test.YtlbmfgiepcemdaaGreatYEvRuns
namespace Go.Proofs.YtlbmfgiepcemdaaGreat
open Go.RowKit Go.Sort Go.Shelf

/-- the bytes of a run -/
def groupB (x : Ev) (n : Nat) : List UInt8 :=
  if x.kind == 3 then (numB 3 ++ numB n).data.toList else if groupedE x then (numB 0 ++ numB n).data.toList else writeS x
def groupsA (l : List (EvA × Nat)) : List UInt8 := l.flatMap fun p => groupB p.1.x p.2
def spanE (x : Ev) : List Ev → Nat
  | [] => 0
  | y :: l => if joins x y then spanE x l + 1 else 0
def runsE : Nat → List Ev → List (Ev × Nat)
  | 0, _ => []
  | _ + 1, [] => []
  | F + 1, a :: l => (a, spanE a l + 1) :: runsE F (l.drop (spanE a l))
def groupsE (l : List (Ev × Nat)) : List UInt8 := l.flatMap fun p => groupB p.1 p.2
/-- the bytes of a list of events -/
def bytesE (l : List Ev) : ByteArray :=
  if 1048576 < l.length then ⟨#[]⟩ else if l.all rightE then ⟨((numB l.length).data.toList ++ groupsE (runsE l.length l)).toArray⟩ else ⟨#[]⟩
theorem spanE_map (x : Ev) : ∀ l : List EvA, spanE x (l.map (·.x)) = spanA x l
  | [] => rfl
  | y :: l => by rw [List.map_cons, spanE, spanA, spanE_map x l]
theorem runsE_map : ∀ (F : Nat) (l : List EvA), runsE F (l.map (·.x)) = (runsA F l).map fun p => (p.1.x, p.2)
  | 0, _ => rfl
  | _ + 1, [] => rfl
  | F + 1, a :: l => by
    rw [List.map_cons, runsE, runsA, List.map_cons, spanE_map, ← List.map_drop, runsE_map F]
theorem groupsE_map (l : List (EvA × Nat)) : groupsE (l.map fun p => (p.1.x, p.2)) = groupsA l := by
  unfold groupsE groupsA
  rw [List.flatMap_map]
theorem groupsA_snoc (l : List (EvA × Nat)) (p : EvA × Nat) : groupsA (l ++ [p]) = groupsA l ++ groupB p.1.x p.2 := by
  unfold groupsA; rw [List.flatMap_append]; simp
theorem groupB_len (x : Ev) (n : Nat) : (groupB x n).length ≤ 9 * x.size + 18 := by
  unfold groupB
  have h1 := numB_size 3
  have h2 := numB_size 0
  have h3 := numB_size n
  have h4 := writeS_len x
  split
  · rw [size_toList, ByteArray.size_append]; omega
  · split
    · rw [size_toList, ByteArray.size_append]; omega
    · omega

theorem groupsA_len : ∀ l : List (EvA × Nat), (∀ p ∈ l, p.1.x.size ≤ 2097152) → (groupsA l).length ≤ l.length * 18874386
  | [], _ => by simp [groupsA]
  | p :: l, h => by
    have h1 := groupsA_len l (fun q hq => h q (List.mem_cons_of_mem _ hq))
    have h2 := groupB_len p.1.x p.2
    have h3 := h p List.mem_cons_self
    have h4 : groupsA (p :: l) = groupB p.1.x p.2 ++ groupsA l := rfl
    rw [h4, List.length_append, List.length_cons]
    omega
/-! what a round keeps -/
theorem builderF_own {T e : TypeId} {B b : Nat} {bs : List Value} {w w' : World} {row : Option Nat} (h : Lib.IsBuilderF T e B b bs w) (hg : w.grownBy w' row) (hr : ∀ r, row = some r → ∃ o : Obj, w.heap[r]? = some o ∧ o.isCells = false) : Lib.IsBuilderF T e B b bs w' := by
  have key : ∀ p, Lib.BuilderAtF T e B b p bs w → Lib.BuilderAtF T e B b p bs w' := fun p h => by
    obtain ⟨h1, v, h2, h3, h4⟩ := h
    refine ⟨h1, v, (hg.block b (Array.getElem?_eq_some_iff.1 h2).1 (fun e => ?_)).trans h2, h3.kept hg ?_, h4⟩
    · obtain ⟨o, ho, hc⟩ := hr b e.symm
      rw [h2] at ho; cases ho; cases hc
    · cases hv : v.ownBlock with
      | none => exact .inl rfl
      | some g =>
        refine .inr fun e => ?_
        obtain ⟨o, ho, hc⟩ := hr g e.symm
        obtain ⟨c, fz, hk⟩ := Lib.ownsRowF_kind h3 g hv
        rw [hk] at ho; cases ho; cases hc
  exact h.elim (fun h => .inl (key _ h)) (fun h => .inr (key _ h))
theorem bldE_own {β : Type} {B b Bl : Nat} {w0 : World} (f : β → List UInt8) (h0 : w0.heap.size ≤ Bl) (hB : B ≤ Bl) : OwnFrom Bl (fun s W => BldE B b w0 W (f s)) := by
  intro s W W' row hs hg hr
  refine ⟨builderF_own hs.at_ hg (fun r e => (hr r e).2), hs.low.grown hg hs.le (fun k e => by have := (hr k e).1; omega), ?_, Nat.le_trans hs.le hg.size⟩
  intro k o hk hne hc
  have h1 := hs.oth k o hk hne hc
  refine (hg.block k (Array.getElem?_eq_some_iff.1 h1).1 (fun e => ?_)).trans h1
  have h2 := (hr k e.symm).1
  have h3 := (Array.getElem?_eq_some_iff.1 hk).1
  omega
theorem cellsAt_own {β : Type} (g : Nat) (cs : Array Value) (e : TypeId) : Own (fun (_ : β) W => CellsAt W g cs e) := fun _ X _ _ hs hg hrow =>
  (hg.block g hs.lt (fun e' => by obtain ⟨o, ho, hc⟩ := hrow g e'.symm; rw [show X.heap[g]? = _ from hs] at ho; cases ho; cases hc)).trans hs
theorem bldE_others {B b : Nat} {W W' : World} {bs cs : List UInt8} (h0 : Lib.IsBuilderF 70 5 B b (Lib.byteCells cs) W) (h : BldE B b W W' bs) : KeepsOthers W W' := by
  refine ⟨h.low.size, fun k _ hk hc => h.oth k _ hk (fun e => ?_) (fun c fz e => by subst e; cases hc)⟩
  obtain rfl : k = b := Option.some.inj e
  have key : ∀ p, Lib.BuilderAtF 70 5 B k p (Lib.byteCells cs) W → False := fun p h => by
    obtain ⟨_, v, h2, _⟩ := h
    rw [h2] at hk; cases hk; cases hc
  exact h0.elim (key _) (key _)
theorem below_others {W W' : World} (h : Below W.heap.size W W') : KeepsOthers W W' := ⟨h.size, fun k _ hk _ => (h.block k (Array.getElem?_eq_some_iff.1 hk).1).trans hk⟩
theorem bldE_kpR {m Bs B b : Nat} {W W' : World} {bs : List UInt8} {cs : Array Value} (hm : m ≤ B) (h : BldE B b W W' bs) (hb : CellsAt W Bs cs 22) (hne : Bs ≠ b) : KpR m Bs W W' :=
  ⟨h.low.mono hm, (h.cells hb hne (by decide)).trans (Eq.symm hb)⟩

set_option maxHeartbeats 1000000 in
set_option maxRecDepth 100000 in
theorem runs_any (A : Option Addr) (n c : Nat) (w : World) : Calls Tryz.prog 42 #[.slice A n c] w fun e w' => e = .returned (.func (.func 69) #[] #[.pointer (some ⟨w.heap.size, 0, none⟩)]) ∧ w' = w.alloc (.cells #[.slice A n c] 22) := by
  go_enter Tryz.func42, Tryz.ntmps42
  go_wp2_with fail
  go_ret
  exact ⟨rfl, rfl⟩
theorem stringE_kept {B b : Nat} {w0 w : World} {bs : List UInt8} (h : BldE B b w0 w bs) :
    Calls Tryz.prog 45 #[.pointer (some ⟨b, 0, none⟩)] w fun e w' => e = .returned (.string ⟨bs.toArray⟩) ∧ BldE B b w w' bs := by
  refine (Any.Builder_String_any_k Tryz.lays169 Tryz.Builder_Extra_169 B b bs w h.at_ h.le).mono ?_
  rintro e w' ⟨rfl, h1, h2, h3⟩
  exact ⟨rfl, h1, h2, h3, Nat.le_trans h.le h2.size⟩
/-- a run of the list -/
abbrev RunOf (zs : List EvA) : Type := { p : EvA × Nat // p.1 ∈ zs ∧ p.2 ≤ zs.length }
theorem runs_stops (n : Nat) (hn : 1 ≤ n) (m Bs b off cap : Nat) (A0 : Option Addr) (zs : List EvA) (hlen : zs.length ≤ 1048576) (hA : 0 < zs.length → A0 = some ⟨b, off, none⟩ ∧ b < m) (w : World) (hm : m ≤ w.heap.size) (hBs : CellsAt w Bs #[.slice A0 zs.length cap] 22) (hat : ∀ (i : Nat) (a : EvA), zs[i]? = some a → a.at (Lt m) w b (off + i * 12)) :
    SeqStopsK Fence.wide n Tryz.prog 69 #[.pointer (some ⟨Bs, 0, none⟩)] (fun x : RunOf zs => #[.agg #[.int .i64 x.1.1.x.kind, .string x.1.1.x.path, .string x.1.1.x.msg, .slice x.1.1.A x.1.1.x.args.length x.1.1.c, .int .i64 x.1.1.x.ord, .int .i64 x.1.1.x.vk, .string x.1.1.x.vt, .int .i64 x.1.1.x.vn, .int .i64 x.1.1.x.vm, .string x.1.1.x.vx, .slice x.1.1.C x.1.1.x.vl.length x.1.1.d, .int .i64 x.1.1.x.n], .int .i64 (x.1.2 : Int)]) (KpR m Bs) (fun ys => ys.map (·.1) = runsA zs.length zs) (fun _ => True) zs.length w := fun l J Jx W hW hJ _ hY h0 => by
  refine (runs1_in n hn l m Bs b off cap A0 zs hlen hA (fun pre W => ∃ pre' : List (RunOf zs), pre'.map (·.1) = pre ∧ J pre' W) (fun pre W => ∃ pre' : List (RunOf zs), Jx pre' W) ?_ W ?_ (Nat.le_trans hm hW.size) ((hW.block Bs hBs.lt).trans hBs) (fun i a hi => by
    have hi' := (List.getElem?_eq_some_iff.1 hi).1
    exact EvA.at_below (hA (by omega)).2 (hat i a hi) (hW.mono hm)) ⟨[], rfl, h0⟩).mono ?_
  · rintro pre x W1 h1 h2 ⟨pre', rfl, hj⟩ hlt
    obtain ⟨fn, tmps, assign, body, hy, hR⟩ := hY pre' ⟨x, h1, h2⟩ W1 hj (by simpa using hlt)
    refine ⟨fn, tmps, assign, body, hy, hR.mono ?_⟩
    rintro e W2 (⟨he, hj2, hk⟩ | ⟨he, hx⟩)
    · exact .inl ⟨he, ⟨_, by rw [List.map_append]; rfl, hj2⟩, hk⟩
    · exact .inr ⟨he, _, hx⟩
  · rintro s X Y row ⟨pre', h1, h2⟩ hg hr
    exact ⟨pre', h1, hJ pre' X Y row h2 hg hr⟩
  · rintro e W2 ⟨he, ⟨ys, rfl, pre', h1, h2⟩ | ⟨pre, _, pre', h2⟩⟩
    · exact ⟨he, .inl ⟨pre', h1, h2⟩⟩
    · exact ⟨he, .inr ⟨pre', trivial, h2⟩⟩
end Go.Proofs.YtlbmfgiepcemdaaGreat
namespace Go.Proofs.YtlbmfgiepcemdaaGreat
open Go.RowKit Go.Sort Go.Shelf
attribute [local go_sem] Oper.semAt_some

theorem inRd {P : Program} {l n : Nat} {f : FuncId} {args : Array Value} {w : World} {R R' : Ending → World → Prop} (h : Calls P f args w R') (hR : ∀ e w', R' e w' → R e w') : Fence.wide.fn f ∧ CallsIn (Fence.wide.inRound l) n P f args w R :=
  ⟨trivial, (CallsIn.inRound l (callsIn_wide.2 h)).mono hR⟩
theorem all_snoc {l : List Ev} {i : Nat} {x : Ev} (h : (l.take i).all rightE = true) (hx : l[i]? = some x) (hr : rightE x = true) : (l.take (i + 1)).all rightE = true := by
  rw [List.take_add_one, hx, List.all_append, h]; simp [hr]
theorem all_not {l : List Ev} {x : Ev} (hx : x ∈ l) (hr : rightE x = false) : l.all rightE = false := by
  rw [List.all_eq_false]; exact ⟨x, hx, by simp [hr]⟩
set_option maxHeartbeats 4000000 in
set_option maxRecDepth 100000 in
theorem bytes_ev (l : List Ev) (A : Option Addr) (n c : Nat) (w : World) (hn : n ≤ 1073741824) (hz : ∀ x ∈ l, x.size ≤ 2097152) (hw : ∀ x ∈ l, x.Wf) (hr : Rd (Lt w.heap.size) w (slEv l) (.slice A n c)) :
    Calls Tryz.prog 14 #[.slice A n c] w fun e w' => e = .returned (.string (bytesE l)) ∧ Below w.heap.size w w' := by
  obtain rfl := (slEv_len hr).1
  have HR := Lib.hid hr
  have HZ := Lib.hid hz
  have HWF := Lib.hid hw
  clear hr hz hw
  obtain ⟨O, hO⟩ : ∃ O, bytesE l = O := ⟨_, rfl⟩
  have HO := Lib.hid hO
  rw [hO]
  clear hO
  refine (callsIn_wide (n := 6)).1 ?_
  refine callsIn_of_wp_marks Tryz.func14 rfl trivial ?_ rfl
  simp only [Tryz.ntmps14, List.size_toArray, List.length_cons, List.length_nil, Nat.reduceAdd, Nat.reduceSub, Array.replicate_succ, Array.replicate_zero, List.push_toArray, List.append_toArray, List.nil_append, List.cons_append]
  by_cases hbig : 1048576 < l.length
  · have hbi : (1048576 : Int) < l.length := by omega
    have HN : Hid (O = ⟨#[]⟩) := Lib.hid (by rw [← HO.out, bytesE, if_pos hbig])
    gi_wp2
    exact ⟨_, results_tmp rfl _ _ _, by rw [HN.out]; rfl, Below.refl _ _⟩
  · have hbi : ¬ (1048576 : Int) < l.length := by omega
    gi_wp2
    refine wpIn_wide.2 ?_
    go_loopw [13] (fun s13 wr => ∃ i : Nat, i ≤ l.length ∧ s13 = .int .i64 i ∧ Hid (Below w.heap.size w wr) ∧ Hid ((l.take i).all rightE = true)) (fun s13 _ => l.length - (intOf s13).toNat)
    case atStart => exact ⟨0, by omega, rfl, Lib.hid (Below.refl _ _), Lib.hid (by simp)⟩
    case round =>
      obtain ⟨i, hi, rfl, HB, HAL⟩ := hrel
      by_cases hlt : i < l.length
      · obtain ⟨b, off, x, e, hlb, hget, A3, c3, A10, c10, hat⟩ := slEv_at (HR.out.belows HB.out) hlt
        subst e
        obtain ⟨p0, p1, p2, p3, p4, p5, p6, p7, p8, p9, p10, p11, r3, r10⟩ := hat
        have hmem := List.mem_of_getElem? hget
        have hbx := HZ.out x hmem
        unfold Ev.size at hbx
        have R3 := Lib.hid r3
        have R10 := Lib.hid r10
        obtain ⟨g, hg⟩ : ∃ g, rightE x = g := ⟨_, rfl⟩
        have HRT : Hid (∀ W, Below wr.heap.size wr W → Calls Tryz.prog 6 #[.agg #[.int .i64 x.kind, .string x.path, .string x.msg, .slice A3 x.args.length c3, .int .i64 x.ord, .int .i64 x.vk, .string x.vt, .int .i64 x.vn, .int .i64 x.vm, .string x.vx, .slice A10 x.vl.length c10, .int .i64 x.n]] W fun e w' => e = .returned (.bool g) ∧ Below W.heap.size W w') := Lib.hid (fun W h => by
          rw [← hg]
          exact right_any x A3 A10 c3 c10 W (by omega) (by omega) (by omega) (by omega) (R3.out.belows h) (R10.out.belows h))
        have HBA : Hid (Below wr.heap.size wr (wr.alloc (.cells #[.int .i64 x.kind, .string x.path, .string x.msg, .slice A3 x.args.length c3, .int .i64 x.ord, .int .i64 x.vk, .string x.vt, .int .i64 x.vn, .int .i64 x.vm, .string x.vx, .slice A10 x.vl.length c10, .int .i64 x.n] 37))) := Lib.hid ((Below.refl _ _).alloc (Nat.le_refl _) _)
        have hin : (i : Int) < l.length := by omega
        have HX := Lib.hid hget
        have HG := Lib.hid hg
        have HM := Lib.hid hmem
        clear r3 r10 hbx hget hg hmem
        go_wp2_with fail
        (with_reducible refine (HRT.out _ HBA.out).mono ?_)
        rintro e w2 ⟨rfl, hb2⟩
        have HB2 := Lib.hid (HB.out.trans ((HBA.out.trans (hb2.mono HBA.out.size)).mono HB.out.size))
        clear hb2 HRT HBA p0 p1 p2 p3 p4 p5 p6 p7 p8 p9 p10 p11
        cases g with
        | false =>
          have HN : Hid (O = ⟨#[]⟩) := Lib.hid (by rw [← HO.out, bytesE, if_neg hbig, all_not HM.out HG.out]; rfl)
          go_wp2_with fail
          exact ⟨_, results_tmp rfl _ _ _, by rw [HN.out]; rfl, HB2.out⟩
        | true =>
          have HAL2 := Lib.hid (all_snoc HAL.out HX.out HG.out)
          go_wp2_with fail
          exact ⟨⟨i + 1, by omega, by go_num, HB2, HAL2⟩, by simp [intOf]; omega⟩
      · obtain rfl : i = l.length := by omega
        have HN : Hid (O = ⟨((numB l.length).data.toList ++ groupsE (runsE l.length l)).toArray⟩) := Lib.hid (by
          have := HAL.out
          rw [List.take_length] at this
          rw [← HO.out, bytesE, if_neg hbig, this]; rfl)
        have HBL := Lib.hid (BldE.new wr)
        have hnb := numB_size l.length
        have HW1 : Hid (∀ w1, Below wr.heap.size wr w1 → wr.heap.size + 1 ≤ w1.heap.size → True) := Lib.hid (fun _ _ _ => trivial)
        clear HW1 HO HAL
        go_wp2_with fail
        refine wpIn_wide.2 ?_
        go_wp2_with fail
        (with_reducible refine (num_any l.length (by omega) _).mono ?_)
        rintro e w1 ⟨rfl, hb1⟩
        have HB1 := Lib.hid (HBL.out.below hb1)
        clear hb1
        go_wp2_with fail
        (with_reducible refine (writeE_any HB1.out _ (by simp; omega)).mono ?_)
        rintro e w2 ⟨rfl, hb2⟩
        have HB2 := Lib.hid hb2
        clear hb2 HB1 HBL
        go_wp2_with fail
        (with_reducible refine (runs_any _ _ _ _).mono ?_)
        rintro e w3 ⟨rfl, rfl⟩
        go_wp2_with fail
        refine (wpIn_wide (n := 6)).1 ?_
        have HB3 := Lib.hid (HB2.out.alloc (.cells #[.slice A l.length c] 22))
        have HBS := Lib.hid (CellsAt.new w2 #[.slice A l.length c] 22)
        have hsz : (w2.alloc (.cells #[.slice A l.length c] 22)).heap.size = w2.heap.size + 1 := by simp
        obtain ⟨W, hW⟩ : ∃ W, w2.alloc (.cells #[.slice A l.length c] 22) = W := ⟨_, rfl⟩
        rw [hW] at HB3 HBS hsz ⊢
        have hlt2 : wr.heap.size < w2.heap.size := HB2.out.at_.elim (fun h => by obtain ⟨_, v, h, _⟩ := h; exact (Array.getElem?_eq_some_iff.1 h).1) (fun h => by obtain ⟨_, v, h, _⟩ := h; exact (Array.getElem?_eq_some_iff.1 h).1)
        clear hW HB2
        have hwr := HB.out.size
        have HB0 := HB
        have HBW : Hid (Below w.heap.size w W) := Lib.hid (HB.out.trans (HB3.out.low.mono hwr))
        have HRW : Hid (Rd (Lt w.heap.size) wr (slEv l) (.slice A l.length c)) := Lib.hid (HR.out.below HB.out (fun _ h => h))
        obtain ⟨b, off, zs, hmap, hA, hat0⟩ := slEv_as HRW.out
        have HA0 := Lib.hid hat0
        have hat : ∀ (i : Nat) (a : EvA), zs[i]? = some a → a.at (Lt w.heap.size) W b (off + i * 12) := fun i a hi => EvA.at_below (hA (by have := (List.getElem?_eq_some_iff.1 hi).1; omega)).2 (hat0 i a hi) (HB3.out.low.mono hwr)
        clear hat0
        have hlen : zs.length = l.length := by rw [← hmap, List.length_map]
        rw [← hlen] at HBS
        have HAT := Lib.hid hat
        have hzs : ∀ a ∈ zs, a.x ∈ l := fun a ha => by rw [← hmap]; exact List.mem_map_of_mem ha
        have HZS := Lib.hid hzs
        clear hat hzs
        refine wpIn_rangeFunc_ownH (gf := 69) (lb := #[.pointer (some ⟨w2.heap.size, 0, none⟩)]) rfl (by omega) rfl trivial (enters_of Tryz.func69 (by kernel_rfl) rfl)
          (runs_stops 5 (by omega) w.heap.size w2.heap.size b off c A zs (by omega) hA W (by omega) HBS.out HAT.out) KpR.trans (kpR_b (by omega) (by omega)) (Below.refl _ _) (fun _ => rfl)
          (fun pre W' => BldE wr.heap.size wr.heap.size wr W' ((numB l.length).data.toList ++ groupsA (pre.map (·.1))) ∧ CellsAt W' w2.heap.size #[.slice A zs.length c] 22)
          (fun _ _ _ => False)
          (OwnFrom.and (bldE_own _ (by omega) (by omega)) (Own.from (cellsAt_own _ _ _) _))
          (fun _ _ _ _ _ hs _ _ => hs)
          ⟨by simpa [groupsA] using HB3.out, HBS.out⟩
          (fun x a' W' => ∃ Bx, w2.heap.size < Bx ∧ CellsAt W' Bx #[.int .i64 x.1.1.x.kind, .string x.1.1.x.path, .string x.1.1.x.msg, .slice x.1.1.A x.1.1.x.args.length x.1.1.c, .int .i64 x.1.1.x.ord, .int .i64 x.1.1.x.vk, .string x.1.1.x.vt, .int .i64 x.1.1.x.vn, .int .i64 x.1.1.x.vm, .string x.1.1.x.vx, .slice x.1.1.C x.1.1.x.vl.length x.1.1.d, .int .i64 x.1.1.x.n] 37 ∧ a' = { tmps := #[.slice A l.length c, undef, u2, undef, u4, .pointer (some ⟨wr.heap.size, 0, none⟩), .pointer (some ⟨Bx, 0, none⟩), .int .i64 (x.1.2 : Int), .slice A l.length c, .int .i64 l.length, .bool false, .slice A l.length c, .int .i64 l.length, .int .i64 l.length, .bool false, u15, u16, u17, u18, u19, u20, .slice A l.length c, .int .i64 l.length, .string (numB l.length), .tuple #[.int .i64 (numB l.length).size, .nilIface], .slice A l.length c, .func (.func 69) #[] #[.pointer (some ⟨w2.heap.size, 0, none⟩)], .agg #[.int .i64 x.1.1.x.kind, .string x.1.1.x.path, .string x.1.1.x.msg, .slice x.1.1.A x.1.1.x.args.length x.1.1.c, .int .i64 x.1.1.x.ord, .int .i64 x.1.1.x.vk, .string x.1.1.x.vt, .int .i64 x.1.1.x.vn, .int .i64 x.1.1.x.vm, .string x.1.1.x.vx, .slice x.1.1.C x.1.1.x.vl.length x.1.1.d, .int .i64 x.1.1.x.n], .int .i64 (x.1.2 : Int), undef, undef, undef, undef, undef, undef, undef, undef, undef, undef, undef, undef, undef, undef, undef, undef, undef, undef, undef, undef], defers := [] })
          ?hAx ?assign ?body ?done ?stop
        case hAx =>
          rintro x a' u X Y row ⟨Bx, h1, h2, h3⟩ hg hr
          exact ⟨Bx, h1, cellsAt_own Bx _ _ () X Y row h2 hg (fun r e => (hr r e).2), h3⟩
        case assign =>
          rintro l2 pre x W2 K ⟨hB, hC⟩ hK
          gi_wp2
          have hC2 := hC.lt
          have hal : Below W2.heap.size W2 (W2.alloc (.cells #[.int .i64 x.1.1.x.kind, .string x.1.1.x.path, .string x.1.1.x.msg, .slice x.1.1.A x.1.1.x.args.length x.1.1.c, .int .i64 x.1.1.x.ord, .int .i64 x.1.1.x.vk, .string x.1.1.x.vt, .int .i64 x.1.1.x.vn, .int .i64 x.1.1.x.vm, .string x.1.1.x.vx, .slice x.1.1.C x.1.1.x.vl.length x.1.1.d, .int .i64 x.1.1.x.n] 37)) := (Below.refl _ _).alloc (Nat.le_refl _) _
          exact hK _ _ ((below_others hal).from _) (KpR.of_below (by have := hB.low.size; have := hB.le; omega) hC.lt hal) ⟨hB.alloc _, hC.keep (Chg.of_below (M := fun _ => False) hal) (fun h => h)⟩ ⟨W2.heap.size, hC2, CellsAt.new W2 _ _, rfl⟩
        case body =>
          rintro l2 pre ⟨⟨y, k⟩, hy, hk⟩ a' W2 hl2 hrec ⟨hB, hC⟩ ⟨Bx, hBx, hE, rfl⟩ hpl
          have e0 : W2.cell? ⟨Bx, 0, none⟩ = some (.int .i64 y.x.kind) := by rw [hE.cell]; rfl
          have e1 : W2.cell? ⟨Bx, 1, none⟩ = some (.string y.x.path) := by rw [hE.cell]; rfl
          have e2 : W2.cell? ⟨Bx, 2, none⟩ = some (.string y.x.msg) := by rw [hE.cell]; rfl
          have e3 : W2.cell? ⟨Bx, 3, none⟩ = some (.slice y.A y.x.args.length y.c) := by rw [hE.cell]; rfl
          have e4 : W2.cell? ⟨Bx, 4, none⟩ = some (.int .i64 y.x.ord) := by rw [hE.cell]; rfl
          have e5 : W2.cell? ⟨Bx, 5, none⟩ = some (.int .i64 y.x.vk) := by rw [hE.cell]; rfl
          have e6 : W2.cell? ⟨Bx, 6, none⟩ = some (.string y.x.vt) := by rw [hE.cell]; rfl
          have e7 : W2.cell? ⟨Bx, 7, none⟩ = some (.int .i64 y.x.vn) := by rw [hE.cell]; rfl
          have e8 : W2.cell? ⟨Bx, 8, none⟩ = some (.int .i64 y.x.vm) := by rw [hE.cell]; rfl
          have e9 : W2.cell? ⟨Bx, 9, none⟩ = some (.string y.x.vx) := by rw [hE.cell]; rfl
          have e10 : W2.cell? ⟨Bx, 10, none⟩ = some (.slice y.C y.x.vl.length y.d) := by rw [hE.cell]; rfl
          have e11 : W2.cell? ⟨Bx, 11, none⟩ = some (.int .i64 y.x.n) := by rw [hE.cell]; rfl
          have HB := Lib.hid hB
          have HC := Lib.hid hC
          have HE := Lib.hid hE
          clear hB hC hE
          have HLEN : Hid (((numB l.length).data.toList ++ groupsA (List.map (fun x => x.val) pre)).length ≤ 19791228174345) := Lib.hid (by
            have := groupsA_len (List.map (fun x => x.val) pre) (fun p hp => by
              obtain ⟨q, _, rfl⟩ := List.mem_map.1 hp
              exact HZ.out _ (HZS.out _ q.2.1))
            rw [List.length_map] at this
            rw [List.length_append, size_toList]
            have h2 : pre.length * 18874386 ≤ 1048576 * 18874386 := Nat.mul_le_mul_right _ (by omega)
            omega)
          have HSN : Hid (∀ g : List UInt8, groupB y.x k = g → ((numB l.length).data.toList ++ groupsA (List.map (fun x => x.val) pre)) ++ g = (numB l.length).data.toList ++ groupsA (List.map (fun x => x.val) (pre ++ [⟨(y, k), ⟨hy, hk⟩⟩]))) := Lib.hid (fun g e => by
            rw [List.map_append, List.map_cons, List.map_nil, groupsA_snoc, e, List.append_assoc])
          obtain ⟨g, hg⟩ : ∃ g, (y.x.kind == 3) = g := ⟨_, rfl⟩
          cases g with
          | true =>
            have HBN := Lib.hid (HSN.out (numZ 3 ++ numB k).data.toList (by rw [groupB, if_pos hg]; rfl))
            gi_wp2_with fail
            refine inRd (num_int 3 (by omega) _) ?_
            rintro e w3 ⟨rfl, hb3⟩
            have HS3 := Lib.hid (HB.out.self.below hb3)
            clear hb3
            gi_wp2_with fail
            refine inRd (num_any k (by omega) _) ?_
            rintro e w4 ⟨rfl, hb4⟩
            have HS4 := Lib.hid (HS3.out.below hb4)
            have z1 := numZ_size 3
            have z2 := numB_size k
            have hns : ¬ 9223372036854775807 < (numZ 3).size + (numB k).size := by omega
            clear hb4 HS3
            gi_wp2_with fail
            refine inRd (writeE_any HS4.out _ (by have := HLEN.out; rw [ByteArray.size_append]; omega)) ?_
            rintro e w5 ⟨rfl, hb5⟩
            have HS5 := Lib.hid hb5
            clear hb5 HS4
            gi_wp2_with fail
            exact ⟨(bldE_others HB.out.at_ HS5.out).from _, bldE_kpR (by omega) HS5.out HC.out (by omega), ⟨by rw [← HBN.out]; exact HB.out.trans HS5.out, HS5.out.cells HC.out (by omega) (by decide)⟩⟩
          | false =>
            have HGR := Lib.hid (fun w => grouped_any y.x y.A y.C y.c y.d w)
            obtain ⟨g2, hg2⟩ : ∃ g2, groupedE y.x = g2 := ⟨_, rfl⟩
            rw [hg2] at HGR
            have HG2 := Lib.hid hg2
            have HKN : Hid (¬ (y.x.kind == 3) = true) := Lib.hid (by rw [hg]; simp)
            clear hg2
            gi_wp2_with fail
            refine inRd (HGR.out _) ?_
            rintro e w8 ⟨rfl, hb8⟩
            have HS8 := Lib.hid (HB.out.self.below hb8)
            have HE8 := Lib.hid (HE.out.keep (Chg.of_below (M := fun _ => False) hb8) (fun h => h))
            have HBL8 := Lib.hid hb8
            clear hb8 e0 e1 e2 e3 e4 e5 e6 e7 e8 e9 e10 e11
            cases g2 with
            | true =>
              have HBN := Lib.hid (HSN.out (numZ 0 ++ numB k).data.toList (by rw [groupB, if_neg HKN.out, if_pos HG2.out]; rfl))
              gi_wp2_with fail
              refine inRd (num_int 0 (by omega) _) ?_
              rintro e w3 ⟨rfl, hb3⟩
              have HS3 := Lib.hid (HS8.out.below hb3)
              clear hb3
              gi_wp2_with fail
              refine inRd (num_any k (by omega) _) ?_
              rintro e w4 ⟨rfl, hb4⟩
              have HS4 := Lib.hid (HS3.out.below hb4)
              have z1 := numZ_size 0
              have z2 := numB_size k
              have hns : ¬ 9223372036854775807 < (numZ 0).size + (numB k).size := by omega
              clear hb4 HS3
              gi_wp2_with fail
              refine inRd (writeE_any HS4.out _ (by have := HLEN.out; rw [ByteArray.size_append]; omega)) ?_
              rintro e w5 ⟨rfl, hb5⟩
              have HS5 := Lib.hid hb5
              clear hb5 HS4
              gi_wp2_with fail
              exact ⟨(bldE_others HB.out.at_ HS5.out).from _, bldE_kpR (by omega) HS5.out HC.out (by omega), ⟨by rw [← HBN.out]; exact HB.out.trans HS5.out, HS5.out.cells HC.out (by omega) (by decide)⟩⟩
            | false =>
              have HBN := Lib.hid (HSN.out (writeS y.x) (by rw [groupB, if_neg HKN.out, if_neg (by rw [HG2.out]; simp)]))
              have e0 : w8.cell? ⟨Bx, 0, none⟩ = some (.int .i64 y.x.kind) := by rw [HE8.out.cell]; rfl
              have e1 : w8.cell? ⟨Bx, 1, none⟩ = some (.string y.x.path) := by rw [HE8.out.cell]; rfl
              have e2 : w8.cell? ⟨Bx, 2, none⟩ = some (.string y.x.msg) := by rw [HE8.out.cell]; rfl
              have e3 : w8.cell? ⟨Bx, 3, none⟩ = some (.slice y.A y.x.args.length y.c) := by rw [HE8.out.cell]; rfl
              have e4 : w8.cell? ⟨Bx, 4, none⟩ = some (.int .i64 y.x.ord) := by rw [HE8.out.cell]; rfl
              have e5 : w8.cell? ⟨Bx, 5, none⟩ = some (.int .i64 y.x.vk) := by rw [HE8.out.cell]; rfl
              have e6 : w8.cell? ⟨Bx, 6, none⟩ = some (.string y.x.vt) := by rw [HE8.out.cell]; rfl
              have e7 : w8.cell? ⟨Bx, 7, none⟩ = some (.int .i64 y.x.vn) := by rw [HE8.out.cell]; rfl
              have e8 : w8.cell? ⟨Bx, 8, none⟩ = some (.int .i64 y.x.vm) := by rw [HE8.out.cell]; rfl
              have e9 : w8.cell? ⟨Bx, 9, none⟩ = some (.string y.x.vx) := by rw [HE8.out.cell]; rfl
              have e10 : w8.cell? ⟨Bx, 10, none⟩ = some (.slice y.C y.x.vl.length y.d) := by rw [HE8.out.cell]; rfl
              have e11 : w8.cell? ⟨Bx, 11, none⟩ = some (.int .i64 y.x.n) := by rw [HE8.out.cell]; rfl
              have HWV : Hid (Calls Tryz.prog 44 #[.pointer (some ⟨wr.heap.size, 0, none⟩), .agg #[.int .i64 y.x.kind, .string y.x.path, .string y.x.msg, .slice y.A y.x.args.length y.c, .int .i64 y.x.ord, .int .i64 y.x.vk, .string y.x.vt, .int .i64 y.x.vn, .int .i64 y.x.vm, .string y.x.vx, .slice y.C y.x.vl.length y.d, .int .i64 y.x.n]] w8 (WrPost wr.heap.size wr.heap.size W2 (((numB l.length).data.toList ++ groupsA (List.map (fun x => x.val) pre)) ++ writeS y.x))) := Lib.hid (by
                obtain ⟨i, hi⟩ := List.getElem?_of_mem hy
                obtain ⟨_, _, _, _, _, _, _, _, _, _, _, _, r3, r10⟩ := HA0.out i y hi
                have hbw := HB.out.low.trans HS8.out.low
                have hyl := HZS.out y hy
                have := HLEN.out
                have := HZ.out _ hyl
                exact write_ev y.x y.A y.C y.c y.d _ _ _ _ _ HS8.out (HZ.out _ hyl) (by omega) (HWF.out _ hyl) ((r3.below (hbw.mono hwr) (fun _ h => h)).weaken (fun q hq => Nat.lt_of_lt_of_le hq hwr)) ((r10.below (hbw.mono hwr) (fun _ h => h)).weaken (fun q hq => Nat.lt_of_lt_of_le hq hwr)))
              gi_wp2_with fail
              refine inRd HWV.out ?_
              rintro e w5 ⟨rfl, hb5⟩
              have HS5 := Lib.hid hb5
              clear hb5
              gi_wp2_with fail
              exact ⟨(bldE_others HB.out.at_ HS5.out).from _, bldE_kpR (by omega) HS5.out HC.out (by omega), ⟨by rw [← HBN.out]; exact HB.out.trans HS5.out, HS5.out.cells HC.out (by omega) (by decide)⟩⟩
        case done =>
          rintro D ys W2 hD hS ⟨hB, hC⟩ hK
          have HB := Lib.hid hB
          have HK := Lib.hid hK
          have HYS := Lib.hid hS
          clear hB hK hS hC
          gi_wp2_with fail
          go_wp2_with fail
          (with_reducible refine (stringE_kept HB.out).mono ?_)
          rintro e w5 ⟨rfl, hb5⟩
          have HS5 := Lib.hid hb5
          clear hb5
          go_wp2_with fail
          have hK' := (bldE_others HB.out.at_ HS5.out).same D _ HK.out rfl
          refine ⟨by simp, .inl ⟨_, _, rfl, run_takeDeferred hK', ?_⟩⟩
          have hys : groupsA (List.map (fun x => x.val) ys) = groupsE (runsE l.length l) := by
            rw [HYS.out, ← hlen, ← hmap, runsE_map, groupsE_map]
          exact ⟨_, results_tmp rfl _ _ _, by rw [HN.out, ← hys]; rfl, (HB0.out.trans ((HB.out.low.trans HS5.out.low).mono hwr)).trans (belowK_b (w := w) (Nat.le_refl _) w5 D _ _ (by omega) hK' rfl rfl)⟩
        case stop =>
          rintro D c pre W2 _ _ h _
          exact h.elim
end Go.Proofs.YtlbmfgiepcemdaaGreat
