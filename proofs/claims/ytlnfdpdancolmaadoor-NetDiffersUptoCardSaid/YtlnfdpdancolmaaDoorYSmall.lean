/- The fixed example of the statements' package: it answers true. Conditions: those in each statement. -/
import Derived.Test.YtlnfdpdancolmaaDoorYSmallPOpen
namespace Go.Proofs.YtlnfdpdancolmaaDoor
open Go.RowKit

theorem x_rd (w : World) : Rd (Lt (w.alloc (.cells #[.int .i64 3, .string ⟨#[]⟩, .int .i64 1, .int .i64 0, .string ⟨#[]⟩, .slice none 0 0] 52)).heap.size) (w.alloc (.cells #[.int .i64 3, .string ⟨#[]⟩, .int .i64 1, .int .i64 0, .string ⟨#[]⟩, .slice none 0 0] 52)) (vs [vInt 1]) (.slice (some ⟨w.heap.size, 0, none⟩) 1 1) := by
  refine Rd.sl_mk (Nat.le_refl _) (by omega) fun _ => ⟨w.heap.size, 0, rfl, by unfold Lt; simp, fun i hi => ?_⟩
  have hi : i < 1 := hi
  obtain rfl : i = 0 := by omega
  rw [rowsV_get [vInt 1] 0 (vInt 1) rfl]
  exact row_of_VAt (A := none) (c := 0) ⟨cell_new _ _ _ 0, cell_new _ _ _ 1, cell_new _ _ _ 2, cell_new _ _ _ 3, cell_new _ _ _ 4, cell_new _ _ _ 5, Rd.sl_nil⟩
theorem own_some {B e k n : Nat} {f : Nat → Nat → D} {w : World} {v : Value} (h : Owned B e k (n + 1) f w v) : ∃ g c, v = .slice (some ⟨g, 0, none⟩) (n + 1) c ∧ B ≤ g ∧ g < w.heap.size := by
  rcases h with ⟨_, h⟩ | ⟨g, c, rfl, hB, _, _, hbk, _⟩
  · omega
  · exact ⟨g, c, rfl, hB, hbk.lt⟩
theorem bulk_cm (kind : Int) (of new name : ByteArray) (h : of.size + new.size + name.size ≤ 1000) : (cm kind of new name).bulk ≤ 2097152 := by
  unfold Cmd.bulk cm
  simp only [bulkV]
  have : (ByteArray.mk #[]).size = 0 := rfl
  omega
theorem apply_cm (l : List Out) (kind : Int) (of new name : ByteArray) (A : Option Addr) (n c : Nat) (w : World) (hr : Rd (Lt w.heap.size) w (slOut l) (.slice A n c)) (hb : bulkOut l ≤ 2097152) (hs : of.size + new.size + name.size ≤ 1000) :
    Calls Tryd.prog 12 #[.slice A n c, .agg #[.string ⟨#[]⟩, .int .i64 kind, .string of, .string new, .string name, .slice none 0 0]] w (FoldPost l [cm kind of new name] w) :=
  apply_any l (cm kind of new name) A none n c 0 w hr hb Rd.sl_nil (bulk_cm _ _ _ _ hs)
theorem cmd_at {ok : Nat → Prop} {w : World} {g o : Nat} {kind : Int} {of new name : ByteArray} (h : ∀ (j : Nat) (u : Value), [Value.string ⟨#[]⟩, .int .i64 kind, .string of, .string new, .string name, .slice none 0 0][j]? = some u → w.cell? ⟨g, o + j, none⟩ = some u) : RdRow ok w g o 6 (cm kind of new name).row :=
  row_of_CmdAt (A5 := none) (c5 := 0) ⟨h 0 _ rfl, h 1 _ rfl, h 2 _ rfl, h 3 _ rfl, h 4 _ rfl, h 5 _ rfl, Rd.sl_nil⟩
theorem cmds3 (w : World) : Rd (Lt (w.alloc (.cells #[.string ⟨#[]⟩, .int .i64 1, .string ⟨#[]⟩, .string ⟨#[99]⟩, .string ⟨#[109, 97, 105, 108]⟩, .slice none 0 0, .string ⟨#[]⟩, .int .i64 4, .string ⟨#[97]⟩, .string ⟨#[98]⟩, .string ⟨#[112, 97, 121]⟩, .slice none 0 0, .string ⟨#[]⟩, .int .i64 3, .string ⟨#[99]⟩, .string ⟨#[]⟩, .string ⟨#[]⟩, .slice none 0 0] 32)).heap.size) (w.alloc (.cells #[.string ⟨#[]⟩, .int .i64 1, .string ⟨#[]⟩, .string ⟨#[99]⟩, .string ⟨#[109, 97, 105, 108]⟩, .slice none 0 0, .string ⟨#[]⟩, .int .i64 4, .string ⟨#[97]⟩, .string ⟨#[98]⟩, .string ⟨#[112, 97, 121]⟩, .slice none 0 0, .string ⟨#[]⟩, .int .i64 3, .string ⟨#[99]⟩, .string ⟨#[]⟩, .string ⟨#[]⟩, .slice none 0 0] 32)) (slCmd [cm 1 ⟨#[]⟩ ⟨#[99]⟩ ⟨#[109, 97, 105, 108]⟩, cm 4 ⟨#[97]⟩ ⟨#[98]⟩ ⟨#[112, 97, 121]⟩, cm 3 ⟨#[99]⟩ ⟨#[]⟩ ⟨#[]⟩]) (.slice (some ⟨w.heap.size, 0, none⟩) 3 3) := by
  refine Rd.sl_mk (Nat.le_refl _) (by omega) fun _ => ⟨w.heap.size, 0, rfl, by unfold Lt; simp, fun i hi => ?_⟩
  have hi : i < 3 := hi
  match i, hi with
  | 0, _ =>
    rw [rowsCmd_get rfl]
    exact cmd_at (fun j u hj => by rw [cell_new, ← hj]; match j with | 0 | 1 | 2 | 3 | 4 | 5 => rfl | j + 6 => simp at hj)
  | 1, _ =>
    rw [rowsCmd_get rfl]
    exact cmd_at (fun j u hj => by rw [cell_new, ← hj]; match j with | 0 | 1 | 2 | 3 | 4 | 5 => rfl | j + 6 => simp at hj)
  | 2, _ =>
    rw [rowsCmd_get rfl]
    exact cmd_at (fun j u hj => by rw [cell_new, ← hj]; match j with | 0 | 1 | 2 | 3 | 4 | 5 => rfl | j + 6 => simp at hj)
theorem cmds1 (w : World) : Rd (Lt (w.alloc (.cells #[.string ⟨#[]⟩, .int .i64 4, .string ⟨#[98]⟩, .string ⟨#[99]⟩, .string ⟨#[]⟩, .slice none 0 0] 32)).heap.size) (w.alloc (.cells #[.string ⟨#[]⟩, .int .i64 4, .string ⟨#[98]⟩, .string ⟨#[99]⟩, .string ⟨#[]⟩, .slice none 0 0] 32)) (slCmd [cm 4 ⟨#[98]⟩ ⟨#[99]⟩ ⟨#[]⟩]) (.slice (some ⟨w.heap.size, 0, none⟩) 1 1) := by
  refine Rd.sl_mk (Nat.le_refl _) (by omega) fun _ => ⟨w.heap.size, 0, rfl, by unfold Lt; simp, fun i hi => ?_⟩
  have hi : i < 1 := hi
  match i, hi with
  | 0, _ =>
    rw [rowsCmd_get rfl]
    exact cmd_at (fun j u hj => by rw [cell_new, ← hj]; match j with | 0 | 1 | 2 | 3 | 4 | 5 => rfl | j + 6 => simp at hj)
/-- two requests in a new block -/
theorem reqs2 (w : World) (r q : Req) (A A' : Option Addr) (c c' : Nat) (arr : Array Value) (hr : Rd (Lt w.heap.size) w (vs r.args) (.slice A r.args.length c)) (hq : Rd (Lt w.heap.size) w (vs q.args) (.slice A' q.args.length c'))
    (ha : arr = #[.string r.path, .string r.name, .slice A r.args.length c, .int .i64 r.ord, .string r.reply, .int .i64 r.sent, .int .i64 r.tick, .bool r.isopen, .string q.path, .string q.name, .slice A' q.args.length c', .int .i64 q.ord, .string q.reply, .int .i64 q.sent, .int .i64 q.tick, .bool q.isopen]) :
    Rd (Lt (w.alloc (.cells arr 42)).heap.size) (w.alloc (.cells arr 42)) (slReq [r, q]) (.slice (some ⟨w.heap.size, 0, none⟩) 2 2) := by
  subst ha
  refine Rd.sl_mk (Nat.le_refl _) (by omega) fun _ => ⟨w.heap.size, 0, rfl, by unfold Lt; simp, fun i hi => ?_⟩
  have hi : i < 2 := hi
  match i, hi with
  | 0, _ =>
    rw [rowsReq_get (x := r) rfl]
    exact row_of_ReqAt (A2 := A) (c2 := c) ⟨cell_new _ _ _ _, cell_new _ _ _ _, cell_new _ _ _ _, cell_new _ _ _ _, cell_new _ _ _ _, cell_new _ _ _ _, cell_new _ _ _ _, cell_new _ _ _ _, hr.allocs _⟩
  | 1, _ =>
    rw [rowsReq_get (x := q) rfl]
    exact row_of_ReqAt (A2 := A') (c2 := c') ⟨cell_new _ _ _ _, cell_new _ _ _ _, cell_new _ _ _ _, cell_new _ _ _ _, cell_new _ _ _ _, cell_new _ _ _ _, cell_new _ _ _ _, cell_new _ _ _ _, hq.allocs _⟩
/-- the five cells of an effect in an own slice -/
theorem own_cells {B n g c : Nat} {L : List Out} {w : World} (h : Owned B 45 5 n (rowsOut L) w (.slice (some ⟨g, 0, none⟩) n c)) {i : Nat} {o : Out} (hi : i < n) (ho : L[i]? = some o) : ∃ A2 c2, OutAt (Lt w.heap.size) w g (i * 5) o A2 c2 := by
  rcases h with ⟨h, _⟩ | ⟨g', c', h, _, _, _, _, hr⟩
  · cases h
  · injection h with h _ _
    injection h with h
    injection h with h
    subst h
    have := (hr i hi).weaken (ok' := Lt w.heap.size) (fun b hb => hb.1.2)
    rw [rowsOut_get ho] at this
    exact OutAt_of_row this
/-- what stays known along the example -/
def Kn (w W : World) : Prop := Rd (Lt W.heap.size) W (vs [vInt 1]) (.slice (some ⟨w.heap.size, 0, none⟩) 1 1) ∧ Row32 W 0 64 kF ∧ Below w.heap.size w W ∧ 0 < w.heap.size
theorem Kn.below {w W W' : World} (h : Kn w W) (hb : Below W.heap.size W W') : Kn w W' :=
  ⟨h.1.belows hb, h.2.1.below hb (Nat.lt_of_lt_of_le h.2.2.2 h.2.2.1.size), h.2.2.1.trans (hb.mono h.2.2.1.size), h.2.2.2⟩
theorem Kn.alloc {w W : World} (h : Kn w W) (o : Obj) : Kn w (W.alloc o) := h.below ((Below.refl _ _).alloc (Nat.le_refl _) o)
def OwnO (B : Nat) (L : List Out) (n : Nat) (w : World) (v : Value) : Prop := Owned B 45 5 n (rowsOut L) w v
theorem OwnO.below {B : Nat} {L : List Out} {n : Nat} {w w' : World} {v : Value} (h : OwnO B L n w v) (hb : Below w.heap.size w w') : OwnO B L n w' v := Owned.below h hb
theorem OwnO.rd {B : Nat} {L : List Out} {w : World} {v : Value} (h : OwnO B L L.length w v) : Rd (Lt w.heap.size) w (slOut L) v := (Owned.rd h).weaken (fun _ hb => hb.2)

/-- the cells that the example reads last -/
def SC (gu gd gb br : Nat) (Ab Ae : Option Addr) (xb xe n0 : Nat) (W : World) : Prop := W.cell? ⟨gu, 0, none⟩ = some (.string (kf0 reqR)) ∧ W.cell? ⟨gu, 4, none⟩ = some (.int .i64 7) ∧ W.cell? ⟨gd, 1, none⟩ = some (.string ⟨#[109, 97, 105, 108]⟩) ∧ W.cell? ⟨gb, 0, none⟩ = some (.string ⟨#[98]⟩) ∧ W.cell? ⟨gb, 1, none⟩ = some (.string ⟨#[112, 97, 121]⟩) ∧ W.cell? ⟨gb, 2, none⟩ = some (.slice Ab 0 xb) ∧ W.cell? ⟨gb, 3, none⟩ = some (.bool false) ∧ W.cell? ⟨gb, 4, none⟩ = some (.int .i64 0) ∧ W.cell? ⟨gb, 5, none⟩ = some (.string ⟨#[99]⟩) ∧ W.cell? ⟨gb, 6, none⟩ = some (.string ⟨#[109, 97, 105, 108]⟩) ∧ W.cell? ⟨gb, 7, none⟩ = some (.slice Ae 0 xe) ∧ W.cell? ⟨gb, 8, none⟩ = some (.bool true) ∧ W.cell? ⟨gb, 9, none⟩ = some (.int .i64 0) ∧ W.cell? ⟨br, 0, none⟩ = some (.string ⟨#[48]⟩) ∧ W.cell? ⟨br, 1, none⟩ = some (.string ⟨#[112, 97, 121]⟩) ∧ W.cell? ⟨br, 2, none⟩ = some (.slice (some ⟨n0, 0, none⟩) 1 1) ∧ W.cell? ⟨br, 3, none⟩ = some (.int .i64 0) ∧ W.cell? ⟨br, 4, none⟩ = some (.string ⟨#[]⟩) ∧ W.cell? ⟨br, 5, none⟩ = some (.int .i64 0) ∧ W.cell? ⟨br, 6, none⟩ = some (.int .i64 7) ∧ W.cell? ⟨br, 7, none⟩ = some (.bool false) ∧ W.cell? ⟨br + 1, 0, none⟩ = some (.string ⟨#[48]⟩) ∧ W.cell? ⟨br + 1, 1, none⟩ = some (.string ⟨#[112, 97, 121]⟩) ∧ W.cell? ⟨br + 1, 2, none⟩ = some (.slice (some ⟨n0, 0, none⟩) 1 1) ∧ W.cell? ⟨br + 1, 3, none⟩ = some (.int .i64 1) ∧ W.cell? ⟨br + 1, 4, none⟩ = some (.string ⟨#[]⟩) ∧ W.cell? ⟨br + 1, 5, none⟩ = some (.int .i64 0) ∧ W.cell? ⟨br + 1, 6, none⟩ = some (.int .i64 8) ∧ W.cell? ⟨br + 1, 7, none⟩ = some (.bool false)
theorem SC.below {gu gd gb br : Nat} {Ab Ae : Option Addr} {xb xe n0 : Nat} {W W' : World} (h : SC gu gd gb br Ab Ae xb xe n0 W) (hb : Below W.heap.size W W') : SC gu gd gb br Ab Ae xb xe n0 W' := by
  have k : ∀ {p : Addr} {v : Value}, W.cell? p = some v → W'.cell? p = some v := fun hp => (hb.cell (World.block_lt_of_cell? W _ hp)).trans hp
  obtain ⟨h0, h1, h2, h3, h4, h5, h6, h7, h8, h9, h10, h11, h12, h13, h14, h15, h16, h17, h18, h19, h20, h21, h22, h23, h24, h25, h26, h27, h28⟩ := h
  exact ⟨k h0, k h1, k h2, k h3, k h4, k h5, k h6, k h7, k h8, k h9, k h10, k h11, k h12, k h13, k h14, k h15, k h16, k h17, k h18, k h19, k h20, k h21, k h22, k h23, k h24, k h25, k h26, k h27, k h28⟩
theorem outs2 (w : World) (A A' : Option Addr) (c c' : Nat) (h : Rd (Lt w.heap.size) w (vs []) (.slice A 0 c)) (h' : Rd (Lt w.heap.size) w (vs []) (.slice A' 0 c')) :
    Rd (Lt (w.alloc (.cells #[.string ⟨#[99]⟩, .string ⟨#[109, 97, 105, 108]⟩, .slice A 0 c, .bool true, .int .i64 0, .string ⟨#[98]⟩, .string ⟨#[112, 97, 121]⟩, .slice A' 0 c', .bool false, .int .i64 0] 45)).heap.size) (w.alloc (.cells #[.string ⟨#[99]⟩, .string ⟨#[109, 97, 105, 108]⟩, .slice A 0 c, .bool true, .int .i64 0, .string ⟨#[98]⟩, .string ⟨#[112, 97, 121]⟩, .slice A' 0 c', .bool false, .int .i64 0] 45)) (slOut [oC, oB]) (.slice (some ⟨w.heap.size, 0, none⟩) 2 2) := by
  refine Rd.sl_mk (Nat.le_refl _) (by omega) fun _ => ⟨w.heap.size, 0, rfl, by unfold Lt; simp, fun i hi => ?_⟩
  have hi : i < 2 := hi
  match i, hi with
  | 0, _ =>
    rw [rowsOut_get (x := oC) rfl]
    exact row_of_OutAt (A2 := A) (c2 := c) ⟨cell_new _ _ _ _, cell_new _ _ _ _, cell_new _ _ _ _, cell_new _ _ _ _, cell_new _ _ _ _, h.allocs _⟩
  | 1, _ =>
    rw [rowsOut_get (x := oB) rfl]
    exact row_of_OutAt (A2 := A') (c2 := c') ⟨cell_new _ _ _ _, cell_new _ _ _ _, cell_new _ _ _ _, cell_new _ _ _ _, cell_new _ _ _ _, h'.allocs _⟩

set_option maxHeartbeats 16000000 in
set_option maxRecDepth 100000 in
theorem small_any (w : World) (hR : Row32 w 0 64 kF) : Calls Tryd.prog 9 #[] w fun e w' => e = .returned (.bool true) ∧ Below w.heap.size w w' := by
  have hw0 : 0 < w.heap.size := World.block_lt_of_cell? w _ (hR 0 (by omega))
  have K0 : Hid (Kn w (w.alloc (.cells #[.int .i64 3, .string ⟨#[]⟩, .int .i64 1, .int .i64 0, .string ⟨#[]⟩, .slice none 0 0] 52))) := Lib.hid ⟨x_rd w, hR.below ((Below.refl w.heap.size w).alloc (Nat.le_refl _) _) hw0, (Below.refl _ _).alloc (Nat.le_refl _) _, hw0⟩
  clear hR
  have H1 : Hid (Calls Tryd.prog 12 #[.slice none 0 0, .agg #[.string ⟨#[107]⟩, .int .i64 1, .string ⟨#[]⟩, .string ⟨#[97]⟩, .string ⟨#[112, 97, 121]⟩, .slice (some ⟨w.heap.size, 0, none⟩) 1 1]] (w.alloc (.cells #[.int .i64 3, .string ⟨#[]⟩, .int .i64 1, .int .i64 0, .string ⟨#[]⟩, .slice none 0 0] 52)) (FoldPost [] [cm1] (w.alloc (.cells #[.int .i64 3, .string ⟨#[]⟩, .int .i64 1, .int .i64 0, .string ⟨#[]⟩, .slice none 0 0] 52)))) :=
    Lib.hid (apply_any [] cm1 none (some ⟨w.heap.size, 0, none⟩) 0 0 1 _ Rd.sl_nil (by decide) K0.out.1 (by decide))
  go_enter Tryd.func9, Tryd.ntmps9
  go_wp2_with fail
  (with_reducible refine H1.out.mono ?_)
  rintro _ w1 ⟨va, he, ho, hb⟩
  rw [f1] at he ho
  obtain ⟨ga, ca, rfl, hga, _⟩ := own_some ho
  subst he
  have K1 := Lib.hid (K0.out.below hb)
  have A1 : Hid (OwnO w.heap.size [oA] 1 w1 (.slice (some ⟨ga, 0, none⟩) (0 + 1) ca)) := Lib.hid (Owned.lower ho (by simp))
  clear ho hb hga H1 K0
  simp only [Nat.zero_add] at A1
  have H2 := Lib.hid (fold_any [oA] [cm 1 ⟨#[]⟩ ⟨#[99]⟩ ⟨#[109, 97, 105, 108]⟩, cm 4 ⟨#[97]⟩ ⟨#[98]⟩ ⟨#[112, 97, 121]⟩, cm 3 ⟨#[99]⟩ ⟨#[]⟩ ⟨#[]⟩] (some ⟨ga, 0, none⟩) (some ⟨w1.heap.size, 0, none⟩) 1 ca 3 3 (w1.alloc (.cells #[.string ⟨#[]⟩, .int .i64 1, .string ⟨#[]⟩, .string ⟨#[99]⟩, .string ⟨#[109, 97, 105, 108]⟩, .slice none 0 0, .string ⟨#[]⟩, .int .i64 4, .string ⟨#[97]⟩, .string ⟨#[98]⟩, .string ⟨#[112, 97, 121]⟩, .slice none 0 0, .string ⟨#[]⟩, .int .i64 3, .string ⟨#[99]⟩, .string ⟨#[]⟩, .string ⟨#[]⟩, .slice none 0 0] 32)) ((A1.out.below ((Below.refl w1.heap.size w1).alloc (Nat.le_refl _) _)).rd) (by decide) (cmds3 w1) (by decide))
  go_wp2_with fail
  (with_reducible refine H2.out.mono ?_)
  rintro _ w2 ⟨vb, he, ho, hb⟩
  rw [f2] at he ho
  obtain ⟨gb, cb, rfl, hgb, _⟩ := own_some (n := 1) ho
  subst he
  have hba : Below w1.heap.size w1 w2 := ((Below.refl _ _).alloc (Nat.le_refl _) _).trans (hb.mono (by simp))
  have K2 := Lib.hid (K1.out.below hba)
  have A2 := Lib.hid (A1.out.below hba)
  have B2 : Hid (OwnO w.heap.size [oB, oC] 2 w2 (.slice (some ⟨gb, 0, none⟩) 2 cb)) := Lib.hid (Owned.lower ho (by have := K1.out.2.2.1.size; simp; omega))
  clear ho hb hgb H2 K1 A1 hba
  have H3 := Lib.hid (apply_cm [oB, oC] 2 ⟨#[98]⟩ ⟨#[]⟩ ⟨#[]⟩ (some ⟨gb, 0, none⟩) 2 cb w2 B2.out.rd (by decide) (by decide))
  go_wp2_with fail
  (with_reducible refine H3.out.mono ?_)
  rintro _ w3 ⟨v3, he, ho, hb⟩
  rw [f3] at he ho
  obtain ⟨gc, cc, rfl, hgc, _⟩ := own_some (n := 0) ho
  simp only [Nat.zero_add] at he ho
  subst he
  have K3 := Lib.hid (K2.out.below hb)
  have A3 := Lib.hid (A2.out.below hb)
  have B3 := Lib.hid (B2.out.below hb)
  have C3 : Hid (OwnO w.heap.size [oC] 1 w3 (.slice (some ⟨gc, 0, none⟩) 1 cc)) := Lib.hid (Owned.lower ho K2.out.2.2.1.size)
  clear hgc
  clear ho hb H3 K2 A2 B2
  have H4 := Lib.hid (apply_cm [oB, oC] 3 ⟨#[99]⟩ ⟨#[]⟩ ⟨#[]⟩ (some ⟨gb, 0, none⟩) 2 cb w3 B3.out.rd (by decide) (by decide))
  go_wp2_with fail
  (with_reducible refine H4.out.mono ?_)
  rintro _ w4 ⟨v4, he, ho, hb⟩
  rw [f4] at he ho
  subst he
  have K4 := Lib.hid (K3.out.below hb)
  have A4 := Lib.hid (A3.out.below hb)
  have B4 := Lib.hid (B3.out.below hb)
  have C4 := Lib.hid (C3.out.below hb)
  clear ho hb H4 K3 A3 B3 C3
  have H5 := Lib.hid (apply_cm [oB, oC] 1 ⟨#[]⟩ ⟨#[98]⟩ ⟨#[]⟩ (some ⟨gb, 0, none⟩) 2 cb w4 B4.out.rd (by decide) (by decide))
  go_wp2_with fail
  (with_reducible refine H5.out.mono ?_)
  rintro _ w5 ⟨v5, he, ho, hb⟩
  rw [f5] at he ho
  subst he
  have K5 := Lib.hid (K4.out.below hb)
  have A5 := Lib.hid (A4.out.below hb)
  have B5 := Lib.hid (B4.out.below hb)
  have C5 := Lib.hid (C4.out.below hb)
  clear ho hb H5 K4 A4 B4 C4
  have H6 := Lib.hid (apply_cm [oB, oC] 2 ⟨#[122]⟩ ⟨#[]⟩ ⟨#[]⟩ (some ⟨gb, 0, none⟩) 2 cb w5 B5.out.rd (by decide) (by decide))
  go_wp2_with fail
  (with_reducible refine H6.out.mono ?_)
  rintro _ w6 ⟨v6, he, ho, hb⟩
  rw [f6] at he ho
  subst he
  have K6 := Lib.hid (K5.out.below hb)
  have A6 := Lib.hid (A5.out.below hb)
  have B6 := Lib.hid (B5.out.below hb)
  have C6 := Lib.hid (C5.out.below hb)
  clear ho hb H6 K5 A5 B5 C5
  have H7 := Lib.hid (apply_cm [oB, oC] 9 ⟨#[]⟩ ⟨#[]⟩ ⟨#[]⟩ (some ⟨gb, 0, none⟩) 2 cb w6 B6.out.rd (by decide) (by decide))
  go_wp2_with fail
  (with_reducible refine H7.out.mono ?_)
  rintro _ w7 ⟨v7, he, ho, hb⟩
  rw [f7] at he ho
  subst he
  have K7 := Lib.hid (K6.out.below hb)
  have A7 := Lib.hid (A6.out.below hb)
  have B7 := Lib.hid (B6.out.below hb)
  have C7 := Lib.hid (C6.out.below hb)
  clear ho hb H7 K6 A6 B6 C6
  have H8 := Lib.hid (fold_any [oB, oC] [cm 4 ⟨#[98]⟩ ⟨#[99]⟩ ⟨#[]⟩] (some ⟨gb, 0, none⟩) (some ⟨w7.heap.size, 0, none⟩) 2 cb 1 1 (w7.alloc (.cells #[.string ⟨#[]⟩, .int .i64 4, .string ⟨#[98]⟩, .string ⟨#[99]⟩, .string ⟨#[]⟩, .slice none 0 0] 32)) ((B7.out.below ((Below.refl w7.heap.size w7).alloc (Nat.le_refl _) _)).rd) (by decide) (cmds1 w7) (by decide))
  go_wp2_with fail
  (with_reducible refine H8.out.mono ?_)
  rintro _ w8 ⟨v8, he, ho, hb0⟩
  rw [f8] at he
  subst he
  have hb : Below w7.heap.size w7 w8 := ((Below.refl _ _).alloc (Nat.le_refl _) _).trans (hb0.mono (by simp))
  have K8 := Lib.hid (K7.out.below hb)
  have A8 := Lib.hid (A7.out.below hb)
  have B8 := Lib.hid (B7.out.below hb)
  have C8 := Lib.hid (C7.out.below hb)
  clear ho hb hb0 H8 K7 A7 B7 C7
  obtain ⟨wr, hwr⟩ : ∃ wr, wr = (((w8.alloc (.cells #[.string ⟨#[48]⟩, .string ⟨#[112, 97, 121]⟩, .slice (some ⟨w.heap.size, 0, none⟩) 1 1, .int .i64 0, .string ⟨#[]⟩, .int .i64 0, .int .i64 7, .bool false] 42)).alloc (.cells #[.string ⟨#[48]⟩, .string ⟨#[112, 97, 121]⟩, .slice (some ⟨w.heap.size, 0, none⟩) 1 1, .int .i64 1, .string ⟨#[]⟩, .int .i64 0, .int .i64 8, .bool false] 42)).alloc (.cells #[.string ⟨#[48]⟩, .string ⟨#[112, 97, 121]⟩, .slice (some ⟨w.heap.size, 0, none⟩) 1 1, .int .i64 0, .string ⟨#[]⟩, .int .i64 0, .int .i64 7, .bool false, .string ⟨#[48]⟩, .string ⟨#[112, 97, 121]⟩, .slice (some ⟨w.heap.size, 0, none⟩) 1 1, .int .i64 1, .string ⟨#[]⟩, .int .i64 0, .int .i64 8, .bool false] 42)).alloc (.cells #[.string ⟨#[48]⟩, .string ⟨#[112, 97, 121]⟩, .slice (some ⟨w.heap.size, 0, none⟩) 1 1, .int .i64 1, .string ⟨#[]⟩, .int .i64 0, .int .i64 8, .bool false, .string ⟨#[48]⟩, .string ⟨#[109, 97, 105, 108]⟩, .slice none 0 0, .int .i64 0, .string ⟨#[]⟩, .int .i64 0, .int .i64 0, .bool false] 42) := ⟨_, rfl⟩
  have b1 : Below w8.heap.size w8 (w8.alloc (.cells #[.string ⟨#[48]⟩, .string ⟨#[112, 97, 121]⟩, .slice (some ⟨w.heap.size, 0, none⟩) 1 1, .int .i64 0, .string ⟨#[]⟩, .int .i64 0, .int .i64 7, .bool false] 42)) := (Below.refl _ _).alloc (Nat.le_refl _) _
  have b2 : Below w8.heap.size w8 ((w8.alloc (.cells #[.string ⟨#[48]⟩, .string ⟨#[112, 97, 121]⟩, .slice (some ⟨w.heap.size, 0, none⟩) 1 1, .int .i64 0, .string ⟨#[]⟩, .int .i64 0, .int .i64 7, .bool false] 42)).alloc (.cells #[.string ⟨#[48]⟩, .string ⟨#[112, 97, 121]⟩, .slice (some ⟨w.heap.size, 0, none⟩) 1 1, .int .i64 1, .string ⟨#[]⟩, .int .i64 0, .int .i64 8, .bool false] 42)) := b1.alloc b1.size _
  have b3 : Below w8.heap.size w8 (((w8.alloc (.cells #[.string ⟨#[48]⟩, .string ⟨#[112, 97, 121]⟩, .slice (some ⟨w.heap.size, 0, none⟩) 1 1, .int .i64 0, .string ⟨#[]⟩, .int .i64 0, .int .i64 7, .bool false] 42)).alloc (.cells #[.string ⟨#[48]⟩, .string ⟨#[112, 97, 121]⟩, .slice (some ⟨w.heap.size, 0, none⟩) 1 1, .int .i64 1, .string ⟨#[]⟩, .int .i64 0, .int .i64 8, .bool false] 42)).alloc (.cells #[.string ⟨#[48]⟩, .string ⟨#[112, 97, 121]⟩, .slice (some ⟨w.heap.size, 0, none⟩) 1 1, .int .i64 0, .string ⟨#[]⟩, .int .i64 0, .int .i64 7, .bool false, .string ⟨#[48]⟩, .string ⟨#[112, 97, 121]⟩, .slice (some ⟨w.heap.size, 0, none⟩) 1 1, .int .i64 1, .string ⟨#[]⟩, .int .i64 0, .int .i64 8, .bool false] 42)) := b2.alloc b2.size _
  have b4 : Below w8.heap.size w8 wr := by rw [hwr]; exact b3.alloc b3.size _
  have k2 := K8.out.below b2
  have k3 := K8.out.below b3
  have q3 : Rd (Lt (((w8.alloc (.cells #[.string ⟨#[48]⟩, .string ⟨#[112, 97, 121]⟩, .slice (some ⟨w.heap.size, 0, none⟩) 1 1, .int .i64 0, .string ⟨#[]⟩, .int .i64 0, .int .i64 7, .bool false] 42)).alloc (.cells #[.string ⟨#[48]⟩, .string ⟨#[112, 97, 121]⟩, .slice (some ⟨w.heap.size, 0, none⟩) 1 1, .int .i64 1, .string ⟨#[]⟩, .int .i64 0, .int .i64 8, .bool false] 42)).alloc (.cells #[.string ⟨#[48]⟩, .string ⟨#[112, 97, 121]⟩, .slice (some ⟨w.heap.size, 0, none⟩) 1 1, .int .i64 0, .string ⟨#[]⟩, .int .i64 0, .int .i64 7, .bool false, .string ⟨#[48]⟩, .string ⟨#[112, 97, 121]⟩, .slice (some ⟨w.heap.size, 0, none⟩) 1 1, .int .i64 1, .string ⟨#[]⟩, .int .i64 0, .int .i64 8, .bool false] 42)).heap.size) (((w8.alloc (.cells #[.string ⟨#[48]⟩, .string ⟨#[112, 97, 121]⟩, .slice (some ⟨w.heap.size, 0, none⟩) 1 1, .int .i64 0, .string ⟨#[]⟩, .int .i64 0, .int .i64 7, .bool false] 42)).alloc (.cells #[.string ⟨#[48]⟩, .string ⟨#[112, 97, 121]⟩, .slice (some ⟨w.heap.size, 0, none⟩) 1 1, .int .i64 1, .string ⟨#[]⟩, .int .i64 0, .int .i64 8, .bool false] 42)).alloc (.cells #[.string ⟨#[48]⟩, .string ⟨#[112, 97, 121]⟩, .slice (some ⟨w.heap.size, 0, none⟩) 1 1, .int .i64 0, .string ⟨#[]⟩, .int .i64 0, .int .i64 7, .bool false, .string ⟨#[48]⟩, .string ⟨#[112, 97, 121]⟩, .slice (some ⟨w.heap.size, 0, none⟩) 1 1, .int .i64 1, .string ⟨#[]⟩, .int .i64 0, .int .i64 8, .bool false] 42)) (slReq [reqR, reqQ]) (.slice (some ⟨w8.heap.size + 1 + 1, 0, none⟩) 2 2) := by
    have := reqs2 ((w8.alloc (.cells #[.string ⟨#[48]⟩, .string ⟨#[112, 97, 121]⟩, .slice (some ⟨w.heap.size, 0, none⟩) 1 1, .int .i64 0, .string ⟨#[]⟩, .int .i64 0, .int .i64 7, .bool false] 42)).alloc (.cells #[.string ⟨#[48]⟩, .string ⟨#[112, 97, 121]⟩, .slice (some ⟨w.heap.size, 0, none⟩) 1 1, .int .i64 1, .string ⟨#[]⟩, .int .i64 0, .int .i64 8, .bool false] 42)) reqR reqQ (some ⟨w.heap.size, 0, none⟩) (some ⟨w.heap.size, 0, none⟩) 1 1 #[.string ⟨#[48]⟩, .string ⟨#[112, 97, 121]⟩, .slice (some ⟨w.heap.size, 0, none⟩) 1 1, .int .i64 0, .string ⟨#[]⟩, .int .i64 0, .int .i64 7, .bool false, .string ⟨#[48]⟩, .string ⟨#[112, 97, 121]⟩, .slice (some ⟨w.heap.size, 0, none⟩) 1 1, .int .i64 1, .string ⟨#[]⟩, .int .i64 0, .int .i64 8, .bool false] k2.1 k2.1 rfl
    simpa using this
  have q4 : Rd (Lt wr.heap.size) wr (slReq [reqQ, reqM]) (.slice (some ⟨w8.heap.size + 1 + 1 + 1, 0, none⟩) 2 2) := by
    have := reqs2 (((w8.alloc (.cells #[.string ⟨#[48]⟩, .string ⟨#[112, 97, 121]⟩, .slice (some ⟨w.heap.size, 0, none⟩) 1 1, .int .i64 0, .string ⟨#[]⟩, .int .i64 0, .int .i64 7, .bool false] 42)).alloc (.cells #[.string ⟨#[48]⟩, .string ⟨#[112, 97, 121]⟩, .slice (some ⟨w.heap.size, 0, none⟩) 1 1, .int .i64 1, .string ⟨#[]⟩, .int .i64 0, .int .i64 8, .bool false] 42)).alloc (.cells #[.string ⟨#[48]⟩, .string ⟨#[112, 97, 121]⟩, .slice (some ⟨w.heap.size, 0, none⟩) 1 1, .int .i64 0, .string ⟨#[]⟩, .int .i64 0, .int .i64 7, .bool false, .string ⟨#[48]⟩, .string ⟨#[112, 97, 121]⟩, .slice (some ⟨w.heap.size, 0, none⟩) 1 1, .int .i64 1, .string ⟨#[]⟩, .int .i64 0, .int .i64 8, .bool false] 42)) reqQ reqM (some ⟨w.heap.size, 0, none⟩) none 1 0 #[.string ⟨#[48]⟩, .string ⟨#[112, 97, 121]⟩, .slice (some ⟨w.heap.size, 0, none⟩) 1 1, .int .i64 1, .string ⟨#[]⟩, .int .i64 0, .int .i64 8, .bool false, .string ⟨#[48]⟩, .string ⟨#[109, 97, 105, 108]⟩, .slice none 0 0, .int .i64 0, .string ⟨#[]⟩, .int .i64 0, .int .i64 0, .bool false] k3.1 Rd.sl_nil rfl
    rw [hwr]; simpa using this
  have q5 : Rd (Lt wr.heap.size) wr (slReq [reqR, reqQ]) (.slice (some ⟨w8.heap.size + 1 + 1, 0, none⟩) 2 2) := by rw [hwr]; exact q3.allocs _
  have hx1 : wr.heap[w8.heap.size]? = some (.cells #[.string ⟨#[48]⟩, .string ⟨#[112, 97, 121]⟩, .slice (some ⟨w.heap.size, 0, none⟩) 1 1, .int .i64 0, .string ⟨#[]⟩, .int .i64 0, .int .i64 7, .bool false] 42 (0, 0)) := by
    rw [hwr, Below.heap_alloc _ _ _ (by simp; omega), Below.heap_alloc _ _ _ (by simp; omega), Below.heap_alloc _ _ _ (by simp)]
    exact heap_alloc_new _ _
  have hx2 : wr.heap[w8.heap.size + 1]? = some (.cells #[.string ⟨#[48]⟩, .string ⟨#[112, 97, 121]⟩, .slice (some ⟨w.heap.size, 0, none⟩) 1 1, .int .i64 1, .string ⟨#[]⟩, .int .i64 0, .int .i64 8, .bool false] 42 (0, 0)) := by
    rw [hwr, Below.heap_alloc _ _ _ (by simp), Below.heap_alloc _ _ _ (by simp)]
    have := heap_alloc_new (w8.alloc (.cells #[.string ⟨#[48]⟩, .string ⟨#[112, 97, 121]⟩, .slice (some ⟨w.heap.size, 0, none⟩) 1 1, .int .i64 0, .string ⟨#[]⟩, .int .i64 0, .int .i64 7, .bool false] 42)) (.cells #[.string ⟨#[48]⟩, .string ⟨#[112, 97, 121]⟩, .slice (some ⟨w.heap.size, 0, none⟩) 1 1, .int .i64 1, .string ⟨#[]⟩, .int .i64 0, .int .i64 8, .bool false] 42)
    rwa [World.size_alloc] at this
  have K9 := Lib.hid (K8.out.below b4)
  have A9 := Lib.hid (A8.out.below b4)
  have B9 := Lib.hid (B8.out.below b4)
  have C9 := Lib.hid (C8.out.below b4)
  have HD := Lib.hid (diff_any kf0 [reqR, reqQ] [reqQ, reqM] (some ⟨w8.heap.size + 1 + 1, 0, none⟩) 2 2 (some ⟨w8.heap.size + 1 + 1 + 1, 0, none⟩) 2 2 wr (by decide) (by decide) (fun r hr => by simp at hr; rcases hr with rfl | rfl; exact keyOkR; exact keyOkQ) (fun r hr => by simp at hr; rcases hr with rfl | rfl; exact keyOkQ; exact keyOkM) (compat_keyS F0) q5 q4 K9.out.2.1)
  have HX := Lib.hid (And.intro hx1 hx2)
  have HWR := Lib.hid hwr
  rw [hwr] at HD
  clear b1 b2 b3 b4 k2 k3 q3 q4 q5 hx1 hx2 hwr
  go_wp2_with fail
  (with_reducible refine HD.out.mono ?_)
  rw [← HWR.out]
  rintro _ wz ⟨vu, vd, rfl, hou, hod, hbz⟩
  rw [only1] at hou
  rw [only2] at hod
  obtain ⟨gu, cu, rfl, hgu, _⟩ := own_some (n := 0) hou
  obtain ⟨gd, cd, rfl, hgd, _⟩ := own_some (n := 0) hod
  simp only [Nat.zero_add] at hou hod
  have Kz := Lib.hid (K9.out.below hbz)
  have Az := Lib.hid (A9.out.below hbz)
  have Bz := Lib.hid (B9.out.below hbz)
  have Cz := Lib.hid (C9.out.below hbz)
  have Uz : Hid (OwnO w.heap.size (effS kf0 [reqR]) 1 wz (.slice (some ⟨gu, 0, none⟩) 1 cu)) := Lib.hid (Owned.lower hou K9.out.2.2.1.size)
  have Dz : Hid (OwnO w.heap.size (effS kf0 [reqM]) 1 wz (.slice (some ⟨gd, 0, none⟩) 1 cd)) := Lib.hid (Owned.lower hod K9.out.2.2.1.size)
  have hx1 := (hbz.block w8.heap.size (Array.getElem?_eq_some_iff.1 HX.out.1).1).trans HX.out.1
  have hx2 := (hbz.block (w8.heap.size + 1) (Array.getElem?_eq_some_iff.1 HX.out.2).1).trans HX.out.2
  have HXz := Lib.hid (And.intro hx1 hx2)
  clear hou hod hbz hgu hgd hx1 hx2 HX HWR HD
  obtain ⟨Aa, xa, a0, a1, a2, a3, a4, _⟩ := own_cells Az.out (i := 0) (by omega) rfl
  obtain ⟨Ab, xb, b0, b1, b2, b3, b4, RB0⟩ := own_cells Bz.out (i := 0) (by omega) rfl
  obtain ⟨Ae, xe, e0, e1, e2, e3, e4, RC0⟩ := own_cells Bz.out (i := 1) (by omega) rfl
  obtain ⟨Ac, xc, c0, c1, c2, c3, c4, _⟩ := own_cells Cz.out (i := 0) (by omega) rfl
  obtain ⟨Au, xu, u0, u1, u2, u3, u4, _⟩ := own_cells Uz.out (i := 0) (by omega) rfl
  obtain ⟨Ad, xd, d0, d1, d2, d3, d4, _⟩ := own_cells Dz.out (i := 0) (by omega) rfl
  simp only [oA, oB, oC, effR, reqM, Nat.zero_mul, Nat.zero_add, Nat.one_mul, List.length_nil, List.length_cons] at a0 a1 a2 a3 a4 b0 b1 b2 b3 b4 c0 c1 c2 c3 c4 d0 d1 d2 d3 d4 e0 e1 e2 e3 e4
  have u0' : wz.cell? ⟨gu, 0, none⟩ = some (.string (kf0 reqR)) := by simpa [effR, effS] using u0
  have u4' : wz.cell? ⟨gu, 4, none⟩ = some (.int .i64 7) := by simpa [effR, effS, reqR] using u4
  have d1' : wz.cell? ⟨gd, 1, none⟩ = some (.string ⟨#[109, 97, 105, 108]⟩) := by simpa [effR, effS, reqM] using d1
  clear u0 u1 u2 u3 u4 d0 d1 d2 d3 d4
  have SZ : Hid (SC gu gd gb w8.heap.size Ab Ae xb xe w.heap.size wz) := Lib.hid ⟨u0', u4', d1', b0, b1, b2, b3, b4, e0, e1, e2, e3, e4, (Lib.cell_of_heap HXz.out.1 0).trans rfl, (Lib.cell_of_heap HXz.out.1 1).trans rfl, (Lib.cell_of_heap HXz.out.1 2).trans rfl, (Lib.cell_of_heap HXz.out.1 3).trans rfl, (Lib.cell_of_heap HXz.out.1 4).trans rfl, (Lib.cell_of_heap HXz.out.1 5).trans rfl, (Lib.cell_of_heap HXz.out.1 6).trans rfl, (Lib.cell_of_heap HXz.out.1 7).trans rfl, (Lib.cell_of_heap HXz.out.2 0).trans rfl, (Lib.cell_of_heap HXz.out.2 1).trans rfl, (Lib.cell_of_heap HXz.out.2 2).trans rfl, (Lib.cell_of_heap HXz.out.2 3).trans rfl, (Lib.cell_of_heap HXz.out.2 4).trans rfl, (Lib.cell_of_heap HXz.out.2 5).trans rfl, (Lib.cell_of_heap HXz.out.2 6).trans rfl, (Lib.cell_of_heap HXz.out.2 7).trans rfl⟩
  have KD : Hid (Kn w wz.drew) := Lib.hid (Kz.out.below (Below.refl _ _).drew)
  have SD : Hid (SC gu gd gb w8.heap.size Ab Ae xb xe w.heap.size wz.drew) := Lib.hid (SZ.out.below (Below.refl _ _).drew)
  have AD : Hid (OwnO w.heap.size [oA] 1 wz.drew (.slice (some ⟨ga, 0, none⟩) 1 ca)) := Lib.hid (Az.out.below (Below.refl _ _).drew)
  have BD : Hid (OwnO w.heap.size [oB, oC] 2 wz.drew (.slice (some ⟨gb, 0, none⟩) 2 cb)) := Lib.hid (Bz.out.below (Below.refl _ _).drew)
  have HKR : Hid (∀ W, Kn w W → Calls Tryd.prog 20 #[.agg #[.string ⟨#[48]⟩, .string ⟨#[112, 97, 121]⟩, .slice (some ⟨w.heap.size, 0, none⟩) 1 1, .int .i64 0, .string ⟨#[]⟩, .int .i64 0, .int .i64 7, .bool false]] W fun e w' => e = .returned (.string (kf0 reqR)) ∧ Below W.heap.size W w') := Lib.hid (fun W hk => netkey_of keyOkR W (some ⟨w.heap.size, 0, none⟩) 1 hk.1 hk.2.1)
  have HKQ : Hid (∀ W, Kn w W → Calls Tryd.prog 20 #[.agg #[.string ⟨#[48]⟩, .string ⟨#[112, 97, 121]⟩, .slice (some ⟨w.heap.size, 0, none⟩) 1 1, .int .i64 1, .string ⟨#[]⟩, .int .i64 0, .int .i64 8, .bool false]] W fun e w' => e = .returned (.string (kf0 reqQ)) ∧ Below W.heap.size W w') := Lib.hid (fun W hk => netkey_of keyOkQ W (some ⟨w.heap.size, 0, none⟩) 1 hk.1 hk.2.1)
  have HS1 : Hid (∀ W g, OwnO w.heap.size [oB, oC] 2 W (.slice (some ⟨gb, 0, none⟩) 2 cb) → Rd (Lt W.heap.size) W (slOut [oC, oB]) (.slice (some ⟨g, 0, none⟩) 2 2) → Calls Tryd.prog 22 #[.slice (some ⟨gb, 0, none⟩) 2 cb, .slice (some ⟨g, 0, none⟩) 2 2] W fun e w' => e = .returned (.bool true) ∧ Below W.heap.size W w') := Lib.hid (fun W g h1 h2 => (netsame_any [oB, oC] [oC, oB] _ 2 cb _ 2 2 W (by decide) (by decide) h1.rd h2).mono (fun e w' h => ⟨by rw [h.1, sm1], h.2⟩))
  have HS2 : Hid (∀ W, OwnO w.heap.size [oA] 1 W (.slice (some ⟨ga, 0, none⟩) 1 ca) → OwnO w.heap.size [oB, oC] 2 W (.slice (some ⟨gb, 0, none⟩) 2 cb) → Calls Tryd.prog 22 #[.slice (some ⟨ga, 0, none⟩) 1 ca, .slice (some ⟨gb, 0, none⟩) 2 cb] W fun e w' => e = .returned (.bool false) ∧ Below W.heap.size W w') := Lib.hid (fun W h1 h2 => (netsame_any [oA] [oB, oC] _ 1 ca _ 2 cb W (by decide) (by decide) h1.rd h2.rd).mono (fun e w' h => ⟨by rw [h.1, sm2], h.2⟩))
  have RDB : Hid (Rd (Lt wz.drew.heap.size) wz.drew (vs []) (.slice Ab 0 xb)) := Lib.hid RB0.drew
  have RDC : Hid (Rd (Lt wz.drew.heap.size) wz.drew (vs []) (.slice Ae 0 xe)) := Lib.hid RC0.drew
  clear RB0 RC0
  have hkne := key_ne
  have hkn2 : ((kf0 reqR).toList != (kf0 reqQ).toList) = true := by simp [bne, hkne]
  have hgb0 : (0 : Int) < 2 := by omega
  go_wp2_with fail
  go_region_held3 (fun w' => w'.cell? ⟨gu, 0, none⟩ = some (.string (kf0 reqR)) ∧ w'.cell? ⟨gu, 4, none⟩ = some (.int .i64 7) ∧ w'.cell? ⟨gd, 1, none⟩ = some (.string ⟨#[109, 97, 105, 108]⟩) ∧ w'.cell? ⟨gb, 0, none⟩ = some (.string ⟨#[98]⟩) ∧ w'.cell? ⟨gb, 1, none⟩ = some (.string ⟨#[112, 97, 121]⟩) ∧ w'.cell? ⟨gb, 2, none⟩ = some (.slice Ab 0 xb) ∧ w'.cell? ⟨gb, 3, none⟩ = some (.bool false) ∧ w'.cell? ⟨gb, 4, none⟩ = some (.int .i64 0) ∧ w'.cell? ⟨gb, 5, none⟩ = some (.string ⟨#[99]⟩) ∧ w'.cell? ⟨gb, 6, none⟩ = some (.string ⟨#[109, 97, 105, 108]⟩) ∧ w'.cell? ⟨gb, 7, none⟩ = some (.slice Ae 0 xe) ∧ w'.cell? ⟨gb, 8, none⟩ = some (.bool true) ∧ w'.cell? ⟨gb, 9, none⟩ = some (.int .i64 0) ∧ w'.cell? ⟨w8.heap.size, 0, none⟩ = some (.string ⟨#[48]⟩) ∧ w'.cell? ⟨w8.heap.size, 1, none⟩ = some (.string ⟨#[112, 97, 121]⟩) ∧ w'.cell? ⟨w8.heap.size, 2, none⟩ = some (.slice (some ⟨w.heap.size, 0, none⟩) 1 1) ∧ w'.cell? ⟨w8.heap.size, 3, none⟩ = some (.int .i64 0) ∧ w'.cell? ⟨w8.heap.size, 4, none⟩ = some (.string ⟨#[]⟩) ∧ w'.cell? ⟨w8.heap.size, 5, none⟩ = some (.int .i64 0) ∧ w'.cell? ⟨w8.heap.size, 6, none⟩ = some (.int .i64 7) ∧ w'.cell? ⟨w8.heap.size, 7, none⟩ = some (.bool false) ∧ w'.cell? ⟨w8.heap.size + 1, 0, none⟩ = some (.string ⟨#[48]⟩) ∧ w'.cell? ⟨w8.heap.size + 1, 1, none⟩ = some (.string ⟨#[112, 97, 121]⟩) ∧ w'.cell? ⟨w8.heap.size + 1, 2, none⟩ = some (.slice (some ⟨w.heap.size, 0, none⟩) 1 1) ∧ w'.cell? ⟨w8.heap.size + 1, 3, none⟩ = some (.int .i64 1) ∧ w'.cell? ⟨w8.heap.size + 1, 4, none⟩ = some (.string ⟨#[]⟩) ∧ w'.cell? ⟨w8.heap.size + 1, 5, none⟩ = some (.int .i64 0) ∧ w'.cell? ⟨w8.heap.size + 1, 6, none⟩ = some (.int .i64 8) ∧ w'.cell? ⟨w8.heap.size + 1, 7, none⟩ = some (.bool false))
    (first | exact SD.out | exact S4.out | exact S5.out | exact S6.out | exact S7.out | exact S8.out | exact S9.out | exact SZ.out | go_keep)
    (first
      | (go_at_call 20; (with_reducible refine (HKR.out wz.drew KD.out).mono ?_); rintro _ w14 ⟨rfl, hb14⟩; have K4 := Lib.hid (KD.out.below hb14); have S4 := Lib.hid (SD.out.below hb14); have A4 := Lib.hid (AD.out.below hb14); have B4 := Lib.hid (BD.out.below hb14); have bx4 : Below w14.heap.size w14 (w14.alloc (.cells #[.string ⟨#[99]⟩, .string ⟨#[109, 97, 105, 108]⟩, .slice Ae 0 xe, .bool true, .int .i64 0, .string ⟨#[98]⟩, .string ⟨#[112, 97, 121]⟩, .slice Ab 0 xb, .bool false, .int .i64 0] 45)) := (Below.refl _ _).alloc (Nat.le_refl _) _; have R4C := Lib.hid (RDC.out.belows hb14); have R4B := Lib.hid (RDB.out.belows hb14); have S5 := Lib.hid (S4.out.below bx4); have O5 := Lib.hid (outs2 w14 Ae Ab xe xb (R4C.out) (R4B.out)); clear hb14)
      | (go_at_call 22; (with_reducible refine (HS1.out _ w14.heap.size (B4.out.below bx4) O5.out).mono ?_); rintro _ w16 ⟨rfl, hb16⟩; have K6 := Lib.hid ((K4.out.below bx4).below hb16); have S6 := Lib.hid (S5.out.below hb16); have A6 := Lib.hid ((A4.out.below bx4).below hb16); have B6 := Lib.hid ((B4.out.below bx4).below hb16); clear hb16)
      | (go_at_call 22; (with_reducible refine (HS2.out w16 A6.out B6.out).mono ?_); rintro _ w17 ⟨rfl, hb17⟩; have K7 := Lib.hid (K6.out.below hb17); have S7 := Lib.hid (S6.out.below hb17); clear hb17)
      | (go_at_call 20; (with_reducible refine (HKR.out w17 K7.out).mono ?_); rintro _ w18 ⟨rfl, hb18⟩; have K8 := Lib.hid (K7.out.below hb18); have S8 := Lib.hid (S7.out.below hb18); clear hb18)
      | (go_at_call 20; (with_reducible refine (HKQ.out w18 K8.out).mono ?_); rintro _ w19 ⟨rfl, hb19⟩; have K9 := Lib.hid (K8.out.below hb19); have S9 := Lib.hid (S8.out.below hb19); clear hb19))
  all_goals (
    go_wp2_with fail
    go_ret
    exact ⟨rfl, K9.out.2.2.1⟩)
end Go.Proofs.YtlnfdpdancolmaaDoor
