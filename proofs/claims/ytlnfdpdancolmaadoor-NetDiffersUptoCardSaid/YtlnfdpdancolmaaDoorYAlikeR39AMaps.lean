/- match.fits, match.Alike, match.find. Conditions: those in each statement. ref39.Alike comes to what match.Alike comes to. Conditions: those in each statement. Maps with string keys that a call makes itself: what look-up and store do, exactly. No program here. -/
import Derived.Test.YtlnfdpdancolmaaDoorYCloneSame
import Derived.Test.YtlnfdpdancolmaaDoorYCloneOutFindNum
import Derived.Test.YtlnfdpdancolmaaDoorYEnc
import Derived.Test.YtlnfdpdancolmaaDoorYRefSameEach
import Derived.Test.YtlnfdpdancolmaaDoorYMem
import Derived.MapKept
import Derived.Carry
namespace Go.Proofs.YtlnfdpdancolmaaDoor
open Go.RowKit

/-- equal in path, name, number and arguments -/
def alikeB (a b : Req) : Bool := (a.ord == b.ord) && ((a.path.toList == b.path.toList) && ((a.name.toList == b.name.toList) && eqVs a.args b.args))
theorem alikeB_iff (a b : Req) : alikeB a b = true ↔ a.ord = b.ord ∧ a.path = b.path ∧ a.name = b.name ∧ a.args = b.args := by
  unfold alikeB
  simp only [Bool.and_eq_true, beq_iff_eq, eqVs_iff]
  constructor
  · rintro ⟨h1, h2, h3, h4⟩; exact ⟨h1, bytes_ext h2, bytes_ext h3, h4⟩
  · rintro ⟨h1, h2, h3, h4⟩; exact ⟨h1, by rw [h2], by rw [h3], h4⟩

set_option maxHeartbeats 2000000 in
theorem fits_any (r : Req) (A : Option Addr) (c : Nat) (path name : ByteArray) (args : List V) (A' : Option Addr) (n' c' : Nat) (w : World) (hb : bulkV r.args ≤ 2097152) (hb' : bulkV args ≤ 2097152)
    (hr : Rd (Lt w.heap.size) w (vs r.args) (.slice A r.args.length c)) (hr' : Rd (Lt w.heap.size) w (vs args) (.slice A' n' c')) :
    Calls Tryd.prog 92 #[.agg #[.string r.path, .string r.name, .slice A r.args.length c, .int .i64 r.ord, .string r.reply, .int .i64 r.sent, .int .i64 r.tick, .bool r.isopen], .string path, .string name, .slice A' n' c'] w
      fun e w' => e = .returned (.bool ((r.path.toList == path.toList) && ((r.name.toList == name.toList) && eqVs r.args args))) ∧ Below w.heap.size w w' := by
  have HS := sameOk hb
  unfold SameOk at HS
  have HC := Lib.hid (HS args A A' r.args.length n' c c')
  have HR := Lib.hid hr
  have HR' := Lib.hid hr'
  clear hr hr' HS
  generalize hR : ((r.path.toList == path.toList) && ((r.name.toList == name.toList) && eqVs r.args args)) = R
  have HU := Lib.hid hR
  clear hR
  cases h1 : (r.path.toList == path.toList) with
  | false =>
    rw [h1] at HU
    go_enter Tryd.func92, Tryd.ntmps92
    go_wp2_with fail
    go_ret
    exact ⟨by rw [← HU.out]; rfl, (Below.refl _ _).alloc (Nat.le_refl _) _⟩
  | true =>
    rw [h1] at HU
    cases h2 : (r.name.toList == name.toList) with
    | false =>
      rw [h2] at HU
      go_enter Tryd.func92, Tryd.ntmps92
      go_wp2_with fail
      go_ret
      exact ⟨by rw [← HU.out]; rfl, (Below.refl _ _).alloc (Nat.le_refl _) _⟩
    | true =>
      rw [h2] at HU
      go_enter Tryd.func92, Tryd.ntmps92
      go_wp2_with fail
      (with_reducible refine (HC.out _ hb' ?_ ?_).mono ?_)
      · exact HR.out.allocs _
      · exact HR'.out.allocs _
      rintro e w1 ⟨rfl, hb1⟩
      have HB1 := Lib.hid hb1
      clear hb1
      go_wp2_with fail
      go_ret
      exact ⟨by rw [← HU.out]; simp, ((Below.refl _ _).alloc (Nat.le_refl _) _).trans (HB1.out.mono (by simp))⟩

set_option maxHeartbeats 2000000 in
theorem alike_any (r q : Req) (A : Option Addr) (c : Nat) (A' : Option Addr) (c' : Nat) (w : World) (hb : bulkV r.args ≤ 2097152) (hb' : bulkV q.args ≤ 2097152)
    (hr : Rd (Lt w.heap.size) w (vs r.args) (.slice A r.args.length c)) (hr' : Rd (Lt w.heap.size) w (vs q.args) (.slice A' q.args.length c')) :
    Calls Tryd.prog 82 #[.agg #[.string r.path, .string r.name, .slice A r.args.length c, .int .i64 r.ord, .string r.reply, .int .i64 r.sent, .int .i64 r.tick, .bool r.isopen], .agg #[.string q.path, .string q.name, .slice A' q.args.length c', .int .i64 q.ord, .string q.reply, .int .i64 q.sent, .int .i64 q.tick, .bool q.isopen]] w
      fun e w' => e = .returned (.bool (alikeB r q)) ∧ Below w.heap.size w w' := by
  have HR := Lib.hid hr
  have HR' := Lib.hid hr'
  clear hr hr'
  have HU : Hid (alikeB r q = ((r.ord == q.ord) && ((r.path.toList == q.path.toList) && ((r.name.toList == q.name.toList) && eqVs r.args q.args)))) := Lib.hid rfl
  generalize alikeB r q = R at *
  cases h1 : (r.ord == q.ord) with
  | false =>
    rw [h1] at HU
    go_enter Tryd.func82, Tryd.ntmps82
    go_wp2_with fail
    go_ret
    exact ⟨by rw [HU.out]; rfl, ((Below.refl _ _).alloc (Nat.le_refl _) _).alloc (by simp) _⟩
  | true =>
    rw [h1] at HU
    go_enter Tryd.func82, Tryd.ntmps82
    go_wp2_with fail
    (with_reducible refine (fits_any r A c q.path q.name q.args A' _ c' _ hb hb' ?_ ?_).mono ?_)
    · exact (HR.out.allocs _).allocs _
    · exact (HR'.out.allocs _).allocs _
    rintro e w1 ⟨rfl, hb1⟩
    have HB1 := Lib.hid hb1
    clear hb1
    generalize hX : ((r.path.toList == q.path.toList) && ((r.name.toList == q.name.toList) && eqVs r.args q.args)) = X at *
    go_wp2_with fail
    go_ret
    exact ⟨by rw [HU.out]; simp, (((Below.refl _ _).alloc (Nat.le_refl _) _).alloc (by simp) _).trans (HB1.out.mono (by simp; omega))⟩

/-- a class of requests as it lies in memory: the first one, and the slice of those that are free -/
structure Cl where
  first : Req
  A : Option Addr
  c : Nat
  fb : Nat
  fo : Nat
  fl : Nat
  fc : Nat
def Cl.fv (x : Cl) : Value := .slice (some ⟨x.fb, x.fo, none⟩) x.fl x.fc
def Cl.cells (x : Cl) : List Value := [.string x.first.path, .string x.first.name, .slice x.A x.first.args.length x.c, .int .i64 x.first.ord, .string x.first.reply, .int .i64 x.first.sent, .int .i64 x.first.tick, .bool x.first.isopen, x.fv]
theorem flat_get {α : Type} (f : α → List Value) (k : Nat) (hf : ∀ x, (f x).length = k) : ∀ (l : List α) (i : Nat) (x : α) (j : Nat), l[i]? = some x → j < k → (l.flatMap f)[i * k + j]? = (f x)[j]?
  | [], i, x, j, h, _ => by simp at h
  | y :: r, 0, x, j, h, hj => by
    simp at h; subst h
    rw [List.flatMap_cons, Nat.zero_mul, Nat.zero_add, List.getElem?_append_left (by rw [hf]; exact hj)]
  | y :: r, i + 1, x, j, h, hj => by
    have := flat_get f k hf r i x j (by simpa using h) hj
    rw [List.flatMap_cons, List.getElem?_append_right (by rw [hf, Nat.add_mul, Nat.one_mul]; omega), hf, ← this]
    congr 1
    rw [Nat.add_mul, Nat.one_mul]; omega
theorem flat_len {α : Type} (f : α → List Value) (k : Nat) (hf : ∀ x, (f x).length = k) : ∀ l : List α, (l.flatMap f).length = l.length * k
  | [] => by simp
  | y :: r => by rw [List.flatMap_cons, List.length_append, flat_len f k hf r, hf, List.length_cons, Nat.add_mul, Nat.one_mul]; omega
theorem Cl.cells_len (x : Cl) : x.cells.length = 9 := rfl

def ClsPost (cls : List Cl) (r : Req) (w : World) (e : Ending) (w' : World) : Prop := e = .returned (.int .i64 (idx (fun x : Cl => alikeB x.first r) cls)) ∧ Below w.heap.size w w'

set_option maxHeartbeats 2000000 in
theorem cfind_any (B : Nat) (cls : List Cl) (r : Req) (A : Option Addr) (n c : Nat) (A' : Option Addr) (c' : Nat) (w : World) (hn : cls.length ≤ 2097152) (hb' : bulkV r.args ≤ 2097152) (hown : w.ownsRow B 97 9 (.slice A n c) cls.length (cls.flatMap Cl.cells))
    (hcl : ∀ x ∈ cls, bulkV x.first.args ≤ 2097152 ∧ Rd (Lt w.heap.size) w (vs x.first.args) (.slice x.A x.first.args.length x.c)) (hr : Rd (Lt w.heap.size) w (vs r.args) (.slice A' r.args.length c')) :
    Calls Tryd.prog 70 #[.slice A n c, .agg #[.string r.path, .string r.name, .slice A' r.args.length c', .int .i64 r.ord, .string r.reply, .int .i64 r.sent, .int .i64 r.tick, .bool r.isopen]] w (ClsPost cls r w) := by
  have hnl : n = cls.length := by
    rcases hown.2 with ⟨h1, h2⟩ | ⟨g, cap, cur, h1, _⟩
    · injection h1 with _ h1 _; omega
    · injection h1
  subst hnl
  have HO := Lib.hid hown
  have HC := Lib.hid hcl
  have HR := Lib.hid hr
  clear hown hcl hr
  go_enter Tryd.func70, Tryd.ntmps70
  go_wp2_with fail
  go_loopw [9] (fun s9 wr => ∃ i : Nat, i ≤ cls.length ∧ s9 = .int .i64 i ∧ Hid (∀ (j : Nat) (x : Cl), j < i → cls[j]? = some x → alikeB x.first r = false) ∧ Hid (Below (w.heap.size + 1) (w.alloc (.cells #[.string r.path, .string r.name, .slice A' r.args.length c', .int .i64 r.ord, .string r.reply, .int .i64 r.sent, .int .i64 r.tick, .bool r.isopen] 42)) wr)) (fun s9 _ => cls.length - (intOf s9).toNat)
  case atStart => exact ⟨0, by omega, rfl, Lib.hid (fun j _ hj => absurd hj (by omega)), Lib.hid (Below.refl _ _)⟩
  case round =>
    obtain ⟨i, hi, rfl, HA, HB⟩ := hrel
    have hbw : Below w.heap.size w wr := ((Below.refl w.heap.size w).alloc (Nat.le_refl _) _).trans (HB.out.mono (by omega))
    by_cases hlt : i < cls.length
    · have hx : cls[i]? = some cls[i] := List.getElem?_eq_getElem hlt
      generalize cls[i] = x at hx
      obtain ⟨hxb, hxr⟩ := HC.out x (List.mem_of_getElem? hx)
      have hO2 := own_below HO.out hbw
      rcases hO2.2 with ⟨_, h0⟩ | ⟨g, cap, cur, hv, hBg, hcur, _⟩
      · omega
      injection hv with hv1 _ hv3
      subst hv1 hv3
      have hcell : ∀ (j : Nat) (u : Value), x.cells[j]? = some u → j < 9 → wr.cell? ⟨g, i * 9 + j, none⟩ = some u := fun j u hu hj => by
        have := hO2.cells (g := g) rfl (i * 9 + j) u ((flat_get Cl.cells 9 Cl.cells_len cls i x j hx hj).trans hu)
        rwa [Addr.add_lit, Nat.zero_add] at this
      have p0 := hcell 0 _ rfl (by omega)
      have p1 := hcell 1 _ rfl (by omega)
      have p2 := hcell 2 _ rfl (by omega)
      have p3 := hcell 3 _ rfl (by omega)
      have p4 := hcell 4 _ rfl (by omega)
      have p5 := hcell 5 _ rfl (by omega)
      have p6 := hcell 6 _ rfl (by omega)
      have p7 := hcell 7 _ rfl (by omega)
      have p8 : wr.cell? ⟨g, i * 9 + 8, none⟩ = some (.slice (some ⟨x.fb, x.fo, none⟩) x.fl x.fc) := hcell 8 _ rfl (by omega)
      rw [Nat.add_zero] at p0
      have hbx : wr.heap[w.heap.size]? = some (.cells #[.string r.path, .string r.name, .slice A' r.args.length c', .int .i64 r.ord, .string r.reply, .int .i64 r.sent, .int .i64 r.tick, .bool r.isopen] 42 (0, 0)) := (HB.out.block w.heap.size (by omega)).trans (heap_alloc_new w _)
      have q0 : wr.cell? ⟨w.heap.size, 0, none⟩ = some (.string r.path) := by rw [Lib.cell_of_heap hbx]; rfl
      have q1 : wr.cell? ⟨w.heap.size, 1, none⟩ = some (.string r.name) := by rw [Lib.cell_of_heap hbx]; rfl
      have q2 : wr.cell? ⟨w.heap.size, 2, none⟩ = some (.slice A' r.args.length c') := by rw [Lib.cell_of_heap hbx]; rfl
      have q3 : wr.cell? ⟨w.heap.size, 3, none⟩ = some (.int .i64 r.ord) := by rw [Lib.cell_of_heap hbx]; rfl
      have q4 : wr.cell? ⟨w.heap.size, 4, none⟩ = some (.string r.reply) := by rw [Lib.cell_of_heap hbx]; rfl
      have q5 : wr.cell? ⟨w.heap.size, 5, none⟩ = some (.int .i64 r.sent) := by rw [Lib.cell_of_heap hbx]; rfl
      have q6 : wr.cell? ⟨w.heap.size, 6, none⟩ = some (.int .i64 r.tick) := by rw [Lib.cell_of_heap hbx]; rfl
      have q7 : wr.cell? ⟨w.heap.size, 7, none⟩ = some (.bool r.isopen) := by rw [Lib.cell_of_heap hbx]; rfl
      have hws : w.heap.size < wr.heap.size := (Array.getElem?_eq_some_iff.1 hbx).1
      have hgs : g < wr.heap.size := (Array.getElem?_eq_some_iff.1 hcur).1
      have HK := Lib.hid (fun W => alike_any x.first r x.A x.c A' c' W hxb hb')
      have R1 := Lib.hid (hxr.belows hbw)
      have R2 := Lib.hid (HR.out.belows hbw)
      have HX := Lib.hid hx
      have HBW := Lib.hid hbw
      have hin : (i : Int) < cls.length := by omega
      clear hbx hx hcell hO2 hcur hxr hbw
      cases hq : alikeB x.first r with
      | true =>
        have HE := Lib.hid (idx_yes (p := fun x : Cl => alikeB x.first r) (fun j y hj hy => HA.out j y hj hy) HX.out hq)
        rw [hq] at HK
        clear hq
        go_wp2_with fail
        (with_reducible refine (HK.out _ ?_ ?_).mono ?_)
        · exact R1.out.allocs _
        · exact R2.out.allocs _
        rintro e w1 ⟨rfl, hb1⟩
        have HB1 := Lib.hid hb1
        clear hb1
        go_wp2_with fail
        go_ret
        refine ⟨?_, HBW.out.trans ((((Below.refl wr.heap.size wr).alloc (Nat.le_refl _) _).trans (HB1.out.mono (by simp))).mono HBW.out.size)⟩
        rw [HE.out]; rfl
      | false =>
        have HA2 : Hid (∀ (j : Nat) (y : Cl), j < i + 1 → cls[j]? = some y → alikeB y.first r = false) := Lib.hid (fun j y hj hy => by
          rcases Nat.lt_or_ge j i with h | h
          · exact HA.out j y h hy
          · obtain rfl : j = i := by omega
            rw [HX.out] at hy; rw [← Option.some.inj hy]; exact hq)
        rw [hq] at HK
        clear hq
        go_wp2_with fail
        (with_reducible refine (HK.out _ ?_ ?_).mono ?_)
        · exact R1.out.allocs _
        · exact R2.out.allocs _
        rintro e w1 ⟨rfl, hb1⟩
        have HB1 := Lib.hid (HB.out.trans ((((Below.refl wr.heap.size wr).alloc (Nat.le_refl _) _).trans (hb1.mono (by simp))).mono hws))
        clear hb1
        go_wp2_with fail
        exact ⟨⟨i + 1, by omega, by go_num, HA2, HB1⟩, by simp [intOf]; omega⟩
    · have HE := Lib.hid (idx_no (p := fun x : Cl => alikeB x.first r) (l := cls) (fun j y hy => HA.out j y (by have := (List.getElem?_eq_some_iff.1 hy).1; omega) hy))
      have HBW := Lib.hid hbw
      clear hbw
      go_wp2_with fail
      go_ret
      exact ⟨by rw [HE.out]; rfl, HBW.out⟩
end Go.Proofs.YtlnfdpdancolmaaDoor
namespace Go.Proofs.YtlnfdpdancolmaaDoor
open Go.RowKit

set_option maxHeartbeats 4000000 in
theorem ralike_any (x y : Req) (A A' : Option Addr) (c c' : Nat) (w : World) (hb : bulkV x.args ≤ 2097152) (hb' : bulkV y.args ≤ 2097152) (hr : Rd (Lt w.heap.size) w (vs x.args) (.slice A x.args.length c)) (hr' : Rd (Lt w.heap.size) w (vs y.args) (.slice A' y.args.length c')) :
    Calls Tryd.prog 71 #[.agg #[.string x.path, .string x.name, .slice A x.args.length c, .int .i64 x.ord, .string x.reply, .int .i64 x.sent, .int .i64 x.tick, .bool x.isopen], .agg #[.string y.path, .string y.name, .slice A' y.args.length c', .int .i64 y.ord, .string y.reply, .int .i64 y.sent, .int .i64 y.tick, .bool y.isopen]] w fun e w' => e = .returned (.bool (alikeB x y)) ∧ Below w.heap.size w w' := by
  have HR := Lib.hid hr
  have HR' := Lib.hid hr'
  have HS := Lib.hid (rsameOk hb)
  unfold RSameOk at HS
  clear hr hr'
  have HU : Hid (alikeB x y = ((x.path.toList == y.path.toList) && ((x.name.toList == y.name.toList) && ((x.ord == y.ord) && eqVs x.args y.args)))) := Lib.hid (by
    unfold alikeB
    cases (x.ord == y.ord) <;> cases (x.path.toList == y.path.toList) <;> cases (x.name.toList == y.name.toList) <;> rfl)
  generalize alikeB x y = R at *
  have fin : ∀ x y : Obj, Below w.heap.size w ((w.alloc x).alloc y) := fun x y => ((Below.refl _ _).alloc (Nat.le_refl _) _).alloc (by simp) _
  have FIN := Lib.hid fin
  clear fin
  cases h1 : (x.path.toList == y.path.toList) with
  | false =>
    rw [h1] at HU
    go_enter Tryd.func71, Tryd.ntmps71
    go_wp2_with fail
    go_ret
    exact ⟨by rw [HU.out]; rfl, FIN.out _ _⟩
  | true =>
    rw [h1] at HU
    cases h2 : (x.name.toList == y.name.toList) with
    | false =>
      rw [h2] at HU
      go_enter Tryd.func71, Tryd.ntmps71
      go_wp2_with fail
      go_ret
      exact ⟨by rw [HU.out]; rfl, FIN.out _ _⟩
    | true =>
      rw [h2] at HU
      cases h3 : (x.ord == y.ord) with
      | false =>
        rw [h3] at HU
        go_enter Tryd.func71, Tryd.ntmps71
        go_wp2_with fail
        go_ret
        exact ⟨by rw [HU.out]; rfl, FIN.out _ _⟩
      | true =>
        rw [h3] at HU
        have HC := Lib.hid (HS.out y.args A A' x.args.length y.args.length c c')
        clear HS
        go_enter Tryd.func71, Tryd.ntmps71
        go_wp2_with fail
        (with_reducible refine (HC.out _ hb' ?_ ?_).mono ?_)
        · exact (HR.out.allocs _).allocs _
        · exact (HR'.out.allocs _).allocs _
        rintro e w1 ⟨rfl, hb1⟩
        have HB1 := Lib.hid ((FIN.out _ _).trans (hb1.mono (by simp; omega)))
        clear hb1
        go_wp2_with fail
        go_ret
        exact ⟨by rw [HU.out]; simp, HB1.out⟩
end Go.Proofs.YtlnfdpdancolmaaDoor
namespace Go.Proofs.YtlnfdpdancolmaaDoor
open Go.RowKit Go.MapKept

/-- block m is a map that holds L, in that order -/
def MapIs (w : World) (m : Nat) (L : List (ByteArray × Value)) : Prop :=
  ∃ es clock, w.heap[m]? = some (.map es clock) ∧ es.toList.map (fun e => (e.key, e.val)) = L.map (fun p => (Value.string p.1, p.2))
/-- the first entry with a key, from place i on -/
def fnd (k : ByteArray) : List (ByteArray × Value) → Nat → Option (Nat × Value)
  | [], _ => none
  | p :: r, i => if k = p.1 then some (i, p.2) else fnd k r (i + 1)
def mget (z : Value) (L : List (ByteArray × Value)) (k : ByteArray) : Value := match fnd k L 0 with | some p => p.2 | none => z
def mput (L : List (ByteArray × Value)) (k : ByteArray) (v : Value) : List (ByteArray × Value) := match fnd k L 0 with | some p => L.set p.1 (k, v) | none => L ++ [(k, v)]

theorem findNow_str (k : ByteArray) : ∀ (es : List MapEntry) (L : List (ByteArray × Value)) (i : Nat), es.map (fun e => (e.key, e.val)) = L.map (fun p => (Value.string p.1, p.2)) → Instr.findNow .string (.string k) es i = some (fnd k L i)
  | [], L, i, h => by
    cases L with
    | nil => rfl
    | cons p r => simp at h
  | e :: es, L, i, h => by
    cases L with
    | nil => simp at h
    | cons p r =>
      simp only [List.map_cons, List.cons.injEq, Prod.mk.injEq] at h
      obtain ⟨⟨h1, h2⟩, h3⟩ := h
      have ih := findNow_str k es r (i + 1) h3
      rw [Instr.findNow, h1, fnd]
      by_cases hk : k = p.1
      · have hb : (k == p.1) = true := (bytes_beq _ _).2 hk
        rw [if_pos hk]; simp [Instr.sameNow, hb, h2]
      · have hb : (k == p.1) = false := by
          cases hq : (k == p.1) with
          | false => rfl
          | true => exact absurd ((bytes_beq _ _).1 hq) hk
        rw [if_neg hk]; simp [Instr.sameNow, hb, ih]
theorem fnd_none {k : ByteArray} : ∀ {L : List (ByteArray × Value)} {i : Nat}, (∀ p ∈ L, k ≠ p.1) → fnd k L i = none
  | [], _, _ => rfl
  | p :: r, i, h => by rw [fnd, if_neg (h p List.mem_cons_self)]; exact fnd_none fun q hq => h q (List.mem_cons_of_mem _ hq)
theorem fnd_some {k : ByteArray} : ∀ {L : List (ByteArray × Value)} {i j : Nat} {v : Value}, L[j]? = some (k, v) → (∀ q p, q < j → L[q]? = some p → k ≠ p.1) → fnd k L i = some (i + j, v)
  | [], _, _, _, h, _ => by simp at h
  | p :: r, i, 0, v, h, _ => by simp at h; subst h; rw [fnd, if_pos rfl]; rfl
  | p :: r, i, j + 1, v, h, hn => by
    rw [fnd, if_neg (hn 0 p (by omega) rfl), fnd_some (L := r) (j := j) (v := v) (by simpa using h) (fun q x hq hx => hn (q + 1) x (by omega) (by simpa using hx))]
    congr 2; omega
theorem fnd_at {k : ByteArray} : ∀ {L : List (ByteArray × Value)} {i : Nat} {p : Nat × Value}, fnd k L i = some p → i ≤ p.1 ∧ L[p.1 - i]? = some (k, p.2)
  | [], _, _, h => by simp [fnd] at h
  | q :: r, i, p, h => by
    rw [fnd] at h
    by_cases hk : k = q.1
    · rw [if_pos hk] at h
      have := Option.some.inj h
      subst this hk
      simp
    · rw [if_neg hk] at h
      obtain ⟨h1, h2⟩ := fnd_at h
      refine ⟨by omega, ?_⟩
      rw [show p.1 - i = (p.1 - (i + 1)) + 1 by omega]
      simpa using h2
theorem MapIs.lt {w : World} {m : Nat} {L : List (ByteArray × Value)} (h : MapIs w m L) : m < w.heap.size := by
  obtain ⟨es, clock, h, _⟩ := h
  exact (Array.getElem?_eq_some_iff.1 h).1
theorem MapIs.keep {w w' : World} {m : Nat} {L : List (ByteArray × Value)} (h : MapIs w m L) (hk : w'.heap[m]? = w.heap[m]?) : MapIs w' m L := by
  obtain ⟨es, clock, h, h2⟩ := h
  exact ⟨es, clock, hk.trans h, h2⟩
theorem MapIs.new (w : World) : MapIs (w.alloc (.map #[] 0)) w.heap.size [] := ⟨#[], 0, heap_alloc_new w _, rfl⟩
section
variable {P : Program} {T K E : TypeId} (hT : P.underlying T = some (.map K E)) (hK : P.underlying K = some .string)
include hT hK
theorem run_lookup_str {w : World} {m : Nat} {L : List (ByteArray × Value)} (h : MapIs w m L) {z : Value} (hz : (zeroValue E).run P w = .ok z w) (k : ByteArray) :
    (Instr.lookup T (.map (some m)) (.string k) false).run P w = .ok (mget z L k) w := by
  obtain ⟨es, clock, hb, he⟩ := h
  have hf := findNow_str k es.toList L 0 he
  have hfk := run_findKey (P := P) (w := w) hK hf
  have hck : ∀ b, (Instr.checkKey b 10000 K (.string k)).run P w = .ok () w := fun b => run_checkKey (P := P) (w := w) hK (k := .string k) trivial b 9999
  unfold mget
  cases hx : fnd k L 0 with
  | none =>
    rw [hx] at hfk
    simp [Instr.lookup, run_underlying hT, MapKept.run_getObj_map hb, hck, hfk, hz]
  | some p =>
    rw [hx] at hfk
    simp [Instr.lookup, run_underlying hT, MapKept.run_getObj_map hb, hck, hfk]
theorem run_mapUpdate_str {w : World} {m : Nat} {L : List (ByteArray × Value)} (h : MapIs w m L) (k : ByteArray) (v : Value) :
    ∃ w', (Instr.mapUpdate T (.map (some m)) (.string k) v).run P w = .ok () w' ∧ MapIs w' m (mput L k v) ∧ w.grownBy w' (some m) ∧ w'.heap.size = w.heap.size := by
  have hlt := h.lt
  obtain ⟨es, clock, hb, he⟩ := h
  have hf := findNow_str k es.toList L 0 he
  have hfk := run_findKey (P := P) (w := w) hK hf
  have hck : ∀ b, (Instr.checkKey b 10000 K (.string k)).run P w = .ok () w := fun b => run_checkKey (P := P) (w := w) hK (k := .string k) trivial b 9999
  have hgr : ∀ o : Obj, w.grownBy { w with heap := w.heap.setIfInBounds m o } (some m) := fun o =>
    ⟨rfl, rfl, rfl, by simp, fun j _ hj => (heap_set hb).2 j (fun e => hj (by rw [e]))⟩
  unfold mput
  cases hx : fnd k L 0 with
  | none =>
    rw [hx] at hfk
    refine ⟨{ w with heap := w.heap.setIfInBounds m (.map (es.push ⟨.string k, v, clock⟩) (clock + 1)) }, ?_, ⟨_, _, (heap_set hb).1, ?_⟩, hgr _, by simp⟩
    · simp [Instr.mapUpdate, run_underlying hT, MapKept.run_getObj_map hb, hck, hfk, MapKept.run_setObj_map _ hb]
    · simp [he]
  | some p =>
    rw [hx] at hfk
    obtain ⟨_, hp⟩ := fnd_at hx
    rw [Nat.sub_zero] at hp
    have hlen : es.toList.length = L.length := by simpa using congrArg List.length he
    have hpl : p.1 < L.length := (List.getElem?_eq_some_iff.1 hp).1
    have hpe : p.1 < es.size := by simpa [← hlen] using hpl
    have hke : es[p.1].key = .string k := by
      have := congrArg (fun l => l[p.1]?) he
      simp only [List.getElem?_map, hp, Array.getElem?_toList, Array.getElem?_eq_getElem hpe, Option.map_some] at this
      exact congrArg Prod.fst (Option.some.inj this)
    refine ⟨{ w with heap := w.heap.setIfInBounds m (.map (es.modify p.1 fun e => { e with key := .string k, val := v }) clock) }, ?_, ⟨_, _, (heap_set hb).1, ?_⟩, hgr _, by simp⟩
    · simp [Instr.mapUpdate, run_underlying hT, MapKept.run_getObj_map hb, hck, hfk, MapKept.run_setObj_map _ hb, Instr.keyThatStays, hpe, hke, Instr.sameBits, (bytes_beq k k).2 rfl]
    · apply List.ext_getElem?
      intro j
      have := congrArg (fun l => l[j]?) he
      simp only [List.getElem?_map, Array.getElem?_toList] at this
      simp only [List.getElem?_map, Array.getElem?_toList, Array.getElem?_modify, List.getElem?_set]
      by_cases hj : p.1 = j
      · subst hj; simp [hpl, hpe]
      · simp [hj, this]
end
end Go.Proofs.YtlnfdpdancolmaaDoor
