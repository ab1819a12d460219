/- event.group: one group of events read from a code.Reader. Conditions: those in each statement. -/
import Derived.Test.YtlbmfgiepcemdaaGreatYVRead
import Derived.Test.YtlbmfgiepcemdaaGreatYEvWrite
namespace Go.Proofs.YtlbmfgiepcemdaaGreat
open Go.RowKit

theorem results_cell_two {P : Program} {fn : Func} {p q s : Tmp} {ty : TypeId} (h : fn.results = #[.cell p ty, .tmp q, .tmp s]) (tmps : Array Value) (w : World) (g : Nat) (t : TypeId) (cs : Array Value) (fr : Nat × Nat) (d : TypeDesc)
    (hp : tmps.getD p undef = .pointer (some ⟨g, 0, none⟩)) (hg : w.heap[g]? = some (.cells cs t fr))
    (hu : P.underlying ty = some d) (hd : (match d with | .struct _ | .array _ _ => true | _ => false) = true) (hi : (P.info? ty).map (·.size) = some cs.size) :
    (results fn tmps).run P w = .ok (.tuple #[.agg cs, tmps.getD q undef, tmps.getD s undef]) w := by
  have hp' : tmps[p]?.getD undef = .pointer (some ⟨g, 0, none⟩) := by simpa using hp
  simp [results, h, hp', asAddr, run_loadVar_row w g t ty cs fr d hg hu hd hi]
theorem sizeE12 : (Tryz.prog.info? 37).map (·.size) = some 12 := by kernel_rfl
theorem twelve_set {w : World} {g : Nat} {e : TypeId} {a0 a1 a2 a3 a4 a5 a6 a7 a8 a9 a10 a11 : Value} (u0 u1 u2 u3 u4 u5 u6 u7 u8 u9 u10 u11 : Value) (h : CellsAt w g #[a0, a1, a2, a3, a4, a5, a6, a7, a8, a9, a10, a11] e) :
    CellsAt ((((((((((((w.setCell ⟨g, 0, none⟩ (u0)).setCell ⟨g, 1, none⟩ (u1)).setCell ⟨g, 2, none⟩ (u2)).setCell ⟨g, 3, none⟩ (u3)).setCell ⟨g, 4, none⟩ (u4)).setCell ⟨g, 5, none⟩ (u5)).setCell ⟨g, 6, none⟩ (u6)).setCell ⟨g, 7, none⟩ (u7)).setCell ⟨g, 8, none⟩ (u8)).setCell ⟨g, 9, none⟩ (u9)).setCell ⟨g, 10, none⟩ (u10)).setCell ⟨g, 11, none⟩ (u11)) g #[u0, u1, u2, u3, u4, u5, u6, u7, u8, u9, u10, u11] e := by
  have := (((((((((((h.set 0 u0).set 1 u1).set 2 u2).set 3 u3).set 4 u4).set 5 u5).set 6 u6).set 7 u7).set 8 u8).set 9 u9).set 10 u10).set 11 u11
  simpa using this
theorem twelve_chg {M : Nat → Prop} {w0 w : World} {g : Nat} (h : Chg M w0 w) (hp : M g ∨ w0.heap.size ≤ g) (u0 u1 u2 u3 u4 u5 u6 u7 u8 u9 u10 u11 : Value) : Chg M w0 ((((((((((((w.setCell ⟨g, 0, none⟩ (u0)).setCell ⟨g, 1, none⟩ (u1)).setCell ⟨g, 2, none⟩ (u2)).setCell ⟨g, 3, none⟩ (u3)).setCell ⟨g, 4, none⟩ (u4)).setCell ⟨g, 5, none⟩ (u5)).setCell ⟨g, 6, none⟩ (u6)).setCell ⟨g, 7, none⟩ (u7)).setCell ⟨g, 8, none⟩ (u8)).setCell ⟨g, 9, none⟩ (u9)).setCell ⟨g, 10, none⟩ (u10)).setCell ⟨g, 11, none⟩ (u11)) :=
  (((((((((((h.setCell (p := ⟨g, 0, none⟩) hp u0).setCell (p := ⟨g, 1, none⟩) hp u1).setCell (p := ⟨g, 2, none⟩) hp u2).setCell (p := ⟨g, 3, none⟩) hp u3).setCell (p := ⟨g, 4, none⟩) hp u4).setCell (p := ⟨g, 5, none⟩) hp u5).setCell (p := ⟨g, 6, none⟩) hp u6).setCell (p := ⟨g, 7, none⟩) hp u7).setCell (p := ⟨g, 8, none⟩) hp u8).setCell (p := ⟨g, 9, none⟩) hp u9).setCell (p := ⟨g, 10, none⟩) hp u10).setCell (p := ⟨g, 11, none⟩) hp u11
theorem twelve_one {w : World} {g : Nat} (u0 u1 u2 u3 u4 u5 u6 u7 u8 u9 u10 u11 : Value) : Chg (fun k => k = g) w ((((((((((((w.setCell ⟨g, 0, none⟩ (u0)).setCell ⟨g, 1, none⟩ (u1)).setCell ⟨g, 2, none⟩ (u2)).setCell ⟨g, 3, none⟩ (u3)).setCell ⟨g, 4, none⟩ (u4)).setCell ⟨g, 5, none⟩ (u5)).setCell ⟨g, 6, none⟩ (u6)).setCell ⟨g, 7, none⟩ (u7)).setCell ⟨g, 8, none⟩ (u8)).setCell ⟨g, 9, none⟩ (u9)).setCell ⟨g, 10, none⟩ (u10)).setCell ⟨g, 11, none⟩ (u11)) := twelve_chg (Chg.refl (fun k => k = g) w) (.inl rfl) u0 u1 u2 u3 u4 u5 u6 u7 u8 u9 u10 u11
/-- as many values as that, one behind the other -/
def rdLoop : Nat → RS → Option (List V × RS)
  | 0, r => some ([], r)
  | c + 1, r => (readS r).bind fun p => (rdLoop c p.2).map fun q => (p.1 :: q.1, q.2)
def evN (k n : Int) : Ev := ⟨k, ⟨#[]⟩, ⟨#[]⟩, [], 0, 0, ⟨#[]⟩, 0, 0, ⟨#[]⟩, [], n⟩
def evA (p m : ByteArray) (l : List V) : Ev := ⟨1, p, m, l, 0, 0, ⟨#[]⟩, 0, 0, ⟨#[]⟩, [], 0⟩
def evB (p m : ByteArray) (l : List V) (ord : Int) (v : V) : Ev := ⟨4, p, m, l, ord, v.kind, v.t, v.n, v.m, v.s, v.l, 0⟩
def grL1 (r : RS) : RS := textR (numR r)
def grL2 (r : RS) : RS := textR (grL1 r)
def grL3 (r : RS) : RS := numR (grL2 r)
/-- the group: its first event, how many, the reader behind it -/
def groupS (r : RS) : Option (Ev × Int × RS) :=
  if r.s.size = 0 then none
  else if numV r = 0 then some (evN 2 0, numV (numR r), numR (numR r))
  else if numV r = 3 then some (evN 3 0, numV (numR r), numR (numR r))
  else if numV r = 2 ∨ numV r = 5 ∨ numV r = 6 then some (evN (numV r) (numV (numR r)), 1, numR (numR r))
  else if numV r = 1 then if 4096 < numV (grL2 r) then none else (rdLoop (numV (grL2 r)) (grL3 r)).map fun p => (evA (textS (numR r)) (textS (grL1 r)) p.1, 1, p.2)
  else if numV r = 4 then if 4096 < numV (grL2 r) then none else (rdLoop (numV (grL2 r)) (grL3 r)).bind fun p => (readS (numR p.2)).map fun q => (evB (textS (numR r)) (textS (grL1 r)) p.1 (numV p.2) q.1, 1, q.2)
  else none
def GroupPost (b : Nat) (o : Option (Ev × Int × RS)) (w : World) (e : Ending) (w' : World) : Prop :=
  Chg (fun k => k = b) w w' ∧
  match o with
  | none => ∃ (x : Ev) (A C : Option Addr) (c d : Nat) (k : Int), e = .returned (.tuple #[.agg #[.int .i64 x.kind, .string x.path, .string x.msg, .slice A x.args.length c, .int .i64 x.ord, .int .i64 x.vk, .string x.vt, .int .i64 x.vn, .int .i64 x.vm, .string x.vx, .slice C x.vl.length d, .int .i64 x.n], .int .i64 k, .bool false])
  | some (x, k, r') => ∃ (A C : Option Addr) (c d : Nat), e = .returned (.tuple #[.agg #[.int .i64 x.kind, .string x.path, .string x.msg, .slice A x.args.length c, .int .i64 x.ord, .int .i64 x.vk, .string x.vt, .int .i64 x.vn, .int .i64 x.vm, .string x.vx, .slice C x.vl.length d, .int .i64 x.n], .int .i64 k, .bool true]) ∧ Rd (Bt w.heap.size w'.heap.size) w' (vs x.args) (.slice A x.args.length c) ∧ Rd (Bt w.heap.size w'.heap.size) w' (vs x.vl) (.slice C x.vl.length d) ∧ RdrAt w' b r'
/-- what the steps keep -/
structure GSt (w0 : World) (b : Nat) (W : World) (r : RS) : Prop where
  chg : Chg (fun k => k = b) w0 W
  rd : RdrAt W b r
  res : CellsAt W w0.heap.size #[.int .i64 0, .string ⟨#[]⟩, .string ⟨#[]⟩, .slice none 0 0, .int .i64 0, .int .i64 0, .string ⟨#[]⟩, .int .i64 0, .int .i64 0, .string ⟨#[]⟩, .slice none 0 0, .int .i64 0] 37
theorem GSt.call {w0 : World} {b : Nat} {W w1 : World} {r r' : RS} (h : GSt w0 b W r) (hb : b < w0.heap.size) (hc : Chg (fun k => k = b) W w1) (hr : RdrAt w1 b r') : GSt w0 b w1 r' :=
  ⟨h.chg.next hc, hr, h.res.keep hc (by omega)⟩
theorem GSt.later {w0 : World} {b : Nat} {W w1 : World} {r : RS} (h : GSt w0 b W r) (hb : b < w0.heap.size) (hc : Chg (fun k => w0.heap.size < k) W w1) : GSt w0 b w1 r :=
  ⟨h.chg.trans hc (fun k hk => .inr (by omega)), h.rd.keep hc (by omega), h.res.keep hc (by omega)⟩
theorem group_end {w0 : World} {b : Nat} {W : World} {r : RS} (h : GSt w0 b W r) (hb : b < w0.heap.size) (u0 u1 u2 u3 u4 u5 u6 u7 u8 u9 u10 u11 : Value) {k : Int} {f : Bool} {a : Act} (h2 : a.tmps.getD 2 undef = .pointer (some ⟨w0.heap.size, 0, none⟩)) (h3 : a.tmps.getD 3 undef = .int .i64 k) (h4 : a.tmps.getD 4 undef = .bool f) (hd : a.defers = []) {Q : Ending → World → Prop}
    (hQ : Chg (fun k => k = b) w0 ((((((((((((W.setCell ⟨w0.heap.size, 0, none⟩ (u0)).setCell ⟨w0.heap.size, 1, none⟩ (u1)).setCell ⟨w0.heap.size, 2, none⟩ (u2)).setCell ⟨w0.heap.size, 3, none⟩ (u3)).setCell ⟨w0.heap.size, 4, none⟩ (u4)).setCell ⟨w0.heap.size, 5, none⟩ (u5)).setCell ⟨w0.heap.size, 6, none⟩ (u6)).setCell ⟨w0.heap.size, 7, none⟩ (u7)).setCell ⟨w0.heap.size, 8, none⟩ (u8)).setCell ⟨w0.heap.size, 9, none⟩ (u9)).setCell ⟨w0.heap.size, 10, none⟩ (u10)).setCell ⟨w0.heap.size, 11, none⟩ (u11)) → RdrAt ((((((((((((W.setCell ⟨w0.heap.size, 0, none⟩ (u0)).setCell ⟨w0.heap.size, 1, none⟩ (u1)).setCell ⟨w0.heap.size, 2, none⟩ (u2)).setCell ⟨w0.heap.size, 3, none⟩ (u3)).setCell ⟨w0.heap.size, 4, none⟩ (u4)).setCell ⟨w0.heap.size, 5, none⟩ (u5)).setCell ⟨w0.heap.size, 6, none⟩ (u6)).setCell ⟨w0.heap.size, 7, none⟩ (u7)).setCell ⟨w0.heap.size, 8, none⟩ (u8)).setCell ⟨w0.heap.size, 9, none⟩ (u9)).setCell ⟨w0.heap.size, 10, none⟩ (u10)).setCell ⟨w0.heap.size, 11, none⟩ (u11)) b r → Q (.returned (.tuple #[.agg #[u0, u1, u2, u3, u4, u5, u6, u7, u8, u9, u10, u11], .int .i64 k, .bool f])) ((((((((((((W.setCell ⟨w0.heap.size, 0, none⟩ (u0)).setCell ⟨w0.heap.size, 1, none⟩ (u1)).setCell ⟨w0.heap.size, 2, none⟩ (u2)).setCell ⟨w0.heap.size, 3, none⟩ (u3)).setCell ⟨w0.heap.size, 4, none⟩ (u4)).setCell ⟨w0.heap.size, 5, none⟩ (u5)).setCell ⟨w0.heap.size, 6, none⟩ (u6)).setCell ⟨w0.heap.size, 7, none⟩ (u7)).setCell ⟨w0.heap.size, 8, none⟩ (u8)).setCell ⟨w0.heap.size, 9, none⟩ (u9)).setCell ⟨w0.heap.size, 10, none⟩ (u10)).setCell ⟨w0.heap.size, 11, none⟩ (u11))) :
    bodyPost Tryz.prog Tryz.f33 Q Exit.ret a ((((((((((((W.setCell ⟨w0.heap.size, 0, none⟩ (u0)).setCell ⟨w0.heap.size, 1, none⟩ (u1)).setCell ⟨w0.heap.size, 2, none⟩ (u2)).setCell ⟨w0.heap.size, 3, none⟩ (u3)).setCell ⟨w0.heap.size, 4, none⟩ (u4)).setCell ⟨w0.heap.size, 5, none⟩ (u5)).setCell ⟨w0.heap.size, 6, none⟩ (u6)).setCell ⟨w0.heap.size, 7, none⟩ (u7)).setCell ⟨w0.heap.size, 8, none⟩ (u8)).setCell ⟨w0.heap.size, 9, none⟩ (u9)).setCell ⟨w0.heap.size, 10, none⟩ (u10)).setCell ⟨w0.heap.size, 11, none⟩ (u11)) := by
  have hres := results_cell_two Tryz.results33 a.tmps _ w0.heap.size _ _ (0, 0) _ h2 (twelve_set u0 u1 u2 u3 u4 u5 u6 u7 u8 u9 u10 u11 h.res) Tryz.underlying37 rfl sizeE12
  rw [h3, h4] at hres
  exact bodyPost_ret hres hd (hQ (twelve_chg h.chg (.inr (Nat.le_refl _)) u0 u1 u2 u3 u4 u5 u6 u7 u8 u9 u10 u11) (h.rd.keep (twelve_one u0 u1 u2 u3 u4 u5 u6 u7 u8 u9 u10 u11) (by omega)))
theorem group_endA {w0 : World} {b : Nat} {W : World} {r : RS} (h : GSt w0 b W r) (hb : b < w0.heap.size) (u0 u1 u2 u3 u4 u5 u6 u7 u8 u9 u10 u11 : Value) {k : Int} {f : Bool} {ob : Obj} {a : Act} (h2 : a.tmps.getD 2 undef = .pointer (some ⟨w0.heap.size, 0, none⟩)) (h3 : a.tmps.getD 3 undef = .int .i64 k) (h4 : a.tmps.getD 4 undef = .bool f) (hd : a.defers = []) {Q : Ending → World → Prop}
    (hQ : Chg (fun k => k = b) w0 (((((((((((((W.setCell ⟨w0.heap.size, 0, none⟩ (u0)).setCell ⟨w0.heap.size, 1, none⟩ (u1)).setCell ⟨w0.heap.size, 2, none⟩ (u2)).setCell ⟨w0.heap.size, 3, none⟩ (u3)).setCell ⟨w0.heap.size, 4, none⟩ (u4)).setCell ⟨w0.heap.size, 5, none⟩ (u5)).setCell ⟨w0.heap.size, 6, none⟩ (u6)).setCell ⟨w0.heap.size, 7, none⟩ (u7)).setCell ⟨w0.heap.size, 8, none⟩ (u8)).setCell ⟨w0.heap.size, 9, none⟩ (u9)).setCell ⟨w0.heap.size, 10, none⟩ (u10)).setCell ⟨w0.heap.size, 11, none⟩ (u11)).alloc ob) → RdrAt (((((((((((((W.setCell ⟨w0.heap.size, 0, none⟩ (u0)).setCell ⟨w0.heap.size, 1, none⟩ (u1)).setCell ⟨w0.heap.size, 2, none⟩ (u2)).setCell ⟨w0.heap.size, 3, none⟩ (u3)).setCell ⟨w0.heap.size, 4, none⟩ (u4)).setCell ⟨w0.heap.size, 5, none⟩ (u5)).setCell ⟨w0.heap.size, 6, none⟩ (u6)).setCell ⟨w0.heap.size, 7, none⟩ (u7)).setCell ⟨w0.heap.size, 8, none⟩ (u8)).setCell ⟨w0.heap.size, 9, none⟩ (u9)).setCell ⟨w0.heap.size, 10, none⟩ (u10)).setCell ⟨w0.heap.size, 11, none⟩ (u11)).alloc ob) b r → Q (.returned (.tuple #[.agg #[u0, u1, u2, u3, u4, u5, u6, u7, u8, u9, u10, u11], .int .i64 k, .bool f])) (((((((((((((W.setCell ⟨w0.heap.size, 0, none⟩ (u0)).setCell ⟨w0.heap.size, 1, none⟩ (u1)).setCell ⟨w0.heap.size, 2, none⟩ (u2)).setCell ⟨w0.heap.size, 3, none⟩ (u3)).setCell ⟨w0.heap.size, 4, none⟩ (u4)).setCell ⟨w0.heap.size, 5, none⟩ (u5)).setCell ⟨w0.heap.size, 6, none⟩ (u6)).setCell ⟨w0.heap.size, 7, none⟩ (u7)).setCell ⟨w0.heap.size, 8, none⟩ (u8)).setCell ⟨w0.heap.size, 9, none⟩ (u9)).setCell ⟨w0.heap.size, 10, none⟩ (u10)).setCell ⟨w0.heap.size, 11, none⟩ (u11)).alloc ob)) :
    bodyPost Tryz.prog Tryz.f33 Q Exit.ret a (((((((((((((W.setCell ⟨w0.heap.size, 0, none⟩ (u0)).setCell ⟨w0.heap.size, 1, none⟩ (u1)).setCell ⟨w0.heap.size, 2, none⟩ (u2)).setCell ⟨w0.heap.size, 3, none⟩ (u3)).setCell ⟨w0.heap.size, 4, none⟩ (u4)).setCell ⟨w0.heap.size, 5, none⟩ (u5)).setCell ⟨w0.heap.size, 6, none⟩ (u6)).setCell ⟨w0.heap.size, 7, none⟩ (u7)).setCell ⟨w0.heap.size, 8, none⟩ (u8)).setCell ⟨w0.heap.size, 9, none⟩ (u9)).setCell ⟨w0.heap.size, 10, none⟩ (u10)).setCell ⟨w0.heap.size, 11, none⟩ (u11)).alloc ob) := by
  have hal : ∀ X : World, Chg (fun _ => False) X (X.alloc ob) := fun X => (Chg.refl _ X).alloc ob
  have hres := results_cell_two Tryz.results33 a.tmps _ w0.heap.size _ _ (0, 0) _ h2 ((twelve_set u0 u1 u2 u3 u4 u5 u6 u7 u8 u9 u10 u11 h.res).keep (hal _) (fun h => h)) Tryz.underlying37 rfl sizeE12
  rw [h3, h4] at hres
  exact bodyPost_ret hres hd (hQ ((twelve_chg h.chg (.inr (Nat.le_refl _)) u0 u1 u2 u3 u4 u5 u6 u7 u8 u9 u10 u11).alloc _) ((h.rd.keep (twelve_one u0 u1 u2 u3 u4 u5 u6 u7 u8 u9 u10 u11) (by omega)).keep (hal _) (fun h => h)))
structure GE (w0 : World) (b : Nat) (W : World) (r : RS) (vb : Nat) (cs : Array Value) : Prop where
  g : GSt w0 b W r
  v : CellsAt W vb cs 37
  vb : w0.heap.size < vb
section
variable {w0 : World} {b vb : Nat} {W w1 : World} {r r' : RS} {cs : Array Value}
theorem GE.call (h : GE w0 b W r vb cs) (hb : b < w0.heap.size) (hc : Chg (fun k => k = b) W w1) (hr : RdrAt w1 b r') : GE w0 b w1 r' vb cs :=
  ⟨h.g.call hb hc hr, h.v.keep hc (by have := h.vb; omega), h.vb⟩
theorem GE.store (h : GE w0 b W r vb cs) (hb : b < w0.heap.size) (j : Nat) (u : Value) : GE w0 b (W.setCell ⟨vb, j, none⟩ u) r vb (cs.setIfInBounds j u) :=
  ⟨h.g.later hb ((Chg.refl (fun k => w0.heap.size < k) W).setCell (p := ⟨vb, j, none⟩) (.inl h.vb) u), h.v.set j u, h.vb⟩
theorem GE.later (h : GE w0 b W r vb cs) (hb : b < w0.heap.size) (hc : Chg (fun k => vb < k) W w1) : GE w0 b w1 r vb cs :=
  ⟨h.g.later hb (hc.mono fun k hk => by have := h.vb; omega), h.v.keep hc (by omega), h.vb⟩
theorem GE.new (h : GSt w0 b W r) (hb : b < w0.heap.size) (cs : Array Value) : GE w0 b (W.alloc (.cells cs 37)) r W.heap.size cs :=
  ⟨h.later hb ((Chg.refl _ W).alloc _), CellsAt.new W cs _, h.res.lt⟩
end
def RdTo (c : Nat) (r0 : RS) (i : Nat) (acc : List V) (r : RS) : Prop := rdLoop c r0 = (rdLoop (c - i) r).map fun q => (acc ++ q.1, q.2)
theorem RdTo.start (c : Nat) (r0 : RS) : RdTo c r0 0 [] r0 := by
  unfold RdTo
  cases rdLoop c r0 <;> simp
theorem RdTo.step {c : Nat} {r0 : RS} {i : Nat} {acc : List V} {r r1 : RS} {v : V} (h : RdTo c r0 i acc r) (hi : i < c) (hd : readS r = some (v, r1)) : RdTo c r0 (i + 1) (acc ++ [v]) r1 := by
  unfold RdTo at h ⊢
  rw [h, show c - i = (c - (i + 1)) + 1 by omega, rdLoop, hd, Option.bind_some]
  cases rdLoop (c - (i + 1)) r1 <;> simp
theorem RdTo.stop {c : Nat} {r0 : RS} {i : Nat} {acc : List V} {r : RS} (h : RdTo c r0 i acc r) (hi : i < c) (hd : readS r = none) : rdLoop c r0 = none := by
  unfold RdTo at h
  rw [h, show c - i = (c - (i + 1)) + 1 by omega, rdLoop, hd]; rfl
theorem RdTo.done {c : Nat} {r0 : RS} {acc : List V} {r : RS} (h : RdTo c r0 c acc r) : rdLoop c r0 = some (acc, r) := by
  unfold RdTo at h
  rw [h, Nat.sub_self, rdLoop]; simp
theorem readS_next {r r' : RS} {v : V} (hs : Sane r) (hz : r.s.size ≤ 1048576) (h : readS r = some (v, r')) : Sane r' ∧ r'.s.size ≤ 1048576 ∧ v.bulk ≤ 2097152 := by
  rcases hs with hs | hs
  · obtain ⟨⟨f1, f2, f3, f4⟩, _⟩ := readS_fine hs (by omega) h
    exact ⟨.inl f1, by omega, by omega⟩
  · unfold readS at h
    rw [decS, if_pos (.inr hs)] at h
    cases h
set_option maxHeartbeats 16000000 in
set_option maxRecDepth 100000 in
theorem group_any (b : Nat) (r : RS) (w : World) (hr : RdrAt w b r) (hs : r.s.size ≤ 1048576) : Calls Tryz.prog 33 #[.pointer (some ⟨b, 0, none⟩)] w (GroupPost b (groupS r) w) := by
  have hb := hr.lt
  obtain ⟨W, hW⟩ : ∃ W, w.alloc (.cells #[.int .i64 0, .string ⟨#[]⟩, .string ⟨#[]⟩, .slice none 0 0, .int .i64 0, .int .i64 0, .string ⟨#[]⟩, .int .i64 0, .int .i64 0, .string ⟨#[]⟩, .slice none 0 0, .int .i64 0] 37) = W := ⟨_, rfl⟩
  have hA : Below w.heap.size w W := by rw [← hW]; exact (Below.refl _ _).alloc (Nat.le_refl _) _
  have S0 : Hid (GSt w b W r) := Lib.hid ⟨Chg.of_below hA, hr.below hA, by rw [← hW]; exact CellsAt.new w _ _⟩
  have HSZ : Hid (W.heap.size = w.heap.size + 1) := Lib.hid (by rw [← hW]; simp)
  have hs1 : (numR r).s.size ≤ 1048576 := Nat.le_trans (numR_size r) hs
  have hk := numV_le r
  have H1 : Hid (∀ W, RdrAt W b r → Calls Tryz.prog 32 #[.pointer (some ⟨b, 0, none⟩)] W (RPost b (numR r) (.int .i64 (numV r)) W)) := Lib.hid (fun W h => rnum_any b r W h (by omega))
  have H2 : Hid (∀ W, RdrAt W b (numR r) → Calls Tryz.prog 32 #[.pointer (some ⟨b, 0, none⟩)] W (RPost b (numR (numR r)) (.int .i64 (numV (numR r))) W)) := Lib.hid (fun W h => rnum_any b (numR r) W h (by omega))
  obtain ⟨O, hO⟩ : ∃ O, groupS r = O := ⟨_, rfl⟩
  have HO : Hid (O = groupS r) := Lib.hid hO.symm
  rw [hO]
  clear hO hA hr
  by_cases hs0 : r.s.size = 0
  · have hsb : ((r.s.size : Int) == 0) = true := by simp [hs0]
    have z0 : W.cell? ⟨w.heap.size, 0, none⟩ = some (.int .i64 0) := by rw [S0.out.res.cell]; rfl
    have z1 : W.cell? ⟨w.heap.size, 1, none⟩ = some (.string ⟨#[]⟩) := by rw [S0.out.res.cell]; rfl
    have z2 : W.cell? ⟨w.heap.size, 2, none⟩ = some (.string ⟨#[]⟩) := by rw [S0.out.res.cell]; rfl
    have z3 : W.cell? ⟨w.heap.size, 3, none⟩ = some (.slice none 0 0) := by rw [S0.out.res.cell]; rfl
    have z4 : W.cell? ⟨w.heap.size, 4, none⟩ = some (.int .i64 0) := by rw [S0.out.res.cell]; rfl
    have z5 : W.cell? ⟨w.heap.size, 5, none⟩ = some (.int .i64 0) := by rw [S0.out.res.cell]; rfl
    have z6 : W.cell? ⟨w.heap.size, 6, none⟩ = some (.string ⟨#[]⟩) := by rw [S0.out.res.cell]; rfl
    have z7 : W.cell? ⟨w.heap.size, 7, none⟩ = some (.int .i64 0) := by rw [S0.out.res.cell]; rfl
    have z8 : W.cell? ⟨w.heap.size, 8, none⟩ = some (.int .i64 0) := by rw [S0.out.res.cell]; rfl
    have z9 : W.cell? ⟨w.heap.size, 9, none⟩ = some (.string ⟨#[]⟩) := by rw [S0.out.res.cell]; rfl
    have z10 : W.cell? ⟨w.heap.size, 10, none⟩ = some (.slice none 0 0) := by rw [S0.out.res.cell]; rfl
    have z11 : W.cell? ⟨w.heap.size, 11, none⟩ = some (.int .i64 0) := by rw [S0.out.res.cell]; rfl
    have zf := S0.out.res.fz
    go_enter Tryz.func33, Tryz.ntmps33
    go_wp2_with fail
    clear hW
    (with_reducible refine (left_any b r W S0.out.rd).mono ?_)
    rintro e w1 ⟨rfl, rfl⟩
    have HN : Hid (O = none) := Lib.hid (by rw [HO.out]; unfold groupS; rw [if_pos hs0])
    go_wp2_with fail
    rw [HN.out]
    exact group_end S0.out hb (.int .i64 0) (.string ⟨#[]⟩) (.string ⟨#[]⟩) (.slice none 0 0) (.int .i64 0) (.int .i64 0) (.string ⟨#[]⟩) (.int .i64 0) (.int .i64 0) (.string ⟨#[]⟩) (.slice none 0 0) (.int .i64 0) rfl rfl rfl rfl (fun h1 _ => ⟨h1, zE, none, none, 0, 0, 0, rfl⟩)
  · have hsb : ((r.s.size : Int) == 0) = false := by rw [beq_eq_false_iff_ne]; omega
    go_enter Tryz.func33, Tryz.ntmps33
    go_wp2_with fail
    clear hW
    (with_reducible refine (left_any b r W S0.out.rd).mono ?_)
    rintro e w1 ⟨rfl, rfl⟩
    go_wp2_with fail
    (with_reducible refine (H1.out _ S0.out.rd).mono ?_)
    rintro e w1 ⟨rfl, hc, hr⟩
    have S1 := Lib.hid (S0.out.call hb hc hr)
    clear hc hr
    have z0 : w1.cell? ⟨w.heap.size, 0, none⟩ = some (.int .i64 0) := by rw [S1.out.res.cell]; rfl
    have z1 : w1.cell? ⟨w.heap.size, 1, none⟩ = some (.string ⟨#[]⟩) := by rw [S1.out.res.cell]; rfl
    have z2 : w1.cell? ⟨w.heap.size, 2, none⟩ = some (.string ⟨#[]⟩) := by rw [S1.out.res.cell]; rfl
    have z3 : w1.cell? ⟨w.heap.size, 3, none⟩ = some (.slice none 0 0) := by rw [S1.out.res.cell]; rfl
    have z4 : w1.cell? ⟨w.heap.size, 4, none⟩ = some (.int .i64 0) := by rw [S1.out.res.cell]; rfl
    have z5 : w1.cell? ⟨w.heap.size, 5, none⟩ = some (.int .i64 0) := by rw [S1.out.res.cell]; rfl
    have z6 : w1.cell? ⟨w.heap.size, 6, none⟩ = some (.string ⟨#[]⟩) := by rw [S1.out.res.cell]; rfl
    have z7 : w1.cell? ⟨w.heap.size, 7, none⟩ = some (.int .i64 0) := by rw [S1.out.res.cell]; rfl
    have z8 : w1.cell? ⟨w.heap.size, 8, none⟩ = some (.int .i64 0) := by rw [S1.out.res.cell]; rfl
    have z9 : w1.cell? ⟨w.heap.size, 9, none⟩ = some (.string ⟨#[]⟩) := by rw [S1.out.res.cell]; rfl
    have z10 : w1.cell? ⟨w.heap.size, 10, none⟩ = some (.slice none 0 0) := by rw [S1.out.res.cell]; rfl
    have z11 : w1.cell? ⟨w.heap.size, 11, none⟩ = some (.int .i64 0) := by rw [S1.out.res.cell]; rfl
    have zf := S1.out.res.fz
    obtain ⟨K, hK⟩ : ∃ K, numV r = K := ⟨_, rfl⟩
    rw [hK] at hk ⊢
    have HK := Lib.hid hK
    clear hK H1 S0
    by_cases k0 : K = 0
    · have b0 : ((K : Int) == 0) = true := by simp [k0]
      subst k0
      go_wp2_with fail
      (with_reducible refine (H2.out _ S1.out.rd).mono ?_)
      rintro e w2 ⟨rfl, hc, hr⟩
      have S2 := Lib.hid (S1.out.call hb hc hr)
      clear hc hr
      clear z0 z1 z2 z3 z4 z5 z6 z7 z8 z9 z10 z11 zf
      have z0 : w2.cell? ⟨w.heap.size, 0, none⟩ = some (.int .i64 0) := by rw [S2.out.res.cell]; rfl
      have z1 : w2.cell? ⟨w.heap.size, 1, none⟩ = some (.string ⟨#[]⟩) := by rw [S2.out.res.cell]; rfl
      have z2 : w2.cell? ⟨w.heap.size, 2, none⟩ = some (.string ⟨#[]⟩) := by rw [S2.out.res.cell]; rfl
      have z3 : w2.cell? ⟨w.heap.size, 3, none⟩ = some (.slice none 0 0) := by rw [S2.out.res.cell]; rfl
      have z4 : w2.cell? ⟨w.heap.size, 4, none⟩ = some (.int .i64 0) := by rw [S2.out.res.cell]; rfl
      have z5 : w2.cell? ⟨w.heap.size, 5, none⟩ = some (.int .i64 0) := by rw [S2.out.res.cell]; rfl
      have z6 : w2.cell? ⟨w.heap.size, 6, none⟩ = some (.string ⟨#[]⟩) := by rw [S2.out.res.cell]; rfl
      have z7 : w2.cell? ⟨w.heap.size, 7, none⟩ = some (.int .i64 0) := by rw [S2.out.res.cell]; rfl
      have z8 : w2.cell? ⟨w.heap.size, 8, none⟩ = some (.int .i64 0) := by rw [S2.out.res.cell]; rfl
      have z9 : w2.cell? ⟨w.heap.size, 9, none⟩ = some (.string ⟨#[]⟩) := by rw [S2.out.res.cell]; rfl
      have z10 : w2.cell? ⟨w.heap.size, 10, none⟩ = some (.slice none 0 0) := by rw [S2.out.res.cell]; rfl
      have z11 : w2.cell? ⟨w.heap.size, 11, none⟩ = some (.int .i64 0) := by rw [S2.out.res.cell]; rfl
      have zf := S2.out.res.fz
      have HN : Hid (O = some (evN 2 0, ((numV (numR r) : Nat) : Int), numR (numR r))) := Lib.hid (by rw [HO.out]; unfold groupS; rw [if_neg hs0, HK.out, if_pos rfl])
      go_wp2_with fail
      rw [HN.out]
      exact group_end S2.out hb (.int .i64 2) (.string ⟨#[]⟩) (.string ⟨#[]⟩) (.slice none 0 0) (.int .i64 0) (.int .i64 0) (.string ⟨#[]⟩) (.int .i64 0) (.int .i64 0) (.string ⟨#[]⟩) (.slice none 0 0) (.int .i64 0) rfl rfl rfl rfl (fun h1 h2 => ⟨h1, none, none, 0, 0, rfl, Rd.sl_nil, Rd.sl_nil, h2⟩)
    · have b0 : ((K : Int) == 0) = false := by rw [beq_eq_false_iff_ne]; omega
      by_cases k3 : K = 3
      · have b3 : ((K : Int) == 3) = true := by simp [k3]
        subst k3
        go_wp2_with fail
        (with_reducible refine (H2.out _ S1.out.rd).mono ?_)
        rintro e w2 ⟨rfl, hc, hr⟩
        have S2 := Lib.hid (S1.out.call hb hc hr)
        clear hc hr
        clear z0 z1 z2 z3 z4 z5 z6 z7 z8 z9 z10 z11 zf
        have z0 : w2.cell? ⟨w.heap.size, 0, none⟩ = some (.int .i64 0) := by rw [S2.out.res.cell]; rfl
        have z1 : w2.cell? ⟨w.heap.size, 1, none⟩ = some (.string ⟨#[]⟩) := by rw [S2.out.res.cell]; rfl
        have z2 : w2.cell? ⟨w.heap.size, 2, none⟩ = some (.string ⟨#[]⟩) := by rw [S2.out.res.cell]; rfl
        have z3 : w2.cell? ⟨w.heap.size, 3, none⟩ = some (.slice none 0 0) := by rw [S2.out.res.cell]; rfl
        have z4 : w2.cell? ⟨w.heap.size, 4, none⟩ = some (.int .i64 0) := by rw [S2.out.res.cell]; rfl
        have z5 : w2.cell? ⟨w.heap.size, 5, none⟩ = some (.int .i64 0) := by rw [S2.out.res.cell]; rfl
        have z6 : w2.cell? ⟨w.heap.size, 6, none⟩ = some (.string ⟨#[]⟩) := by rw [S2.out.res.cell]; rfl
        have z7 : w2.cell? ⟨w.heap.size, 7, none⟩ = some (.int .i64 0) := by rw [S2.out.res.cell]; rfl
        have z8 : w2.cell? ⟨w.heap.size, 8, none⟩ = some (.int .i64 0) := by rw [S2.out.res.cell]; rfl
        have z9 : w2.cell? ⟨w.heap.size, 9, none⟩ = some (.string ⟨#[]⟩) := by rw [S2.out.res.cell]; rfl
        have z10 : w2.cell? ⟨w.heap.size, 10, none⟩ = some (.slice none 0 0) := by rw [S2.out.res.cell]; rfl
        have z11 : w2.cell? ⟨w.heap.size, 11, none⟩ = some (.int .i64 0) := by rw [S2.out.res.cell]; rfl
        have zf := S2.out.res.fz
        have HN : Hid (O = some (evN 3 0, ((numV (numR r) : Nat) : Int), numR (numR r))) := Lib.hid (by rw [HO.out]; unfold groupS; rw [if_neg hs0, HK.out, if_neg (by omega), if_pos rfl])
        go_wp2_with fail
        rw [HN.out]
        exact group_end S2.out hb (.int .i64 3) (.string ⟨#[]⟩) (.string ⟨#[]⟩) (.slice none 0 0) (.int .i64 0) (.int .i64 0) (.string ⟨#[]⟩) (.int .i64 0) (.int .i64 0) (.string ⟨#[]⟩) (.slice none 0 0) (.int .i64 0) rfl rfl rfl rfl (fun h1 h2 => ⟨h1, none, none, 0, 0, rfl, Rd.sl_nil, Rd.sl_nil, h2⟩)
      · have b3 : ((K : Int) == 3) = false := by rw [beq_eq_false_iff_ne]; omega
        by_cases k2 : K = 2
        · have b2 : ((K : Int) == 2) = true := by simp [k2]
          subst k2
          go_wp2_with fail
          (with_reducible refine (H2.out _ S1.out.rd).mono ?_)
          rintro e w2 ⟨rfl, hc, hr⟩
          have S2 := Lib.hid (S1.out.call hb hc hr)
          clear hc hr
          clear z0 z1 z2 z3 z4 z5 z6 z7 z8 z9 z10 z11 zf
          have z0 : w2.cell? ⟨w.heap.size, 0, none⟩ = some (.int .i64 0) := by rw [S2.out.res.cell]; rfl
          have z1 : w2.cell? ⟨w.heap.size, 1, none⟩ = some (.string ⟨#[]⟩) := by rw [S2.out.res.cell]; rfl
          have z2 : w2.cell? ⟨w.heap.size, 2, none⟩ = some (.string ⟨#[]⟩) := by rw [S2.out.res.cell]; rfl
          have z3 : w2.cell? ⟨w.heap.size, 3, none⟩ = some (.slice none 0 0) := by rw [S2.out.res.cell]; rfl
          have z4 : w2.cell? ⟨w.heap.size, 4, none⟩ = some (.int .i64 0) := by rw [S2.out.res.cell]; rfl
          have z5 : w2.cell? ⟨w.heap.size, 5, none⟩ = some (.int .i64 0) := by rw [S2.out.res.cell]; rfl
          have z6 : w2.cell? ⟨w.heap.size, 6, none⟩ = some (.string ⟨#[]⟩) := by rw [S2.out.res.cell]; rfl
          have z7 : w2.cell? ⟨w.heap.size, 7, none⟩ = some (.int .i64 0) := by rw [S2.out.res.cell]; rfl
          have z8 : w2.cell? ⟨w.heap.size, 8, none⟩ = some (.int .i64 0) := by rw [S2.out.res.cell]; rfl
          have z9 : w2.cell? ⟨w.heap.size, 9, none⟩ = some (.string ⟨#[]⟩) := by rw [S2.out.res.cell]; rfl
          have z10 : w2.cell? ⟨w.heap.size, 10, none⟩ = some (.slice none 0 0) := by rw [S2.out.res.cell]; rfl
          have z11 : w2.cell? ⟨w.heap.size, 11, none⟩ = some (.int .i64 0) := by rw [S2.out.res.cell]; rfl
          have zf := S2.out.res.fz
          have HN : Hid (O = some (evN 2 (numV (numR r)), 1, numR (numR r))) := Lib.hid (by rw [HO.out]; unfold groupS; rw [if_neg hs0, HK.out, if_neg (by omega), if_neg (by omega), if_pos (by omega)]; rfl)
          go_wp2_with fail
          rw [HN.out]
          exact group_end S2.out hb (.int .i64 2) (.string ⟨#[]⟩) (.string ⟨#[]⟩) (.slice none 0 0) (.int .i64 0) (.int .i64 0) (.string ⟨#[]⟩) (.int .i64 0) (.int .i64 0) (.string ⟨#[]⟩) (.slice none 0 0) (.int .i64 (numV (numR r))) rfl rfl rfl rfl (fun h1 h2 => ⟨h1, none, none, 0, 0, rfl, Rd.sl_nil, Rd.sl_nil, h2⟩)
        · have b2 : ((K : Int) == 2) = false := by rw [beq_eq_false_iff_ne]; omega
          by_cases k5 : K = 5
          · have b5 : ((K : Int) == 5) = true := by simp [k5]
            subst k5
            go_wp2_with fail
            (with_reducible refine (H2.out _ S1.out.rd).mono ?_)
            rintro e w2 ⟨rfl, hc, hr⟩
            have S2 := Lib.hid (S1.out.call hb hc hr)
            clear hc hr
            clear z0 z1 z2 z3 z4 z5 z6 z7 z8 z9 z10 z11 zf
            have z0 : w2.cell? ⟨w.heap.size, 0, none⟩ = some (.int .i64 0) := by rw [S2.out.res.cell]; rfl
            have z1 : w2.cell? ⟨w.heap.size, 1, none⟩ = some (.string ⟨#[]⟩) := by rw [S2.out.res.cell]; rfl
            have z2 : w2.cell? ⟨w.heap.size, 2, none⟩ = some (.string ⟨#[]⟩) := by rw [S2.out.res.cell]; rfl
            have z3 : w2.cell? ⟨w.heap.size, 3, none⟩ = some (.slice none 0 0) := by rw [S2.out.res.cell]; rfl
            have z4 : w2.cell? ⟨w.heap.size, 4, none⟩ = some (.int .i64 0) := by rw [S2.out.res.cell]; rfl
            have z5 : w2.cell? ⟨w.heap.size, 5, none⟩ = some (.int .i64 0) := by rw [S2.out.res.cell]; rfl
            have z6 : w2.cell? ⟨w.heap.size, 6, none⟩ = some (.string ⟨#[]⟩) := by rw [S2.out.res.cell]; rfl
            have z7 : w2.cell? ⟨w.heap.size, 7, none⟩ = some (.int .i64 0) := by rw [S2.out.res.cell]; rfl
            have z8 : w2.cell? ⟨w.heap.size, 8, none⟩ = some (.int .i64 0) := by rw [S2.out.res.cell]; rfl
            have z9 : w2.cell? ⟨w.heap.size, 9, none⟩ = some (.string ⟨#[]⟩) := by rw [S2.out.res.cell]; rfl
            have z10 : w2.cell? ⟨w.heap.size, 10, none⟩ = some (.slice none 0 0) := by rw [S2.out.res.cell]; rfl
            have z11 : w2.cell? ⟨w.heap.size, 11, none⟩ = some (.int .i64 0) := by rw [S2.out.res.cell]; rfl
            have zf := S2.out.res.fz
            have HN : Hid (O = some (evN 5 (numV (numR r)), 1, numR (numR r))) := Lib.hid (by rw [HO.out]; unfold groupS; rw [if_neg hs0, HK.out, if_neg (by omega), if_neg (by omega), if_pos (by omega)]; rfl)
            go_wp2_with fail
            rw [HN.out]
            exact group_end S2.out hb (.int .i64 5) (.string ⟨#[]⟩) (.string ⟨#[]⟩) (.slice none 0 0) (.int .i64 0) (.int .i64 0) (.string ⟨#[]⟩) (.int .i64 0) (.int .i64 0) (.string ⟨#[]⟩) (.slice none 0 0) (.int .i64 (numV (numR r))) rfl rfl rfl rfl (fun h1 h2 => ⟨h1, none, none, 0, 0, rfl, Rd.sl_nil, Rd.sl_nil, h2⟩)
          · have b5 : ((K : Int) == 5) = false := by rw [beq_eq_false_iff_ne]; omega
            by_cases k6 : K = 6
            · have b6 : ((K : Int) == 6) = true := by simp [k6]
              subst k6
              go_wp2_with fail
              (with_reducible refine (H2.out _ S1.out.rd).mono ?_)
              rintro e w2 ⟨rfl, hc, hr⟩
              have S2 := Lib.hid (S1.out.call hb hc hr)
              clear hc hr
              clear z0 z1 z2 z3 z4 z5 z6 z7 z8 z9 z10 z11 zf
              have z0 : w2.cell? ⟨w.heap.size, 0, none⟩ = some (.int .i64 0) := by rw [S2.out.res.cell]; rfl
              have z1 : w2.cell? ⟨w.heap.size, 1, none⟩ = some (.string ⟨#[]⟩) := by rw [S2.out.res.cell]; rfl
              have z2 : w2.cell? ⟨w.heap.size, 2, none⟩ = some (.string ⟨#[]⟩) := by rw [S2.out.res.cell]; rfl
              have z3 : w2.cell? ⟨w.heap.size, 3, none⟩ = some (.slice none 0 0) := by rw [S2.out.res.cell]; rfl
              have z4 : w2.cell? ⟨w.heap.size, 4, none⟩ = some (.int .i64 0) := by rw [S2.out.res.cell]; rfl
              have z5 : w2.cell? ⟨w.heap.size, 5, none⟩ = some (.int .i64 0) := by rw [S2.out.res.cell]; rfl
              have z6 : w2.cell? ⟨w.heap.size, 6, none⟩ = some (.string ⟨#[]⟩) := by rw [S2.out.res.cell]; rfl
              have z7 : w2.cell? ⟨w.heap.size, 7, none⟩ = some (.int .i64 0) := by rw [S2.out.res.cell]; rfl
              have z8 : w2.cell? ⟨w.heap.size, 8, none⟩ = some (.int .i64 0) := by rw [S2.out.res.cell]; rfl
              have z9 : w2.cell? ⟨w.heap.size, 9, none⟩ = some (.string ⟨#[]⟩) := by rw [S2.out.res.cell]; rfl
              have z10 : w2.cell? ⟨w.heap.size, 10, none⟩ = some (.slice none 0 0) := by rw [S2.out.res.cell]; rfl
              have z11 : w2.cell? ⟨w.heap.size, 11, none⟩ = some (.int .i64 0) := by rw [S2.out.res.cell]; rfl
              have zf := S2.out.res.fz
              have HN : Hid (O = some (evN 6 (numV (numR r)), 1, numR (numR r))) := Lib.hid (by rw [HO.out]; unfold groupS; rw [if_neg hs0, HK.out, if_neg (by omega), if_neg (by omega), if_pos (by omega)]; rfl)
              go_wp2_with fail
              rw [HN.out]
              exact group_end S2.out hb (.int .i64 6) (.string ⟨#[]⟩) (.string ⟨#[]⟩) (.slice none 0 0) (.int .i64 0) (.int .i64 0) (.string ⟨#[]⟩) (.int .i64 0) (.int .i64 0) (.string ⟨#[]⟩) (.slice none 0 0) (.int .i64 (numV (numR r))) rfl rfl rfl rfl (fun h1 h2 => ⟨h1, none, none, 0, 0, rfl, Rd.sl_nil, Rd.sl_nil, h2⟩)
            · have b6 : ((K : Int) == 6) = false := by rw [beq_eq_false_iff_ne]; omega
              by_cases k14 : K ≠ 1 ∧ K ≠ 4
              · have b1 : ((K : Int) == 1) = false := by rw [beq_eq_false_iff_ne]; omega
                have b4 : ((K : Int) == 4) = false := by rw [beq_eq_false_iff_ne]; omega
                have HN : Hid (O = none) := Lib.hid (by rw [HO.out]; unfold groupS; rw [if_neg hs0, HK.out, if_neg k0, if_neg k3, if_neg (by omega), if_neg k14.1, if_neg k14.2])
                go_wp2_with fail
                rw [HN.out]
                exact group_end S1.out hb (.int .i64 0) (.string ⟨#[]⟩) (.string ⟨#[]⟩) (.slice none 0 0) (.int .i64 0) (.int .i64 0) (.string ⟨#[]⟩) (.int .i64 0) (.int .i64 0) (.string ⟨#[]⟩) (.slice none 0 0) (.int .i64 0) rfl rfl rfl rfl (fun h1 _ => ⟨h1, zE, none, none, 0, 0, 0, rfl⟩)
              by_cases k1 : K = 1
              · have b1 : ((K : Int) == 1) = true := by simp [k1]
                subst k1
                have hs2 : (grL1 r).s.size ≤ 1048576 := Nat.le_trans (textR_size (numR r)) hs1
                have hs3 : (grL2 r).s.size ≤ 1048576 := Nat.le_trans (textR_size (grL1 r)) hs2
                have hs4 : (grL3 r).s.size ≤ 1048576 := Nat.le_trans (numR_size (grL2 r)) hs3
                have HS3 : Hid (Sane (grL3 r)) := Lib.hid (sane_num (r := grL2 r) sane_text)
                have HT1 : Hid (∀ W, RdrAt W b (numR r) → Calls Tryz.prog 63 #[.pointer (some ⟨b, 0, none⟩)] W (RPost b (grL1 r) (.string (textS (numR r))) W)) := Lib.hid (fun W h => rtext_any b (numR r) W h (by omega))
                have HT2 : Hid (∀ W, RdrAt W b (grL1 r) → Calls Tryz.prog 63 #[.pointer (some ⟨b, 0, none⟩)] W (RPost b (grL2 r) (.string (textS (grL1 r))) W)) := Lib.hid (fun W h => rtext_any b (grL1 r) W h (by omega))
                have HT3 : Hid (∀ W, RdrAt W b (grL2 r) → Calls Tryz.prog 32 #[.pointer (some ⟨b, 0, none⟩)] W (RPost b (grL3 r) (.int .i64 (numV (grL2 r))) W)) := Lib.hid (fun W h => rnum_any b (grL2 r) W h (by omega))
                have HO2 : Hid (O = if 4096 < numV (grL2 r) then none else (rdLoop (numV (grL2 r)) (grL3 r)).map fun p => (evA (textS (numR r)) (textS (grL1 r)) p.1, 1, p.2)) := Lib.hid (by rw [HO.out]; unfold groupS; rw [if_neg hs0, HK.out, if_neg (by omega), if_neg (by omega), if_neg (by omega), if_pos rfl])
                clear HO HK H2 hs0 hs2 hs3
                generalize grL3 r = R3 at *
                generalize numV (grL2 r) = C at *
                generalize textS (grL1 r) = M at *
                generalize grL2 r = R2 at *
                generalize textS (numR r) = T at *
                generalize grL1 r = R1 at *
                generalize numR r = R0 at *
                clear z0 z1 z2 z3 z4 z5 z6 z7 z8 z9 z10 z11 zf
                go_wp2_with fail
                (with_reducible refine (HT1.out _ S1.out.rd).mono ?_)
                rintro e w2 ⟨rfl, hc, hr⟩
                have S2 := Lib.hid (S1.out.call hb hc hr)
                clear hc hr
                go_wp2_with fail
                (with_reducible refine (HT2.out _ S2.out.rd).mono ?_)
                rintro e w3 ⟨rfl, hc, hr⟩
                have S3 := Lib.hid (S2.out.call hb hc hr)
                clear hc hr
                have S4 := Lib.hid (GE.new S3.out hb #[.int .i64 1, .string T, .string M, .slice none 0 0, .int .i64 0, .int .i64 0, .string ⟨#[]⟩, .int .i64 0, .int .i64 0, .string ⟨#[]⟩, .slice none 0 0, .int .i64 0])
                clear S1 S2 HT1 HT2
                go_wp2_with fail
                generalize hV : w3.heap.size = vb at S4 ⊢
                obtain ⟨X0, hX0⟩ : ∃ X, w3.alloc (.cells #[.int .i64 1, .string T, .string M, .slice none 0 0, .int .i64 0, .int .i64 0, .string ⟨#[]⟩, .int .i64 0, .int .i64 0, .string ⟨#[]⟩, .slice none 0 0, .int .i64 0] 37) = X := ⟨_, rfl⟩
                rw [hX0] at S4 ⊢
                clear hX0 hV S3
                (with_reducible refine (HT3.out _ S4.out.g.rd).mono ?_)
                rintro e w5 ⟨rfl, hc, hr⟩
                have S5 := Lib.hid (S4.out.call hb hc hr)
                clear hc hr S4 HT3
                have z0 : w5.cell? ⟨w.heap.size, 0, none⟩ = some (.int .i64 0) := by rw [S5.out.g.res.cell]; rfl
                have z1 : w5.cell? ⟨w.heap.size, 1, none⟩ = some (.string ⟨#[]⟩) := by rw [S5.out.g.res.cell]; rfl
                have z2 : w5.cell? ⟨w.heap.size, 2, none⟩ = some (.string ⟨#[]⟩) := by rw [S5.out.g.res.cell]; rfl
                have z3 : w5.cell? ⟨w.heap.size, 3, none⟩ = some (.slice none 0 0) := by rw [S5.out.g.res.cell]; rfl
                have z4 : w5.cell? ⟨w.heap.size, 4, none⟩ = some (.int .i64 0) := by rw [S5.out.g.res.cell]; rfl
                have z5 : w5.cell? ⟨w.heap.size, 5, none⟩ = some (.int .i64 0) := by rw [S5.out.g.res.cell]; rfl
                have z6 : w5.cell? ⟨w.heap.size, 6, none⟩ = some (.string ⟨#[]⟩) := by rw [S5.out.g.res.cell]; rfl
                have z7 : w5.cell? ⟨w.heap.size, 7, none⟩ = some (.int .i64 0) := by rw [S5.out.g.res.cell]; rfl
                have z8 : w5.cell? ⟨w.heap.size, 8, none⟩ = some (.int .i64 0) := by rw [S5.out.g.res.cell]; rfl
                have z9 : w5.cell? ⟨w.heap.size, 9, none⟩ = some (.string ⟨#[]⟩) := by rw [S5.out.g.res.cell]; rfl
                have z10 : w5.cell? ⟨w.heap.size, 10, none⟩ = some (.slice none 0 0) := by rw [S5.out.g.res.cell]; rfl
                have z11 : w5.cell? ⟨w.heap.size, 11, none⟩ = some (.int .i64 0) := by rw [S5.out.g.res.cell]; rfl
                have zf := S5.out.g.res.fz
                by_cases hC : 4096 < C
                · have hCi : (4096 : Int) < (C : Int) := by omega
                  have HN : Hid (O = none) := Lib.hid (by rw [HO2.out, if_pos hC])
                  go_wp2_with fail
                  rw [HN.out]
                  exact group_end S5.out.g hb (.int .i64 0) (.string ⟨#[]⟩) (.string ⟨#[]⟩) (.slice none 0 0) (.int .i64 0) (.int .i64 0) (.string ⟨#[]⟩) (.int .i64 0) (.int .i64 0) (.string ⟨#[]⟩) (.slice none 0 0) (.int .i64 0) rfl rfl rfl rfl (fun h1 _ => ⟨h1, zE, none, none, 0, 0, 0, rfl⟩)
                · have hCi : ¬ (4096 : Int) < (C : Int) := by omega
                  have HO3 : Hid (O = (rdLoop C R3).map fun p => (evA T M p.1, 1, p.2)) := Lib.hid (by rw [HO2.out, if_neg hC])
                  clear HO2
                  go_wp2_with fail
                  clear z0 z1 z2 z3 z4 z5 z6 z7 z8 z9 z10 z11 zf
                  go_loopw [51] (fun s51 wr => ∃ (i : Nat) (acc : List V) (ri : RS) (vq : Value), i ≤ C ∧ s51 = .int .i64 i ∧ Hid (acc.length = i) ∧ ri.s.size ≤ 1048576 ∧ Hid (Sane ri) ∧ Hid (GE w b wr ri vb #[.int .i64 1, .string T, .string M, vq, .int .i64 0, .int .i64 0, .string ⟨#[]⟩, .int .i64 0, .int .i64 0, .string ⟨#[]⟩, .slice none 0 0, .int .i64 0]) ∧ Hid (Owned (vb + 1) 35 6 acc.length (rowsV acc) wr vq) ∧ Hid (RdTo C R3 i acc ri)) (fun s51 _ => C - (intOf s51).toNat)
                  case atStart => exact ⟨0, [], R3, .slice none 0 0, by omega, rfl, Lib.hid rfl, hs4, HS3, S5, Lib.hid (Owned.nil _ _ _ _ _), Lib.hid (RdTo.start _ _)⟩
                  case round =>
                    obtain ⟨i, acc, ri, vq, hi, rfl, HAL, hri, HSA, HS, HW, HL⟩ := hrel
                    obtain ⟨A9, c9, rfl, _⟩ := HW.out.rd.sl_inv
                    by_cases hlt : i < C
                    · have HC := Lib.hid (vread_any b ri wr HS.out.g.rd HSA.out hri)
                      obtain ⟨o, ho⟩ : ∃ o, readS ri = o := ⟨_, rfl⟩
                      rw [ho] at HC
                      have HOO := Lib.hid ho
                      clear ho
                      go_wp2_with fail
                      (with_reducible refine HC.out.mono ?_)
                      rintro e w8 ⟨hc8, hp8⟩
                      clear HC
                      cases o with
                      | none =>
                        obtain ⟨rfl, hr8⟩ := hp8
                        have S8 := Lib.hid (HS.out.call hb hc8 hr8)
                        have h8 : w.heap.size < w8.heap.size := S8.out.g.res.lt
                        clear hc8 hr8
                        have z0 : w8.cell? ⟨w.heap.size, 0, none⟩ = some (.int .i64 0) := by rw [S8.out.g.res.cell]; rfl
                        have z1 : w8.cell? ⟨w.heap.size, 1, none⟩ = some (.string ⟨#[]⟩) := by rw [S8.out.g.res.cell]; rfl
                        have z2 : w8.cell? ⟨w.heap.size, 2, none⟩ = some (.string ⟨#[]⟩) := by rw [S8.out.g.res.cell]; rfl
                        have z3 : w8.cell? ⟨w.heap.size, 3, none⟩ = some (.slice none 0 0) := by rw [S8.out.g.res.cell]; rfl
                        have z4 : w8.cell? ⟨w.heap.size, 4, none⟩ = some (.int .i64 0) := by rw [S8.out.g.res.cell]; rfl
                        have z5 : w8.cell? ⟨w.heap.size, 5, none⟩ = some (.int .i64 0) := by rw [S8.out.g.res.cell]; rfl
                        have z6 : w8.cell? ⟨w.heap.size, 6, none⟩ = some (.string ⟨#[]⟩) := by rw [S8.out.g.res.cell]; rfl
                        have z7 : w8.cell? ⟨w.heap.size, 7, none⟩ = some (.int .i64 0) := by rw [S8.out.g.res.cell]; rfl
                        have z8 : w8.cell? ⟨w.heap.size, 8, none⟩ = some (.int .i64 0) := by rw [S8.out.g.res.cell]; rfl
                        have z9 : w8.cell? ⟨w.heap.size, 9, none⟩ = some (.string ⟨#[]⟩) := by rw [S8.out.g.res.cell]; rfl
                        have z10 : w8.cell? ⟨w.heap.size, 10, none⟩ = some (.slice none 0 0) := by rw [S8.out.g.res.cell]; rfl
                        have z11 : w8.cell? ⟨w.heap.size, 11, none⟩ = some (.int .i64 0) := by rw [S8.out.g.res.cell]; rfl
                        have zf := S8.out.g.res.fz
                        have HN : Hid (O = none) := Lib.hid (by rw [HO3.out, HL.out.stop hlt HOO.out]; rfl)
                        go_wp2_with fail
                        rw [HN.out]
                        exact group_endA S8.out.g hb (.int .i64 0) (.string ⟨#[]⟩) (.string ⟨#[]⟩) (.slice none 0 0) (.int .i64 0) (.int .i64 0) (.string ⟨#[]⟩) (.int .i64 0) (.int .i64 0) (.string ⟨#[]⟩) (.slice none 0 0) (.int .i64 0) rfl rfl rfl rfl (fun h1 _ => ⟨h1, zE, none, none, 0, 0, 0, rfl⟩)
                      | some p =>
                        obtain ⟨x, r8⟩ := p
                        obtain ⟨A8, c8, rfl, hx8, hr8⟩ := hp8
                        have hnx := readS_next HSA.out hri HOO.out
                        have S8 := Lib.hid (HS.out.call hb hc8 hr8)
                        have hvb := HS.out.vb
                        have hvl := HS.out.v.lt
                        have W8 := Lib.hid (HW.out.chg hc8 (fun j hj => by omega))
                        have hsz := hc8.size
                        have HOB := Lib.hid HW.out.below_own
                        have hB : Below w8.heap.size w8 ((w8.alloc (.cells #[.int .i64 x.kind, .string x.t, .int .i64 x.n, .int .i64 x.m, .string x.s, .slice A8 x.l.length c8] 35)).alloc (.cells #[.int .i64 x.kind, .string x.t, .int .i64 x.n, .int .i64 x.m, .string x.s, .slice A8 x.l.length c8] 35)) := ((Below.refl _ _).alloc (Nat.le_refl _) _).alloc (by simp) _
                        have HB := Lib.hid hB
                        have HXO := Lib.hid (W8.out.below hB)
                        have HX8 := Lib.hid (hx8.below hB (fun b hb => hb.2))
                        have v3 : w8.cell? ⟨vb, 3, none⟩ = some (.slice A9 acc.length c9) := by rw [S8.out.v.cell]; rfl
                        have h8 : vb < w8.heap.size := S8.out.v.lt
                        have HL2 := Lib.hid (HL.out.step hlt HOO.out)
                        have HSA8 := Lib.hid hnx.1
                        have hr8s := hnx.2.1
                        clear hx8 hr8 hc8 hB hnx
                        go_wp2_with (at_builtin; refine wp_append_val rfl _ _ rfl (vb + 1) ?cy1 (.slice A9 acc.length c9) acc rfl HXO.out ⟨w8.heap.size + 1, 0, none⟩ 1 x A8 c8 rfl ?cy2 ?cy3 ?cy4 ?_)
                        case cy1 => simp; omega
                        case cy2 =>
                          intro j u hj
                          rw [Addr.add_lit, Nat.zero_add, show w8.heap.size + 1 = (w8.alloc (.cells #[.int .i64 x.kind, .string x.t, .int .i64 x.n, .int .i64 x.m, .string x.s, .slice A8 x.l.length c8] 35)).heap.size by simp, cell_new]
                          exact List.getElem?_toArray.trans hj
                        case cy3 =>
                          refine HX8.out.weaken (fun q hq => ⟨⟨by have := hq.1; omega, by have := hq.2; simp; omega⟩, fun h => ?_⟩)
                          have := (HOB.out q h.symm).2
                          have := hq.1
                          omega
                        case cy4 => rw [HAL.out]; omega
                        intro v' w10 hO10 hg10
                        obtain ⟨A10, c10, rfl, _⟩ := hO10.rd.sl_inv
                        have hch : Chg (fun k => vb < k) w8 w10 := (Chg.of_below HB.out).next (Chg.of_grown hg10 (fun k hk => by have := (HOB.out k hk).1; omega))
                        have S10 := Lib.hid (S8.out.later hb hch)
                        have y3 : w10.cell? ⟨vb, 3, none⟩ = some (.slice A9 acc.length c9) := by rw [S10.out.v.cell]; rfl
                        have yf := S10.out.v.fz
                        have hal2 : (acc ++ [x]).length = acc.length + 1 := by simp
                        have S11 : Hid (GE w b (w10.setCell ⟨vb, 3, none⟩ (.slice A10 (acc.length + 1) c10)) r8 vb #[.int .i64 1, .string T, .string M, .slice A10 (acc.length + 1) c10, .int .i64 0, .int .i64 0, .string ⟨#[]⟩, .int .i64 0, .int .i64 0, .string ⟨#[]⟩, .slice none 0 0, .int .i64 0]) := Lib.hid (by simpa using S10.out.store hb 3 (.slice A10 (acc.length + 1) c10))
                        have W11 : Hid (Owned (vb + 1) 35 6 (acc ++ [x]).length (rowsV (acc ++ [x])) (w10.setCell ⟨vb, 3, none⟩ (.slice A10 (acc.length + 1) c10)) (.slice A10 (acc.length + 1) c10)) := Lib.hid (by rw [hal2]; exact hO10.chg ((Chg.refl (fun k => k = vb) w10).setCell (p := ⟨vb, 3, none⟩) (.inl rfl) (.slice A10 (acc.length + 1) c10)) (fun j hj => by omega))
                        have HAL2 : Hid ((acc ++ [x]).length = i + 1) := Lib.hid (by simp [HAL.out])
                        clear hO10 hg10 hch hal2
                        go_wp2_with fail
                        exact ⟨⟨i + 1, acc ++ [x], r8, _, by omega, by go_num, HAL2, by omega, HSA8, S11, W11, HL2⟩, by simp [intOf]; omega⟩
                    · obtain rfl : i = C := by omega
                      have HN : Hid (O = some (evA T M acc, 1, ri)) := Lib.hid (by rw [HO3.out, HL.out.done]; rfl)
                      have z0 : wr.cell? ⟨w.heap.size, 0, none⟩ = some (.int .i64 0) := by rw [HS.out.g.res.cell]; rfl
                      have z1 : wr.cell? ⟨w.heap.size, 1, none⟩ = some (.string ⟨#[]⟩) := by rw [HS.out.g.res.cell]; rfl
                      have z2 : wr.cell? ⟨w.heap.size, 2, none⟩ = some (.string ⟨#[]⟩) := by rw [HS.out.g.res.cell]; rfl
                      have z3 : wr.cell? ⟨w.heap.size, 3, none⟩ = some (.slice none 0 0) := by rw [HS.out.g.res.cell]; rfl
                      have z4 : wr.cell? ⟨w.heap.size, 4, none⟩ = some (.int .i64 0) := by rw [HS.out.g.res.cell]; rfl
                      have z5 : wr.cell? ⟨w.heap.size, 5, none⟩ = some (.int .i64 0) := by rw [HS.out.g.res.cell]; rfl
                      have z6 : wr.cell? ⟨w.heap.size, 6, none⟩ = some (.string ⟨#[]⟩) := by rw [HS.out.g.res.cell]; rfl
                      have z7 : wr.cell? ⟨w.heap.size, 7, none⟩ = some (.int .i64 0) := by rw [HS.out.g.res.cell]; rfl
                      have z8 : wr.cell? ⟨w.heap.size, 8, none⟩ = some (.int .i64 0) := by rw [HS.out.g.res.cell]; rfl
                      have z9 : wr.cell? ⟨w.heap.size, 9, none⟩ = some (.string ⟨#[]⟩) := by rw [HS.out.g.res.cell]; rfl
                      have z10 : wr.cell? ⟨w.heap.size, 10, none⟩ = some (.slice none 0 0) := by rw [HS.out.g.res.cell]; rfl
                      have z11 : wr.cell? ⟨w.heap.size, 11, none⟩ = some (.int .i64 0) := by rw [HS.out.g.res.cell]; rfl
                      have zf := HS.out.g.res.fz
                      have v0 : wr.cell? ⟨vb, 0, none⟩ = some (.int .i64 1) := by rw [HS.out.v.cell]; rfl
                      have v1 : wr.cell? ⟨vb, 1, none⟩ = some (.string T) := by rw [HS.out.v.cell]; rfl
                      have v2 : wr.cell? ⟨vb, 2, none⟩ = some (.string M) := by rw [HS.out.v.cell]; rfl
                      have v3 : wr.cell? ⟨vb, 3, none⟩ = some (.slice A9 acc.length c9) := by rw [HS.out.v.cell]; rfl
                      have v4 : wr.cell? ⟨vb, 4, none⟩ = some (.int .i64 0) := by rw [HS.out.v.cell]; rfl
                      have v5 : wr.cell? ⟨vb, 5, none⟩ = some (.int .i64 0) := by rw [HS.out.v.cell]; rfl
                      have v6 : wr.cell? ⟨vb, 6, none⟩ = some (.string ⟨#[]⟩) := by rw [HS.out.v.cell]; rfl
                      have v7 : wr.cell? ⟨vb, 7, none⟩ = some (.int .i64 0) := by rw [HS.out.v.cell]; rfl
                      have v8 : wr.cell? ⟨vb, 8, none⟩ = some (.int .i64 0) := by rw [HS.out.v.cell]; rfl
                      have v9 : wr.cell? ⟨vb, 9, none⟩ = some (.string ⟨#[]⟩) := by rw [HS.out.v.cell]; rfl
                      have v10 : wr.cell? ⟨vb, 10, none⟩ = some (.slice none 0 0) := by rw [HS.out.v.cell]; rfl
                      have v11 : wr.cell? ⟨vb, 11, none⟩ = some (.int .i64 0) := by rw [HS.out.v.cell]; rfl
                      go_wp2_with fail
                      rw [HN.out]
                      exact group_end HS.out.g hb (.int .i64 1) (.string T) (.string M) (.slice A9 acc.length c9) (.int .i64 0) (.int .i64 0) (.string ⟨#[]⟩) (.int .i64 0) (.int .i64 0) (.string ⟨#[]⟩) (.slice none 0 0) (.int .i64 0) rfl rfl rfl rfl (fun h1 h2 => ⟨h1, A9, none, c9, 0, rfl, ((twelve_one (w := wr) (g := w.heap.size) (.int .i64 1) (.string T) (.string M) (.slice A9 acc.length c9) (.int .i64 0) (.int .i64 0) (.string ⟨#[]⟩) (.int .i64 0) (.int .i64 0) (.string ⟨#[]⟩) (.slice none 0 0) (.int .i64 0)).rd (ok := Bt (vb + 1) wr.heap.size) (fun q hq => ⟨hq.2, by have := hq.1; have := HS.out.vb; omega⟩) HW.out.rd).weaken (fun q hq => ⟨by have := hq.1; have := HS.out.vb; omega, Nat.lt_of_lt_of_le hq.2 (twelve_one (w := wr) (g := w.heap.size) (.int .i64 1) (.string T) (.string M) (.slice A9 acc.length c9) (.int .i64 0) (.int .i64 0) (.string ⟨#[]⟩) (.int .i64 0) (.int .i64 0) (.string ⟨#[]⟩) (.slice none 0 0) (.int .i64 0)).size⟩), Rd.sl_nil, h2⟩)
              · have b1 : ((K : Int) == 1) = false := by rw [beq_eq_false_iff_ne]; omega
                have k4 : K = 4 := by omega
                have b4 : ((K : Int) == 4) = true := by simp [k4]
                subst k4
                have hs2 : (grL1 r).s.size ≤ 1048576 := Nat.le_trans (textR_size (numR r)) hs1
                have hs3 : (grL2 r).s.size ≤ 1048576 := Nat.le_trans (textR_size (grL1 r)) hs2
                have hs4 : (grL3 r).s.size ≤ 1048576 := Nat.le_trans (numR_size (grL2 r)) hs3
                have HS3 : Hid (Sane (grL3 r)) := Lib.hid (sane_num (r := grL2 r) sane_text)
                have HT1 : Hid (∀ W, RdrAt W b (numR r) → Calls Tryz.prog 63 #[.pointer (some ⟨b, 0, none⟩)] W (RPost b (grL1 r) (.string (textS (numR r))) W)) := Lib.hid (fun W h => rtext_any b (numR r) W h (by omega))
                have HT2 : Hid (∀ W, RdrAt W b (grL1 r) → Calls Tryz.prog 63 #[.pointer (some ⟨b, 0, none⟩)] W (RPost b (grL2 r) (.string (textS (grL1 r))) W)) := Lib.hid (fun W h => rtext_any b (grL1 r) W h (by omega))
                have HT3 : Hid (∀ W, RdrAt W b (grL2 r) → Calls Tryz.prog 32 #[.pointer (some ⟨b, 0, none⟩)] W (RPost b (grL3 r) (.int .i64 (numV (grL2 r))) W)) := Lib.hid (fun W h => rnum_any b (grL2 r) W h (by omega))
                have HO2 : Hid (O = if 4096 < numV (grL2 r) then none else (rdLoop (numV (grL2 r)) (grL3 r)).bind fun p => (readS (numR p.2)).map fun q => (evB (textS (numR r)) (textS (grL1 r)) p.1 (numV p.2) q.1, 1, q.2)) := Lib.hid (by rw [HO.out]; unfold groupS; rw [if_neg hs0, HK.out, if_neg (by omega), if_neg (by omega), if_neg (by omega), if_neg (by omega), if_pos rfl])
                clear HO HK H2 hs0 hs2 hs3
                generalize grL3 r = R3 at *
                generalize numV (grL2 r) = C at *
                generalize textS (grL1 r) = M at *
                generalize grL2 r = R2 at *
                generalize textS (numR r) = T at *
                generalize grL1 r = R1 at *
                generalize numR r = R0 at *
                clear z0 z1 z2 z3 z4 z5 z6 z7 z8 z9 z10 z11 zf
                go_wp2_with fail
                (with_reducible refine (HT1.out _ S1.out.rd).mono ?_)
                rintro e w2 ⟨rfl, hc, hr⟩
                have S2 := Lib.hid (S1.out.call hb hc hr)
                clear hc hr
                go_wp2_with fail
                (with_reducible refine (HT2.out _ S2.out.rd).mono ?_)
                rintro e w3 ⟨rfl, hc, hr⟩
                have S3 := Lib.hid (S2.out.call hb hc hr)
                clear hc hr
                have S4 := Lib.hid (GE.new S3.out hb #[.int .i64 4, .string T, .string M, .slice none 0 0, .int .i64 0, .int .i64 0, .string ⟨#[]⟩, .int .i64 0, .int .i64 0, .string ⟨#[]⟩, .slice none 0 0, .int .i64 0])
                clear S1 S2 HT1 HT2
                go_wp2_with fail
                generalize hV : w3.heap.size = vb at S4 ⊢
                obtain ⟨X0, hX0⟩ : ∃ X, w3.alloc (.cells #[.int .i64 4, .string T, .string M, .slice none 0 0, .int .i64 0, .int .i64 0, .string ⟨#[]⟩, .int .i64 0, .int .i64 0, .string ⟨#[]⟩, .slice none 0 0, .int .i64 0] 37) = X := ⟨_, rfl⟩
                rw [hX0] at S4 ⊢
                clear hX0 hV S3
                (with_reducible refine (HT3.out _ S4.out.g.rd).mono ?_)
                rintro e w5 ⟨rfl, hc, hr⟩
                have S5 := Lib.hid (S4.out.call hb hc hr)
                clear hc hr S4 HT3
                have z0 : w5.cell? ⟨w.heap.size, 0, none⟩ = some (.int .i64 0) := by rw [S5.out.g.res.cell]; rfl
                have z1 : w5.cell? ⟨w.heap.size, 1, none⟩ = some (.string ⟨#[]⟩) := by rw [S5.out.g.res.cell]; rfl
                have z2 : w5.cell? ⟨w.heap.size, 2, none⟩ = some (.string ⟨#[]⟩) := by rw [S5.out.g.res.cell]; rfl
                have z3 : w5.cell? ⟨w.heap.size, 3, none⟩ = some (.slice none 0 0) := by rw [S5.out.g.res.cell]; rfl
                have z4 : w5.cell? ⟨w.heap.size, 4, none⟩ = some (.int .i64 0) := by rw [S5.out.g.res.cell]; rfl
                have z5 : w5.cell? ⟨w.heap.size, 5, none⟩ = some (.int .i64 0) := by rw [S5.out.g.res.cell]; rfl
                have z6 : w5.cell? ⟨w.heap.size, 6, none⟩ = some (.string ⟨#[]⟩) := by rw [S5.out.g.res.cell]; rfl
                have z7 : w5.cell? ⟨w.heap.size, 7, none⟩ = some (.int .i64 0) := by rw [S5.out.g.res.cell]; rfl
                have z8 : w5.cell? ⟨w.heap.size, 8, none⟩ = some (.int .i64 0) := by rw [S5.out.g.res.cell]; rfl
                have z9 : w5.cell? ⟨w.heap.size, 9, none⟩ = some (.string ⟨#[]⟩) := by rw [S5.out.g.res.cell]; rfl
                have z10 : w5.cell? ⟨w.heap.size, 10, none⟩ = some (.slice none 0 0) := by rw [S5.out.g.res.cell]; rfl
                have z11 : w5.cell? ⟨w.heap.size, 11, none⟩ = some (.int .i64 0) := by rw [S5.out.g.res.cell]; rfl
                have zf := S5.out.g.res.fz
                by_cases hC : 4096 < C
                · have hCi : (4096 : Int) < (C : Int) := by omega
                  have HN : Hid (O = none) := Lib.hid (by rw [HO2.out, if_pos hC])
                  go_wp2_with fail
                  rw [HN.out]
                  exact group_end S5.out.g hb (.int .i64 0) (.string ⟨#[]⟩) (.string ⟨#[]⟩) (.slice none 0 0) (.int .i64 0) (.int .i64 0) (.string ⟨#[]⟩) (.int .i64 0) (.int .i64 0) (.string ⟨#[]⟩) (.slice none 0 0) (.int .i64 0) rfl rfl rfl rfl (fun h1 _ => ⟨h1, zE, none, none, 0, 0, 0, rfl⟩)
                · have hCi : ¬ (4096 : Int) < (C : Int) := by omega
                  have HO3 : Hid (O = (rdLoop C R3).bind fun p => (readS (numR p.2)).map fun q => (evB T M p.1 (numV p.2) q.1, 1, q.2)) := Lib.hid (by rw [HO2.out, if_neg hC])
                  clear HO2
                  go_wp2_with fail
                  clear z0 z1 z2 z3 z4 z5 z6 z7 z8 z9 z10 z11 zf
                  go_loopw [51] (fun s51 wr => ∃ (i : Nat) (acc : List V) (ri : RS) (vq : Value), i ≤ C ∧ s51 = .int .i64 i ∧ Hid (acc.length = i) ∧ ri.s.size ≤ 1048576 ∧ Hid (Sane ri) ∧ Hid (GE w b wr ri vb #[.int .i64 4, .string T, .string M, vq, .int .i64 0, .int .i64 0, .string ⟨#[]⟩, .int .i64 0, .int .i64 0, .string ⟨#[]⟩, .slice none 0 0, .int .i64 0]) ∧ Hid (Owned (vb + 1) 35 6 acc.length (rowsV acc) wr vq) ∧ Hid (RdTo C R3 i acc ri)) (fun s51 _ => C - (intOf s51).toNat)
                  case atStart => exact ⟨0, [], R3, .slice none 0 0, by omega, rfl, Lib.hid rfl, hs4, HS3, S5, Lib.hid (Owned.nil _ _ _ _ _), Lib.hid (RdTo.start _ _)⟩
                  case round =>
                    obtain ⟨i, acc, ri, vq, hi, rfl, HAL, hri, HSA, HS, HW, HL⟩ := hrel
                    obtain ⟨A9, c9, rfl, _⟩ := HW.out.rd.sl_inv
                    by_cases hlt : i < C
                    · have HC := Lib.hid (vread_any b ri wr HS.out.g.rd HSA.out hri)
                      obtain ⟨o, ho⟩ : ∃ o, readS ri = o := ⟨_, rfl⟩
                      rw [ho] at HC
                      have HOO := Lib.hid ho
                      clear ho
                      go_wp2_with fail
                      (with_reducible refine HC.out.mono ?_)
                      rintro e w8 ⟨hc8, hp8⟩
                      clear HC
                      cases o with
                      | none =>
                        obtain ⟨rfl, hr8⟩ := hp8
                        have S8 := Lib.hid (HS.out.call hb hc8 hr8)
                        have h8 : w.heap.size < w8.heap.size := S8.out.g.res.lt
                        clear hc8 hr8
                        have z0 : w8.cell? ⟨w.heap.size, 0, none⟩ = some (.int .i64 0) := by rw [S8.out.g.res.cell]; rfl
                        have z1 : w8.cell? ⟨w.heap.size, 1, none⟩ = some (.string ⟨#[]⟩) := by rw [S8.out.g.res.cell]; rfl
                        have z2 : w8.cell? ⟨w.heap.size, 2, none⟩ = some (.string ⟨#[]⟩) := by rw [S8.out.g.res.cell]; rfl
                        have z3 : w8.cell? ⟨w.heap.size, 3, none⟩ = some (.slice none 0 0) := by rw [S8.out.g.res.cell]; rfl
                        have z4 : w8.cell? ⟨w.heap.size, 4, none⟩ = some (.int .i64 0) := by rw [S8.out.g.res.cell]; rfl
                        have z5 : w8.cell? ⟨w.heap.size, 5, none⟩ = some (.int .i64 0) := by rw [S8.out.g.res.cell]; rfl
                        have z6 : w8.cell? ⟨w.heap.size, 6, none⟩ = some (.string ⟨#[]⟩) := by rw [S8.out.g.res.cell]; rfl
                        have z7 : w8.cell? ⟨w.heap.size, 7, none⟩ = some (.int .i64 0) := by rw [S8.out.g.res.cell]; rfl
                        have z8 : w8.cell? ⟨w.heap.size, 8, none⟩ = some (.int .i64 0) := by rw [S8.out.g.res.cell]; rfl
                        have z9 : w8.cell? ⟨w.heap.size, 9, none⟩ = some (.string ⟨#[]⟩) := by rw [S8.out.g.res.cell]; rfl
                        have z10 : w8.cell? ⟨w.heap.size, 10, none⟩ = some (.slice none 0 0) := by rw [S8.out.g.res.cell]; rfl
                        have z11 : w8.cell? ⟨w.heap.size, 11, none⟩ = some (.int .i64 0) := by rw [S8.out.g.res.cell]; rfl
                        have zf := S8.out.g.res.fz
                        have HN : Hid (O = none) := Lib.hid (by rw [HO3.out, HL.out.stop hlt HOO.out]; rfl)
                        go_wp2_with fail
                        rw [HN.out]
                        exact group_endA S8.out.g hb (.int .i64 0) (.string ⟨#[]⟩) (.string ⟨#[]⟩) (.slice none 0 0) (.int .i64 0) (.int .i64 0) (.string ⟨#[]⟩) (.int .i64 0) (.int .i64 0) (.string ⟨#[]⟩) (.slice none 0 0) (.int .i64 0) rfl rfl rfl rfl (fun h1 _ => ⟨h1, zE, none, none, 0, 0, 0, rfl⟩)
                      | some p =>
                        obtain ⟨x, r8⟩ := p
                        obtain ⟨A8, c8, rfl, hx8, hr8⟩ := hp8
                        have hnx := readS_next HSA.out hri HOO.out
                        have S8 := Lib.hid (HS.out.call hb hc8 hr8)
                        have hvb := HS.out.vb
                        have hvl := HS.out.v.lt
                        have W8 := Lib.hid (HW.out.chg hc8 (fun j hj => by omega))
                        have hsz := hc8.size
                        have HOB := Lib.hid HW.out.below_own
                        have hB : Below w8.heap.size w8 ((w8.alloc (.cells #[.int .i64 x.kind, .string x.t, .int .i64 x.n, .int .i64 x.m, .string x.s, .slice A8 x.l.length c8] 35)).alloc (.cells #[.int .i64 x.kind, .string x.t, .int .i64 x.n, .int .i64 x.m, .string x.s, .slice A8 x.l.length c8] 35)) := ((Below.refl _ _).alloc (Nat.le_refl _) _).alloc (by simp) _
                        have HB := Lib.hid hB
                        have HXO := Lib.hid (W8.out.below hB)
                        have HX8 := Lib.hid (hx8.below hB (fun b hb => hb.2))
                        have v3 : w8.cell? ⟨vb, 3, none⟩ = some (.slice A9 acc.length c9) := by rw [S8.out.v.cell]; rfl
                        have h8 : vb < w8.heap.size := S8.out.v.lt
                        have HL2 := Lib.hid (HL.out.step hlt HOO.out)
                        have HSA8 := Lib.hid hnx.1
                        have hr8s := hnx.2.1
                        clear hx8 hr8 hc8 hB hnx
                        go_wp2_with (at_builtin; refine wp_append_val rfl _ _ rfl (vb + 1) ?cz1 (.slice A9 acc.length c9) acc rfl HXO.out ⟨w8.heap.size + 1, 0, none⟩ 1 x A8 c8 rfl ?cz2 ?cz3 ?cz4 ?_)
                        case cz1 => simp; omega
                        case cz2 =>
                          intro j u hj
                          rw [Addr.add_lit, Nat.zero_add, show w8.heap.size + 1 = (w8.alloc (.cells #[.int .i64 x.kind, .string x.t, .int .i64 x.n, .int .i64 x.m, .string x.s, .slice A8 x.l.length c8] 35)).heap.size by simp, cell_new]
                          exact List.getElem?_toArray.trans hj
                        case cz3 =>
                          refine HX8.out.weaken (fun q hq => ⟨⟨by have := hq.1; omega, by have := hq.2; simp; omega⟩, fun h => ?_⟩)
                          have := (HOB.out q h.symm).2
                          have := hq.1
                          omega
                        case cz4 => rw [HAL.out]; omega
                        intro v' w10 hO10 hg10
                        obtain ⟨A10, c10, rfl, _⟩ := hO10.rd.sl_inv
                        have hch : Chg (fun k => vb < k) w8 w10 := (Chg.of_below HB.out).next (Chg.of_grown hg10 (fun k hk => by have := (HOB.out k hk).1; omega))
                        have S10 := Lib.hid (S8.out.later hb hch)
                        have y3 : w10.cell? ⟨vb, 3, none⟩ = some (.slice A9 acc.length c9) := by rw [S10.out.v.cell]; rfl
                        have yf := S10.out.v.fz
                        have hal2 : (acc ++ [x]).length = acc.length + 1 := by simp
                        have S11 : Hid (GE w b (w10.setCell ⟨vb, 3, none⟩ (.slice A10 (acc.length + 1) c10)) r8 vb #[.int .i64 4, .string T, .string M, .slice A10 (acc.length + 1) c10, .int .i64 0, .int .i64 0, .string ⟨#[]⟩, .int .i64 0, .int .i64 0, .string ⟨#[]⟩, .slice none 0 0, .int .i64 0]) := Lib.hid (by simpa using S10.out.store hb 3 (.slice A10 (acc.length + 1) c10))
                        have W11 : Hid (Owned (vb + 1) 35 6 (acc ++ [x]).length (rowsV (acc ++ [x])) (w10.setCell ⟨vb, 3, none⟩ (.slice A10 (acc.length + 1) c10)) (.slice A10 (acc.length + 1) c10)) := Lib.hid (by rw [hal2]; exact hO10.chg ((Chg.refl (fun k => k = vb) w10).setCell (p := ⟨vb, 3, none⟩) (.inl rfl) (.slice A10 (acc.length + 1) c10)) (fun j hj => by omega))
                        have HAL2 : Hid ((acc ++ [x]).length = i + 1) := Lib.hid (by simp [HAL.out])
                        clear hO10 hg10 hch hal2
                        go_wp2_with fail
                        exact ⟨⟨i + 1, acc ++ [x], r8, _, by omega, by go_num, HAL2, by omega, HSA8, S11, W11, HL2⟩, by simp [intOf]; omega⟩
                    · obtain rfl : i = C := by omega
                      have HO4 : Hid (O = (readS (numR ri)).map fun q => (evB T M acc (numV ri) q.1, 1, q.2)) := Lib.hid (by rw [HO3.out, HL.out.done]; rfl)
                      have hs5 : (numR ri).s.size ≤ 1048576 := Nat.le_trans (numR_size ri) hri
                      have HS5 : Hid (Sane (numR ri)) := Lib.hid (sane_num HSA.out)
                      have HT4 : Hid (∀ W, RdrAt W b ri → Calls Tryz.prog 32 #[.pointer (some ⟨b, 0, none⟩)] W (RPost b (numR ri) (.int .i64 (numV ri)) W)) := Lib.hid (fun W h => rnum_any b ri W h (by omega))
                      generalize numV ri = D at *
                      generalize numR ri = R5 at *
                      clear HO3 HL HSA
                      go_wp2_with fail
                      (with_reducible refine (HT4.out _ HS.out.g.rd).mono ?_)
                      rintro e w8 ⟨rfl, hc, hr⟩
                      have hvb := HS.out.vb
                      have S8 := Lib.hid (HS.out.call hb hc hr)
                      have W8 := Lib.hid (HW.out.chg hc (fun j hj => by omega))
                      have h8 : vb < w8.heap.size := S8.out.v.lt
                      have v4 : w8.cell? ⟨vb, 4, none⟩ = some (.int .i64 0) := by rw [S8.out.v.cell]; rfl
                      have vf := S8.out.v.fz
                      clear hc hr HS HW HT4
                      have S9 : Hid (GE w b (w8.setCell ⟨vb, 4, none⟩ (.int .i64 (D : Int))) R5 vb #[.int .i64 4, .string T, .string M, .slice A9 acc.length c9, .int .i64 (D : Int), .int .i64 0, .string ⟨#[]⟩, .int .i64 0, .int .i64 0, .string ⟨#[]⟩, .slice none 0 0, .int .i64 0]) := Lib.hid (by simpa using S8.out.store hb 4 (.int .i64 (D : Int)))
                      have W9 : Hid (Owned (vb + 1) 35 6 acc.length (rowsV acc) (w8.setCell ⟨vb, 4, none⟩ (.int .i64 (D : Int))) (.slice A9 acc.length c9)) := Lib.hid (W8.out.chg ((Chg.refl (fun k => k = vb) w8).setCell (p := ⟨vb, 4, none⟩) (.inl rfl) _) (fun j hj => by omega))
                      have HC := Lib.hid (vread_any b R5 (w8.setCell ⟨vb, 4, none⟩ (.int .i64 (D : Int))) S9.out.g.rd HS5.out hs5)
                      obtain ⟨o, ho⟩ : ∃ o, readS R5 = o := ⟨_, rfl⟩
                      rw [ho] at HC HO4
                      clear ho
                      go_wp2_with fail
                      (with_reducible refine HC.out.mono ?_)
                      rintro e w9 ⟨hc9, hp9⟩
                      clear HC vf v4
                      cases o with
                      | none =>
                        obtain ⟨rfl, hr9⟩ := hp9
                        obtain ⟨R9, hR9⟩ : ∃ R, RS.bad = R := ⟨_, rfl⟩
                        rw [hR9] at hr9
                        have HN : Hid (O = none) := Lib.hid (by rw [HO4.out]; rfl)
                        have S10 := Lib.hid (S9.out.call hb hc9 hr9)
                        have W10 := Lib.hid (W9.out.chg hc9 (fun j hj => by omega))
                        have h9 : vb < w9.heap.size := S10.out.v.lt
                        clear hc9 hr9
                        have v0 : w9.cell? ⟨vb, 0, none⟩ = some (.int .i64 4) := by rw [S10.out.v.cell]; rfl
                        have v1 : w9.cell? ⟨vb, 1, none⟩ = some (.string T) := by rw [S10.out.v.cell]; rfl
                        have v2 : w9.cell? ⟨vb, 2, none⟩ = some (.string M) := by rw [S10.out.v.cell]; rfl
                        have v3 : w9.cell? ⟨vb, 3, none⟩ = some (.slice A9 acc.length c9) := by rw [S10.out.v.cell]; rfl
                        have v4 : w9.cell? ⟨vb, 4, none⟩ = some (.int .i64 (D : Int)) := by rw [S10.out.v.cell]; rfl
                        have v5 : w9.cell? ⟨vb, 5, none⟩ = some (.int .i64 0) := by rw [S10.out.v.cell]; rfl
                        have v6 : w9.cell? ⟨vb, 6, none⟩ = some (.string ⟨#[]⟩) := by rw [S10.out.v.cell]; rfl
                        have v7 : w9.cell? ⟨vb, 7, none⟩ = some (.int .i64 0) := by rw [S10.out.v.cell]; rfl
                        have v8 : w9.cell? ⟨vb, 8, none⟩ = some (.int .i64 0) := by rw [S10.out.v.cell]; rfl
                        have v9 : w9.cell? ⟨vb, 9, none⟩ = some (.string ⟨#[]⟩) := by rw [S10.out.v.cell]; rfl
                        have v10 : w9.cell? ⟨vb, 10, none⟩ = some (.slice none 0 0) := by rw [S10.out.v.cell]; rfl
                        have v11 : w9.cell? ⟨vb, 11, none⟩ = some (.int .i64 0) := by rw [S10.out.v.cell]; rfl
                        have vf := S10.out.v.fz
                        have z0 : w9.cell? ⟨w.heap.size, 0, none⟩ = some (.int .i64 0) := by rw [S10.out.g.res.cell]; rfl
                        have z1 : w9.cell? ⟨w.heap.size, 1, none⟩ = some (.string ⟨#[]⟩) := by rw [S10.out.g.res.cell]; rfl
                        have z2 : w9.cell? ⟨w.heap.size, 2, none⟩ = some (.string ⟨#[]⟩) := by rw [S10.out.g.res.cell]; rfl
                        have z3 : w9.cell? ⟨w.heap.size, 3, none⟩ = some (.slice none 0 0) := by rw [S10.out.g.res.cell]; rfl
                        have z4 : w9.cell? ⟨w.heap.size, 4, none⟩ = some (.int .i64 0) := by rw [S10.out.g.res.cell]; rfl
                        have z5 : w9.cell? ⟨w.heap.size, 5, none⟩ = some (.int .i64 0) := by rw [S10.out.g.res.cell]; rfl
                        have z6 : w9.cell? ⟨w.heap.size, 6, none⟩ = some (.string ⟨#[]⟩) := by rw [S10.out.g.res.cell]; rfl
                        have z7 : w9.cell? ⟨w.heap.size, 7, none⟩ = some (.int .i64 0) := by rw [S10.out.g.res.cell]; rfl
                        have z8 : w9.cell? ⟨w.heap.size, 8, none⟩ = some (.int .i64 0) := by rw [S10.out.g.res.cell]; rfl
                        have z9 : w9.cell? ⟨w.heap.size, 9, none⟩ = some (.string ⟨#[]⟩) := by rw [S10.out.g.res.cell]; rfl
                        have z10 : w9.cell? ⟨w.heap.size, 10, none⟩ = some (.slice none 0 0) := by rw [S10.out.g.res.cell]; rfl
                        have z11 : w9.cell? ⟨w.heap.size, 11, none⟩ = some (.int .i64 0) := by rw [S10.out.g.res.cell]; rfl
                        have zf := S10.out.g.res.fz
                        have S11 : Hid (GE w b ((((((w9.setCell ⟨vb, 5, none⟩ (.int .i64 0)).setCell ⟨vb, 6, none⟩ (.string ⟨#[]⟩)).setCell ⟨vb, 7, none⟩ (.int .i64 0)).setCell ⟨vb, 8, none⟩ (.int .i64 0)).setCell ⟨vb, 9, none⟩ (.string ⟨#[]⟩)).setCell ⟨vb, 10, none⟩ (.slice none 0 0)) R9 vb #[.int .i64 4, .string T, .string M, .slice A9 acc.length c9, .int .i64 (D : Int), .int .i64 0, .string ⟨#[]⟩, .int .i64 0, .int .i64 0, .string ⟨#[]⟩, .slice none 0 0, .int .i64 0]) := Lib.hid (by simpa using ((((((S10.out.store hb 5 (.int .i64 0)).store hb 6 (.string ⟨#[]⟩)).store hb 7 (.int .i64 0)).store hb 8 (.int .i64 0)).store hb 9 (.string ⟨#[]⟩)).store hb 10 (.slice none 0 0)))
                        have C11 : Hid (Chg (fun k => k = vb) w9 ((((((w9.setCell ⟨vb, 5, none⟩ (.int .i64 0)).setCell ⟨vb, 6, none⟩ (.string ⟨#[]⟩)).setCell ⟨vb, 7, none⟩ (.int .i64 0)).setCell ⟨vb, 8, none⟩ (.int .i64 0)).setCell ⟨vb, 9, none⟩ (.string ⟨#[]⟩)).setCell ⟨vb, 10, none⟩ (.slice none 0 0))) := Lib.hid (((((((Chg.refl (fun k => k = vb) w9).setCell (p := ⟨vb, 5, none⟩) (.inl rfl) (.int .i64 0)).setCell (p := ⟨vb, 6, none⟩) (.inl rfl) (.string ⟨#[]⟩)).setCell (p := ⟨vb, 7, none⟩) (.inl rfl) (.int .i64 0)).setCell (p := ⟨vb, 8, none⟩) (.inl rfl) (.int .i64 0)).setCell (p := ⟨vb, 9, none⟩) (.inl rfl) (.string ⟨#[]⟩)).setCell (p := ⟨vb, 10, none⟩) (.inl rfl) (.slice none 0 0))
                        go_wp2_with fail
                        rw [HN.out]
                        exact group_end S11.out.g hb (.int .i64 4) (.string T) (.string M) (.slice A9 acc.length c9) (.int .i64 (D : Int)) (.int .i64 0) (.string ⟨#[]⟩) (.int .i64 0) (.int .i64 0) (.string ⟨#[]⟩) (.slice none 0 0) (.int .i64 0) rfl rfl rfl rfl (fun h1 _ => ⟨h1, ⟨4, T, M, acc, (D : Int), 0, ⟨#[]⟩, 0, 0, ⟨#[]⟩, [], 0⟩, A9, none, c9, 0, 1, rfl⟩)
                      | some p =>
                        obtain ⟨x, R9⟩ := p
                        obtain ⟨A8, c8, rfl, hx9, hr9⟩ := hp9
                        have HN : Hid (O = some (evB T M acc (D : Int) x, 1, R9)) := Lib.hid (by rw [HO4.out]; rfl)
                        have S10 := Lib.hid (S9.out.call hb hc9 hr9)
                        have W10 := Lib.hid (W9.out.chg hc9 (fun j hj => by omega))
                        have HX := Lib.hid hx9
                        have h9 : vb < w9.heap.size := S10.out.v.lt
                        clear hc9 hr9 hx9
                        have v0 : w9.cell? ⟨vb, 0, none⟩ = some (.int .i64 4) := by rw [S10.out.v.cell]; rfl
                        have v1 : w9.cell? ⟨vb, 1, none⟩ = some (.string T) := by rw [S10.out.v.cell]; rfl
                        have v2 : w9.cell? ⟨vb, 2, none⟩ = some (.string M) := by rw [S10.out.v.cell]; rfl
                        have v3 : w9.cell? ⟨vb, 3, none⟩ = some (.slice A9 acc.length c9) := by rw [S10.out.v.cell]; rfl
                        have v4 : w9.cell? ⟨vb, 4, none⟩ = some (.int .i64 (D : Int)) := by rw [S10.out.v.cell]; rfl
                        have v5 : w9.cell? ⟨vb, 5, none⟩ = some (.int .i64 0) := by rw [S10.out.v.cell]; rfl
                        have v6 : w9.cell? ⟨vb, 6, none⟩ = some (.string ⟨#[]⟩) := by rw [S10.out.v.cell]; rfl
                        have v7 : w9.cell? ⟨vb, 7, none⟩ = some (.int .i64 0) := by rw [S10.out.v.cell]; rfl
                        have v8 : w9.cell? ⟨vb, 8, none⟩ = some (.int .i64 0) := by rw [S10.out.v.cell]; rfl
                        have v9 : w9.cell? ⟨vb, 9, none⟩ = some (.string ⟨#[]⟩) := by rw [S10.out.v.cell]; rfl
                        have v10 : w9.cell? ⟨vb, 10, none⟩ = some (.slice none 0 0) := by rw [S10.out.v.cell]; rfl
                        have v11 : w9.cell? ⟨vb, 11, none⟩ = some (.int .i64 0) := by rw [S10.out.v.cell]; rfl
                        have vf := S10.out.v.fz
                        have z0 : w9.cell? ⟨w.heap.size, 0, none⟩ = some (.int .i64 0) := by rw [S10.out.g.res.cell]; rfl
                        have z1 : w9.cell? ⟨w.heap.size, 1, none⟩ = some (.string ⟨#[]⟩) := by rw [S10.out.g.res.cell]; rfl
                        have z2 : w9.cell? ⟨w.heap.size, 2, none⟩ = some (.string ⟨#[]⟩) := by rw [S10.out.g.res.cell]; rfl
                        have z3 : w9.cell? ⟨w.heap.size, 3, none⟩ = some (.slice none 0 0) := by rw [S10.out.g.res.cell]; rfl
                        have z4 : w9.cell? ⟨w.heap.size, 4, none⟩ = some (.int .i64 0) := by rw [S10.out.g.res.cell]; rfl
                        have z5 : w9.cell? ⟨w.heap.size, 5, none⟩ = some (.int .i64 0) := by rw [S10.out.g.res.cell]; rfl
                        have z6 : w9.cell? ⟨w.heap.size, 6, none⟩ = some (.string ⟨#[]⟩) := by rw [S10.out.g.res.cell]; rfl
                        have z7 : w9.cell? ⟨w.heap.size, 7, none⟩ = some (.int .i64 0) := by rw [S10.out.g.res.cell]; rfl
                        have z8 : w9.cell? ⟨w.heap.size, 8, none⟩ = some (.int .i64 0) := by rw [S10.out.g.res.cell]; rfl
                        have z9 : w9.cell? ⟨w.heap.size, 9, none⟩ = some (.string ⟨#[]⟩) := by rw [S10.out.g.res.cell]; rfl
                        have z10 : w9.cell? ⟨w.heap.size, 10, none⟩ = some (.slice none 0 0) := by rw [S10.out.g.res.cell]; rfl
                        have z11 : w9.cell? ⟨w.heap.size, 11, none⟩ = some (.int .i64 0) := by rw [S10.out.g.res.cell]; rfl
                        have zf := S10.out.g.res.fz
                        have S11 : Hid (GE w b ((((((w9.setCell ⟨vb, 5, none⟩ (.int .i64 x.kind)).setCell ⟨vb, 6, none⟩ (.string x.t)).setCell ⟨vb, 7, none⟩ (.int .i64 x.n)).setCell ⟨vb, 8, none⟩ (.int .i64 x.m)).setCell ⟨vb, 9, none⟩ (.string x.s)).setCell ⟨vb, 10, none⟩ (.slice A8 x.l.length c8)) R9 vb #[.int .i64 4, .string T, .string M, .slice A9 acc.length c9, .int .i64 (D : Int), .int .i64 x.kind, .string x.t, .int .i64 x.n, .int .i64 x.m, .string x.s, .slice A8 x.l.length c8, .int .i64 0]) := Lib.hid (by simpa using ((((((S10.out.store hb 5 (.int .i64 x.kind)).store hb 6 (.string x.t)).store hb 7 (.int .i64 x.n)).store hb 8 (.int .i64 x.m)).store hb 9 (.string x.s)).store hb 10 (.slice A8 x.l.length c8)))
                        have C11 : Hid (Chg (fun k => k = vb) w9 ((((((w9.setCell ⟨vb, 5, none⟩ (.int .i64 x.kind)).setCell ⟨vb, 6, none⟩ (.string x.t)).setCell ⟨vb, 7, none⟩ (.int .i64 x.n)).setCell ⟨vb, 8, none⟩ (.int .i64 x.m)).setCell ⟨vb, 9, none⟩ (.string x.s)).setCell ⟨vb, 10, none⟩ (.slice A8 x.l.length c8))) := Lib.hid (((((((Chg.refl (fun k => k = vb) w9).setCell (p := ⟨vb, 5, none⟩) (.inl rfl) (.int .i64 x.kind)).setCell (p := ⟨vb, 6, none⟩) (.inl rfl) (.string x.t)).setCell (p := ⟨vb, 7, none⟩) (.inl rfl) (.int .i64 x.n)).setCell (p := ⟨vb, 8, none⟩) (.inl rfl) (.int .i64 x.m)).setCell (p := ⟨vb, 9, none⟩) (.inl rfl) (.string x.s)).setCell (p := ⟨vb, 10, none⟩) (.inl rfl) (.slice A8 x.l.length c8))
                        go_wp2_with fail
                        rw [HN.out]
                        have T11 : Hid (Chg (fun k => k = w.heap.size) ((((((w9.setCell ⟨vb, 5, none⟩ (.int .i64 x.kind)).setCell ⟨vb, 6, none⟩ (.string x.t)).setCell ⟨vb, 7, none⟩ (.int .i64 x.n)).setCell ⟨vb, 8, none⟩ (.int .i64 x.m)).setCell ⟨vb, 9, none⟩ (.string x.s)).setCell ⟨vb, 10, none⟩ (.slice A8 x.l.length c8)) ((((((((((((((((((w9.setCell ⟨vb, 5, none⟩ (.int .i64 x.kind)).setCell ⟨vb, 6, none⟩ (.string x.t)).setCell ⟨vb, 7, none⟩ (.int .i64 x.n)).setCell ⟨vb, 8, none⟩ (.int .i64 x.m)).setCell ⟨vb, 9, none⟩ (.string x.s)).setCell ⟨vb, 10, none⟩ (.slice A8 x.l.length c8)).setCell ⟨w.heap.size, 0, none⟩ (.int .i64 4)).setCell ⟨w.heap.size, 1, none⟩ (.string T)).setCell ⟨w.heap.size, 2, none⟩ (.string M)).setCell ⟨w.heap.size, 3, none⟩ (.slice A9 acc.length c9)).setCell ⟨w.heap.size, 4, none⟩ (.int .i64 (D : Int))).setCell ⟨w.heap.size, 5, none⟩ (.int .i64 x.kind)).setCell ⟨w.heap.size, 6, none⟩ (.string x.t)).setCell ⟨w.heap.size, 7, none⟩ (.int .i64 x.n)).setCell ⟨w.heap.size, 8, none⟩ (.int .i64 x.m)).setCell ⟨w.heap.size, 9, none⟩ (.string x.s)).setCell ⟨w.heap.size, 10, none⟩ (.slice A8 x.l.length c8)).setCell ⟨w.heap.size, 11, none⟩ (.int .i64 0))) := Lib.hid (twelve_one (.int .i64 4) (.string T) (.string M) (.slice A9 acc.length c9) (.int .i64 (D : Int)) (.int .i64 x.kind) (.string x.t) (.int .i64 x.n) (.int .i64 x.m) (.string x.s) (.slice A8 x.l.length c8) (.int .i64 0))
                        have A12 := ((W10.out.chg C11.out (fun j hj => by omega)).chg T11.out (fun j hj => by omega)).rd
                        have B11 := C11.out.rd (ok := Bt (vb + 1) w9.heap.size) (fun q hq => ⟨hq.2, by have := hq.1; omega⟩) (HX.out.weaken (fun q hq => ⟨by have := hq.1; rw [size_setCell] at this; omega, hq.2⟩))
                        have B12 := T11.out.rd (ok := Bt (vb + 1) w9.heap.size) (fun q hq => ⟨Nat.lt_of_lt_of_le hq.2 C11.out.size, by have := hq.1; omega⟩) B11
                        exact group_end S11.out.g hb (.int .i64 4) (.string T) (.string M) (.slice A9 acc.length c9) (.int .i64 (D : Int)) (.int .i64 x.kind) (.string x.t) (.int .i64 x.n) (.int .i64 x.m) (.string x.s) (.slice A8 x.l.length c8) (.int .i64 0) rfl rfl rfl rfl (fun h1 h2 => ⟨h1, A9, A8, c9, c8, rfl, A12.weaken (fun q hq => ⟨by have := hq.1; omega, hq.2⟩), B12.weaken (fun q hq => ⟨by have := hq.1; omega, Nat.lt_of_lt_of_le hq.2 (Nat.le_trans C11.out.size T11.out.size)⟩), h2⟩)
end Go.Proofs.YtlbmfgiepcemdaaGreat
