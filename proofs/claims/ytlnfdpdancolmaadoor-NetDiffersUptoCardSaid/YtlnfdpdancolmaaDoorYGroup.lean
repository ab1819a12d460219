/- match.group: the classes of a list of requests. Conditions: those in each statement. -/
import Derived.Test.YtlnfdpdancolmaaDoorYCountRot
import Derived.Test.YtlnfdpdancolmaaDoorYSha2
import Derived.Maps.AppendAt
namespace Go.Proofs.YtlnfdpdancolmaaDoor
open Go.RowKit

/-- match.Key comes to kf at r -/
def KeyOk (kf : Req → ByteArray) (r : Req) : Prop := bulkV r.args ≤ 2097152 ∧ ∀ (W : World) (A : Option Addr) (c : Nat), Rd (Lt W.heap.size) W (vs r.args) (.slice A r.args.length c) → Row32 W 0 64 kF →
  Calls Tryd.prog 37 #[.agg #[.string r.path, .string r.name, .slice A r.args.length c, .int .i64 r.ord, .string r.reply, .int .i64 r.sent, .int .i64 r.tick, .bool r.isopen]] W fun e w' => e = .returned (.string (kf r)) ∧ Below W.heap.size W w'

theorem infoInt : (Tryd.prog.info? 3).map (fun i => (i.zero, i.size, i.bytes)) = some (some (.int .i64 0), 1, 8) := by kernel_rfl
theorem infoCls : (Tryd.prog.info? 97).map (fun i => (i.zero, i.size, i.bytes)) = some (some (.agg #[.string ⟨#[]⟩, .string ⟨#[]⟩, .slice none 0 0, .int .i64 0, .string ⟨#[]⟩, .int .i64 0, .int .i64 0, .bool false, .slice none 0 0]), 9, 128) := by kernel_rfl
theorem zeroClsSl (w : World) : (zeroValue 93).run Tryd.prog w = .ok (.slice none 0 0) w := by kernel_rfl

theorem FreeOk.own {B : Nat} {w : World} {x : Cl} (h : FreeOk true B w x) : x.fo = 0 ∧ ∃ xs, w.ownsRow B 3 1 (.slice (some ⟨x.fb, 0, none⟩) x.fl x.fc) x.fl xs ∧ ∀ u ∈ xs, ∃ n : Int, u = .int .i64 n := by
  obtain ⟨h1, h2, h3, cur, h4, h5, h6⟩ := h
  obtain ⟨h7, h8⟩ := h6 rfl
  refine ⟨h7, cur.toList.take x.fl, ⟨?_, .inr ⟨x.fb, x.fc, cur, rfl, h1, h4, h2, h3, by omega, by simp⟩⟩, fun u hu => ?_⟩
  · rw [List.length_take, Array.length_toList]; omega
  · obtain ⟨j, hj⟩ := mem_get hu
    rw [List.getElem?_take] at hj
    split at hj
    · rename_i hjl
      obtain ⟨n, hn⟩ := h5 j hjl
      rw [h7, Nat.zero_add] at hn
      rw [Array.getElem?_toList, hn] at hj
      exact ⟨n, (Option.some.inj hj).symm⟩
    · cases hj
theorem FreeOk.of_own {B : Nat} {w : World} {x : Cl} {xs : List Value} (h0 : x.fo = 0) (h : w.ownsRow B 3 1 (.slice (some ⟨x.fb, 0, none⟩) x.fl x.fc) x.fl xs) (hx : ∀ u ∈ xs, ∃ n : Int, u = .int .i64 n) : FreeOk true B w x := by
  rcases h.2 with ⟨h1, _⟩ | ⟨g, cap, cur, h1, h2, h3, h4, h5, h6, h7⟩
  · cases h1
  · injection h1 with h1 _ h1'
    injection h1 with h1
    injection h1 with h1
    subst h1 h1'
    refine ⟨h2, h4, h5, cur, h3, fun j hj => ?_, fun _ => ⟨h0, by omega⟩⟩
    have hl : xs.length = x.fl := by have := h.1; omega
    obtain ⟨n, hn⟩ := hx _ (List.getElem_mem (l := xs) (n := j) (by omega))
    refine ⟨n, ?_⟩
    rw [h0, Nat.zero_add, ← Array.getElem?_toList]
    have h8 : (cur.toList.take (x.fl * 1))[j]? = cur.toList[j]? := by rw [List.getElem?_take, if_pos (by omega)]
    rw [← h8, h7, List.getElem?_eq_getElem (by omega), hn]

def GroupPost (kf : Req → ByteArray) (l : List Req) (w : World) (e : Ending) (w' : World) : Prop := ∃ m S, e = .returned (.map (some m)) ∧ GI true w.heap.size m w' S ∧ Below w.heap.size w w' ∧ CInv kf S l ∧ SizeInv S l.length

/-- what one request does: the walk's three ways -/
def RoundPost (kf : Req → ByteArray) (B m : Nat) (p : List Req) (r : Req) (n : Nat) (w0 w' : World) : Prop := ∃ S, GI true B m w' S ∧ Below B w0 w' ∧ CInv kf S (p ++ [r]) ∧ SizeInv S (n + 1)

theorem way_found {kf : Req → ByteArray} {B m n ei ci : Nat} {w0 w w1 : World} {S : List Ent} {p : List Req} {r : Req} {e : Ent} {x : Cl} {v' : Value} {xs : List Value} {i : Int} (h : GI true B m w S) (hb : Below B w0 w) (hc : CInv kf S p) (hz : SizeInv S n) (hk : Compat kf)
    (he : S[ei]? = some e) (hek : e.key = kf r) (hx : e.cls[ci]? = some x) (hfirst : ∀ (j : Nat) (y : Cl), j < ci → e.cls[j]? = some y → alikeB y.first r = false) (hal : alikeB x.first r = true)
    (hxs : ∀ u ∈ xs, ∃ n : Int, u = .int .i64 n) (hown : w1.ownsRow B 3 1 v' (x.fl + 1) (xs ++ [.int .i64 i])) (hg : w.grownBy w1 (some x.fb)) (hat : v'.ownBlock = some x.fb ∨ (∃ q, v'.ownBlock = some q ∧ w.heap.size ≤ q)) :
    RoundPost kf B m p r n w0 (w1.setCell ⟨e.g, ci * 9 + 8, none⟩ v') := by
  have hee := h.2.1 e (List.mem_of_getElem? he)
  have hxe := hee.2 x (List.mem_of_getElem? hx)
  obtain ⟨g', cap', rfl, hgb, hgB, hgl⟩ := own_form hown (by omega)
  have hfb : g' = x.fb ∨ w.heap.size ≤ g' := by
    rw [hgb] at hat
    rcases hat with h | ⟨q, h, h'⟩
    · exact .inl (Option.some.inj h)
    · have := Option.some.inj h; exact .inr (by omega)
  have hf : FreeOk true B w1 { x with fb := g', fo := 0, fl := x.fl + 1, fc := cap' } := FreeOk.of_own rfl hown (fun u hu => by
    rcases List.mem_append.1 hu with hu | hu
    · exact hxs u hu
    · simp at hu; exact ⟨i, hu⟩)
  have hG := h.setFree he hx hg { x with fb := g', fo := 0, fl := x.fl + 1, fc := cap' } rfl rfl rfl hfb hf
  refine ⟨_, hG, ?_, hc.found h.2.2.1 he hek hk hx hfirst hal rfl rfl, fun f hf => ?_⟩
  · have hm := h.1.lt
    have hB := h.2.2.2
    exact ((hb.grown hg (by omega) (fun k hk => by injection hk with hk; have := hxe.2.1; omega))).setCell (p := ⟨e.g, ci * 9 + 8, none⟩) hee.row.1 _
  · obtain ⟨j, hj⟩ := mem_get hf
    rcases set_get hj with ⟨rfl, rfl⟩ | ⟨_, hj⟩
    · have hze := hz e (List.mem_of_getElem? he)
      refine ⟨by show (e.cls.set ci _).length ≤ _; rw [List.length_set]; omega, fun y hy => ?_⟩
      obtain ⟨d, hd⟩ := mem_get hy
      rcases set_get hd with ⟨rfl, rfl⟩ | ⟨_, hd⟩
      · have := hze.2 x (List.mem_of_getElem? hx)
        show x.fl + 1 ≤ n + 1
        omega
      · have := hze.2 y (List.mem_of_getElem? hd); omega
    · have hze := hz f (List.mem_of_getElem? hj)
      exact ⟨by omega, fun y hy => by have := hze.2 y hy; omega⟩
theorem way_more {kf : Req → ByteArray} {B m n ei : Nat} {w0 w w1 w2 : World} {S : List Ent} {p : List Req} {r : Req} {e : Ent} {x : Cl} {v' : Value} (h : GI true B m w S) (hb : Below B w0 w) (hc : CInv kf S p) (hz : SizeInv S n) (hk : Compat kf)
    (he : S[ei]? = some e) (hek : e.key = kf r) (hno : ∀ y ∈ e.cls, alikeB y.first r = false) (hx : x.Ok true B w) (hxf : ∀ f ∈ S, ∀ y ∈ f.cls, y.fb ≠ x.fb) (h1 : x.first = r) (h2 : x.fl = 1)
    (hown : w1.ownsRow B 97 9 v' (e.cls.length + 1) (e.cls.flatMap Cl.cells ++ x.cells)) (hg : w.grownBy w1 (some e.g)) (hat : v'.ownBlock = some e.g ∨ v'.ownBlock = some w.heap.size)
    (hg2 : w1.grownBy w2 (some m)) (hm2 : MapIs w2 m (mput (S.map fun e => (e.key, e.v)) e.key v')) : RoundPost kf B m p r n w0 w2 := by
  obtain ⟨g', cap', _, hG⟩ := h.putOld he x hx hxf hown hg hat hg2 hm2
  have hee := h.2.1 e (List.mem_of_getElem? he)
  have hm := h.1.lt
  have hB := h.2.2.2
  refine ⟨_, hG, ?_, hc.more h.2.2.1 he hek hk hno h1 h2 _ _, fun f hf => ?_⟩
  · have h3 := hb.grown hg (by omega) (fun k hk => by injection hk with hk; have := hee.row.1; omega)
    exact h3.grown hg2 (by have := hg.size; omega) (fun k hk => by injection hk with hk; omega)
  · obtain ⟨j, hj⟩ := mem_get hf
    rcases set_get hj with ⟨rfl, rfl⟩ | ⟨_, hj⟩
    · have hze := hz e (List.mem_of_getElem? he)
      refine ⟨by show (e.cls ++ [x]).length ≤ _; rw [List.length_append, List.length_singleton]; omega, fun y hy => ?_⟩
      rcases List.mem_append.1 hy with hy | hy
      · have := hze.2 y hy; omega
      · simp at hy; subst hy; omega
    · have hze := hz f (List.mem_of_getElem? hj)
      exact ⟨by omega, fun y hy => by have := hze.2 y hy; omega⟩
theorem way_first {kf : Req → ByteArray} {B m n : Nat} {w0 w w1 w2 : World} {S : List Ent} {p : List Req} {r : Req} {x : Cl} {v' : Value} (h : GI true B m w S) (hb : Below B w0 w) (hc : CInv kf S p) (hz : SizeInv S n) (hk : Compat kf)
    (hno : ∀ f ∈ S, f.key ≠ kf r) (hx : x.Ok true B w) (hxf : ∀ f ∈ S, ∀ y ∈ f.cls, y.fb ≠ x.fb) (h1 : x.first = r) (h2 : x.fl = 1)
    (hown : w1.ownsRow B 97 9 v' (0 + 1) ([] ++ x.cells)) (hg : w.grownBy w1 none) (hat : v'.ownBlock = none ∨ v'.ownBlock = some w.heap.size)
    (hg2 : w1.grownBy w2 (some m)) (hm2 : MapIs w2 m (mput (S.map fun e => (e.key, e.v)) (kf r) v')) : RoundPost kf B m p r n w0 w2 := by
  obtain ⟨g', cap', _, hG⟩ := h.putNew hno x hx hxf hown hg hat hg2 hm2
  have hm := h.1.lt
  have hB := h.2.2.2
  refine ⟨_, hG, ?_, hc.first hk hno h1 h2 _ _, fun f hf => ?_⟩
  · have h3 := hb.grown hg (by omega) (fun k hk => by cases hk)
    exact h3.grown hg2 (by have := hg.size; omega) (fun k hk => by injection hk with hk; omega)
  · rcases List.mem_append.1 hf with hf | hf
    · have hze := hz f hf
      exact ⟨by omega, fun y hy => by have := hze.2 y hy; omega⟩
    · simp at hf; subst hf
      refine ⟨by simp, fun y hy => ?_⟩
      have hy : y ∈ [x] := hy
      simp at hy; subst hy; omega
theorem mget_old {S : List Ent} (hs : Sep S) {ei : Nat} {e : Ent} (he : S[ei]? = some e) (z : Value) : mget z (S.map fun e => (e.key, e.v)) e.key = e.v := by
  unfold mget
  rw [fnd_some (k := e.key) (L := S.map fun e => (e.key, e.v)) (i := 0) (j := ei) (v := e.v) (by rw [List.getElem?_map, he]; rfl) (fun q p hq hp hk => by
    rw [List.getElem?_map] at hp
    cases hs' : S[q]? with
    | none => rw [hs'] at hp; cases hp
    | some f =>
      rw [hs'] at hp
      have hp := Option.some.inj hp
      rw [← hp] at hk
      have := hs.2.1 _ _ _ _ he hs' hk
      omega)]
theorem mget_no {S : List Ent} {k : ByteArray} (h : ∀ f ∈ S, f.key ≠ k) (z : Value) : mget z (S.map fun e => (e.key, e.v)) k = z := by
  unfold mget
  rw [fnd_none (fun p hp => by
    obtain ⟨f, hf, rfl⟩ := List.mem_map.1 hp
    exact fun h' => h f hf h'.symm)]

theorem newcls_cells (w2 : World) (r : Req) (A2 : Option Addr) (c2 : Nat) (i : Nat) : ∀ (j : Nat) (u : Value), (Cl.cells ⟨r, A2, c2, w2.heap.size, 0, 1, 1⟩)[j]? = some u →
    ((w2.alloc (.cells #[.int .i64 (i : Int)] 3)).alloc (.cells #[.string r.path, .string r.name, .slice A2 r.args.length c2, .int .i64 r.ord, .string r.reply, .int .i64 r.sent, .int .i64 r.tick, .bool r.isopen, .slice (some ⟨w2.heap.size, 0, none⟩) 1 1] 97)).cell? ((⟨w2.heap.size + 1, 0, none⟩ : Addr).add j) = some u := by
  intro j u hj
  rw [Addr.add_lit, Nat.zero_add]
  have h := cell_new (w2.alloc (.cells #[.int .i64 (i : Int)] 3)) #[.string r.path, .string r.name, .slice A2 r.args.length c2, .int .i64 r.ord, .string r.reply, .int .i64 r.sent, .int .i64 r.tick, .bool r.isopen, .slice (some ⟨w2.heap.size, 0, none⟩) 1 1] 97 j
  rw [World.size_alloc] at h
  rw [h, ← hj]
  match j with
  | 0 | 1 | 2 | 3 | 4 | 5 | 6 | 7 | 8 => rfl
  | j + 9 => simp [Cl.cells]
theorem newcls_one (r : Req) (A2 : Option Addr) (c2 g : Nat) : ∀ u ∈ Cl.cells ⟨r, A2, c2, g, 0, 1, 1⟩, u.oneCell' = true := by
  intro u hu
  simp only [Cl.cells, Cl.fv, List.mem_cons, List.not_mem_nil, or_false] at hu
  rcases hu with rfl | rfl | rfl | rfl | rfl | rfl | rfl | rfl | rfl <;> rfl
theorem newcls_ok {B : Nat} {w2 : World} {r : Req} {A2 : Option Addr} {c2 : Nat} (hB : B ≤ w2.heap.size) (hbk : bulkV r.args ≤ 2097152) (hr : Rd (Lt B) w2 (vs r.args) (.slice A2 r.args.length c2)) (i : Nat) :
    Cl.Ok true B ((w2.alloc (.cells #[.int .i64 (i : Int)] 3)).alloc (.cells #[.string r.path, .string r.name, .slice A2 r.args.length c2, .int .i64 r.ord, .string r.reply, .int .i64 r.sent, .int .i64 r.tick, .bool r.isopen, .slice (some ⟨w2.heap.size, 0, none⟩) 1 1] 97)) ⟨r, A2, c2, w2.heap.size, 0, 1, 1⟩ :=
  ⟨⟨hbk, hr.below (((Below.refl B w2).alloc hB _).alloc (by simp; omega) _) (fun _ h => h)⟩, hB, Nat.le_refl _, by show (1 : Nat) ≤ _; omega, #[.int .i64 (i : Int)], heap_alloc2_old _ _ _, fun j hj => by
    have hj : j < 1 := hj
    obtain rfl : j = 0 := by omega
    exact ⟨i, rfl⟩, fun _ => ⟨rfl, rfl⟩⟩

set_option maxHeartbeats 8000000 in
theorem group_any (kf : Req → ByteArray) (l : List Req) (A : Option Addr) (n c : Nat) (w : World) (hb : bulkReq l ≤ 2097152) (hK : ∀ r ∈ l, KeyOk kf r) (hC : Compat kf) (hr : Rd (Lt w.heap.size) w (slReq l) (.slice A n c)) (hR : Row32 w 0 64 kF) :
    Calls Tryd.prog 69 #[.slice A n c] w (GroupPost kf l w) := by
  have hw0 : 0 < w.heap.size := World.block_lt_of_cell? w _ (hR 0 (by omega))
  have hl := slReq_len hr
  have hln := bulkReq_len l
  have hmm := @run_makeMap Tryd.prog
  obtain ⟨i0, hi, hz0, hz1, hz2⟩ := info_parts infoInt
  obtain ⟨i1, hi', hz0', hz1', hz2'⟩ := info_parts infoCls
  have HI := Lib.hid (And.intro hi (And.intro hz0 (And.intro hz1 hz2)))
  have HJ := Lib.hid (And.intro hi' (And.intro hz0' (And.intro hz1' hz2')))
  have HL := Lib.hid hl.1
  have hn : n ≤ 2097152 := by omega
  have HR := Lib.hid hr
  have HK := Lib.hid hK
  have HRR := Lib.hid hR
  have HCC := Lib.hid hC
  clear hr hK hR hl hi hz0 hz1 hz2 hi' hz0' hz1' hz2' hC
  go_enter Tryd.func69, Tryd.ntmps69
  go_wp2_with fail
  go_loopw [12] (fun s12 wr => ∃ (i : Nat) (S : List Ent), i ≤ n ∧ s12 = .int .i64 i ∧ Hid (GI true w.heap.size w.heap.size wr S) ∧ Hid (Below w.heap.size w wr) ∧ Hid (CInv kf S (l.take i)) ∧ Hid (SizeInv S i)) (fun s12 _ => n - (intOf s12).toNat)
  case atStart =>
    exact ⟨0, [], by omega, rfl, Lib.hid (GI.new w), Lib.hid ((Below.refl _ _).alloc (Nat.le_refl _) _), Lib.hid (fun r => by simp [cntS]), Lib.hid (fun e he => absurd he (by simp))⟩
  case round =>
    clear hmm
    obtain ⟨i, S, hi, rfl, HG, HB, HC, HZ⟩ := hrel
    by_cases hlt : i < n
    · obtain ⟨b, off, r, e, hlb, hget, A2, c2, hat⟩ := slReq_at (HR.out.below HB.out (fun _ h => h)) hlt
      subst e
      obtain ⟨p0, p1, p2, p3, p4, p5, p6, p7, r2⟩ := hat
      obtain ⟨hbk, hkey⟩ := HK.out r (List.mem_of_getElem? hget)
      have HQ := Lib.hid hkey
      have R2 := Lib.hid r2
      have HGET := Lib.hid hget
      have hbs := HB.out.size
      have hlbw : b < wr.heap.size := Nat.lt_of_lt_of_le hlb hbs
      clear hget hkey r2
      go_wp2_with fail
      (with_reducible refine (HQ.out _ A2 c2 ?_ ?_).mono ?_)
      · exact ((R2.out.weaken (ok' := Lt wr.heap.size) (fun b hb => Nat.lt_of_lt_of_le hb hbs))).allocs _
      · exact (HRR.out.below HB.out hw0).below ((Below.refl wr.heap.size wr).alloc (Nat.le_refl _) _) (by omega)
      rintro e w1 ⟨rfl, hb1⟩
      have hbr1 : Below wr.heap.size wr w1 := ((Below.refl _ _).alloc (Nat.le_refl _) _).trans (hb1.mono (by simp))
      have hbx1 : w1.heap[wr.heap.size]? = some (.cells #[.string r.path, .string r.name, .slice A2 r.args.length c2, .int .i64 r.ord, .string r.reply, .int .i64 r.sent, .int .i64 r.tick, .bool r.isopen] 42 (0, 0)) := (hb1.block wr.heap.size (by simp)).trans (heap_alloc_new wr _)
      have q0 : w1.cell? ⟨wr.heap.size, 0, none⟩ = some (.string r.path) := by rw [Lib.cell_of_heap hbx1]; rfl
      have q1 : w1.cell? ⟨wr.heap.size, 1, none⟩ = some (.string r.name) := by rw [Lib.cell_of_heap hbx1]; rfl
      have q2 : w1.cell? ⟨wr.heap.size, 2, none⟩ = some (.slice A2 r.args.length c2) := by rw [Lib.cell_of_heap hbx1]; rfl
      have q3 : w1.cell? ⟨wr.heap.size, 3, none⟩ = some (.int .i64 r.ord) := by rw [Lib.cell_of_heap hbx1]; rfl
      have q4 : w1.cell? ⟨wr.heap.size, 4, none⟩ = some (.string r.reply) := by rw [Lib.cell_of_heap hbx1]; rfl
      have q5 : w1.cell? ⟨wr.heap.size, 5, none⟩ = some (.int .i64 r.sent) := by rw [Lib.cell_of_heap hbx1]; rfl
      have q6 : w1.cell? ⟨wr.heap.size, 6, none⟩ = some (.int .i64 r.tick) := by rw [Lib.cell_of_heap hbx1]; rfl
      have q7 : w1.cell? ⟨wr.heap.size, 7, none⟩ = some (.bool r.isopen) := by rw [Lib.cell_of_heap hbx1]; rfl
      have G1 := Lib.hid (HG.out.below hbr1)
      have B1 := Lib.hid (HB.out.trans (hbr1.mono hbs))
      have R1 := Lib.hid (R2.out.below (B1.out.mono (Nat.le_refl _) |> fun _ => hbr1.mono hbs) (fun _ h => h))
      have hs1 : wr.heap.size < w1.heap.size := (Array.getElem?_eq_some_iff.1 hbx1).1
      have HX1 := Lib.hid hbx1
      have hlk := run_lookup_str (P := Tryd.prog) (T := 91) Tryd.underlying91 Tryd.underlying9 G1.out.1 (zeroClsSl w1) (kf r)
      clear hb1 hbr1 hbx1
      have HTK : Hid (l.take (i + 1) = l.take i ++ [r]) := Lib.hid (by rw [List.take_add_one, HGET.out]; rfl)
      have fin : ∀ wz : World, RoundPost kf w.heap.size w.heap.size (l.take i) r i w wz → ∃ S, Hid (GI true w.heap.size w.heap.size wz S) ∧ Hid (Below w.heap.size w wz) ∧ Hid (CInv kf S (l.take (i + 1))) ∧ Hid (SizeInv S (i + 1)) := fun wz ⟨S, h1, h2, h3, h4⟩ => ⟨S, Lib.hid h1, Lib.hid h2, Lib.hid (by rw [HTK.out]; exact h3), Lib.hid h4⟩
      have FIN := Lib.hid fin
      clear fin
      by_cases hex : ∃ (ei : Nat) (e : Ent), S[ei]? = some e ∧ e.key = kf r
      · obtain ⟨ei, e, hei, hek⟩ := hex
        rw [← hek, mget_old G1.out.2.2.1 hei] at hlk
        rw [hek] at hlk
        unfold Ent.v at hlk
        have hee := G1.out.2.1 e (List.mem_of_getElem? hei)
        have hze := HZ.out e (List.mem_of_getElem? hei)
        have HCF := Lib.hid (cfind_any w.heap.size e.cls r (some ⟨e.g, 0, none⟩) e.cls.length e.cap A2 c2 w1 (by omega) hbk hee.1 (fun x hx => ⟨(hee.2 x hx).1.1, (hee.2 x hx).1.2.weaken (ok' := Lt w1.heap.size) (fun b hb => Nat.lt_of_lt_of_le hb B1.out.size)⟩) (R1.out.weaken (ok' := Lt w1.heap.size) (fun b hb => Nat.lt_of_lt_of_le hb B1.out.size)))
        have HEI := Lib.hid hei
        have HEK := Lib.hid hek
        clear hei hek hee
        go_wp2_with fail
        (with_reducible refine HCF.out.mono ?_)
        rintro _ w2 ⟨rfl, hb2⟩
        have G2 := Lib.hid (G1.out.below hb2)
        have B2 := Lib.hid (B1.out.trans (hb2.mono B1.out.size))
        have hbx2 : w2.heap[wr.heap.size]? = some (.cells #[.string r.path, .string r.name, .slice A2 r.args.length c2, .int .i64 r.ord, .string r.reply, .int .i64 r.sent, .int .i64 r.tick, .bool r.isopen] 42 (0, 0)) := (hb2.block wr.heap.size hs1).trans HX1.out
        have z0 : w2.cell? ⟨wr.heap.size, 0, none⟩ = some (.string r.path) := by rw [Lib.cell_of_heap hbx2]; rfl
        have z1 : w2.cell? ⟨wr.heap.size, 1, none⟩ = some (.string r.name) := by rw [Lib.cell_of_heap hbx2]; rfl
        have z2 : w2.cell? ⟨wr.heap.size, 2, none⟩ = some (.slice A2 r.args.length c2) := by rw [Lib.cell_of_heap hbx2]; rfl
        have z3 : w2.cell? ⟨wr.heap.size, 3, none⟩ = some (.int .i64 r.ord) := by rw [Lib.cell_of_heap hbx2]; rfl
        have z4 : w2.cell? ⟨wr.heap.size, 4, none⟩ = some (.string r.reply) := by rw [Lib.cell_of_heap hbx2]; rfl
        have z5 : w2.cell? ⟨wr.heap.size, 5, none⟩ = some (.int .i64 r.sent) := by rw [Lib.cell_of_heap hbx2]; rfl
        have z6 : w2.cell? ⟨wr.heap.size, 6, none⟩ = some (.int .i64 r.tick) := by rw [Lib.cell_of_heap hbx2]; rfl
        have z7 : w2.cell? ⟨wr.heap.size, 7, none⟩ = some (.bool r.isopen) := by rw [Lib.cell_of_heap hbx2]; rfl
        have R3 := Lib.hid (R1.out.below (hb2.mono B1.out.size) (fun _ h => h))
        have hs2 : wr.heap.size < w2.heap.size := (Array.getElem?_eq_some_iff.1 hbx2).1
        clear hb2 hbx2
        have hee := G2.out.2.1 e (List.mem_of_getElem? HEI.out)
        have hgl := hee.lt
        cases hfi : e.cls.findIdx? (fun x : Cl => alikeB x.first r) with
        | some ci =>
          have hix : idx (fun x : Cl => alikeB x.first r) e.cls = (ci : Int) := by unfold idx; rw [hfi]
          obtain ⟨hcl, hcp, hcn⟩ := List.findIdx?_eq_some_iff_getElem.1 hfi
          have hx : e.cls[ci]? = some e.cls[ci] := List.getElem?_eq_getElem hcl
          have hfirst : ∀ (j : Nat) (y : Cl), j < ci → e.cls[j]? = some y → alikeB y.first r = false := fun j y hj hy => by
            have := hcn j hj
            rw [List.getElem?_eq_getElem (by omega)] at hy
            rw [Option.some.inj hy] at this
            simpa using this
          generalize e.cls[ci] = x at hx hcp
          have hxe := hee.2 x (List.mem_of_getElem? hx)
          obtain ⟨hfo, xs, hxo, hxs⟩ := hxe.2.own
          have hcell8 : w2.cell? ⟨e.g, ci * 9 + 8, none⟩ = some (.slice (some ⟨x.fb, 0, none⟩) x.fl x.fc) := by
            have h8 := hee.1.cells (g := e.g) rfl (ci * 9 + 8) _ ((flat_get Cl.cells 9 Cl.cells_len e.cls ci x 8 hx (by omega)).trans rfl)
            rw [Addr.add_lit, Nat.zero_add] at h8
            rw [h8]; unfold Cl.fv; rw [hfo]
          have hfz8 : w2.frozen? ⟨e.g, ci * 9 + 8, none⟩ = false := by
            obtain ⟨_, cur, hcur⟩ := hee.row
            exact Lib.frozen_of_heap hcur _
          have hsome : x.fl ≤ i := hze.2 x (List.mem_of_getElem? hx)
          have hfbl := hxe.2.lt
          have hne : x.fb ≠ e.g := fb_ne_g hxe.2 hee
          have HXO := Lib.hid (own_below hxo ((Below.refl w2.heap.size w2).alloc (Nat.le_refl _) (.cells #[.int .i64 (i : Int)] 3)))
          have HXS := Lib.hid hxs
          have HW := Lib.hid (And.intro hx (And.intro hfirst hcp))
          have hci : (ci : Int) < e.cls.length := by omega
          have hBx := hxe.2.1
          have hBg := hee.row.1
          rw [hix]
          clear hfi hcn hcp hx hfirst hxo hxs hxe hee hix
          go_wp2_with (at_builtin; refine wpList_append_own_at _ rfl _ _ 95 rfl w.heap.size 3 i0 (.int .i64 0) 1 8 Tryd.underlying95 HI.out.1 HI.out.2.1 HI.out.2.2.1 HI.out.2.2.2 rfl (by decide) _ _ _ rfl HXO.out ⟨w2.heap.size, 0, none⟩ 1 1 [.int .i64 (i : Int)] rfl rfl ?c1 ?c2 ?c3 ?c4 ?c5 ?_)
          case c1 =>
            intro j u hj
            match j with
            | 0 => simp at hj; subst hj; rw [Addr.add_lit, Nat.zero_add]; exact cell_new _ _ _ 0
            | j + 1 => simp at hj
          case c2 => intro u hu; simp at hu; subst hu; rfl
          case c3 => unfold maxLen; omega
          case c4 => omega
          case c5 => simp; omega
          intro v' w3 ho3 hg3 _ hat3
          have hge3 : e.g < w3.heap.size := Nat.lt_of_lt_of_le hgl (Nat.le_trans (by simp) hg3.size)
          have hkeep : w3.heap[e.g]? = w2.heap[e.g]? := (hg3.block e.g (by simp; omega) (fun h => hne (Option.some.inj (show some e.g = some x.fb from h)).symm)).trans (Below.heap_alloc w2 _ e.g hgl)
          have hc3 : w3.cell? ⟨e.g, ci * 9 + 8, none⟩ = some (.slice (some ⟨x.fb, 0, none⟩) x.fl x.fc) := (World.cell?_of_block hkeep).trans hcell8
          have hf3 : w3.frozen? ⟨e.g, ci * 9 + 8, none⟩ = false := (World.frozen?_of_block hkeep).trans hfz8
          obtain ⟨g4, cap4, rfl, hgb4, _, _⟩ := own_form ho3 (by omega)
          have HP := Lib.hid (FIN.out _ (way_found (i := (i : Int)) (G2.out.below ((Below.refl w2.heap.size w2).alloc (Nat.le_refl _) (.cells #[.int .i64 (i : Int)] 3))) (B2.out.alloc B2.out.size _) HC.out HZ.out HCC.out HEI.out HEK.out HW.out.1 HW.out.2.1 HW.out.2.2 HXS.out ho3 hg3 (hat3.elim (fun h => .inl h) (fun h => .inr ⟨_, h, by simp⟩))))
          clear ho3 hg3 hat3 hkeep
          go_wp2_with fail
          obtain ⟨S9, Q1, Q2, Q3, Q4⟩ := HP.out
          exact ⟨⟨i + 1, S9, by omega, by go_num, Q1, Q2, Q3, Q4⟩, by simp [intOf]; omega⟩
        | none =>
          have hix : idx (fun x : Cl => alikeB x.first r) e.cls = -1 := by unfold idx; rw [hfi]
          have hno : ∀ y ∈ e.cls, alikeB y.first r = false := fun y hy => by simpa using List.findIdx?_eq_none_iff.1 hfi y hy
          rw [hix]
          have hneg : ¬ (0 : Int) ≤ -1 := by omega
          have hbb : Below w2.heap.size w2 ((w2.alloc (.cells #[.int .i64 (i : Int)] 3)).alloc (.cells #[.string r.path, .string r.name, .slice A2 r.args.length c2, .int .i64 r.ord, .string r.reply, .int .i64 r.sent, .int .i64 r.tick, .bool r.isopen, .slice (some ⟨w2.heap.size, 0, none⟩) 1 1] 97)) := ((Below.refl _ _).alloc (Nat.le_refl _) _).alloc (by simp) _
          have HXO := Lib.hid (own_below hee.1 hbb)
          have HNO := Lib.hid hno
          have HBB := Lib.hid hbb
          unfold Ent.v at HXO
          clear hfi hix hno hee hbb
          go_wp2_with (at_builtin; refine wpList_append_own_at _ rfl _ _ 93 rfl w.heap.size 97 i1 _ 9 128 Tryd.underlying93 HJ.out.1 HJ.out.2.1 HJ.out.2.2.1 HJ.out.2.2.2 rfl (by decide) _ _ _ rfl HXO.out ⟨w2.heap.size + 1, 0, none⟩ 1 1 (Cl.cells ⟨r, A2, c2, w2.heap.size, 0, 1, 1⟩) rfl rfl ?b1 ?b2 ?b3 ?b4 ?b5 ?_)
          case b1 => exact newcls_cells w2 r A2 c2 i
          case b2 => exact newcls_one r A2 c2 _
          case b3 => unfold maxLen; omega
          case b4 => omega
          case b5 => simp; omega
          intro v' w3 ho3 hg3 _ hat3
          have hfr : ∀ f ∈ S, ∀ y ∈ f.cls, y.fb ≠ w2.heap.size := fun f hf y hy => by have := ((G2.out.2.1 f hf).2 y hy).2.lt; omega
          have G3 := G2.out.below HBB.out
          have hm3 : MapIs w3 w.heap.size (S.map fun e => (e.key, e.v)) := G3.1.keep (hg3.block w.heap.size G3.1.lt (fun h => by
            injection h with h
            exact g_ne_m (G3.2.1 e (List.mem_of_getElem? HEI.out)) G3.1 h.symm))
          obtain ⟨w5, hup, hmu, hgu, _⟩ := run_mapUpdate_str (P := Tryd.prog) (T := 91) Tryd.underlying91 Tryd.underlying9 hm3 (kf r) v'
          rw [← HEK.out] at hmu
          have HP := Lib.hid (FIN.out _ (way_more G3 (B2.out.trans (HBB.out.mono B2.out.size)) HC.out HZ.out HCC.out HEI.out HEK.out HNO.out (newcls_ok (by omega) hbk (R3.out) i) hfr rfl rfl ho3 hg3 (by simpa [Value.ownBlock] using hat3) hgu hmu))
          clear ho3 hg3 hat3 hfr G3 hm3 hmu hgu
          go_wp2_with fail
          obtain ⟨S9, Q1, Q2, Q3, Q4⟩ := HP.out
          exact ⟨⟨i + 1, S9, by omega, by go_num, Q1, Q2, Q3, Q4⟩, by simp [intOf]; omega⟩
      · have hno : ∀ f ∈ S, f.key ≠ kf r := fun f hf h => by
          obtain ⟨j, hj⟩ := mem_get hf
          exact hex ⟨j, f, hj, h⟩
        rw [mget_no hno] at hlk
        have HCF := Lib.hid (cfind_any w.heap.size [] r none 0 0 A2 c2 w1 (by simp) hbk (World.ownsRow_nil _ _ _ _) (fun x hx => absurd hx (by simp)) (R1.out.weaken (ok' := Lt w1.heap.size) (fun b hb => Nat.lt_of_lt_of_le hb B1.out.size)))
        have HNO := Lib.hid hno
        clear hex hno
        go_wp2_with fail
        (with_reducible refine HCF.out.mono ?_)
        rintro _ w2 ⟨rfl, hb2⟩
        have G2 := Lib.hid (G1.out.below hb2)
        have B2 := Lib.hid (B1.out.trans (hb2.mono B1.out.size))
        have hbx2 : w2.heap[wr.heap.size]? = some (.cells #[.string r.path, .string r.name, .slice A2 r.args.length c2, .int .i64 r.ord, .string r.reply, .int .i64 r.sent, .int .i64 r.tick, .bool r.isopen] 42 (0, 0)) := (hb2.block wr.heap.size hs1).trans HX1.out
        have z0 : w2.cell? ⟨wr.heap.size, 0, none⟩ = some (.string r.path) := by rw [Lib.cell_of_heap hbx2]; rfl
        have z1 : w2.cell? ⟨wr.heap.size, 1, none⟩ = some (.string r.name) := by rw [Lib.cell_of_heap hbx2]; rfl
        have z2 : w2.cell? ⟨wr.heap.size, 2, none⟩ = some (.slice A2 r.args.length c2) := by rw [Lib.cell_of_heap hbx2]; rfl
        have z3 : w2.cell? ⟨wr.heap.size, 3, none⟩ = some (.int .i64 r.ord) := by rw [Lib.cell_of_heap hbx2]; rfl
        have z4 : w2.cell? ⟨wr.heap.size, 4, none⟩ = some (.string r.reply) := by rw [Lib.cell_of_heap hbx2]; rfl
        have z5 : w2.cell? ⟨wr.heap.size, 5, none⟩ = some (.int .i64 r.sent) := by rw [Lib.cell_of_heap hbx2]; rfl
        have z6 : w2.cell? ⟨wr.heap.size, 6, none⟩ = some (.int .i64 r.tick) := by rw [Lib.cell_of_heap hbx2]; rfl
        have z7 : w2.cell? ⟨wr.heap.size, 7, none⟩ = some (.bool r.isopen) := by rw [Lib.cell_of_heap hbx2]; rfl
        have R3 := Lib.hid (R1.out.below (hb2.mono B1.out.size) (fun _ h => h))
        have hs2 : wr.heap.size < w2.heap.size := (Array.getElem?_eq_some_iff.1 hbx2).1
        clear hb2 hbx2
        rw [show idx (fun x : Cl => alikeB x.first r) [] = -1 from rfl]
        have hneg : ¬ (0 : Int) ≤ -1 := by omega
        have HBB : Hid (Below w2.heap.size w2 ((w2.alloc (.cells #[.int .i64 (i : Int)] 3)).alloc (.cells #[.string r.path, .string r.name, .slice A2 r.args.length c2, .int .i64 r.ord, .string r.reply, .int .i64 r.sent, .int .i64 r.tick, .bool r.isopen, .slice (some ⟨w2.heap.size, 0, none⟩) 1 1] 97))) := Lib.hid (((Below.refl _ _).alloc (Nat.le_refl _) _).alloc (by simp) _)
        go_wp2_with (at_builtin; refine wpList_append_own_at _ rfl _ _ 93 rfl w.heap.size 97 i1 _ 9 128 Tryd.underlying93 HJ.out.1 HJ.out.2.1 HJ.out.2.2.1 HJ.out.2.2.2 rfl (by decide) _ 0 [] rfl (World.ownsRow_nil _ _ _ _) ⟨w2.heap.size + 1, 0, none⟩ 1 1 (Cl.cells ⟨r, A2, c2, w2.heap.size, 0, 1, 1⟩) rfl rfl ?d1 ?d2 ?d3 ?d4 ?d5 ?_)
        case d1 => exact newcls_cells w2 r A2 c2 i
        case d2 => exact newcls_one r A2 c2 _
        case d3 => unfold maxLen; omega
        case d4 => omega
        case d5 => simp; omega
        intro v' w3 ho3 hg3 _ hat3
        have hfr : ∀ f ∈ S, ∀ y ∈ f.cls, y.fb ≠ w2.heap.size := fun f hf y hy => by have := ((G2.out.2.1 f hf).2 y hy).2.lt; omega
        have G3 := G2.out.below HBB.out
        have hm3 : MapIs w3 w.heap.size (S.map fun e => (e.key, e.v)) := G3.1.keep (hg3.block w.heap.size G3.1.lt (fun h => by cases h))
        obtain ⟨w5, hup, hmu, hgu, _⟩ := run_mapUpdate_str (P := Tryd.prog) (T := 91) Tryd.underlying91 Tryd.underlying9 hm3 (kf r) v'
        have HP := Lib.hid (FIN.out _ (way_first G3 (B2.out.trans (HBB.out.mono B2.out.size)) HC.out HZ.out HCC.out HNO.out (newcls_ok (by omega) hbk (R3.out) i) hfr rfl rfl ho3 hg3 (by simpa [Value.ownBlock] using hat3) hgu hmu))
        clear ho3 hg3 hat3 hfr G3 hm3 hmu hgu
        go_wp2_with fail
        obtain ⟨S9, Q1, Q2, Q3, Q4⟩ := HP.out
        exact ⟨⟨i + 1, S9, by omega, by go_num, Q1, Q2, Q3, Q4⟩, by simp [intOf]; omega⟩
    · obtain rfl : i = n := by omega
      go_wp2_with fail
      go_ret
      have hc := HC.out
      have hz := HZ.out
      rw [HL.out, List.take_length] at hc
      rw [HL.out] at hz
      exact ⟨_, S, rfl, HG.out, HB.out, hc, hz⟩
end Go.Proofs.YtlnfdpdancolmaaDoor
