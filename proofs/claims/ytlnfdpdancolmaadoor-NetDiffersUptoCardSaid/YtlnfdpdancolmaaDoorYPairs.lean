/- match.Pairs: which requests of a list are matched. Conditions: those in each statement. -/
import Derived.Test.YtlnfdpdancolmaaDoorYGroup
namespace Go.Proofs.YtlnfdpdancolmaaDoor
open Go.RowKit

/-- request i of a has a partner in b -/
def matchedI (a b : List Req) (i : Nat) : Bool := match a[i]? with | some r => decide ((a.take i).countP (fun q => alikeB q r) < b.countP (fun q => alikeB q r)) | none => false
/-- the matched ones among the first n -/
def idxs (a b : List Req) (n : Nat) : List Nat := (List.range n).filter (matchedI a b)
theorem idxs_succ (a b : List Req) (n : Nat) : idxs a b (n + 1) = idxs a b n ++ if matchedI a b n then [n] else [] := by
  unfold idxs
  rw [List.range_succ, List.filter_append]
  cases h : matchedI a b n <;> simp [h]
theorem idxs_none (a : List Req) (n : Nat) : idxs a [] n = [] := by
  unfold idxs
  rw [List.filter_eq_nil_iff]
  intro i _
  unfold matchedI
  cases a[i]? <;> simp
def PInv (kf : Req → ByteArray) (S : List Ent) (a b : List Req) (i : Nat) : Prop := ∀ r, cntS S (kf r) r = b.countP (fun q => alikeB q r) - (a.take i).countP (fun q => alikeB q r)
/-- a pair's two cells -/
def pcells (p : Nat × Int) : List Value := [.int .i64 (p.1 : Int), .int .i64 p.2]
theorem pcells_len (p : Nat × Int) : (pcells p).length = 2 := rfl

section
variable {kf : Req → ByteArray} {S : List Ent} {a b : List Req} {i ei ci : Nat} {e : Ent} {x x' : Cl} {r : Req}
theorem PInv.skip (h : PInv kf S a b i) (hr : a[i]? = some r) (h0 : cntS S (kf r) r = 0) : PInv kf S a b (i + 1) ∧ matchedI a b i = false := by
  constructor
  · intro q
    have hq := h q
    rw [List.take_add_one, hr]
    show _ = b.countP _ - (a.take i ++ [r]).countP _
    rw [countP_snoc]
    by_cases hal : alikeB r q = true
    · rw [if_pos hal]
      have h1 : cntS S (kf q) q = 0 := by
        have h2 := h r
        have e1 : ∀ l : List Req, l.countP (fun z => alikeB z q) = l.countP (fun z => alikeB z r) := fun l => by congr 1; funext z; exact (alike_trans hal).symm
        rw [hq, e1, e1, ← h2, h0]
      omega
    · rw [if_neg hal]; omega
  · unfold matchedI
    rw [hr]
    have := h r
    simp
    omega
theorem PInv.take (h : PInv kf S a b i) (hk : Compat kf) (hs : Sep S) (hr : a[i]? = some r) (he : S[ei]? = some e) (hek : e.key = kf r) (hx : e.cls[ci]? = some x) (hfirst : ∀ (j : Nat) (y : Cl), j < ci → e.cls[j]? = some y → alikeB y.first r = false) (hal : alikeB x.first r = true)
    (h1 : x'.first = x.first) (h2 : x'.fl + 1 = x.fl) : PInv kf (S.set ei { e with cls := e.cls.set ci x' }) a b (i + 1) ∧ matchedI a b i = true := by
  have hself : alikeB r r = true := (alikeB_iff r r).2 ⟨rfl, rfl, rfl, rfl⟩
  constructor
  · intro q
    have hq := h q
    rw [cntS_setFree hs he hek hk hx hfirst hal h1, List.take_add_one, hr]
    show _ = b.countP _ - (a.take i ++ [r]).countP _
    rw [countP_snoc]
    by_cases hrq : alikeB r q = true
    · rw [if_pos hrq, if_pos hrq]
      rw [cntS_at hs he hek hk hx hfirst hal q hrq] at hq
      omega
    · rw [if_neg hrq, if_neg hrq, hq]; rfl
  · unfold matchedI
    rw [hr]
    have := h r
    rw [cntS_at hs he hek hk hx hfirst hal r hself] at this
    simp
    omega
end
theorem GI.loose {B m : Nat} {w : World} {S : List Ent} (h : GI true B m w S) : GI false B m w S :=
  ⟨h.1, fun e he => ⟨(h.2.1 e he).1, fun x hx => ⟨((h.2.1 e he).2 x hx).1, by
    obtain ⟨h1, h2, h3, cur, h4, h5, _⟩ := ((h.2.1 e he).2 x hx).2
    exact ⟨h1, h2, h3, cur, h4, h5, fun h => by cases h⟩⟩⟩, h.2.2.1, h.2.2.2⟩
/-- an append to a row of other things -/
theorem GI.beside {fresh : Bool} {B m : Nat} {w w' : World} {S : List Ent} {row : Option Nat} (h : GI fresh B m w S) (hg : w.grownBy w' row) (hrow : ∀ g, row = some g → B ≤ g ∧ ∃ cur, w.heap[g]? = some (.cells cur 72 (0, 0))) : GI fresh B m w' S := by
  obtain ⟨h1, h2, h3, h4⟩ := h
  have hm := h1.lt
  have keep : ∀ k o, w.heap[k]? = some o → (∀ cur, o ≠ Obj.cells cur 72 (0, 0)) → w'.heap[k]? = w.heap[k]? := fun k o hk ho =>
    hg.block k (Array.getElem?_eq_some_iff.1 hk).1 (fun hr => by
      obtain ⟨_, cur, hc⟩ := hrow k hr.symm
      rw [hc] at hk
      exact ho cur (Option.some.inj hk).symm)
  have low : ∀ k, k < B → w'.heap[k]? = w.heap[k]? := fun k hk => hg.block k (by omega) (fun hr => by have := (hrow k hr.symm).1; omega)
  refine ⟨h1.keep ?_, fun e he => ?_, h3, h4⟩
  · obtain ⟨es, clock, hh, _⟩ := h1
    exact keep m _ hh (fun cur h => by cases h)
  · have hee := h2 e he
    refine hee.keep low ?_ (fun x hx => ?_)
    · obtain ⟨_, cur, hc⟩ := hee.row
      exact keep _ _ hc (fun cur h => by injection h with _ h _; exact absurd h (by decide))
    · obtain ⟨_, _, _, cur, hc, _⟩ := (hee.2 x hx).2
      exact keep _ _ hc (fun cur h => by injection h with _ h _; exact absurd h (by decide))
theorem infoPair : (Tryd.prog.info? 72).map (fun i => (i.zero, i.size, i.bytes)) = some (some (.agg #[.int .i64 0, .int .i64 0]), 2, 16) := by kernel_rfl
theorem own_block {w : World} {B e k n : Nat} {v : Value} {xs : List Value} (h : w.ownsRow B e k v n xs) : ∀ g, v.ownBlock = some g → B ≤ g ∧ ∃ cur, w.heap[g]? = some (.cells cur e (0, 0)) := by
  intro g hg
  rcases h.2 with ⟨rfl, _⟩ | ⟨g', cap, cur, rfl, hB, hc, _⟩
  · cases hg
  · have : g' = g := Option.some.inj hg
    subst this
    exact ⟨hB, cur, hc⟩
/-- the matched ones so far, in a row of the call's own -/
def PairsTo (B : Nat) (a b : List Req) (i : Nat) (w : World) (v : Value) : Prop := ∃ ps : List (Nat × Int), w.ownsRow B 72 2 v ps.length (ps.flatMap pcells) ∧ ps.map Prod.fst = idxs a b i ∧ ps.length ≤ i
theorem PairsTo.keep {B : Nat} {a b : List Req} {i : Nat} {w w' : World} {v : Value} (h : PairsTo B a b i w v) (hk : ∀ g, v.ownBlock = some g → w'.heap[g]? = w.heap[g]?) : PairsTo B a b i w' v := by
  obtain ⟨ps, h1, h2⟩ := h
  exact ⟨ps, own_keep h1 hk, h2⟩
theorem PairsTo.below {B : Nat} {a b : List Req} {i : Nat} {w w' : World} {v : Value} (h : PairsTo B a b i w v) (hb : Below w.heap.size w w') : PairsTo B a b i w' v :=
  h.keep (fun g hg => by obtain ⟨ps, h1, _⟩ := h; exact hb.block g (h1.lt g hg).2)
theorem PairsTo.skip {B : Nat} {a b : List Req} {i : Nat} {w : World} {v : Value} (h : PairsTo B a b i w v) (hm : matchedI a b i = false) : PairsTo B a b (i + 1) w v := by
  obtain ⟨ps, h1, h2, h3⟩ := h
  exact ⟨ps, h1, by rw [idxs_succ, hm, h2]; simp, by omega⟩
def PairsPost (a b : List Req) (w : World) (e : Ending) (w' : World) : Prop := ∃ v, e = .returned v ∧ PairsTo w.heap.size a b a.length w' v ∧ Below w.heap.size w w'
/-- what one request does -/
def PRound (kf : Req → ByteArray) (B m : Nat) (a b : List Req) (i : Nat) (w0 w' : World) (v : Value) : Prop := ∃ S, Hid (GI false B m w' S) ∧ Hid (Below B w0 w') ∧ Hid (PInv kf S a b (i + 1)) ∧ Hid (PairsTo B a b (i + 1) w' v) ∧ Hid (SizeInv S b.length)
theorem pway_skip {kf : Req → ByteArray} {B m i : Nat} {w0 w : World} {S : List Ent} {a b : List Req} {r : Req} {v : Value} (h : GI false B m w S) (hb : Below B w0 w) (hc : PInv kf S a b i) (hz : SizeInv S b.length) (hr : a[i]? = some r) (h0 : cntS S (kf r) r = 0) (hp : PairsTo B a b i w v) : PRound kf B m a b i w0 w v :=
  ⟨S, Lib.hid h, Lib.hid hb, Lib.hid (hc.skip hr h0).1, Lib.hid (hp.skip (hc.skip hr h0).2), Lib.hid hz⟩
theorem pway_take {kf : Req → ByteArray} {B m i ei ci : Nat} {w0 w w1 : World} {S : List Ent} {a b : List Req} {r : Req} {e : Ent} {x : Cl} {v v' : Value} {ps : List (Nat × Int)} {n0 : Int} {fo' : Nat} (h : GI false B m w S) (hb : Below B w0 w) (hc : PInv kf S a b i) (hz : SizeInv S b.length) (hk : Compat kf)
    (hr : a[i]? = some r) (he : S[ei]? = some e) (hek : e.key = kf r) (hx : e.cls[ci]? = some x) (hfirst : ∀ (j : Nat) (y : Cl), j < ci → e.cls[j]? = some y → alikeB y.first r = false) (hal : alikeB x.first r = true) (hfl : 1 ≤ x.fl)
    (hps : w.ownsRow B 72 2 v ps.length (ps.flatMap pcells)) (hpi : ps.map Prod.fst = idxs a b i) (hpl : ps.length ≤ i) (hfo : fo' = x.fo + 1 ∨ x.fc = 1)
    (hown : w1.ownsRow B 72 2 v' (ps.length + 1) (ps.flatMap pcells ++ [.int .i64 (i : Int), .int .i64 n0])) (hg : w.grownBy w1 v.ownBlock) :
    PRound kf B m a b i w0 (w1.setCell ⟨e.g, ci * 9 + 8, none⟩ (.slice (some ⟨x.fb, fo', none⟩) (x.fl - 1) (x.fc - 1))) v' := by
  have h1 := h.beside hg (own_block hps)
  have hee := h1.2.1 e (List.mem_of_getElem? he)
  have hxe := hee.2 x (List.mem_of_getElem? hx)
  have hf : FreeOk false B w1 { x with fo := fo', fl := x.fl - 1, fc := x.fc - 1 } := by
    obtain ⟨k1, k2, k3, cur, k4, k5, _⟩ := hxe.2
    refine ⟨k1, by show x.fl - 1 ≤ x.fc - 1; omega, by show x.fc - 1 ≤ _; omega, cur, k4, fun j hj => ?_, fun h => by cases h⟩
    have hj : j < x.fl - 1 := hj
    obtain ⟨n, hn⟩ := k5 (j + 1) (by omega)
    rcases hfo with h | h
    · exact ⟨n, by show cur[fo' + j]? = _; rw [h, show x.fo + 1 + j = x.fo + (j + 1) by omega]; exact hn⟩
    · omega
  have hG := h1.setFree he hx ⟨rfl, rfl, rfl, Nat.le_refl _, fun _ _ _ => rfl⟩ { x with fo := fo', fl := x.fl - 1, fc := x.fc - 1 } rfl rfl rfl (.inl rfl) hf
  obtain ⟨hp1, hp2⟩ := hc.take hk h.2.2.1 hr he hek hx hfirst hal (x' := { x with fo := fo', fl := x.fl - 1, fc := x.fc - 1 }) rfl (by show x.fl - 1 + 1 = x.fl; omega)
  have hm := h.1.lt
  have hB := h.2.2.2
  refine ⟨_, Lib.hid hG, Lib.hid ?_, Lib.hid hp1, Lib.hid ⟨ps ++ [(i, n0)], ?_, ?_, by rw [List.length_append, List.length_singleton]; omega⟩, Lib.hid fun f hf => ?_⟩
  · exact (hb.grown hg (by omega) (fun k hk => (own_block hps k hk).1)).setCell (p := ⟨e.g, ci * 9 + 8, none⟩) hee.row.1 _
  · rw [List.length_append, List.length_singleton, List.flatMap_append, List.flatMap_singleton]
    refine own_keep hown (fun g hg' => Below.heap_setCell _ _ _ _ ?_)
    obtain ⟨_, cur, hc1⟩ := own_block hown g hg'
    obtain ⟨_, cur2, hc2⟩ := hee.row
    show g ≠ e.g
    intro h
    rw [h, hc2] at hc1
    have := Option.some.inj hc1
    injection this with _ h _
    exact absurd h (by decide)
  · rw [List.map_append, hpi, idxs_succ, hp2]; simp
  · obtain ⟨j, hj⟩ := mem_get hf
    rcases set_get hj with ⟨rfl, rfl⟩ | ⟨_, hj⟩
    · have hze := hz e (List.mem_of_getElem? he)
      refine ⟨by show (e.cls.set ci _).length ≤ _; rw [List.length_set]; omega, fun y hy => ?_⟩
      obtain ⟨d, hd⟩ := mem_get hy
      rcases set_get hd with ⟨rfl, rfl⟩ | ⟨_, hd⟩
      · have := hze.2 x (List.mem_of_getElem? hx)
        show x.fl - 1 ≤ _
        omega
      · exact hze.2 y (List.mem_of_getElem? hd)
    · exact hz f (List.mem_of_getElem? hj)

set_option maxHeartbeats 8000000 in
set_option maxRecDepth 100000 in
theorem pairs_any (kf : Req → ByteArray) (l l' : List Req) (A : Option Addr) (n c : Nat) (A' : Option Addr) (n' c' : Nat) (w : World) (hb : bulkReq l ≤ 2097152) (hb' : bulkReq l' ≤ 2097152) (hK : ∀ r ∈ l, KeyOk kf r) (hK' : ∀ r ∈ l', KeyOk kf r) (hC : Compat kf)
    (hr : Rd (Lt w.heap.size) w (slReq l) (.slice A n c)) (hr' : Rd (Lt w.heap.size) w (slReq l') (.slice A' n' c')) (hR : Row32 w 0 64 kF) :
    Calls Tryd.prog 49 #[.slice A n c, .slice A' n' c'] w (PairsPost l l' w) := by
  have hw0 : 0 < w.heap.size := World.block_lt_of_cell? w _ (hR 0 (by omega))
  have hl := slReq_len hr
  have hl' := slReq_len hr'
  have hln := bulkReq_len l
  have hln' := bulkReq_len l'
  obtain ⟨i0, hi, hz0, hz1, hz2⟩ := info_parts infoPair
  have HI := Lib.hid (And.intro hi (And.intro hz0 (And.intro hz1 hz2)))
  have HL := Lib.hid hl.1
  have HL' := Lib.hid hl'.1
  have hn : n ≤ 2097152 := by omega
  have hn' : n' ≤ 2097152 := by omega
  have HR := Lib.hid hr
  have HK := Lib.hid hK
  have HRR := Lib.hid hR
  have HCC := Lib.hid hC
  have HGR := Lib.hid (group_any kf l' A' n' c' w hb' hK' hC hr' hR)
  clear hr hr' hK hK' hR hl hl' hi hz0 hz1 hz2 hC
  by_cases h0 : n = 0
  · subst h0
    have HE : Hid (l = []) := Lib.hid (List.eq_nil_of_length_eq_zero HL.out.symm)
    go_enter Tryd.func49, Tryd.ntmps49
    go_wp2_with fail
    go_ret
    refine ⟨.slice none 0 0, rfl, ⟨[], World.ownsRow_nil _ _ _ _, ?_, by simp⟩, Below.refl _ _⟩
    rw [HE.out]; rfl
  · have hnb : ((n : Int) == 0) = false := by simp; omega
    by_cases h0' : n' = 0
    · subst h0'
      have HE : Hid (l' = []) := Lib.hid (List.eq_nil_of_length_eq_zero HL'.out.symm)
      clear h0
      go_enter Tryd.func49, Tryd.ntmps49
      go_wp2_with fail
      go_ret
      refine ⟨.slice none 0 0, rfl, ⟨[], World.ownsRow_nil _ _ _ _, ?_, by simp⟩, Below.refl _ _⟩
      rw [HE.out, idxs_none]; rfl
    · have hnb' : ((n' : Int) == 0) = false := by simp; omega
      clear h0 h0'
      go_enter Tryd.func49, Tryd.ntmps49
      go_wp2_with fail
      (with_reducible refine HGR.out.mono ?_)
      rintro _ wg ⟨m, Sg, rfl, hgi, hgb, hgc, hgz⟩
      have G0 := Lib.hid hgi.loose
      have B0 := Lib.hid hgb
      have C0 : Hid (PInv kf Sg l l' 0) := Lib.hid (fun r => by rw [hgc r]; simp)
      have Z0 := Lib.hid hgz
      clear hgi hgb hgc hgz
      go_wp2_with fail
      go_loopw [5, 24] (fun s5 s24 wr => ∃ (i : Nat) (S : List Ent) (v : Value), i ≤ n ∧ s24 = .int .i64 i ∧ v = s5 ∧ Hid (GI false w.heap.size m wr S) ∧ Hid (Below w.heap.size w wr) ∧ Hid (PInv kf S l l' i) ∧ Hid (PairsTo w.heap.size l l' i wr v) ∧ Hid (SizeInv S l'.length)) (fun _ s24 _ => n - (intOf s24).toNat)
      case atStart =>
        exact ⟨0, Sg, _, by omega, rfl, rfl, G0, B0, C0, Lib.hid ⟨[], World.ownsRow_nil _ _ _ _, rfl, by simp⟩, Z0⟩
      case round =>
        clear G0 B0 C0 Z0
        obtain ⟨i, S, vq, hi, rfl, hvq, HG, HB, HC, HP, HZ⟩ := hrel
        subst hvq
        by_cases hlt : i < n
        · obtain ⟨b, off, r, e, hlb, hget, A2, c2, hat⟩ := slReq_at (HR.out.below HB.out (fun _ h => h)) hlt
          subst e
          obtain ⟨p0, p1, p2, p3, p4, p5, p6, p7, r2⟩ := hat
          obtain ⟨hbk, hkey⟩ := HK.out r (List.mem_of_getElem? hget)
          have HQ := Lib.hid hkey
          have R2 := Lib.hid r2
          have HGET := Lib.hid hget
          have hbs := HB.out.size
          have hlbw : b < wr.heap.size := Nat.lt_of_lt_of_le hlb hbs
          clear hget hkey r2
          go_wp2_with fail
          (with_reducible refine (HQ.out _ A2 c2 ?_ ?_).mono ?_)
          · exact ((R2.out.weaken (ok' := Lt wr.heap.size) (fun b hb => Nat.lt_of_lt_of_le hb hbs))).allocs _
          · exact (HRR.out.below HB.out hw0).below ((Below.refl wr.heap.size wr).alloc (Nat.le_refl _) _) (by omega)
          rintro e w1 ⟨rfl, hb1⟩
          have hbr1 : Below wr.heap.size wr w1 := ((Below.refl _ _).alloc (Nat.le_refl _) _).trans (hb1.mono (by simp))
          have hbx1 : w1.heap[wr.heap.size]? = some (.cells #[.string r.path, .string r.name, .slice A2 r.args.length c2, .int .i64 r.ord, .string r.reply, .int .i64 r.sent, .int .i64 r.tick, .bool r.isopen] 42 (0, 0)) := (hb1.block wr.heap.size (by simp)).trans (heap_alloc_new wr _)
          have q0 : w1.cell? ⟨wr.heap.size, 0, none⟩ = some (.string r.path) := by rw [Lib.cell_of_heap hbx1]; rfl
          have q1 : w1.cell? ⟨wr.heap.size, 1, none⟩ = some (.string r.name) := by rw [Lib.cell_of_heap hbx1]; rfl
          have q2 : w1.cell? ⟨wr.heap.size, 2, none⟩ = some (.slice A2 r.args.length c2) := by rw [Lib.cell_of_heap hbx1]; rfl
          have q3 : w1.cell? ⟨wr.heap.size, 3, none⟩ = some (.int .i64 r.ord) := by rw [Lib.cell_of_heap hbx1]; rfl
          have q4 : w1.cell? ⟨wr.heap.size, 4, none⟩ = some (.string r.reply) := by rw [Lib.cell_of_heap hbx1]; rfl
          have q5 : w1.cell? ⟨wr.heap.size, 5, none⟩ = some (.int .i64 r.sent) := by rw [Lib.cell_of_heap hbx1]; rfl
          have q6 : w1.cell? ⟨wr.heap.size, 6, none⟩ = some (.int .i64 r.tick) := by rw [Lib.cell_of_heap hbx1]; rfl
          have q7 : w1.cell? ⟨wr.heap.size, 7, none⟩ = some (.bool r.isopen) := by rw [Lib.cell_of_heap hbx1]; rfl
          have G1 := Lib.hid (HG.out.below hbr1)
          have B1 := Lib.hid (HB.out.trans (hbr1.mono hbs))
          have P1 := Lib.hid (HP.out.below hbr1)
          have R1 := Lib.hid (R2.out.below (hbr1.mono hbs) (fun _ h => h))
          have hs1 : wr.heap.size < w1.heap.size := (Array.getElem?_eq_some_iff.1 hbx1).1
          have hlk := run_lookup_str (P := Tryd.prog) (T := 91) Tryd.underlying91 Tryd.underlying9 G1.out.1 (zeroClsSl w1) (kf r)
          clear hb1 hbr1 hbx1
          by_cases hex : ∃ (ei : Nat) (e : Ent), S[ei]? = some e ∧ e.key = kf r
          · obtain ⟨ei, e, hei, hek⟩ := hex
            rw [← hek, mget_old G1.out.2.2.1 hei] at hlk
            rw [hek] at hlk
            unfold Ent.v at hlk
            have hee := G1.out.2.1 e (List.mem_of_getElem? hei)
            have hze := HZ.out e (List.mem_of_getElem? hei)
            have HCF := Lib.hid (cfind_any w.heap.size e.cls r (some ⟨e.g, 0, none⟩) e.cls.length e.cap A2 c2 w1 (by omega) hbk hee.1 (fun x hx => ⟨(hee.2 x hx).1.1, (hee.2 x hx).1.2.weaken (ok' := Lt w1.heap.size) (fun b hb => Nat.lt_of_lt_of_le hb B1.out.size)⟩) (R1.out.weaken (ok' := Lt w1.heap.size) (fun b hb => Nat.lt_of_lt_of_le hb B1.out.size)))
            have HEI := Lib.hid hei
            have HEK := Lib.hid hek
            clear hei hek hee
            go_wp2_with fail
            (with_reducible refine HCF.out.mono ?_)
            rintro _ w2 ⟨rfl, hb2⟩
            have G2 := Lib.hid (G1.out.below hb2)
            have B2 := Lib.hid (B1.out.trans (hb2.mono B1.out.size))
            have P2 := Lib.hid (P1.out.below hb2)
            have hs2 : w1.heap.size ≤ w2.heap.size := hb2.size
            clear hb2
            have hee := G2.out.2.1 e (List.mem_of_getElem? HEI.out)
            have hgl := hee.lt
            cases hfi : e.cls.findIdx? (fun x : Cl => alikeB x.first r) with
            | some ci =>
              have hix : idx (fun x : Cl => alikeB x.first r) e.cls = (ci : Int) := by unfold idx; rw [hfi]
              obtain ⟨hcl, hcp, hcn⟩ := List.findIdx?_eq_some_iff_getElem.1 hfi
              have hx : e.cls[ci]? = some e.cls[ci] := List.getElem?_eq_getElem hcl
              have hfirst : ∀ (j : Nat) (y : Cl), j < ci → e.cls[j]? = some y → alikeB y.first r = false := fun j y hj hy => by
                have := hcn j hj
                rw [List.getElem?_eq_getElem (by omega)] at hy
                rw [Option.some.inj hy] at this
                simpa using this
              generalize e.cls[ci] = x at hx hcp
              have hxe := hee.2 x (List.mem_of_getElem? hx)
              have hcell8 : w2.cell? ⟨e.g, ci * 9 + 8, none⟩ = some (.slice (some ⟨x.fb, x.fo, none⟩) x.fl x.fc) := by
                have h8 := hee.1.cells (g := e.g) rfl (ci * 9 + 8) _ ((flat_get Cl.cells 9 Cl.cells_len e.cls ci x 8 hx (by omega)).trans rfl)
                rw [Addr.add_lit, Nat.zero_add] at h8
                exact h8
              have hfz8 : w2.frozen? ⟨e.g, ci * 9 + 8, none⟩ = false := by
                obtain ⟨_, cur, hcur⟩ := hee.row
                exact Lib.frozen_of_heap hcur _
              have hci : (ci : Int) < e.cls.length := by omega
              have hself : alikeB r r = true := (alikeB_iff r r).2 ⟨rfl, rfl, rfl, rfl⟩
              have hcnt := cntS_at (kf := kf) G2.out.2.2.1 HEI.out HEK.out HCC.out hx hfirst hcp r hself
              have hflc := hxe.2.2.1
              have hfcm := hxe.2.2.2.1
              rw [hix]
              by_cases hfl : x.fl = 0
              · have hflb : ((x.fl : Int) == 0) = true := by simp; omega
                have PW := Lib.hid (pway_skip G2.out B2.out HC.out HZ.out HGET.out (hcnt.trans hfl) P2.out)
                clear hfi hcn hcp hx hfirst hxe hee hix hfl hcnt
                go_wp2_with fail
                obtain ⟨S9, Q1, Q2, Q3, Q4, Q5⟩ := PW.out
                exact ⟨⟨i + 1, S9, _, by omega, by go_num, rfl, Q1, Q2, Q3, Q4, Q5⟩, by simp [intOf]; omega⟩
              · have hflb : ((x.fl : Int) == 0) = false := by simp; omega
                have hfl1 : 1 ≤ x.fl := by omega
                obtain ⟨ps, hps, hpi, hpl⟩ := P2.out
                obtain ⟨cur, hcur, hints, _⟩ := hxe.2.2.2.2
                obtain ⟨n0, hn0⟩ := hints 0 (by omega)
                rw [Nat.add_zero] at hn0
                have hfree0 : w2.cell? ⟨x.fb, x.fo, none⟩ = some (.int .i64 n0) := by rw [Lib.cell_of_heap hcur]; exact hn0
                have hfbl := hxe.2.lt
                have hna : Below w2.heap.size w2 (w2.alloc (.cells #[.int .i64 (i : Int), .int .i64 n0] 72)) := (Below.refl _ _).alloc (Nat.le_refl _) _
                have HXO := Lib.hid (own_below hps hna)
                have HNA := Lib.hid hna
                have HPI := Lib.hid (And.intro hpi hpl)
                have HW := Lib.hid (And.intro hx (And.intro hfirst hcp))
                have hgne : ∀ g, vq.ownBlock = some g → e.g ≠ g := fun g hg h => by
                  obtain ⟨_, cur, hc1⟩ := own_block hps g hg
                  obtain ⟨_, cur2, hc2⟩ := hee.row
                  rw [← h, hc2] at hc1
                  have := Option.some.inj hc1
                  injection this with _ h _
                  exact absurd h (by decide)
                have HNE := Lib.hid hgne
                have hpl2 : ps.length ≤ i := hpl
                clear hfi hcn hcp hx hfirst hxe hee hix hfl hcnt hps hpi hpl hcur hints hn0 hna hgne
                go_wp2_with (at_builtin; refine wpList_append_own_at _ rfl _ _ 70 rfl w.heap.size 72 i0 _ 2 16 Tryd.underlying70 HI.out.1 HI.out.2.1 HI.out.2.2.1 HI.out.2.2.2 rfl (by decide) _ _ _ rfl HXO.out ⟨w2.heap.size, 0, none⟩ 1 1 [.int .i64 (i : Int), .int .i64 n0] rfl rfl ?c1 ?c2 ?c3 ?c4 ?c5 ?_)
                case c1 =>
                  intro j u hj
                  rw [Addr.add_lit, Nat.zero_add]
                  match j with
                  | 0 => simp at hj; subst hj; exact cell_new _ _ _ 0
                  | 1 => simp at hj; subst hj; exact cell_new _ _ _ 1
                  | j + 2 => simp at hj
                case c2 => intro u hu; simp at hu; rcases hu with rfl | rfl <;> rfl
                case c3 => unfold maxLen; omega
                case c4 => omega
                case c5 => have := B2.out.size; simp; omega
                intro v' w3 ho3 hg3 _ _
                have hkeep : w3.heap[e.g]? = w2.heap[e.g]? := (hg3.block e.g (by simp; omega) (fun h => HNE.out e.g h.symm rfl)).trans (Below.heap_alloc w2 _ e.g hgl)
                have hc3 : w3.cell? ⟨e.g, ci * 9 + 8, none⟩ = some (.slice (some ⟨x.fb, x.fo, none⟩) x.fl x.fc) := (World.cell?_of_block hkeep).trans hcell8
                have hf3 : w3.frozen? ⟨e.g, ci * 9 + 8, none⟩ = false := (World.frozen?_of_block hkeep).trans hfz8
                have mk := fun fo' hfo => pway_take (v := vq) (fo' := fo') (G2.out.below HNA.out) (B2.out.trans (HNA.out.mono B2.out.size)) HC.out HZ.out HCC.out HGET.out HEI.out HEK.out HW.out.1 HW.out.2.1 HW.out.2.2 hfl1 HXO.out HPI.out.1 HPI.out.2 hfo ho3 hg3
                by_cases hfc1 : x.fc = 1
                · have PW := Lib.hid (mk x.fo (.inr hfc1))
                  rw [show x.fc - 1 = 0 by omega] at PW
                  clear ho3 hg3 hkeep mk
                  go_wp2_with fail
                  obtain ⟨S9, Q1, Q2, Q3, Q4, Q5⟩ := PW.out
                  exact ⟨⟨i + 1, S9, _, by omega, by go_num, rfl, Q1, Q2, Q3, Q4, Q5⟩, by simp [intOf]; omega⟩
                · have PW := Lib.hid (mk (x.fo + 1) (.inl rfl))
                  clear ho3 hg3 hkeep mk
                  go_wp2_with fail
                  obtain ⟨S9, Q1, Q2, Q3, Q4, Q5⟩ := PW.out
                  exact ⟨⟨i + 1, S9, _, by omega, by go_num, rfl, Q1, Q2, Q3, Q4, Q5⟩, by simp [intOf]; omega⟩
            | none =>
              have hix : idx (fun x : Cl => alikeB x.first r) e.cls = -1 := by unfold idx; rw [hfi]
              have hno : ∀ y ∈ e.cls, alikeB y.first r = false := fun y hy => by simpa using List.findIdx?_eq_none_iff.1 hfi y hy
              have hself : alikeB r r = true := (alikeB_iff r r).2 ⟨rfl, rfl, rfl, rfl⟩
              have hcnt : cntS S (kf r) r = 0 := by
                unfold cntS
                rw [← HEK.out, find_key G2.out.2.2.1.2.1 HEI.out]
                exact cntC_none hno hself
              have PW := Lib.hid (pway_skip G2.out B2.out HC.out HZ.out HGET.out hcnt P2.out)
              have hneg : (-1 : Int) < 0 := by omega
              rw [hix]
              clear hfi hno hcnt hix hee
              go_wp2_with fail
              obtain ⟨S9, Q1, Q2, Q3, Q4, Q5⟩ := PW.out
              exact ⟨⟨i + 1, S9, _, by omega, by go_num, rfl, Q1, Q2, Q3, Q4, Q5⟩, by simp [intOf]; omega⟩
          · have hno : ∀ f ∈ S, f.key ≠ kf r := fun f hf h => by
              obtain ⟨j, hj⟩ := mem_get hf
              exact hex ⟨j, f, hj, h⟩
            rw [mget_no hno] at hlk
            have HCF := Lib.hid (cfind_any w.heap.size [] r none 0 0 A2 c2 w1 (by simp) hbk (World.ownsRow_nil _ _ _ _) (fun x hx => absurd hx (by simp)) (R1.out.weaken (ok' := Lt w1.heap.size) (fun b hb => Nat.lt_of_lt_of_le hb B1.out.size)))
            have hcnt : cntS S (kf r) r = 0 := by unfold cntS; rw [find_no hno]
            have HCN := Lib.hid hcnt
            clear hex hno hcnt
            go_wp2_with fail
            (with_reducible refine HCF.out.mono ?_)
            rintro _ w2 ⟨rfl, hb2⟩
            have PW := Lib.hid (pway_skip (G1.out.below hb2) (B1.out.trans (hb2.mono B1.out.size)) HC.out HZ.out HGET.out HCN.out (P1.out.below hb2))
            clear hb2
            rw [show idx (fun x : Cl => alikeB x.first r) [] = -1 from rfl]
            have hneg : (-1 : Int) < 0 := by omega
            go_wp2_with fail
            obtain ⟨S9, Q1, Q2, Q3, Q4, Q5⟩ := PW.out
            exact ⟨⟨i + 1, S9, _, by omega, by go_num, rfl, Q1, Q2, Q3, Q4, Q5⟩, by simp [intOf]; omega⟩
        · obtain rfl : i = n := by omega
          go_wp2_with fail
          go_ret
          have hp := HP.out
          rw [HL.out] at hp
          exact ⟨_, rfl, hp, HB.out⟩
end Go.Proofs.YtlnfdpdancolmaaDoor
