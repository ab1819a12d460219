/- net.Same: are two lists of effects equal but for their order and ticks? Conditions: those in each statement. -/
import Derived.Test.YtlnfdpdancolmaaDoorYNetSt
import Derived.Test.YtlnfdpdancolmaaDoorYStepB
import Derived.Test.YtlnfdpdancolmaaDoorYValidType
import Derived.Deep.RegionHeld3
import Derived.Deep.AppendLies
namespace Go.Proofs.YtlnfdpdancolmaaDoor
open Go.RowKit

theorem zeroOutSl (w : World) : (zeroValue 22).run Tryd.prog w = .ok (.slice none 0 0) w := by kernel_rfl
def out5 (o : Out) (A2 : Option Addr) (c2 : Nat) : List Value := [.string o.key, .string o.name, .slice A2 o.args.length c2, .bool o.part, .int .i64 o.tick]
theorem out5_one (o : Out) (A2 : Option Addr) (c2 : Nat) : ∀ u ∈ out5 o A2 c2, u.oneCell' = true := by
  intro u hu
  simp only [out5, List.mem_cons, List.not_mem_nil, or_false] at hu
  rcases hu with rfl | rfl | rfl | rfl | rfl <;> rfl
theorem out5_rd {ok : Nat → Prop} {w : World} {o : Out} {A2 : Option Addr} {c2 : Nat} (h : Rd ok w (vs o.args) (.slice A2 o.args.length c2)) : ∀ (j : Nat) (u : Value), (out5 o A2 c2)[j]? = some u → Rd ok w (o.row j) u := cells_rdOut h
theorem out5_news (W : World) (o : Out) (A2 : Option Addr) (c2 : Nat) : ∀ (j : Nat) (u : Value), (out5 o A2 c2)[j]? = some u → (W.alloc (.cells #[.string o.key, .string o.name, .slice A2 o.args.length c2, .bool o.part, .int .i64 o.tick] 45)).drew.cell? ((⟨W.heap.size, 0, none⟩ : Addr).add j) = some u := by
  intro j u hj
  rw [Addr.add_lit, Nat.zero_add]
  have h := cell_new W #[.string o.key, .string o.name, .slice A2 o.args.length c2, .bool o.part, .int .i64 o.tick] 45 j
  refine (show (W.alloc (.cells #[.string o.key, .string o.name, .slice A2 o.args.length c2, .bool o.part, .int .i64 o.tick] 45)).drew.cell? _ = (W.alloc (.cells #[.string o.key, .string o.name, .slice A2 o.args.length c2, .bool o.part, .int .i64 o.tick] 45)).cell? _ from rfl).trans (h.trans ?_)
  rw [← hj]
  exact List.getElem?_toArray
theorem smget_old {S : List SE} (hs : SSep S) {ei : Nat} {e : SE} (he : S[ei]? = some e) (z : Value) : mget z (S.map fun e => (e.key, e.v)) e.key = e.v := by
  unfold mget
  rw [fnd_some (k := e.key) (L := S.map fun e => (e.key, e.v)) (i := 0) (j := ei) (v := e.v) (by rw [List.getElem?_map, he]; rfl) (fun q p hq hp hk => by
    rw [List.getElem?_map] at hp
    cases hs' : S[q]? with
    | none => rw [hs'] at hp; cases hp
    | some f =>
      rw [hs'] at hp
      have hp := Option.some.inj hp
      rw [← hp] at hk
      have := hs.2 _ _ _ _ he hs' hk
      omega)]
theorem smget_no {S : List SE} {k : ByteArray} (h : ∀ f ∈ S, f.key ≠ k) (z : Value) : mget z (S.map fun e => (e.key, e.v)) k = z := by
  unfold mget
  rw [fnd_none (fun p hp => by
    obtain ⟨f, hf, rfl⟩ := List.mem_map.1 hp
    exact fun h' => h f hf h'.symm)]
theorem GInv.sub {S : List SE} {rest : List Out} (h : GInv S rest) (hs : SSep S) {i : Nat} {e : SE} (he : S[i]? = some e) : e.L = rest.filter (fun x => decide (x.key = e.key)) := by rw [← h e.key, lkS_at hs he]
theorem MapIs.drew {w : World} {m : Nat} {L : List (ByteArray × Value)} (h : MapIs w m L) : MapIs w.drew m L := h
/-- what one effect does to the map -/
def NRound (B m : Nat) (rest : List Out) (w0 w' : World) : Prop := ∃ S, Hid (SI B m w' S) ∧ Hid (Below B w0 w') ∧ Hid (GInv S rest)
theorem nway_old {B m : Nat} {w0 w w1 w2 : World} {S : List SE} {p : List Out} {o : Out} {ei gg cap : Nat} {e : SE} {xs : List Value} {A2 : Option Addr} {c2 : Nat} (h : SI B m w S) (hb : Below B w0 w) (hg : GInv S p) (he : S[ei]? = some e) (hek : e.key = o.key) (hr : Rd (Lt B) w (vs o.args) (.slice A2 o.args.length c2))
    (hown : w.ownsRow B 45 5 (.slice (some ⟨e.g, 0, none⟩) e.L.length e.cap) e.L.length xs) (hown' : w1.ownsRow B 45 5 (.slice (some ⟨gg, 0, none⟩) (e.L.length + 1) cap) (e.L.length + 1) (xs ++ out5 o A2 c2)) (hg1 : w.grownBy w1 (some e.g)) (hat : some e.g = some gg ∨ gg = w.heap.size)
    (hg2 : w1.grownBy w2 (some m)) (hm2 : MapIs w2 m (mput (S.map fun e => (e.key, e.v)) o.key (.slice (some ⟨gg, 0, none⟩) (e.L.length + 1) cap))) : NRound B m (p ++ [o]) w0 w2 := by
  have hee := h.2.1 e (List.mem_of_getElem? he)
  have hm := h.1.lt
  have hB := h.2.2.2
  have hok1 : SE.Ok B w1 ⟨e.key, gg, cap, e.L ++ [o]⟩ := hee.append hown hown' hg1 (by omega) rfl (fun j u hj => out5_rd hr j u hj)
  have hgg : gg = e.g ∨ w.heap.size ≤ gg := hat.elim (fun h => .inl (Option.some.inj h).symm) (fun h => .inr (by omega))
  have hgm : gg ≠ m := by
    rcases hgg with h' | h'
    · rw [h']; exact hee.ne_m h.1
    · omega
  have hok2 : SE.Ok B w2 ⟨e.key, gg, cap, e.L ++ [o]⟩ := hok1.keep (fun k hk => hg2.block k (by have := hg1.size; omega) (fun h' => by injection h' with h'; omega)) (hg2.block _ hok1.lt (fun h' => by injection h' with h'; exact hgm h'))
  refine ⟨S.set ei ⟨e.key, gg, cap, e.L ++ [o]⟩, Lib.hid (h.setE he rfl hok2 hgg (fun k hk h1 h2 => ?_) ?_), Lib.hid ?_, Lib.hid (hg.snoc fun k => ?_)⟩
  · exact (hg2.block k (Nat.lt_of_lt_of_le hk hg1.size) (fun h' => by injection h' with h'; exact h2 h')).trans (hg1.block k hk (fun h' => by injection h' with h'; exact h1 h'))
  · rw [hek]
    have : SE.v ⟨o.key, gg, cap, e.L ++ [o]⟩ = .slice (some ⟨gg, 0, none⟩) (e.L.length + 1) cap := by simp [SE.v]
    rw [this]; exact hm2
  · exact (hb.grown hg1 (by omega) (fun k hk => by injection hk with hk; have := hee.1; omega)).grown hg2 (by have := hg1.size; omega) (fun k hk => by injection hk with hk; omega)
  · rw [lkS_set h.2.2.1 he (e' := ⟨e.key, gg, cap, e.L ++ [o]⟩) rfl k, ← hek, lkS_at h.2.2.1 he]
theorem nway_new {B m : Nat} {w0 w w1 w2 : World} {S : List SE} {p : List Out} {o : Out} {gg cap : Nat} {A2 : Option Addr} {c2 : Nat} (h : SI B m w S) (hb : Below B w0 w) (hg : GInv S p) (hno : ∀ f ∈ S, f.key ≠ o.key) (hr : Rd (Lt B) w (vs o.args) (.slice A2 o.args.length c2))
    (hown' : w1.ownsRow B 45 5 (.slice (some ⟨gg, 0, none⟩) (0 + 1) cap) (0 + 1) ([] ++ out5 o A2 c2)) (hg1 : w.grownBy w1 none) (hat : gg = w.heap.size)
    (hg2 : w1.grownBy w2 (some m)) (hm2 : MapIs w2 m (mput (S.map fun e => (e.key, e.v)) o.key (.slice (some ⟨gg, 0, none⟩) (0 + 1) cap))) : NRound B m (p ++ [o]) w0 w2 := by
  have hm := h.1.lt
  have hB := h.2.2.2
  have hok1 : SE.Ok B w1 ⟨o.key, gg, cap, [o]⟩ := SE.Ok.first hown' hg1 (by omega) rfl (fun j u hj => out5_rd hr j u hj)
  have hok2 : SE.Ok B w2 ⟨o.key, gg, cap, [o]⟩ := hok1.keep (fun k hk => hg2.block k (by have := hg1.size; omega) (fun h' => by injection h' with h'; omega)) (hg2.block _ hok1.lt (fun h' => by have h' : gg = m := Option.some.inj h'; omega))
  refine ⟨S ++ [⟨o.key, gg, cap, [o]⟩], Lib.hid (h.addE hno hok2 (by show w.heap.size ≤ gg; omega) (fun k hk h2 => ?_) hm2), Lib.hid ?_, Lib.hid (hg.snoc fun k => ?_)⟩
  · exact (hg2.block k (Nat.lt_of_lt_of_le hk hg1.size) (fun h' => by injection h' with h'; exact h2 h')).trans (hg1.block k hk (fun h' => by cases h'))
  · exact (hb.grown hg1 (by omega) (fun k hk => by cases hk)).grown hg2 (by have := hg1.size; omega) (fun k hk => by injection hk with hk; omega)
  · rw [lkS_add hno, lkS_no hno]; rfl
theorem nway_del {B m : Nat} {w0 w w1 w2 : World} {S : List SE} {rest : List Out} {o : Out} {ei ci : Nat} {e : SE} (h : SI B m w S) (hb : Below B w0 w) (hg : GInv S rest) (he : S[ei]? = some e) (hek : e.key = o.key) (hix : e.L.findIdx? (fun x => eqO x o) = some ci)
    (hbk : Blk w1 e.g 45 (e.cap * 5)) (hrow : ∀ a, a < (e.L.eraseIdx ci).length → RdRow (Lt B) w1 e.g (a * 5) 5 (rowsOut (e.L.eraseIdx ci) a)) (hg1 : w.grownBy w1 (some e.g))
    (hg2 : w1.grownBy w2 (some m)) (hm2 : MapIs w2 m (mput (S.map fun e => (e.key, e.v)) o.key (.slice (some ⟨e.g, 0, none⟩) (e.L.eraseIdx ci).length e.cap))) : NRound B m (rest.eraseP fun x => eqO x o) w0 w2 := by
  have hee := h.2.1 e (List.mem_of_getElem? he)
  have hm := h.1.lt
  have hB := h.2.2.2
  have hle : (e.L.eraseIdx ci).length ≤ e.L.length := List.length_eraseIdx_le _ _
  have hok1 : SE.Ok B w1 ⟨e.key, e.g, e.cap, e.L.eraseIdx ci⟩ := ⟨hee.1, Nat.le_trans hle hee.2.1, hee.2.2.1, hbk, hrow⟩
  have hok2 : SE.Ok B w2 ⟨e.key, e.g, e.cap, e.L.eraseIdx ci⟩ := hok1.keep (fun k hk => hg2.block k (by have := hg1.size; omega) (fun h' => by injection h' with h'; omega)) (hg2.block _ hok1.lt (fun h' => by injection h' with h'; exact hee.ne_m h.1 h'))
  refine ⟨S.set ei ⟨e.key, e.g, e.cap, e.L.eraseIdx ci⟩, Lib.hid (h.setE he rfl hok2 (.inl rfl) (fun k hk h1 h2 => ?_) ?_), Lib.hid ?_, Lib.hid (hg.erase fun k => ?_)⟩
  · exact (hg2.block k (Nat.lt_of_lt_of_le hk hg1.size) (fun h' => by injection h' with h'; exact h2 h')).trans (hg1.block k hk (fun h' => by injection h' with h'; exact h1 h'))
  · rw [hek]; exact hm2
  · exact (hb.grown hg1 (by omega) (fun k hk => by injection hk with hk; have := hee.1; omega)).grown hg2 (by have := hg1.size; omega) (fun k hk => by injection hk with hk; omega)
  · rw [lkS_set h.2.2.1 he (e' := ⟨e.key, e.g, e.cap, e.L.eraseIdx ci⟩) rfl k, ← hek, lkS_at h.2.2.1 he, eraseP_idx _ _ _ hix]

def SamePost (l l' : List Out) (w : World) (e : Ending) (w' : World) : Prop := e = .returned (.bool (decide (l.length = l'.length) && sameS l l')) ∧ Below w.heap.size w w'
set_option maxHeartbeats 16000000 in
set_option maxRecDepth 100000 in
theorem netsame_any (l l' : List Out) (A : Option Addr) (n c : Nat) (A' : Option Addr) (n' c' : Nat) (w : World) (hb : bulkOut l ≤ 2097152) (hb' : bulkOut l' ≤ 2097152)
    (hr : Rd (Lt w.heap.size) w (slOut l) (.slice A n c)) (hr' : Rd (Lt w.heap.size) w (slOut l') (.slice A' n' c')) :
    Calls Tryd.prog 22 #[.slice A n c, .slice A' n' c'] w (SamePost l l' w) := by
  have hl := slOut_len hr
  have hl' := slOut_len hr'
  have hln := bulkOut_len l
  have hln' := bulkOut_len l'
  obtain ⟨i0, hi0, hz0, hz1, hz2⟩ := info_parts infoOut
  have HI := Lib.hid (And.intro hi0 (And.intro hz0 (And.intro hz1 hz2)))
  have HL := Lib.hid hl.1
  have HL' := Lib.hid hl'.1
  have hn : n ≤ 2097152 := by omega
  have hn' : n' ≤ 2097152 := by omega
  have HR := Lib.hid hr
  have HR' := Lib.hid hr'
  have hbl : ∀ x ∈ l, bulkV x.args ≤ 2097152 := fun x hx => by
    obtain ⟨i, hi⟩ := mem_get hx
    have := bulkOut_get hi
    unfold Out.bulk at this; omega
  have hbl' : ∀ x ∈ l', bulkV x.args ≤ 2097152 := fun x hx => by
    obtain ⟨i, hi⟩ := mem_get hx
    have := bulkOut_get hi
    unfold Out.bulk at this; omega
  have HBL := Lib.hid hbl
  have HBL' := Lib.hid hbl'
  have hmm := @run_makeMap Tryd.prog
  clear hr hr' hl hl' hi0 hz0 hz1 hz2 hbl hbl'
  by_cases hnn : n = n'
  · subst hnn
    go_enter Tryd.func22, Tryd.ntmps22
    go_wp2_with fail
    go_loopw [20] (fun s20 wr => ∃ (i : Nat) (S : List SE), i ≤ n ∧ s20 = .int .i64 i ∧ Hid (SI w.heap.size w.heap.size wr S) ∧ Hid (Below w.heap.size w wr) ∧ Hid (GInv S (l'.take i))) (fun s20 _ => n - (intOf s20).toNat)
    case atStart => exact ⟨0, [], by omega, rfl, Lib.hid (SI.new w), Lib.hid ((Below.refl _ _).alloc (Nat.le_refl _) _), Lib.hid (fun k => by simp [lkS])⟩
    case round =>
      clear hmm
      obtain ⟨i, S, hi, rfl, HG, HB, HC⟩ := hrel
      have hbs := HB.out.size
      by_cases hlt : i < n
      · obtain ⟨b, off, o, e, hlb, hget, A2, c2, hat⟩ := slOut_at (HR'.out.below HB.out (fun _ h => h)) hlt
        subst e
        obtain ⟨p0, p1, p2, p3, p4, r2⟩ := hat
        have hlbw : b < wr.heap.size := Nat.lt_of_lt_of_le hlb hbs
        have hba : Below wr.heap.size wr (wr.alloc (.cells #[.string o.key, .string o.name, .slice A2 o.args.length c2, .bool o.part, .int .i64 o.tick] 45)) := (Below.refl _ _).alloc (Nat.le_refl _) _
        have hbb : Below wr.heap.size wr ((wr.alloc (.cells #[.string o.key, .string o.name, .slice A2 o.args.length c2, .bool o.part, .int .i64 o.tick] 45)).alloc (.cells #[.string o.key, .string o.name, .slice A2 o.args.length c2, .bool o.part, .int .i64 o.tick] 45)).drew := (hba.alloc (by simp) _).drew
        have hml := HG.out.1.lt
        have G1 := Lib.hid (HG.out.below hba)
        have G5 := Lib.hid (HG.out.below hbb)
        have B5 := Lib.hid (HB.out.trans (hbb.mono hbs))
        have R5 := Lib.hid (r2.below (hbb.mono hbs) (fun _ h => h))
        have hbx1 : (wr.alloc (.cells #[.string o.key, .string o.name, .slice A2 o.args.length c2, .bool o.part, .int .i64 o.tick] 45)).heap[wr.heap.size]? = some (.cells #[.string o.key, .string o.name, .slice A2 o.args.length c2, .bool o.part, .int .i64 o.tick] 45 (0, 0)) := heap_alloc_new wr _
        have HBX5 : Hid (((wr.alloc (.cells #[.string o.key, .string o.name, .slice A2 o.args.length c2, .bool o.part, .int .i64 o.tick] 45)).alloc (.cells #[.string o.key, .string o.name, .slice A2 o.args.length c2, .bool o.part, .int .i64 o.tick] 45)).drew.heap[wr.heap.size]? = some (.cells #[.string o.key, .string o.name, .slice A2 o.args.length c2, .bool o.part, .int .i64 o.tick] 45 (0, 0))) := Lib.hid ((Below.heap_alloc (wr.alloc (.cells #[.string o.key, .string o.name, .slice A2 o.args.length c2, .bool o.part, .int .i64 o.tick] 45)) (.cells #[.string o.key, .string o.name, .slice A2 o.args.length c2, .bool o.part, .int .i64 o.tick] 45) wr.heap.size (by simp)).trans hbx1)
        have L5 : Hid (wr.heap.size < ((wr.alloc (.cells #[.string o.key, .string o.name, .slice A2 o.args.length c2, .bool o.part, .int .i64 o.tick] 45)).alloc (.cells #[.string o.key, .string o.name, .slice A2 o.args.length c2, .bool o.part, .int .i64 o.tick] 45)).drew.heap.size) := Lib.hid (Array.getElem?_eq_some_iff.1 HBX5.out).1
        have N5 : Hid (∀ (j : Nat) (u : Value), (out5 o A2 c2)[j]? = some u → ((wr.alloc (.cells #[.string o.key, .string o.name, .slice A2 o.args.length c2, .bool o.part, .int .i64 o.tick] 45)).alloc (.cells #[.string o.key, .string o.name, .slice A2 o.args.length c2, .bool o.part, .int .i64 o.tick] 45)).drew.cell? ((⟨wr.heap.size + 1, 0, none⟩ : Addr).add j) = some u) := Lib.hid (by
          have := out5_news (wr.alloc (.cells #[.string o.key, .string o.name, .slice A2 o.args.length c2, .bool o.part, .int .i64 o.tick] 45)) o A2 c2
          rwa [World.size_alloc] at this)
        have S5 : Hid (w.heap.size ≤ ((wr.alloc (.cells #[.string o.key, .string o.name, .slice A2 o.args.length c2, .bool o.part, .int .i64 o.tick] 45)).alloc (.cells #[.string o.key, .string o.name, .slice A2 o.args.length c2, .bool o.part, .int .i64 o.tick] 45)).drew.heap.size) := Lib.hid B5.out.size
        have HNM2 : Hid (some wr.heap.size ≠ some w.heap.size) := Lib.hid (fun h => by injection h with h; omega)
        have hmax : i + 1 ≤ maxLen := by unfold maxLen; omega
        have HGET := Lib.hid hget
        have HTK : Hid (l'.take (i + 1) = l'.take i ++ [o]) := Lib.hid (by rw [List.take_add_one, hget]; rfl)
        have hq1 := run_lookup_str (P := Tryd.prog) (w := (wr.alloc (.cells #[.string o.key, .string o.name, .slice A2 o.args.length c2, .bool o.part, .int .i64 o.tick] 45)).drew) (T := 60) Tryd.underlying60 Tryd.underlying9 G1.out.1.drew (zeroOutSl _) o.key
        have hq2 : ∀ x : Obj, (Instr.lookup 60 (.map (some w.heap.size)) (.string o.key) false).run Tryd.prog ((wr.alloc (.cells #[.string o.key, .string o.name, .slice A2 o.args.length c2, .bool o.part, .int .i64 o.tick] 45)).alloc x).drew = .ok (mget (.slice none 0 0) (S.map fun e => (e.key, e.v)) o.key) ((wr.alloc (.cells #[.string o.key, .string o.name, .slice A2 o.args.length c2, .bool o.part, .int .i64 o.tick] 45)).alloc x).drew := fun x =>
          run_lookup_str (P := Tryd.prog) (T := 60) Tryd.underlying60 Tryd.underlying9 (HG.out.below (hba.alloc (by simp) x)).1.drew (zeroOutSl _) o.key
        clear hget r2 hba hbb hbx1
        by_cases hex : ∃ (ei : Nat) (e : SE), S[ei]? = some e ∧ e.key = o.key
        · obtain ⟨ei, e, hei, hek⟩ := hex
          rw [← hek, smget_old G1.out.2.2.1 hei] at hq1 hq2
          rw [hek] at hq1 hq2
          unfold SE.v at hq1 hq2
          have hee := G5.out.2.1 e (List.mem_of_getElem? hei)
          have heg : e.g < wr.heap.size := (HG.out.2.1 e (List.mem_of_getElem? hei)).lt
          have hLl : e.L.length ≤ i := by
            have h1 := HC.out.sub HG.out.2.2.1 hei
            rw [h1]
            exact Nat.le_trans (List.length_filter_le _ _) (by rw [List.length_take]; omega)
          obtain ⟨xs, hown⟩ := hee.own
          have HXO := Lib.hid hown
          have HNE : Hid (some wr.heap.size ≠ Value.ownBlock (.slice (some ⟨e.g, 0, none⟩) e.L.length e.cap)) := Lib.hid (fun h => by have h : wr.heap.size = e.g := Option.some.inj h; omega)
          have HNM : Hid (some w.heap.size ≠ Value.ownBlock (.slice (some ⟨e.g, 0, none⟩) e.L.length e.cap)) := Lib.hid (fun h => hee.ne_m G5.out.1 (Option.some.inj h).symm)
          have HEI := Lib.hid (And.intro hei hek)
          have hmax : e.L.length + 1 ≤ maxLen := by unfold maxLen; omega
          have hbyt : (e.L.length + 1) * 72 ≤ 140737488355328 := by omega
          clear hei hek hee hown
          go_wp2_with fail
          go_region_held3 (fun w' => w'.cell? ⟨wr.heap.size, 0, none⟩ = some (.string o.key) ∧ w'.cell? ⟨wr.heap.size, 1, none⟩ = some (.string o.name) ∧ w'.cell? ⟨wr.heap.size, 2, none⟩ = some (.slice A2 o.args.length c2) ∧ w'.cell? ⟨wr.heap.size, 3, none⟩ = some (.bool o.part) ∧ w'.cell? ⟨wr.heap.size, 4, none⟩ = some (.int .i64 o.tick))
            (first | go_keep)
            (first
              | (refine step_append_lies _ (by rfl) _ _ _ (by rfl) w.heap.size 45 i0 _ 5 72 Tryd.underlying22 HI.out.1 HI.out.2.1 HI.out.2.2.1 HI.out.2.2.2 rfl (by omega) (.slice (some ⟨e.g, 0, none⟩) e.L.length e.cap) e.L.length xs (by rfl) HXO.out ⟨wr.heap.size + 1, 0, none⟩ 1 1 (out5 o A2 c2) (by rfl) (by rfl) N5.out (out5_one o A2 c2) (by omega) hmax hbyt S5.out (wr.heap.size + 2) (by simp) ?_; intro gg cap w6 hown6 hgrow hat6 hlt6; have hbx6 : w6.heap[wr.heap.size]? = some (.cells #[.string o.key, .string o.name, .slice A2 o.args.length c2, .bool o.part, .int .i64 o.tick] 45 (0, 0)) := (hgrow.block wr.heap.size L5.out HNE.out).trans HBX5.out; have zw60 : w6.cell? ⟨wr.heap.size, 0, none⟩ = some (.string o.key) := (Lib.cell_of_heap hbx6 0).trans rfl; have zw61 : w6.cell? ⟨wr.heap.size, 1, none⟩ = some (.string o.name) := (Lib.cell_of_heap hbx6 1).trans rfl; have zw62 : w6.cell? ⟨wr.heap.size, 2, none⟩ = some (.slice A2 o.args.length c2) := (Lib.cell_of_heap hbx6 2).trans rfl; have zw63 : w6.cell? ⟨wr.heap.size, 3, none⟩ = some (.bool o.part) := (Lib.cell_of_heap hbx6 3).trans rfl; have zw64 : w6.cell? ⟨wr.heap.size, 4, none⟩ = some (.int .i64 o.tick) := (Lib.cell_of_heap hbx6 4).trans rfl; have hm6 : MapIs w6 w.heap.size (S.map fun e => (e.key, e.v)) := G5.out.1.keep (hgrow.block w.heap.size G5.out.1.lt HNM.out); obtain ⟨w7, hup, hmu, hgu, hsz7⟩ := run_mapUpdate_str (P := Tryd.prog) (T := 60) Tryd.underlying60 Tryd.underlying9 hm6 o.key (.slice (some ⟨gg, 0, none⟩) (e.L.length + 1) cap); have hbx7 : w7.heap[wr.heap.size]? = some (.cells #[.string o.key, .string o.name, .slice A2 o.args.length c2, .bool o.part, .int .i64 o.tick] 45 (0, 0)) := (hgu.block wr.heap.size (Array.getElem?_eq_some_iff.1 hbx6).1 HNM2.out).trans hbx6; have zw70 : w7.cell? ⟨wr.heap.size, 0, none⟩ = some (.string o.key) := (Lib.cell_of_heap hbx7 0).trans rfl; have zw71 : w7.cell? ⟨wr.heap.size, 1, none⟩ = some (.string o.name) := (Lib.cell_of_heap hbx7 1).trans rfl; have zw72 : w7.cell? ⟨wr.heap.size, 2, none⟩ = some (.slice A2 o.args.length c2) := (Lib.cell_of_heap hbx7 2).trans rfl; have zw73 : w7.cell? ⟨wr.heap.size, 3, none⟩ = some (.bool o.part) := (Lib.cell_of_heap hbx7 3).trans rfl; have zw74 : w7.cell? ⟨wr.heap.size, 4, none⟩ = some (.int .i64 o.tick) := (Lib.cell_of_heap hbx7 4).trans rfl; have HW6 := Lib.hid (And.intro hown6 (And.intro hgrow (And.intro hat6 (And.intro hgu hmu)))); clear hbx6 hbx7 hown6 hgrow hat6 hgu hmu hm6 hsz7))
          all_goals (
            go_wp2_with fail
            have HP : NRound w.heap.size w.heap.size (l'.take i ++ [o]) w w7 := nway_old G5.out B5.out HC.out HEI.out.1 HEI.out.2 R5.out HXO.out HW6.out.1 HW6.out.2.1 (HW6.out.2.2.1.elim .inl (fun h => .inr (by rw [h]; simp [World.drew]))) HW6.out.2.2.2.1 HW6.out.2.2.2.2
            rw [← HTK.out] at HP
            obtain ⟨S9, Q1, Q2, Q3⟩ := HP
            exact ⟨⟨i + 1, S9, by omega, by go_num, Q1, Q2, Q3⟩, by simp [intOf]; omega⟩)
        · have hno : ∀ f ∈ S, f.key ≠ o.key := fun f hf h => by
            obtain ⟨j, hj⟩ := mem_get hf
            exact hex ⟨j, f, hj, h⟩
          rw [smget_no hno] at hq1 hq2
          have HNO := Lib.hid hno
          have HXO : Hid (((wr.alloc (.cells #[.string o.key, .string o.name, .slice A2 o.args.length c2, .bool o.part, .int .i64 o.tick] 45)).alloc (.cells #[.string o.key, .string o.name, .slice A2 o.args.length c2, .bool o.part, .int .i64 o.tick] 45)).drew.ownsRow w.heap.size 45 5 (.slice none 0 0) 0 []) := Lib.hid (World.ownsRow_nil _ _ _ _)
          have HNE : Hid (some wr.heap.size ≠ Value.ownBlock (.slice none 0 0)) := Lib.hid (fun h => by cases h)
          have HNM : Hid (some w.heap.size ≠ Value.ownBlock (.slice none 0 0)) := Lib.hid (fun h => by cases h)
          have hmax : 0 + 1 ≤ maxLen := by unfold maxLen; omega
          have hbyt : (0 + 1) * 72 ≤ 140737488355328 := by omega
          clear hex hno
          go_wp2_with fail
          go_region_held3 (fun w' => w'.cell? ⟨wr.heap.size, 0, none⟩ = some (.string o.key) ∧ w'.cell? ⟨wr.heap.size, 1, none⟩ = some (.string o.name) ∧ w'.cell? ⟨wr.heap.size, 2, none⟩ = some (.slice A2 o.args.length c2) ∧ w'.cell? ⟨wr.heap.size, 3, none⟩ = some (.bool o.part) ∧ w'.cell? ⟨wr.heap.size, 4, none⟩ = some (.int .i64 o.tick))
            (first | go_keep)
            (first
              | (refine step_append_lies _ (by rfl) _ _ _ (by rfl) w.heap.size 45 i0 _ 5 72 Tryd.underlying22 HI.out.1 HI.out.2.1 HI.out.2.2.1 HI.out.2.2.2 rfl (by omega) (.slice none 0 0) 0 [] (by rfl) HXO.out ⟨wr.heap.size + 1, 0, none⟩ 1 1 (out5 o A2 c2) (by rfl) (by rfl) N5.out (out5_one o A2 c2) (by omega) hmax hbyt S5.out (wr.heap.size + 2) (by simp) ?_; intro gg cap w6 hown6 hgrow hat6 hlt6; have hbx6 : w6.heap[wr.heap.size]? = some (.cells #[.string o.key, .string o.name, .slice A2 o.args.length c2, .bool o.part, .int .i64 o.tick] 45 (0, 0)) := (hgrow.block wr.heap.size L5.out HNE.out).trans HBX5.out; have zw60 : w6.cell? ⟨wr.heap.size, 0, none⟩ = some (.string o.key) := (Lib.cell_of_heap hbx6 0).trans rfl; have zw61 : w6.cell? ⟨wr.heap.size, 1, none⟩ = some (.string o.name) := (Lib.cell_of_heap hbx6 1).trans rfl; have zw62 : w6.cell? ⟨wr.heap.size, 2, none⟩ = some (.slice A2 o.args.length c2) := (Lib.cell_of_heap hbx6 2).trans rfl; have zw63 : w6.cell? ⟨wr.heap.size, 3, none⟩ = some (.bool o.part) := (Lib.cell_of_heap hbx6 3).trans rfl; have zw64 : w6.cell? ⟨wr.heap.size, 4, none⟩ = some (.int .i64 o.tick) := (Lib.cell_of_heap hbx6 4).trans rfl; have hm6 : MapIs w6 w.heap.size (S.map fun e => (e.key, e.v)) := G5.out.1.keep (hgrow.block w.heap.size G5.out.1.lt HNM.out); obtain ⟨w7, hup, hmu, hgu, hsz7⟩ := run_mapUpdate_str (P := Tryd.prog) (T := 60) Tryd.underlying60 Tryd.underlying9 hm6 o.key (.slice (some ⟨gg, 0, none⟩) (0 + 1) cap); have hbx7 : w7.heap[wr.heap.size]? = some (.cells #[.string o.key, .string o.name, .slice A2 o.args.length c2, .bool o.part, .int .i64 o.tick] 45 (0, 0)) := (hgu.block wr.heap.size (Array.getElem?_eq_some_iff.1 hbx6).1 HNM2.out).trans hbx6; have zw70 : w7.cell? ⟨wr.heap.size, 0, none⟩ = some (.string o.key) := (Lib.cell_of_heap hbx7 0).trans rfl; have zw71 : w7.cell? ⟨wr.heap.size, 1, none⟩ = some (.string o.name) := (Lib.cell_of_heap hbx7 1).trans rfl; have zw72 : w7.cell? ⟨wr.heap.size, 2, none⟩ = some (.slice A2 o.args.length c2) := (Lib.cell_of_heap hbx7 2).trans rfl; have zw73 : w7.cell? ⟨wr.heap.size, 3, none⟩ = some (.bool o.part) := (Lib.cell_of_heap hbx7 3).trans rfl; have zw74 : w7.cell? ⟨wr.heap.size, 4, none⟩ = some (.int .i64 o.tick) := (Lib.cell_of_heap hbx7 4).trans rfl; have HW6 := Lib.hid (And.intro hown6 (And.intro hgrow (And.intro hat6 (And.intro hgu hmu)))); clear hbx6 hbx7 hown6 hgrow hat6 hgu hmu hm6 hsz7))
          all_goals (
            go_wp2_with fail
            have HP : NRound w.heap.size w.heap.size (l'.take i ++ [o]) w w7 := nway_new G5.out B5.out HC.out HNO.out R5.out HW6.out.1 HW6.out.2.1 (HW6.out.2.2.1.elim (fun h => by cases h) (fun h => by rw [h]; simp [World.drew])) HW6.out.2.2.2.1 HW6.out.2.2.2.2
            rw [← HTK.out] at HP
            obtain ⟨S9, Q1, Q2, Q3⟩ := HP
            exact ⟨⟨i + 1, S9, by omega, by go_num, Q1, Q2, Q3⟩, by simp [intOf]; omega⟩)
      · obtain rfl : i = n := by omega
        have HC0 : Hid (GInv S l') := Lib.hid (by have := HC.out; rwa [HL'.out, List.take_length] at this)
        clear HC
        have HQ : Hid ((decide (l.length = l'.length) && sameS l l') = sameS l l') := Lib.hid (by
          have h1 := HL.out
          have h2 := HL'.out
          rw [decide_eq_true (by omega)]; rfl)
        go_wp2_with fail
        go_loopw [37] (fun s37 wr => ∃ (k : Nat) (S : List SE) (rest : List Out), k ≤ i ∧ s37 = .int .i64 k ∧ Hid (SI w.heap.size w.heap.size wr S) ∧ Hid (Below w.heap.size w wr) ∧ Hid (GInv S rest) ∧ Hid (sameS l l' = sameS (l.drop k) rest) ∧ Hid (rest.Sublist l')) (fun s37 _ => i - (intOf s37).toNat)
        case atStart => exact ⟨0, S, l', by omega, rfl, HG, HB, HC0, Lib.hid rfl, Lib.hid (List.Sublist.refl _)⟩
        case round =>
          clear HG HB HC0
          obtain ⟨k, S, rest, hk, rfl, HG, HB, HC, HS, HSU⟩ := hrel
          have hbs := HB.out.size
          by_cases hlt : k < i
          · obtain ⟨b, off, o, e, hlb, hget, A2, c2, hat⟩ := slOut_at (HR.out.below HB.out (fun _ h => h)) hlt
            subst e
            obtain ⟨p0, p1, p2, p3, p4, r2⟩ := hat
            have hlbw : b < wr.heap.size := Nat.lt_of_lt_of_le hlb hbs
            have hbo := HBL.out o (List.mem_of_getElem? hget)
            have hba : Below wr.heap.size wr (wr.alloc (.cells #[.string o.key, .string o.name, .slice A2 o.args.length c2, .bool o.part, .int .i64 o.tick] 45)) := (Below.refl _ _).alloc (Nat.le_refl _) _
            have G1 := Lib.hid (HG.out.below hba)
            have B1 := Lib.hid (HB.out.trans (hba.mono hbs))
            have hr1 : Rd (Lt (wr.alloc (.cells #[.string o.key, .string o.name, .slice A2 o.args.length c2, .bool o.part, .int .i64 o.tick] 45)).heap.size) (wr.alloc (.cells #[.string o.key, .string o.name, .slice A2 o.args.length c2, .bool o.part, .int .i64 o.tick] 45)) (vs o.args) (.slice A2 o.args.length c2) := (r2.weaken (ok' := Lt wr.heap.size) (fun b hb => Nat.lt_of_lt_of_le hb hbs)).allocs _
            have O1 : Hid (OutIn (wr.alloc (.cells #[.string o.key, .string o.name, .slice A2 o.args.length c2, .bool o.part, .int .i64 o.tick] 45)) wr.heap.size o A2 c2) := Lib.hid ⟨heap_alloc_new wr _, hr1⟩
            have HDR : Hid (l.drop k = o :: l.drop (k + 1)) := Lib.hid (by
              have hk2 : k < l.length := (List.getElem?_eq_some_iff.1 hget).1
              rw [List.getElem?_eq_getElem hk2] at hget
              rw [List.drop_eq_getElem_cons hk2, Option.some.inj hget])
            have hq1 := run_lookup_str (P := Tryd.prog) (w := wr.alloc (.cells #[.string o.key, .string o.name, .slice A2 o.args.length c2, .bool o.part, .int .i64 o.tick] 45)) (T := 60) Tryd.underlying60 Tryd.underlying9 G1.out.1 (zeroOutSl _) o.key
            have hml := HG.out.1.lt
            clear hget r2 hba hr1
            by_cases hex : ∃ (ei : Nat) (e : SE), S[ei]? = some e ∧ e.key = o.key
            · obtain ⟨ei, e, hei, hek⟩ := hex
              rw [← hek, smget_old G1.out.2.2.1 hei] at hq1
              rw [hek] at hq1
              unfold SE.v at hq1
              have hee := G1.out.2.1 e (List.mem_of_getElem? hei)
              have heg : e.g < wr.heap.size := (HG.out.2.1 e (List.mem_of_getElem? hei)).lt
              have hsub := HC.out.sub HG.out.2.2.1 hei
              have hLl : e.L.length ≤ 2097152 := by
                rw [hsub]
                have h1 := List.length_filter_le (fun x : Out => decide (x.key = e.key)) rest
                have h2 := HSU.out.length_le
                omega
              have hLb : ∀ x ∈ e.L, bulkV x.args ≤ 2097152 := fun x hx => by
                rw [hsub] at hx
                exact HBL'.out x (HSU.out.subset (List.mem_filter.1 hx).1)
              have hany : rest.any (fun x => eqO x o) = e.L.any (fun x => eqO x o) := by rw [HC.out.any o, ← hek, lkS_at HG.out.2.2.1 hei]
              have HAN := Lib.hid hany
              have HIX := Lib.hid (indexSame e.L (some ⟨e.g, 0, none⟩) e.L.length e.cap o A2 c2 wr.heap.size (wr.alloc (.cells #[.string o.key, .string o.name, .slice A2 o.args.length c2, .bool o.part, .int .i64 o.tick] 45)) (hee.rd B1.out.size) (by omega) hLb hbo O1.out)
              have HEI := Lib.hid (And.intro hei hek)
              clear hei hek hee hsub hLb hany
              go_wp2_with fail
              (with_reducible refine HIX.out.mono ?_)
              rintro _ w2 ⟨rfl, hb2⟩
              have G2 := Lib.hid (G1.out.below hb2)
              have B2 := Lib.hid (B1.out.trans (hb2.mono B1.out.size))
              have O2 := Lib.hid (O1.out.below hb2)
              clear hb2
              cases hfi : e.L.findIdx? (fun x => eqO x o) with
              | none =>
                have hix : idx (fun x => eqO x o) e.L = -1 := by unfold idx; rw [hfi]
                have HE : Hid (sameS l l' = false) := Lib.hid (by
                  have hno : e.L.any (fun x => eqO x o) = false := by
                    rw [List.any_eq_false]
                    intro x hx
                    simpa using List.findIdx?_eq_none_iff.1 hfi x hx
                  rw [HS.out, HDR.out, sameS, HAN.out, hno]; rfl)
                have hneg : (-1 : Int) < 0 := by omega
                rw [hix]
                clear hfi hix
                go_wp2_with fail
                go_ret
                exact ⟨by rw [HQ.out, HE.out]; rfl, B2.out⟩
              | some ci =>
                have hix : idx (fun x => eqO x o) e.L = (ci : Int) := by unfold idx; rw [hfi]
                obtain ⟨hcl, hcp, _⟩ := List.findIdx?_eq_some_iff_getElem.1 hfi
                have HS2 : Hid (sameS l l' = sameS (l.drop (k + 1)) (rest.eraseP fun x => eqO x o)) := Lib.hid (by
                  have hyes : e.L.any (fun x => eqO x o) = true := List.any_eq_true.2 ⟨_, List.getElem_mem hcl, hcp⟩
                  rw [HS.out, HDR.out, sameS, HAN.out, hyes]; rfl)
                have HSU2 : Hid ((rest.eraseP fun x => eqO x o).Sublist l') := Lib.hid (List.eraseP_sublist.trans HSU.out)
                have hee := G2.out.2.1 e (List.mem_of_getElem? HEI.out.1)
                have hbx2 := O2.out.1
                have zw20 : w2.cell? ⟨wr.heap.size, 0, none⟩ = some (.string o.key) := (Lib.cell_of_heap hbx2 0).trans rfl
                have zw21 : w2.cell? ⟨wr.heap.size, 1, none⟩ = some (.string o.name) := (Lib.cell_of_heap hbx2 1).trans rfl
                have zw22 : w2.cell? ⟨wr.heap.size, 2, none⟩ = some (.slice A2 o.args.length c2) := (Lib.cell_of_heap hbx2 2).trans rfl
                have zw23 : w2.cell? ⟨wr.heap.size, 3, none⟩ = some (.bool o.part) := (Lib.cell_of_heap hbx2 3).trans rfl
                have zw24 : w2.cell? ⟨wr.heap.size, 4, none⟩ = some (.int .i64 o.tick) := (Lib.cell_of_heap hbx2 4).trans rfl
                have hol : wr.heap.size < w2.heap.size := (Array.getElem?_eq_some_iff.1 hbx2).1
                have hbd : ∀ b, Lt w.heap.size b → b ≠ e.g := fun b hb h => by
                  have h1 : b < w.heap.size := hb
                  have h2 := hee.1
                  omega
                have HDEL := Lib.hid (delete_full (Lt w.heap.size) e.L e.g e.cap ci w2.drew hbd hee.2.1 hee.2.2.1 hee.2.2.2.1 (fun a ha j hj => by
                  obtain ⟨u, hu, hd⟩ := hee.2.2.2.2 a ha j hj
                  exact ⟨u, hu, hd.drew⟩) hcl (by omega))
                have HBX := Lib.hid hbx2
                have HFI := Lib.hid hfi
                have HNM : Hid (some w.heap.size ≠ some e.g) := Lib.hid (fun h => hee.ne_m G2.out.1 (Option.some.inj h).symm)
                have HNE : Hid (some wr.heap.size ≠ some e.g) := Lib.hid (fun h => by have h := Option.some.inj h; omega)
                have HNM2 : Hid (some wr.heap.size ≠ some w.heap.size) := Lib.hid (fun h => by injection h with h; omega)
                have hwr : IntKind.i64.wrap ((ci : Int) + 1) = (ci : Int) + 1 := IntWalk.i64_in _ (by omega)
                have hci0 : (0 : Int) ≤ (ci : Int) + 1 := by omega
                have hcn : ¬ (ci : Int) < 0 := by omega
                rw [hix]
                clear hfi hix hcp hee hbx2 hbd
                go_wp2_with fail
                go_region_held3 (fun w' => w'.cell? ⟨wr.heap.size, 0, none⟩ = some (.string o.key) ∧ w'.cell? ⟨wr.heap.size, 1, none⟩ = some (.string o.name) ∧ w'.cell? ⟨wr.heap.size, 2, none⟩ = some (.slice A2 o.args.length c2) ∧ w'.cell? ⟨wr.heap.size, 3, none⟩ = some (.bool o.part) ∧ w'.cell? ⟨wr.heap.size, 4, none⟩ = some (.int .i64 o.tick))
                  (first | go_keep)
                  (first
                    | (go_at_call 42; refine HDEL.out.mono ?_; rintro _ w6 ⟨rfl, hbk6, hrow6, hg6, hsz6⟩; have hbx6 : w6.heap[wr.heap.size]? = some (.cells #[.string o.key, .string o.name, .slice A2 o.args.length c2, .bool o.part, .int .i64 o.tick] 45 (0, 0)) := (hg6.block wr.heap.size hol HNE.out).trans HBX.out; have zw60 : w6.cell? ⟨wr.heap.size, 0, none⟩ = some (.string o.key) := (Lib.cell_of_heap hbx6 0).trans rfl; have zw61 : w6.cell? ⟨wr.heap.size, 1, none⟩ = some (.string o.name) := (Lib.cell_of_heap hbx6 1).trans rfl; have zw62 : w6.cell? ⟨wr.heap.size, 2, none⟩ = some (.slice A2 o.args.length c2) := (Lib.cell_of_heap hbx6 2).trans rfl; have zw63 : w6.cell? ⟨wr.heap.size, 3, none⟩ = some (.bool o.part) := (Lib.cell_of_heap hbx6 3).trans rfl; have zw64 : w6.cell? ⟨wr.heap.size, 4, none⟩ = some (.int .i64 o.tick) := (Lib.cell_of_heap hbx6 4).trans rfl; have hm6 : MapIs w6 w.heap.size (S.map fun e => (e.key, e.v)) := G2.out.1.keep (hg6.block w.heap.size G2.out.1.lt HNM.out); obtain ⟨w7, hup, hmu, hgu, hsz7⟩ := run_mapUpdate_str (P := Tryd.prog) (T := 60) Tryd.underlying60 Tryd.underlying9 hm6 o.key (.slice (some ⟨e.g, 0, none⟩) (e.L.eraseIdx ci).length e.cap); have hbx7 : w7.heap[wr.heap.size]? = some (.cells #[.string o.key, .string o.name, .slice A2 o.args.length c2, .bool o.part, .int .i64 o.tick] 45 (0, 0)) := (hgu.block wr.heap.size (Array.getElem?_eq_some_iff.1 hbx6).1 HNM2.out).trans hbx6; have zw70 : w7.cell? ⟨wr.heap.size, 0, none⟩ = some (.string o.key) := (Lib.cell_of_heap hbx7 0).trans rfl; have zw71 : w7.cell? ⟨wr.heap.size, 1, none⟩ = some (.string o.name) := (Lib.cell_of_heap hbx7 1).trans rfl; have zw72 : w7.cell? ⟨wr.heap.size, 2, none⟩ = some (.slice A2 o.args.length c2) := (Lib.cell_of_heap hbx7 2).trans rfl; have zw73 : w7.cell? ⟨wr.heap.size, 3, none⟩ = some (.bool o.part) := (Lib.cell_of_heap hbx7 3).trans rfl; have zw74 : w7.cell? ⟨wr.heap.size, 4, none⟩ = some (.int .i64 o.tick) := (Lib.cell_of_heap hbx7 4).trans rfl; have HW6 := Lib.hid (And.intro hbk6 (And.intro hrow6 (And.intro hg6 (And.intro hgu hmu)))); clear hbx6 hbx7 hbk6 hrow6 hg6 hgu hmu hm6 hsz7 hsz6))
                go_wp2_with fail
                have hgd : w2.grownBy w6 (some e.g) := ⟨HW6.out.2.2.1.os, HW6.out.2.2.1.tape, HW6.out.2.2.1.output, HW6.out.2.2.1.size, HW6.out.2.2.1.block⟩
                have HP : NRound w.heap.size w.heap.size (rest.eraseP fun x => eqO x o) w w7 := nway_del G2.out B2.out HC.out HEI.out.1 HEI.out.2 HFI.out HW6.out.1 HW6.out.2.1 hgd HW6.out.2.2.2.1 HW6.out.2.2.2.2
                obtain ⟨S9, Q1, Q2, Q3⟩ := HP
                exact ⟨⟨k + 1, S9, _, by omega, by go_num, Q1, Q2, Q3, HS2, HSU2⟩, by simp [intOf]; omega⟩
            · have hno : ∀ f ∈ S, f.key ≠ o.key := fun f hf h => by
                obtain ⟨j, hj⟩ := mem_get hf
                exact hex ⟨j, f, hj, h⟩
              rw [smget_no hno] at hq1
              have HE : Hid (sameS l l' = false) := Lib.hid (by
                rw [HS.out, HDR.out, sameS, HC.out.any o, lkS_no hno]; rfl)
              have HIX := Lib.hid (indexSame [] none 0 0 o A2 c2 wr.heap.size (wr.alloc (.cells #[.string o.key, .string o.name, .slice A2 o.args.length c2, .bool o.part, .int .i64 o.tick] 45)) Rd.sl_nil (by omega) (fun x hx => absurd hx (by simp)) hbo O1.out)
              clear hex hno
              go_wp2_with fail
              (with_reducible refine HIX.out.mono ?_)
              rintro _ w2 ⟨rfl, hb2⟩
              have B2 := Lib.hid (B1.out.trans (hb2.mono B1.out.size))
              clear hb2
              rw [show idx (fun x => eqO x o) [] = -1 from rfl]
              have hneg : (-1 : Int) < 0 := by omega
              go_wp2_with fail
              go_ret
              exact ⟨by rw [HQ.out, HE.out]; rfl, B2.out⟩
          · have HE : Hid (sameS l l' = true) := Lib.hid (by
              have h1 := HL.out
              rw [HS.out, List.drop_eq_nil_of_le (by omega), sameS])
            go_wp2_with fail
            go_ret
            exact ⟨by rw [HQ.out, HE.out]; rfl, HB.out⟩
  · have hne : ((n : Int) != (n' : Int)) = true := by simp; omega
    have HE : Hid ((decide (l.length = l'.length) && sameS l l') = false) := Lib.hid (by
      have h1 := HL.out
      have h2 := HL'.out
      rw [decide_eq_false (by omega)]; rfl)
    go_enter Tryd.func22, Tryd.ntmps22
    go_wp2_with fail
    go_ret
    exact ⟨by rw [HE.out]; rfl, Below.refl _ _⟩
end Go.Proofs.YtlnfdpdancolmaaDoor
