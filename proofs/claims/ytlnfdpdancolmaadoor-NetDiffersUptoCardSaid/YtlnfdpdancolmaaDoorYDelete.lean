/- slices.Delete of one effect out of a slice of the call's own. Conditions: those in each statement. -/
import Derived.Test.YtlnfdpdancolmaaDoorYCloneOutFindNum
import Derived.Deep.RegionLaw
namespace Go.Proofs.YtlnfdpdancolmaaDoor
open Go.RowKit

theorem er_get {α : Type} (l : List α) (i a : Nat) : (l.eraseIdx i)[a]? = if a < i then l[a]? else l[a + 1]? := by
  rw [List.getElem?_eraseIdx]

/-- one row of five cells taken out of a row -/
theorem rows_del {ok : Nat → Prop} {e : TypeId} {n c g i : Nat} {f f' : Nat → Nat → D} {w W : World} {cur : Array Value} {news zs : List Value} (hi : i < n) (hnc : n ≤ c) (hok : ∀ b, ok b → b ≠ g)
    (hcur : w.heap[g]? = some (.cells cur e (0, 0))) (hsz : cur.size = c * 5) (hr : ∀ a, a < n → RdRow ok w g (a * 5) 5 (f a))
    (hnews : news = (cur.toList.take (n * 5)).drop ((i + 1) * 5)) (hf : ∀ a, a < n - 1 → f' a = if a < i then f a else f (a + 1))
    (hW : W = (w.setCells g (i * 5) news).setCells g ((n - 1) * 5) zs) : Blk W g e (c * 5) ∧ ∀ a, a < n - 1 → RdRow ok W g (a * 5) 5 (f' a) := by
  have hblk : Blk w g e (c * 5) := ⟨cur, hcur, hsz⟩
  have hnl : news.length = (n - 1 - i) * 5 := by rw [hnews, List.length_drop, List.length_take, Array.length_toList]; omega
  subst hW
  refine ⟨(hblk.setCells _ _ _).setCells _ _ _, fun a ha => ?_⟩
  rw [hf a ha]
  intro j hj
  by_cases hai : a < i
  · rw [if_pos hai]
    obtain ⟨u, hu, hd⟩ := hr a (by omega) j hj
    refine ⟨u, ?_, (hd.setCells hok _ _).setCells hok _ _⟩
    rw [cell_out _ (.inl (by omega)), cell_out _ (.inl (by omega))]
    exact hu
  · rw [if_neg hai]
    obtain ⟨u, hu, hd⟩ := hr (a + 1) (by omega) j hj
    refine ⟨u, ?_, (hd.setCells hok _ _).setCells hok _ _⟩
    rw [cell_out _ (.inl (by omega)), cell_in (fun q hq => hblk.some (by omega)) (a * 5 + j) (by omega) (by omega), hnews, List.getElem?_drop, List.getElem?_take_of_lt (by omega)]
    rw [cell_of_row w g _ cur e (0, 0) hcur] at hu
    rw [← hu, Array.getElem?_toList]
    congr 1
    omega
theorem heap_setCells_ne (g : Nat) : ∀ (us : List Value) (o : Nat) (w : World) (k : Nat), k ≠ g → (w.setCells g o us).heap[k]? = w.heap[k]?
  | [], _, _, _, _ => rfl
  | u :: r, o, w, k, h => by rw [World.setCells, heap_setCells_ne g r (o + 1) _ k h]; exact Below.heap_setCell w _ u k h
theorem meta_setCells (g : Nat) : ∀ (us : List Value) (o : Nat) (w : World), (w.setCells g o us).os = w.os ∧ (w.setCells g o us).tape = w.tape ∧ (w.setCells g o us).output = w.output
  | [], _, _ => ⟨rfl, rfl, rfl⟩
  | u :: r, o, w => by rw [World.setCells]; exact meta_setCells g r (o + 1) _
theorem grown_setCells {w w1 : World} {g : Nat} (h : w.grownBy w1 (some g)) (o : Nat) (us : List Value) : w.grownBy (w1.setCells g o us) (some g) :=
  ⟨(meta_setCells g us o w1).1.trans h.os, (meta_setCells g us o w1).2.1.trans h.tape, (meta_setCells g us o w1).2.2.trans h.output, by rw [size_setCells]; exact h.size, fun k hk hne => (heap_setCells_ne g us o w1 k (fun e => hne (by rw [e]))).trans (h.block k hk hne)⟩

theorem zeroOut : ∀ w, (zeroValue 45).run Tryd.prog w = .ok (.agg #[.string ⟨#[]⟩, .string ⟨#[]⟩, .slice none 0 0, .bool false, .int .i64 0]) w := fun _ => by kernel_rfl

def zOut : List Value := [.string ⟨#[]⟩, .string ⟨#[]⟩, .slice none 0 0, .bool false, .int .i64 0]
theorem zeroOutCells : (Builtin.zeroCells (Value.agg #[.string ⟨#[]⟩, .string ⟨#[]⟩, .slice none 0 0, .bool false, .int .i64 0]).cells 1).toList = zOut := by kernel_rfl
theorem oneOut : ∀ u ∈ zOut, u.oneCell' = true := by intro u hu; simp [zOut] at hu; rcases hu with rfl | rfl | rfl | rfl <;> rfl

/-- an own slice of effects comes back, all below B is as it was -/
def OwnOut (B : Nat) (l : List Out) (w : World) (e : Ending) (w' : World) : Prop := ∃ v, e = .returned v ∧ Owned B 45 5 l.length (rowsOut l) w' v ∧ Below B w w'

def DelPost (ok : Nat → Prop) (L : List Out) (g c : Nat) (w : World) (e : Ending) (w' : World) : Prop :=
  e = .returned (.slice (some ⟨g, 0, none⟩) L.length c) ∧ Blk w' g 45 (c * 5) ∧ (∀ a, a < L.length → RdRow ok w' g (a * 5) 5 (rowsOut L a)) ∧ w.grownBy w' (some g) ∧ w'.heap.size = w.heap.size

set_option maxHeartbeats 2000000 in
set_option maxRecDepth 100000 in
theorem delete_full (ok : Nat → Prop) (l : List Out) (g c i : Nat) (w : World) (hok : ∀ b, ok b → b ≠ g) (hnc : l.length ≤ c) (hc : c ≤ 9223372036854775807) (hbk : Blk w g 45 (c * 5)) (hr : ∀ a, a < l.length → RdRow ok w g (a * 5) 5 (rowsOut l a)) (hi : i < l.length) (hn : l.length ≤ 4194304) :
    Calls Tryd.prog 42 #[.slice (some ⟨g, 0, none⟩) l.length c, .int .i64 (i : Int), .int .i64 ((i : Int) + 1)] w (DelPost ok (l.eraseIdx i) g c w) := by
  obtain ⟨cur, hcur, hsz⟩ := hbk
  generalize hnl : l.length = n at *
  obtain ⟨i0, hi0, hz0, hz1, hz2⟩ := info_parts infoOut
  have hblk : Blk w g 45 (c * 5) := ⟨cur, hcur, hsz⟩
  obtain ⟨news, hnews⟩ : ∃ news, news = (cur.toList.take (n * 5)).drop ((i + 1) * 5) := ⟨_, rfl⟩
  have hlen : news.length = (n - 1 - i) * 5 := by rw [hnews, List.length_drop, List.length_take, Array.length_toList]; omega
  have hget : ∀ t u, news[t]? = some u → w.cell? ⟨g, (i + 1) * 5 + t, none⟩ = some u := fun t u hu => by
    have ht : t < news.length := (List.getElem?_eq_some_iff.1 hu).1
    rw [hnews, List.getElem?_drop, List.getElem?_take_of_lt (by omega), Array.getElem?_toList] at hu
    rw [cell_of_row w g _ cur _ (0, 0) hcur]; exact hu
  obtain ⟨A, hA, hsrc⟩ : ∃ A : Addr, (if c = i + 1 then some (⟨g, 0, none⟩ : Addr) else some ⟨g, (i + 1) * 5, none⟩) = some A ∧ Hid (∀ t u, news[t]? = some u → w.drew.cell? (A.add t) = some u) := by
    by_cases h : c = i + 1
    · refine ⟨⟨g, 0, none⟩, by simp [h], fun t u hu => ?_⟩
      have ht : t < news.length := (List.getElem?_eq_some_iff.1 hu).1
      omega
    · refine ⟨⟨g, (i + 1) * 5, none⟩, by simp [h], fun t u hu => ?_⟩
      rw [Addr.add_lit]
      exact hget t u hu
  have s1 : Hid (news.length = (n - (i + 1)) * 5) := Lib.hid (by omega)
  have s2 : Hid (∀ u ∈ news, u.oneCell' = true) := Lib.hid (fun u hu => by
    obtain ⟨t, ht⟩ := List.getElem?_of_mem hu
    have htl : t < news.length := (List.getElem?_eq_some_iff.1 ht).1
    obtain ⟨u', hu', hd⟩ := hr (i + 1 + t / 5) (by omega) (t % 5) (by omega)
    rw [show (i + 1 + t / 5) * 5 + t % 5 = (i + 1) * 5 + t by omega, hget t u ht] at hu'
    have hu2 := Option.some.inj hu'
    rw [hu2]; exact hd.oneCell)
  have s3 : Hid (∀ t, t < news.length → (w.drew.cell? ⟨g, 0 + i * 5 + t, none⟩).isSome = true ∧ w.drew.frozen? ⟨g, 0 + i * 5 + t, none⟩ = false) := Lib.hid (fun t ht => ⟨hblk.some (by omega), hblk.frozen _⟩)
  obtain ⟨W1, hW1⟩ : ∃ W1, W1 = w.drew.setCells g (0 + i * 5) news := ⟨_, rfl⟩
  have hb1 : Blk W1 g 45 (c * 5) := by rw [hW1]; exact Blk.setCells (w := w.drew) hblk _ _ _
  have hcl : ∀ ty cc, (Builtin.clear_ #[22] ty #[.slice (some ⟨g, (n - 1) * 5, none⟩) 1 cc]).run Tryd.prog W1 = .ok (.tuple #[]) (W1.setCells g ((n - 1) * 5) zOut) := fun ty cc =>
    run_clear_one W1 _ 45 ty _ _ Tryd.underlying22 zeroOut zeroOutCells oneOut g ((n - 1) * 5) cc (fun j hj => hb1.some (by simp [zOut] at hj; omega)) (fun j _ => hb1.frozen _)
  have hcl2 : ∀ ty cc, (Builtin.clear_ #[22] ty #[.slice (some ⟨g, (i + (n - (i + 1))) * 5, none⟩) (n - (i + (n - (i + 1)))) cc]).run Tryd.prog W1 = .ok (.tuple #[]) (W1.setCells g ((n - 1) * 5) zOut) := fun ty cc => by
    rw [show i + (n - (i + 1)) = n - 1 by omega, show n - (n - 1) = 1 by omega]
    exact hcl ty cc
  clear hcl
  have HW := Lib.hid hW1
  have hfin : Blk (W1.setCells g ((n - 1) * 5) zOut) g 45 (c * 5) ∧ ∀ a, a < n - 1 → RdRow ok (W1.setCells g ((n - 1) * 5) zOut) g (a * 5) 5 (rowsOut (l.eraseIdx i) a) := by
    refine rows_del (f := rowsOut l) (w := w.drew) hi hnc hok hcur hsz ?_ hnews (fun a ha => ?_) (by rw [hW1, Nat.zero_add])
    · exact fun a ha j hj => by
        obtain ⟨u, hu, hd⟩ := hr a ha j hj
        exact ⟨u, hu, hd.drew⟩
    · funext j
      unfold rowsOut
      rw [er_get]
      by_cases h : a < i
      · rw [if_pos h, if_pos h]
      · rw [if_neg h, if_neg h]
  have HFIN := Lib.hid hfin
  clear hfin
  have HBL : Hid (w.grownBy (W1.setCells g ((n - 1) * 5) zOut) (some g)) := Lib.hid (by
    rw [hW1]
    have h0 : w.grownBy w.drew (some g) := ⟨rfl, rfl, rfl, Nat.le_refl _, fun _ _ _ => rfl⟩
    exact grown_setCells (grown_setCells h0 _ _) _ _)
  have HSZ : Hid ((W1.setCells g ((n - 1) * 5) zOut).heap.size = w.heap.size) := Lib.hid (by rw [size_setCells, hW1, size_setCells]; rfl)
  have HLE : Hid ((l.eraseIdx i).length = n - 1) := Lib.hid (by rw [List.length_eraseIdx_of_lt (by omega)]; omega)
  have hie : ((i : Int) == (i : Int) + 1) = false := by simp; omega
  have hic : i ≤ c := by omega
  have hbb1 : (0 : Int) ≤ (i : Int) + 1 := by omega
  have hbb2 : (i : Int) + 1 ≤ (n : Int) := by omega
  have hjc : i + 1 ≤ c := by omega
  have HNL := Lib.hid hnl
  clear hW1 hb1 hget hlen hnews hblk hr hsz hcur hnl hok
  go_enter Tryd.func42, Tryd.ntmps42
  go_wp2_with fail
  go_region_law (refine step_append_room rfl (.tmp 22) (.tmp 25) 22 rfl 45 i0 5 Tryd.underlying22 hi0 hz1 g 0 i c (by simp [Act.eval, Act.put]) A (n - (i + 1)) (c - (i + 1)) news (by simp [Act.eval, Act.put]) s1.out hsrc.out s2.out (by omega) s3.out ?_; rw [← HW.out])
  go_wp2_with fail
  go_ret
  refine ⟨?_, HFIN.out.1, fun a ha => HFIN.out.2 a (by rw [← HLE.out]; exact ha), HBL.out, HSZ.out⟩
  rw [HLE.out, show n - 1 = i + (n - (i + 1)) by omega]; rfl

theorem delete_any (B : Nat) (l : List Out) (g c i : Nat) (w : World) (hO : Owned B 45 5 l.length (rowsOut l) w (.slice (some ⟨g, 0, none⟩) l.length c)) (hi : i < l.length) (hn : l.length ≤ 4194304) :
    Calls Tryd.prog 42 #[.slice (some ⟨g, 0, none⟩) l.length c, .int .i64 (i : Int), .int .i64 ((i : Int) + 1)] w (OwnOut B (l.eraseIdx i) w) := by
  rcases hO with ⟨hv, _⟩ | ⟨g', c', hv, hB, hnc, hc, hbk, hr⟩
  · injection hv with hv; cases hv
  injection hv with hv1 hv2 hv3
  injection hv1 with hv1
  injection hv1 with hv1
  subst hv1 hv3
  refine (delete_full _ l g c i w (fun b hb => hb.2) hnc hc hbk hr hi hn).mono ?_
  rintro e w' ⟨rfl, h1, h2, h3, h4⟩
  refine ⟨_, rfl, .inr ⟨g, c, rfl, hB, ?_, hc, h1, fun a ha => by rw [h4]; exact h2 a ha⟩, ?_⟩
  · have : (l.eraseIdx i).length ≤ l.length := List.length_eraseIdx_le l i
    omega
  · exact ⟨h3.os, h3.tape, h3.output, h3.size, fun k hk => h3.block k (by have := hbk.lt; omega) (fun e => by injection e with e; omega)⟩
end Go.Proofs.YtlnfdpdancolmaaDoor
