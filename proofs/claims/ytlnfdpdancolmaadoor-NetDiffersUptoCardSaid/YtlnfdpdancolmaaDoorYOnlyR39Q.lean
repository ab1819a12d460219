/- match.Only: the requests that are not matched. Conditions: those in each statement. Plain laws on matching one by one: what ref39.Pairs marks as used. No program here but through the imports. -/
import Derived.Test.YtlnfdpdancolmaaDoorYPairs
namespace Go.Proofs.YtlnfdpdancolmaaDoor
open Go.RowKit

/-- the first n, without the matched ones -/
def onlyTo (a b : List Req) (n : Nat) : List Req := (List.range n).filterMap fun i => if matchedI a b i then none else a[i]?
def onlyS (a b : List Req) : List Req := onlyTo a b a.length
theorem onlyTo_succ (a b : List Req) (n : Nat) : onlyTo a b (n + 1) = onlyTo a b n ++ (if matchedI a b n then [] else a[n]?.toList) := by
  unfold onlyTo
  rw [List.range_succ, List.filterMap_append]
  cases h : matchedI a b n with
  | true => simp [h]
  | false => cases h2 : a[n]? <;> simp [h, h2]
theorem idxs_split (a b : List Req) (i n : Nat) (h : i ≤ n) : ∃ rest : List Nat, idxs a b n = idxs a b i ++ rest ∧ (∀ x ∈ rest, i ≤ x) ∧ (matchedI a b i = true → i < n → ∃ t, rest = i :: t) ∧ (∀ x t, rest = x :: t → matchedI a b x = true) := by
  induction n with
  | zero =>
    obtain rfl : i = 0 := by omega
    exact ⟨[], by simp, by simp, fun _ h => absurd h (by omega), fun x t h => by cases h⟩
  | succ n ih =>
    by_cases hi : i = n + 1
    · subst hi
      exact ⟨[], by simp, by simp, fun _ h => absurd h (by omega), fun x t h => by cases h⟩
    · obtain ⟨rest, h1, h2, h3, h4⟩ := ih (by omega)
      refine ⟨rest ++ (if matchedI a b n then [n] else []), by rw [idxs_succ, h1, List.append_assoc], fun x hx => ?_, fun hm _ => ?_, fun x t hx => ?_⟩
      · rcases List.mem_append.1 hx with hx | hx
        · exact h2 x hx
        · split at hx
          · simp at hx; omega
          · simp at hx
      · by_cases hin : i < n
        · obtain ⟨t, ht⟩ := h3 hm hin
          exact ⟨_, by rw [ht]; rfl⟩
        · obtain rfl : i = n := by omega
          have : rest = [] := by
            have hl := congrArg List.length h1
            simp at hl
            exact hl
          rw [this, hm]; exact ⟨[], rfl⟩
      · cases rest with
        | cons y s =>
          have : y = x := by simpa using (List.cons.inj hx).1
          rw [← this]; exact h4 y s rfl
        | nil =>
          rw [List.nil_append] at hx
          split at hx
          · rename_i hm
            have : n = x := by simpa using (List.cons.inj hx).1
            rw [← this]; exact hm
          · cases hx
/-- the pair that stands next tells whether i is matched -/
theorem next_tells {a b : List Req} {n i : Nat} {ps : List (Nat × Int)} (h : ps.map Prod.fst = idxs a b n) (hi : i < n) : matchedI a b i = true ↔ ∃ q, ps[(idxs a b i).length]? = some q ∧ q.1 = i := by
  obtain ⟨rest, h1, h2, h3, h4⟩ := idxs_split a b i n (by omega)
  have hg : ∀ k : Nat, (ps[k]?).map Prod.fst = (idxs a b n)[k]? := fun k => by rw [← h, List.getElem?_map]
  have hk : (idxs a b n)[(idxs a b i).length]? = rest[0]? := by rw [h1, List.getElem?_append_right (Nat.le_refl _), Nat.sub_self]
  constructor
  · intro hm
    obtain ⟨t, ht⟩ := h3 hm hi
    have := hg (idxs a b i).length
    rw [hk, ht] at this
    cases hq : ps[(idxs a b i).length]? with
    | none => rw [hq] at this; simp at this
    | some q => rw [hq] at this; simp at this; exact ⟨q, rfl, this⟩
  · rintro ⟨q, hq, rfl⟩
    have := hg (idxs a b q.1).length
    rw [hk, hq] at this
    cases rest with
    | nil => simp at this
    | cons x t => simp at this; subst this; exact h4 _ t rfl
structure RC where
  r : Req
  A : Option Addr
  c : Nat
def RC.cells (x : RC) : List Value := [.string x.r.path, .string x.r.name, .slice x.A x.r.args.length x.c, .int .i64 x.r.ord, .string x.r.reply, .int .i64 x.r.sent, .int .i64 x.r.tick, .bool x.r.isopen]
theorem RC.cells_len (x : RC) : x.cells.length = 8 := rfl
theorem rd_of_own {B : Nat} {w : World} {v : Value} {ks : List RC} (h : w.ownsRow B 42 8 v ks.length (ks.flatMap RC.cells)) (hk : ∀ k ∈ ks, Rd (Lt w.heap.size) w (vs k.r.args) (.slice k.A k.r.args.length k.c)) : Rd (Lt w.heap.size) w (slReq (ks.map RC.r)) v := by
  rcases h.2 with ⟨rfl, h0⟩ | ⟨g, cap, cur, rfl, hB, hcur, hnc, hcm, hsz, htk⟩
  · have : ks = [] := List.eq_nil_of_length_eq_zero h0
    subst this
    exact Rd.sl_nil
  · have hgl : g < w.heap.size := (Array.getElem?_eq_some_iff.1 hcur).1
    have hl : (ks.map RC.r).length = ks.length := by simp
    unfold slReq
    rw [hl]
    refine Rd.sl_mk hnc hcm fun _ => ⟨g, 0, rfl, hgl, fun i hi => ?_⟩
    have hx : ks[i]? = some ks[i] := List.getElem?_eq_getElem hi
    generalize ks[i] = k at hx
    have hc : ∀ (j : Nat) (u : Value), j < 8 → k.cells[j]? = some u → w.cell? ⟨g, 0 + i * 8 + j, none⟩ = some u := fun j u hj hu => by
      have := h.cells (g := g) rfl (i * 8 + j) u ((flat_get RC.cells 8 RC.cells_len ks i k j hx hj).trans hu)
      rw [Addr.add_lit] at this
      rw [show 0 + i * 8 + j = 0 + (i * 8 + j) by omega]; exact this
    rw [rowsReq_get (x := k.r) (by rw [List.getElem?_map, hx]; rfl)]
    exact row_of_ReqAt (A2 := k.A) (c2 := k.c) ⟨hc 0 _ (by omega) rfl, hc 1 _ (by omega) rfl, hc 2 _ (by omega) rfl, hc 3 _ (by omega) rfl, hc 4 _ (by omega) rfl, hc 5 _ (by omega) rfl, hc 6 _ (by omega) rfl, hc 7 _ (by omega) rfl, hk k (List.mem_of_getElem? hx)⟩
theorem own_other {w w' : World} {B e k n B2 e2 k2 n2 : Nat} {v v2 : Value} {xs xs2 : List Value} (h : w.ownsRow B e k v n xs) (h2 : w.ownsRow B2 e2 k2 v2 n2 xs2) (hg : w.grownBy w' v2.ownBlock) (hne : e ≠ e2) : w'.ownsRow B e k v n xs :=
  own_keep h (fun g hg' => hg.block g (h.lt g hg').2 (fun e3 => by
    obtain ⟨_, cur, hc⟩ := own_block h g hg'
    obtain ⟨_, cur2, hc2⟩ := own_block h2 g e3.symm
    rw [hc] at hc2
    have := Option.some.inj hc2
    injection this with _ h _
    exact hne h))
theorem infoReq : (Tryd.prog.info? 42).map (fun i => (i.zero, i.size, i.bytes)) = some (some (.agg #[.string ⟨#[]⟩, .string ⟨#[]⟩, .slice none 0 0, .int .i64 0, .string ⟨#[]⟩, .int .i64 0, .int .i64 0, .bool false]), 8, 104) := by kernel_rfl
/-- the kept ones so far, in a row of the call's own -/
def OnlyTo (B : Nat) (a b : List Req) (i : Nat) (w : World) (v : Value) : Prop := ∃ ks : List RC, w.ownsRow B 42 8 v ks.length (ks.flatMap RC.cells) ∧ ks.map RC.r = onlyTo a b i ∧ ks.length ≤ i ∧ ∀ k ∈ ks, Rd (Lt B) w (vs k.r.args) (.slice k.A k.r.args.length k.c)
theorem OnlyTo.below {B : Nat} {a b : List Req} {i : Nat} {w w' : World} {v : Value} (h : OnlyTo B a b i w v) (hb : Below w.heap.size w w') (hB : B ≤ w.heap.size) : OnlyTo B a b i w' v := by
  obtain ⟨ks, h1, h2, h3, h4⟩ := h
  exact ⟨ks, own_below h1 hb, h2, h3, fun k hk => (h4 k hk).below (hb.mono hB) (fun _ h => h)⟩
def OnlyPost (a b : List Req) (w : World) (e : Ending) (w' : World) : Prop := ∃ v, e = .returned v ∧ Rd (Lt w'.heap.size) w' (slReq (onlyS a b)) v ∧ Below w.heap.size w w'

theorem reqs_one (r : Req) (A2 : Option Addr) (c2 : Nat) : ∀ u ∈ RC.cells ⟨r, A2, c2⟩, u.oneCell' = true := by
  intro u hu
  simp only [RC.cells, List.mem_cons, List.not_mem_nil, or_false] at hu
  rcases hu with rfl | rfl | rfl | rfl | rfl | rfl | rfl | rfl <;> rfl
set_option maxHeartbeats 8000000 in
set_option maxRecDepth 100000 in
theorem only_any (kf : Req → ByteArray) (l l' : List Req) (A : Option Addr) (n c : Nat) (A' : Option Addr) (n' c' : Nat) (w : World) (hb : bulkReq l ≤ 2097152) (hb' : bulkReq l' ≤ 2097152) (hK : ∀ r ∈ l, KeyOk kf r) (hK' : ∀ r ∈ l', KeyOk kf r) (hC : Compat kf)
    (hr : Rd (Lt w.heap.size) w (slReq l) (.slice A n c)) (hr' : Rd (Lt w.heap.size) w (slReq l') (.slice A' n' c')) (hR : Row32 w 0 64 kF) :
    Calls Tryd.prog 34 #[.slice A n c, .slice A' n' c'] w (OnlyPost l l' w) := by
  have hl := slReq_len hr
  have hln := bulkReq_len l
  obtain ⟨i0, hi, hz0, hz1, hz2⟩ := info_parts infoReq
  have HI := Lib.hid (And.intro hi (And.intro hz0 (And.intro hz1 hz2)))
  have HL := Lib.hid hl.1
  have hn : n ≤ 2097152 := by omega
  have HR := Lib.hid hr
  have HPP := Lib.hid (pairs_any kf l l' A n c A' n' c' w hb hb' hK hK' hC hr hr' hR)
  clear hr hr' hK hK' hR hl hi hz0 hz1 hz2 hC
  go_enter Tryd.func34, Tryd.ntmps34
  go_wp2_with fail
  (with_reducible refine HPP.out.mono ?_)
  rintro _ wg ⟨vp, rfl, ⟨ps, hps, hpi, hpl⟩, hgb⟩
  obtain ⟨Ap, cp, hvp⟩ : ∃ Ap cp, vp = .slice Ap ps.length cp := by
    rcases hps.2 with ⟨h1, h2⟩ | ⟨g, cap, cur, h1, _⟩
    · exact ⟨none, 0, by rw [h1, h2]⟩
    · exact ⟨_, _, h1⟩
  subst hvp
  have B0 := Lib.hid hgb
  have P0 := Lib.hid hps
  rw [← HL.out] at hpi
  have HPI := Lib.hid hpi
  have hpl2 : ps.length ≤ 2097152 := by omega
  clear hgb hps hpi
  go_wp2_with fail
  go_loopw [5, 6, 15] (fun s5 s6 s15 wr => ∃ (i nx : Nat) (v : Value), i ≤ n ∧ s15 = .int .i64 i ∧ s6 = .int .i64 nx ∧ nx ≤ 2097152 + i ∧ v = s5 ∧ Hid (OnlyTo w.heap.size l l' i wr v) ∧ Hid (Below w.heap.size w wr) ∧ Hid (wr.ownsRow w.heap.size 72 2 (.slice Ap ps.length cp) ps.length (ps.flatMap pcells)) ∧ Hid (nx = (idxs l l' i).length)) (fun _ _ s15 _ => n - (intOf s15).toNat)
  case atStart =>
    exact ⟨0, 0, _, by omega, rfl, rfl, by omega, rfl, Lib.hid ⟨[], World.ownsRow_nil _ _ _ _, rfl, by simp, fun k hk => absurd hk (by simp)⟩, B0, P0, Lib.hid rfl⟩
  case round =>
    clear B0 P0
    obtain ⟨i, nx, vq, hi, rfl, rfl, hnx, hvq, HO, HB, HPS, HNX⟩ := hrel
    subst hvq
    have hbs := HB.out.size
    by_cases hlt : i < n
    · obtain ⟨b, off, r, e, hlb, hget, A2, c2, hat⟩ := slReq_at (HR.out.below HB.out (fun _ h => h)) hlt
      subst e
      obtain ⟨p0, p1, p2, p3, p4, p5, p6, p7, r2⟩ := hat
      have R2 := Lib.hid r2
      have HGET := Lib.hid hget
      have hlbw : b < wr.heap.size := Nat.lt_of_lt_of_le hlb hbs
      have htell := next_tells HPI.out hlt
      rw [← HNX.out] at htell
      clear hget r2
      by_cases hnl : nx < ps.length
      · have hq : ps[nx]? = some ps[nx] := List.getElem?_eq_getElem hnl
        generalize ps[nx] = q at hq
        obtain ⟨gp, cp', hv, _, _, hgpl⟩ := own_form HPS.out (by omega)
        injection hv with hv1 _ hv3
        subst hv1 hv3
        have hcq : wr.cell? ⟨gp, nx * 2, none⟩ = some (.int .i64 (q.1 : Int)) := by
          have := HPS.out.cells (g := gp) rfl (nx * 2 + 0) _ ((flat_get pcells 2 pcells_len ps nx q 0 hq (by omega)).trans rfl)
          rwa [Addr.add_lit, Nat.zero_add, Nat.add_zero] at this
        have hnl2 : (nx : Int) < ps.length := by omega
        by_cases hqi : q.1 = i
        · have hm : matchedI l l' i = true := htell.2 ⟨q, hq, hqi⟩
          have hqb : ((q.1 : Int) == (i : Int)) = true := by simp [hqi]
          have O3 : Hid (OnlyTo w.heap.size l l' (i + 1) (wr.alloc (.cells #[.string r.path, .string r.name, .slice A2 r.args.length c2, .int .i64 r.ord, .string r.reply, .int .i64 r.sent, .int .i64 r.tick, .bool r.isopen] 42)) vq) := Lib.hid (by
            obtain ⟨ks, k1, k2, k3, k4⟩ := HO.out.below ((Below.refl wr.heap.size wr).alloc (Nat.le_refl _) (.cells #[.string r.path, .string r.name, .slice A2 r.args.length c2, .int .i64 r.ord, .string r.reply, .int .i64 r.sent, .int .i64 r.tick, .bool r.isopen] 42)) hbs
            exact ⟨ks, k1, by rw [onlyTo_succ, hm, k2]; simp, by omega, k4⟩)
          have B3 := Lib.hid (HB.out.alloc hbs (.cells #[.string r.path, .string r.name, .slice A2 r.args.length c2, .int .i64 r.ord, .string r.reply, .int .i64 r.sent, .int .i64 r.tick, .bool r.isopen] 42))
          have PS3 := Lib.hid (own_below HPS.out ((Below.refl wr.heap.size wr).alloc (Nat.le_refl _) (.cells #[.string r.path, .string r.name, .slice A2 r.args.length c2, .int .i64 r.ord, .string r.reply, .int .i64 r.sent, .int .i64 r.tick, .bool r.isopen] 42)))
          have HN2 : Hid (nx + 1 = (idxs l l' (i + 1)).length) := Lib.hid (by rw [idxs_succ, hm, HNX.out]; simp)
          clear hm hq htell hqi
          go_wp2_with fail
          exact ⟨⟨i + 1, nx + 1, vq, by omega, by go_num, by go_num, by omega, rfl, O3, B3, PS3, HN2⟩, by simp [intOf]; omega⟩
        · have HM : Hid (matchedI l l' i = false) := Lib.hid (by
            cases hm : matchedI l l' i with
            | false => rfl
            | true =>
              obtain ⟨q', h1, h2⟩ := htell.1 hm
              rw [hq] at h1
              rw [← Option.some.inj h1] at h2
              exact absurd h2 hqi)
          have hqb : ((q.1 : Int) == (i : Int)) = false := by simp; omega
          clear hq htell hqi
          have hna : Below wr.heap.size wr ((wr.alloc (.cells #[.string r.path, .string r.name, .slice A2 r.args.length c2, .int .i64 r.ord, .string r.reply, .int .i64 r.sent, .int .i64 r.tick, .bool r.isopen] 42)).alloc (.cells #[.string r.path, .string r.name, .slice A2 r.args.length c2, .int .i64 r.ord, .string r.reply, .int .i64 r.sent, .int .i64 r.tick, .bool r.isopen] 42)) := ((Below.refl _ _).alloc (Nat.le_refl _) _).alloc (by simp) _
          obtain ⟨ks, hks, hki, hkl, hkr⟩ := HO.out
          have HXO := Lib.hid (own_below hks hna)
          have HPS2 := Lib.hid (own_below HPS.out hna)
          have HNA := Lib.hid hna
          have HKS := Lib.hid (And.intro hki hkr)
          clear hks hki hkr hna
          go_wp2_with (at_builtin; refine wpList_append_own_at _ rfl _ _ 36 rfl w.heap.size 42 i0 _ 8 104 Tryd.underlying36 HI.out.1 HI.out.2.1 HI.out.2.2.1 HI.out.2.2.2 rfl (by decide) _ _ _ rfl HXO.out ⟨wr.heap.size + 1, 0, none⟩ 1 1 (RC.cells ⟨r, A2, c2⟩) rfl rfl ?c1x ?c2x ?c3x ?c4x ?c5x ?_)
          case c1x => exact fun j u h => h
          case c2x => exact reqs_one r A2 c2
          case c3x => unfold maxLen; omega
          case c4x => omega
          case c5x => omega
          intro v' w3 ho3 hg3 _ _
          have B3 := Lib.hid ((HB.out.trans (HNA.out.mono hbs)).grown hg3 (by simp; omega) (fun k hk => (own_block HXO.out k hk).1))
          have O3 : Hid (OnlyTo w.heap.size l l' (i + 1) w3 v') := Lib.hid ⟨ks ++ [⟨r, A2, c2⟩], by
            rw [List.length_append, List.length_singleton, List.flatMap_append, List.flatMap_singleton]; exact ho3, by
            rw [List.map_append, HKS.out.1, onlyTo_succ, HM.out, HGET.out]; rfl, by rw [List.length_append, List.length_singleton]; omega, fun k hk => by
            rcases List.mem_append.1 hk with hk | hk
            · exact ((HKS.out.2 k hk).below (HNA.out.mono hbs) (fun _ h => h)).below ((Below.refl w.heap.size _).grown hg3 (by simp; omega) (fun k hk => (own_block HXO.out k hk).1)) (fun _ h => h)
            · simp at hk; subst hk
              exact (R2.out.below (HNA.out.mono hbs) (fun _ h => h)).below ((Below.refl w.heap.size _).grown hg3 (by simp; omega) (fun k hk => (own_block HXO.out k hk).1)) (fun _ h => h)⟩
          have PS3 := Lib.hid (own_other HPS2.out HXO.out hg3 (by decide))
          have HN2 : Hid (nx = (idxs l l' (i + 1)).length) := Lib.hid (by rw [idxs_succ, HM.out, HNX.out]; simp)
          clear ho3 hg3
          go_wp2_with fail
          exact ⟨⟨i + 1, nx, v', by omega, by go_num, rfl, by omega, rfl, O3, B3, PS3, HN2⟩, by simp [intOf]; omega⟩
      · have HM : Hid (matchedI l l' i = false) := Lib.hid (by
          cases hm : matchedI l l' i with
          | false => rfl
          | true =>
            obtain ⟨q', h1, h2⟩ := htell.1 hm
            rw [List.getElem?_eq_none (by omega)] at h1
            cases h1)
        have hnl2 : ¬ (nx : Int) < ps.length := by omega
        clear htell
        have hna : Below wr.heap.size wr ((wr.alloc (.cells #[.string r.path, .string r.name, .slice A2 r.args.length c2, .int .i64 r.ord, .string r.reply, .int .i64 r.sent, .int .i64 r.tick, .bool r.isopen] 42)).alloc (.cells #[.string r.path, .string r.name, .slice A2 r.args.length c2, .int .i64 r.ord, .string r.reply, .int .i64 r.sent, .int .i64 r.tick, .bool r.isopen] 42)) := ((Below.refl _ _).alloc (Nat.le_refl _) _).alloc (by simp) _
        obtain ⟨ks, hks, hki, hkl, hkr⟩ := HO.out
        have HXO := Lib.hid (own_below hks hna)
        have HPS2 := Lib.hid (own_below HPS.out hna)
        have HNA := Lib.hid hna
        have HKS := Lib.hid (And.intro hki hkr)
        clear hks hki hkr hna
        go_wp2_with (at_builtin; refine wpList_append_own_at _ rfl _ _ 36 rfl w.heap.size 42 i0 _ 8 104 Tryd.underlying36 HI.out.1 HI.out.2.1 HI.out.2.2.1 HI.out.2.2.2 rfl (by decide) _ _ _ rfl HXO.out ⟨wr.heap.size + 1, 0, none⟩ 1 1 (RC.cells ⟨r, A2, c2⟩) rfl rfl ?c1y ?c2y ?c3y ?c4y ?c5y ?_)
        case c1y => exact fun j u h => h
        case c2y => exact reqs_one r A2 c2
        case c3y => unfold maxLen; omega
        case c4y => omega
        case c5y => omega
        intro v' w3 ho3 hg3 _ _
        have B3 := Lib.hid ((HB.out.trans (HNA.out.mono hbs)).grown hg3 (by simp; omega) (fun k hk => (own_block HXO.out k hk).1))
        have O3 : Hid (OnlyTo w.heap.size l l' (i + 1) w3 v') := Lib.hid ⟨ks ++ [⟨r, A2, c2⟩], by
          rw [List.length_append, List.length_singleton, List.flatMap_append, List.flatMap_singleton]; exact ho3, by
          rw [List.map_append, HKS.out.1, onlyTo_succ, HM.out, HGET.out]; rfl, by rw [List.length_append, List.length_singleton]; omega, fun k hk => by
          rcases List.mem_append.1 hk with hk | hk
          · exact ((HKS.out.2 k hk).below (HNA.out.mono hbs) (fun _ h => h)).below ((Below.refl w.heap.size _).grown hg3 (by simp; omega) (fun k hk => (own_block HXO.out k hk).1)) (fun _ h => h)
          · simp at hk; subst hk
            exact (R2.out.below (HNA.out.mono hbs) (fun _ h => h)).below ((Below.refl w.heap.size _).grown hg3 (by simp; omega) (fun k hk => (own_block HXO.out k hk).1)) (fun _ h => h)⟩
        have PS3 := Lib.hid (own_other HPS2.out HXO.out hg3 (by decide))
        have HN2 : Hid (nx = (idxs l l' (i + 1)).length) := Lib.hid (by rw [idxs_succ, HM.out, HNX.out]; simp)
        clear ho3 hg3
        go_wp2_with fail
        exact ⟨⟨i + 1, nx, v', by omega, by go_num, rfl, by omega, rfl, O3, B3, PS3, HN2⟩, by simp [intOf]; omega⟩
    · obtain rfl : i = n := by omega
      go_wp2_with fail
      go_ret
      obtain ⟨ks, k1, k2, _, k4⟩ := HO.out
      refine ⟨_, rfl, ?_, HB.out⟩
      have := rd_of_own k1 (fun k hk => (k4 k hk).weaken (fun b hb => Nat.lt_of_lt_of_le hb hbs))
      rw [k2, HL.out] at this
      exact this
end Go.Proofs.YtlnfdpdancolmaaDoor
namespace Go.Proofs.YtlnfdpdancolmaaDoor
open Go.RowKit

/-- how many marked elements of b are alike to r -/
def usedC : List Req → List Bool → Req → Nat
  | x :: b, m :: u, r => (if m && alikeB x r then 1 else 0) + usedC b u r
  | _, _, _ => 0
theorem usedC_set : ∀ (b : List Req) (u : List Bool) (k : Nat) (x : Req) (r : Req), b[k]? = some x → u[k]? = some false → usedC b (u.set k true) r = usedC b u r + if alikeB x r then 1 else 0
  | [], u, k, x, r, h, _ => by simp at h
  | y :: b, [], k, x, r, _, h => by simp at h
  | y :: b, m :: u, 0, x, r, h, h2 => by
    simp at h h2
    subst h h2
    simp only [List.set_cons_zero, usedC, Bool.true_and, Bool.false_and]
    cases alikeB y r <;> simp <;> omega
  | y :: b, m :: u, k + 1, x, r, h, h2 => by
    have ih := usedC_set b u k x r (by simpa using h) (by simpa using h2)
    simp only [List.set_cons_succ, usedC, ih]
    omega
theorem usedC_le : ∀ (b : List Req) (u : List Bool) (r : Req), usedC b u r ≤ b.countP (fun q => alikeB q r)
  | [], u, r => by simp [usedC]
  | y :: b, [], r => by simp [usedC]
  | y :: b, m :: u, r => by
    have ih := usedC_le b u r
    rw [usedC, List.countP_cons]
    cases m <;> cases alikeB y r <;> simp <;> omega
theorem usedC_full : ∀ (b : List Req) (u : List Bool) (r : Req), u.length = b.length → (∀ (k : Nat) (x : Req), b[k]? = some x → u[k]? = some false → alikeB x r = false) → usedC b u r = b.countP (fun q => alikeB q r)
  | [], u, r, _, _ => by simp [usedC]
  | y :: b, [], r, h, _ => by simp at h
  | y :: b, m :: u, r, h, hn => by
    have ih := usedC_full b u r (by simpa using h) (fun k x h1 h2 => hn (k + 1) x (by simpa using h1) (by simpa using h2))
    rw [usedC, List.countP_cons, ih]
    cases m with
    | true => cases alikeB y r <;> simp <;> omega
    | false =>
      have := hn 0 y rfl rfl
      rw [this]; simp
theorem usedC_less : ∀ (b : List Req) (u : List Bool) (k : Nat) (x r : Req), b[k]? = some x → u[k]? = some false → alikeB x r = true → usedC b u r < b.countP (fun q => alikeB q r)
  | [], u, k, x, r, h, _, _ => by simp at h
  | y :: b, [], k, x, r, _, h, _ => by simp at h
  | y :: b, m :: u, 0, x, r, h, h2, h3 => by
    simp at h h2
    subst h h2
    have := usedC_le b u r
    rw [usedC, List.countP_cons, h3]
    simp; omega
  | y :: b, m :: u, k + 1, x, r, h, h2, h3 => by
    have ih := usedC_less b u k x r (by simpa using h) (by simpa using h2) h3
    rw [usedC, List.countP_cons]
    cases m <;> cases alikeB y r <;> simp <;> omega
theorem alike_same {x y : Req} (h : alikeB x y = true) (r : Req) : alikeB x r = alikeB y r := by
  obtain ⟨h1, h2, h3, h4⟩ := (alikeB_iff x y).1 h
  unfold alikeB
  rw [h1, h2, h3, h4]
theorem alike_refl (r : Req) : alikeB r r = true := (alikeB_iff r r).2 ⟨rfl, rfl, rfl, rfl⟩
/-- what has been marked when i elements of a have been looked at -/
def UInv (a b : List Req) (u : List Bool) (i : Nat) : Prop := u.length = b.length ∧ ∀ r, usedC b u r = min ((a.take i).countP (fun q => alikeB q r)) (b.countP (fun q => alikeB q r))
theorem UInv.start (a b : List Req) : UInv a b (List.replicate b.length false) 0 := by
  refine ⟨by simp, fun r => ?_⟩
  have : ∀ b : List Req, usedC b (List.replicate b.length false) r = 0 := by
    intro b
    induction b with
    | nil => rfl
    | cons y b ih => rw [List.length_cons, List.replicate_succ, usedC, ih]; rfl
  rw [this]; simp
theorem take_count {a : List Req} {i : Nat} {x : Req} (h : a[i]? = some x) (r : Req) : (a.take (i + 1)).countP (fun q => alikeB q r) = (a.take i).countP (fun q => alikeB q r) + if alikeB x r then 1 else 0 := by
  rw [List.take_add_one, h, List.countP_append]
  simp [List.countP_cons]
theorem UInv.found {a b : List Req} {u : List Bool} {i k : Nat} {x y : Req} (h : UInv a b u i) (hx : a[i]? = some x) (hy : b[k]? = some y) (hu : u[k]? = some false) (hal : alikeB x y = true) : UInv a b (u.set k true) (i + 1) ∧ matchedI a b i = true := by
  have hyx : alikeB y x = true := by rw [alike_symm]; exact hal
  have hl := usedC_less b u k y x hy hu hyx
  have hm := h.2 x
  refine ⟨⟨by rw [List.length_set]; exact h.1, fun r => ?_⟩, ?_⟩
  · rw [usedC_set b u k y r hy hu, take_count hx r, h.2 r, alike_same hal r]
    cases hr : alikeB y r with
    | false => simp
    | true =>
      have := usedC_less b u k y r hy hu hr
      have h2 := h.2 r
      simp only [if_true]
      omega
  · unfold matchedI
    rw [hx]
    exact decide_eq_true (by omega)
theorem UInv.missed {a b : List Req} {u : List Bool} {i : Nat} {x : Req} (h : UInv a b u i) (hx : a[i]? = some x) (hno : ∀ (k : Nat) (y : Req), b[k]? = some y → u[k]? = some false → alikeB x y = false) : UInv a b u (i + 1) ∧ matchedI a b i = false := by
  have hf := usedC_full b u x h.1 (fun k y h1 h2 => by rw [alike_symm]; exact hno k y h1 h2)
  have hm := h.2 x
  refine ⟨⟨h.1, fun r => ?_⟩, ?_⟩
  · rw [take_count hx r, h.2 r]
    cases hr : alikeB x r with
    | false => simp
    | true =>
      have e1 : ∀ l : List Req, l.countP (fun q => alikeB q r) = l.countP (fun q => alikeB q x) := fun l => by
        congr 1
        funext q
        rw [alike_symm q r, alike_symm q x, ← alike_same hr q]
      rw [e1, e1]
      simp only [if_true]
      omega
  · unfold matchedI
    rw [hx]
    exact decide_eq_false (by omega)
end Go.Proofs.YtlnfdpdancolmaaDoor
