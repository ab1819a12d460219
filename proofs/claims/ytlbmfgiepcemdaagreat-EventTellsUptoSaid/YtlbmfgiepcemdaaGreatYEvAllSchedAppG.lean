/- ref23.All at two slices of the same events: true. Conditions: those in each statement. Systems in memory, as far as the scheduler reads them; sched.ready and sched.Enabled (how many actions). Conditions: those in each statement. An element of any struct appended to a row of the call's own. Conditions: those in each statement. -/
import Derived.Test.YtlbmfgiepcemdaaGreatYRefSameEvRSame
import Derived.Test.YtlbmfgiepcemdaaGreatYEvWrite
import Derived.Lib.QuietBelow
import Derived.Test.YtlbmfgiepcemdaaGreatYDecPBldE
namespace Go.Proofs.YtlbmfgiepcemdaaGreat
open Go.RowKit Go.Sort

theorem eqE_self (x : Ev) : eqE x x = true := (eqE_iff x x).2 rfl
set_option maxHeartbeats 4000000 in
set_option maxRecDepth 100000 in
theorem rall_same (l : List Ev) (A A' : Option Addr) (n c c' : Nat) (w : World) (hn : n ≤ 1048576) (hb : ∀ x ∈ l, x.size ≤ 2097152) (hr : Rd (Lt w.heap.size) w (slEv l) (.slice A n c)) (hr' : Rd (Lt w.heap.size) w (slEv l) (.slice A' n c')) :
    Calls Tryz.prog 16 #[.slice A n c, .slice A' n c'] w fun e w' => e = .returned (.bool true) ∧ Below w.heap.size w w' := by
  have HR := Lib.hid hr
  have HR' := Lib.hid hr'
  have HBZ := Lib.hid hb
  clear hr hr' hb
  go_enter Tryz.func16, Tryz.ntmps16
  go_wp2_with fail
  go_loopw [5] (fun s5 wr => ∃ i : Nat, i ≤ n ∧ s5 = .int .i64 i ∧ Hid (Below w.heap.size w wr)) (fun s5 _ => n - (intOf s5).toNat)
  case atStart => exact ⟨0, by omega, rfl, Lib.hid (Below.refl _ _)⟩
  case round =>
    obtain ⟨i, hi, rfl, HB⟩ := hrel
    by_cases hlt : i < n
    · obtain ⟨b, off, x, e, hlb, hget, A3, c3, A10, c10, hat⟩ := slEv_at (HR.out.belows HB.out) hlt
      subst e
      obtain ⟨b', off', y, e, hlb', hget', A4, c4, A11, c11, hat'⟩ := slEv_at (HR'.out.belows HB.out) hlt
      subst e
      rw [hget] at hget'
      obtain rfl := Option.some.inj hget'
      obtain ⟨p0, p1, p2, p3, p4, p5, p6, p7, p8, p9, p10, p11, r3, r10⟩ := hat
      obtain ⟨q0, q1, q2, q3, q4, q5, q6, q7, q8, q9, q10, q11, s3, s10⟩ := hat'
      have hbx := HBZ.out x (List.mem_of_getElem? hget)
      unfold Ev.size at hbx
      have hvb : x.val.bulk = 7 + x.vt.size + x.vx.size + bulkV x.vl := by unfold Ev.val; rw [bulk_mk]
      have R3 := Lib.hid r3
      have R10 := Lib.hid r10
      have T3 := Lib.hid s3
      have T10 := Lib.hid s10
      have hin : (i : Int) < n := by omega
      have K0 := Lib.hid (fun d os => Calls.regrown_of (revsame_any x x A3 A4 A10 A11 c3 c4 c10 c11 (grow (redrawn wr d) os) (by omega) (by omega) (by omega) (by omega) (R3.out.belows (below_regrown wr d os)) (T3.out.belows (below_regrown wr d os)) (R10.out.belows (below_regrown wr d os)) (T10.out.belows (below_regrown wr d os))))
      rw [eqE_self] at K0
      have m0 := fun d os => cell_regrown p0 d os
      have o0 := fun d os => cell_regrown q0 d os
      have m1 := fun d os => cell_regrown p1 d os
      have o1 := fun d os => cell_regrown q1 d os
      have m2 := fun d os => cell_regrown p2 d os
      have o2 := fun d os => cell_regrown q2 d os
      have m3 := fun d os => cell_regrown p3 d os
      have o3 := fun d os => cell_regrown q3 d os
      have m4 := fun d os => cell_regrown p4 d os
      have o4 := fun d os => cell_regrown q4 d os
      have m5 := fun d os => cell_regrown p5 d os
      have o5 := fun d os => cell_regrown q5 d os
      have m6 := fun d os => cell_regrown p6 d os
      have o6 := fun d os => cell_regrown q6 d os
      have m7 := fun d os => cell_regrown p7 d os
      have o7 := fun d os => cell_regrown q7 d os
      have m8 := fun d os => cell_regrown p8 d os
      have o8 := fun d os => cell_regrown q8 d os
      have m9 := fun d os => cell_regrown p9 d os
      have o9 := fun d os => cell_regrown q9 d os
      have m10 := fun d os => cell_regrown p10 d os
      have o10 := fun d os => cell_regrown q10 d os
      have m11 := fun d os => cell_regrown p11 d os
      have o11 := fun d os => cell_regrown q11 d os
      clear p0 p1 p2 p3 p4 p5 p6 p7 p8 p9 p10 p11 q0 q1 q2 q3 q4 q5 q6 q7 q8 q9 q10 q11 r3 r10 s3 s10 hget hget' hbx hvb
      go_wp2_with fail
      refine wp_region_quiet_below (by kernel_rfl) (by kernel_rfl) ?_
      repeat (go_big_quiet_step (first | with_reducible exact K0.out _ _))
      refine wpQuiet_nil ?_
      intro _ hw'
      obtain ⟨⟨dq, osq⟩, hw''⟩ := hw'
      subst hw''
      clear m0 m1 m2 m3 m4 m5 m6 m7 m8 m9 m10 m11 o0 o1 o2 o3 o4 o5 o6 o7 o8 o9 o10 o11 K0
      have hb1 := below_regrown wr dq osq
      obtain ⟨w1, hw1⟩ : ∃ w1, grow (redrawn wr dq) osq = w1 := ⟨_, rfl⟩
      rw [hw1] at hb1 ⊢
      have HB2 := Lib.hid (HB.out.trans (hb1.mono HB.out.size))
      clear hw1 hb1
      go_wp2_with fail
      exact ⟨⟨i + 1, by omega, by go_num, HB2⟩, by simp [intOf]; omega⟩
    · go_wp2_with fail
      go_ret
      exact ⟨rfl, HB.out⟩
end Go.Proofs.YtlbmfgiepcemdaaGreat
namespace Go.Proofs.YtlbmfgiepcemdaaGreat
open Go.RowKit Go.Sort

/-- an actor, as far as the scheduler reads it -/
structure Act1 where
  path : ByteArray
  node : Int
  stopped : Bool
  mail : Nat
/-- a system's nine cells -/
structure Sys where
  up : List Bool
  Au : Option Addr
  cu : Nat
  sm : Int
  sc : Int
  sq : Int
  acts : List Act1
  Aa : Option Addr
  ca : Nat
  fl : List (Int × Int)
  Af : Option Addr
  cf : Nat
  Al : Option Addr
  nl : Nat
  cl : Nat
  Ak : Option Addr
  nk : Nat
  ck : Nat
  sd : Int
def ActAt (w : World) (b o : Nat) (x : Act1) : Prop :=
  w.cell? ⟨b, o, none⟩ = some (.string x.path) ∧ w.cell? ⟨b, o + 2, none⟩ = some (.int .i64 x.node) ∧ w.cell? ⟨b, o + 7, none⟩ = some (.bool x.stopped) ∧ ∃ A c, w.cell? ⟨b, o + 8, none⟩ = some (.slice A x.mail c) ∧ x.mail ≤ 9223372036854775807
/-- what the system's slices lead to, in blocks that are ok -/
structure SysAt (ok : Nat → Prop) (w : World) (s : Sys) : Prop where
  up : 0 < s.up.length → ∃ b off, s.Au = some ⟨b, off, none⟩ ∧ ok b ∧ ∀ i x, s.up[i]? = some x → w.cell? ⟨b, off + i, none⟩ = some (.bool x)
  un : s.up.length ≤ 9223372036854775807
  acts : 0 < s.acts.length → ∃ b off, s.Aa = some ⟨b, off, none⟩ ∧ ok b ∧ ∀ i x, s.acts[i]? = some x → ActAt w b (off + i * 9) x
  fl : 0 < s.fl.length → ∃ b off, s.Af = some ⟨b, off, none⟩ ∧ ok b ∧ ∀ i x, s.fl[i]? = some x → w.cell? ⟨b, off + i * 7, none⟩ = some (.int .i64 x.1) ∧ w.cell? ⟨b, off + i * 7 + 1, none⟩ = some (.int .i64 x.2)
theorem ActAt.keep {w w' : World} {b o : Nat} {x : Act1} (h : ActAt w b o x) (hc : ∀ o, w'.cell? ⟨b, o, none⟩ = w.cell? ⟨b, o, none⟩) : ActAt w' b o x := by
  obtain ⟨h1, h2, h3, A, c, h4, h5⟩ := h
  exact ⟨(hc _).trans h1, (hc _).trans h2, (hc _).trans h3, A, c, (hc _).trans h4, h5⟩
theorem SysAt.keep {ok : Nat → Prop} {w w' : World} {s : Sys} (h : SysAt ok w s) (hc : ∀ b o, ok b → w'.cell? ⟨b, o, none⟩ = w.cell? ⟨b, o, none⟩) : SysAt ok w' s := by
  refine ⟨fun h0 => ?_, h.un, fun h0 => ?_, fun h0 => ?_⟩
  · obtain ⟨b, off, h1, h2, h3⟩ := h.up h0
    exact ⟨b, off, h1, h2, fun i x hi => (hc _ _ h2).trans (h3 i x hi)⟩
  · obtain ⟨b, off, h1, h2, h3⟩ := h.acts h0
    exact ⟨b, off, h1, h2, fun i x hi => (h3 i x hi).keep (fun o => hc b o h2)⟩
  · obtain ⟨b, off, h1, h2, h3⟩ := h.fl h0
    exact ⟨b, off, h1, h2, fun i x hi => ⟨(hc _ _ h2).trans (h3 i x hi).1, (hc _ _ h2).trans (h3 i x hi).2⟩⟩
theorem SysAt.weaken {ok ok' : Nat → Prop} {w : World} {s : Sys} (h : SysAt ok w s) (hk : ∀ b, ok b → ok' b) : SysAt ok' w s := by
  refine ⟨fun h0 => ?_, h.un, fun h0 => ?_, fun h0 => ?_⟩
  · obtain ⟨b, off, h1, h2, h3⟩ := h.up h0
    exact ⟨b, off, h1, hk b h2, h3⟩
  · obtain ⟨b, off, h1, h2, h3⟩ := h.acts h0
    exact ⟨b, off, h1, hk b h2, h3⟩
  · obtain ⟨b, off, h1, h2, h3⟩ := h.fl h0
    exact ⟨b, off, h1, hk b h2, h3⟩
theorem SysAt.belows {w w' : World} {s : Sys} (h : SysAt (Lt w.heap.size) w s) (hb : Below w.heap.size w w') : SysAt (Lt w'.heap.size) w' s :=
  (h.keep (fun b o hb' => hb.cell (p := ⟨b, o, none⟩) hb')).weaken (fun _ hb' => Nat.lt_of_lt_of_le hb' hb.size)
/-- can the actor handle a message? -/
def readyS (up : List Bool) (x : Act1) : Bool := !x.stopped && (decide (0 < x.mail) && (decide (0 ≤ x.node) && (decide (x.node < up.length) && up.getD x.node.toNat false)))
set_option maxHeartbeats 4000000 in
set_option maxRecDepth 100000 in
theorem ready_any (s : Sys) (b o : Nat) (x : Act1) (w : World) (hs : SysAt (Lt w.heap.size) w s) (hx : ActAt w b o x) (hb : b < w.heap.size) :
    Calls Tryz.prog 57 #[.agg #[.slice s.Au s.up.length s.cu, .int .i64 s.sm, .int .i64 s.sc, .int .i64 s.sq, .slice s.Aa s.acts.length s.ca, .slice s.Af s.fl.length s.cf, .slice s.Al s.nl s.cl, .slice s.Ak s.nk s.ck, .int .i64 s.sd], .pointer (some ⟨b, o, none⟩)] w fun e w' => e = .returned (.bool (readyS s.up x)) ∧ Below w.heap.size w w' := by
  obtain ⟨p0, p2, p7, Am, cm, p8, hm⟩ := hx
  have hun := hs.un
  have HS := Lib.hid hs
  obtain ⟨R, hR⟩ : ∃ R, readyS s.up x = R := ⟨_, rfl⟩
  have HU : Hid (R = (!x.stopped && (decide (0 < x.mail) && (decide (0 ≤ x.node) && (decide (x.node < s.up.length) && s.up.getD x.node.toNat false))))) := Lib.hid (by rw [← hR]; rfl)
  rw [hR]
  obtain ⟨W, hW⟩ : ∃ W, w.alloc (.cells #[.slice s.Au s.up.length s.cu, .int .i64 s.sm, .int .i64 s.sc, .int .i64 s.sq, .slice s.Aa s.acts.length s.ca, .slice s.Af s.fl.length s.cf, .slice s.Al s.nl s.cl, .slice s.Ak s.nk s.ck, .int .i64 s.sd] 29) = W := ⟨_, rfl⟩
  have hal : Below w.heap.size w W := by rw [← hW]; exact (Below.refl _ _).alloc (Nat.le_refl _) _
  have HAL := Lib.hid hal
  have q0 := (hal.cell (p := ⟨b, _, none⟩) hb).trans p0
  have q2 := (hal.cell (p := ⟨b, _, none⟩) hb).trans p2
  have q7 := (hal.cell (p := ⟨b, _, none⟩) hb).trans p7
  have q8 := (hal.cell (p := ⟨b, _, none⟩) hb).trans p8
  have hC : CellsAt W w.heap.size #[.slice s.Au s.up.length s.cu, .int .i64 s.sm, .int .i64 s.sc, .int .i64 s.sq, .slice s.Aa s.acts.length s.ca, .slice s.Af s.fl.length s.cf, .slice s.Al s.nl s.cl, .slice s.Ak s.nk s.ck, .int .i64 s.sd] 29 := by rw [← hW]; exact CellsAt.new _ _ _
  have r0 : W.cell? ⟨w.heap.size, 0, none⟩ = some (.slice s.Au s.up.length s.cu) := by rw [hC.cell]; rfl
  obtain ⟨path, node, stopped, mail⟩ := x
  dsimp only at *
  clear p0 p2 p7 p8 hs hR hal hC
  cases stopped with
  | true =>
    have HR : Hid (R = false) := Lib.hid (by rw [HU.out]; rfl)
    go_enter Tryz.func57, Tryz.ntmps57
    go_wp2_with fail
    clear hW
    go_quiet (fail)
    go_wp2_with fail
    go_ret
    exact ⟨by rw [HR.out]; rfl, below_drewN HAL.out _⟩
  | false =>
    by_cases h1 : 0 < mail
    · have h1d : decide (0 < mail) = true := by simpa using h1
      by_cases h2 : 0 ≤ node
      · have h2d : decide (0 ≤ node) = true := by simpa using h2
        by_cases h3 : node < s.up.length
        · have h3d : decide (node < (s.up.length : Int)) = true := by simpa using h3
          obtain ⟨bu, ou, hau, hbu, hcu⟩ := HS.out.up (by omega)
          obtain ⟨k, rfl⟩ : ∃ k : Nat, node = k := ⟨node.toNat, by omega⟩
          have hk : k < s.up.length := by omega
          obtain ⟨g, hg⟩ : ∃ g, s.up[k]? = some g := ⟨_, List.getElem?_eq_getElem hk⟩
          have hgd : s.up.getD k false = g := by rw [List.getD_eq_getElem?_getD, hg]; rfl
          have HR : Hid (R = g) := Lib.hid (by rw [HU.out, h1d, h2d, h3d, Int.toNat_natCast, hgd]; rfl)
          have u0 := (HAL.out.cell (p := ⟨bu, _, none⟩) hbu).trans (hcu k g hg)
          rw [hau] at r0
          have HAU := Lib.hid hau
          clear hau hbu hcu hg hgd
          rw [HAU.out] at hW ⊢
          go_enter Tryz.func57, Tryz.ntmps57
          go_wp2_with fail
          clear hW
          go_quiet (fail)
          go_wp2_with fail
          go_ret
          exact ⟨by rw [HR.out]; rfl, below_drewN HAL.out _⟩
        · have h3d : decide (node < (s.up.length : Int)) = false := by simpa using h3
          have HR : Hid (R = false) := Lib.hid (by rw [HU.out, h3d]; simp)
          go_enter Tryz.func57, Tryz.ntmps57
          go_wp2_with fail
          clear hW
          go_quiet (fail)
          go_wp2_with fail
          go_ret
          exact ⟨by rw [HR.out]; rfl, below_drewN HAL.out _⟩
      · have h2d : decide (0 ≤ node) = false := by simpa using h2
        have HR : Hid (R = false) := Lib.hid (by rw [HU.out, h2d]; simp)
        go_enter Tryz.func57, Tryz.ntmps57
        go_wp2_with fail
        clear hW
        go_quiet (fail)
        go_wp2_with fail
        go_ret
        exact ⟨by rw [HR.out]; rfl, below_drewN HAL.out _⟩
    · have h1d : decide (0 < mail) = false := by simpa using h1
      have HR : Hid (R = false) := Lib.hid (by rw [HU.out, h1d]; simp)
      go_enter Tryz.func57, Tryz.ntmps57
      go_wp2_with fail
      clear hW
      go_quiet (fail)
      go_wp2_with fail
      go_ret
      exact ⟨by rw [HR.out]; rfl, below_drewN HAL.out _⟩
end Go.Proofs.YtlbmfgiepcemdaaGreat
namespace Go.Proofs.YtlbmfgiepcemdaaGreat
open Go.RowKit

def rowsG {α : Type} (row : α → Nat → D) (l : List α) (i : Nat) : Nat → D := match l[i]? with | some x => row x | none => fun _ => .bool false
theorem rowsG_get {α : Type} {row : α → Nat → D} {l : List α} {i : Nat} {x : α} (h : l[i]? = some x) : rowsG row l i = row x := by unfold rowsG; rw [h]
def slG {α : Type} (k : Nat) (row : α → Nat → D) (l : List α) : D := .sl k l.length (rowsG row l)
theorem slG_at {α : Type} {k : Nat} {row : α → Nat → D} {ok : Nat → Prop} {w : World} {l : List α} {A : Option Addr} {n c : Nat} (h : Rd ok w (slG k row l) (.slice A n c)) {i : Nat} (hi : i < n) :
    ∃ b off x, A = some ⟨b, off, none⟩ ∧ ok b ∧ l[i]? = some x ∧ RdRow ok w b (off + i * k) k (row x) := by
  obtain ⟨A0, c0, e, _, _, h3⟩ := h.sl_inv
  injection e with e1 e2 e3
  subst e1 e2
  obtain ⟨b, off, rfl, hb, hr⟩ := h3 (by omega)
  have hv : l[i]? = some l[i] := List.getElem?_eq_getElem hi
  have h1 := hr i hi
  rw [rowsG_get hv] at h1
  exact ⟨b, off, l[i], rfl, hb, hv, h1⟩
theorem slG_len {α : Type} {k : Nat} {row : α → Nat → D} {ok : Nat → Prop} {w : World} {l : List α} {A : Option Addr} {n c : Nat} (h : Rd ok w (slG k row l) (.slice A n c)) : n = l.length ∧ n ≤ c ∧ c ≤ 9223372036854775807 := by
  obtain ⟨A0, c0, e, h1, h2, _⟩ := h.sl_inv
  injection e with e1 e2 e3
  subst e1 e2 e3
  exact ⟨rfl, h1, h2⟩
/-- APPEND OF ONE ELEMENT ONTO A ROW OF THE CALL's OWN -/
theorem wp_append_row {α : Type} (row : α → Nat → D) {T E : TypeId} {size bytes : Nat} {z : Value} (hinfo : (Tryz.prog.info? E).map (fun i => (i.zero, i.size, i.bytes)) = some (some z, size, bytes)) (hund : Tryz.prog.underlying T = some (.slice E)) (hzs : z.cells.size = size) (hsz : 0 < size) (hbb : bytes ≤ 8192)
    {w : World} {ops : Array Oper} {rest : List Oper} {o : Oper} {a : Act} {Q : Exit → Act → World → Prop} (hgd : o.guard = none) (s x : Operand)
    (ho : o.op = .call { callee := .builtin .append, args := #[s, x], argTypes := #[T, T] })
    (B : Nat) (hB : B ≤ w.heap.size) (v : Value) (acc : List α) (hs : a.eval s = v) (hO : Owned B E size acc.length (rowsG row acc) w v)
    (ad : Addr) (c : Nat) (y : α) (cs : List Value) (hcl : cs.length = size) (hx : a.eval x = .slice (some ad) 1 c) (hcells : ∀ (j : Nat) (u : Value), cs[j]? = some u → w.cell? (ad.add j) = some u)
    (hrd : ∀ (j : Nat) (u : Value), cs[j]? = some u → Rd (fun b => Bt B w.heap.size b ∧ some b ≠ v.ownBlock) w (row y j) u) (hlen : acc.length ≤ 2097152)
    (h : ∀ v' w', Owned B E size (acc ++ [y]).length (rowsG row (acc ++ [y])) w' v' → w.grownBy w' v.ownBlock → (∀ q, v'.ownBlock = some q → v.ownBlock = some q ∨ q = w.heap.size) → wpList Tryz.prog ops Q rest (a.put o.dst v') w') : wpList Tryz.prog ops Q (o :: rest) a w := by
  obtain ⟨i0, hi0, hz0, hz1, hz2⟩ := info_parts hinfo
  obtain ⟨xs, hown⟩ := hO.own
  have hb : (acc.length + 1) * bytes ≤ 2097153 * 8192 := Nat.mul_le_mul (by omega) hbb
  refine wpList_append_lies w hgd s x T ho B E i0 z size bytes hund hi0 hz0 hz1 hz2 hzs hsz v acc.length xs hs hown ad 1 c cs hx (by rw [hcl, Nat.one_mul]) hcells (fun u hu => ?_) (by omega) (by unfold maxLen; omega) (by omega) hB w.heap.size rfl ?_
  · obtain ⟨j, hj⟩ := List.getElem?_of_mem hu
    exact (hrd j u hj).oneCell
  intro g cap w' h2 h3 h4 _
  refine h _ w' ?_ h3 (fun q hq => by
    obtain rfl : g = q := Option.some.inj hq
    exact h4)
  have hl : (acc ++ [y]).length = acc.length + 1 := by simp
  rw [hl]
  refine hO.append hown h2 h3 h4 hcl (fun k hk => ?_) (fun j u hj => ?_)
  · have hx : acc[k]? = some acc[k] := List.getElem?_eq_getElem hk
    rw [rowsG_get hx, rowsG_get (l := acc ++ [y]) (i := k) (by rw [List.getElem?_append_left hk]; exact hx)]
  · rw [rowsG_get (l := acc ++ [y]) (i := acc.length) (x := y) (by rw [List.getElem?_append_right (Nat.le_refl _)]; simp)]
    exact hrd j u hj
end Go.Proofs.YtlbmfgiepcemdaaGreat
