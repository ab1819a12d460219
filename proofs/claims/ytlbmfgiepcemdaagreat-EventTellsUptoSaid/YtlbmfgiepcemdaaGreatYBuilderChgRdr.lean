/- strings.Builder: WriteString and String, laid by hand out of the shelf. Conditions: those in each statement. How worlds change: some old blocks written, others laid behind; a code.Reader in memory. No walk here. The methods of code.Reader. Conditions: those in each statement. -/
import Derived.Test.YtlbmfgiepcemdaaGreatYNumValStructs
import Derived.Shelf.Strings.Builder1
import Derived.Shelf.Strings.Builder2
import Derived.Test.YtlbmfgiepcemdaaGreatProg
import Derived.Test.YtlbmfgiepcemdaaGreatYEnc
namespace Go.Proofs.YtlbmfgiepcemdaaGreat
open Go.RowKit Go.Shelf

def layB_ren : Go.Shelf.Ren := ⟨fun | 166 => 40 | 169 => 45 | 240 => 68 | 276 => 87 | n => n,
  fun | 0 => 0 | 3 => 3 | 4 => 4 | 5 => 5 | 9 => 9 | 20 => 20 | 37 => 68 | 70 => 67 | 72 => 70 | 75 => 72 | 80 => 80 | 164 => 122 | n => n, fun | n => n⟩
theorem layB : Go.Proofs.Lays.n166 Tryz.prog layB_ren := {
  mixed := by kernel_rfl
  f166 := Tryz.func40.trans (congrArg some (by kernel_rfl))
  f240 := Tryz.func68.trans (congrArg some (by kernel_rfl))
  f276 := Tryz.func87.trans (congrArg some (by kernel_rfl))
  t0 := Tryz.underlying0
  a0 := Tryz.isAgg0
  z0 := Tryz.sizeOf0
  v0 := Tryz.zeroValue0
  t3 := Tryz.underlying3
  a3 := Tryz.isAgg3
  z3 := Tryz.sizeOf3
  v3 := Tryz.zeroValue3
  t4 := Tryz.underlying4
  a4 := Tryz.isAgg4
  z4 := Tryz.sizeOf4
  v4 := Tryz.zeroValue4
  t9 := Tryz.underlying9
  a9 := Tryz.isAgg9
  z9 := Tryz.sizeOf9
  v9 := Tryz.zeroValue9
  t20 := Tryz.underlying20
  a20 := Tryz.isAgg20
  z20 := Tryz.sizeOf20
  v20 := Tryz.zeroValue20
  t37 := Tryz.underlying68
  a37 := Tryz.isAgg68
  z37 := Tryz.sizeOf68
  v37 := Tryz.zeroValue68
  t70 := Tryz.underlying67
  a70 := Tryz.isAgg67
  z70 := Tryz.sizeOf67
  v70 := Tryz.zeroValue67
  t72 := Tryz.underlying70
  a72 := Tryz.isAgg70
  z72 := Tryz.sizeOf70
  v72 := Tryz.zeroValue70
  t75 := Tryz.underlying72
  a75 := Tryz.isAgg72
  z75 := Tryz.sizeOf72
  v75 := Tryz.zeroValue72
  t164 := Tryz.underlying122
  a164 := Tryz.isAgg122
  z164 := Tryz.sizeOf122
  v164 := Tryz.zeroValue122 }
theorem layB_extra : Builder.Extra Tryz.prog layB_ren := {
  sizeBuilder := by kernel_rfl
  liesBuilder := by kernel_rfl
  t5 := Tryz.underlying5
  a5 := Tryz.isAgg5
  z5 := Tryz.sizeOf5
  v5 := Tryz.zeroValue5
  infoByte := by kernel_rfl
  cellsByte := by kernel_rfl
  sizeByte := by kernel_rfl
  neB5 := by decide }
end Go.Proofs.YtlbmfgiepcemdaaGreat
namespace Go.Proofs.YtlbmfgiepcemdaaGreat
open Go.RowKit

/-- of the old blocks only those of M may have turned -/
structure Chg (M : Nat → Prop) (w w' : World) : Prop where
  os : w'.os = w.os
  tape : w'.tape = w.tape
  output : w'.output = w.output
  size : w.heap.size ≤ w'.heap.size
  block : ∀ k, k < w.heap.size → ¬ M k → w'.heap[k]? = w.heap[k]?
section
variable {M M' : Nat → Prop} {w w1 w2 : World}
theorem Chg.refl (M : Nat → Prop) (w : World) : Chg M w w := ⟨rfl, rfl, rfl, Nat.le_refl _, fun _ _ _ => rfl⟩
/-- what the second step writes is M's or new -/
theorem Chg.trans (h : Chg M w w1) (k : Chg M' w1 w2) (hm : ∀ j, M' j → M j ∨ w.heap.size ≤ j) : Chg M w w2 :=
  ⟨k.os.trans h.os, k.tape.trans h.tape, k.output.trans h.output, Nat.le_trans h.size k.size, fun j hj hn =>
    (k.block j (Nat.lt_of_lt_of_le hj h.size) (fun hm' => by
      rcases hm j hm' with h1 | h1
      · exact hn h1
      · omega)).trans (h.block j hj hn)⟩
theorem Chg.next (h : Chg M w w1) (k : Chg M w1 w2) : Chg M w w2 := h.trans k (fun _ hm => .inl hm)
theorem Chg.mono (h : Chg M w w1) (hm : ∀ j, M j → M' j) : Chg M' w w1 := ⟨h.os, h.tape, h.output, h.size, fun j hj hn => h.block j hj (fun h' => hn (hm j h'))⟩
theorem Chg.of_below (h : Below w.heap.size w w1) : Chg M w w1 := ⟨h.os, h.tape, h.output, h.size, fun k hk _ => h.block k hk⟩
theorem Chg.below (h : Chg M w w1) {B : Nat} (hB : B ≤ w.heap.size) (hm : ∀ j, M j → B ≤ j) : Below B w w1 := ⟨h.os, h.tape, h.output, h.size, fun k hk => h.block k (by omega) (fun h' => by have := hm k h'; omega)⟩
theorem Chg.thenBelow (h : Chg M w w1) (k : Below w1.heap.size w1 w2) : Chg M w w2 := h.next (Chg.of_below k)
theorem Chg.alloc (h : Chg M w w1) (o : Obj) : Chg M w (w1.alloc o) := h.thenBelow ((Below.refl _ _).alloc (Nat.le_refl _) o)
theorem Chg.setCell (h : Chg M w w1) {p : Addr} (hp : M p.block ∨ w.heap.size ≤ p.block) (u : Value) : Chg M w (w1.setCell p u) :=
  ⟨h.os, h.tape, h.output, by rw [size_setCell]; exact h.size, fun k hk hn => (Below.heap_setCell w1 p u k (fun e => by
    subst e
    rcases hp with h1 | h1
    · exact hn h1
    · omega)).trans (h.block k hk hn)⟩
theorem Chg.setCells {b : Nat} (hp : M b ∨ w.heap.size ≤ b) : ∀ (us : List Value) (o : Nat) {w1 : World}, Chg M w w1 → Chg M w (w1.setCells b o us)
  | [], _, _, h => h
  | u :: r, o, _, h => Chg.setCells hp r (o + 1) (h.setCell (p := ⟨b, o, none⟩) hp u)
theorem Chg.drewN (h : Chg M w w1) (n : Nat) : Chg M w (w1.drewN n) := ⟨h.os, h.tape, h.output, h.size, h.block⟩
theorem Chg.of_grown {row : Option Nat} (h : w.grownBy w1 row) (hm : ∀ k, row = some k → M k) : Chg M w w1 := ⟨h.os, h.tape, h.output, h.size, fun k hk hn => h.block k hk (fun e => hn (hm k e.symm))⟩
theorem Chg.cell (h : Chg M w w1) {p : Addr} (hp : p.block < w.heap.size) (hn : ¬ M p.block) : w1.cell? p = w.cell? p := World.cell?_of_block (h.block p.block hp hn)
theorem Chg.frozen (h : Chg M w w1) {p : Addr} (hp : p.block < w.heap.size) (hn : ¬ M p.block) : w1.frozen? p = w.frozen? p := World.frozen?_of_block (h.block p.block hp hn)
theorem Chg.rd (h : Chg M w w1) {ok : Nat → Prop} (hok : ∀ b, ok b → b < w.heap.size ∧ ¬ M b) {d : D} {v : Value} (hr : Rd ok w d v) : Rd ok w1 d v :=
  hr.keep fun b o hb => h.cell (p := ⟨b, o, none⟩) (hok b hb).1 (hok b hb).2
end

/-- the state of a code.Reader: the unread input, the error flag -/
structure RS where
  s : ByteArray
  f : Bool
def RS.bad : RS := ⟨⟨#[]⟩, true⟩
/-- block b holds a code.Reader -/
def RdrAt (w : World) (b : Nat) (r : RS) : Prop := w.heap[b]? = some (.cells #[.string r.s, .bool r.f] 101 (0, 0))
section
variable {w w1 : World} {b : Nat} {r : RS}
theorem RdrAt.lt (h : RdrAt w b r) : b < w.heap.size := (Array.getElem?_eq_some_iff.1 h).1
theorem RdrAt.c0 (h : RdrAt w b r) : w.cell? ⟨b, 0, none⟩ = some (.string r.s) := by rw [Lib.cell_of_heap h]; rfl
theorem RdrAt.c1 (h : RdrAt w b r) : w.cell? ⟨b, 1, none⟩ = some (.bool r.f) := by rw [Lib.cell_of_heap h]; rfl
theorem RdrAt.fz (h : RdrAt w b r) (j : Nat) : w.frozen? ⟨b, j, none⟩ = false := by simp [World.frozen?, show w.heap[b]? = _ from h]
theorem RdrAt.set0 (h : RdrAt w b r) (s : ByteArray) : RdrAt (w.setCell ⟨b, 0, none⟩ (.string s)) b ⟨s, r.f⟩ := by
  unfold RdrAt at h ⊢
  simp [World.setCell, Array.getElem?_modify, h]
theorem RdrAt.set1 (h : RdrAt w b r) (f : Bool) : RdrAt (w.setCell ⟨b, 1, none⟩ (.bool f)) b ⟨r.s, f⟩ := by
  unfold RdrAt at h ⊢
  simp [World.setCell, Array.getElem?_modify, h]
theorem RdrAt.keep {M : Nat → Prop} (h : RdrAt w b r) (hc : Chg M w w1) (hb : ¬ M b) : RdrAt w1 b r := (hc.block b h.lt hb).trans h
theorem RdrAt.below (h : RdrAt w b r) (hc : Below w.heap.size w w1) : RdrAt w1 b r := (hc.block b h.lt).trans h
end
/-- the reader's call: it returns v, and only the reader's own block has turned, into r -/
def RPost (b : Nat) (r : RS) (v : Value) (w : World) (e : Ending) (w' : World) : Prop := e = .returned v ∧ Chg (fun k => k = b) w w' ∧ RdrAt w' b r
end Go.Proofs.YtlbmfgiepcemdaaGreat
namespace Go.Proofs.YtlbmfgiepcemdaaGreat
open Go.RowKit

theorem open_any (s : ByteArray) (w : World) : Calls Tryz.prog 31 #[.string s] w fun e w' => e = .returned (.pointer (some ⟨w.heap.size, 0, none⟩)) ∧ Below w.heap.size w w' ∧ RdrAt w' w.heap.size ⟨s, false⟩ := by
  go_enter Tryz.func31, Tryz.ntmps31
  go_wp2_with fail
  go_ret
  exact ⟨rfl, (Below.refl _ _).alloc (Nat.le_refl _) _, heap_alloc_new w _⟩

theorem fail_any (b : Nat) (r : RS) (w : World) (h : RdrAt w b r) : Calls Tryz.prog 61 #[.pointer (some ⟨b, 0, none⟩)] w (RPost b RS.bad (.tuple #[]) w) := by
  have c0 := h.c0
  have c1 := h.c1
  have f0 := h.fz
  have H := Lib.hid h
  clear h
  go_enter Tryz.func61, Tryz.ntmps61
  go_wp2_with fail
  exact bodyPost_ret (v := .tuple #[]) (by simp [results, Tryz.results61, go_sem]) rfl ⟨rfl, ((Chg.refl (fun k => k = b) w).setCell (p := ⟨b, 0, none⟩) (.inl rfl) _).setCell (p := ⟨b, 1, none⟩) (.inl rfl) _, (H.out.set0 ⟨#[]⟩).set1 true⟩

theorem left_any (b : Nat) (r : RS) (w : World) (h : RdrAt w b r) : Calls Tryz.prog 62 #[.pointer (some ⟨b, 0, none⟩)] w fun e w' => e = .returned (.int .i64 r.s.size) ∧ w = w' := by
  have c0 := h.c0
  clear h
  go_enter Tryz.func62, Tryz.ntmps62
  go_wp2_with fail
  go_ret
  exact ⟨rfl, rfl⟩
def doneB (r : RS) : Bool := !r.f && r.s.toList.isEmpty
theorem done_any (b : Nat) (r : RS) (w : World) (h : RdrAt w b r) : Calls Tryz.prog 34 #[.pointer (some ⟨b, 0, none⟩)] w fun e w' => e = .returned (.bool (doneB r)) ∧ w = w' := by
  have c0 := h.c0
  have c1 := h.c1
  clear h
  obtain ⟨s, f⟩ := r
  unfold doneB
  cases f with
  | true =>
    go_enter Tryz.func34, Tryz.ntmps34
    go_wp2_with fail
    go_ret
    exact ⟨rfl, rfl⟩
  | false =>
    go_enter Tryz.func34, Tryz.ntmps34
    go_wp2_with fail
    go_ret
    exact ⟨by simp, rfl⟩
def takeS (r : RS) (n : Int) : ByteArray := if r.f = true ∨ n < 0 ∨ (r.s.size : Int) < n then ⟨#[]⟩ else r.s.extract 0 n.toNat
def takeR (r : RS) (n : Int) : RS := if r.f = true ∨ n < 0 ∨ (r.s.size : Int) < n then RS.bad else ⟨r.s.extract n.toNat r.s.size, false⟩
theorem take_any (b : Nat) (r : RS) (n : Int) (w : World) (h : RdrAt w b r) (hs : r.s.size ≤ 4294967296) : Calls Tryz.prog 83 #[.pointer (some ⟨b, 0, none⟩), .int .i64 n] w (RPost b (takeR r n) (.string (takeS r n)) w) := by
  have c0 := h.c0
  have c1 := h.c1
  have f0 := h.fz
  have HF := Lib.hid (fail_any b r w h)
  have H := Lib.hid h
  clear h
  obtain ⟨s, f⟩ := r
  cases f with
  | true =>
    have HT : Hid (takeR ⟨s, true⟩ n = RS.bad ∧ takeS ⟨s, true⟩ n = ⟨#[]⟩) := Lib.hid (by unfold takeR takeS; simp)
    go_enter Tryz.func83, Tryz.ntmps83
    go_wp2_with fail
    (with_reducible refine HF.out.mono ?_)
    rintro e w1 ⟨rfl, hc, hr⟩
    have HC := Lib.hid hc
    have HR := Lib.hid hr
    clear hc hr
    go_wp2_with fail
    go_ret
    rw [HT.out.1, HT.out.2]
    exact ⟨rfl, HC.out, HR.out⟩
  | false =>
    by_cases h0 : n < 0
    · have HT : Hid (takeR ⟨s, false⟩ n = RS.bad ∧ takeS ⟨s, false⟩ n = ⟨#[]⟩) := Lib.hid (by unfold takeR takeS; simp [h0])
      go_enter Tryz.func83, Tryz.ntmps83
      go_wp2_with fail
      (with_reducible refine HF.out.mono ?_)
      rintro e w1 ⟨rfl, hc, hr⟩
      have HC := Lib.hid hc
      have HR := Lib.hid hr
      clear hc hr
      go_wp2_with fail
      go_ret
      rw [HT.out.1, HT.out.2]
      exact ⟨rfl, HC.out, HR.out⟩
    · by_cases h1 : (s.size : Int) < n
      · have HT : Hid (takeR ⟨s, false⟩ n = RS.bad ∧ takeS ⟨s, false⟩ n = ⟨#[]⟩) := Lib.hid (by unfold takeR takeS; simp [h0, h1])
        have hd : decide ((s.size : Int) < n) = true := by simpa using h1
        go_enter Tryz.func83, Tryz.ntmps83
        go_wp2_with fail
        (with_reducible refine HF.out.mono ?_)
        rintro e w1 ⟨rfl, hc, hr⟩
        have HC := Lib.hid hc
        have HR := Lib.hid hr
        clear hc hr
        go_wp2_with fail
        go_ret
        rw [HT.out.1, HT.out.2]
        exact ⟨rfl, HC.out, HR.out⟩
      · obtain ⟨k, rfl⟩ : ∃ k : Nat, n = (k : Int) := ⟨n.toNat, by omega⟩
        have hk : k ≤ s.size := by omega
        have HT : Hid (takeR ⟨s, false⟩ (k : Int) = ⟨s.extract k s.size, false⟩ ∧ takeS ⟨s, false⟩ (k : Int) = s.extract 0 k) := Lib.hid (by unfold takeR takeS; simp [h0, h1])
        have hd : decide ((s.size : Int) < (k : Int)) = false := by simpa using h1
        clear HF
        go_enter Tryz.func83, Tryz.ntmps83
        go_wp2_with fail
        go_ret
        rw [HT.out.1, HT.out.2]
        exact ⟨rfl, (Chg.refl (fun k => k = b) w).setCell (p := ⟨b, 0, none⟩) (.inl rfl) _, H.out.set0 _⟩
end Go.Proofs.YtlbmfgiepcemdaaGreat
