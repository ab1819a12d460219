/- press.index.advance: whatever the text, the index stays whole. Conditions: those in each statement. -/
import Derived.Test.YtlbmfgiepcemdaaYEvCountEvAppPkMapPkIx
import Derived.RegionTactic
import Derived.BigRegion
namespace Go.Proofs.Ytlbmfgiepcemdaa
open Go.RowKit Go.Sort

def nextOf (b : Nat) (w : World) : Nat := match w.cell? ⟨b, 4098, none⟩ with | some (.int _ n) => n.toNat | _ => 0
theorem IxAt.next {W : World} {b m : Nat} {s : ByteArray} {N : Nat} {arr : Array Value} {pv : Nat → Int} (h : IxAt W b m s N arr pv) : nextOf b W = N := by
  unfold nextOf; rw [h.cell, h.cn]; simp
/-- the index whole, with some number of offsets up to i entered; only its two blocks have turned -/
def IxTo (b m : Nat) (s : ByteArray) (i : Nat) (w w' : World) : Prop := Chg (fun k => k = b ∨ k = m) w w' ∧ ∃ N arr pv, N ≤ i ∧ IxAt w' b m s N arr pv
def AdvPost (b m : Nat) (s : ByteArray) (i : Nat) (w : World) (e : Ending) (w' : World) : Prop := e = .returned (.tuple #[]) ∧ IxTo b m s i w w'
set_option maxHeartbeats 8000000 in
set_option maxRecDepth 100000 in
theorem advance_any (s : ByteArray) (b m i : Nat) (w : World) (hs : s.size ≤ 16777216) (hi : i ≤ s.size) (h : ∃ N arr pv, N ≤ i ∧ IxAt w b m s N arr pv) :
    Calls Try.prog 31 #[.pointer (some ⟨b, 0, none⟩), .int .i64 i] w (AdvPost b m s i w) := by
  have H0 := Lib.hid h
  clear h
  go_enter Try.func31, Try.ntmps31
  go_wp2_with fail
  go_loopw [4] (fun _ wr => Hid (IxTo b m s i w wr)) (fun _ wr => i - nextOf b wr)
  case atStart => exact Lib.hid ⟨Chg.refl _ _, H0.out⟩
  case round =>
    obtain ⟨hch, N, arr, pv, hNi, hx⟩ := hrel.out
    have HC := Lib.hid hch
    have HX := Lib.hid hx
    have HNX := Lib.hid hx.next
    clear hrel hch
    have d0 : ∀ n, (wr.drewN n).cell? ⟨b, 0, none⟩ = some (.string s) := fun n => ((hx.drewN n).cell 0).trans hx.c0
    have d1 : ∀ n, (wr.drewN n).cell? ⟨b, 4098, none⟩ = some (.int .i64 N) := fun n => ((hx.drewN n).cell 4098).trans hx.cn
    have e0 : wr.cell? ⟨b, 0, none⟩ = some (.string s) := (hx.cell 0).trans hx.c0
    have e1 : wr.cell? ⟨b, 4098, none⟩ = some (.int .i64 N) := (hx.cell 4098).trans hx.cn
    clear hx
    by_cases hlt : N < i
    · have hlt1 : decide (N < i) = true := by simpa using hlt
      have hlt2 : decide ((N : Int) < (i : Int)) = true := by simp; omega
      by_cases hfit : N + 4 ≤ s.size
      · have hfi : (N : Int) + 4 ≤ s.size := by omega
        have hfi2 : decide ((N : Int) + 4 ≤ (s.size : Int)) = true := by simp; omega
        by_cases hold : 4096 ≤ N
        · have hol : (0 : Int) ≤ (N : Int) - 4096 := by omega
          have hol2 : decide ((0 : Int) ≤ (N : Int) - 4096) = true := by simp; omega
          go_wp2_with fail
          go_quiet (fail)
          go_wp2_with fail
          clear d0 d1 e0 e1
          have X1 := Lib.hid (HX.out.drewN nq)
          have C1 := Lib.hid (HC.out.drewN nq)
          generalize hW1 : World.drewN wr nq = W1 at *
          clear hW1
          have K1 : Hid (Calls Try.prog 51 #[.pointer (some ⟨b, 0, none⟩), .int .i64 ((N : Int) - 4096)] W1 fun e w' => e = .returned (.int .u32 (keyN s (N - 4096))) ∧ ∃ n, w' = W1.drewN n) := Lib.hid (by
            have := key_any s b (N - 4096) W1 ((X1.out.cell 0).trans X1.out.c0) (by omega) hs
            rwa [show ((N - 4096 : Nat) : Int) = (N : Int) - 4096 by omega] at this)
          (with_reducible refine K1.out.mono ?_)
          rintro e w2 ⟨rfl, n2, rfl⟩
          have X2 := Lib.hid (X1.out.drewN n2)
          have C2 := Lib.hid (C1.out.drewN n2)
          generalize hW2 : World.drewN W1 n2 = W2 at *
          generalize keyN s (N - 4096) = ko at *
          clear hW2 K1
          have g1 : W2.cell? ⟨b, 1, none⟩ = some (.map (some m)) := (X2.out.cell 1).trans X2.out.c1
          obtain ⟨vo, hvo⟩ : ∃ v : Int, (Instr.lookup 81 (.map (some m)) (.int .u32 ko) false).run Try.prog W2 = .ok (.int .i64 v) W2 := by
            rcases lookup_n (P := Try.prog) (T := 81) Try.underlying81 Try.underlying104 X2.out.mp (by kernel_rfl) ko with ⟨v, _, _, h, _⟩ | ⟨h, _⟩
            · exact ⟨v, h⟩
            · exact ⟨0, h⟩
          by_cases heq : vo = (N : Int) - 4096
          · obtain ⟨w3, hdel, hm3, hg3, _⟩ := delete_n (P := Try.prog) (T := 81) Try.underlying81 Try.underlying104 X2.out.mp ko 0 104
            have X3 := Lib.hid (X2.out.map hm3 hg3)
            have C3 := Lib.hid (C2.out.next (Chg.of_grown hg3 (fun k hk => .inr (Option.some.inj hk).symm)))
            have heq2 : (vo == (N : Int) - 4096) = true := by simp [heq]
            have gnx : w3.cell? ⟨b, 4098, none⟩ = some (.int .i64 N) := (X3.out.cell 4098).trans X3.out.cn
            clear hm3 hg3 heq
            go_wp2_with fail
            generalize hW3 : w3 = W3 at *
            clear hW3 g1 gnx
            have K3 := Lib.hid (key_any s b N W3 ((X3.out.cell 0).trans X3.out.c0) hfit hs)
            (with_reducible refine K3.out.mono ?_)
            rintro e w5 ⟨rfl, n5, rfl⟩
            have X5 := Lib.hid (X3.out.drewN n5)
            have C5 := Lib.hid (C3.out.drewN n5)
            generalize hW5 : World.drewN W3 n5 = W5 at *
            generalize keyN s N = kk at *
            clear hW5 K3
            have g1 : W5.cell? ⟨b, 1, none⟩ = some (.map (some m)) := (X5.out.cell 1).trans X5.out.c1
            have gn : W5.cell? ⟨b, 4098, none⟩ = some (.int .i64 N) := (X5.out.cell 4098).trans X5.out.cn
            have gp : W5.cell? ⟨b, 2 + N % 4096, none⟩ = some (.int .i64 (pv (N % 4096))) := (X5.out.cell _).trans (X5.out.cp _ (by omega))
            have gf := X5.out.fz
            rcases lookup_n (P := Try.prog) (T := 81) Try.underlying81 Try.underlying104 X5.out.mp (by kernel_rfl) kk with ⟨v, hv0, hv1, _, hrun⟩ | ⟨_, hrun⟩
            · have c1a : (W5.setCell ⟨b, 2 + N % 4096, none⟩ (.int .i64 v)).cell? ⟨b, 1, none⟩ = some (.map (some m)) := (World.cell?_setCell_other _ _ _ _ (by simp)).trans g1
              have cna : (W5.setCell ⟨b, 2 + N % 4096, none⟩ (.int .i64 v)).cell? ⟨b, 4098, none⟩ = some (.int .i64 N) := (World.cell?_setCell_other _ _ _ _ (by simp <;> omega)).trans gn
              obtain ⟨w7, hup, hm7, hg7, hz7⟩ := update_n (P := Try.prog) (T := 81) Try.underlying81 Try.underlying104 (w := ((W5.setCell ⟨b, 2 + N % 4096, none⟩ (.int .i64 v)).drew).drew) (N := ((N + 1 : Nat) : Int)) (m := m) (MapN.keep (w := W5) (X5.out.mp.mono (by omega)) (Below.heap_setCell _ _ _ _ (fun e => X5.out.ne e.symm))) kk N (by omega) (by omega)
              have hg7' : (W5.setCell ⟨b, 2 + N % 4096, none⟩ (.int .i64 v)).grownBy w7 (some m) := ⟨hg7.os, hg7.tape, hg7.output, hg7.size, hg7.block⟩
              obtain ⟨arr', pv', hx8⟩ := X5.out.push (p := v) (by omega) (by omega) hm7 hg7'
              have X8 := Lib.hid hx8
              have hb7 : w7.heap[b]? = (W5.setCell ⟨b, 2 + N % 4096, none⟩ (.int .i64 v)).heap[b]? := hg7'.block b (by rw [size_setCell]; exact X5.out.blt) (fun e => X5.out.ne (Option.some.inj e))
              have c7n : w7.cell? ⟨b, 4098, none⟩ = some (.int .i64 N) := (World.cell?_of_block (a := ⟨b, 4098, none⟩) hb7).trans cna
              have f7 : w7.frozen? ⟨b, 4098, none⟩ = false := (World.frozen?_of_block (a := ⟨b, 4098, none⟩) hb7).trans (by simp [World.frozen?, World.setCell, Array.getElem?_modify, X5.out.blk])
              have C8 : Hid (Chg (fun k => k = b ∨ k = m) w (w7.setCell ⟨b, 4098, none⟩ (.int .i64 (N + 1 : Nat)))) := Lib.hid (((C5.out.setCell (p := ⟨b, 2 + N % 4096, none⟩) (.inl (.inl rfl)) _).next (Chg.of_grown hg7' (fun k hk => .inr (Option.some.inj hk).symm))).setCell (p := ⟨b, 4098, none⟩) (.inl (.inl rfl)) _)
              have HN8 : Hid (nextOf b (w7.setCell ⟨b, 4098, none⟩ (.int .i64 ((N : Int) + 1))) = N + 1) := Lib.hid hx8.next
              clear hm7 hg7 hg7' hx8 hb7 hz7 cna
              go_wp2_with fail
              go_region
              go_wp2_with fail
              go_region
              go_wp2_with fail
              exact ⟨Lib.hid ⟨C8.out, N + 1, arr', pv', by omega, X8.out⟩, by rw [HN8.out, HNX.out]; omega⟩
            · have c1a : (W5.setCell ⟨b, 2 + N % 4096, none⟩ (.int .i64 (-1))).cell? ⟨b, 1, none⟩ = some (.map (some m)) := (World.cell?_setCell_other _ _ _ _ (by simp)).trans g1
              have cna : (W5.setCell ⟨b, 2 + N % 4096, none⟩ (.int .i64 (-1))).cell? ⟨b, 4098, none⟩ = some (.int .i64 N) := (World.cell?_setCell_other _ _ _ _ (by simp <;> omega)).trans gn
              obtain ⟨w7, hup, hm7, hg7, hz7⟩ := update_n (P := Try.prog) (T := 81) Try.underlying81 Try.underlying104 (w := ((W5.setCell ⟨b, 2 + N % 4096, none⟩ (.int .i64 (-1))).drew).drew) (N := ((N + 1 : Nat) : Int)) (m := m) (MapN.keep (w := W5) (X5.out.mp.mono (by omega)) (Below.heap_setCell _ _ _ _ (fun e => X5.out.ne e.symm))) kk N (by omega) (by omega)
              have hg7' : (W5.setCell ⟨b, 2 + N % 4096, none⟩ (.int .i64 (-1))).grownBy w7 (some m) := ⟨hg7.os, hg7.tape, hg7.output, hg7.size, hg7.block⟩
              obtain ⟨arr', pv', hx8⟩ := X5.out.push (p := (-1)) (by omega) (by omega) hm7 hg7'
              have X8 := Lib.hid hx8
              have hb7 : w7.heap[b]? = (W5.setCell ⟨b, 2 + N % 4096, none⟩ (.int .i64 (-1))).heap[b]? := hg7'.block b (by rw [size_setCell]; exact X5.out.blt) (fun e => X5.out.ne (Option.some.inj e))
              have c7n : w7.cell? ⟨b, 4098, none⟩ = some (.int .i64 N) := (World.cell?_of_block (a := ⟨b, 4098, none⟩) hb7).trans cna
              have f7 : w7.frozen? ⟨b, 4098, none⟩ = false := (World.frozen?_of_block (a := ⟨b, 4098, none⟩) hb7).trans (by simp [World.frozen?, World.setCell, Array.getElem?_modify, X5.out.blk])
              have C8 : Hid (Chg (fun k => k = b ∨ k = m) w (w7.setCell ⟨b, 4098, none⟩ (.int .i64 (N + 1 : Nat)))) := Lib.hid (((C5.out.setCell (p := ⟨b, 2 + N % 4096, none⟩) (.inl (.inl rfl)) _).next (Chg.of_grown hg7' (fun k hk => .inr (Option.some.inj hk).symm))).setCell (p := ⟨b, 4098, none⟩) (.inl (.inl rfl)) _)
              have HN8 : Hid (nextOf b (w7.setCell ⟨b, 4098, none⟩ (.int .i64 ((N : Int) + 1))) = N + 1) := Lib.hid hx8.next
              clear hm7 hg7 hg7' hx8 hb7 hz7 cna
              go_wp2_with fail
              go_region
              go_wp2_with fail
              go_region
              go_wp2_with fail
              exact ⟨Lib.hid ⟨C8.out, N + 1, arr', pv', by omega, X8.out⟩, by rw [HN8.out, HNX.out]; omega⟩
          · have heq2 : (vo == (N : Int) - 4096) = false := by rw [beq_eq_false_iff_ne]; exact heq
            have X3 := Lib.hid X2.out
            have C3 := Lib.hid C2.out
            have gnx : W2.cell? ⟨b, 4098, none⟩ = some (.int .i64 N) := (X3.out.cell 4098).trans X3.out.cn
            go_wp2_with fail
            generalize hW3 : W2 = W3 at *
            clear hW3 g1 gnx
            have K3 := Lib.hid (key_any s b N W3 ((X3.out.cell 0).trans X3.out.c0) hfit hs)
            (with_reducible refine K3.out.mono ?_)
            rintro e w5 ⟨rfl, n5, rfl⟩
            have X5 := Lib.hid (X3.out.drewN n5)
            have C5 := Lib.hid (C3.out.drewN n5)
            generalize hW5 : World.drewN W3 n5 = W5 at *
            generalize keyN s N = kk at *
            clear hW5 K3
            have g1 : W5.cell? ⟨b, 1, none⟩ = some (.map (some m)) := (X5.out.cell 1).trans X5.out.c1
            have gn : W5.cell? ⟨b, 4098, none⟩ = some (.int .i64 N) := (X5.out.cell 4098).trans X5.out.cn
            have gp : W5.cell? ⟨b, 2 + N % 4096, none⟩ = some (.int .i64 (pv (N % 4096))) := (X5.out.cell _).trans (X5.out.cp _ (by omega))
            have gf := X5.out.fz
            rcases lookup_n (P := Try.prog) (T := 81) Try.underlying81 Try.underlying104 X5.out.mp (by kernel_rfl) kk with ⟨v, hv0, hv1, _, hrun⟩ | ⟨_, hrun⟩
            · have c1a : (W5.setCell ⟨b, 2 + N % 4096, none⟩ (.int .i64 v)).cell? ⟨b, 1, none⟩ = some (.map (some m)) := (World.cell?_setCell_other _ _ _ _ (by simp)).trans g1
              have cna : (W5.setCell ⟨b, 2 + N % 4096, none⟩ (.int .i64 v)).cell? ⟨b, 4098, none⟩ = some (.int .i64 N) := (World.cell?_setCell_other _ _ _ _ (by simp <;> omega)).trans gn
              obtain ⟨w7, hup, hm7, hg7, hz7⟩ := update_n (P := Try.prog) (T := 81) Try.underlying81 Try.underlying104 (w := ((W5.setCell ⟨b, 2 + N % 4096, none⟩ (.int .i64 v)).drew).drew) (N := ((N + 1 : Nat) : Int)) (m := m) (MapN.keep (w := W5) (X5.out.mp.mono (by omega)) (Below.heap_setCell _ _ _ _ (fun e => X5.out.ne e.symm))) kk N (by omega) (by omega)
              have hg7' : (W5.setCell ⟨b, 2 + N % 4096, none⟩ (.int .i64 v)).grownBy w7 (some m) := ⟨hg7.os, hg7.tape, hg7.output, hg7.size, hg7.block⟩
              obtain ⟨arr', pv', hx8⟩ := X5.out.push (p := v) (by omega) (by omega) hm7 hg7'
              have X8 := Lib.hid hx8
              have hb7 : w7.heap[b]? = (W5.setCell ⟨b, 2 + N % 4096, none⟩ (.int .i64 v)).heap[b]? := hg7'.block b (by rw [size_setCell]; exact X5.out.blt) (fun e => X5.out.ne (Option.some.inj e))
              have c7n : w7.cell? ⟨b, 4098, none⟩ = some (.int .i64 N) := (World.cell?_of_block (a := ⟨b, 4098, none⟩) hb7).trans cna
              have f7 : w7.frozen? ⟨b, 4098, none⟩ = false := (World.frozen?_of_block (a := ⟨b, 4098, none⟩) hb7).trans (by simp [World.frozen?, World.setCell, Array.getElem?_modify, X5.out.blk])
              have C8 : Hid (Chg (fun k => k = b ∨ k = m) w (w7.setCell ⟨b, 4098, none⟩ (.int .i64 (N + 1 : Nat)))) := Lib.hid (((C5.out.setCell (p := ⟨b, 2 + N % 4096, none⟩) (.inl (.inl rfl)) _).next (Chg.of_grown hg7' (fun k hk => .inr (Option.some.inj hk).symm))).setCell (p := ⟨b, 4098, none⟩) (.inl (.inl rfl)) _)
              have HN8 : Hid (nextOf b (w7.setCell ⟨b, 4098, none⟩ (.int .i64 ((N : Int) + 1))) = N + 1) := Lib.hid hx8.next
              clear hm7 hg7 hg7' hx8 hb7 hz7 cna
              go_wp2_with fail
              go_region
              go_wp2_with fail
              go_region
              go_wp2_with fail
              exact ⟨Lib.hid ⟨C8.out, N + 1, arr', pv', by omega, X8.out⟩, by rw [HN8.out, HNX.out]; omega⟩
            · have c1a : (W5.setCell ⟨b, 2 + N % 4096, none⟩ (.int .i64 (-1))).cell? ⟨b, 1, none⟩ = some (.map (some m)) := (World.cell?_setCell_other _ _ _ _ (by simp)).trans g1
              have cna : (W5.setCell ⟨b, 2 + N % 4096, none⟩ (.int .i64 (-1))).cell? ⟨b, 4098, none⟩ = some (.int .i64 N) := (World.cell?_setCell_other _ _ _ _ (by simp <;> omega)).trans gn
              obtain ⟨w7, hup, hm7, hg7, hz7⟩ := update_n (P := Try.prog) (T := 81) Try.underlying81 Try.underlying104 (w := ((W5.setCell ⟨b, 2 + N % 4096, none⟩ (.int .i64 (-1))).drew).drew) (N := ((N + 1 : Nat) : Int)) (m := m) (MapN.keep (w := W5) (X5.out.mp.mono (by omega)) (Below.heap_setCell _ _ _ _ (fun e => X5.out.ne e.symm))) kk N (by omega) (by omega)
              have hg7' : (W5.setCell ⟨b, 2 + N % 4096, none⟩ (.int .i64 (-1))).grownBy w7 (some m) := ⟨hg7.os, hg7.tape, hg7.output, hg7.size, hg7.block⟩
              obtain ⟨arr', pv', hx8⟩ := X5.out.push (p := (-1)) (by omega) (by omega) hm7 hg7'
              have X8 := Lib.hid hx8
              have hb7 : w7.heap[b]? = (W5.setCell ⟨b, 2 + N % 4096, none⟩ (.int .i64 (-1))).heap[b]? := hg7'.block b (by rw [size_setCell]; exact X5.out.blt) (fun e => X5.out.ne (Option.some.inj e))
              have c7n : w7.cell? ⟨b, 4098, none⟩ = some (.int .i64 N) := (World.cell?_of_block (a := ⟨b, 4098, none⟩) hb7).trans cna
              have f7 : w7.frozen? ⟨b, 4098, none⟩ = false := (World.frozen?_of_block (a := ⟨b, 4098, none⟩) hb7).trans (by simp [World.frozen?, World.setCell, Array.getElem?_modify, X5.out.blk])
              have C8 : Hid (Chg (fun k => k = b ∨ k = m) w (w7.setCell ⟨b, 4098, none⟩ (.int .i64 (N + 1 : Nat)))) := Lib.hid (((C5.out.setCell (p := ⟨b, 2 + N % 4096, none⟩) (.inl (.inl rfl)) _).next (Chg.of_grown hg7' (fun k hk => .inr (Option.some.inj hk).symm))).setCell (p := ⟨b, 4098, none⟩) (.inl (.inl rfl)) _)
              have HN8 : Hid (nextOf b (w7.setCell ⟨b, 4098, none⟩ (.int .i64 ((N : Int) + 1))) = N + 1) := Lib.hid hx8.next
              clear hm7 hg7 hg7' hx8 hb7 hz7 cna
              go_wp2_with fail
              go_region
              go_wp2_with fail
              go_region
              go_wp2_with fail
              exact ⟨Lib.hid ⟨C8.out, N + 1, arr', pv', by omega, X8.out⟩, by rw [HN8.out, HNX.out]; omega⟩
        · have hol : (N : Int) - 4096 < 0 := by omega
          go_wp2_with fail
          go_quiet (fail)
          go_wp2_with fail
          clear d0 d1 e0 e1
          have X3 := Lib.hid (HX.out.drewN nq)
          have C3 := Lib.hid (HC.out.drewN nq)
          generalize hW3 : World.drewN wr nq = W3 at *
          clear hW3
          have K3 := Lib.hid (key_any s b N W3 ((X3.out.cell 0).trans X3.out.c0) hfit hs)
          (with_reducible refine K3.out.mono ?_)
          rintro e w5 ⟨rfl, n5, rfl⟩
          have X5 := Lib.hid (X3.out.drewN n5)
          have C5 := Lib.hid (C3.out.drewN n5)
          generalize hW5 : World.drewN W3 n5 = W5 at *
          generalize keyN s N = kk at *
          clear hW5 K3
          have g1 : W5.cell? ⟨b, 1, none⟩ = some (.map (some m)) := (X5.out.cell 1).trans X5.out.c1
          have gn : W5.cell? ⟨b, 4098, none⟩ = some (.int .i64 N) := (X5.out.cell 4098).trans X5.out.cn
          have gp : W5.cell? ⟨b, 2 + N % 4096, none⟩ = some (.int .i64 (pv (N % 4096))) := (X5.out.cell _).trans (X5.out.cp _ (by omega))
          have gf := X5.out.fz
          rcases lookup_n (P := Try.prog) (T := 81) Try.underlying81 Try.underlying104 X5.out.mp (by kernel_rfl) kk with ⟨v, hv0, hv1, _, hrun⟩ | ⟨_, hrun⟩
          · have c1a : (W5.setCell ⟨b, 2 + N % 4096, none⟩ (.int .i64 v)).cell? ⟨b, 1, none⟩ = some (.map (some m)) := (World.cell?_setCell_other _ _ _ _ (by simp)).trans g1
            have cna : (W5.setCell ⟨b, 2 + N % 4096, none⟩ (.int .i64 v)).cell? ⟨b, 4098, none⟩ = some (.int .i64 N) := (World.cell?_setCell_other _ _ _ _ (by simp <;> omega)).trans gn
            obtain ⟨w7, hup, hm7, hg7, hz7⟩ := update_n (P := Try.prog) (T := 81) Try.underlying81 Try.underlying104 (w := ((W5.setCell ⟨b, 2 + N % 4096, none⟩ (.int .i64 v)).drew).drew) (N := ((N + 1 : Nat) : Int)) (m := m) (MapN.keep (w := W5) (X5.out.mp.mono (by omega)) (Below.heap_setCell _ _ _ _ (fun e => X5.out.ne e.symm))) kk N (by omega) (by omega)
            have hg7' : (W5.setCell ⟨b, 2 + N % 4096, none⟩ (.int .i64 v)).grownBy w7 (some m) := ⟨hg7.os, hg7.tape, hg7.output, hg7.size, hg7.block⟩
            obtain ⟨arr', pv', hx8⟩ := X5.out.push (p := v) (by omega) (by omega) hm7 hg7'
            have X8 := Lib.hid hx8
            have hb7 : w7.heap[b]? = (W5.setCell ⟨b, 2 + N % 4096, none⟩ (.int .i64 v)).heap[b]? := hg7'.block b (by rw [size_setCell]; exact X5.out.blt) (fun e => X5.out.ne (Option.some.inj e))
            have c7n : w7.cell? ⟨b, 4098, none⟩ = some (.int .i64 N) := (World.cell?_of_block (a := ⟨b, 4098, none⟩) hb7).trans cna
            have f7 : w7.frozen? ⟨b, 4098, none⟩ = false := (World.frozen?_of_block (a := ⟨b, 4098, none⟩) hb7).trans (by simp [World.frozen?, World.setCell, Array.getElem?_modify, X5.out.blk])
            have C8 : Hid (Chg (fun k => k = b ∨ k = m) w (w7.setCell ⟨b, 4098, none⟩ (.int .i64 (N + 1 : Nat)))) := Lib.hid (((C5.out.setCell (p := ⟨b, 2 + N % 4096, none⟩) (.inl (.inl rfl)) _).next (Chg.of_grown hg7' (fun k hk => .inr (Option.some.inj hk).symm))).setCell (p := ⟨b, 4098, none⟩) (.inl (.inl rfl)) _)
            have HN8 : Hid (nextOf b (w7.setCell ⟨b, 4098, none⟩ (.int .i64 ((N : Int) + 1))) = N + 1) := Lib.hid hx8.next
            clear hm7 hg7 hg7' hx8 hb7 hz7 cna
            go_wp2_with fail
            go_region
            go_wp2_with fail
            go_region
            go_wp2_with fail
            exact ⟨Lib.hid ⟨C8.out, N + 1, arr', pv', by omega, X8.out⟩, by rw [HN8.out, HNX.out]; omega⟩
          · have c1a : (W5.setCell ⟨b, 2 + N % 4096, none⟩ (.int .i64 (-1))).cell? ⟨b, 1, none⟩ = some (.map (some m)) := (World.cell?_setCell_other _ _ _ _ (by simp)).trans g1
            have cna : (W5.setCell ⟨b, 2 + N % 4096, none⟩ (.int .i64 (-1))).cell? ⟨b, 4098, none⟩ = some (.int .i64 N) := (World.cell?_setCell_other _ _ _ _ (by simp <;> omega)).trans gn
            obtain ⟨w7, hup, hm7, hg7, hz7⟩ := update_n (P := Try.prog) (T := 81) Try.underlying81 Try.underlying104 (w := ((W5.setCell ⟨b, 2 + N % 4096, none⟩ (.int .i64 (-1))).drew).drew) (N := ((N + 1 : Nat) : Int)) (m := m) (MapN.keep (w := W5) (X5.out.mp.mono (by omega)) (Below.heap_setCell _ _ _ _ (fun e => X5.out.ne e.symm))) kk N (by omega) (by omega)
            have hg7' : (W5.setCell ⟨b, 2 + N % 4096, none⟩ (.int .i64 (-1))).grownBy w7 (some m) := ⟨hg7.os, hg7.tape, hg7.output, hg7.size, hg7.block⟩
            obtain ⟨arr', pv', hx8⟩ := X5.out.push (p := (-1)) (by omega) (by omega) hm7 hg7'
            have X8 := Lib.hid hx8
            have hb7 : w7.heap[b]? = (W5.setCell ⟨b, 2 + N % 4096, none⟩ (.int .i64 (-1))).heap[b]? := hg7'.block b (by rw [size_setCell]; exact X5.out.blt) (fun e => X5.out.ne (Option.some.inj e))
            have c7n : w7.cell? ⟨b, 4098, none⟩ = some (.int .i64 N) := (World.cell?_of_block (a := ⟨b, 4098, none⟩) hb7).trans cna
            have f7 : w7.frozen? ⟨b, 4098, none⟩ = false := (World.frozen?_of_block (a := ⟨b, 4098, none⟩) hb7).trans (by simp [World.frozen?, World.setCell, Array.getElem?_modify, X5.out.blk])
            have C8 : Hid (Chg (fun k => k = b ∨ k = m) w (w7.setCell ⟨b, 4098, none⟩ (.int .i64 (N + 1 : Nat)))) := Lib.hid (((C5.out.setCell (p := ⟨b, 2 + N % 4096, none⟩) (.inl (.inl rfl)) _).next (Chg.of_grown hg7' (fun k hk => .inr (Option.some.inj hk).symm))).setCell (p := ⟨b, 4098, none⟩) (.inl (.inl rfl)) _)
            have HN8 : Hid (nextOf b (w7.setCell ⟨b, 4098, none⟩ (.int .i64 ((N : Int) + 1))) = N + 1) := Lib.hid hx8.next
            clear hm7 hg7 hg7' hx8 hb7 hz7 cna
            go_wp2_with fail
            go_region
            go_wp2_with fail
            go_region
            go_wp2_with fail
            exact ⟨Lib.hid ⟨C8.out, N + 1, arr', pv', by omega, X8.out⟩, by rw [HN8.out, HNX.out]; omega⟩
      · have hfi : ¬ (N : Int) + 4 ≤ s.size := by omega
        have hfi2 : decide ((N : Int) + 4 ≤ (s.size : Int)) = false := by simp; omega
        go_wp2_with fail
        go_quiet (fail)
        go_wp2_with fail
        exact bodyPost_ret (v := .tuple #[]) (by simp [results, Try.results31, go_sem]) rfl ⟨rfl, HC.out.drewN _, N, arr, pv, hNi, HX.out.drewN _⟩
    · have hlt1 : decide (N < i) = false := by simpa using hlt
      have hlt2 : decide ((N : Int) < (i : Int)) = false := by simp; omega
      go_wp2_with fail
      go_quiet (fail)
      go_wp2_with fail
      exact bodyPost_ret (v := .tuple #[]) (by simp [results, Try.results31, go_sem]) rfl ⟨rfl, HC.out.drewN _, N, arr, pv, hNi, HX.out.drewN _⟩
end Go.Proofs.Ytlbmfgiepcemdaa
