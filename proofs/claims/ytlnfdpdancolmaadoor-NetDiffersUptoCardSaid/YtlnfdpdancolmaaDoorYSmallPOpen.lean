/- The fixed example of the statements' package, as plain Lean data: what it comes to. Conditions: none. Arguments that read as data, opened: values, effects, commands, requests and slices of them as plain Lean data, with how much they hold. Conditions: those in each statement. -/
import Derived.Test.YtlnfdpdancolmaaDoorYKeyBytes
import Derived.Test.YtlnfdpdancolmaaDoorYEffectsDiffNetEq
import Derived.Test.YtlnfdpdancolmaaDoorYNetSame
import Derived.Test.YtlnfdpdancolmaaDoorRows
import Derived.Test.YtlnfdpdancolmaaDoorYEnc
import Derived.ChangeArms
namespace Go.Proofs.YtlnfdpdancolmaaDoor
open Go.RowKit

def F0 (v : V) : ByteArray := intBytes v.n
def kf0 : Req → ByteArray := keyS F0
theorem compat_keyS (F : V → ByteArray) : Compat (keyS F) := fun a b h => by
  rw [alikeB_iff] at h
  obtain ⟨h1, h2, h3, h4⟩ := h
  unfold keyS keyB
  rw [h1, h2, h3, h4]
theorem bytesOk_int (n : Int) (h0 : -9007199254740992 ≤ n) (h1 : n ≤ 9007199254740992) : BytesOk F0 (vInt n) := by
  refine ⟨?_, fun k t n' m s l h W A c hr => ?_⟩
  · show (intBytes n).size ≤ _
    have := bytesV_len (vInt n)
    have h2 : (intBytes n).size = (bytesV (vInt n)).length := by simp [intBytes, ByteArray.size]
    omega
  · unfold vInt at h
    injection h with e1 e2 e3 e4 e5 e6
    subst e1 e2 e3 e4 e5 e6
    exact bytes_int n h0 h1 A c W hr
def sS (l : List UInt8) : ByteArray := ⟨l.toArray⟩
def reqR : Req := ⟨⟨#[48]⟩, ⟨#[112, 97, 121]⟩, [vInt 1], 0, ⟨#[]⟩, 0, 7, false⟩
def reqQ : Req := ⟨⟨#[48]⟩, ⟨#[112, 97, 121]⟩, [vInt 1], 1, ⟨#[]⟩, 0, 8, false⟩
def reqM : Req := ⟨⟨#[48]⟩, ⟨#[109, 97, 105, 108]⟩, [], 0, ⟨#[]⟩, 0, 0, false⟩
theorem keyOk_ints (r : Req) (h : ∀ v ∈ r.args, ∃ n : Int, v = vInt n ∧ -9007199254740992 ≤ n ∧ n ≤ 9007199254740992) (hb : r.bulk ≤ 2097152) : KeyOk kf0 r :=
  ⟨by unfold Req.bulk at hb; omega, fun W A c hr hR => key_any F0 r A c W hb (fun v hv => by
    obtain ⟨n, rfl, h0, h1⟩ := h v hv
    exact bytesOk_int n h0 h1) hr hR⟩
theorem keyOkR : KeyOk kf0 reqR := keyOk_ints reqR (fun v hv => ⟨1, by simpa [reqR] using hv, by omega, by omega⟩) (by decide)
theorem keyOkQ : KeyOk kf0 reqQ := keyOk_ints reqQ (fun v hv => ⟨1, by simpa [reqQ] using hv, by omega, by omega⟩) (by decide)
theorem keyOkM : KeyOk kf0 reqM := keyOk_ints reqM (fun v hv => by simp [reqM] at hv) (by decide)
theorem key_R : kf0 reqR = ⟨#[99, 52, 100, 97, 56, 101, 98, 48, 48, 99, 99, 50, 98, 97, 53, 97, 54, 48, 100, 48, 97, 100, 51, 55, 54, 52, 55, 97, 99, 57, 98, 100, 98, 53, 101, 53, 100, 102, 54, 97, 48, 54, 102, 55, 55, 98, 99, 99, 57, 56, 98, 53, 98, 97, 57, 97, 100, 54, 57, 98, 48, 101, 56, 97]⟩ := by kernel_rfl
theorem key_Q : kf0 reqQ = ⟨#[53, 102, 56, 98, 48, 55, 50, 49, 49, 55, 98, 55, 55, 98, 57, 97, 51, 51, 49, 102, 50, 101, 56, 102, 99, 56, 99, 98, 102, 99, 97, 55, 55, 99, 52, 101, 57, 51, 100, 53, 56, 50, 55, 102, 50, 56, 48, 49, 55, 99, 54, 51, 50, 51, 101, 102, 49, 54, 98, 97, 98, 50, 97, 54]⟩ := by kernel_rfl
theorem key_ne : ((kf0 reqR).toList == (kf0 reqQ).toList) = false := by
  rw [key_R, key_Q, ByteArray.toList_eq, ByteArray.toList_eq]
  decide
theorem al_RQ : alikeB reqR reqQ = false := rfl
theorem al_QR : alikeB reqQ reqR = false := rfl
theorem al_MQ : alikeB reqM reqQ = false := rfl
theorem al_QM : alikeB reqQ reqM = false := rfl
theorem al_QQ : alikeB reqQ reqQ = true := (alikeB_iff _ _).2 ⟨rfl, rfl, rfl, rfl⟩
theorem al_RM : alikeB reqR reqM = false := by
  cases h : alikeB reqR reqM with
  | false => rfl
  | true =>
    have := ((alikeB_iff _ _).1 h).2.2.1
    simp [reqR, reqM] at this
theorem only1 : onlyS [reqR, reqQ] [reqQ, reqM] = [reqR] := by
  simp [onlyS, onlyTo, matchedI, List.range, List.range.loop, List.countP_cons, al_RQ, al_QR, al_MQ, al_QQ, (alike_symm reqM reqR).trans al_RM]
theorem only2 : onlyS [reqQ, reqM] [reqR, reqQ] = [reqM] := by
  simp [onlyS, onlyTo, matchedI, List.range, List.range.loop, List.countP_cons, al_RQ, al_QM, al_QQ, al_RM]
def oA : Out := ⟨⟨#[97]⟩, ⟨#[112, 97, 121]⟩, [vInt 1], false, 0⟩
def oB : Out := ⟨⟨#[98]⟩, ⟨#[112, 97, 121]⟩, [], false, 0⟩
def oC : Out := ⟨⟨#[99]⟩, ⟨#[109, 97, 105, 108]⟩, [], true, 0⟩
def cm (kind : Int) (of new name : ByteArray) : Cmd := ⟨⟨#[]⟩, kind, of, new, name, []⟩
def cm1 : Cmd := ⟨⟨#[107]⟩, 1, ⟨#[]⟩, ⟨#[97]⟩, ⟨#[112, 97, 121]⟩, [vInt 1]⟩
theorem f1 : foldS [] [cm1] = ([oA], 0) := by
  simp [foldS, stepE, stepR, findI, idx, ByteArray.toList_eq, made, cm1, oA]
theorem f2 : foldS [oA] [cm 1 ⟨#[]⟩ ⟨#[99]⟩ ⟨#[109, 97, 105, 108]⟩, cm 4 ⟨#[97]⟩ ⟨#[98]⟩ ⟨#[112, 97, 121]⟩, cm 3 ⟨#[99]⟩ ⟨#[]⟩ ⟨#[]⟩] = ([oB, oC], 0) := by
  simp [foldS, stepE, stepR, findI, idx, hasKey, ByteArray.toList_eq, made, cm, oA, oB, oC, List.findIdx?_cons]
theorem f3 : foldS [oB, oC] [cm 2 ⟨#[98]⟩ ⟨#[]⟩ ⟨#[]⟩] = ([oC], 0) := by
  simp [foldS, stepE, stepR, findI, idx, hasKey, ByteArray.toList_eq, cm, oB, oC, List.findIdx?_cons]
theorem f4 : foldS [oB, oC] [cm 3 ⟨#[99]⟩ ⟨#[]⟩ ⟨#[]⟩] = ([], 16) := by
  simp [foldS, stepE, findI, idx, hasKey, ByteArray.toList_eq, cm, oB, oC, List.findIdx?_cons]
theorem f5 : foldS [oB, oC] [cm 1 ⟨#[]⟩ ⟨#[98]⟩ ⟨#[]⟩] = ([], 4) := by
  simp [foldS, stepE, findI, idx, hasKey, ByteArray.toList_eq, cm, oB, oC, List.findIdx?_cons]
theorem f6 : foldS [oB, oC] [cm 2 ⟨#[122]⟩ ⟨#[]⟩ ⟨#[]⟩] = ([], 5) := by
  simp [foldS, stepE, findI, idx, hasKey, ByteArray.toList_eq, cm, oB, oC, List.findIdx?_cons]
theorem f7 : foldS [oB, oC] [cm 9 ⟨#[]⟩ ⟨#[]⟩ ⟨#[]⟩] = ([], 1) := by
  simp [foldS, stepE, cm]
theorem f8 : foldS [oB, oC] [cm 4 ⟨#[98]⟩ ⟨#[99]⟩ ⟨#[]⟩] = ([], 4) := by
  simp [foldS, stepE, findI, idx, hasKey, ByteArray.toList_eq, cm, oB, oC, List.findIdx?_cons]
theorem sm1 : (decide ([oB, oC].length = [oC, oB].length) && sameS [oB, oC] [oC, oB]) = true := by
  have h1 : eqO oB oB = true := (eqO_iff _ _).2 ⟨rfl, rfl, rfl, rfl⟩
  have h2 : eqO oC oC = true := (eqO_iff _ _).2 ⟨rfl, rfl, rfl, rfl⟩
  have h3 : eqO oC oB = false := by
    cases h : eqO oC oB with
    | false => rfl
    | true => have := ((eqO_iff _ _).1 h).1; simp [oB, oC] at this
  simp [sameS, h1, h2, h3]
theorem sm2 : (decide ([oA].length = [oB, oC].length) && sameS [oA] [oB, oC]) = false := rfl
end Go.Proofs.YtlnfdpdancolmaaDoor
namespace Go.Proofs.YtlnfdpdancolmaaDoor
open Go.RowKit

theorem list_of {α : Type} {p : Nat → α → Prop} : ∀ n : Nat, (∀ i, i < n → ∃ a, p i a) → ∃ l : List α, l.length = n ∧ ∀ i a, l[i]? = some a → p i a
  | 0, _ => ⟨[], rfl, fun i a h => by simp at h⟩
  | n + 1, h => by
    obtain ⟨l, h1, h2⟩ := list_of n (fun i hi => h i (by omega))
    obtain ⟨a, ha⟩ := h n (by omega)
    refine ⟨l ++ [a], by simp [h1], fun i b hb => ?_⟩
    rcases Nat.lt_or_ge i n with hi | hi
    · rw [List.getElem?_append_left (by omega)] at hb
      exact h2 i b hb
    · rw [List.getElem?_append_right (by omega)] at hb
      have hl := (List.getElem?_eq_some_iff.1 hb).1
      simp at hl
      obtain rfl : i = n := by omega
      rw [h1, Nat.sub_self] at hb
      simp at hb
      rw [← hb]; exact ha
theorem sum_le {α β : Type} (f : α → Nat) (g : β → Nat) : ∀ (l : List α) (m : List β), l.length = m.length → (∀ (i : Nat) (a : α) (b : β), l[i]? = some a → m[i]? = some b → f a ≤ g b) → (l.map f).sum ≤ (m.map g).sum
  | [], m, h, _ => by simp
  | a :: l, [], h, _ => by simp at h
  | a :: l, b :: m, h, hf => by
    have h1 := hf 0 a b rfl rfl
    have h2 := sum_le f g l m (by simpa using h) (fun i x y hx hy => hf (i + 1) x y (by simpa using hx) (by simpa using hy))
    simp only [List.map_cons, List.sum_cons]; omega
theorem bulkAll_sum {H : Type} : ∀ l : List (DataW H), Rows.uptoBulkAll l = (l.map Rows.uptoBulk).sum
  | [] => by simp [Rows.uptoBulkAll]
  | d :: r => by simp [Rows.uptoBulkAll, bulkAll_sum r]

section
variable {H : Type} {enc : TypeId × Value → H} {W : World}
/-- cells read by place -/
theorem cells_at {a : Addr} {n : Nat} {cs : List Value} (h : W.cells? 0 a n = some cs) : cs.length = n ∧ ∀ j u, cs[j]? = some u → W.cell? (a.add j) = some u := by
  obtain ⟨_, h1, h2⟩ := World.cells?_some h
  refine ⟨h1, fun j u hj => ?_⟩
  have hl : j < cs.length := (List.getElem?_eq_some_iff.1 hj).1
  rw [h2 j (by omega)]; exact hj
theorem open_rows {t e : TypeId} {k n : Nat} {cs : List Value} {x : DataW H × List MemPlace} (ht : Tryd.prog.underlying t = some (.slice e)) (hc : Tryd.prog.cellsOf e = k) (hk : 0 < k) {α : Type} (row : α → Nat → D) (rows : List α → Nat → Nat → D) (hrows : ∀ l i a, l[i]? = some a → rows l i = row a) (bulk : α → Nat) (Q : α → Prop)
    (helem : ∀ cs x, DataW.trod enc Tryd.prog W 0 (fun _ => true) true n e cs = some x → ∃ a : α, (∀ j u, cs[j]? = some u → Rd (Lt W.heap.size) W (row a j) u) ∧ bulk a ≤ Rows.uptoBulk x.1 ∧ Q a)
    (h : DataW.trod enc Tryd.prog W 0 (fun _ => true) true (n + 1) t cs = some x) :
    ∃ A c, ∃ l : List α, cs = [.slice A l.length c] ∧ Rd (Lt W.heap.size) W (.sl k l.length (rows l)) (.slice A l.length c) ∧ (l.map bulk).sum + 1 ≤ Rows.uptoBulk x.1 ∧ ∀ a ∈ l, Q a := by
  rcases DataW.trod_slice ht h with ⟨rfl, rfl⟩ | ⟨a, len, cap, elems, rest, m, hm, rfl, rfl, _, hl, hcm, hel, hat, _, _⟩
  · exact ⟨none, 0, [], rfl, Rd.sl_nil, by simp [Rows.uptoBulk], fun a ha => absurd ha (by simp)⟩
  · obtain rfl : n = m := by omega
    rw [hc] at hat
    have each : ∀ i, i < len → ∃ b : α, (∀ j, j < k → ∃ u, W.cell? ((a.add (i * k)).add j) = some u ∧ Rd (Lt W.heap.size) W (row b j) u) ∧ (∀ y, elems[i]? = some y → bulk b ≤ Rows.uptoBulk y.1) ∧ Q b := fun i hi => by
      have h1 := hat i hi
      have hi2 : elems[i]? = some elems[i] := List.getElem?_eq_getElem (by omega)
      rw [hi2] at h1
      obtain ⟨cs', h2, h3⟩ := Option.bind_eq_some_iff.1 h1
      obtain ⟨hl2, hce⟩ := cells_at h2
      obtain ⟨b, hb1, hb2, hb3⟩ := helem cs' _ h3
      refine ⟨b, fun j hj => ?_, fun y hy => ?_, hb3⟩
      · have hu : cs'[j]? = some (cs'[j]'(by omega)) := List.getElem?_eq_getElem (by omega)
        exact ⟨_, hce j _ hu, hb1 j _ hu⟩
      · rw [hi2] at hy; rw [← Option.some.inj hy]; exact hb2
    obtain ⟨l, hll, hlp⟩ := list_of len each
    subst hll
    refine ⟨some a, cap, l, rfl, ?_, ?_, fun b hb => ?_⟩
    · refine Rd.sl_mk hl (by unfold maxLen at hcm; exact hcm) fun hpos => ?_
      have h0 : l[0]? = some l[0] := List.getElem?_eq_getElem hpos
      obtain ⟨u, hu, _⟩ := (hlp 0 _ h0).1 0 hk
      have ha0 : (a.add (0 * k)).add 0 = a := by simp [Addr.add]
      rw [ha0] at hu
      have hsp : a.spot = none := by
        unfold World.cell? at hu
        split at hu
        · split at hu
          · cases hu
          · rename_i h; simpa using h
        · cases hu
      obtain ⟨ab, ao, asp⟩ := a
      have hsp : asp = none := hsp
      subst hsp
      refine ⟨ab, ao, rfl, World.block_lt_of_cell? W _ hu, fun i hi j hj => ?_⟩
      have hi2 : l[i]? = some l[i] := List.getElem?_eq_getElem hi
      obtain ⟨u, hu, hd⟩ := (hlp i _ hi2).1 j hj
      rw [Addr.add_lit, Addr.add_lit] at hu
      exact ⟨u, hu, by rw [hrows l i _ hi2]; exact hd⟩
    · have := sum_le bulk (fun y : DataW H × List MemPlace => Rows.uptoBulk y.1) l elems (by omega) (fun i b y hb hy => (hlp i b hb).2.1 y hy)
      simp only [Rows.uptoBulk, bulkAll_sum, List.map_map]
      have h2 : (elems.map (Rows.uptoBulk ∘ fun y => y.1)).sum = (elems.map fun y : DataW H × List MemPlace => Rows.uptoBulk y.1).sum := rfl
      rw [h2]; omega
    · obtain ⟨i, hi⟩ := List.mem_iff_getElem?.1 hb
      exact (hlp i b hi).2.2
theorem wf_range {n : Int} (h : (Lit.int .i64 n).wf = true) : -9223372036854775808 ≤ n ∧ n ≤ 9223372036854775807 := by
  simp [Lit.wf, IntKind.min, IntKind.max, IntKind.signed, IntKind.bits] at h
  omega
theorem bulkV_sum : ∀ l : List V, bulkV l = (l.map V.bulk).sum
  | [] => rfl
  | v :: r => by rw [bulkV_cons, bulkV_sum r]; rfl
theorem WfV_of : ∀ l : List V, (∀ v ∈ l, v.Wf) → WfV l
  | [], _ => by rw [WfV]; trivial
  | v :: r, h => by rw [WfV]; exact ⟨h v List.mem_cons_self, WfV_of r (fun v hv => h v (List.mem_cons_of_mem _ hv))⟩
theorem take1 {l : List Value} {k : Nat} {v : Value} (h : (l.drop k).take 1 = [v]) : l[k]? = some v := by
  have := congrArg (fun m => m[0]?) h
  simpa [List.getElem?_take, List.getElem?_drop] using this
/-- a slice of values -/
theorem open_values : ∀ (N fuel : Nat), fuel ≤ N → ∀ (cs : List Value) (x : DataW H × List MemPlace), DataW.trod enc Tryd.prog W 0 (fun _ => true) true fuel 30 cs = some x →
    ∃ A c, ∃ l : List V, cs = [.slice A l.length c] ∧ Rd (Lt W.heap.size) W (vs l) (.slice A l.length c) ∧ bulkV l + 1 ≤ Rows.uptoBulk x.1 ∧ WfV l := by
  intro N
  induction N with
  | zero =>
    intro fuel hf cs x h
    obtain rfl : fuel = 0 := by omega
    simp [DataW.trod] at h
  | succ N ih =>
    intro fuel hf cs x h
    cases fuel with
    | zero => simp [DataW.trod] at h
    | succ n =>
      obtain ⟨A, c, l, h1, h2, h3, h4⟩ := open_rows (k := 6) Tryd.underlying30 (by kernel_rfl) (by omega) V.row rowsV rowsV_get V.bulk V.Wf (fun cs x hx => by
        obtain ⟨xs, m, hm, rfl, hlen, hxs, hfl⟩ := DataW.trod_struct Tryd.underlying52 hx
        have g0 : DataW.trod enc Tryd.prog W 0 (fun _ => true) true m 3 ((cs.drop 0).take (Tryd.prog.cellsOf 3)) = xs[0]? := hfl 0 _ rfl
        have g1 : DataW.trod enc Tryd.prog W 0 (fun _ => true) true m 9 ((cs.drop 1).take (Tryd.prog.cellsOf 9)) = xs[1]? := hfl 1 _ rfl
        have g2 : DataW.trod enc Tryd.prog W 0 (fun _ => true) true m 3 ((cs.drop 2).take (Tryd.prog.cellsOf 3)) = xs[2]? := hfl 2 _ rfl
        have g3 : DataW.trod enc Tryd.prog W 0 (fun _ => true) true m 3 ((cs.drop 3).take (Tryd.prog.cellsOf 3)) = xs[3]? := hfl 3 _ rfl
        have g4 : DataW.trod enc Tryd.prog W 0 (fun _ => true) true m 9 ((cs.drop 4).take (Tryd.prog.cellsOf 9)) = xs[4]? := hfl 4 _ rfl
        have g5 : DataW.trod enc Tryd.prog W 0 (fun _ => true) true m 30 ((cs.drop 5).take (Tryd.prog.cellsOf 30)) = xs[5]? := hfl 5 _ rfl
        have hs : xs.length = 6 := hxs
        obtain ⟨x0, x1, x2, x3, x4, x5, rfl⟩ : ∃ x0 x1 x2 x3 x4 x5, xs = [x0, x1, x2, x3, x4, x5] := by
          match xs, hs with
          | [x0, x1, x2, x3, x4, x5], _ => exact ⟨_, _, _, _, _, _, rfl⟩
        have cc3 : Tryd.prog.cellsOf 3 = 1 := by kernel_rfl
        have cc9 : Tryd.prog.cellsOf 9 = 1 := by kernel_rfl
        have cc30 : Tryd.prog.cellsOf 30 = 1 := by kernel_rfl
        obtain ⟨kd, e0, f0, w0⟩ := DataW.trod_int Tryd.underlying3 g0
        obtain ⟨t, e1, f1, _⟩ := DataW.trod_string Tryd.underlying9 g1
        obtain ⟨n', e2, f2, w2⟩ := DataW.trod_int Tryd.underlying3 g2
        obtain ⟨m', e3, f3, w3⟩ := DataW.trod_int Tryd.underlying3 g3
        obtain ⟨s, e4, f4, _⟩ := DataW.trod_string Tryd.underlying9 g4
        obtain ⟨A', c', l', e5, r5, b5, wf5⟩ := ih m (by omega) _ _ g5
        rw [cc3] at e0 e2 e3
        rw [cc9] at e1 e4
        rw [cc30] at e5
        have hlen : cs.length = 6 := hlen.trans (by kernel_rfl)
        refine ⟨.mk kd t n' m' s l', fun j u hj => ?_, ?_, ?_⟩
        · refine cells_rdV r5 j u ?_
          rw [← hj]
          match j with
          | 0 => exact (take1 e0).symm
          | 1 => exact (take1 e1).symm
          | 2 => exact (take1 e2).symm
          | 3 => exact (take1 e3).symm
          | 4 => exact (take1 e4).symm
          | 5 => exact (take1 e5).symm
          | j + 6 => rw [List.getElem?_eq_none (by simp), List.getElem?_eq_none (by omega)]
        · rw [bulk_mk]
          subst f0 f1 f2 f3 f4
          simp only [List.map_cons, List.map_nil, Rows.uptoBulk, Rows.uptoBulkAll]
          simp only [size_toList]
          omega
        · rw [V.Wf]; exact ⟨wf_range w0, wf_range w2, wf_range w3, wf5⟩) h
      exact ⟨A, c, l, h1, h2, by rw [bulkV_sum]; exact h3, WfV_of l h4⟩
/-- the numbers of it are Go's ints -/
def Out.Wf (x : Out) : Prop := WfV x.args ∧ (-9223372036854775808 ≤ x.tick ∧ x.tick ≤ 9223372036854775807)
theorem open_Out (fuel : Nat) (cs : List Value) (x : DataW H × List MemPlace) (hx : DataW.trod enc Tryd.prog W 0 (fun _ => true) true fuel 45 cs = some x) :
    ∃ a : Out, ∃ A c, cs = [.string a.key, .string a.name, .slice A a.args.length c, .bool a.part, .int .i64 a.tick] ∧ Rd (Lt W.heap.size) W (vs a.args) (.slice A a.args.length c) ∧ a.bulk ≤ Rows.uptoBulk x.1 ∧ a.Wf := by
  obtain ⟨xs, m, hm, rfl, hlen, hxs, hfl⟩ := DataW.trod_struct Tryd.underlying45 hx
  have g0 : DataW.trod enc Tryd.prog W 0 (fun _ => true) true m 9 ((cs.drop 0).take (Tryd.prog.cellsOf 9)) = xs[0]? := hfl 0 _ rfl
  have g1 : DataW.trod enc Tryd.prog W 0 (fun _ => true) true m 9 ((cs.drop 1).take (Tryd.prog.cellsOf 9)) = xs[1]? := hfl 1 _ rfl
  have g2 : DataW.trod enc Tryd.prog W 0 (fun _ => true) true m 30 ((cs.drop 2).take (Tryd.prog.cellsOf 30)) = xs[2]? := hfl 2 _ rfl
  have g3 : DataW.trod enc Tryd.prog W 0 (fun _ => true) true m 4 ((cs.drop 3).take (Tryd.prog.cellsOf 4)) = xs[3]? := hfl 3 _ rfl
  have g4 : DataW.trod enc Tryd.prog W 0 (fun _ => true) true m 3 ((cs.drop 4).take (Tryd.prog.cellsOf 3)) = xs[4]? := hfl 4 _ rfl
  have hs : xs.length = 5 := hxs
  obtain ⟨x0, x1, x2, x3, x4, rfl⟩ : ∃ x0 x1 x2 x3 x4, xs = [x0, x1, x2, x3, x4] := by
    match xs, hs with
    | [x0, x1, x2, x3, x4], _ => exact ⟨_, _, _, _, _, rfl⟩
  obtain ⟨y0, e0, f0, _⟩ := DataW.trod_string Tryd.underlying9 g0
  obtain ⟨y1, e1, f1, _⟩ := DataW.trod_string Tryd.underlying9 g1
  obtain ⟨A', c', y2, e2, r5, b5, wf5⟩ := open_values m m (Nat.le_refl _) _ _ g2
  obtain ⟨y3, e3, f3⟩ := DataW.trod_bool Tryd.underlying4 g3
  obtain ⟨y4, e4, f4, w4⟩ := DataW.trod_int Tryd.underlying3 g4
  rw [show Tryd.prog.cellsOf 9 = 1 by kernel_rfl] at e0 e1
  rw [show Tryd.prog.cellsOf 3 = 1 by kernel_rfl] at e4
  rw [show Tryd.prog.cellsOf 4 = 1 by kernel_rfl] at e3
  rw [show Tryd.prog.cellsOf 30 = 1 by kernel_rfl] at e2
  have hlen : cs.length = 5 := hlen.trans (by kernel_rfl)
  refine ⟨⟨y0, y1, y2, y3, y4⟩, A', c', ?_, r5, ?_, ?_⟩
  · apply List.ext_getElem?
    intro j
    match j with
    | 0 => exact take1 e0
    | 1 => exact take1 e1
    | 2 => exact take1 e2
    | 3 => exact take1 e3
    | 4 => exact take1 e4
    | j + 5 => rw [List.getElem?_eq_none (by omega), List.getElem?_eq_none (by simp)]
  · unfold Out.bulk
    subst f0 f1 f3 f4
    simp only [List.map_cons, List.map_nil, Rows.uptoBulk, Rows.uptoBulkAll]
    simp only [size_toList]
    omega
  · exact ⟨wf5, wf_range w4⟩
theorem open_slOut (fuel : Nat) (cs : List Value) (x : DataW H × List MemPlace) (h : DataW.trod enc Tryd.prog W 0 (fun _ => true) true fuel 22 cs = some x) :
    ∃ A c, ∃ l : List Out, cs = [.slice A l.length c] ∧ Rd (Lt W.heap.size) W (slOut l) (.slice A l.length c) ∧ bulkOut l + 1 ≤ Rows.uptoBulk x.1 ∧ ∀ a ∈ l, a.Wf := by
  cases fuel with
  | zero => simp [DataW.trod] at h
  | succ n =>
    exact open_rows (k := 5) Tryd.underlying22 (by kernel_rfl) (by omega) Out.row rowsOut (fun l i a h => rowsOut_get h) Out.bulk Out.Wf (fun cs x hx => by
      obtain ⟨a, A, c, rfl, h1, h2, h3⟩ := open_Out n cs x hx
      exact ⟨a, cells_rdOut h1, h2, h3⟩) h
/-- the numbers of it are Go's ints -/
def Cmd.Wf (x : Cmd) : Prop := WfV x.args ∧ (-9223372036854775808 ≤ x.kind ∧ x.kind ≤ 9223372036854775807)
theorem open_Cmd (fuel : Nat) (cs : List Value) (x : DataW H × List MemPlace) (hx : DataW.trod enc Tryd.prog W 0 (fun _ => true) true fuel 32 cs = some x) :
    ∃ a : Cmd, ∃ A c, cs = [.string a.key, .int .i64 a.kind, .string a.of, .string a.new, .string a.name, .slice A a.args.length c] ∧ Rd (Lt W.heap.size) W (vs a.args) (.slice A a.args.length c) ∧ a.bulk ≤ Rows.uptoBulk x.1 ∧ a.Wf := by
  obtain ⟨xs, m, hm, rfl, hlen, hxs, hfl⟩ := DataW.trod_struct Tryd.underlying32 hx
  have g0 : DataW.trod enc Tryd.prog W 0 (fun _ => true) true m 9 ((cs.drop 0).take (Tryd.prog.cellsOf 9)) = xs[0]? := hfl 0 _ rfl
  have g1 : DataW.trod enc Tryd.prog W 0 (fun _ => true) true m 3 ((cs.drop 1).take (Tryd.prog.cellsOf 3)) = xs[1]? := hfl 1 _ rfl
  have g2 : DataW.trod enc Tryd.prog W 0 (fun _ => true) true m 9 ((cs.drop 2).take (Tryd.prog.cellsOf 9)) = xs[2]? := hfl 2 _ rfl
  have g3 : DataW.trod enc Tryd.prog W 0 (fun _ => true) true m 9 ((cs.drop 3).take (Tryd.prog.cellsOf 9)) = xs[3]? := hfl 3 _ rfl
  have g4 : DataW.trod enc Tryd.prog W 0 (fun _ => true) true m 9 ((cs.drop 4).take (Tryd.prog.cellsOf 9)) = xs[4]? := hfl 4 _ rfl
  have g5 : DataW.trod enc Tryd.prog W 0 (fun _ => true) true m 30 ((cs.drop 5).take (Tryd.prog.cellsOf 30)) = xs[5]? := hfl 5 _ rfl
  have hs : xs.length = 6 := hxs
  obtain ⟨x0, x1, x2, x3, x4, x5, rfl⟩ : ∃ x0 x1 x2 x3 x4 x5, xs = [x0, x1, x2, x3, x4, x5] := by
    match xs, hs with
    | [x0, x1, x2, x3, x4, x5], _ => exact ⟨_, _, _, _, _, _, rfl⟩
  obtain ⟨y0, e0, f0, _⟩ := DataW.trod_string Tryd.underlying9 g0
  obtain ⟨y1, e1, f1, w1⟩ := DataW.trod_int Tryd.underlying3 g1
  obtain ⟨y2, e2, f2, _⟩ := DataW.trod_string Tryd.underlying9 g2
  obtain ⟨y3, e3, f3, _⟩ := DataW.trod_string Tryd.underlying9 g3
  obtain ⟨y4, e4, f4, _⟩ := DataW.trod_string Tryd.underlying9 g4
  obtain ⟨A', c', y5, e5, r5, b5, wf5⟩ := open_values m m (Nat.le_refl _) _ _ g5
  rw [show Tryd.prog.cellsOf 9 = 1 by kernel_rfl] at e0 e2 e3 e4
  rw [show Tryd.prog.cellsOf 3 = 1 by kernel_rfl] at e1
  rw [show Tryd.prog.cellsOf 30 = 1 by kernel_rfl] at e5
  have hlen : cs.length = 6 := hlen.trans (by kernel_rfl)
  refine ⟨⟨y0, y1, y2, y3, y4, y5⟩, A', c', ?_, r5, ?_, ?_⟩
  · apply List.ext_getElem?
    intro j
    match j with
    | 0 => exact take1 e0
    | 1 => exact take1 e1
    | 2 => exact take1 e2
    | 3 => exact take1 e3
    | 4 => exact take1 e4
    | 5 => exact take1 e5
    | j + 6 => rw [List.getElem?_eq_none (by omega), List.getElem?_eq_none (by simp)]
  · unfold Cmd.bulk
    subst f0 f1 f2 f3 f4
    simp only [List.map_cons, List.map_nil, Rows.uptoBulk, Rows.uptoBulkAll]
    simp only [size_toList]
    omega
  · exact ⟨wf5, wf_range w1⟩
theorem open_slCmd (fuel : Nat) (cs : List Value) (x : DataW H × List MemPlace) (h : DataW.trod enc Tryd.prog W 0 (fun _ => true) true fuel 23 cs = some x) :
    ∃ A c, ∃ l : List Cmd, cs = [.slice A l.length c] ∧ Rd (Lt W.heap.size) W (slCmd l) (.slice A l.length c) ∧ bulkCmd l + 1 ≤ Rows.uptoBulk x.1 ∧ ∀ a ∈ l, a.Wf := by
  cases fuel with
  | zero => simp [DataW.trod] at h
  | succ n =>
    exact open_rows (k := 6) Tryd.underlying23 (by kernel_rfl) (by omega) Cmd.row rowsCmd (fun l i a h => rowsCmd_get h) Cmd.bulk Cmd.Wf (fun cs x hx => by
      obtain ⟨a, A, c, rfl, h1, h2, h3⟩ := open_Cmd n cs x hx
      exact ⟨a, cells_rdCmd h1, h2, h3⟩) h
/-- the numbers of it are Go's ints -/
def Req.Wf (x : Req) : Prop := WfV x.args ∧ (-9223372036854775808 ≤ x.ord ∧ x.ord ≤ 9223372036854775807) ∧ (-9223372036854775808 ≤ x.sent ∧ x.sent ≤ 9223372036854775807) ∧ (-9223372036854775808 ≤ x.tick ∧ x.tick ≤ 9223372036854775807)
theorem open_Req (fuel : Nat) (cs : List Value) (x : DataW H × List MemPlace) (hx : DataW.trod enc Tryd.prog W 0 (fun _ => true) true fuel 42 cs = some x) :
    ∃ a : Req, ∃ A c, cs = [.string a.path, .string a.name, .slice A a.args.length c, .int .i64 a.ord, .string a.reply, .int .i64 a.sent, .int .i64 a.tick, .bool a.isopen] ∧ Rd (Lt W.heap.size) W (vs a.args) (.slice A a.args.length c) ∧ a.bulk ≤ Rows.uptoBulk x.1 ∧ a.Wf := by
  obtain ⟨xs, m, hm, rfl, hlen, hxs, hfl⟩ := DataW.trod_struct Tryd.underlying42 hx
  have g0 : DataW.trod enc Tryd.prog W 0 (fun _ => true) true m 9 ((cs.drop 0).take (Tryd.prog.cellsOf 9)) = xs[0]? := hfl 0 _ rfl
  have g1 : DataW.trod enc Tryd.prog W 0 (fun _ => true) true m 9 ((cs.drop 1).take (Tryd.prog.cellsOf 9)) = xs[1]? := hfl 1 _ rfl
  have g2 : DataW.trod enc Tryd.prog W 0 (fun _ => true) true m 30 ((cs.drop 2).take (Tryd.prog.cellsOf 30)) = xs[2]? := hfl 2 _ rfl
  have g3 : DataW.trod enc Tryd.prog W 0 (fun _ => true) true m 3 ((cs.drop 3).take (Tryd.prog.cellsOf 3)) = xs[3]? := hfl 3 _ rfl
  have g4 : DataW.trod enc Tryd.prog W 0 (fun _ => true) true m 9 ((cs.drop 4).take (Tryd.prog.cellsOf 9)) = xs[4]? := hfl 4 _ rfl
  have g5 : DataW.trod enc Tryd.prog W 0 (fun _ => true) true m 3 ((cs.drop 5).take (Tryd.prog.cellsOf 3)) = xs[5]? := hfl 5 _ rfl
  have g6 : DataW.trod enc Tryd.prog W 0 (fun _ => true) true m 3 ((cs.drop 6).take (Tryd.prog.cellsOf 3)) = xs[6]? := hfl 6 _ rfl
  have g7 : DataW.trod enc Tryd.prog W 0 (fun _ => true) true m 4 ((cs.drop 7).take (Tryd.prog.cellsOf 4)) = xs[7]? := hfl 7 _ rfl
  have hs : xs.length = 8 := hxs
  obtain ⟨x0, x1, x2, x3, x4, x5, x6, x7, rfl⟩ : ∃ x0 x1 x2 x3 x4 x5 x6 x7, xs = [x0, x1, x2, x3, x4, x5, x6, x7] := by
    match xs, hs with
    | [x0, x1, x2, x3, x4, x5, x6, x7], _ => exact ⟨_, _, _, _, _, _, _, _, rfl⟩
  obtain ⟨y0, e0, f0, _⟩ := DataW.trod_string Tryd.underlying9 g0
  obtain ⟨y1, e1, f1, _⟩ := DataW.trod_string Tryd.underlying9 g1
  obtain ⟨A', c', y2, e2, r5, b5, wf5⟩ := open_values m m (Nat.le_refl _) _ _ g2
  obtain ⟨y3, e3, f3, w3⟩ := DataW.trod_int Tryd.underlying3 g3
  obtain ⟨y4, e4, f4, _⟩ := DataW.trod_string Tryd.underlying9 g4
  obtain ⟨y5, e5, f5, w5⟩ := DataW.trod_int Tryd.underlying3 g5
  obtain ⟨y6, e6, f6, w6⟩ := DataW.trod_int Tryd.underlying3 g6
  obtain ⟨y7, e7, f7⟩ := DataW.trod_bool Tryd.underlying4 g7
  rw [show Tryd.prog.cellsOf 9 = 1 by kernel_rfl] at e0 e1 e4
  rw [show Tryd.prog.cellsOf 3 = 1 by kernel_rfl] at e3 e5 e6
  rw [show Tryd.prog.cellsOf 4 = 1 by kernel_rfl] at e7
  rw [show Tryd.prog.cellsOf 30 = 1 by kernel_rfl] at e2
  have hlen : cs.length = 8 := hlen.trans (by kernel_rfl)
  refine ⟨⟨y0, y1, y2, y3, y4, y5, y6, y7⟩, A', c', ?_, r5, ?_, ?_⟩
  · apply List.ext_getElem?
    intro j
    match j with
    | 0 => exact take1 e0
    | 1 => exact take1 e1
    | 2 => exact take1 e2
    | 3 => exact take1 e3
    | 4 => exact take1 e4
    | 5 => exact take1 e5
    | 6 => exact take1 e6
    | 7 => exact take1 e7
    | j + 8 => rw [List.getElem?_eq_none (by omega), List.getElem?_eq_none (by simp)]
  · unfold Req.bulk
    subst f0 f1 f3 f4 f5 f6 f7
    simp only [List.map_cons, List.map_nil, Rows.uptoBulk, Rows.uptoBulkAll]
    simp only [size_toList]
    omega
  · exact ⟨wf5, wf_range w3, wf_range w5, wf_range w6⟩
theorem open_slReq (fuel : Nat) (cs : List Value) (x : DataW H × List MemPlace) (h : DataW.trod enc Tryd.prog W 0 (fun _ => true) true fuel 36 cs = some x) :
    ∃ A c, ∃ l : List Req, cs = [.slice A l.length c] ∧ Rd (Lt W.heap.size) W (slReq l) (.slice A l.length c) ∧ bulkReq l + 1 ≤ Rows.uptoBulk x.1 ∧ ∀ a ∈ l, a.Wf := by
  cases fuel with
  | zero => simp [DataW.trod] at h
  | succ n =>
    exact open_rows (k := 8) Tryd.underlying36 (by kernel_rfl) (by omega) Req.row rowsReq (fun l i a h => rowsReq_get h) Req.bulk Req.Wf (fun cs x hx => by
      obtain ⟨a, A, c, rfl, h1, h2, h3⟩ := open_Req n cs x hx
      exact ⟨a, cells_rdReq h1, h2, h3⟩) h
end
end Go.Proofs.YtlnfdpdancolmaaDoor
