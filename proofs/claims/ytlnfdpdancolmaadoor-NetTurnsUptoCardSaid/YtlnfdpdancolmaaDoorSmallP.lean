/- The fixed example of the statements' package, as plain Lean data: what it comes to. Conditions: none. -/
import Derived.Test.YtlnfdpdancolmaaDoorKey
import Derived.Test.YtlnfdpdancolmaaDoorBytes
import Derived.Test.YtlnfdpdancolmaaDoorDiff
import Derived.Test.YtlnfdpdancolmaaDoorNetSame
namespace Go.Proofs.YtlnfdpdancolmaaDoor
open Go.RowKit

def F0 (v : V) : ByteArray := intBytes v.n
def kf0 : Req → ByteArray := keyS F0
theorem compat_keyS (F : V → ByteArray) : Compat (keyS F) := fun a b h => by
  rw [alikeB_iff] at h
  obtain ⟨h1, h2, h3, h4⟩ := h
  unfold keyS keyB
  rw [h1, h2, h3, h4]
theorem bytesOk_int (n : Int) (h0 : -9007199254740992 ≤ n) (h1 : n ≤ 9007199254740992) : BytesOk F0 (vInt n) := by
  refine ⟨?_, fun k t n' m s l h W A c hr => ?_⟩
  · show (intBytes n).size ≤ _
    have := bytesV_len (vInt n)
    have h2 : (intBytes n).size = (bytesV (vInt n)).length := by simp [intBytes, ByteArray.size]
    omega
  · unfold vInt at h
    injection h with e1 e2 e3 e4 e5 e6
    subst e1 e2 e3 e4 e5 e6
    exact bytes_int n h0 h1 A c W hr
def sS (l : List UInt8) : ByteArray := ⟨l.toArray⟩
def reqR : Req := ⟨⟨#[48]⟩, ⟨#[112, 97, 121]⟩, [vInt 1], 0, ⟨#[]⟩, 0, 7, false⟩
def reqQ : Req := ⟨⟨#[48]⟩, ⟨#[112, 97, 121]⟩, [vInt 1], 1, ⟨#[]⟩, 0, 8, false⟩
def reqM : Req := ⟨⟨#[48]⟩, ⟨#[109, 97, 105, 108]⟩, [], 0, ⟨#[]⟩, 0, 0, false⟩
theorem keyOk_ints (r : Req) (h : ∀ v ∈ r.args, ∃ n : Int, v = vInt n ∧ -9007199254740992 ≤ n ∧ n ≤ 9007199254740992) (hb : r.bulk ≤ 2097152) : KeyOk kf0 r :=
  ⟨by unfold Req.bulk at hb; omega, fun W A c hr hR => key_any F0 r A c W hb (fun v hv => by
    obtain ⟨n, rfl, h0, h1⟩ := h v hv
    exact bytesOk_int n h0 h1) hr hR⟩
theorem keyOkR : KeyOk kf0 reqR := keyOk_ints reqR (fun v hv => ⟨1, by simpa [reqR] using hv, by omega, by omega⟩) (by decide)
theorem keyOkQ : KeyOk kf0 reqQ := keyOk_ints reqQ (fun v hv => ⟨1, by simpa [reqQ] using hv, by omega, by omega⟩) (by decide)
theorem keyOkM : KeyOk kf0 reqM := keyOk_ints reqM (fun v hv => by simp [reqM] at hv) (by decide)
theorem key_R : kf0 reqR = ⟨#[99, 52, 100, 97, 56, 101, 98, 48, 48, 99, 99, 50, 98, 97, 53, 97, 54, 48, 100, 48, 97, 100, 51, 55, 54, 52, 55, 97, 99, 57, 98, 100, 98, 53, 101, 53, 100, 102, 54, 97, 48, 54, 102, 55, 55, 98, 99, 99, 57, 56, 98, 53, 98, 97, 57, 97, 100, 54, 57, 98, 48, 101, 56, 97]⟩ := by kernel_rfl
theorem key_Q : kf0 reqQ = ⟨#[53, 102, 56, 98, 48, 55, 50, 49, 49, 55, 98, 55, 55, 98, 57, 97, 51, 51, 49, 102, 50, 101, 56, 102, 99, 56, 99, 98, 102, 99, 97, 55, 55, 99, 52, 101, 57, 51, 100, 53, 56, 50, 55, 102, 50, 56, 48, 49, 55, 99, 54, 51, 50, 51, 101, 102, 49, 54, 98, 97, 98, 50, 97, 54]⟩ := by kernel_rfl
theorem key_ne : ((kf0 reqR).toList == (kf0 reqQ).toList) = false := by
  rw [key_R, key_Q, ByteArray.toList_eq, ByteArray.toList_eq]
  decide
theorem al_RQ : alikeB reqR reqQ = false := rfl
theorem al_QR : alikeB reqQ reqR = false := rfl
theorem al_MQ : alikeB reqM reqQ = false := rfl
theorem al_QM : alikeB reqQ reqM = false := rfl
theorem al_QQ : alikeB reqQ reqQ = true := (alikeB_iff _ _).2 ⟨rfl, rfl, rfl, rfl⟩
theorem al_RM : alikeB reqR reqM = false := by
  cases h : alikeB reqR reqM with
  | false => rfl
  | true =>
    have := ((alikeB_iff _ _).1 h).2.2.1
    simp [reqR, reqM] at this
theorem only1 : onlyS [reqR, reqQ] [reqQ, reqM] = [reqR] := by
  simp [onlyS, onlyTo, matchedI, List.range, List.range.loop, List.countP_cons, al_RQ, al_QR, al_MQ, al_QQ, (alike_symm reqM reqR).trans al_RM]
theorem only2 : onlyS [reqQ, reqM] [reqR, reqQ] = [reqM] := by
  simp [onlyS, onlyTo, matchedI, List.range, List.range.loop, List.countP_cons, al_RQ, al_QM, al_QQ, al_RM]
def oA : Out := ⟨⟨#[97]⟩, ⟨#[112, 97, 121]⟩, [vInt 1], false, 0⟩
def oB : Out := ⟨⟨#[98]⟩, ⟨#[112, 97, 121]⟩, [], false, 0⟩
def oC : Out := ⟨⟨#[99]⟩, ⟨#[109, 97, 105, 108]⟩, [], true, 0⟩
def cm (kind : Int) (of new name : ByteArray) : Cmd := ⟨⟨#[]⟩, kind, of, new, name, []⟩
def cm1 : Cmd := ⟨⟨#[107]⟩, 1, ⟨#[]⟩, ⟨#[97]⟩, ⟨#[112, 97, 121]⟩, [vInt 1]⟩
theorem f1 : foldS [] [cm1] = ([oA], 0) := by
  simp [foldS, stepE, stepR, findI, idx, ByteArray.toList_eq, made, cm1, oA]
theorem f2 : foldS [oA] [cm 1 ⟨#[]⟩ ⟨#[99]⟩ ⟨#[109, 97, 105, 108]⟩, cm 4 ⟨#[97]⟩ ⟨#[98]⟩ ⟨#[112, 97, 121]⟩, cm 3 ⟨#[99]⟩ ⟨#[]⟩ ⟨#[]⟩] = ([oB, oC], 0) := by
  simp [foldS, stepE, stepR, findI, idx, hasKey, ByteArray.toList_eq, made, cm, oA, oB, oC, List.findIdx?_cons]
theorem f3 : foldS [oB, oC] [cm 2 ⟨#[98]⟩ ⟨#[]⟩ ⟨#[]⟩] = ([oC], 0) := by
  simp [foldS, stepE, stepR, findI, idx, hasKey, ByteArray.toList_eq, cm, oB, oC, List.findIdx?_cons]
theorem f4 : foldS [oB, oC] [cm 3 ⟨#[99]⟩ ⟨#[]⟩ ⟨#[]⟩] = ([], 16) := by
  simp [foldS, stepE, findI, idx, hasKey, ByteArray.toList_eq, cm, oB, oC, List.findIdx?_cons]
theorem f5 : foldS [oB, oC] [cm 1 ⟨#[]⟩ ⟨#[98]⟩ ⟨#[]⟩] = ([], 4) := by
  simp [foldS, stepE, findI, idx, hasKey, ByteArray.toList_eq, cm, oB, oC, List.findIdx?_cons]
theorem f6 : foldS [oB, oC] [cm 2 ⟨#[122]⟩ ⟨#[]⟩ ⟨#[]⟩] = ([], 5) := by
  simp [foldS, stepE, findI, idx, hasKey, ByteArray.toList_eq, cm, oB, oC, List.findIdx?_cons]
theorem f7 : foldS [oB, oC] [cm 9 ⟨#[]⟩ ⟨#[]⟩ ⟨#[]⟩] = ([], 1) := by
  simp [foldS, stepE, cm]
theorem f8 : foldS [oB, oC] [cm 4 ⟨#[98]⟩ ⟨#[99]⟩ ⟨#[]⟩] = ([], 4) := by
  simp [foldS, stepE, findI, idx, hasKey, ByteArray.toList_eq, cm, oB, oC, List.findIdx?_cons]
theorem sm1 : (decide ([oB, oC].length = [oC, oB].length) && sameS [oB, oC] [oC, oB]) = true := by
  have h1 : eqO oB oB = true := (eqO_iff _ _).2 ⟨rfl, rfl, rfl, rfl⟩
  have h2 : eqO oC oC = true := (eqO_iff _ _).2 ⟨rfl, rfl, rfl, rfl⟩
  have h3 : eqO oC oB = false := by
    cases h : eqO oC oB with
    | false => rfl
    | true => have := ((eqO_iff _ _).1 h).1; simp [oB, oC] at this
  simp [sameS, h1, h2, h3]
theorem sm2 : (decide ([oA].length = [oB, oC].length) && sameS [oA] [oB, oC]) = false := rfl
end Go.Proofs.YtlnfdpdancolmaaDoor
