/- match.Key at every request that is not too large. Conditions: those in each statement. -/
import Derived.Test.YtlnfdpdancolmaaDoorNode
import Derived.Test.YtlnfdpdancolmaaDoorSmallP
import Derived.Test.YtlnfdpdancolmaaDoorOpen
namespace Go.Proofs.YtlnfdpdancolmaaDoor
open Go.RowKit

theorem bytesOk_all (v : V) (hb : v.bulk ≤ 2097152) (hwf : v.Wf) : BytesOk (bytesP nodeP) v := by
  refine ⟨?_, fun k t n m s l h W A c hr => ?_⟩
  · unfold bytesP
    split
    · have := bytesV_len v
      simpa [ByteArray.size] using this
    · exact Nat.zero_le _
  · subst h
    exact bytes_of nodeP k t n m s l A c W hb hwf (nodeOk_all _ hb) hr
/-- the key of a request -/
def kfG : Req → ByteArray := keyS (bytesP nodeP)
theorem compat_kfG : Compat kfG := compat_keyS _
theorem bulkV_mem {l : List V} {v : V} (h : v ∈ l) : v.bulk ≤ bulkV l := by
  obtain ⟨i, hi⟩ := List.mem_iff_getElem?.1 h
  exact bulkV_get l i v hi
theorem WfV_mem {l : List V} {v : V} (hw : WfV l) (h : v ∈ l) : v.Wf := by
  obtain ⟨i, hi⟩ := List.mem_iff_getElem?.1 h
  exact WfV_get l i v hw hi
theorem keyOk_all (r : Req) (hb : r.bulk ≤ 2097152) (hwf : WfV r.args) : KeyOk kfG r :=
  ⟨by unfold Req.bulk at hb; omega, fun W A c hr hR => key_any (bytesP nodeP) r A c W hb (fun v hv => bytesOk_all v (by
    have := bulkV_mem hv
    unfold Req.bulk at hb
    omega) (WfV_mem hwf hv)) hr hR⟩
theorem kfG_size (r : Req) : (kfG r).size = 64 := by
  unfold kfG keyS hexS
  rw [strOfNums_size]; simp
end Go.Proofs.YtlnfdpdancolmaaDoor
