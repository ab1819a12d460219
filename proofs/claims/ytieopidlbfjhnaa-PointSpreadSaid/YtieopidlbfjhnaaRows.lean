/-
  No cell of these rows narrows 'for every input' (looked for: loops, veiled, ifaces, maps, wideKeys, modest, calm, conditions, laid).
  DERIVED. THE GIVEN ROWS OF THIS SEAT. 3 by the template 'for every input the law returns true; each argument reads behind the call as it read before'; 0 by the template 'total and deterministic' (their statements: YtieopidlbfjhnaaTotals.lean).
  GIVEN WITH THE SEED: the statements are not yours to turn. If you find one false, say at which input.
  Laid BY PROGRAM, IN A SANDBOX (cutbox-rows.mjs): the forced cells as the released guide's own fill.sh prints them over the translation ae9e2c83a9d3bee5… (all of the seat's roots in one cut). By AI agents, Wed Nov 11 2026. No macro, syntax, notation, axiom, sorry.
-/
import Derived.Test.YtieopidlbfjhnaaChecked
import GoSem.Claim
import GoSem.ClaimJoined
import GoSem.ClaimMapViews
import Derived.JoinedTies
import Derived.KernelRfl
namespace Go.Proofs.Ytieopidlbfjhnaa
/- THE CELL 'sum', in the pinned program and in every row, IS THE sha256 OF THE DUMP (.gsa) THAT YtieopidlbfjhnaaProg.lean LOADS. Nothing in Lean hashes anything: it is a label: what it is worth is what the hold of that sum in a sandbox is worth. -/
noncomputable def Try.pinned : Pinned := { name := "ytieopidlbfjhnaa", sum := "ae9e2c83a9d3bee5fc34c584a95923b531918fb6bc6b0cfccf9ad23c03976921", checked := Try.checked }
namespace Rows
def none {H : Type} : Left H := { results := [], args := [] }

/-- 'retroactlaw24.PointKeeps': WHATEVER THE INPUT: true; the input reads as it did. -/
def pointKeepsSpec : ChangeSpec := { name := "pointKeeps", fn := fun _ => fun
  | [d1, d2] => { results := [.lit (.bool true)], args := [d1, d2] }
  | _ => none }
def pointKeepsRow : OpenClaim := { program := "ytieopidlbfjhnaa", sum := "ae9e2c83a9d3bee5fc34c584a95923b531918fb6bc6b0cfccf9ad23c03976921", func := "retroact/retroactlaw24.PointKeeps", spec := "pointKeeps", inPlace := ["slices.overlaps[int]"], apart := false }
def PointKeepsSaid : Prop := pointKeepsRow.holds Try.pinned (OpenSpec.ofChange pointKeepsSpec)

/-- ITS FALSE NEIGHBOUR: 'it returns false'. Refute it at one input. -/
def pointKeepsWrong : ChangeSpec := { name := "pointKeeps", fn := fun _ => fun
  | [d1, d2] => { results := [.lit (.bool false)], args := [d1, d2] }
  | _ => none }
def PointKeepsWrongFalsely : Prop := pointKeepsRow.holds Try.pinned (OpenSpec.ofChange pointKeepsWrong)

/-- 'retroactlaw24.PointSpread': WHATEVER THE INPUT: true; the input reads as it did. -/
def pointSpreadSpec : ChangeSpec := { name := "pointSpread", fn := fun _ => fun
  | [d1, d2] => { results := [.lit (.bool true)], args := [d1, d2] }
  | _ => none }
def pointSpreadRow : OpenClaim := { program := "ytieopidlbfjhnaa", sum := "ae9e2c83a9d3bee5fc34c584a95923b531918fb6bc6b0cfccf9ad23c03976921", func := "retroact/retroactlaw24.PointSpread", spec := "pointSpread", inPlace := ["slices.overlaps[int]"], apart := false }
def PointSpreadSaid : Prop := pointSpreadRow.holds Try.pinned (OpenSpec.ofChange pointSpreadSpec)

/-- ITS FALSE NEIGHBOUR: 'it returns false'. Refute it at one input. -/
def pointSpreadWrong : ChangeSpec := { name := "pointSpread", fn := fun _ => fun
  | [d1, d2] => { results := [.lit (.bool false)], args := [d1, d2] }
  | _ => none }
def PointSpreadWrongFalsely : Prop := pointSpreadRow.holds Try.pinned (OpenSpec.ofChange pointSpreadWrong)

/-- 'retroactlaw24.PointOrder': WHATEVER THE INPUT: true; the input reads as it did. -/
def pointOrderSpec : ChangeSpec := { name := "pointOrder", fn := fun _ => fun
  | [d1, d2, d3] => { results := [.lit (.bool true)], args := [d1, d2, d3] }
  | _ => none }
def pointOrderRow : OpenClaim := { program := "ytieopidlbfjhnaa", sum := "ae9e2c83a9d3bee5fc34c584a95923b531918fb6bc6b0cfccf9ad23c03976921", func := "retroact/retroactlaw24.PointOrder", spec := "pointOrder", inPlace := ["slices.overlaps[int]"], apart := false }
def PointOrderSaid : Prop := pointOrderRow.holds Try.pinned (OpenSpec.ofChange pointOrderSpec)

/-- ITS FALSE NEIGHBOUR: 'it returns false'. Refute it at one input. -/
def pointOrderWrong : ChangeSpec := { name := "pointOrder", fn := fun _ => fun
  | [d1, d2, d3] => { results := [.lit (.bool false)], args := [d1, d2, d3] }
  | _ => none }
def PointOrderWrongFalsely : Prop := pointOrderRow.holds Try.pinned (OpenSpec.ofChange pointOrderWrong)

/- THE SECOND FORM. 'bulk': how many values and letters a reading holds, each counted each time it is reached (what is shared counts as often as it is met; a slice's spare places count too). A statement '..UptoSaid' is the law's where the arguments, and the package variables that the reading takes, are together of bulk at most 1048576: NARROWER than '..Said'. Prove '..Said' where nothing that the law and all that it calls make is longer than what came in: it says more and counts as full. Else prove '..UptoSaid'. A law counts once. -/
mutual
def uptoBulk {H : Type} : DataW H → Nat
  | .lit (.string bytes) => bytes.length + 1
  | .lit _ => 1
  | .nil => 1
  | .ptr d => uptoBulk d + 1
  | .slice elems spare => uptoBulkAll elems + uptoBulkAll spare + 1
  | .agg parts => uptoBulkAll parts + 1
  | .iface _ d => uptoBulk d + 1
  | .map entries => uptoBulkEntries entries + 1
  | .held _ => 1
def uptoBulkAll {H : Type} : List (DataW H) → Nat
  | [] => 0
  | d :: r => uptoBulk d + uptoBulkAll r
def uptoBulkEntries {H : Type} : List (Lit × DataW H) → Nat
  | [] => 0
  | x :: r => uptoBulkEntry x + uptoBulkEntries r
def uptoBulkEntry {H : Type} : Lit × DataW H → Nat
  | (.string bytes, d) => bytes.length + uptoBulk d + 1
  | (_, d) => uptoBulk d + 1
 end
def uptoSmall : (H : Type) → List (DataW H) → Bool := fun _ ds => decide (uptoBulkAll ds ≤ 1048576)
def OpenSpec.upto (s : _root_.Go.ChangeSpec) : _root_.Go.OpenSpec := { _root_.Go.OpenSpec.ofChange s with cond := some uptoSmall }

/-- 'retroactlaw24.PointKeeps', WHERE WHAT IT READS IS OF BULK AT MOST 1048576: true; the input reads as it did. -/
def pointKeepsUptoRow : OpenClaim := { program := "ytieopidlbfjhnaa", sum := "ae9e2c83a9d3bee5fc34c584a95923b531918fb6bc6b0cfccf9ad23c03976921", func := "retroact/retroactlaw24.PointKeeps", spec := "pointKeeps", inPlace := ["slices.overlaps[int]"], apart := false, narrowed := true }
def PointKeepsUptoSaid : Prop := pointKeepsUptoRow.holds Try.pinned (OpenSpec.upto pointKeepsSpec)

/-- 'retroactlaw24.PointSpread', WHERE WHAT IT READS IS OF BULK AT MOST 1048576: true; the input reads as it did. -/
def pointSpreadUptoRow : OpenClaim := { program := "ytieopidlbfjhnaa", sum := "ae9e2c83a9d3bee5fc34c584a95923b531918fb6bc6b0cfccf9ad23c03976921", func := "retroact/retroactlaw24.PointSpread", spec := "pointSpread", inPlace := ["slices.overlaps[int]"], apart := false, narrowed := true }
def PointSpreadUptoSaid : Prop := pointSpreadUptoRow.holds Try.pinned (OpenSpec.upto pointSpreadSpec)

/-- 'retroactlaw24.PointOrder', WHERE WHAT IT READS IS OF BULK AT MOST 1048576: true; the input reads as it did. -/
def pointOrderUptoRow : OpenClaim := { program := "ytieopidlbfjhnaa", sum := "ae9e2c83a9d3bee5fc34c584a95923b531918fb6bc6b0cfccf9ad23c03976921", func := "retroact/retroactlaw24.PointOrder", spec := "pointOrder", inPlace := ["slices.overlaps[int]"], apart := false, narrowed := true }
def PointOrderUptoSaid : Prop := pointOrderUptoRow.holds Try.pinned (OpenSpec.upto pointOrderSpec)

end Rows
end Go.Proofs.Ytieopidlbfjhnaa
