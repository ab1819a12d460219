/-
  NARROWER THAN 'FOR EVERY INPUT', by the rows' own cells (each row's printed sentence says how): TypesShows: loops · TypesBack: loops.
  DERIVED. THE GIVEN ROWS OF THIS SEAT. 3 by the template 'for every input the law returns true; each argument reads behind the call as it read before'; 0 by the template 'total and deterministic' (their statements: YtjdpocmlimkjjaaGreatTotals.lean).
  GIVEN WITH THE SEED: the statements are not yours to turn. If you find one false, say at which input.
  Laid BY PROGRAM, IN A SANDBOX (cutbox-rows.mjs): the forced cells as the released guide's own fill.sh prints them over the translation 9d88a8fdf37fcdd0… (all of the seat's roots in one cut). By AI agents, Wed Nov 11 2026. No macro, syntax, notation, axiom, sorry.
-/
import Derived.Test.YtjdpocmlimkjjaaGreatChecked
import GoSem.Claim
import GoSem.ClaimJoined
import GoSem.ClaimMapViews
import Derived.JoinedTies
import Derived.KernelRfl
namespace Go.Proofs.YtjdpocmlimkjjaaGreat
/- THE CELL 'sum', in the pinned program and in every row, IS THE sha256 OF THE DUMP (.gsa) THAT YtjdpocmlimkjjaaGreatProg.lean LOADS. Nothing in Lean hashes anything: it is a label: what it is worth is what the hold of that sum in a sandbox is worth. -/
noncomputable def Tryz.pinned : Pinned := { name := "ytjdpocmlimkjjaagreat", sum := "9d88a8fdf37fcdd06be35adb183c7ccbfa0a9573f3ef5241645cec2b57f7d59b", checked := Tryz.checked }
namespace Rows
def none {H : Type} : Left H := { results := [], args := [] }

/-- 'retroactlaw09.TypesClosed': WHATEVER THE INPUT: true; the input reads as it did. -/
def typesClosedSpec : ChangeSpec := { name := "typesClosed", fn := fun _ => fun
  | [d] => { results := [.lit (.bool true)], args := [d] }
  | _ => none }
def typesClosedRow : OpenClaim := { program := "ytjdpocmlimkjjaagreat", sum := "9d88a8fdf37fcdd06be35adb183c7ccbfa0a9573f3ef5241645cec2b57f7d59b", func := "retroact/retroactlaw09.TypesClosed", spec := "typesClosed", inPlace := ["internal/abi.NoEscape"], unfollowed := true, recurses := true, apart := false }
def TypesClosedSaid : Prop := typesClosedRow.holds Tryz.pinned (OpenSpec.ofChange typesClosedSpec)

/-- ITS FALSE NEIGHBOUR: 'it returns false'. Refute it at one input. -/
def typesClosedWrong : ChangeSpec := { name := "typesClosed", fn := fun _ => fun
  | [d] => { results := [.lit (.bool false)], args := [d] }
  | _ => none }
def TypesClosedWrongFalsely : Prop := typesClosedRow.holds Tryz.pinned (OpenSpec.ofChange typesClosedWrong)

/-- 'retroactlaw09.TypesShows': WHATEVER THE INPUT: true; the input reads as it did. -/
def typesShowsSpec : ChangeSpec := { name := "typesShows", fn := fun _ => fun
  | [d1, d2, d3, d4, d5, d6] => { results := [.lit (.bool true)], args := [d1, d2, d3, d4, d5, d6] }
  | _ => none }
def typesShowsRow : OpenClaim := { program := "ytjdpocmlimkjjaagreat", sum := "9d88a8fdf37fcdd06be35adb183c7ccbfa0a9573f3ef5241645cec2b57f7d59b", func := "retroact/retroactlaw09.TypesShows", spec := "typesShows", inPlace := ["internal/abi.NoEscape"], unfollowed := true, recurses := true, loops := true, apart := false }
def TypesShowsSaid : Prop := typesShowsRow.holds Tryz.pinned (OpenSpec.ofChange typesShowsSpec)

/-- ITS FALSE NEIGHBOUR: 'it returns false'. Refute it at one input. -/
def typesShowsWrong : ChangeSpec := { name := "typesShows", fn := fun _ => fun
  | [d1, d2, d3, d4, d5, d6] => { results := [.lit (.bool false)], args := [d1, d2, d3, d4, d5, d6] }
  | _ => none }
def TypesShowsWrongFalsely : Prop := typesShowsRow.holds Tryz.pinned (OpenSpec.ofChange typesShowsWrong)

/-- 'retroactlaw09.TypesBack': WHATEVER THE INPUT: true; the input reads as it did. -/
def typesBackSpec : ChangeSpec := { name := "typesBack", fn := fun _ => fun
  | [d] => { results := [.lit (.bool true)], args := [d] }
  | _ => none }
def typesBackRow : OpenClaim := { program := "ytjdpocmlimkjjaagreat", sum := "9d88a8fdf37fcdd06be35adb183c7ccbfa0a9573f3ef5241645cec2b57f7d59b", func := "retroact/retroactlaw09.TypesBack", spec := "typesBack", inPlace := ["internal/abi.NoEscape"], unfollowed := true, recurses := true, loops := true, apart := false }
def TypesBackSaid : Prop := typesBackRow.holds Tryz.pinned (OpenSpec.ofChange typesBackSpec)

/-- ITS FALSE NEIGHBOUR: 'it returns false'. Refute it at one input. -/
def typesBackWrong : ChangeSpec := { name := "typesBack", fn := fun _ => fun
  | [d] => { results := [.lit (.bool false)], args := [d] }
  | _ => none }
def TypesBackWrongFalsely : Prop := typesBackRow.holds Tryz.pinned (OpenSpec.ofChange typesBackWrong)

/- THE SECOND FORM. 'bulk': how many values and letters a reading holds, each counted each time it is reached (what is shared counts as often as it is met; a slice's spare places count too). A statement '..UptoSaid' is the law's where the arguments, and the package variables that the reading takes, are together of bulk at most 1048576: NARROWER than '..Said'. Prove '..Said' where nothing that the law and all that it calls make is longer than what came in: it says more and counts as full. Else prove '..UptoSaid'. A law counts once. -/
mutual
def uptoBulk {H : Type} : DataW H → Nat
  | .lit (.string bytes) => bytes.length + 1
  | .lit _ => 1
  | .nil => 1
  | .ptr d => uptoBulk d + 1
  | .slice elems spare => uptoBulkAll elems + uptoBulkAll spare + 1
  | .agg parts => uptoBulkAll parts + 1
  | .iface _ d => uptoBulk d + 1
  | .map entries => uptoBulkEntries entries + 1
  | .held _ => 1
def uptoBulkAll {H : Type} : List (DataW H) → Nat
  | [] => 0
  | d :: r => uptoBulk d + uptoBulkAll r
def uptoBulkEntries {H : Type} : List (Lit × DataW H) → Nat
  | [] => 0
  | x :: r => uptoBulkEntry x + uptoBulkEntries r
def uptoBulkEntry {H : Type} : Lit × DataW H → Nat
  | (.string bytes, d) => bytes.length + uptoBulk d + 1
  | (_, d) => uptoBulk d + 1
 end
def uptoSmall : (H : Type) → List (DataW H) → Bool := fun _ ds => decide (uptoBulkAll ds ≤ 1048576)
def OpenSpec.upto (s : _root_.Go.ChangeSpec) : _root_.Go.OpenSpec := { _root_.Go.OpenSpec.ofChange s with cond := some uptoSmall }

/-- 'retroactlaw09.TypesClosed', WHERE WHAT IT READS IS OF BULK AT MOST 1048576: true; the input reads as it did. -/
def typesClosedUptoRow : OpenClaim := { program := "ytjdpocmlimkjjaagreat", sum := "9d88a8fdf37fcdd06be35adb183c7ccbfa0a9573f3ef5241645cec2b57f7d59b", func := "retroact/retroactlaw09.TypesClosed", spec := "typesClosed", inPlace := ["internal/abi.NoEscape"], unfollowed := true, recurses := true, apart := false, narrowed := true }
def TypesClosedUptoSaid : Prop := typesClosedUptoRow.holds Tryz.pinned (OpenSpec.upto typesClosedSpec)

/-- 'retroactlaw09.TypesShows', WHERE WHAT IT READS IS OF BULK AT MOST 1048576: true; the input reads as it did. -/
def typesShowsUptoRow : OpenClaim := { program := "ytjdpocmlimkjjaagreat", sum := "9d88a8fdf37fcdd06be35adb183c7ccbfa0a9573f3ef5241645cec2b57f7d59b", func := "retroact/retroactlaw09.TypesShows", spec := "typesShows", inPlace := ["internal/abi.NoEscape"], unfollowed := true, recurses := true, loops := true, apart := false, narrowed := true }
def TypesShowsUptoSaid : Prop := typesShowsUptoRow.holds Tryz.pinned (OpenSpec.upto typesShowsSpec)

/-- 'retroactlaw09.TypesBack', WHERE WHAT IT READS IS OF BULK AT MOST 1048576: true; the input reads as it did. -/
def typesBackUptoRow : OpenClaim := { program := "ytjdpocmlimkjjaagreat", sum := "9d88a8fdf37fcdd06be35adb183c7ccbfa0a9573f3ef5241645cec2b57f7d59b", func := "retroact/retroactlaw09.TypesBack", spec := "typesBack", inPlace := ["internal/abi.NoEscape"], unfollowed := true, recurses := true, loops := true, apart := false, narrowed := true }
def TypesBackUptoSaid : Prop := typesBackUptoRow.holds Tryz.pinned (OpenSpec.upto typesBackSpec)

end Rows
end Go.Proofs.YtjdpocmlimkjjaaGreat
