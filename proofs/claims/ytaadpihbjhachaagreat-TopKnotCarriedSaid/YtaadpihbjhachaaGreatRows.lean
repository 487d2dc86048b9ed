/-
  No cell of these rows narrows 'for every input' (looked for: loops, veiled, ifaces, maps, wideKeys, modest, calm, conditions, laid).
  DERIVED. THE GIVEN ROWS OF THIS SEAT. 6 by the template 'for every input the law returns true; each argument reads behind the call as it read before'; 0 by the template 'total and deterministic' (their statements: YtaadpihbjhachaaGreatTotals.lean).
  GIVEN WITH THE SEED: the statements are not yours to turn. If you find one false, say at which input.
  Laid BY PROGRAM, IN A SANDBOX (cutbox-rows.mjs): the forced cells as the released guide's own fill.sh prints them over the translation 8abe3788ea3443bf… (all of the seat's roots in one cut). By AI agents, Wed Nov 11 2026. No macro, syntax, notation, axiom, sorry.
-/
import Derived.Test.YtaadpihbjhachaaGreatChecked
import GoSem.Claim
import GoSem.ClaimJoined
import GoSem.ClaimMapViews
import Derived.JoinedTies
import Derived.KernelRfl
namespace Go.Proofs.YtaadpihbjhachaaGreat
/- THE CELL 'sum', in the pinned program and in every row, IS THE sha256 OF THE DUMP (.gsa) THAT YtaadpihbjhachaaGreatProg.lean LOADS. Nothing in Lean hashes anything: it is a label: what it is worth is what the hold of that sum in a sandbox is worth. -/
noncomputable def Tryz.pinned : Pinned := { name := "ytaadpihbjhachaagreat", sum := "8abe3788ea3443bf25dae9432613100ab6ef432ba447c95e9627dd27341158e3", checked := Tryz.checked }
namespace Rows
def none {H : Type} : Left H := { results := [], args := [] }

/-- 'talismanlaw06.FillMoves': WHATEVER THE INPUT: true; the input reads as it did. -/
def fillMovesSpec : ChangeSpec := { name := "fillMoves", fn := fun _ => fun
  | [d1, d2] => { results := [.lit (.bool true)], args := [d1, d2] }
  | _ => none }
def fillMovesRow : OpenClaim := { program := "ytaadpihbjhachaagreat", sum := "8abe3788ea3443bf25dae9432613100ab6ef432ba447c95e9627dd27341158e3", func := "talisman/talismanlaw06.FillMoves", spec := "fillMoves", unfollowed := true, recurses := true, apart := false }
def FillMovesSaid : Prop := fillMovesRow.holds Tryz.pinned (OpenSpec.ofChange fillMovesSpec)

/-- ITS FALSE NEIGHBOUR: 'it returns false'. Refute it at one input. -/
def fillMovesWrong : ChangeSpec := { name := "fillMoves", fn := fun _ => fun
  | [d1, d2] => { results := [.lit (.bool false)], args := [d1, d2] }
  | _ => none }
def FillMovesWrongFalsely : Prop := fillMovesRow.holds Tryz.pinned (OpenSpec.ofChange fillMovesWrong)

/-- 'talismantop.TopKnotShared': WHATEVER THE INPUT: true; the input reads as it did. -/
def topKnotSharedSpec : ChangeSpec := { name := "topKnotShared", fn := fun _ => fun
  | [d1, d2] => { results := [.lit (.bool true)], args := [d1, d2] }
  | _ => none }
def topKnotSharedRow : OpenClaim := { program := "ytaadpihbjhachaagreat", sum := "8abe3788ea3443bf25dae9432613100ab6ef432ba447c95e9627dd27341158e3", func := "talisman/talismantop.TopKnotShared", spec := "topKnotShared", unfollowed := true, recurses := true, apart := false }
def TopKnotSharedSaid : Prop := topKnotSharedRow.holds Tryz.pinned (OpenSpec.ofChange topKnotSharedSpec)

/-- ITS FALSE NEIGHBOUR: 'it returns false'. Refute it at one input. -/
def topKnotSharedWrong : ChangeSpec := { name := "topKnotShared", fn := fun _ => fun
  | [d1, d2] => { results := [.lit (.bool false)], args := [d1, d2] }
  | _ => none }
def TopKnotSharedWrongFalsely : Prop := topKnotSharedRow.holds Tryz.pinned (OpenSpec.ofChange topKnotSharedWrong)

/-- 'talismantop.TopKnotNarrowed': WHATEVER THE INPUT: true; the input reads as it did. -/
def topKnotNarrowedSpec : ChangeSpec := { name := "topKnotNarrowed", fn := fun _ => fun
  | [d1, d2] => { results := [.lit (.bool true)], args := [d1, d2] }
  | _ => none }
def topKnotNarrowedRow : OpenClaim := { program := "ytaadpihbjhachaagreat", sum := "8abe3788ea3443bf25dae9432613100ab6ef432ba447c95e9627dd27341158e3", func := "talisman/talismantop.TopKnotNarrowed", spec := "topKnotNarrowed", unfollowed := true, recurses := true, apart := false }
def TopKnotNarrowedSaid : Prop := topKnotNarrowedRow.holds Tryz.pinned (OpenSpec.ofChange topKnotNarrowedSpec)

/-- ITS FALSE NEIGHBOUR: 'it returns false'. Refute it at one input. -/
def topKnotNarrowedWrong : ChangeSpec := { name := "topKnotNarrowed", fn := fun _ => fun
  | [d1, d2] => { results := [.lit (.bool false)], args := [d1, d2] }
  | _ => none }
def TopKnotNarrowedWrongFalsely : Prop := topKnotNarrowedRow.holds Tryz.pinned (OpenSpec.ofChange topKnotNarrowedWrong)

/-- 'talismantop.TopKnotCarried': WHATEVER THE INPUT: true; the input reads as it did. -/
def topKnotCarriedSpec : ChangeSpec := { name := "topKnotCarried", fn := fun _ => fun
  | [d1, d2] => { results := [.lit (.bool true)], args := [d1, d2] }
  | _ => none }
def topKnotCarriedRow : OpenClaim := { program := "ytaadpihbjhachaagreat", sum := "8abe3788ea3443bf25dae9432613100ab6ef432ba447c95e9627dd27341158e3", func := "talisman/talismantop.TopKnotCarried", spec := "topKnotCarried", unfollowed := true, recurses := true, apart := false }
def TopKnotCarriedSaid : Prop := topKnotCarriedRow.holds Tryz.pinned (OpenSpec.ofChange topKnotCarriedSpec)

/-- ITS FALSE NEIGHBOUR: 'it returns false'. Refute it at one input. -/
def topKnotCarriedWrong : ChangeSpec := { name := "topKnotCarried", fn := fun _ => fun
  | [d1, d2] => { results := [.lit (.bool false)], args := [d1, d2] }
  | _ => none }
def TopKnotCarriedWrongFalsely : Prop := topKnotCarriedRow.holds Tryz.pinned (OpenSpec.ofChange topKnotCarriedWrong)

/-- 'talismantop.TopCharmClasses': WHATEVER THE INPUT: true; the input reads as it did. -/
def topCharmClassesSpec : ChangeSpec := { name := "topCharmClasses", fn := fun _ => fun
  | [d1, d2] => { results := [.lit (.bool true)], args := [d1, d2] }
  | _ => none }
def topCharmClassesRow : OpenClaim := { program := "ytaadpihbjhachaagreat", sum := "8abe3788ea3443bf25dae9432613100ab6ef432ba447c95e9627dd27341158e3", func := "talisman/talismantop.TopCharmClasses", spec := "topCharmClasses", unfollowed := true, recurses := true, apart := false }
def TopCharmClassesSaid : Prop := topCharmClassesRow.holds Tryz.pinned (OpenSpec.ofChange topCharmClassesSpec)

/-- ITS FALSE NEIGHBOUR: 'it returns false'. Refute it at one input. -/
def topCharmClassesWrong : ChangeSpec := { name := "topCharmClasses", fn := fun _ => fun
  | [d1, d2] => { results := [.lit (.bool false)], args := [d1, d2] }
  | _ => none }
def TopCharmClassesWrongFalsely : Prop := topCharmClassesRow.holds Tryz.pinned (OpenSpec.ofChange topCharmClassesWrong)

/-- 'talismantop.TopCharmAntimagic': WHATEVER THE INPUT: true; the input reads as it did. -/
def topCharmAntimagicSpec : ChangeSpec := { name := "topCharmAntimagic", fn := fun _ => fun
  | [d] => { results := [.lit (.bool true)], args := [d] }
  | _ => none }
def topCharmAntimagicRow : OpenClaim := { program := "ytaadpihbjhachaagreat", sum := "8abe3788ea3443bf25dae9432613100ab6ef432ba447c95e9627dd27341158e3", func := "talisman/talismantop.TopCharmAntimagic", spec := "topCharmAntimagic", unfollowed := true, recurses := true, apart := false }
def TopCharmAntimagicSaid : Prop := topCharmAntimagicRow.holds Tryz.pinned (OpenSpec.ofChange topCharmAntimagicSpec)

/-- ITS FALSE NEIGHBOUR: 'it returns false'. Refute it at one input. -/
def topCharmAntimagicWrong : ChangeSpec := { name := "topCharmAntimagic", fn := fun _ => fun
  | [d] => { results := [.lit (.bool false)], args := [d] }
  | _ => none }
def TopCharmAntimagicWrongFalsely : Prop := topCharmAntimagicRow.holds Tryz.pinned (OpenSpec.ofChange topCharmAntimagicWrong)

/- THE SECOND FORM. 'bulk': how many values and letters a reading holds, each counted each time it is reached (what is shared counts as often as it is met; a slice's spare places count too). A statement '..UptoSaid' is the law's where the arguments, and the package variables that the reading takes, are together of bulk at most 1048576: NARROWER than '..Said'. Prove '..Said' where nothing that the law and all that it calls make is longer than what came in: it says more and counts as full. Else prove '..UptoSaid'. A law counts once. -/
mutual
def uptoBulk {H : Type} : DataW H → Nat
  | .lit (.string bytes) => bytes.length + 1
  | .lit _ => 1
  | .nil => 1
  | .ptr d => uptoBulk d + 1
  | .slice elems spare => uptoBulkAll elems + uptoBulkAll spare + 1
  | .agg parts => uptoBulkAll parts + 1
  | .iface _ d => uptoBulk d + 1
  | .map entries => uptoBulkEntries entries + 1
  | .held _ => 1
def uptoBulkAll {H : Type} : List (DataW H) → Nat
  | [] => 0
  | d :: r => uptoBulk d + uptoBulkAll r
def uptoBulkEntries {H : Type} : List (Lit × DataW H) → Nat
  | [] => 0
  | x :: r => uptoBulkEntry x + uptoBulkEntries r
def uptoBulkEntry {H : Type} : Lit × DataW H → Nat
  | (.string bytes, d) => bytes.length + uptoBulk d + 1
  | (_, d) => uptoBulk d + 1
 end
def uptoSmall : (H : Type) → List (DataW H) → Bool := fun _ ds => decide (uptoBulkAll ds ≤ 1048576)
def OpenSpec.upto (s : _root_.Go.ChangeSpec) : _root_.Go.OpenSpec := { _root_.Go.OpenSpec.ofChange s with cond := some uptoSmall }

/-- 'talismanlaw06.FillMoves', WHERE WHAT IT READS IS OF BULK AT MOST 1048576: true; the input reads as it did. -/
def fillMovesUptoRow : OpenClaim := { program := "ytaadpihbjhachaagreat", sum := "8abe3788ea3443bf25dae9432613100ab6ef432ba447c95e9627dd27341158e3", func := "talisman/talismanlaw06.FillMoves", spec := "fillMoves", unfollowed := true, recurses := true, apart := false, narrowed := true }
def FillMovesUptoSaid : Prop := fillMovesUptoRow.holds Tryz.pinned (OpenSpec.upto fillMovesSpec)

/-- 'talismantop.TopKnotShared', WHERE WHAT IT READS IS OF BULK AT MOST 1048576: true; the input reads as it did. -/
def topKnotSharedUptoRow : OpenClaim := { program := "ytaadpihbjhachaagreat", sum := "8abe3788ea3443bf25dae9432613100ab6ef432ba447c95e9627dd27341158e3", func := "talisman/talismantop.TopKnotShared", spec := "topKnotShared", unfollowed := true, recurses := true, apart := false, narrowed := true }
def TopKnotSharedUptoSaid : Prop := topKnotSharedUptoRow.holds Tryz.pinned (OpenSpec.upto topKnotSharedSpec)

/-- 'talismantop.TopKnotNarrowed', WHERE WHAT IT READS IS OF BULK AT MOST 1048576: true; the input reads as it did. -/
def topKnotNarrowedUptoRow : OpenClaim := { program := "ytaadpihbjhachaagreat", sum := "8abe3788ea3443bf25dae9432613100ab6ef432ba447c95e9627dd27341158e3", func := "talisman/talismantop.TopKnotNarrowed", spec := "topKnotNarrowed", unfollowed := true, recurses := true, apart := false, narrowed := true }
def TopKnotNarrowedUptoSaid : Prop := topKnotNarrowedUptoRow.holds Tryz.pinned (OpenSpec.upto topKnotNarrowedSpec)

/-- 'talismantop.TopKnotCarried', WHERE WHAT IT READS IS OF BULK AT MOST 1048576: true; the input reads as it did. -/
def topKnotCarriedUptoRow : OpenClaim := { program := "ytaadpihbjhachaagreat", sum := "8abe3788ea3443bf25dae9432613100ab6ef432ba447c95e9627dd27341158e3", func := "talisman/talismantop.TopKnotCarried", spec := "topKnotCarried", unfollowed := true, recurses := true, apart := false, narrowed := true }
def TopKnotCarriedUptoSaid : Prop := topKnotCarriedUptoRow.holds Tryz.pinned (OpenSpec.upto topKnotCarriedSpec)

/-- 'talismantop.TopCharmClasses', WHERE WHAT IT READS IS OF BULK AT MOST 1048576: true; the input reads as it did. -/
def topCharmClassesUptoRow : OpenClaim := { program := "ytaadpihbjhachaagreat", sum := "8abe3788ea3443bf25dae9432613100ab6ef432ba447c95e9627dd27341158e3", func := "talisman/talismantop.TopCharmClasses", spec := "topCharmClasses", unfollowed := true, recurses := true, apart := false, narrowed := true }
def TopCharmClassesUptoSaid : Prop := topCharmClassesUptoRow.holds Tryz.pinned (OpenSpec.upto topCharmClassesSpec)

/-- 'talismantop.TopCharmAntimagic', WHERE WHAT IT READS IS OF BULK AT MOST 1048576: true; the input reads as it did. -/
def topCharmAntimagicUptoRow : OpenClaim := { program := "ytaadpihbjhachaagreat", sum := "8abe3788ea3443bf25dae9432613100ab6ef432ba447c95e9627dd27341158e3", func := "talisman/talismantop.TopCharmAntimagic", spec := "topCharmAntimagic", unfollowed := true, recurses := true, apart := false, narrowed := true }
def TopCharmAntimagicUptoSaid : Prop := topCharmAntimagicUptoRow.holds Tryz.pinned (OpenSpec.upto topCharmAntimagicSpec)

end Rows
end Go.Proofs.YtaadpihbjhachaaGreat
