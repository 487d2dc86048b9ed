/-
  No cell of these rows narrows 'for every input' (looked for: loops, veiled, ifaces, maps, wideKeys, modest, calm, conditions, laid).
  DERIVED. THE GIVEN ROWS OF THIS SEAT. 11 by the template 'for every input the law returns true; each argument reads behind the call as it read before'; 0 by the template 'total and deterministic' (their statements: YtcblpobiefmjmaaGreatTotals.lean).
  GIVEN WITH THE SEED: the statements are not yours to turn. If you find one false, say at which input.
  Laid BY PROGRAM, IN A SANDBOX (cutbox-rows.mjs): the forced cells as the released guide's own fill.sh prints them over the translation cc1d79876d828d9b… (all of the seat's roots in one cut). By AI agents, Wed Nov 11 2026. No macro, syntax, notation, axiom, sorry.
-/
import Derived.Test.YtcblpobiefmjmaaGreatChecked
import GoSem.Claim
import GoSem.ClaimJoined
import GoSem.ClaimMapViews
import Derived.JoinedTies
import Derived.KernelRfl
namespace Go.Proofs.YtcblpobiefmjmaaGreat
/- THE CELL 'sum', in the pinned program and in every row, IS THE sha256 OF THE DUMP (.gsa) THAT YtcblpobiefmjmaaGreatProg.lean LOADS. Nothing in Lean hashes anything: it is a label: what it is worth is what the hold of that sum in a sandbox is worth. -/
noncomputable def Tryz.pinned : Pinned := { name := "ytcblpobiefmjmaagreat", sum := "cc1d79876d828d9bc956946ee66e4193db12d13bda9b294830218bca3def7f25", checked := Tryz.checked }
namespace Rows
def none {H : Type} : Left H := { results := [], args := [] }

/-- 'talismanlaw06.FillRefutes': WHATEVER THE INPUT: true; the input reads as it did. -/
def fillRefutesSpec : ChangeSpec := { name := "fillRefutes", fn := fun _ => fun
  | [d] => { results := [.lit (.bool true)], args := [d] }
  | _ => none }
def fillRefutesRow : OpenClaim := { program := "ytcblpobiefmjmaagreat", sum := "cc1d79876d828d9bc956946ee66e4193db12d13bda9b294830218bca3def7f25", func := "talisman/talismanlaw06.FillRefutes", spec := "fillRefutes", unfollowed := true, recurses := true, apart := false }
def FillRefutesSaid : Prop := fillRefutesRow.holds Tryz.pinned (OpenSpec.ofChange fillRefutesSpec)

/-- ITS FALSE NEIGHBOUR: 'it returns false'. Refute it at one input. -/
def fillRefutesWrong : ChangeSpec := { name := "fillRefutes", fn := fun _ => fun
  | [d] => { results := [.lit (.bool false)], args := [d] }
  | _ => none }
def FillRefutesWrongFalsely : Prop := fillRefutesRow.holds Tryz.pinned (OpenSpec.ofChange fillRefutesWrong)

/-- 'talismanlaw06.FillProofs': WHATEVER THE INPUT: true; the input reads as it did. -/
def fillProofsSpec : ChangeSpec := { name := "fillProofs", fn := fun _ => fun
  | [d1, d2] => { results := [.lit (.bool true)], args := [d1, d2] }
  | _ => none }
def fillProofsRow : OpenClaim := { program := "ytcblpobiefmjmaagreat", sum := "cc1d79876d828d9bc956946ee66e4193db12d13bda9b294830218bca3def7f25", func := "talisman/talismanlaw06.FillProofs", spec := "fillProofs", unfollowed := true, recurses := true, apart := false }
def FillProofsSaid : Prop := fillProofsRow.holds Tryz.pinned (OpenSpec.ofChange fillProofsSpec)

/-- ITS FALSE NEIGHBOUR: 'it returns false'. Refute it at one input. -/
def fillProofsWrong : ChangeSpec := { name := "fillProofs", fn := fun _ => fun
  | [d1, d2] => { results := [.lit (.bool false)], args := [d1, d2] }
  | _ => none }
def FillProofsWrongFalsely : Prop := fillProofsRow.holds Tryz.pinned (OpenSpec.ofChange fillProofsWrong)

/-- 'talismanlaw06.FillRules': WHATEVER THE INPUT: true; the input reads as it did. -/
def fillRulesSpec : ChangeSpec := { name := "fillRules", fn := fun _ => fun
  | [d] => { results := [.lit (.bool true)], args := [d] }
  | _ => none }
def fillRulesRow : OpenClaim := { program := "ytcblpobiefmjmaagreat", sum := "cc1d79876d828d9bc956946ee66e4193db12d13bda9b294830218bca3def7f25", func := "talisman/talismanlaw06.FillRules", spec := "fillRules", unfollowed := true, recurses := true, apart := false }
def FillRulesSaid : Prop := fillRulesRow.holds Tryz.pinned (OpenSpec.ofChange fillRulesSpec)

/-- ITS FALSE NEIGHBOUR: 'it returns false'. Refute it at one input. -/
def fillRulesWrong : ChangeSpec := { name := "fillRules", fn := fun _ => fun
  | [d] => { results := [.lit (.bool false)], args := [d] }
  | _ => none }
def FillRulesWrongFalsely : Prop := fillRulesRow.holds Tryz.pinned (OpenSpec.ofChange fillRulesWrong)

/-- 'talismanlaw06.FillSolutions': WHATEVER THE INPUT: true; the input reads as it did. -/
def fillSolutionsSpec : ChangeSpec := { name := "fillSolutions", fn := fun _ => fun
  | [d1, d2] => { results := [.lit (.bool true)], args := [d1, d2] }
  | _ => none }
def fillSolutionsRow : OpenClaim := { program := "ytcblpobiefmjmaagreat", sum := "cc1d79876d828d9bc956946ee66e4193db12d13bda9b294830218bca3def7f25", func := "talisman/talismanlaw06.FillSolutions", spec := "fillSolutions", unfollowed := true, recurses := true, apart := false }
def FillSolutionsSaid : Prop := fillSolutionsRow.holds Tryz.pinned (OpenSpec.ofChange fillSolutionsSpec)

/-- ITS FALSE NEIGHBOUR: 'it returns false'. Refute it at one input. -/
def fillSolutionsWrong : ChangeSpec := { name := "fillSolutions", fn := fun _ => fun
  | [d1, d2] => { results := [.lit (.bool false)], args := [d1, d2] }
  | _ => none }
def FillSolutionsWrongFalsely : Prop := fillSolutionsRow.holds Tryz.pinned (OpenSpec.ofChange fillSolutionsWrong)

/-- 'talismanlaw06.FillKeeps': WHATEVER THE INPUT: true; the input reads as it did. -/
def fillKeepsSpec : ChangeSpec := { name := "fillKeeps", fn := fun _ => fun
  | [d] => { results := [.lit (.bool true)], args := [d] }
  | _ => none }
def fillKeepsRow : OpenClaim := { program := "ytcblpobiefmjmaagreat", sum := "cc1d79876d828d9bc956946ee66e4193db12d13bda9b294830218bca3def7f25", func := "talisman/talismanlaw06.FillKeeps", spec := "fillKeeps", unfollowed := true, recurses := true, apart := false }
def FillKeepsSaid : Prop := fillKeepsRow.holds Tryz.pinned (OpenSpec.ofChange fillKeepsSpec)

/-- ITS FALSE NEIGHBOUR: 'it returns false'. Refute it at one input. -/
def fillKeepsWrong : ChangeSpec := { name := "fillKeeps", fn := fun _ => fun
  | [d] => { results := [.lit (.bool false)], args := [d] }
  | _ => none }
def FillKeepsWrongFalsely : Prop := fillKeepsRow.holds Tryz.pinned (OpenSpec.ofChange fillKeepsWrong)

/-- 'talismanlaw06.FillEither': WHATEVER THE INPUT: true; the input reads as it did. -/
def fillEitherSpec : ChangeSpec := { name := "fillEither", fn := fun _ => fun
  | [d1, d2, d3] => { results := [.lit (.bool true)], args := [d1, d2, d3] }
  | _ => none }
def fillEitherRow : OpenClaim := { program := "ytcblpobiefmjmaagreat", sum := "cc1d79876d828d9bc956946ee66e4193db12d13bda9b294830218bca3def7f25", func := "talisman/talismanlaw06.FillEither", spec := "fillEither", unfollowed := true, recurses := true, apart := false }
def FillEitherSaid : Prop := fillEitherRow.holds Tryz.pinned (OpenSpec.ofChange fillEitherSpec)

/-- ITS FALSE NEIGHBOUR: 'it returns false'. Refute it at one input. -/
def fillEitherWrong : ChangeSpec := { name := "fillEither", fn := fun _ => fun
  | [d1, d2, d3] => { results := [.lit (.bool false)], args := [d1, d2, d3] }
  | _ => none }
def FillEitherWrongFalsely : Prop := fillEitherRow.holds Tryz.pinned (OpenSpec.ofChange fillEitherWrong)

/-- 'talismanlaw06.FillSearches': WHATEVER THE INPUT: true; the input reads as it did. -/
def fillSearchesSpec : ChangeSpec := { name := "fillSearches", fn := fun _ => fun
  | [d1, d2, d3] => { results := [.lit (.bool true)], args := [d1, d2, d3] }
  | _ => none }
def fillSearchesRow : OpenClaim := { program := "ytcblpobiefmjmaagreat", sum := "cc1d79876d828d9bc956946ee66e4193db12d13bda9b294830218bca3def7f25", func := "talisman/talismanlaw06.FillSearches", spec := "fillSearches", unfollowed := true, recurses := true, apart := false }
def FillSearchesSaid : Prop := fillSearchesRow.holds Tryz.pinned (OpenSpec.ofChange fillSearchesSpec)

/-- ITS FALSE NEIGHBOUR: 'it returns false'. Refute it at one input. -/
def fillSearchesWrong : ChangeSpec := { name := "fillSearches", fn := fun _ => fun
  | [d1, d2, d3] => { results := [.lit (.bool false)], args := [d1, d2, d3] }
  | _ => none }
def FillSearchesWrongFalsely : Prop := fillSearchesRow.holds Tryz.pinned (OpenSpec.ofChange fillSearchesWrong)

/-- 'talismanlaw06.FillParts': WHATEVER THE INPUT: true; the input reads as it did. -/
def fillPartsSpec : ChangeSpec := { name := "fillParts", fn := fun _ => fun
  | [d1, d2] => { results := [.lit (.bool true)], args := [d1, d2] }
  | _ => none }
def fillPartsRow : OpenClaim := { program := "ytcblpobiefmjmaagreat", sum := "cc1d79876d828d9bc956946ee66e4193db12d13bda9b294830218bca3def7f25", func := "talisman/talismanlaw06.FillParts", spec := "fillParts", unfollowed := true, recurses := true, apart := false }
def FillPartsSaid : Prop := fillPartsRow.holds Tryz.pinned (OpenSpec.ofChange fillPartsSpec)

/-- ITS FALSE NEIGHBOUR: 'it returns false'. Refute it at one input. -/
def fillPartsWrong : ChangeSpec := { name := "fillParts", fn := fun _ => fun
  | [d1, d2] => { results := [.lit (.bool false)], args := [d1, d2] }
  | _ => none }
def FillPartsWrongFalsely : Prop := fillPartsRow.holds Tryz.pinned (OpenSpec.ofChange fillPartsWrong)

/-- 'talismanlaw06.FillUnique': WHATEVER THE INPUT: true; the input reads as it did. -/
def fillUniqueSpec : ChangeSpec := { name := "fillUnique", fn := fun _ => fun
  | [d] => { results := [.lit (.bool true)], args := [d] }
  | _ => none }
def fillUniqueRow : OpenClaim := { program := "ytcblpobiefmjmaagreat", sum := "cc1d79876d828d9bc956946ee66e4193db12d13bda9b294830218bca3def7f25", func := "talisman/talismanlaw06.FillUnique", spec := "fillUnique", unfollowed := true, recurses := true, apart := false }
def FillUniqueSaid : Prop := fillUniqueRow.holds Tryz.pinned (OpenSpec.ofChange fillUniqueSpec)

/-- ITS FALSE NEIGHBOUR: 'it returns false'. Refute it at one input. -/
def fillUniqueWrong : ChangeSpec := { name := "fillUnique", fn := fun _ => fun
  | [d] => { results := [.lit (.bool false)], args := [d] }
  | _ => none }
def FillUniqueWrongFalsely : Prop := fillUniqueRow.holds Tryz.pinned (OpenSpec.ofChange fillUniqueWrong)

/-- 'talismanlaw06.FillTasks': WHATEVER THE INPUT: true; the input reads as it did. -/
def fillTasksSpec : ChangeSpec := { name := "fillTasks", fn := fun _ => fun
  | [d1, d2, d3] => { results := [.lit (.bool true)], args := [d1, d2, d3] }
  | _ => none }
def fillTasksRow : OpenClaim := { program := "ytcblpobiefmjmaagreat", sum := "cc1d79876d828d9bc956946ee66e4193db12d13bda9b294830218bca3def7f25", func := "talisman/talismanlaw06.FillTasks", spec := "fillTasks", unfollowed := true, recurses := true, apart := false }
def FillTasksSaid : Prop := fillTasksRow.holds Tryz.pinned (OpenSpec.ofChange fillTasksSpec)

/-- ITS FALSE NEIGHBOUR: 'it returns false'. Refute it at one input. -/
def fillTasksWrong : ChangeSpec := { name := "fillTasks", fn := fun _ => fun
  | [d1, d2, d3] => { results := [.lit (.bool false)], args := [d1, d2, d3] }
  | _ => none }
def FillTasksWrongFalsely : Prop := fillTasksRow.holds Tryz.pinned (OpenSpec.ofChange fillTasksWrong)

/-- 'talismanlaw06.FillMoves': WHATEVER THE INPUT: true; the input reads as it did. -/
def fillMovesSpec : ChangeSpec := { name := "fillMoves", fn := fun _ => fun
  | [d1, d2] => { results := [.lit (.bool true)], args := [d1, d2] }
  | _ => none }
def fillMovesRow : OpenClaim := { program := "ytcblpobiefmjmaagreat", sum := "cc1d79876d828d9bc956946ee66e4193db12d13bda9b294830218bca3def7f25", func := "talisman/talismanlaw06.FillMoves", spec := "fillMoves", unfollowed := true, recurses := true, apart := false }
def FillMovesSaid : Prop := fillMovesRow.holds Tryz.pinned (OpenSpec.ofChange fillMovesSpec)

/-- ITS FALSE NEIGHBOUR: 'it returns false'. Refute it at one input. -/
def fillMovesWrong : ChangeSpec := { name := "fillMoves", fn := fun _ => fun
  | [d1, d2] => { results := [.lit (.bool false)], args := [d1, d2] }
  | _ => none }
def FillMovesWrongFalsely : Prop := fillMovesRow.holds Tryz.pinned (OpenSpec.ofChange fillMovesWrong)

/- THE SECOND FORM. 'bulk': how many values and letters a reading holds, each counted each time it is reached (what is shared counts as often as it is met; a slice's spare places count too). A statement '..UptoSaid' is the law's where the arguments, and the package variables that the reading takes, are together of bulk at most 1048576: NARROWER than '..Said'. Prove '..Said' where nothing that the law and all that it calls make is longer than what came in: it says more and counts as full. Else prove '..UptoSaid'. A law counts once. -/
mutual
def uptoBulk {H : Type} : DataW H → Nat
  | .lit (.string bytes) => bytes.length + 1
  | .lit _ => 1
  | .nil => 1
  | .ptr d => uptoBulk d + 1
  | .slice elems spare => uptoBulkAll elems + uptoBulkAll spare + 1
  | .agg parts => uptoBulkAll parts + 1
  | .iface _ d => uptoBulk d + 1
  | .map entries => uptoBulkEntries entries + 1
  | .held _ => 1
def uptoBulkAll {H : Type} : List (DataW H) → Nat
  | [] => 0
  | d :: r => uptoBulk d + uptoBulkAll r
def uptoBulkEntries {H : Type} : List (Lit × DataW H) → Nat
  | [] => 0
  | x :: r => uptoBulkEntry x + uptoBulkEntries r
def uptoBulkEntry {H : Type} : Lit × DataW H → Nat
  | (.string bytes, d) => bytes.length + uptoBulk d + 1
  | (_, d) => uptoBulk d + 1
 end
def uptoSmall : (H : Type) → List (DataW H) → Bool := fun _ ds => decide (uptoBulkAll ds ≤ 1048576)
def OpenSpec.upto (s : _root_.Go.ChangeSpec) : _root_.Go.OpenSpec := { _root_.Go.OpenSpec.ofChange s with cond := some uptoSmall }

/-- 'talismanlaw06.FillRefutes', WHERE WHAT IT READS IS OF BULK AT MOST 1048576: true; the input reads as it did. -/
def fillRefutesUptoRow : OpenClaim := { program := "ytcblpobiefmjmaagreat", sum := "cc1d79876d828d9bc956946ee66e4193db12d13bda9b294830218bca3def7f25", func := "talisman/talismanlaw06.FillRefutes", spec := "fillRefutes", unfollowed := true, recurses := true, apart := false, narrowed := true }
def FillRefutesUptoSaid : Prop := fillRefutesUptoRow.holds Tryz.pinned (OpenSpec.upto fillRefutesSpec)

/-- 'talismanlaw06.FillProofs', WHERE WHAT IT READS IS OF BULK AT MOST 1048576: true; the input reads as it did. -/
def fillProofsUptoRow : OpenClaim := { program := "ytcblpobiefmjmaagreat", sum := "cc1d79876d828d9bc956946ee66e4193db12d13bda9b294830218bca3def7f25", func := "talisman/talismanlaw06.FillProofs", spec := "fillProofs", unfollowed := true, recurses := true, apart := false, narrowed := true }
def FillProofsUptoSaid : Prop := fillProofsUptoRow.holds Tryz.pinned (OpenSpec.upto fillProofsSpec)

/-- 'talismanlaw06.FillRules', WHERE WHAT IT READS IS OF BULK AT MOST 1048576: true; the input reads as it did. -/
def fillRulesUptoRow : OpenClaim := { program := "ytcblpobiefmjmaagreat", sum := "cc1d79876d828d9bc956946ee66e4193db12d13bda9b294830218bca3def7f25", func := "talisman/talismanlaw06.FillRules", spec := "fillRules", unfollowed := true, recurses := true, apart := false, narrowed := true }
def FillRulesUptoSaid : Prop := fillRulesUptoRow.holds Tryz.pinned (OpenSpec.upto fillRulesSpec)

/-- 'talismanlaw06.FillSolutions', WHERE WHAT IT READS IS OF BULK AT MOST 1048576: true; the input reads as it did. -/
def fillSolutionsUptoRow : OpenClaim := { program := "ytcblpobiefmjmaagreat", sum := "cc1d79876d828d9bc956946ee66e4193db12d13bda9b294830218bca3def7f25", func := "talisman/talismanlaw06.FillSolutions", spec := "fillSolutions", unfollowed := true, recurses := true, apart := false, narrowed := true }
def FillSolutionsUptoSaid : Prop := fillSolutionsUptoRow.holds Tryz.pinned (OpenSpec.upto fillSolutionsSpec)

/-- 'talismanlaw06.FillKeeps', WHERE WHAT IT READS IS OF BULK AT MOST 1048576: true; the input reads as it did. -/
def fillKeepsUptoRow : OpenClaim := { program := "ytcblpobiefmjmaagreat", sum := "cc1d79876d828d9bc956946ee66e4193db12d13bda9b294830218bca3def7f25", func := "talisman/talismanlaw06.FillKeeps", spec := "fillKeeps", unfollowed := true, recurses := true, apart := false, narrowed := true }
def FillKeepsUptoSaid : Prop := fillKeepsUptoRow.holds Tryz.pinned (OpenSpec.upto fillKeepsSpec)

/-- 'talismanlaw06.FillEither', WHERE WHAT IT READS IS OF BULK AT MOST 1048576: true; the input reads as it did. -/
def fillEitherUptoRow : OpenClaim := { program := "ytcblpobiefmjmaagreat", sum := "cc1d79876d828d9bc956946ee66e4193db12d13bda9b294830218bca3def7f25", func := "talisman/talismanlaw06.FillEither", spec := "fillEither", unfollowed := true, recurses := true, apart := false, narrowed := true }
def FillEitherUptoSaid : Prop := fillEitherUptoRow.holds Tryz.pinned (OpenSpec.upto fillEitherSpec)

/-- 'talismanlaw06.FillSearches', WHERE WHAT IT READS IS OF BULK AT MOST 1048576: true; the input reads as it did. -/
def fillSearchesUptoRow : OpenClaim := { program := "ytcblpobiefmjmaagreat", sum := "cc1d79876d828d9bc956946ee66e4193db12d13bda9b294830218bca3def7f25", func := "talisman/talismanlaw06.FillSearches", spec := "fillSearches", unfollowed := true, recurses := true, apart := false, narrowed := true }
def FillSearchesUptoSaid : Prop := fillSearchesUptoRow.holds Tryz.pinned (OpenSpec.upto fillSearchesSpec)

/-- 'talismanlaw06.FillParts', WHERE WHAT IT READS IS OF BULK AT MOST 1048576: true; the input reads as it did. -/
def fillPartsUptoRow : OpenClaim := { program := "ytcblpobiefmjmaagreat", sum := "cc1d79876d828d9bc956946ee66e4193db12d13bda9b294830218bca3def7f25", func := "talisman/talismanlaw06.FillParts", spec := "fillParts", unfollowed := true, recurses := true, apart := false, narrowed := true }
def FillPartsUptoSaid : Prop := fillPartsUptoRow.holds Tryz.pinned (OpenSpec.upto fillPartsSpec)

/-- 'talismanlaw06.FillUnique', WHERE WHAT IT READS IS OF BULK AT MOST 1048576: true; the input reads as it did. -/
def fillUniqueUptoRow : OpenClaim := { program := "ytcblpobiefmjmaagreat", sum := "cc1d79876d828d9bc956946ee66e4193db12d13bda9b294830218bca3def7f25", func := "talisman/talismanlaw06.FillUnique", spec := "fillUnique", unfollowed := true, recurses := true, apart := false, narrowed := true }
def FillUniqueUptoSaid : Prop := fillUniqueUptoRow.holds Tryz.pinned (OpenSpec.upto fillUniqueSpec)

/-- 'talismanlaw06.FillTasks', WHERE WHAT IT READS IS OF BULK AT MOST 1048576: true; the input reads as it did. -/
def fillTasksUptoRow : OpenClaim := { program := "ytcblpobiefmjmaagreat", sum := "cc1d79876d828d9bc956946ee66e4193db12d13bda9b294830218bca3def7f25", func := "talisman/talismanlaw06.FillTasks", spec := "fillTasks", unfollowed := true, recurses := true, apart := false, narrowed := true }
def FillTasksUptoSaid : Prop := fillTasksUptoRow.holds Tryz.pinned (OpenSpec.upto fillTasksSpec)

/-- 'talismanlaw06.FillMoves', WHERE WHAT IT READS IS OF BULK AT MOST 1048576: true; the input reads as it did. -/
def fillMovesUptoRow : OpenClaim := { program := "ytcblpobiefmjmaagreat", sum := "cc1d79876d828d9bc956946ee66e4193db12d13bda9b294830218bca3def7f25", func := "talisman/talismanlaw06.FillMoves", spec := "fillMoves", unfollowed := true, recurses := true, apart := false, narrowed := true }
def FillMovesUptoSaid : Prop := fillMovesUptoRow.holds Tryz.pinned (OpenSpec.upto fillMovesSpec)

end Rows
end Go.Proofs.YtcblpobiefmjmaaGreat
