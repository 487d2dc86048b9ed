/-
  No cell of these rows narrows 'for every input' (looked for: loops, veiled, ifaces, maps, wideKeys, modest, calm, conditions, laid).
  DERIVED. THE GIVEN ROWS OF THIS SEAT. 16 by the template 'for every input the law returns true; each argument reads behind the call as it read before'; 0 by the template 'total and deterministic' (their statements: YtmfpdakaeagdpaaGreatTotals.lean).
  GIVEN WITH THE SEED: the statements are not yours to turn. If you find one false, say at which input.
  Laid BY PROGRAM, IN A SANDBOX (cutbox-rows.mjs): the forced cells as the released guide's own fill.sh prints them over the translation 2e820859da72ee9e… (all of the seat's roots in one cut). By AI agents, Wed Nov 11 2026. No macro, syntax, notation, axiom, sorry.
-/
import Derived.Test.YtmfpdakaeagdpaaGreatChecked
import GoSem.Claim
import GoSem.ClaimJoined
import GoSem.ClaimMapViews
import Derived.JoinedTies
import Derived.KernelRfl
namespace Go.Proofs.YtmfpdakaeagdpaaGreat
/- THE CELL 'sum', in the pinned program and in every row, IS THE sha256 OF THE DUMP (.gsa) THAT YtmfpdakaeagdpaaGreatProg.lean LOADS. Nothing in Lean hashes anything: it is a label: what it is worth is what the hold of that sum in a sandbox is worth. -/
noncomputable def Tryz.pinned : Pinned := { name := "ytmfpdakaeagdpaagreat", sum := "2e820859da72ee9e71902f0aec3dc9465908a073b97fbb0091e559e25e7e30f5", checked := Tryz.checked }
namespace Rows
def none {H : Type} : Left H := { results := [], args := [] }

/-- 'talismanlaw04.LatinMates': WHATEVER THE INPUT: true; the input reads as it did. -/
def latinMatesSpec : ChangeSpec := { name := "latinMates", fn := fun _ => fun
  | [d] => { results := [.lit (.bool true)], args := [d] }
  | _ => none }
def latinMatesRow : OpenClaim := { program := "ytmfpdakaeagdpaagreat", sum := "2e820859da72ee9e71902f0aec3dc9465908a073b97fbb0091e559e25e7e30f5", func := "talisman/talismanlaw04.LatinMates", spec := "latinMates", unfollowed := true, recurses := true, plainKeys := false, apart := false }
def LatinMatesSaid : Prop := latinMatesRow.holds Tryz.pinned (OpenSpec.ofChange latinMatesSpec)

/-- ITS FALSE NEIGHBOUR: 'it returns false'. Refute it at one input. -/
def latinMatesWrong : ChangeSpec := { name := "latinMates", fn := fun _ => fun
  | [d] => { results := [.lit (.bool false)], args := [d] }
  | _ => none }
def LatinMatesWrongFalsely : Prop := latinMatesRow.holds Tryz.pinned (OpenSpec.ofChange latinMatesWrong)

/-- 'talismanlaw04.LatinCompletes': WHATEVER THE INPUT: true; the input reads as it did. -/
def latinCompletesSpec : ChangeSpec := { name := "latinCompletes", fn := fun _ => fun
  | [d1, d2] => { results := [.lit (.bool true)], args := [d1, d2] }
  | _ => none }
def latinCompletesRow : OpenClaim := { program := "ytmfpdakaeagdpaagreat", sum := "2e820859da72ee9e71902f0aec3dc9465908a073b97fbb0091e559e25e7e30f5", func := "talisman/talismanlaw04.LatinCompletes", spec := "latinCompletes", unfollowed := true, recurses := true, plainKeys := false, apart := false }
def LatinCompletesSaid : Prop := latinCompletesRow.holds Tryz.pinned (OpenSpec.ofChange latinCompletesSpec)

/-- ITS FALSE NEIGHBOUR: 'it returns false'. Refute it at one input. -/
def latinCompletesWrong : ChangeSpec := { name := "latinCompletes", fn := fun _ => fun
  | [d1, d2] => { results := [.lit (.bool false)], args := [d1, d2] }
  | _ => none }
def LatinCompletesWrongFalsely : Prop := latinCompletesRow.holds Tryz.pinned (OpenSpec.ofChange latinCompletesWrong)

/-- 'talismanlaw04.LatinRepresents': WHATEVER THE INPUT: true; the input reads as it did. -/
def latinRepresentsSpec : ChangeSpec := { name := "latinRepresents", fn := fun _ => fun
  | [d1, d2] => { results := [.lit (.bool true)], args := [d1, d2] }
  | _ => none }
def latinRepresentsRow : OpenClaim := { program := "ytmfpdakaeagdpaagreat", sum := "2e820859da72ee9e71902f0aec3dc9465908a073b97fbb0091e559e25e7e30f5", func := "talisman/talismanlaw04.LatinRepresents", spec := "latinRepresents", unfollowed := true, recurses := true, plainKeys := false, apart := false }
def LatinRepresentsSaid : Prop := latinRepresentsRow.holds Tryz.pinned (OpenSpec.ofChange latinRepresentsSpec)

/-- ITS FALSE NEIGHBOUR: 'it returns false'. Refute it at one input. -/
def latinRepresentsWrong : ChangeSpec := { name := "latinRepresents", fn := fun _ => fun
  | [d1, d2] => { results := [.lit (.bool false)], args := [d1, d2] }
  | _ => none }
def LatinRepresentsWrongFalsely : Prop := latinRepresentsRow.holds Tryz.pinned (OpenSpec.ofChange latinRepresentsWrong)

/-- 'talismanlaw04.LatinExtends': WHATEVER THE INPUT: true; the input reads as it did. -/
def latinExtendsSpec : ChangeSpec := { name := "latinExtends", fn := fun _ => fun
  | [d] => { results := [.lit (.bool true)], args := [d] }
  | _ => none }
def latinExtendsRow : OpenClaim := { program := "ytmfpdakaeagdpaagreat", sum := "2e820859da72ee9e71902f0aec3dc9465908a073b97fbb0091e559e25e7e30f5", func := "talisman/talismanlaw04.LatinExtends", spec := "latinExtends", unfollowed := true, recurses := true, plainKeys := false, apart := false }
def LatinExtendsSaid : Prop := latinExtendsRow.holds Tryz.pinned (OpenSpec.ofChange latinExtendsSpec)

/-- ITS FALSE NEIGHBOUR: 'it returns false'. Refute it at one input. -/
def latinExtendsWrong : ChangeSpec := { name := "latinExtends", fn := fun _ => fun
  | [d] => { results := [.lit (.bool false)], args := [d] }
  | _ => none }
def LatinExtendsWrongFalsely : Prop := latinExtendsRow.holds Tryz.pinned (OpenSpec.ofChange latinExtendsWrong)

/-- 'talismanlaw04.LatinHall': WHATEVER THE INPUT: true; the input reads as it did. -/
def latinHallSpec : ChangeSpec := { name := "latinHall", fn := fun _ => fun
  | [d] => { results := [.lit (.bool true)], args := [d] }
  | _ => none }
def latinHallRow : OpenClaim := { program := "ytmfpdakaeagdpaagreat", sum := "2e820859da72ee9e71902f0aec3dc9465908a073b97fbb0091e559e25e7e30f5", func := "talisman/talismanlaw04.LatinHall", spec := "latinHall", unfollowed := true, recurses := true, plainKeys := false, apart := false }
def LatinHallSaid : Prop := latinHallRow.holds Tryz.pinned (OpenSpec.ofChange latinHallSpec)

/-- ITS FALSE NEIGHBOUR: 'it returns false'. Refute it at one input. -/
def latinHallWrong : ChangeSpec := { name := "latinHall", fn := fun _ => fun
  | [d] => { results := [.lit (.bool false)], args := [d] }
  | _ => none }
def LatinHallWrongFalsely : Prop := latinHallRow.holds Tryz.pinned (OpenSpec.ofChange latinHallWrong)

/-- 'talismanlaw04.LatinFills': WHATEVER THE INPUT: true; the input reads as it did. -/
def latinFillsSpec : ChangeSpec := { name := "latinFills", fn := fun _ => fun
  | [d1, d2] => { results := [.lit (.bool true)], args := [d1, d2] }
  | _ => none }
def latinFillsRow : OpenClaim := { program := "ytmfpdakaeagdpaagreat", sum := "2e820859da72ee9e71902f0aec3dc9465908a073b97fbb0091e559e25e7e30f5", func := "talisman/talismanlaw04.LatinFills", spec := "latinFills", unfollowed := true, recurses := true, plainKeys := false, apart := false }
def LatinFillsSaid : Prop := latinFillsRow.holds Tryz.pinned (OpenSpec.ofChange latinFillsSpec)

/-- ITS FALSE NEIGHBOUR: 'it returns false'. Refute it at one input. -/
def latinFillsWrong : ChangeSpec := { name := "latinFills", fn := fun _ => fun
  | [d1, d2] => { results := [.lit (.bool false)], args := [d1, d2] }
  | _ => none }
def LatinFillsWrongFalsely : Prop := latinFillsRow.holds Tryz.pinned (OpenSpec.ofChange latinFillsWrong)

/-- 'talismanlaw04.LatinMeets': WHATEVER THE INPUT: true; the input reads as it did. -/
def latinMeetsSpec : ChangeSpec := { name := "latinMeets", fn := fun _ => fun
  | [d1, d2] => { results := [.lit (.bool true)], args := [d1, d2] }
  | _ => none }
def latinMeetsRow : OpenClaim := { program := "ytmfpdakaeagdpaagreat", sum := "2e820859da72ee9e71902f0aec3dc9465908a073b97fbb0091e559e25e7e30f5", func := "talisman/talismanlaw04.LatinMeets", spec := "latinMeets", unfollowed := true, recurses := true, plainKeys := false, apart := false }
def LatinMeetsSaid : Prop := latinMeetsRow.holds Tryz.pinned (OpenSpec.ofChange latinMeetsSpec)

/-- ITS FALSE NEIGHBOUR: 'it returns false'. Refute it at one input. -/
def latinMeetsWrong : ChangeSpec := { name := "latinMeets", fn := fun _ => fun
  | [d1, d2] => { results := [.lit (.bool false)], args := [d1, d2] }
  | _ => none }
def LatinMeetsWrongFalsely : Prop := latinMeetsRow.holds Tryz.pinned (OpenSpec.ofChange latinMeetsWrong)

/-- 'talismanlaw04.LatinDeltas': WHATEVER THE INPUT: true; the input reads as it did. -/
def latinDeltasSpec : ChangeSpec := { name := "latinDeltas", fn := fun _ => fun
  | [d1, d2] => { results := [.lit (.bool true)], args := [d1, d2] }
  | _ => none }
def latinDeltasRow : OpenClaim := { program := "ytmfpdakaeagdpaagreat", sum := "2e820859da72ee9e71902f0aec3dc9465908a073b97fbb0091e559e25e7e30f5", func := "talisman/talismanlaw04.LatinDeltas", spec := "latinDeltas", unfollowed := true, recurses := true, plainKeys := false, apart := false }
def LatinDeltasSaid : Prop := latinDeltasRow.holds Tryz.pinned (OpenSpec.ofChange latinDeltasSpec)

/-- ITS FALSE NEIGHBOUR: 'it returns false'. Refute it at one input. -/
def latinDeltasWrong : ChangeSpec := { name := "latinDeltas", fn := fun _ => fun
  | [d1, d2] => { results := [.lit (.bool false)], args := [d1, d2] }
  | _ => none }
def LatinDeltasWrongFalsely : Prop := latinDeltasRow.holds Tryz.pinned (OpenSpec.ofChange latinDeltasWrong)

/-- 'talismanlaw04.LatinTables': WHATEVER THE INPUT: true; the input reads as it did. -/
def latinTablesSpec : ChangeSpec := { name := "latinTables", fn := fun _ => fun
  | [d1, d2, d3] => { results := [.lit (.bool true)], args := [d1, d2, d3] }
  | _ => none }
def latinTablesRow : OpenClaim := { program := "ytmfpdakaeagdpaagreat", sum := "2e820859da72ee9e71902f0aec3dc9465908a073b97fbb0091e559e25e7e30f5", func := "talisman/talismanlaw04.LatinTables", spec := "latinTables", unfollowed := true, recurses := true, plainKeys := false, apart := false }
def LatinTablesSaid : Prop := latinTablesRow.holds Tryz.pinned (OpenSpec.ofChange latinTablesSpec)

/-- ITS FALSE NEIGHBOUR: 'it returns false'. Refute it at one input. -/
def latinTablesWrong : ChangeSpec := { name := "latinTables", fn := fun _ => fun
  | [d1, d2, d3] => { results := [.lit (.bool false)], args := [d1, d2, d3] }
  | _ => none }
def LatinTablesWrongFalsely : Prop := latinTablesRow.holds Tryz.pinned (OpenSpec.ofChange latinTablesWrong)

/-- 'talismanlaw04.LatinTransversals': WHATEVER THE INPUT: true; the input reads as it did. -/
def latinTransversalsSpec : ChangeSpec := { name := "latinTransversals", fn := fun _ => fun
  | [d1, d2] => { results := [.lit (.bool true)], args := [d1, d2] }
  | _ => none }
def latinTransversalsRow : OpenClaim := { program := "ytmfpdakaeagdpaagreat", sum := "2e820859da72ee9e71902f0aec3dc9465908a073b97fbb0091e559e25e7e30f5", func := "talisman/talismanlaw04.LatinTransversals", spec := "latinTransversals", unfollowed := true, recurses := true, plainKeys := false, apart := false }
def LatinTransversalsSaid : Prop := latinTransversalsRow.holds Tryz.pinned (OpenSpec.ofChange latinTransversalsSpec)

/-- ITS FALSE NEIGHBOUR: 'it returns false'. Refute it at one input. -/
def latinTransversalsWrong : ChangeSpec := { name := "latinTransversals", fn := fun _ => fun
  | [d1, d2] => { results := [.lit (.bool false)], args := [d1, d2] }
  | _ => none }
def LatinTransversalsWrongFalsely : Prop := latinTransversalsRow.holds Tryz.pinned (OpenSpec.ofChange latinTransversalsWrong)

/-- 'talismanlaw04.LatinProducts': WHATEVER THE INPUT: true; the input reads as it did. -/
def latinProductsSpec : ChangeSpec := { name := "latinProducts", fn := fun _ => fun
  | [d1, d2, d3] => { results := [.lit (.bool true)], args := [d1, d2, d3] }
  | _ => none }
def latinProductsRow : OpenClaim := { program := "ytmfpdakaeagdpaagreat", sum := "2e820859da72ee9e71902f0aec3dc9465908a073b97fbb0091e559e25e7e30f5", func := "talisman/talismanlaw04.LatinProducts", spec := "latinProducts", unfollowed := true, recurses := true, plainKeys := false, apart := false }
def LatinProductsSaid : Prop := latinProductsRow.holds Tryz.pinned (OpenSpec.ofChange latinProductsSpec)

/-- ITS FALSE NEIGHBOUR: 'it returns false'. Refute it at one input. -/
def latinProductsWrong : ChangeSpec := { name := "latinProducts", fn := fun _ => fun
  | [d1, d2, d3] => { results := [.lit (.bool false)], args := [d1, d2, d3] }
  | _ => none }
def LatinProductsWrongFalsely : Prop := latinProductsRow.holds Tryz.pinned (OpenSpec.ofChange latinProductsWrong)

/-- 'talismanlaw04.LatinCounts': WHATEVER THE INPUT: true; the input reads as it did. -/
def latinCountsSpec : ChangeSpec := { name := "latinCounts", fn := fun _ => fun
  | [d1, d2, d3] => { results := [.lit (.bool true)], args := [d1, d2, d3] }
  | _ => none }
def latinCountsRow : OpenClaim := { program := "ytmfpdakaeagdpaagreat", sum := "2e820859da72ee9e71902f0aec3dc9465908a073b97fbb0091e559e25e7e30f5", func := "talisman/talismanlaw04.LatinCounts", spec := "latinCounts", unfollowed := true, recurses := true, plainKeys := false, apart := false }
def LatinCountsSaid : Prop := latinCountsRow.holds Tryz.pinned (OpenSpec.ofChange latinCountsSpec)

/-- ITS FALSE NEIGHBOUR: 'it returns false'. Refute it at one input. -/
def latinCountsWrong : ChangeSpec := { name := "latinCounts", fn := fun _ => fun
  | [d1, d2, d3] => { results := [.lit (.bool false)], args := [d1, d2, d3] }
  | _ => none }
def LatinCountsWrongFalsely : Prop := latinCountsRow.holds Tryz.pinned (OpenSpec.ofChange latinCountsWrong)

/-- 'talismanlaw04.LatinFamily': WHATEVER THE INPUT: true; the input reads as it did. -/
def latinFamilySpec : ChangeSpec := { name := "latinFamily", fn := fun _ => fun
  | [d1, d2] => { results := [.lit (.bool true)], args := [d1, d2] }
  | _ => none }
def latinFamilyRow : OpenClaim := { program := "ytmfpdakaeagdpaagreat", sum := "2e820859da72ee9e71902f0aec3dc9465908a073b97fbb0091e559e25e7e30f5", func := "talisman/talismanlaw04.LatinFamily", spec := "latinFamily", unfollowed := true, recurses := true, plainKeys := false, apart := false }
def LatinFamilySaid : Prop := latinFamilyRow.holds Tryz.pinned (OpenSpec.ofChange latinFamilySpec)

/-- ITS FALSE NEIGHBOUR: 'it returns false'. Refute it at one input. -/
def latinFamilyWrong : ChangeSpec := { name := "latinFamily", fn := fun _ => fun
  | [d1, d2] => { results := [.lit (.bool false)], args := [d1, d2] }
  | _ => none }
def LatinFamilyWrongFalsely : Prop := latinFamilyRow.holds Tryz.pinned (OpenSpec.ofChange latinFamilyWrong)

/-- 'talismanlaw04.LatinDivides': WHATEVER THE INPUT: true; the input reads as it did. -/
def latinDividesSpec : ChangeSpec := { name := "latinDivides", fn := fun _ => fun
  | [d] => { results := [.lit (.bool true)], args := [d] }
  | _ => none }
def latinDividesRow : OpenClaim := { program := "ytmfpdakaeagdpaagreat", sum := "2e820859da72ee9e71902f0aec3dc9465908a073b97fbb0091e559e25e7e30f5", func := "talisman/talismanlaw04.LatinDivides", spec := "latinDivides", unfollowed := true, recurses := true, plainKeys := false, apart := false }
def LatinDividesSaid : Prop := latinDividesRow.holds Tryz.pinned (OpenSpec.ofChange latinDividesSpec)

/-- ITS FALSE NEIGHBOUR: 'it returns false'. Refute it at one input. -/
def latinDividesWrong : ChangeSpec := { name := "latinDivides", fn := fun _ => fun
  | [d] => { results := [.lit (.bool false)], args := [d] }
  | _ => none }
def LatinDividesWrongFalsely : Prop := latinDividesRow.holds Tryz.pinned (OpenSpec.ofChange latinDividesWrong)

/-- 'talismanlaw04.LatinForms': WHATEVER THE INPUT: true; the input reads as it did. -/
def latinFormsSpec : ChangeSpec := { name := "latinForms", fn := fun _ => fun
  | [d1, d2] => { results := [.lit (.bool true)], args := [d1, d2] }
  | _ => none }
def latinFormsRow : OpenClaim := { program := "ytmfpdakaeagdpaagreat", sum := "2e820859da72ee9e71902f0aec3dc9465908a073b97fbb0091e559e25e7e30f5", func := "talisman/talismanlaw04.LatinForms", spec := "latinForms", unfollowed := true, recurses := true, plainKeys := false, apart := false }
def LatinFormsSaid : Prop := latinFormsRow.holds Tryz.pinned (OpenSpec.ofChange latinFormsSpec)

/-- ITS FALSE NEIGHBOUR: 'it returns false'. Refute it at one input. -/
def latinFormsWrong : ChangeSpec := { name := "latinForms", fn := fun _ => fun
  | [d1, d2] => { results := [.lit (.bool false)], args := [d1, d2] }
  | _ => none }
def LatinFormsWrongFalsely : Prop := latinFormsRow.holds Tryz.pinned (OpenSpec.ofChange latinFormsWrong)

/-- 'talismanlaw04.LatinIsotopes': WHATEVER THE INPUT: true; the input reads as it did. -/
def latinIsotopesSpec : ChangeSpec := { name := "latinIsotopes", fn := fun _ => fun
  | [d1, d2] => { results := [.lit (.bool true)], args := [d1, d2] }
  | _ => none }
def latinIsotopesRow : OpenClaim := { program := "ytmfpdakaeagdpaagreat", sum := "2e820859da72ee9e71902f0aec3dc9465908a073b97fbb0091e559e25e7e30f5", func := "talisman/talismanlaw04.LatinIsotopes", spec := "latinIsotopes", unfollowed := true, recurses := true, plainKeys := false, apart := false }
def LatinIsotopesSaid : Prop := latinIsotopesRow.holds Tryz.pinned (OpenSpec.ofChange latinIsotopesSpec)

/-- ITS FALSE NEIGHBOUR: 'it returns false'. Refute it at one input. -/
def latinIsotopesWrong : ChangeSpec := { name := "latinIsotopes", fn := fun _ => fun
  | [d1, d2] => { results := [.lit (.bool false)], args := [d1, d2] }
  | _ => none }
def LatinIsotopesWrongFalsely : Prop := latinIsotopesRow.holds Tryz.pinned (OpenSpec.ofChange latinIsotopesWrong)

/- THE SECOND FORM. 'bulk': how many values and letters a reading holds, each counted each time it is reached (what is shared counts as often as it is met; a slice's spare places count too). A statement '..UptoSaid' is the law's where the arguments, and the package variables that the reading takes, are together of bulk at most 1048576: NARROWER than '..Said'. Prove '..Said' where nothing that the law and all that it calls make is longer than what came in: it says more and counts as full. Else prove '..UptoSaid'. A law counts once. -/
mutual
def uptoBulk {H : Type} : DataW H → Nat
  | .lit (.string bytes) => bytes.length + 1
  | .lit _ => 1
  | .nil => 1
  | .ptr d => uptoBulk d + 1
  | .slice elems spare => uptoBulkAll elems + uptoBulkAll spare + 1
  | .agg parts => uptoBulkAll parts + 1
  | .iface _ d => uptoBulk d + 1
  | .map entries => uptoBulkEntries entries + 1
  | .held _ => 1
def uptoBulkAll {H : Type} : List (DataW H) → Nat
  | [] => 0
  | d :: r => uptoBulk d + uptoBulkAll r
def uptoBulkEntries {H : Type} : List (Lit × DataW H) → Nat
  | [] => 0
  | x :: r => uptoBulkEntry x + uptoBulkEntries r
def uptoBulkEntry {H : Type} : Lit × DataW H → Nat
  | (.string bytes, d) => bytes.length + uptoBulk d + 1
  | (_, d) => uptoBulk d + 1
 end
def uptoSmall : (H : Type) → List (DataW H) → Bool := fun _ ds => decide (uptoBulkAll ds ≤ 1048576)
def OpenSpec.upto (s : _root_.Go.ChangeSpec) : _root_.Go.OpenSpec := { _root_.Go.OpenSpec.ofChange s with cond := some uptoSmall }

/-- 'talismanlaw04.LatinMates', WHERE WHAT IT READS IS OF BULK AT MOST 1048576: true; the input reads as it did. -/
def latinMatesUptoRow : OpenClaim := { program := "ytmfpdakaeagdpaagreat", sum := "2e820859da72ee9e71902f0aec3dc9465908a073b97fbb0091e559e25e7e30f5", func := "talisman/talismanlaw04.LatinMates", spec := "latinMates", unfollowed := true, recurses := true, plainKeys := false, apart := false, narrowed := true }
def LatinMatesUptoSaid : Prop := latinMatesUptoRow.holds Tryz.pinned (OpenSpec.upto latinMatesSpec)

/-- 'talismanlaw04.LatinCompletes', WHERE WHAT IT READS IS OF BULK AT MOST 1048576: true; the input reads as it did. -/
def latinCompletesUptoRow : OpenClaim := { program := "ytmfpdakaeagdpaagreat", sum := "2e820859da72ee9e71902f0aec3dc9465908a073b97fbb0091e559e25e7e30f5", func := "talisman/talismanlaw04.LatinCompletes", spec := "latinCompletes", unfollowed := true, recurses := true, plainKeys := false, apart := false, narrowed := true }
def LatinCompletesUptoSaid : Prop := latinCompletesUptoRow.holds Tryz.pinned (OpenSpec.upto latinCompletesSpec)

/-- 'talismanlaw04.LatinRepresents', WHERE WHAT IT READS IS OF BULK AT MOST 1048576: true; the input reads as it did. -/
def latinRepresentsUptoRow : OpenClaim := { program := "ytmfpdakaeagdpaagreat", sum := "2e820859da72ee9e71902f0aec3dc9465908a073b97fbb0091e559e25e7e30f5", func := "talisman/talismanlaw04.LatinRepresents", spec := "latinRepresents", unfollowed := true, recurses := true, plainKeys := false, apart := false, narrowed := true }
def LatinRepresentsUptoSaid : Prop := latinRepresentsUptoRow.holds Tryz.pinned (OpenSpec.upto latinRepresentsSpec)

/-- 'talismanlaw04.LatinExtends', WHERE WHAT IT READS IS OF BULK AT MOST 1048576: true; the input reads as it did. -/
def latinExtendsUptoRow : OpenClaim := { program := "ytmfpdakaeagdpaagreat", sum := "2e820859da72ee9e71902f0aec3dc9465908a073b97fbb0091e559e25e7e30f5", func := "talisman/talismanlaw04.LatinExtends", spec := "latinExtends", unfollowed := true, recurses := true, plainKeys := false, apart := false, narrowed := true }
def LatinExtendsUptoSaid : Prop := latinExtendsUptoRow.holds Tryz.pinned (OpenSpec.upto latinExtendsSpec)

/-- 'talismanlaw04.LatinHall', WHERE WHAT IT READS IS OF BULK AT MOST 1048576: true; the input reads as it did. -/
def latinHallUptoRow : OpenClaim := { program := "ytmfpdakaeagdpaagreat", sum := "2e820859da72ee9e71902f0aec3dc9465908a073b97fbb0091e559e25e7e30f5", func := "talisman/talismanlaw04.LatinHall", spec := "latinHall", unfollowed := true, recurses := true, plainKeys := false, apart := false, narrowed := true }
def LatinHallUptoSaid : Prop := latinHallUptoRow.holds Tryz.pinned (OpenSpec.upto latinHallSpec)

/-- 'talismanlaw04.LatinFills', WHERE WHAT IT READS IS OF BULK AT MOST 1048576: true; the input reads as it did. -/
def latinFillsUptoRow : OpenClaim := { program := "ytmfpdakaeagdpaagreat", sum := "2e820859da72ee9e71902f0aec3dc9465908a073b97fbb0091e559e25e7e30f5", func := "talisman/talismanlaw04.LatinFills", spec := "latinFills", unfollowed := true, recurses := true, plainKeys := false, apart := false, narrowed := true }
def LatinFillsUptoSaid : Prop := latinFillsUptoRow.holds Tryz.pinned (OpenSpec.upto latinFillsSpec)

/-- 'talismanlaw04.LatinMeets', WHERE WHAT IT READS IS OF BULK AT MOST 1048576: true; the input reads as it did. -/
def latinMeetsUptoRow : OpenClaim := { program := "ytmfpdakaeagdpaagreat", sum := "2e820859da72ee9e71902f0aec3dc9465908a073b97fbb0091e559e25e7e30f5", func := "talisman/talismanlaw04.LatinMeets", spec := "latinMeets", unfollowed := true, recurses := true, plainKeys := false, apart := false, narrowed := true }
def LatinMeetsUptoSaid : Prop := latinMeetsUptoRow.holds Tryz.pinned (OpenSpec.upto latinMeetsSpec)

/-- 'talismanlaw04.LatinDeltas', WHERE WHAT IT READS IS OF BULK AT MOST 1048576: true; the input reads as it did. -/
def latinDeltasUptoRow : OpenClaim := { program := "ytmfpdakaeagdpaagreat", sum := "2e820859da72ee9e71902f0aec3dc9465908a073b97fbb0091e559e25e7e30f5", func := "talisman/talismanlaw04.LatinDeltas", spec := "latinDeltas", unfollowed := true, recurses := true, plainKeys := false, apart := false, narrowed := true }
def LatinDeltasUptoSaid : Prop := latinDeltasUptoRow.holds Tryz.pinned (OpenSpec.upto latinDeltasSpec)

/-- 'talismanlaw04.LatinTables', WHERE WHAT IT READS IS OF BULK AT MOST 1048576: true; the input reads as it did. -/
def latinTablesUptoRow : OpenClaim := { program := "ytmfpdakaeagdpaagreat", sum := "2e820859da72ee9e71902f0aec3dc9465908a073b97fbb0091e559e25e7e30f5", func := "talisman/talismanlaw04.LatinTables", spec := "latinTables", unfollowed := true, recurses := true, plainKeys := false, apart := false, narrowed := true }
def LatinTablesUptoSaid : Prop := latinTablesUptoRow.holds Tryz.pinned (OpenSpec.upto latinTablesSpec)

/-- 'talismanlaw04.LatinTransversals', WHERE WHAT IT READS IS OF BULK AT MOST 1048576: true; the input reads as it did. -/
def latinTransversalsUptoRow : OpenClaim := { program := "ytmfpdakaeagdpaagreat", sum := "2e820859da72ee9e71902f0aec3dc9465908a073b97fbb0091e559e25e7e30f5", func := "talisman/talismanlaw04.LatinTransversals", spec := "latinTransversals", unfollowed := true, recurses := true, plainKeys := false, apart := false, narrowed := true }
def LatinTransversalsUptoSaid : Prop := latinTransversalsUptoRow.holds Tryz.pinned (OpenSpec.upto latinTransversalsSpec)

/-- 'talismanlaw04.LatinProducts', WHERE WHAT IT READS IS OF BULK AT MOST 1048576: true; the input reads as it did. -/
def latinProductsUptoRow : OpenClaim := { program := "ytmfpdakaeagdpaagreat", sum := "2e820859da72ee9e71902f0aec3dc9465908a073b97fbb0091e559e25e7e30f5", func := "talisman/talismanlaw04.LatinProducts", spec := "latinProducts", unfollowed := true, recurses := true, plainKeys := false, apart := false, narrowed := true }
def LatinProductsUptoSaid : Prop := latinProductsUptoRow.holds Tryz.pinned (OpenSpec.upto latinProductsSpec)

/-- 'talismanlaw04.LatinCounts', WHERE WHAT IT READS IS OF BULK AT MOST 1048576: true; the input reads as it did. -/
def latinCountsUptoRow : OpenClaim := { program := "ytmfpdakaeagdpaagreat", sum := "2e820859da72ee9e71902f0aec3dc9465908a073b97fbb0091e559e25e7e30f5", func := "talisman/talismanlaw04.LatinCounts", spec := "latinCounts", unfollowed := true, recurses := true, plainKeys := false, apart := false, narrowed := true }
def LatinCountsUptoSaid : Prop := latinCountsUptoRow.holds Tryz.pinned (OpenSpec.upto latinCountsSpec)

/-- 'talismanlaw04.LatinFamily', WHERE WHAT IT READS IS OF BULK AT MOST 1048576: true; the input reads as it did. -/
def latinFamilyUptoRow : OpenClaim := { program := "ytmfpdakaeagdpaagreat", sum := "2e820859da72ee9e71902f0aec3dc9465908a073b97fbb0091e559e25e7e30f5", func := "talisman/talismanlaw04.LatinFamily", spec := "latinFamily", unfollowed := true, recurses := true, plainKeys := false, apart := false, narrowed := true }
def LatinFamilyUptoSaid : Prop := latinFamilyUptoRow.holds Tryz.pinned (OpenSpec.upto latinFamilySpec)

/-- 'talismanlaw04.LatinDivides', WHERE WHAT IT READS IS OF BULK AT MOST 1048576: true; the input reads as it did. -/
def latinDividesUptoRow : OpenClaim := { program := "ytmfpdakaeagdpaagreat", sum := "2e820859da72ee9e71902f0aec3dc9465908a073b97fbb0091e559e25e7e30f5", func := "talisman/talismanlaw04.LatinDivides", spec := "latinDivides", unfollowed := true, recurses := true, plainKeys := false, apart := false, narrowed := true }
def LatinDividesUptoSaid : Prop := latinDividesUptoRow.holds Tryz.pinned (OpenSpec.upto latinDividesSpec)

/-- 'talismanlaw04.LatinForms', WHERE WHAT IT READS IS OF BULK AT MOST 1048576: true; the input reads as it did. -/
def latinFormsUptoRow : OpenClaim := { program := "ytmfpdakaeagdpaagreat", sum := "2e820859da72ee9e71902f0aec3dc9465908a073b97fbb0091e559e25e7e30f5", func := "talisman/talismanlaw04.LatinForms", spec := "latinForms", unfollowed := true, recurses := true, plainKeys := false, apart := false, narrowed := true }
def LatinFormsUptoSaid : Prop := latinFormsUptoRow.holds Tryz.pinned (OpenSpec.upto latinFormsSpec)

/-- 'talismanlaw04.LatinIsotopes', WHERE WHAT IT READS IS OF BULK AT MOST 1048576: true; the input reads as it did. -/
def latinIsotopesUptoRow : OpenClaim := { program := "ytmfpdakaeagdpaagreat", sum := "2e820859da72ee9e71902f0aec3dc9465908a073b97fbb0091e559e25e7e30f5", func := "talisman/talismanlaw04.LatinIsotopes", spec := "latinIsotopes", unfollowed := true, recurses := true, plainKeys := false, apart := false, narrowed := true }
def LatinIsotopesUptoSaid : Prop := latinIsotopesUptoRow.holds Tryz.pinned (OpenSpec.upto latinIsotopesSpec)

end Rows
end Go.Proofs.YtmfpdakaeagdpaaGreat
