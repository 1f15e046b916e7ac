/-
  NARROWER THAN 'FOR EVERY INPUT', by the rows' own cells (each row's printed sentence says how): ResolveLinks: loops · TreePaths: loops · AuditRows: loops · AuditTexts: loops · TreeGoes: loops · TreeSets: loops · AuditWho: loops · SampleValues: loops · AlikeTells: loops · AlikeDiffers: loops · AlikeLike: loops.
  DERIVED. THE GIVEN ROWS OF THIS SEAT. 12 by the template 'for every input the law returns true; each argument reads behind the call as it read before'; 0 by the template 'total and deterministic' (their statements: YtdeaicofhmkebaaGreatTotals.lean).
  GIVEN WITH THE SEED: the statements are not yours to turn. If you find one false, say at which input.
  Laid BY PROGRAM, IN A SANDBOX (cutbox-rows.mjs): the forced cells as the released guide's own fill.sh prints them over the translation 070ad612656083c8… (all of the seat's roots in one cut). By AI agents, Wed Nov 11 2026. No macro, syntax, notation, axiom, sorry.
-/
import Derived.Test.YtdeaicofhmkebaaGreatChecked
import GoSem.Claim
import GoSem.ClaimJoined
import GoSem.ClaimMapViews
import Derived.JoinedTies
import Derived.KernelRfl
namespace Go.Proofs.YtdeaicofhmkebaaGreat
/- THE CELL 'sum', in the pinned program and in every row, IS THE sha256 OF THE DUMP (.gsa) THAT YtdeaicofhmkebaaGreatProg.lean LOADS. Nothing in Lean hashes anything: it is a label: what it is worth is what the hold of that sum in a sandbox is worth. -/
noncomputable def Tryz.pinned : Pinned := { name := "ytdeaicofhmkebaagreat", sum := "070ad612656083c84617063fdd15fb6942e604e061df939e624b5d9d6a2ba58f", checked := Tryz.checked }
namespace Rows
def none {H : Type} : Left H := { results := [], args := [] }

/-- 'blindfoldlaw18.ResolveLinks': WHATEVER THE INPUT: true; the input reads as it did. -/
def resolveLinksSpec : ChangeSpec := { name := "resolveLinks", fn := fun _ => fun
  | [d] => { results := [.lit (.bool true)], args := [d] }
  | _ => none }
def resolveLinksRow : OpenClaim := { program := "ytdeaicofhmkebaagreat", sum := "070ad612656083c84617063fdd15fb6942e604e061df939e624b5d9d6a2ba58f", func := "blindfold/blindfoldlaw18.ResolveLinks", spec := "resolveLinks", inPlace := ["internal/reflectlite.ValueOf", "internal/reflectlite.Swapper", "(internal/reflectlite.Value).Len"], unfollowed := true, recurses := true, loops := true, plainKeys := false, apart := false }
def ResolveLinksSaid : Prop := resolveLinksRow.holds Tryz.pinned (OpenSpec.ofChange resolveLinksSpec)

/-- ITS FALSE NEIGHBOUR: 'it returns false'. Refute it at one input. -/
def resolveLinksWrong : ChangeSpec := { name := "resolveLinks", fn := fun _ => fun
  | [d] => { results := [.lit (.bool false)], args := [d] }
  | _ => none }
def ResolveLinksWrongFalsely : Prop := resolveLinksRow.holds Tryz.pinned (OpenSpec.ofChange resolveLinksWrong)

/-- 'blindfoldlaw25.TreePaths': WHATEVER THE INPUT: true; the input reads as it did. -/
def treePathsSpec : ChangeSpec := { name := "treePaths", fn := fun _ => fun
  | [d1, d2] => { results := [.lit (.bool true)], args := [d1, d2] }
  | _ => none }
def treePathsRow : OpenClaim := { program := "ytdeaicofhmkebaagreat", sum := "070ad612656083c84617063fdd15fb6942e604e061df939e624b5d9d6a2ba58f", func := "blindfold/blindfoldlaw25.TreePaths", spec := "treePaths", inPlace := ["internal/reflectlite.ValueOf", "internal/reflectlite.Swapper", "(internal/reflectlite.Value).Len"], unfollowed := true, recurses := true, loops := true, plainKeys := false, apart := false }
def TreePathsSaid : Prop := treePathsRow.holds Tryz.pinned (OpenSpec.ofChange treePathsSpec)

/-- ITS FALSE NEIGHBOUR: 'it returns false'. Refute it at one input. -/
def treePathsWrong : ChangeSpec := { name := "treePaths", fn := fun _ => fun
  | [d1, d2] => { results := [.lit (.bool false)], args := [d1, d2] }
  | _ => none }
def TreePathsWrongFalsely : Prop := treePathsRow.holds Tryz.pinned (OpenSpec.ofChange treePathsWrong)

/-- 'blindfoldlaw43.EvolveNone': WHATEVER THE INPUT: true; the input reads as it did. -/
def evolveNoneSpec : ChangeSpec := { name := "evolveNone", fn := fun _ => fun
  | [d] => { results := [.lit (.bool true)], args := [d] }
  | _ => none }
def evolveNoneRow : OpenClaim := { program := "ytdeaicofhmkebaagreat", sum := "070ad612656083c84617063fdd15fb6942e604e061df939e624b5d9d6a2ba58f", func := "blindfold/blindfoldlaw43.EvolveNone", spec := "evolveNone", inPlace := ["internal/reflectlite.ValueOf", "internal/reflectlite.Swapper", "(internal/reflectlite.Value).Len"], unfollowed := true, recurses := true, plainKeys := false, apart := false }
def EvolveNoneSaid : Prop := evolveNoneRow.holds Tryz.pinned (OpenSpec.ofChange evolveNoneSpec)

/-- ITS FALSE NEIGHBOUR: 'it returns false'. Refute it at one input. -/
def evolveNoneWrong : ChangeSpec := { name := "evolveNone", fn := fun _ => fun
  | [d] => { results := [.lit (.bool false)], args := [d] }
  | _ => none }
def EvolveNoneWrongFalsely : Prop := evolveNoneRow.holds Tryz.pinned (OpenSpec.ofChange evolveNoneWrong)

/-- 'blindfoldlaw42.AuditRows': WHATEVER THE INPUT: true; the input reads as it did. -/
def auditRowsSpec : ChangeSpec := { name := "auditRows", fn := fun _ => fun
  | [d1, d2, d3] => { results := [.lit (.bool true)], args := [d1, d2, d3] }
  | _ => none }
def auditRowsRow : OpenClaim := { program := "ytdeaicofhmkebaagreat", sum := "070ad612656083c84617063fdd15fb6942e604e061df939e624b5d9d6a2ba58f", func := "blindfold/blindfoldlaw42.AuditRows", spec := "auditRows", inPlace := ["internal/reflectlite.ValueOf", "internal/reflectlite.Swapper", "(internal/reflectlite.Value).Len", "internal/abi.NoEscape"], unfollowed := true, recurses := true, loops := true, plainKeys := false, apart := false }
def AuditRowsSaid : Prop := auditRowsRow.holds Tryz.pinned (OpenSpec.ofChange auditRowsSpec)

/-- ITS FALSE NEIGHBOUR: 'it returns false'. Refute it at one input. -/
def auditRowsWrong : ChangeSpec := { name := "auditRows", fn := fun _ => fun
  | [d1, d2, d3] => { results := [.lit (.bool false)], args := [d1, d2, d3] }
  | _ => none }
def AuditRowsWrongFalsely : Prop := auditRowsRow.holds Tryz.pinned (OpenSpec.ofChange auditRowsWrong)

/-- 'blindfoldlaw42.AuditTexts': WHATEVER THE INPUT: true; the input reads as it did. -/
def auditTextsSpec : ChangeSpec := { name := "auditTexts", fn := fun _ => fun
  | [d1, d2, d3] => { results := [.lit (.bool true)], args := [d1, d2, d3] }
  | _ => none }
def auditTextsRow : OpenClaim := { program := "ytdeaicofhmkebaagreat", sum := "070ad612656083c84617063fdd15fb6942e604e061df939e624b5d9d6a2ba58f", func := "blindfold/blindfoldlaw42.AuditTexts", spec := "auditTexts", inPlace := ["internal/reflectlite.ValueOf", "internal/reflectlite.Swapper", "(internal/reflectlite.Value).Len", "internal/abi.NoEscape"], unfollowed := true, recurses := true, loops := true, plainKeys := false, apart := false }
def AuditTextsSaid : Prop := auditTextsRow.holds Tryz.pinned (OpenSpec.ofChange auditTextsSpec)

/-- ITS FALSE NEIGHBOUR: 'it returns false'. Refute it at one input. -/
def auditTextsWrong : ChangeSpec := { name := "auditTexts", fn := fun _ => fun
  | [d1, d2, d3] => { results := [.lit (.bool false)], args := [d1, d2, d3] }
  | _ => none }
def AuditTextsWrongFalsely : Prop := auditTextsRow.holds Tryz.pinned (OpenSpec.ofChange auditTextsWrong)

/-- 'blindfoldlaw25.TreeGoes': WHATEVER THE INPUT: true; the input reads as it did. -/
def treeGoesSpec : ChangeSpec := { name := "treeGoes", fn := fun _ => fun
  | [d1, d2, d3] => { results := [.lit (.bool true)], args := [d1, d2, d3] }
  | _ => none }
def treeGoesRow : OpenClaim := { program := "ytdeaicofhmkebaagreat", sum := "070ad612656083c84617063fdd15fb6942e604e061df939e624b5d9d6a2ba58f", func := "blindfold/blindfoldlaw25.TreeGoes", spec := "treeGoes", inPlace := ["internal/reflectlite.ValueOf", "internal/reflectlite.Swapper", "(internal/reflectlite.Value).Len"], unfollowed := true, recurses := true, loops := true, plainKeys := false, apart := false }
def TreeGoesSaid : Prop := treeGoesRow.holds Tryz.pinned (OpenSpec.ofChange treeGoesSpec)

/-- ITS FALSE NEIGHBOUR: 'it returns false'. Refute it at one input. -/
def treeGoesWrong : ChangeSpec := { name := "treeGoes", fn := fun _ => fun
  | [d1, d2, d3] => { results := [.lit (.bool false)], args := [d1, d2, d3] }
  | _ => none }
def TreeGoesWrongFalsely : Prop := treeGoesRow.holds Tryz.pinned (OpenSpec.ofChange treeGoesWrong)

/-- 'blindfoldlaw25.TreeSets': WHATEVER THE INPUT: true; the input reads as it did. -/
def treeSetsSpec : ChangeSpec := { name := "treeSets", fn := fun _ => fun
  | [d1, d2, d3] => { results := [.lit (.bool true)], args := [d1, d2, d3] }
  | _ => none }
def treeSetsRow : OpenClaim := { program := "ytdeaicofhmkebaagreat", sum := "070ad612656083c84617063fdd15fb6942e604e061df939e624b5d9d6a2ba58f", func := "blindfold/blindfoldlaw25.TreeSets", spec := "treeSets", inPlace := ["internal/reflectlite.ValueOf", "internal/reflectlite.Swapper", "(internal/reflectlite.Value).Len"], unfollowed := true, recurses := true, loops := true, plainKeys := false, apart := false }
def TreeSetsSaid : Prop := treeSetsRow.holds Tryz.pinned (OpenSpec.ofChange treeSetsSpec)

/-- ITS FALSE NEIGHBOUR: 'it returns false'. Refute it at one input. -/
def treeSetsWrong : ChangeSpec := { name := "treeSets", fn := fun _ => fun
  | [d1, d2, d3] => { results := [.lit (.bool false)], args := [d1, d2, d3] }
  | _ => none }
def TreeSetsWrongFalsely : Prop := treeSetsRow.holds Tryz.pinned (OpenSpec.ofChange treeSetsWrong)

/-- 'blindfoldlaw42.AuditWho': WHATEVER THE INPUT: true; the input reads as it did. -/
def auditWhoSpec : ChangeSpec := { name := "auditWho", fn := fun _ => fun
  | [d1, d2, d3] => { results := [.lit (.bool true)], args := [d1, d2, d3] }
  | _ => none }
def auditWhoRow : OpenClaim := { program := "ytdeaicofhmkebaagreat", sum := "070ad612656083c84617063fdd15fb6942e604e061df939e624b5d9d6a2ba58f", func := "blindfold/blindfoldlaw42.AuditWho", spec := "auditWho", inPlace := ["internal/reflectlite.ValueOf", "internal/reflectlite.Swapper", "(internal/reflectlite.Value).Len", "internal/abi.NoEscape"], unfollowed := true, recurses := true, loops := true, plainKeys := false, apart := false }
def AuditWhoSaid : Prop := auditWhoRow.holds Tryz.pinned (OpenSpec.ofChange auditWhoSpec)

/-- ITS FALSE NEIGHBOUR: 'it returns false'. Refute it at one input. -/
def auditWhoWrong : ChangeSpec := { name := "auditWho", fn := fun _ => fun
  | [d1, d2, d3] => { results := [.lit (.bool false)], args := [d1, d2, d3] }
  | _ => none }
def AuditWhoWrongFalsely : Prop := auditWhoRow.holds Tryz.pinned (OpenSpec.ofChange auditWhoWrong)

/-- 'blindfoldlaw26.SampleValues': WHATEVER THE INPUT: true; the input reads as it did. -/
def sampleValuesSpec : ChangeSpec := { name := "sampleValues", fn := fun _ => fun
  | [d1, d2] => { results := [.lit (.bool true)], args := [d1, d2] }
  | _ => none }
def sampleValuesRow : OpenClaim := { program := "ytdeaicofhmkebaagreat", sum := "070ad612656083c84617063fdd15fb6942e604e061df939e624b5d9d6a2ba58f", func := "blindfold/blindfoldlaw26.SampleValues", spec := "sampleValues", inPlace := ["internal/reflectlite.ValueOf", "internal/reflectlite.Swapper", "(internal/reflectlite.Value).Len"], unfollowed := true, recurses := true, loops := true, plainKeys := false, apart := false }
def SampleValuesSaid : Prop := sampleValuesRow.holds Tryz.pinned (OpenSpec.ofChange sampleValuesSpec)

/-- ITS FALSE NEIGHBOUR: 'it returns false'. Refute it at one input. -/
def sampleValuesWrong : ChangeSpec := { name := "sampleValues", fn := fun _ => fun
  | [d1, d2] => { results := [.lit (.bool false)], args := [d1, d2] }
  | _ => none }
def SampleValuesWrongFalsely : Prop := sampleValuesRow.holds Tryz.pinned (OpenSpec.ofChange sampleValuesWrong)

/-- 'blindfoldlaw28.AlikeTells': WHATEVER THE INPUT: true; the input reads as it did. -/
def alikeTellsSpec : ChangeSpec := { name := "alikeTells", fn := fun _ => fun
  | [d1, d2, d3] => { results := [.lit (.bool true)], args := [d1, d2, d3] }
  | _ => none }
def alikeTellsRow : OpenClaim := { program := "ytdeaicofhmkebaagreat", sum := "070ad612656083c84617063fdd15fb6942e604e061df939e624b5d9d6a2ba58f", func := "blindfold/blindfoldlaw28.AlikeTells", spec := "alikeTells", inPlace := ["internal/reflectlite.ValueOf", "internal/reflectlite.Swapper", "(internal/reflectlite.Value).Len"], unfollowed := true, recurses := true, loops := true, plainKeys := false, apart := false }
def AlikeTellsSaid : Prop := alikeTellsRow.holds Tryz.pinned (OpenSpec.ofChange alikeTellsSpec)

/-- ITS FALSE NEIGHBOUR: 'it returns false'. Refute it at one input. -/
def alikeTellsWrong : ChangeSpec := { name := "alikeTells", fn := fun _ => fun
  | [d1, d2, d3] => { results := [.lit (.bool false)], args := [d1, d2, d3] }
  | _ => none }
def AlikeTellsWrongFalsely : Prop := alikeTellsRow.holds Tryz.pinned (OpenSpec.ofChange alikeTellsWrong)

/-- 'blindfoldlaw28.AlikeDiffers': WHATEVER THE INPUT: true; the input reads as it did. -/
def alikeDiffersSpec : ChangeSpec := { name := "alikeDiffers", fn := fun _ => fun
  | [d1, d2, d3] => { results := [.lit (.bool true)], args := [d1, d2, d3] }
  | _ => none }
def alikeDiffersRow : OpenClaim := { program := "ytdeaicofhmkebaagreat", sum := "070ad612656083c84617063fdd15fb6942e604e061df939e624b5d9d6a2ba58f", func := "blindfold/blindfoldlaw28.AlikeDiffers", spec := "alikeDiffers", inPlace := ["internal/reflectlite.ValueOf", "internal/reflectlite.Swapper", "(internal/reflectlite.Value).Len"], unfollowed := true, recurses := true, loops := true, plainKeys := false, apart := false }
def AlikeDiffersSaid : Prop := alikeDiffersRow.holds Tryz.pinned (OpenSpec.ofChange alikeDiffersSpec)

/-- ITS FALSE NEIGHBOUR: 'it returns false'. Refute it at one input. -/
def alikeDiffersWrong : ChangeSpec := { name := "alikeDiffers", fn := fun _ => fun
  | [d1, d2, d3] => { results := [.lit (.bool false)], args := [d1, d2, d3] }
  | _ => none }
def AlikeDiffersWrongFalsely : Prop := alikeDiffersRow.holds Tryz.pinned (OpenSpec.ofChange alikeDiffersWrong)

/-- 'blindfoldlaw28.AlikeLike': WHATEVER THE INPUT: true; the input reads as it did. -/
def alikeLikeSpec : ChangeSpec := { name := "alikeLike", fn := fun _ => fun
  | [d1, d2, d3] => { results := [.lit (.bool true)], args := [d1, d2, d3] }
  | _ => none }
def alikeLikeRow : OpenClaim := { program := "ytdeaicofhmkebaagreat", sum := "070ad612656083c84617063fdd15fb6942e604e061df939e624b5d9d6a2ba58f", func := "blindfold/blindfoldlaw28.AlikeLike", spec := "alikeLike", inPlace := ["internal/reflectlite.ValueOf", "internal/reflectlite.Swapper", "(internal/reflectlite.Value).Len"], unfollowed := true, recurses := true, loops := true, plainKeys := false, apart := false }
def AlikeLikeSaid : Prop := alikeLikeRow.holds Tryz.pinned (OpenSpec.ofChange alikeLikeSpec)

/-- ITS FALSE NEIGHBOUR: 'it returns false'. Refute it at one input. -/
def alikeLikeWrong : ChangeSpec := { name := "alikeLike", fn := fun _ => fun
  | [d1, d2, d3] => { results := [.lit (.bool false)], args := [d1, d2, d3] }
  | _ => none }
def AlikeLikeWrongFalsely : Prop := alikeLikeRow.holds Tryz.pinned (OpenSpec.ofChange alikeLikeWrong)

/- THE SECOND FORM. 'bulk': how many values and letters a reading holds, each counted each time it is reached (what is shared counts as often as it is met; a slice's spare places count too). A statement '..UptoSaid' is the law's where the arguments, and the package variables that the reading takes, are together of bulk at most 1048576: NARROWER than '..Said'. Prove '..Said' where nothing that the law and all that it calls make is longer than what came in: it says more and counts as full. Else prove '..UptoSaid'. A law counts once. -/
mutual
def uptoBulk {H : Type} : DataW H → Nat
  | .lit (.string bytes) => bytes.length + 1
  | .lit _ => 1
  | .nil => 1
  | .ptr d => uptoBulk d + 1
  | .slice elems spare => uptoBulkAll elems + uptoBulkAll spare + 1
  | .agg parts => uptoBulkAll parts + 1
  | .iface _ d => uptoBulk d + 1
  | .map entries => uptoBulkEntries entries + 1
  | .held _ => 1
def uptoBulkAll {H : Type} : List (DataW H) → Nat
  | [] => 0
  | d :: r => uptoBulk d + uptoBulkAll r
def uptoBulkEntries {H : Type} : List (Lit × DataW H) → Nat
  | [] => 0
  | x :: r => uptoBulkEntry x + uptoBulkEntries r
def uptoBulkEntry {H : Type} : Lit × DataW H → Nat
  | (.string bytes, d) => bytes.length + uptoBulk d + 1
  | (_, d) => uptoBulk d + 1
 end
def uptoSmall : (H : Type) → List (DataW H) → Bool := fun _ ds => decide (uptoBulkAll ds ≤ 1048576)
def OpenSpec.upto (s : _root_.Go.ChangeSpec) : _root_.Go.OpenSpec := { _root_.Go.OpenSpec.ofChange s with cond := some uptoSmall }

/-- 'blindfoldlaw18.ResolveLinks', WHERE WHAT IT READS IS OF BULK AT MOST 1048576: true; the input reads as it did. -/
def resolveLinksUptoRow : OpenClaim := { program := "ytdeaicofhmkebaagreat", sum := "070ad612656083c84617063fdd15fb6942e604e061df939e624b5d9d6a2ba58f", func := "blindfold/blindfoldlaw18.ResolveLinks", spec := "resolveLinks", inPlace := ["internal/reflectlite.ValueOf", "internal/reflectlite.Swapper", "(internal/reflectlite.Value).Len"], unfollowed := true, recurses := true, loops := true, plainKeys := false, apart := false, narrowed := true }
def ResolveLinksUptoSaid : Prop := resolveLinksUptoRow.holds Tryz.pinned (OpenSpec.upto resolveLinksSpec)

/-- 'blindfoldlaw25.TreePaths', WHERE WHAT IT READS IS OF BULK AT MOST 1048576: true; the input reads as it did. -/
def treePathsUptoRow : OpenClaim := { program := "ytdeaicofhmkebaagreat", sum := "070ad612656083c84617063fdd15fb6942e604e061df939e624b5d9d6a2ba58f", func := "blindfold/blindfoldlaw25.TreePaths", spec := "treePaths", inPlace := ["internal/reflectlite.ValueOf", "internal/reflectlite.Swapper", "(internal/reflectlite.Value).Len"], unfollowed := true, recurses := true, loops := true, plainKeys := false, apart := false, narrowed := true }
def TreePathsUptoSaid : Prop := treePathsUptoRow.holds Tryz.pinned (OpenSpec.upto treePathsSpec)

/-- 'blindfoldlaw43.EvolveNone', WHERE WHAT IT READS IS OF BULK AT MOST 1048576: true; the input reads as it did. -/
def evolveNoneUptoRow : OpenClaim := { program := "ytdeaicofhmkebaagreat", sum := "070ad612656083c84617063fdd15fb6942e604e061df939e624b5d9d6a2ba58f", func := "blindfold/blindfoldlaw43.EvolveNone", spec := "evolveNone", inPlace := ["internal/reflectlite.ValueOf", "internal/reflectlite.Swapper", "(internal/reflectlite.Value).Len"], unfollowed := true, recurses := true, plainKeys := false, apart := false, narrowed := true }
def EvolveNoneUptoSaid : Prop := evolveNoneUptoRow.holds Tryz.pinned (OpenSpec.upto evolveNoneSpec)

/-- 'blindfoldlaw42.AuditRows', WHERE WHAT IT READS IS OF BULK AT MOST 1048576: true; the input reads as it did. -/
def auditRowsUptoRow : OpenClaim := { program := "ytdeaicofhmkebaagreat", sum := "070ad612656083c84617063fdd15fb6942e604e061df939e624b5d9d6a2ba58f", func := "blindfold/blindfoldlaw42.AuditRows", spec := "auditRows", inPlace := ["internal/reflectlite.ValueOf", "internal/reflectlite.Swapper", "(internal/reflectlite.Value).Len", "internal/abi.NoEscape"], unfollowed := true, recurses := true, loops := true, plainKeys := false, apart := false, narrowed := true }
def AuditRowsUptoSaid : Prop := auditRowsUptoRow.holds Tryz.pinned (OpenSpec.upto auditRowsSpec)

/-- 'blindfoldlaw42.AuditTexts', WHERE WHAT IT READS IS OF BULK AT MOST 1048576: true; the input reads as it did. -/
def auditTextsUptoRow : OpenClaim := { program := "ytdeaicofhmkebaagreat", sum := "070ad612656083c84617063fdd15fb6942e604e061df939e624b5d9d6a2ba58f", func := "blindfold/blindfoldlaw42.AuditTexts", spec := "auditTexts", inPlace := ["internal/reflectlite.ValueOf", "internal/reflectlite.Swapper", "(internal/reflectlite.Value).Len", "internal/abi.NoEscape"], unfollowed := true, recurses := true, loops := true, plainKeys := false, apart := false, narrowed := true }
def AuditTextsUptoSaid : Prop := auditTextsUptoRow.holds Tryz.pinned (OpenSpec.upto auditTextsSpec)

/-- 'blindfoldlaw25.TreeGoes', WHERE WHAT IT READS IS OF BULK AT MOST 1048576: true; the input reads as it did. -/
def treeGoesUptoRow : OpenClaim := { program := "ytdeaicofhmkebaagreat", sum := "070ad612656083c84617063fdd15fb6942e604e061df939e624b5d9d6a2ba58f", func := "blindfold/blindfoldlaw25.TreeGoes", spec := "treeGoes", inPlace := ["internal/reflectlite.ValueOf", "internal/reflectlite.Swapper", "(internal/reflectlite.Value).Len"], unfollowed := true, recurses := true, loops := true, plainKeys := false, apart := false, narrowed := true }
def TreeGoesUptoSaid : Prop := treeGoesUptoRow.holds Tryz.pinned (OpenSpec.upto treeGoesSpec)

/-- 'blindfoldlaw25.TreeSets', WHERE WHAT IT READS IS OF BULK AT MOST 1048576: true; the input reads as it did. -/
def treeSetsUptoRow : OpenClaim := { program := "ytdeaicofhmkebaagreat", sum := "070ad612656083c84617063fdd15fb6942e604e061df939e624b5d9d6a2ba58f", func := "blindfold/blindfoldlaw25.TreeSets", spec := "treeSets", inPlace := ["internal/reflectlite.ValueOf", "internal/reflectlite.Swapper", "(internal/reflectlite.Value).Len"], unfollowed := true, recurses := true, loops := true, plainKeys := false, apart := false, narrowed := true }
def TreeSetsUptoSaid : Prop := treeSetsUptoRow.holds Tryz.pinned (OpenSpec.upto treeSetsSpec)

/-- 'blindfoldlaw42.AuditWho', WHERE WHAT IT READS IS OF BULK AT MOST 1048576: true; the input reads as it did. -/
def auditWhoUptoRow : OpenClaim := { program := "ytdeaicofhmkebaagreat", sum := "070ad612656083c84617063fdd15fb6942e604e061df939e624b5d9d6a2ba58f", func := "blindfold/blindfoldlaw42.AuditWho", spec := "auditWho", inPlace := ["internal/reflectlite.ValueOf", "internal/reflectlite.Swapper", "(internal/reflectlite.Value).Len", "internal/abi.NoEscape"], unfollowed := true, recurses := true, loops := true, plainKeys := false, apart := false, narrowed := true }
def AuditWhoUptoSaid : Prop := auditWhoUptoRow.holds Tryz.pinned (OpenSpec.upto auditWhoSpec)

/-- 'blindfoldlaw26.SampleValues', WHERE WHAT IT READS IS OF BULK AT MOST 1048576: true; the input reads as it did. -/
def sampleValuesUptoRow : OpenClaim := { program := "ytdeaicofhmkebaagreat", sum := "070ad612656083c84617063fdd15fb6942e604e061df939e624b5d9d6a2ba58f", func := "blindfold/blindfoldlaw26.SampleValues", spec := "sampleValues", inPlace := ["internal/reflectlite.ValueOf", "internal/reflectlite.Swapper", "(internal/reflectlite.Value).Len"], unfollowed := true, recurses := true, loops := true, plainKeys := false, apart := false, narrowed := true }
def SampleValuesUptoSaid : Prop := sampleValuesUptoRow.holds Tryz.pinned (OpenSpec.upto sampleValuesSpec)

/-- 'blindfoldlaw28.AlikeTells', WHERE WHAT IT READS IS OF BULK AT MOST 1048576: true; the input reads as it did. -/
def alikeTellsUptoRow : OpenClaim := { program := "ytdeaicofhmkebaagreat", sum := "070ad612656083c84617063fdd15fb6942e604e061df939e624b5d9d6a2ba58f", func := "blindfold/blindfoldlaw28.AlikeTells", spec := "alikeTells", inPlace := ["internal/reflectlite.ValueOf", "internal/reflectlite.Swapper", "(internal/reflectlite.Value).Len"], unfollowed := true, recurses := true, loops := true, plainKeys := false, apart := false, narrowed := true }
def AlikeTellsUptoSaid : Prop := alikeTellsUptoRow.holds Tryz.pinned (OpenSpec.upto alikeTellsSpec)

/-- 'blindfoldlaw28.AlikeDiffers', WHERE WHAT IT READS IS OF BULK AT MOST 1048576: true; the input reads as it did. -/
def alikeDiffersUptoRow : OpenClaim := { program := "ytdeaicofhmkebaagreat", sum := "070ad612656083c84617063fdd15fb6942e604e061df939e624b5d9d6a2ba58f", func := "blindfold/blindfoldlaw28.AlikeDiffers", spec := "alikeDiffers", inPlace := ["internal/reflectlite.ValueOf", "internal/reflectlite.Swapper", "(internal/reflectlite.Value).Len"], unfollowed := true, recurses := true, loops := true, plainKeys := false, apart := false, narrowed := true }
def AlikeDiffersUptoSaid : Prop := alikeDiffersUptoRow.holds Tryz.pinned (OpenSpec.upto alikeDiffersSpec)

/-- 'blindfoldlaw28.AlikeLike', WHERE WHAT IT READS IS OF BULK AT MOST 1048576: true; the input reads as it did. -/
def alikeLikeUptoRow : OpenClaim := { program := "ytdeaicofhmkebaagreat", sum := "070ad612656083c84617063fdd15fb6942e604e061df939e624b5d9d6a2ba58f", func := "blindfold/blindfoldlaw28.AlikeLike", spec := "alikeLike", inPlace := ["internal/reflectlite.ValueOf", "internal/reflectlite.Swapper", "(internal/reflectlite.Value).Len"], unfollowed := true, recurses := true, loops := true, plainKeys := false, apart := false, narrowed := true }
def AlikeLikeUptoSaid : Prop := alikeLikeUptoRow.holds Tryz.pinned (OpenSpec.upto alikeLikeSpec)

end Rows
end Go.Proofs.YtdeaicofhmkebaaGreat
