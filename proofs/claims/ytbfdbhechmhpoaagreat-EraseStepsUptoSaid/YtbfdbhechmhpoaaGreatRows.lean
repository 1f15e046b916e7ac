/-
  NARROWER THAN 'FOR EVERY INPUT', by the rows' own cells (each row's printed sentence says how): ResolveLinks: loops · AuditWho: loops · SampleValues: loops · AlikeTells: loops · AlikeDiffers: loops · AlikeLike: loops · EraseFits: loops · EraseNarrows: loops · EraseSteps: loops · AlikeUnseen: loops.
  DERIVED. THE GIVEN ROWS OF THIS SEAT. 11 by the template 'for every input the law returns true; each argument reads behind the call as it read before'; 0 by the template 'total and deterministic' (their statements: YtbfdbhechmhpoaaGreatTotals.lean).
  GIVEN WITH THE SEED: the statements are not yours to turn. If you find one false, say at which input.
  Laid BY PROGRAM, IN A SANDBOX (cutbox-rows.mjs): the forced cells as the released guide's own fill.sh prints them over the translation 82773191022ae4b3… (all of the seat's roots in one cut). By AI agents, Wed Nov 11 2026. No macro, syntax, notation, axiom, sorry.
-/
import Derived.Test.YtbfdbhechmhpoaaGreatChecked
import GoSem.Claim
import GoSem.ClaimJoined
import GoSem.ClaimMapViews
import Derived.JoinedTies
import Derived.KernelRfl
namespace Go.Proofs.YtbfdbhechmhpoaaGreat
/- THE CELL 'sum', in the pinned program and in every row, IS THE sha256 OF THE DUMP (.gsa) THAT YtbfdbhechmhpoaaGreatProg.lean LOADS. Nothing in Lean hashes anything: it is a label: what it is worth is what the hold of that sum in a sandbox is worth. -/
noncomputable def Tryz.pinned : Pinned := { name := "ytbfdbhechmhpoaagreat", sum := "82773191022ae4b389212e165a7900714ebdeff94da6774e7f725826b55787fc", checked := Tryz.checked }
namespace Rows
def none {H : Type} : Left H := { results := [], args := [] }

/-- 'blindfoldlaw18.ResolveLinks': WHATEVER THE INPUT: true; the input reads as it did. -/
def resolveLinksSpec : ChangeSpec := { name := "resolveLinks", fn := fun _ => fun
  | [d] => { results := [.lit (.bool true)], args := [d] }
  | _ => none }
def resolveLinksRow : OpenClaim := { program := "ytbfdbhechmhpoaagreat", sum := "82773191022ae4b389212e165a7900714ebdeff94da6774e7f725826b55787fc", func := "blindfold/blindfoldlaw18.ResolveLinks", spec := "resolveLinks", inPlace := ["internal/reflectlite.ValueOf", "internal/reflectlite.Swapper", "(internal/reflectlite.Value).Len"], unfollowed := true, recurses := true, loops := true, plainKeys := false, apart := false }
def ResolveLinksSaid : Prop := resolveLinksRow.holds Tryz.pinned (OpenSpec.ofChange resolveLinksSpec)

/-- ITS FALSE NEIGHBOUR: 'it returns false'. Refute it at one input. -/
def resolveLinksWrong : ChangeSpec := { name := "resolveLinks", fn := fun _ => fun
  | [d] => { results := [.lit (.bool false)], args := [d] }
  | _ => none }
def ResolveLinksWrongFalsely : Prop := resolveLinksRow.holds Tryz.pinned (OpenSpec.ofChange resolveLinksWrong)

/-- 'blindfoldlaw43.EvolveNone': WHATEVER THE INPUT: true; the input reads as it did. -/
def evolveNoneSpec : ChangeSpec := { name := "evolveNone", fn := fun _ => fun
  | [d] => { results := [.lit (.bool true)], args := [d] }
  | _ => none }
def evolveNoneRow : OpenClaim := { program := "ytbfdbhechmhpoaagreat", sum := "82773191022ae4b389212e165a7900714ebdeff94da6774e7f725826b55787fc", func := "blindfold/blindfoldlaw43.EvolveNone", spec := "evolveNone", inPlace := ["internal/reflectlite.ValueOf", "internal/reflectlite.Swapper", "(internal/reflectlite.Value).Len"], unfollowed := true, recurses := true, plainKeys := false, apart := false }
def EvolveNoneSaid : Prop := evolveNoneRow.holds Tryz.pinned (OpenSpec.ofChange evolveNoneSpec)

/-- ITS FALSE NEIGHBOUR: 'it returns false'. Refute it at one input. -/
def evolveNoneWrong : ChangeSpec := { name := "evolveNone", fn := fun _ => fun
  | [d] => { results := [.lit (.bool false)], args := [d] }
  | _ => none }
def EvolveNoneWrongFalsely : Prop := evolveNoneRow.holds Tryz.pinned (OpenSpec.ofChange evolveNoneWrong)

/-- 'blindfoldlaw42.AuditWho': WHATEVER THE INPUT: true; the input reads as it did. -/
def auditWhoSpec : ChangeSpec := { name := "auditWho", fn := fun _ => fun
  | [d1, d2, d3] => { results := [.lit (.bool true)], args := [d1, d2, d3] }
  | _ => none }
def auditWhoRow : OpenClaim := { program := "ytbfdbhechmhpoaagreat", sum := "82773191022ae4b389212e165a7900714ebdeff94da6774e7f725826b55787fc", func := "blindfold/blindfoldlaw42.AuditWho", spec := "auditWho", inPlace := ["internal/reflectlite.ValueOf", "internal/reflectlite.Swapper", "(internal/reflectlite.Value).Len", "internal/abi.NoEscape"], unfollowed := true, recurses := true, loops := true, plainKeys := false, apart := false }
def AuditWhoSaid : Prop := auditWhoRow.holds Tryz.pinned (OpenSpec.ofChange auditWhoSpec)

/-- ITS FALSE NEIGHBOUR: 'it returns false'. Refute it at one input. -/
def auditWhoWrong : ChangeSpec := { name := "auditWho", fn := fun _ => fun
  | [d1, d2, d3] => { results := [.lit (.bool false)], args := [d1, d2, d3] }
  | _ => none }
def AuditWhoWrongFalsely : Prop := auditWhoRow.holds Tryz.pinned (OpenSpec.ofChange auditWhoWrong)

/-- 'blindfoldlaw26.SampleValues': WHATEVER THE INPUT: true; the input reads as it did. -/
def sampleValuesSpec : ChangeSpec := { name := "sampleValues", fn := fun _ => fun
  | [d1, d2] => { results := [.lit (.bool true)], args := [d1, d2] }
  | _ => none }
def sampleValuesRow : OpenClaim := { program := "ytbfdbhechmhpoaagreat", sum := "82773191022ae4b389212e165a7900714ebdeff94da6774e7f725826b55787fc", func := "blindfold/blindfoldlaw26.SampleValues", spec := "sampleValues", inPlace := ["internal/reflectlite.ValueOf", "internal/reflectlite.Swapper", "(internal/reflectlite.Value).Len"], unfollowed := true, recurses := true, loops := true, plainKeys := false, apart := false }
def SampleValuesSaid : Prop := sampleValuesRow.holds Tryz.pinned (OpenSpec.ofChange sampleValuesSpec)

/-- ITS FALSE NEIGHBOUR: 'it returns false'. Refute it at one input. -/
def sampleValuesWrong : ChangeSpec := { name := "sampleValues", fn := fun _ => fun
  | [d1, d2] => { results := [.lit (.bool false)], args := [d1, d2] }
  | _ => none }
def SampleValuesWrongFalsely : Prop := sampleValuesRow.holds Tryz.pinned (OpenSpec.ofChange sampleValuesWrong)

/-- 'blindfoldlaw28.AlikeTells': WHATEVER THE INPUT: true; the input reads as it did. -/
def alikeTellsSpec : ChangeSpec := { name := "alikeTells", fn := fun _ => fun
  | [d1, d2, d3] => { results := [.lit (.bool true)], args := [d1, d2, d3] }
  | _ => none }
def alikeTellsRow : OpenClaim := { program := "ytbfdbhechmhpoaagreat", sum := "82773191022ae4b389212e165a7900714ebdeff94da6774e7f725826b55787fc", func := "blindfold/blindfoldlaw28.AlikeTells", spec := "alikeTells", inPlace := ["internal/reflectlite.ValueOf", "internal/reflectlite.Swapper", "(internal/reflectlite.Value).Len"], unfollowed := true, recurses := true, loops := true, plainKeys := false, apart := false }
def AlikeTellsSaid : Prop := alikeTellsRow.holds Tryz.pinned (OpenSpec.ofChange alikeTellsSpec)

/-- ITS FALSE NEIGHBOUR: 'it returns false'. Refute it at one input. -/
def alikeTellsWrong : ChangeSpec := { name := "alikeTells", fn := fun _ => fun
  | [d1, d2, d3] => { results := [.lit (.bool false)], args := [d1, d2, d3] }
  | _ => none }
def AlikeTellsWrongFalsely : Prop := alikeTellsRow.holds Tryz.pinned (OpenSpec.ofChange alikeTellsWrong)

/-- 'blindfoldlaw28.AlikeDiffers': WHATEVER THE INPUT: true; the input reads as it did. -/
def alikeDiffersSpec : ChangeSpec := { name := "alikeDiffers", fn := fun _ => fun
  | [d1, d2, d3] => { results := [.lit (.bool true)], args := [d1, d2, d3] }
  | _ => none }
def alikeDiffersRow : OpenClaim := { program := "ytbfdbhechmhpoaagreat", sum := "82773191022ae4b389212e165a7900714ebdeff94da6774e7f725826b55787fc", func := "blindfold/blindfoldlaw28.AlikeDiffers", spec := "alikeDiffers", inPlace := ["internal/reflectlite.ValueOf", "internal/reflectlite.Swapper", "(internal/reflectlite.Value).Len"], unfollowed := true, recurses := true, loops := true, plainKeys := false, apart := false }
def AlikeDiffersSaid : Prop := alikeDiffersRow.holds Tryz.pinned (OpenSpec.ofChange alikeDiffersSpec)

/-- ITS FALSE NEIGHBOUR: 'it returns false'. Refute it at one input. -/
def alikeDiffersWrong : ChangeSpec := { name := "alikeDiffers", fn := fun _ => fun
  | [d1, d2, d3] => { results := [.lit (.bool false)], args := [d1, d2, d3] }
  | _ => none }
def AlikeDiffersWrongFalsely : Prop := alikeDiffersRow.holds Tryz.pinned (OpenSpec.ofChange alikeDiffersWrong)

/-- 'blindfoldlaw28.AlikeLike': WHATEVER THE INPUT: true; the input reads as it did. -/
def alikeLikeSpec : ChangeSpec := { name := "alikeLike", fn := fun _ => fun
  | [d1, d2, d3] => { results := [.lit (.bool true)], args := [d1, d2, d3] }
  | _ => none }
def alikeLikeRow : OpenClaim := { program := "ytbfdbhechmhpoaagreat", sum := "82773191022ae4b389212e165a7900714ebdeff94da6774e7f725826b55787fc", func := "blindfold/blindfoldlaw28.AlikeLike", spec := "alikeLike", inPlace := ["internal/reflectlite.ValueOf", "internal/reflectlite.Swapper", "(internal/reflectlite.Value).Len"], unfollowed := true, recurses := true, loops := true, plainKeys := false, apart := false }
def AlikeLikeSaid : Prop := alikeLikeRow.holds Tryz.pinned (OpenSpec.ofChange alikeLikeSpec)

/-- ITS FALSE NEIGHBOUR: 'it returns false'. Refute it at one input. -/
def alikeLikeWrong : ChangeSpec := { name := "alikeLike", fn := fun _ => fun
  | [d1, d2, d3] => { results := [.lit (.bool false)], args := [d1, d2, d3] }
  | _ => none }
def AlikeLikeWrongFalsely : Prop := alikeLikeRow.holds Tryz.pinned (OpenSpec.ofChange alikeLikeWrong)

/-- 'blindfoldlaw27.EraseFits': WHATEVER THE INPUT: true; the input reads as it did. -/
def eraseFitsSpec : ChangeSpec := { name := "eraseFits", fn := fun _ => fun
  | [d1, d2, d3] => { results := [.lit (.bool true)], args := [d1, d2, d3] }
  | _ => none }
def eraseFitsRow : OpenClaim := { program := "ytbfdbhechmhpoaagreat", sum := "82773191022ae4b389212e165a7900714ebdeff94da6774e7f725826b55787fc", func := "blindfold/blindfoldlaw27.EraseFits", spec := "eraseFits", inPlace := ["internal/reflectlite.ValueOf", "internal/reflectlite.Swapper", "(internal/reflectlite.Value).Len"], unfollowed := true, recurses := true, loops := true, plainKeys := false, apart := false }
def EraseFitsSaid : Prop := eraseFitsRow.holds Tryz.pinned (OpenSpec.ofChange eraseFitsSpec)

/-- ITS FALSE NEIGHBOUR: 'it returns false'. Refute it at one input. -/
def eraseFitsWrong : ChangeSpec := { name := "eraseFits", fn := fun _ => fun
  | [d1, d2, d3] => { results := [.lit (.bool false)], args := [d1, d2, d3] }
  | _ => none }
def EraseFitsWrongFalsely : Prop := eraseFitsRow.holds Tryz.pinned (OpenSpec.ofChange eraseFitsWrong)

/-- 'blindfoldlaw27.EraseNarrows': WHATEVER THE INPUT: true; the input reads as it did. -/
def eraseNarrowsSpec : ChangeSpec := { name := "eraseNarrows", fn := fun _ => fun
  | [d1, d2, d3] => { results := [.lit (.bool true)], args := [d1, d2, d3] }
  | _ => none }
def eraseNarrowsRow : OpenClaim := { program := "ytbfdbhechmhpoaagreat", sum := "82773191022ae4b389212e165a7900714ebdeff94da6774e7f725826b55787fc", func := "blindfold/blindfoldlaw27.EraseNarrows", spec := "eraseNarrows", inPlace := ["internal/reflectlite.ValueOf", "internal/reflectlite.Swapper", "(internal/reflectlite.Value).Len"], unfollowed := true, recurses := true, loops := true, plainKeys := false, apart := false }
def EraseNarrowsSaid : Prop := eraseNarrowsRow.holds Tryz.pinned (OpenSpec.ofChange eraseNarrowsSpec)

/-- ITS FALSE NEIGHBOUR: 'it returns false'. Refute it at one input. -/
def eraseNarrowsWrong : ChangeSpec := { name := "eraseNarrows", fn := fun _ => fun
  | [d1, d2, d3] => { results := [.lit (.bool false)], args := [d1, d2, d3] }
  | _ => none }
def EraseNarrowsWrongFalsely : Prop := eraseNarrowsRow.holds Tryz.pinned (OpenSpec.ofChange eraseNarrowsWrong)

/-- 'blindfoldlaw27.EraseSteps': WHATEVER THE INPUT: true; the input reads as it did. -/
def eraseStepsSpec : ChangeSpec := { name := "eraseSteps", fn := fun _ => fun
  | [d1, d2, d3] => { results := [.lit (.bool true)], args := [d1, d2, d3] }
  | _ => none }
def eraseStepsRow : OpenClaim := { program := "ytbfdbhechmhpoaagreat", sum := "82773191022ae4b389212e165a7900714ebdeff94da6774e7f725826b55787fc", func := "blindfold/blindfoldlaw27.EraseSteps", spec := "eraseSteps", inPlace := ["internal/reflectlite.ValueOf", "internal/reflectlite.Swapper", "(internal/reflectlite.Value).Len"], unfollowed := true, recurses := true, loops := true, plainKeys := false, apart := false }
def EraseStepsSaid : Prop := eraseStepsRow.holds Tryz.pinned (OpenSpec.ofChange eraseStepsSpec)

/-- ITS FALSE NEIGHBOUR: 'it returns false'. Refute it at one input. -/
def eraseStepsWrong : ChangeSpec := { name := "eraseSteps", fn := fun _ => fun
  | [d1, d2, d3] => { results := [.lit (.bool false)], args := [d1, d2, d3] }
  | _ => none }
def EraseStepsWrongFalsely : Prop := eraseStepsRow.holds Tryz.pinned (OpenSpec.ofChange eraseStepsWrong)

/-- 'blindfoldlaw28.AlikeUnseen': WHATEVER THE INPUT: true; the input reads as it did. -/
def alikeUnseenSpec : ChangeSpec := { name := "alikeUnseen", fn := fun _ => fun
  | [d1, d2, d3] => { results := [.lit (.bool true)], args := [d1, d2, d3] }
  | _ => none }
def alikeUnseenRow : OpenClaim := { program := "ytbfdbhechmhpoaagreat", sum := "82773191022ae4b389212e165a7900714ebdeff94da6774e7f725826b55787fc", func := "blindfold/blindfoldlaw28.AlikeUnseen", spec := "alikeUnseen", inPlace := ["internal/reflectlite.ValueOf", "internal/reflectlite.Swapper", "(internal/reflectlite.Value).Len"], unfollowed := true, recurses := true, loops := true, plainKeys := false, apart := false }
def AlikeUnseenSaid : Prop := alikeUnseenRow.holds Tryz.pinned (OpenSpec.ofChange alikeUnseenSpec)

/-- ITS FALSE NEIGHBOUR: 'it returns false'. Refute it at one input. -/
def alikeUnseenWrong : ChangeSpec := { name := "alikeUnseen", fn := fun _ => fun
  | [d1, d2, d3] => { results := [.lit (.bool false)], args := [d1, d2, d3] }
  | _ => none }
def AlikeUnseenWrongFalsely : Prop := alikeUnseenRow.holds Tryz.pinned (OpenSpec.ofChange alikeUnseenWrong)

/- THE SECOND FORM. 'bulk': how many values and letters a reading holds, each counted each time it is reached (what is shared counts as often as it is met; a slice's spare places count too). A statement '..UptoSaid' is the law's where the arguments, and the package variables that the reading takes, are together of bulk at most 1048576: NARROWER than '..Said'. Prove '..Said' where nothing that the law and all that it calls make is longer than what came in: it says more and counts as full. Else prove '..UptoSaid'. A law counts once. -/
mutual
def uptoBulk {H : Type} : DataW H → Nat
  | .lit (.string bytes) => bytes.length + 1
  | .lit _ => 1
  | .nil => 1
  | .ptr d => uptoBulk d + 1
  | .slice elems spare => uptoBulkAll elems + uptoBulkAll spare + 1
  | .agg parts => uptoBulkAll parts + 1
  | .iface _ d => uptoBulk d + 1
  | .map entries => uptoBulkEntries entries + 1
  | .held _ => 1
def uptoBulkAll {H : Type} : List (DataW H) → Nat
  | [] => 0
  | d :: r => uptoBulk d + uptoBulkAll r
def uptoBulkEntries {H : Type} : List (Lit × DataW H) → Nat
  | [] => 0
  | x :: r => uptoBulkEntry x + uptoBulkEntries r
def uptoBulkEntry {H : Type} : Lit × DataW H → Nat
  | (.string bytes, d) => bytes.length + uptoBulk d + 1
  | (_, d) => uptoBulk d + 1
 end
def uptoSmall : (H : Type) → List (DataW H) → Bool := fun _ ds => decide (uptoBulkAll ds ≤ 1048576)
def OpenSpec.upto (s : _root_.Go.ChangeSpec) : _root_.Go.OpenSpec := { _root_.Go.OpenSpec.ofChange s with cond := some uptoSmall }

/-- 'blindfoldlaw18.ResolveLinks', WHERE WHAT IT READS IS OF BULK AT MOST 1048576: true; the input reads as it did. -/
def resolveLinksUptoRow : OpenClaim := { program := "ytbfdbhechmhpoaagreat", sum := "82773191022ae4b389212e165a7900714ebdeff94da6774e7f725826b55787fc", func := "blindfold/blindfoldlaw18.ResolveLinks", spec := "resolveLinks", inPlace := ["internal/reflectlite.ValueOf", "internal/reflectlite.Swapper", "(internal/reflectlite.Value).Len"], unfollowed := true, recurses := true, loops := true, plainKeys := false, apart := false, narrowed := true }
def ResolveLinksUptoSaid : Prop := resolveLinksUptoRow.holds Tryz.pinned (OpenSpec.upto resolveLinksSpec)

/-- 'blindfoldlaw43.EvolveNone', WHERE WHAT IT READS IS OF BULK AT MOST 1048576: true; the input reads as it did. -/
def evolveNoneUptoRow : OpenClaim := { program := "ytbfdbhechmhpoaagreat", sum := "82773191022ae4b389212e165a7900714ebdeff94da6774e7f725826b55787fc", func := "blindfold/blindfoldlaw43.EvolveNone", spec := "evolveNone", inPlace := ["internal/reflectlite.ValueOf", "internal/reflectlite.Swapper", "(internal/reflectlite.Value).Len"], unfollowed := true, recurses := true, plainKeys := false, apart := false, narrowed := true }
def EvolveNoneUptoSaid : Prop := evolveNoneUptoRow.holds Tryz.pinned (OpenSpec.upto evolveNoneSpec)

/-- 'blindfoldlaw42.AuditWho', WHERE WHAT IT READS IS OF BULK AT MOST 1048576: true; the input reads as it did. -/
def auditWhoUptoRow : OpenClaim := { program := "ytbfdbhechmhpoaagreat", sum := "82773191022ae4b389212e165a7900714ebdeff94da6774e7f725826b55787fc", func := "blindfold/blindfoldlaw42.AuditWho", spec := "auditWho", inPlace := ["internal/reflectlite.ValueOf", "internal/reflectlite.Swapper", "(internal/reflectlite.Value).Len", "internal/abi.NoEscape"], unfollowed := true, recurses := true, loops := true, plainKeys := false, apart := false, narrowed := true }
def AuditWhoUptoSaid : Prop := auditWhoUptoRow.holds Tryz.pinned (OpenSpec.upto auditWhoSpec)

/-- 'blindfoldlaw26.SampleValues', WHERE WHAT IT READS IS OF BULK AT MOST 1048576: true; the input reads as it did. -/
def sampleValuesUptoRow : OpenClaim := { program := "ytbfdbhechmhpoaagreat", sum := "82773191022ae4b389212e165a7900714ebdeff94da6774e7f725826b55787fc", func := "blindfold/blindfoldlaw26.SampleValues", spec := "sampleValues", inPlace := ["internal/reflectlite.ValueOf", "internal/reflectlite.Swapper", "(internal/reflectlite.Value).Len"], unfollowed := true, recurses := true, loops := true, plainKeys := false, apart := false, narrowed := true }
def SampleValuesUptoSaid : Prop := sampleValuesUptoRow.holds Tryz.pinned (OpenSpec.upto sampleValuesSpec)

/-- 'blindfoldlaw28.AlikeTells', WHERE WHAT IT READS IS OF BULK AT MOST 1048576: true; the input reads as it did. -/
def alikeTellsUptoRow : OpenClaim := { program := "ytbfdbhechmhpoaagreat", sum := "82773191022ae4b389212e165a7900714ebdeff94da6774e7f725826b55787fc", func := "blindfold/blindfoldlaw28.AlikeTells", spec := "alikeTells", inPlace := ["internal/reflectlite.ValueOf", "internal/reflectlite.Swapper", "(internal/reflectlite.Value).Len"], unfollowed := true, recurses := true, loops := true, plainKeys := false, apart := false, narrowed := true }
def AlikeTellsUptoSaid : Prop := alikeTellsUptoRow.holds Tryz.pinned (OpenSpec.upto alikeTellsSpec)

/-- 'blindfoldlaw28.AlikeDiffers', WHERE WHAT IT READS IS OF BULK AT MOST 1048576: true; the input reads as it did. -/
def alikeDiffersUptoRow : OpenClaim := { program := "ytbfdbhechmhpoaagreat", sum := "82773191022ae4b389212e165a7900714ebdeff94da6774e7f725826b55787fc", func := "blindfold/blindfoldlaw28.AlikeDiffers", spec := "alikeDiffers", inPlace := ["internal/reflectlite.ValueOf", "internal/reflectlite.Swapper", "(internal/reflectlite.Value).Len"], unfollowed := true, recurses := true, loops := true, plainKeys := false, apart := false, narrowed := true }
def AlikeDiffersUptoSaid : Prop := alikeDiffersUptoRow.holds Tryz.pinned (OpenSpec.upto alikeDiffersSpec)

/-- 'blindfoldlaw28.AlikeLike', WHERE WHAT IT READS IS OF BULK AT MOST 1048576: true; the input reads as it did. -/
def alikeLikeUptoRow : OpenClaim := { program := "ytbfdbhechmhpoaagreat", sum := "82773191022ae4b389212e165a7900714ebdeff94da6774e7f725826b55787fc", func := "blindfold/blindfoldlaw28.AlikeLike", spec := "alikeLike", inPlace := ["internal/reflectlite.ValueOf", "internal/reflectlite.Swapper", "(internal/reflectlite.Value).Len"], unfollowed := true, recurses := true, loops := true, plainKeys := false, apart := false, narrowed := true }
def AlikeLikeUptoSaid : Prop := alikeLikeUptoRow.holds Tryz.pinned (OpenSpec.upto alikeLikeSpec)

/-- 'blindfoldlaw27.EraseFits', WHERE WHAT IT READS IS OF BULK AT MOST 1048576: true; the input reads as it did. -/
def eraseFitsUptoRow : OpenClaim := { program := "ytbfdbhechmhpoaagreat", sum := "82773191022ae4b389212e165a7900714ebdeff94da6774e7f725826b55787fc", func := "blindfold/blindfoldlaw27.EraseFits", spec := "eraseFits", inPlace := ["internal/reflectlite.ValueOf", "internal/reflectlite.Swapper", "(internal/reflectlite.Value).Len"], unfollowed := true, recurses := true, loops := true, plainKeys := false, apart := false, narrowed := true }
def EraseFitsUptoSaid : Prop := eraseFitsUptoRow.holds Tryz.pinned (OpenSpec.upto eraseFitsSpec)

/-- 'blindfoldlaw27.EraseNarrows', WHERE WHAT IT READS IS OF BULK AT MOST 1048576: true; the input reads as it did. -/
def eraseNarrowsUptoRow : OpenClaim := { program := "ytbfdbhechmhpoaagreat", sum := "82773191022ae4b389212e165a7900714ebdeff94da6774e7f725826b55787fc", func := "blindfold/blindfoldlaw27.EraseNarrows", spec := "eraseNarrows", inPlace := ["internal/reflectlite.ValueOf", "internal/reflectlite.Swapper", "(internal/reflectlite.Value).Len"], unfollowed := true, recurses := true, loops := true, plainKeys := false, apart := false, narrowed := true }
def EraseNarrowsUptoSaid : Prop := eraseNarrowsUptoRow.holds Tryz.pinned (OpenSpec.upto eraseNarrowsSpec)

/-- 'blindfoldlaw27.EraseSteps', WHERE WHAT IT READS IS OF BULK AT MOST 1048576: true; the input reads as it did. -/
def eraseStepsUptoRow : OpenClaim := { program := "ytbfdbhechmhpoaagreat", sum := "82773191022ae4b389212e165a7900714ebdeff94da6774e7f725826b55787fc", func := "blindfold/blindfoldlaw27.EraseSteps", spec := "eraseSteps", inPlace := ["internal/reflectlite.ValueOf", "internal/reflectlite.Swapper", "(internal/reflectlite.Value).Len"], unfollowed := true, recurses := true, loops := true, plainKeys := false, apart := false, narrowed := true }
def EraseStepsUptoSaid : Prop := eraseStepsUptoRow.holds Tryz.pinned (OpenSpec.upto eraseStepsSpec)

/-- 'blindfoldlaw28.AlikeUnseen', WHERE WHAT IT READS IS OF BULK AT MOST 1048576: true; the input reads as it did. -/
def alikeUnseenUptoRow : OpenClaim := { program := "ytbfdbhechmhpoaagreat", sum := "82773191022ae4b389212e165a7900714ebdeff94da6774e7f725826b55787fc", func := "blindfold/blindfoldlaw28.AlikeUnseen", spec := "alikeUnseen", inPlace := ["internal/reflectlite.ValueOf", "internal/reflectlite.Swapper", "(internal/reflectlite.Value).Len"], unfollowed := true, recurses := true, loops := true, plainKeys := false, apart := false, narrowed := true }
def AlikeUnseenUptoSaid : Prop := alikeUnseenUptoRow.holds Tryz.pinned (OpenSpec.upto alikeUnseenSpec)

end Rows
end Go.Proofs.YtbfdbhechmhpoaaGreat
