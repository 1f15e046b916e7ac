/-
  NARROWER THAN 'FOR EVERY INPUT', by the rows' own cells (each row's printed sentence says how): TreeBack: loops · SampleAlong: loops · SamplePairs: loops · SampleUnlike: loops.
  DERIVED. THE GIVEN ROWS OF THIS SEAT. 4 by the template 'for every input the law returns true; each argument reads behind the call as it read before'; 0 by the template 'total and deterministic' (their statements: YtadhpeooehkklaaGreatTotals.lean).
  GIVEN WITH THE SEED: the statements are not yours to turn. If you find one false, say at which input.
  Laid BY PROGRAM, IN A SANDBOX (cutbox-rows.mjs): the forced cells as the released guide's own fill.sh prints them over the translation 73e590d0aa8e5ea3… (all of the seat's roots in one cut). By AI agents, Wed Nov 11 2026. No macro, syntax, notation, axiom, sorry.
-/
import Derived.Test.YtadhpeooehkklaaGreatChecked
import GoSem.Claim
import GoSem.ClaimJoined
import GoSem.ClaimMapViews
import Derived.JoinedTies
import Derived.KernelRfl
namespace Go.Proofs.YtadhpeooehkklaaGreat
/- THE CELL 'sum', in the pinned program and in every row, IS THE sha256 OF THE DUMP (.gsa) THAT YtadhpeooehkklaaGreatProg.lean LOADS. Nothing in Lean hashes anything: it is a label: what it is worth is what the hold of that sum in a sandbox is worth. -/
noncomputable def Tryz.pinned : Pinned := { name := "ytadhpeooehkklaagreat", sum := "73e590d0aa8e5ea310d23331ca80128ce0ff6409b8ef9976f8aee07ac6547794", checked := Tryz.checked }
namespace Rows
def none {H : Type} : Left H := { results := [], args := [] }

/-- 'blindfoldlaw25.TreeBack': WHATEVER THE INPUT: true; the input reads as it did. -/
def treeBackSpec : ChangeSpec := { name := "treeBack", fn := fun _ => fun
  | [d1, d2, d3] => { results := [.lit (.bool true)], args := [d1, d2, d3] }
  | _ => none }
def treeBackRow : OpenClaim := { program := "ytadhpeooehkklaagreat", sum := "73e590d0aa8e5ea310d23331ca80128ce0ff6409b8ef9976f8aee07ac6547794", func := "blindfold/blindfoldlaw25.TreeBack", spec := "treeBack", inPlace := ["internal/reflectlite.ValueOf", "internal/reflectlite.Swapper", "(internal/reflectlite.Value).Len"], unfollowed := true, recurses := true, loops := true, apart := false }
def TreeBackSaid : Prop := treeBackRow.holds Tryz.pinned (OpenSpec.ofChange treeBackSpec)

/-- ITS FALSE NEIGHBOUR: 'it returns false'. Refute it at one input. -/
def treeBackWrong : ChangeSpec := { name := "treeBack", fn := fun _ => fun
  | [d1, d2, d3] => { results := [.lit (.bool false)], args := [d1, d2, d3] }
  | _ => none }
def TreeBackWrongFalsely : Prop := treeBackRow.holds Tryz.pinned (OpenSpec.ofChange treeBackWrong)

/-- 'blindfoldlaw26.SampleAlong': WHATEVER THE INPUT: true; the input reads as it did. -/
def sampleAlongSpec : ChangeSpec := { name := "sampleAlong", fn := fun _ => fun
  | [d1, d2, d3] => { results := [.lit (.bool true)], args := [d1, d2, d3] }
  | _ => none }
def sampleAlongRow : OpenClaim := { program := "ytadhpeooehkklaagreat", sum := "73e590d0aa8e5ea310d23331ca80128ce0ff6409b8ef9976f8aee07ac6547794", func := "blindfold/blindfoldlaw26.SampleAlong", spec := "sampleAlong", inPlace := ["internal/reflectlite.ValueOf", "internal/reflectlite.Swapper", "(internal/reflectlite.Value).Len"], unfollowed := true, recurses := true, loops := true, apart := false }
def SampleAlongSaid : Prop := sampleAlongRow.holds Tryz.pinned (OpenSpec.ofChange sampleAlongSpec)

/-- ITS FALSE NEIGHBOUR: 'it returns false'. Refute it at one input. -/
def sampleAlongWrong : ChangeSpec := { name := "sampleAlong", fn := fun _ => fun
  | [d1, d2, d3] => { results := [.lit (.bool false)], args := [d1, d2, d3] }
  | _ => none }
def SampleAlongWrongFalsely : Prop := sampleAlongRow.holds Tryz.pinned (OpenSpec.ofChange sampleAlongWrong)

/-- 'blindfoldlaw26.SamplePairs': WHATEVER THE INPUT: true; the input reads as it did. -/
def samplePairsSpec : ChangeSpec := { name := "samplePairs", fn := fun _ => fun
  | [d1, d2] => { results := [.lit (.bool true)], args := [d1, d2] }
  | _ => none }
def samplePairsRow : OpenClaim := { program := "ytadhpeooehkklaagreat", sum := "73e590d0aa8e5ea310d23331ca80128ce0ff6409b8ef9976f8aee07ac6547794", func := "blindfold/blindfoldlaw26.SamplePairs", spec := "samplePairs", inPlace := ["internal/reflectlite.ValueOf", "internal/reflectlite.Swapper", "(internal/reflectlite.Value).Len"], unfollowed := true, recurses := true, loops := true, apart := false }
def SamplePairsSaid : Prop := samplePairsRow.holds Tryz.pinned (OpenSpec.ofChange samplePairsSpec)

/-- ITS FALSE NEIGHBOUR: 'it returns false'. Refute it at one input. -/
def samplePairsWrong : ChangeSpec := { name := "samplePairs", fn := fun _ => fun
  | [d1, d2] => { results := [.lit (.bool false)], args := [d1, d2] }
  | _ => none }
def SamplePairsWrongFalsely : Prop := samplePairsRow.holds Tryz.pinned (OpenSpec.ofChange samplePairsWrong)

/-- 'blindfoldlaw26.SampleUnlike': WHATEVER THE INPUT: true; the input reads as it did. -/
def sampleUnlikeSpec : ChangeSpec := { name := "sampleUnlike", fn := fun _ => fun
  | [d1, d2, d3] => { results := [.lit (.bool true)], args := [d1, d2, d3] }
  | _ => none }
def sampleUnlikeRow : OpenClaim := { program := "ytadhpeooehkklaagreat", sum := "73e590d0aa8e5ea310d23331ca80128ce0ff6409b8ef9976f8aee07ac6547794", func := "blindfold/blindfoldlaw26.SampleUnlike", spec := "sampleUnlike", inPlace := ["internal/reflectlite.ValueOf", "internal/reflectlite.Swapper", "(internal/reflectlite.Value).Len"], unfollowed := true, recurses := true, loops := true, apart := false }
def SampleUnlikeSaid : Prop := sampleUnlikeRow.holds Tryz.pinned (OpenSpec.ofChange sampleUnlikeSpec)

/-- ITS FALSE NEIGHBOUR: 'it returns false'. Refute it at one input. -/
def sampleUnlikeWrong : ChangeSpec := { name := "sampleUnlike", fn := fun _ => fun
  | [d1, d2, d3] => { results := [.lit (.bool false)], args := [d1, d2, d3] }
  | _ => none }
def SampleUnlikeWrongFalsely : Prop := sampleUnlikeRow.holds Tryz.pinned (OpenSpec.ofChange sampleUnlikeWrong)

/- THE SECOND FORM. 'bulk': how many values and letters a reading holds, each counted each time it is reached (what is shared counts as often as it is met; a slice's spare places count too). A statement '..UptoSaid' is the law's where the arguments, and the package variables that the reading takes, are together of bulk at most 1048576: NARROWER than '..Said'. Prove '..Said' where nothing that the law and all that it calls make is longer than what came in: it says more and counts as full. Else prove '..UptoSaid'. A law counts once. -/
mutual
def uptoBulk {H : Type} : DataW H → Nat
  | .lit (.string bytes) => bytes.length + 1
  | .lit _ => 1
  | .nil => 1
  | .ptr d => uptoBulk d + 1
  | .slice elems spare => uptoBulkAll elems + uptoBulkAll spare + 1
  | .agg parts => uptoBulkAll parts + 1
  | .iface _ d => uptoBulk d + 1
  | .map entries => uptoBulkEntries entries + 1
  | .held _ => 1
def uptoBulkAll {H : Type} : List (DataW H) → Nat
  | [] => 0
  | d :: r => uptoBulk d + uptoBulkAll r
def uptoBulkEntries {H : Type} : List (Lit × DataW H) → Nat
  | [] => 0
  | x :: r => uptoBulkEntry x + uptoBulkEntries r
def uptoBulkEntry {H : Type} : Lit × DataW H → Nat
  | (.string bytes, d) => bytes.length + uptoBulk d + 1
  | (_, d) => uptoBulk d + 1
 end
def uptoSmall : (H : Type) → List (DataW H) → Bool := fun _ ds => decide (uptoBulkAll ds ≤ 1048576)
def OpenSpec.upto (s : _root_.Go.ChangeSpec) : _root_.Go.OpenSpec := { _root_.Go.OpenSpec.ofChange s with cond := some uptoSmall }

/-- 'blindfoldlaw25.TreeBack', WHERE WHAT IT READS IS OF BULK AT MOST 1048576: true; the input reads as it did. -/
def treeBackUptoRow : OpenClaim := { program := "ytadhpeooehkklaagreat", sum := "73e590d0aa8e5ea310d23331ca80128ce0ff6409b8ef9976f8aee07ac6547794", func := "blindfold/blindfoldlaw25.TreeBack", spec := "treeBack", inPlace := ["internal/reflectlite.ValueOf", "internal/reflectlite.Swapper", "(internal/reflectlite.Value).Len"], unfollowed := true, recurses := true, loops := true, apart := false, narrowed := true }
def TreeBackUptoSaid : Prop := treeBackUptoRow.holds Tryz.pinned (OpenSpec.upto treeBackSpec)

/-- 'blindfoldlaw26.SampleAlong', WHERE WHAT IT READS IS OF BULK AT MOST 1048576: true; the input reads as it did. -/
def sampleAlongUptoRow : OpenClaim := { program := "ytadhpeooehkklaagreat", sum := "73e590d0aa8e5ea310d23331ca80128ce0ff6409b8ef9976f8aee07ac6547794", func := "blindfold/blindfoldlaw26.SampleAlong", spec := "sampleAlong", inPlace := ["internal/reflectlite.ValueOf", "internal/reflectlite.Swapper", "(internal/reflectlite.Value).Len"], unfollowed := true, recurses := true, loops := true, apart := false, narrowed := true }
def SampleAlongUptoSaid : Prop := sampleAlongUptoRow.holds Tryz.pinned (OpenSpec.upto sampleAlongSpec)

/-- 'blindfoldlaw26.SamplePairs', WHERE WHAT IT READS IS OF BULK AT MOST 1048576: true; the input reads as it did. -/
def samplePairsUptoRow : OpenClaim := { program := "ytadhpeooehkklaagreat", sum := "73e590d0aa8e5ea310d23331ca80128ce0ff6409b8ef9976f8aee07ac6547794", func := "blindfold/blindfoldlaw26.SamplePairs", spec := "samplePairs", inPlace := ["internal/reflectlite.ValueOf", "internal/reflectlite.Swapper", "(internal/reflectlite.Value).Len"], unfollowed := true, recurses := true, loops := true, apart := false, narrowed := true }
def SamplePairsUptoSaid : Prop := samplePairsUptoRow.holds Tryz.pinned (OpenSpec.upto samplePairsSpec)

/-- 'blindfoldlaw26.SampleUnlike', WHERE WHAT IT READS IS OF BULK AT MOST 1048576: true; the input reads as it did. -/
def sampleUnlikeUptoRow : OpenClaim := { program := "ytadhpeooehkklaagreat", sum := "73e590d0aa8e5ea310d23331ca80128ce0ff6409b8ef9976f8aee07ac6547794", func := "blindfold/blindfoldlaw26.SampleUnlike", spec := "sampleUnlike", inPlace := ["internal/reflectlite.ValueOf", "internal/reflectlite.Swapper", "(internal/reflectlite.Value).Len"], unfollowed := true, recurses := true, loops := true, apart := false, narrowed := true }
def SampleUnlikeUptoSaid : Prop := sampleUnlikeUptoRow.holds Tryz.pinned (OpenSpec.upto sampleUnlikeSpec)

end Rows
end Go.Proofs.YtadhpeooehkklaaGreat
