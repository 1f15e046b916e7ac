/-
  NARROWER THAN 'FOR EVERY INPUT', by the rows' own cells (each row's printed sentence says how): SampleValues: loops · TreeBack: loops · UnparseBack: loops · AlikeUnseen: loops · SampleAlong: loops · SamplePairs: loops · SampleUnlike: loops · ShapeLeaves: loops · ShapeCompact: loops · ShapeDocs: loops.
  DERIVED. THE GIVEN ROWS OF THIS SEAT. 11 by the template 'for every input the law returns true; each argument reads behind the call as it read before'; 0 by the template 'total and deterministic' (their statements: YtadbccicdbopcaaGreatTotals.lean).
  GIVEN WITH THE SEED: the statements are not yours to turn. If you find one false, say at which input.
  Laid BY PROGRAM, IN A SANDBOX (cutbox-rows.mjs): the forced cells as the released guide's own fill.sh prints them over the translation 5ec93d2d791ead1b… (all of the seat's roots in one cut). By AI agents, Wed Nov 11 2026. No macro, syntax, notation, axiom, sorry.
-/
import Derived.Test.YtadbccicdbopcaaGreatChecked
import GoSem.Claim
import GoSem.ClaimJoined
import GoSem.ClaimMapViews
import Derived.JoinedTies
import Derived.KernelRfl
namespace Go.Proofs.YtadbccicdbopcaaGreat
/- THE CELL 'sum', in the pinned program and in every row, IS THE sha256 OF THE DUMP (.gsa) THAT YtadbccicdbopcaaGreatProg.lean LOADS. Nothing in Lean hashes anything: it is a label: what it is worth is what the hold of that sum in a sandbox is worth. -/
noncomputable def Tryz.pinned : Pinned := { name := "ytadbccicdbopcaagreat", sum := "5ec93d2d791ead1b6851ff487507556c028b6112ea8ddff7cf555a97a2989562", checked := Tryz.checked }
namespace Rows
def none {H : Type} : Left H := { results := [], args := [] }

/-- 'blindfoldlaw43.EvolveNone': WHATEVER THE INPUT: true; the input reads as it did. -/
def evolveNoneSpec : ChangeSpec := { name := "evolveNone", fn := fun _ => fun
  | [d] => { results := [.lit (.bool true)], args := [d] }
  | _ => none }
def evolveNoneRow : OpenClaim := { program := "ytadbccicdbopcaagreat", sum := "5ec93d2d791ead1b6851ff487507556c028b6112ea8ddff7cf555a97a2989562", func := "blindfold/blindfoldlaw43.EvolveNone", spec := "evolveNone", inPlace := ["internal/reflectlite.ValueOf", "internal/reflectlite.Swapper", "(internal/reflectlite.Value).Len"], unfollowed := true, recurses := true, plainKeys := false, apart := false }
def EvolveNoneSaid : Prop := evolveNoneRow.holds Tryz.pinned (OpenSpec.ofChange evolveNoneSpec)

/-- ITS FALSE NEIGHBOUR: 'it returns false'. Refute it at one input. -/
def evolveNoneWrong : ChangeSpec := { name := "evolveNone", fn := fun _ => fun
  | [d] => { results := [.lit (.bool false)], args := [d] }
  | _ => none }
def EvolveNoneWrongFalsely : Prop := evolveNoneRow.holds Tryz.pinned (OpenSpec.ofChange evolveNoneWrong)

/-- 'blindfoldlaw26.SampleValues': WHATEVER THE INPUT: true; the input reads as it did. -/
def sampleValuesSpec : ChangeSpec := { name := "sampleValues", fn := fun _ => fun
  | [d1, d2] => { results := [.lit (.bool true)], args := [d1, d2] }
  | _ => none }
def sampleValuesRow : OpenClaim := { program := "ytadbccicdbopcaagreat", sum := "5ec93d2d791ead1b6851ff487507556c028b6112ea8ddff7cf555a97a2989562", func := "blindfold/blindfoldlaw26.SampleValues", spec := "sampleValues", inPlace := ["internal/reflectlite.ValueOf", "internal/reflectlite.Swapper", "(internal/reflectlite.Value).Len"], unfollowed := true, recurses := true, loops := true, plainKeys := false, apart := false }
def SampleValuesSaid : Prop := sampleValuesRow.holds Tryz.pinned (OpenSpec.ofChange sampleValuesSpec)

/-- ITS FALSE NEIGHBOUR: 'it returns false'. Refute it at one input. -/
def sampleValuesWrong : ChangeSpec := { name := "sampleValues", fn := fun _ => fun
  | [d1, d2] => { results := [.lit (.bool false)], args := [d1, d2] }
  | _ => none }
def SampleValuesWrongFalsely : Prop := sampleValuesRow.holds Tryz.pinned (OpenSpec.ofChange sampleValuesWrong)

/-- 'blindfoldlaw25.TreeBack': WHATEVER THE INPUT: true; the input reads as it did. -/
def treeBackSpec : ChangeSpec := { name := "treeBack", fn := fun _ => fun
  | [d1, d2, d3] => { results := [.lit (.bool true)], args := [d1, d2, d3] }
  | _ => none }
def treeBackRow : OpenClaim := { program := "ytadbccicdbopcaagreat", sum := "5ec93d2d791ead1b6851ff487507556c028b6112ea8ddff7cf555a97a2989562", func := "blindfold/blindfoldlaw25.TreeBack", spec := "treeBack", inPlace := ["internal/reflectlite.ValueOf", "internal/reflectlite.Swapper", "(internal/reflectlite.Value).Len"], unfollowed := true, recurses := true, loops := true, plainKeys := false, apart := false }
def TreeBackSaid : Prop := treeBackRow.holds Tryz.pinned (OpenSpec.ofChange treeBackSpec)

/-- ITS FALSE NEIGHBOUR: 'it returns false'. Refute it at one input. -/
def treeBackWrong : ChangeSpec := { name := "treeBack", fn := fun _ => fun
  | [d1, d2, d3] => { results := [.lit (.bool false)], args := [d1, d2, d3] }
  | _ => none }
def TreeBackWrongFalsely : Prop := treeBackRow.holds Tryz.pinned (OpenSpec.ofChange treeBackWrong)

/-- 'blindfoldlaw17.UnparseBack': WHATEVER THE INPUT: true; the input reads as it did. -/
def unparseBackSpec : ChangeSpec := { name := "unparseBack", fn := fun _ => fun
  | [d1, d2] => { results := [.lit (.bool true)], args := [d1, d2] }
  | _ => none }
def unparseBackRow : OpenClaim := { program := "ytadbccicdbopcaagreat", sum := "5ec93d2d791ead1b6851ff487507556c028b6112ea8ddff7cf555a97a2989562", func := "blindfold/blindfoldlaw17.UnparseBack", spec := "unparseBack", inPlace := ["internal/reflectlite.ValueOf", "internal/reflectlite.Swapper", "(internal/reflectlite.Value).Len", "internal/abi.NoEscape", "internal/bytealg.MakeNoZero", "internal/bytealg.IndexByteString"], unfollowed := true, recurses := true, loops := true, plainKeys := false, apart := false }
def UnparseBackSaid : Prop := unparseBackRow.holds Tryz.pinned (OpenSpec.ofChange unparseBackSpec)

/-- ITS FALSE NEIGHBOUR: 'it returns false'. Refute it at one input. -/
def unparseBackWrong : ChangeSpec := { name := "unparseBack", fn := fun _ => fun
  | [d1, d2] => { results := [.lit (.bool false)], args := [d1, d2] }
  | _ => none }
def UnparseBackWrongFalsely : Prop := unparseBackRow.holds Tryz.pinned (OpenSpec.ofChange unparseBackWrong)

/-- 'blindfoldlaw28.AlikeUnseen': WHATEVER THE INPUT: true; the input reads as it did. -/
def alikeUnseenSpec : ChangeSpec := { name := "alikeUnseen", fn := fun _ => fun
  | [d1, d2, d3] => { results := [.lit (.bool true)], args := [d1, d2, d3] }
  | _ => none }
def alikeUnseenRow : OpenClaim := { program := "ytadbccicdbopcaagreat", sum := "5ec93d2d791ead1b6851ff487507556c028b6112ea8ddff7cf555a97a2989562", func := "blindfold/blindfoldlaw28.AlikeUnseen", spec := "alikeUnseen", inPlace := ["internal/reflectlite.ValueOf", "internal/reflectlite.Swapper", "(internal/reflectlite.Value).Len"], unfollowed := true, recurses := true, loops := true, plainKeys := false, apart := false }
def AlikeUnseenSaid : Prop := alikeUnseenRow.holds Tryz.pinned (OpenSpec.ofChange alikeUnseenSpec)

/-- ITS FALSE NEIGHBOUR: 'it returns false'. Refute it at one input. -/
def alikeUnseenWrong : ChangeSpec := { name := "alikeUnseen", fn := fun _ => fun
  | [d1, d2, d3] => { results := [.lit (.bool false)], args := [d1, d2, d3] }
  | _ => none }
def AlikeUnseenWrongFalsely : Prop := alikeUnseenRow.holds Tryz.pinned (OpenSpec.ofChange alikeUnseenWrong)

/-- 'blindfoldlaw26.SampleAlong': WHATEVER THE INPUT: true; the input reads as it did. -/
def sampleAlongSpec : ChangeSpec := { name := "sampleAlong", fn := fun _ => fun
  | [d1, d2, d3] => { results := [.lit (.bool true)], args := [d1, d2, d3] }
  | _ => none }
def sampleAlongRow : OpenClaim := { program := "ytadbccicdbopcaagreat", sum := "5ec93d2d791ead1b6851ff487507556c028b6112ea8ddff7cf555a97a2989562", func := "blindfold/blindfoldlaw26.SampleAlong", spec := "sampleAlong", inPlace := ["internal/reflectlite.ValueOf", "internal/reflectlite.Swapper", "(internal/reflectlite.Value).Len"], unfollowed := true, recurses := true, loops := true, plainKeys := false, apart := false }
def SampleAlongSaid : Prop := sampleAlongRow.holds Tryz.pinned (OpenSpec.ofChange sampleAlongSpec)

/-- ITS FALSE NEIGHBOUR: 'it returns false'. Refute it at one input. -/
def sampleAlongWrong : ChangeSpec := { name := "sampleAlong", fn := fun _ => fun
  | [d1, d2, d3] => { results := [.lit (.bool false)], args := [d1, d2, d3] }
  | _ => none }
def SampleAlongWrongFalsely : Prop := sampleAlongRow.holds Tryz.pinned (OpenSpec.ofChange sampleAlongWrong)

/-- 'blindfoldlaw26.SamplePairs': WHATEVER THE INPUT: true; the input reads as it did. -/
def samplePairsSpec : ChangeSpec := { name := "samplePairs", fn := fun _ => fun
  | [d1, d2] => { results := [.lit (.bool true)], args := [d1, d2] }
  | _ => none }
def samplePairsRow : OpenClaim := { program := "ytadbccicdbopcaagreat", sum := "5ec93d2d791ead1b6851ff487507556c028b6112ea8ddff7cf555a97a2989562", func := "blindfold/blindfoldlaw26.SamplePairs", spec := "samplePairs", inPlace := ["internal/reflectlite.ValueOf", "internal/reflectlite.Swapper", "(internal/reflectlite.Value).Len"], unfollowed := true, recurses := true, loops := true, plainKeys := false, apart := false }
def SamplePairsSaid : Prop := samplePairsRow.holds Tryz.pinned (OpenSpec.ofChange samplePairsSpec)

/-- ITS FALSE NEIGHBOUR: 'it returns false'. Refute it at one input. -/
def samplePairsWrong : ChangeSpec := { name := "samplePairs", fn := fun _ => fun
  | [d1, d2] => { results := [.lit (.bool false)], args := [d1, d2] }
  | _ => none }
def SamplePairsWrongFalsely : Prop := samplePairsRow.holds Tryz.pinned (OpenSpec.ofChange samplePairsWrong)

/-- 'blindfoldlaw26.SampleUnlike': WHATEVER THE INPUT: true; the input reads as it did. -/
def sampleUnlikeSpec : ChangeSpec := { name := "sampleUnlike", fn := fun _ => fun
  | [d1, d2, d3] => { results := [.lit (.bool true)], args := [d1, d2, d3] }
  | _ => none }
def sampleUnlikeRow : OpenClaim := { program := "ytadbccicdbopcaagreat", sum := "5ec93d2d791ead1b6851ff487507556c028b6112ea8ddff7cf555a97a2989562", func := "blindfold/blindfoldlaw26.SampleUnlike", spec := "sampleUnlike", inPlace := ["internal/reflectlite.ValueOf", "internal/reflectlite.Swapper", "(internal/reflectlite.Value).Len"], unfollowed := true, recurses := true, loops := true, plainKeys := false, apart := false }
def SampleUnlikeSaid : Prop := sampleUnlikeRow.holds Tryz.pinned (OpenSpec.ofChange sampleUnlikeSpec)

/-- ITS FALSE NEIGHBOUR: 'it returns false'. Refute it at one input. -/
def sampleUnlikeWrong : ChangeSpec := { name := "sampleUnlike", fn := fun _ => fun
  | [d1, d2, d3] => { results := [.lit (.bool false)], args := [d1, d2, d3] }
  | _ => none }
def SampleUnlikeWrongFalsely : Prop := sampleUnlikeRow.holds Tryz.pinned (OpenSpec.ofChange sampleUnlikeWrong)

/-- 'blindfoldlaw33.ShapeLeaves': WHATEVER THE INPUT: true; the input reads as it did. -/
def shapeLeavesSpec : ChangeSpec := { name := "shapeLeaves", fn := fun _ => fun
  | [d] => { results := [.lit (.bool true)], args := [d] }
  | _ => none }
def shapeLeavesRow : OpenClaim := { program := "ytadbccicdbopcaagreat", sum := "5ec93d2d791ead1b6851ff487507556c028b6112ea8ddff7cf555a97a2989562", func := "blindfold/blindfoldlaw33.ShapeLeaves", spec := "shapeLeaves", inPlace := ["internal/reflectlite.ValueOf", "internal/reflectlite.Swapper", "(internal/reflectlite.Value).Len", "internal/abi.NoEscape", "internal/bytealg.MakeNoZero"], unfollowed := true, recurses := true, loops := true, plainKeys := false, apart := false }
def ShapeLeavesSaid : Prop := shapeLeavesRow.holds Tryz.pinned (OpenSpec.ofChange shapeLeavesSpec)

/-- ITS FALSE NEIGHBOUR: 'it returns false'. Refute it at one input. -/
def shapeLeavesWrong : ChangeSpec := { name := "shapeLeaves", fn := fun _ => fun
  | [d] => { results := [.lit (.bool false)], args := [d] }
  | _ => none }
def ShapeLeavesWrongFalsely : Prop := shapeLeavesRow.holds Tryz.pinned (OpenSpec.ofChange shapeLeavesWrong)

/-- 'blindfoldlaw33.ShapeCompact': WHATEVER THE INPUT: true; the input reads as it did. -/
def shapeCompactSpec : ChangeSpec := { name := "shapeCompact", fn := fun _ => fun
  | [d1, d2, d3] => { results := [.lit (.bool true)], args := [d1, d2, d3] }
  | _ => none }
def shapeCompactRow : OpenClaim := { program := "ytadbccicdbopcaagreat", sum := "5ec93d2d791ead1b6851ff487507556c028b6112ea8ddff7cf555a97a2989562", func := "blindfold/blindfoldlaw33.ShapeCompact", spec := "shapeCompact", inPlace := ["internal/reflectlite.ValueOf", "internal/reflectlite.Swapper", "(internal/reflectlite.Value).Len", "internal/abi.NoEscape", "internal/bytealg.MakeNoZero"], unfollowed := true, recurses := true, loops := true, plainKeys := false, apart := false }
def ShapeCompactSaid : Prop := shapeCompactRow.holds Tryz.pinned (OpenSpec.ofChange shapeCompactSpec)

/-- ITS FALSE NEIGHBOUR: 'it returns false'. Refute it at one input. -/
def shapeCompactWrong : ChangeSpec := { name := "shapeCompact", fn := fun _ => fun
  | [d1, d2, d3] => { results := [.lit (.bool false)], args := [d1, d2, d3] }
  | _ => none }
def ShapeCompactWrongFalsely : Prop := shapeCompactRow.holds Tryz.pinned (OpenSpec.ofChange shapeCompactWrong)

/-- 'blindfoldlaw33.ShapeDocs': WHATEVER THE INPUT: true; the input reads as it did. -/
def shapeDocsSpec : ChangeSpec := { name := "shapeDocs", fn := fun _ => fun
  | [d1, d2, d3] => { results := [.lit (.bool true)], args := [d1, d2, d3] }
  | _ => none }
def shapeDocsRow : OpenClaim := { program := "ytadbccicdbopcaagreat", sum := "5ec93d2d791ead1b6851ff487507556c028b6112ea8ddff7cf555a97a2989562", func := "blindfold/blindfoldlaw33.ShapeDocs", spec := "shapeDocs", inPlace := ["internal/reflectlite.ValueOf", "internal/reflectlite.Swapper", "(internal/reflectlite.Value).Len", "internal/abi.NoEscape", "internal/bytealg.MakeNoZero"], unfollowed := true, recurses := true, loops := true, plainKeys := false, apart := false }
def ShapeDocsSaid : Prop := shapeDocsRow.holds Tryz.pinned (OpenSpec.ofChange shapeDocsSpec)

/-- ITS FALSE NEIGHBOUR: 'it returns false'. Refute it at one input. -/
def shapeDocsWrong : ChangeSpec := { name := "shapeDocs", fn := fun _ => fun
  | [d1, d2, d3] => { results := [.lit (.bool false)], args := [d1, d2, d3] }
  | _ => none }
def ShapeDocsWrongFalsely : Prop := shapeDocsRow.holds Tryz.pinned (OpenSpec.ofChange shapeDocsWrong)

/- THE SECOND FORM. 'bulk': how many values and letters a reading holds, each counted each time it is reached (what is shared counts as often as it is met; a slice's spare places count too). A statement '..UptoSaid' is the law's where the arguments, and the package variables that the reading takes, are together of bulk at most 1048576: NARROWER than '..Said'. Prove '..Said' where nothing that the law and all that it calls make is longer than what came in: it says more and counts as full. Else prove '..UptoSaid'. A law counts once. -/
mutual
def uptoBulk {H : Type} : DataW H → Nat
  | .lit (.string bytes) => bytes.length + 1
  | .lit _ => 1
  | .nil => 1
  | .ptr d => uptoBulk d + 1
  | .slice elems spare => uptoBulkAll elems + uptoBulkAll spare + 1
  | .agg parts => uptoBulkAll parts + 1
  | .iface _ d => uptoBulk d + 1
  | .map entries => uptoBulkEntries entries + 1
  | .held _ => 1
def uptoBulkAll {H : Type} : List (DataW H) → Nat
  | [] => 0
  | d :: r => uptoBulk d + uptoBulkAll r
def uptoBulkEntries {H : Type} : List (Lit × DataW H) → Nat
  | [] => 0
  | x :: r => uptoBulkEntry x + uptoBulkEntries r
def uptoBulkEntry {H : Type} : Lit × DataW H → Nat
  | (.string bytes, d) => bytes.length + uptoBulk d + 1
  | (_, d) => uptoBulk d + 1
 end
def uptoSmall : (H : Type) → List (DataW H) → Bool := fun _ ds => decide (uptoBulkAll ds ≤ 1048576)
def OpenSpec.upto (s : _root_.Go.ChangeSpec) : _root_.Go.OpenSpec := { _root_.Go.OpenSpec.ofChange s with cond := some uptoSmall }

/-- 'blindfoldlaw43.EvolveNone', WHERE WHAT IT READS IS OF BULK AT MOST 1048576: true; the input reads as it did. -/
def evolveNoneUptoRow : OpenClaim := { program := "ytadbccicdbopcaagreat", sum := "5ec93d2d791ead1b6851ff487507556c028b6112ea8ddff7cf555a97a2989562", func := "blindfold/blindfoldlaw43.EvolveNone", spec := "evolveNone", inPlace := ["internal/reflectlite.ValueOf", "internal/reflectlite.Swapper", "(internal/reflectlite.Value).Len"], unfollowed := true, recurses := true, plainKeys := false, apart := false, narrowed := true }
def EvolveNoneUptoSaid : Prop := evolveNoneUptoRow.holds Tryz.pinned (OpenSpec.upto evolveNoneSpec)

/-- 'blindfoldlaw26.SampleValues', WHERE WHAT IT READS IS OF BULK AT MOST 1048576: true; the input reads as it did. -/
def sampleValuesUptoRow : OpenClaim := { program := "ytadbccicdbopcaagreat", sum := "5ec93d2d791ead1b6851ff487507556c028b6112ea8ddff7cf555a97a2989562", func := "blindfold/blindfoldlaw26.SampleValues", spec := "sampleValues", inPlace := ["internal/reflectlite.ValueOf", "internal/reflectlite.Swapper", "(internal/reflectlite.Value).Len"], unfollowed := true, recurses := true, loops := true, plainKeys := false, apart := false, narrowed := true }
def SampleValuesUptoSaid : Prop := sampleValuesUptoRow.holds Tryz.pinned (OpenSpec.upto sampleValuesSpec)

/-- 'blindfoldlaw25.TreeBack', WHERE WHAT IT READS IS OF BULK AT MOST 1048576: true; the input reads as it did. -/
def treeBackUptoRow : OpenClaim := { program := "ytadbccicdbopcaagreat", sum := "5ec93d2d791ead1b6851ff487507556c028b6112ea8ddff7cf555a97a2989562", func := "blindfold/blindfoldlaw25.TreeBack", spec := "treeBack", inPlace := ["internal/reflectlite.ValueOf", "internal/reflectlite.Swapper", "(internal/reflectlite.Value).Len"], unfollowed := true, recurses := true, loops := true, plainKeys := false, apart := false, narrowed := true }
def TreeBackUptoSaid : Prop := treeBackUptoRow.holds Tryz.pinned (OpenSpec.upto treeBackSpec)

/-- 'blindfoldlaw17.UnparseBack', WHERE WHAT IT READS IS OF BULK AT MOST 1048576: true; the input reads as it did. -/
def unparseBackUptoRow : OpenClaim := { program := "ytadbccicdbopcaagreat", sum := "5ec93d2d791ead1b6851ff487507556c028b6112ea8ddff7cf555a97a2989562", func := "blindfold/blindfoldlaw17.UnparseBack", spec := "unparseBack", inPlace := ["internal/reflectlite.ValueOf", "internal/reflectlite.Swapper", "(internal/reflectlite.Value).Len", "internal/abi.NoEscape", "internal/bytealg.MakeNoZero", "internal/bytealg.IndexByteString"], unfollowed := true, recurses := true, loops := true, plainKeys := false, apart := false, narrowed := true }
def UnparseBackUptoSaid : Prop := unparseBackUptoRow.holds Tryz.pinned (OpenSpec.upto unparseBackSpec)

/-- 'blindfoldlaw28.AlikeUnseen', WHERE WHAT IT READS IS OF BULK AT MOST 1048576: true; the input reads as it did. -/
def alikeUnseenUptoRow : OpenClaim := { program := "ytadbccicdbopcaagreat", sum := "5ec93d2d791ead1b6851ff487507556c028b6112ea8ddff7cf555a97a2989562", func := "blindfold/blindfoldlaw28.AlikeUnseen", spec := "alikeUnseen", inPlace := ["internal/reflectlite.ValueOf", "internal/reflectlite.Swapper", "(internal/reflectlite.Value).Len"], unfollowed := true, recurses := true, loops := true, plainKeys := false, apart := false, narrowed := true }
def AlikeUnseenUptoSaid : Prop := alikeUnseenUptoRow.holds Tryz.pinned (OpenSpec.upto alikeUnseenSpec)

/-- 'blindfoldlaw26.SampleAlong', WHERE WHAT IT READS IS OF BULK AT MOST 1048576: true; the input reads as it did. -/
def sampleAlongUptoRow : OpenClaim := { program := "ytadbccicdbopcaagreat", sum := "5ec93d2d791ead1b6851ff487507556c028b6112ea8ddff7cf555a97a2989562", func := "blindfold/blindfoldlaw26.SampleAlong", spec := "sampleAlong", inPlace := ["internal/reflectlite.ValueOf", "internal/reflectlite.Swapper", "(internal/reflectlite.Value).Len"], unfollowed := true, recurses := true, loops := true, plainKeys := false, apart := false, narrowed := true }
def SampleAlongUptoSaid : Prop := sampleAlongUptoRow.holds Tryz.pinned (OpenSpec.upto sampleAlongSpec)

/-- 'blindfoldlaw26.SamplePairs', WHERE WHAT IT READS IS OF BULK AT MOST 1048576: true; the input reads as it did. -/
def samplePairsUptoRow : OpenClaim := { program := "ytadbccicdbopcaagreat", sum := "5ec93d2d791ead1b6851ff487507556c028b6112ea8ddff7cf555a97a2989562", func := "blindfold/blindfoldlaw26.SamplePairs", spec := "samplePairs", inPlace := ["internal/reflectlite.ValueOf", "internal/reflectlite.Swapper", "(internal/reflectlite.Value).Len"], unfollowed := true, recurses := true, loops := true, plainKeys := false, apart := false, narrowed := true }
def SamplePairsUptoSaid : Prop := samplePairsUptoRow.holds Tryz.pinned (OpenSpec.upto samplePairsSpec)

/-- 'blindfoldlaw26.SampleUnlike', WHERE WHAT IT READS IS OF BULK AT MOST 1048576: true; the input reads as it did. -/
def sampleUnlikeUptoRow : OpenClaim := { program := "ytadbccicdbopcaagreat", sum := "5ec93d2d791ead1b6851ff487507556c028b6112ea8ddff7cf555a97a2989562", func := "blindfold/blindfoldlaw26.SampleUnlike", spec := "sampleUnlike", inPlace := ["internal/reflectlite.ValueOf", "internal/reflectlite.Swapper", "(internal/reflectlite.Value).Len"], unfollowed := true, recurses := true, loops := true, plainKeys := false, apart := false, narrowed := true }
def SampleUnlikeUptoSaid : Prop := sampleUnlikeUptoRow.holds Tryz.pinned (OpenSpec.upto sampleUnlikeSpec)

/-- 'blindfoldlaw33.ShapeLeaves', WHERE WHAT IT READS IS OF BULK AT MOST 1048576: true; the input reads as it did. -/
def shapeLeavesUptoRow : OpenClaim := { program := "ytadbccicdbopcaagreat", sum := "5ec93d2d791ead1b6851ff487507556c028b6112ea8ddff7cf555a97a2989562", func := "blindfold/blindfoldlaw33.ShapeLeaves", spec := "shapeLeaves", inPlace := ["internal/reflectlite.ValueOf", "internal/reflectlite.Swapper", "(internal/reflectlite.Value).Len", "internal/abi.NoEscape", "internal/bytealg.MakeNoZero"], unfollowed := true, recurses := true, loops := true, plainKeys := false, apart := false, narrowed := true }
def ShapeLeavesUptoSaid : Prop := shapeLeavesUptoRow.holds Tryz.pinned (OpenSpec.upto shapeLeavesSpec)

/-- 'blindfoldlaw33.ShapeCompact', WHERE WHAT IT READS IS OF BULK AT MOST 1048576: true; the input reads as it did. -/
def shapeCompactUptoRow : OpenClaim := { program := "ytadbccicdbopcaagreat", sum := "5ec93d2d791ead1b6851ff487507556c028b6112ea8ddff7cf555a97a2989562", func := "blindfold/blindfoldlaw33.ShapeCompact", spec := "shapeCompact", inPlace := ["internal/reflectlite.ValueOf", "internal/reflectlite.Swapper", "(internal/reflectlite.Value).Len", "internal/abi.NoEscape", "internal/bytealg.MakeNoZero"], unfollowed := true, recurses := true, loops := true, plainKeys := false, apart := false, narrowed := true }
def ShapeCompactUptoSaid : Prop := shapeCompactUptoRow.holds Tryz.pinned (OpenSpec.upto shapeCompactSpec)

/-- 'blindfoldlaw33.ShapeDocs', WHERE WHAT IT READS IS OF BULK AT MOST 1048576: true; the input reads as it did. -/
def shapeDocsUptoRow : OpenClaim := { program := "ytadbccicdbopcaagreat", sum := "5ec93d2d791ead1b6851ff487507556c028b6112ea8ddff7cf555a97a2989562", func := "blindfold/blindfoldlaw33.ShapeDocs", spec := "shapeDocs", inPlace := ["internal/reflectlite.ValueOf", "internal/reflectlite.Swapper", "(internal/reflectlite.Value).Len", "internal/abi.NoEscape", "internal/bytealg.MakeNoZero"], unfollowed := true, recurses := true, loops := true, plainKeys := false, apart := false, narrowed := true }
def ShapeDocsUptoSaid : Prop := shapeDocsUptoRow.holds Tryz.pinned (OpenSpec.upto shapeDocsSpec)

end Rows
end Go.Proofs.YtadbccicdbopcaaGreat
