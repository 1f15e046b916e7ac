/-
  NARROWER THAN 'FOR EVERY INPUT', by the rows' own cells (each row's printed sentence says how): TreeBack: loops · ShapeLeaves: loops · ShapeCompact: loops · ShapeDocs: loops.
  DERIVED. THE GIVEN ROWS OF THIS SEAT. 5 by the template 'for every input the law returns true; each argument reads behind the call as it read before'; 0 by the template 'total and deterministic' (their statements: YtfifjddnnmfeoaaGreatTotals.lean).
  GIVEN WITH THE SEED: the statements are not yours to turn. If you find one false, say at which input.
  Laid BY PROGRAM, IN A SANDBOX (cutbox-rows.mjs): the forced cells as the released guide's own fill.sh prints them over the translation dd7c4037cb17d08c… (all of the seat's roots in one cut). By AI agents, Wed Nov 11 2026. No macro, syntax, notation, axiom, sorry.
-/
import Derived.Test.YtfifjddnnmfeoaaGreatChecked
import GoSem.Claim
import GoSem.ClaimJoined
import GoSem.ClaimMapViews
import Derived.JoinedTies
import Derived.KernelRfl
namespace Go.Proofs.YtfifjddnnmfeoaaGreat
/- THE CELL 'sum', in the pinned program and in every row, IS THE sha256 OF THE DUMP (.gsa) THAT YtfifjddnnmfeoaaGreatProg.lean LOADS. Nothing in Lean hashes anything: it is a label: what it is worth is what the hold of that sum in a sandbox is worth. -/
noncomputable def Tryz.pinned : Pinned := { name := "ytfifjddnnmfeoaagreat", sum := "dd7c4037cb17d08c4ff9e3b377c0102e8b6cf88ddd700da6dbbdf240eac0ebc9", checked := Tryz.checked }
namespace Rows
def none {H : Type} : Left H := { results := [], args := [] }

/-- 'blindfoldlaw43.EvolveNone': WHATEVER THE INPUT: true; the input reads as it did. -/
def evolveNoneSpec : ChangeSpec := { name := "evolveNone", fn := fun _ => fun
  | [d] => { results := [.lit (.bool true)], args := [d] }
  | _ => none }
def evolveNoneRow : OpenClaim := { program := "ytfifjddnnmfeoaagreat", sum := "dd7c4037cb17d08c4ff9e3b377c0102e8b6cf88ddd700da6dbbdf240eac0ebc9", func := "blindfold/blindfoldlaw43.EvolveNone", spec := "evolveNone", inPlace := ["internal/reflectlite.ValueOf", "internal/reflectlite.Swapper", "(internal/reflectlite.Value).Len"], unfollowed := true, recurses := true, plainKeys := false, apart := false }
def EvolveNoneSaid : Prop := evolveNoneRow.holds Tryz.pinned (OpenSpec.ofChange evolveNoneSpec)

/-- ITS FALSE NEIGHBOUR: 'it returns false'. Refute it at one input. -/
def evolveNoneWrong : ChangeSpec := { name := "evolveNone", fn := fun _ => fun
  | [d] => { results := [.lit (.bool false)], args := [d] }
  | _ => none }
def EvolveNoneWrongFalsely : Prop := evolveNoneRow.holds Tryz.pinned (OpenSpec.ofChange evolveNoneWrong)

/-- 'blindfoldlaw25.TreeBack': WHATEVER THE INPUT: true; the input reads as it did. -/
def treeBackSpec : ChangeSpec := { name := "treeBack", fn := fun _ => fun
  | [d1, d2, d3] => { results := [.lit (.bool true)], args := [d1, d2, d3] }
  | _ => none }
def treeBackRow : OpenClaim := { program := "ytfifjddnnmfeoaagreat", sum := "dd7c4037cb17d08c4ff9e3b377c0102e8b6cf88ddd700da6dbbdf240eac0ebc9", func := "blindfold/blindfoldlaw25.TreeBack", spec := "treeBack", inPlace := ["internal/reflectlite.ValueOf", "internal/reflectlite.Swapper", "(internal/reflectlite.Value).Len"], unfollowed := true, recurses := true, loops := true, plainKeys := false, apart := false }
def TreeBackSaid : Prop := treeBackRow.holds Tryz.pinned (OpenSpec.ofChange treeBackSpec)

/-- ITS FALSE NEIGHBOUR: 'it returns false'. Refute it at one input. -/
def treeBackWrong : ChangeSpec := { name := "treeBack", fn := fun _ => fun
  | [d1, d2, d3] => { results := [.lit (.bool false)], args := [d1, d2, d3] }
  | _ => none }
def TreeBackWrongFalsely : Prop := treeBackRow.holds Tryz.pinned (OpenSpec.ofChange treeBackWrong)

/-- 'blindfoldlaw33.ShapeLeaves': WHATEVER THE INPUT: true; the input reads as it did. -/
def shapeLeavesSpec : ChangeSpec := { name := "shapeLeaves", fn := fun _ => fun
  | [d] => { results := [.lit (.bool true)], args := [d] }
  | _ => none }
def shapeLeavesRow : OpenClaim := { program := "ytfifjddnnmfeoaagreat", sum := "dd7c4037cb17d08c4ff9e3b377c0102e8b6cf88ddd700da6dbbdf240eac0ebc9", func := "blindfold/blindfoldlaw33.ShapeLeaves", spec := "shapeLeaves", inPlace := ["internal/reflectlite.ValueOf", "internal/reflectlite.Swapper", "(internal/reflectlite.Value).Len", "internal/abi.NoEscape", "internal/bytealg.MakeNoZero"], unfollowed := true, recurses := true, loops := true, plainKeys := false, apart := false }
def ShapeLeavesSaid : Prop := shapeLeavesRow.holds Tryz.pinned (OpenSpec.ofChange shapeLeavesSpec)

/-- ITS FALSE NEIGHBOUR: 'it returns false'. Refute it at one input. -/
def shapeLeavesWrong : ChangeSpec := { name := "shapeLeaves", fn := fun _ => fun
  | [d] => { results := [.lit (.bool false)], args := [d] }
  | _ => none }
def ShapeLeavesWrongFalsely : Prop := shapeLeavesRow.holds Tryz.pinned (OpenSpec.ofChange shapeLeavesWrong)

/-- 'blindfoldlaw33.ShapeCompact': WHATEVER THE INPUT: true; the input reads as it did. -/
def shapeCompactSpec : ChangeSpec := { name := "shapeCompact", fn := fun _ => fun
  | [d1, d2, d3] => { results := [.lit (.bool true)], args := [d1, d2, d3] }
  | _ => none }
def shapeCompactRow : OpenClaim := { program := "ytfifjddnnmfeoaagreat", sum := "dd7c4037cb17d08c4ff9e3b377c0102e8b6cf88ddd700da6dbbdf240eac0ebc9", func := "blindfold/blindfoldlaw33.ShapeCompact", spec := "shapeCompact", inPlace := ["internal/reflectlite.ValueOf", "internal/reflectlite.Swapper", "(internal/reflectlite.Value).Len", "internal/abi.NoEscape", "internal/bytealg.MakeNoZero"], unfollowed := true, recurses := true, loops := true, plainKeys := false, apart := false }
def ShapeCompactSaid : Prop := shapeCompactRow.holds Tryz.pinned (OpenSpec.ofChange shapeCompactSpec)

/-- ITS FALSE NEIGHBOUR: 'it returns false'. Refute it at one input. -/
def shapeCompactWrong : ChangeSpec := { name := "shapeCompact", fn := fun _ => fun
  | [d1, d2, d3] => { results := [.lit (.bool false)], args := [d1, d2, d3] }
  | _ => none }
def ShapeCompactWrongFalsely : Prop := shapeCompactRow.holds Tryz.pinned (OpenSpec.ofChange shapeCompactWrong)

/-- 'blindfoldlaw33.ShapeDocs': WHATEVER THE INPUT: true; the input reads as it did. -/
def shapeDocsSpec : ChangeSpec := { name := "shapeDocs", fn := fun _ => fun
  | [d1, d2, d3] => { results := [.lit (.bool true)], args := [d1, d2, d3] }
  | _ => none }
def shapeDocsRow : OpenClaim := { program := "ytfifjddnnmfeoaagreat", sum := "dd7c4037cb17d08c4ff9e3b377c0102e8b6cf88ddd700da6dbbdf240eac0ebc9", func := "blindfold/blindfoldlaw33.ShapeDocs", spec := "shapeDocs", inPlace := ["internal/reflectlite.ValueOf", "internal/reflectlite.Swapper", "(internal/reflectlite.Value).Len", "internal/abi.NoEscape", "internal/bytealg.MakeNoZero"], unfollowed := true, recurses := true, loops := true, plainKeys := false, apart := false }
def ShapeDocsSaid : Prop := shapeDocsRow.holds Tryz.pinned (OpenSpec.ofChange shapeDocsSpec)

/-- ITS FALSE NEIGHBOUR: 'it returns false'. Refute it at one input. -/
def shapeDocsWrong : ChangeSpec := { name := "shapeDocs", fn := fun _ => fun
  | [d1, d2, d3] => { results := [.lit (.bool false)], args := [d1, d2, d3] }
  | _ => none }
def ShapeDocsWrongFalsely : Prop := shapeDocsRow.holds Tryz.pinned (OpenSpec.ofChange shapeDocsWrong)

/- THE SECOND FORM. 'bulk': how many values and letters a reading holds, each counted each time it is reached (what is shared counts as often as it is met; a slice's spare places count too). A statement '..UptoSaid' is the law's where the arguments, and the package variables that the reading takes, are together of bulk at most 1048576: NARROWER than '..Said'. Prove '..Said' where nothing that the law and all that it calls make is longer than what came in: it says more and counts as full. Else prove '..UptoSaid'. A law counts once. -/
mutual
def uptoBulk {H : Type} : DataW H → Nat
  | .lit (.string bytes) => bytes.length + 1
  | .lit _ => 1
  | .nil => 1
  | .ptr d => uptoBulk d + 1
  | .slice elems spare => uptoBulkAll elems + uptoBulkAll spare + 1
  | .agg parts => uptoBulkAll parts + 1
  | .iface _ d => uptoBulk d + 1
  | .map entries => uptoBulkEntries entries + 1
  | .held _ => 1
def uptoBulkAll {H : Type} : List (DataW H) → Nat
  | [] => 0
  | d :: r => uptoBulk d + uptoBulkAll r
def uptoBulkEntries {H : Type} : List (Lit × DataW H) → Nat
  | [] => 0
  | x :: r => uptoBulkEntry x + uptoBulkEntries r
def uptoBulkEntry {H : Type} : Lit × DataW H → Nat
  | (.string bytes, d) => bytes.length + uptoBulk d + 1
  | (_, d) => uptoBulk d + 1
 end
def uptoSmall : (H : Type) → List (DataW H) → Bool := fun _ ds => decide (uptoBulkAll ds ≤ 1048576)
def OpenSpec.upto (s : _root_.Go.ChangeSpec) : _root_.Go.OpenSpec := { _root_.Go.OpenSpec.ofChange s with cond := some uptoSmall }

/-- 'blindfoldlaw43.EvolveNone', WHERE WHAT IT READS IS OF BULK AT MOST 1048576: true; the input reads as it did. -/
def evolveNoneUptoRow : OpenClaim := { program := "ytfifjddnnmfeoaagreat", sum := "dd7c4037cb17d08c4ff9e3b377c0102e8b6cf88ddd700da6dbbdf240eac0ebc9", func := "blindfold/blindfoldlaw43.EvolveNone", spec := "evolveNone", inPlace := ["internal/reflectlite.ValueOf", "internal/reflectlite.Swapper", "(internal/reflectlite.Value).Len"], unfollowed := true, recurses := true, plainKeys := false, apart := false, narrowed := true }
def EvolveNoneUptoSaid : Prop := evolveNoneUptoRow.holds Tryz.pinned (OpenSpec.upto evolveNoneSpec)

/-- 'blindfoldlaw25.TreeBack', WHERE WHAT IT READS IS OF BULK AT MOST 1048576: true; the input reads as it did. -/
def treeBackUptoRow : OpenClaim := { program := "ytfifjddnnmfeoaagreat", sum := "dd7c4037cb17d08c4ff9e3b377c0102e8b6cf88ddd700da6dbbdf240eac0ebc9", func := "blindfold/blindfoldlaw25.TreeBack", spec := "treeBack", inPlace := ["internal/reflectlite.ValueOf", "internal/reflectlite.Swapper", "(internal/reflectlite.Value).Len"], unfollowed := true, recurses := true, loops := true, plainKeys := false, apart := false, narrowed := true }
def TreeBackUptoSaid : Prop := treeBackUptoRow.holds Tryz.pinned (OpenSpec.upto treeBackSpec)

/-- 'blindfoldlaw33.ShapeLeaves', WHERE WHAT IT READS IS OF BULK AT MOST 1048576: true; the input reads as it did. -/
def shapeLeavesUptoRow : OpenClaim := { program := "ytfifjddnnmfeoaagreat", sum := "dd7c4037cb17d08c4ff9e3b377c0102e8b6cf88ddd700da6dbbdf240eac0ebc9", func := "blindfold/blindfoldlaw33.ShapeLeaves", spec := "shapeLeaves", inPlace := ["internal/reflectlite.ValueOf", "internal/reflectlite.Swapper", "(internal/reflectlite.Value).Len", "internal/abi.NoEscape", "internal/bytealg.MakeNoZero"], unfollowed := true, recurses := true, loops := true, plainKeys := false, apart := false, narrowed := true }
def ShapeLeavesUptoSaid : Prop := shapeLeavesUptoRow.holds Tryz.pinned (OpenSpec.upto shapeLeavesSpec)

/-- 'blindfoldlaw33.ShapeCompact', WHERE WHAT IT READS IS OF BULK AT MOST 1048576: true; the input reads as it did. -/
def shapeCompactUptoRow : OpenClaim := { program := "ytfifjddnnmfeoaagreat", sum := "dd7c4037cb17d08c4ff9e3b377c0102e8b6cf88ddd700da6dbbdf240eac0ebc9", func := "blindfold/blindfoldlaw33.ShapeCompact", spec := "shapeCompact", inPlace := ["internal/reflectlite.ValueOf", "internal/reflectlite.Swapper", "(internal/reflectlite.Value).Len", "internal/abi.NoEscape", "internal/bytealg.MakeNoZero"], unfollowed := true, recurses := true, loops := true, plainKeys := false, apart := false, narrowed := true }
def ShapeCompactUptoSaid : Prop := shapeCompactUptoRow.holds Tryz.pinned (OpenSpec.upto shapeCompactSpec)

/-- 'blindfoldlaw33.ShapeDocs', WHERE WHAT IT READS IS OF BULK AT MOST 1048576: true; the input reads as it did. -/
def shapeDocsUptoRow : OpenClaim := { program := "ytfifjddnnmfeoaagreat", sum := "dd7c4037cb17d08c4ff9e3b377c0102e8b6cf88ddd700da6dbbdf240eac0ebc9", func := "blindfold/blindfoldlaw33.ShapeDocs", spec := "shapeDocs", inPlace := ["internal/reflectlite.ValueOf", "internal/reflectlite.Swapper", "(internal/reflectlite.Value).Len", "internal/abi.NoEscape", "internal/bytealg.MakeNoZero"], unfollowed := true, recurses := true, loops := true, plainKeys := false, apart := false, narrowed := true }
def ShapeDocsUptoSaid : Prop := shapeDocsUptoRow.holds Tryz.pinned (OpenSpec.upto shapeDocsSpec)

end Rows
end Go.Proofs.YtfifjddnnmfeoaaGreat
