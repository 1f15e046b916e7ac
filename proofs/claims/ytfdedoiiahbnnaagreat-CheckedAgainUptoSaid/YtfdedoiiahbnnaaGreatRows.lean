/-
  NARROWER THAN 'FOR EVERY INPUT', by the rows' own cells (each row's printed sentence says how): CheckedSchemas: loops · CheckedObservers: loops · CheckedAgain: loops · TypedParses: loops · TypedOrder: loops · UnparseBack: loops.
  DERIVED. THE GIVEN ROWS OF THIS SEAT. 7 by the template 'for every input the law returns true; each argument reads behind the call as it read before'; 0 by the template 'total and deterministic' (their statements: YtfdedoiiahbnnaaGreatTotals.lean).
  GIVEN WITH THE SEED: the statements are not yours to turn. If you find one false, say at which input.
  Laid BY PROGRAM, IN A SANDBOX (cutbox-rows.mjs): the forced cells as the released guide's own fill.sh prints them over the translation 75a1557b1adfb177… (all of the seat's roots in one cut). By AI agents, Wed Nov 11 2026. No macro, syntax, notation, axiom, sorry.
-/
import Derived.Test.YtfdedoiiahbnnaaGreatChecked
import GoSem.Claim
import GoSem.ClaimJoined
import GoSem.ClaimMapViews
import Derived.JoinedTies
import Derived.KernelRfl
namespace Go.Proofs.YtfdedoiiahbnnaaGreat
/- THE CELL 'sum', in the pinned program and in every row, IS THE sha256 OF THE DUMP (.gsa) THAT YtfdedoiiahbnnaaGreatProg.lean LOADS. Nothing in Lean hashes anything: it is a label: what it is worth is what the hold of that sum in a sandbox is worth. -/
noncomputable def Tryz.pinned : Pinned := { name := "ytfdedoiiahbnnaagreat", sum := "75a1557b1adfb177633ce778369255a722a75c5d91e21ff154c32165ebac160e", checked := Tryz.checked }
namespace Rows
def none {H : Type} : Left H := { results := [], args := [] }

/-- 'blindfoldlaw21.CheckedTexts': WHATEVER THE INPUT: true; the input reads as it did. -/
def checkedTextsSpec : ChangeSpec := { name := "checkedTexts", fn := fun _ => fun
  | [d] => { results := [.lit (.bool true)], args := [d] }
  | _ => none }
def checkedTextsRow : OpenClaim := { program := "ytfdedoiiahbnnaagreat", sum := "75a1557b1adfb177633ce778369255a722a75c5d91e21ff154c32165ebac160e", func := "blindfold/blindfoldlaw21.CheckedTexts", spec := "checkedTexts", inPlace := ["internal/bytealg.IndexByteString", "internal/abi.NoEscape", "internal/reflectlite.ValueOf", "internal/reflectlite.Swapper", "(internal/reflectlite.Value).Len"], unfollowed := true, recurses := true, apart := false }
def CheckedTextsSaid : Prop := checkedTextsRow.holds Tryz.pinned (OpenSpec.ofChange checkedTextsSpec)

/-- ITS FALSE NEIGHBOUR: 'it returns false'. Refute it at one input. -/
def checkedTextsWrong : ChangeSpec := { name := "checkedTexts", fn := fun _ => fun
  | [d] => { results := [.lit (.bool false)], args := [d] }
  | _ => none }
def CheckedTextsWrongFalsely : Prop := checkedTextsRow.holds Tryz.pinned (OpenSpec.ofChange checkedTextsWrong)

/-- 'blindfoldlaw21.CheckedSchemas': WHATEVER THE INPUT: true; the input reads as it did. -/
def checkedSchemasSpec : ChangeSpec := { name := "checkedSchemas", fn := fun _ => fun
  | [d] => { results := [.lit (.bool true)], args := [d] }
  | _ => none }
def checkedSchemasRow : OpenClaim := { program := "ytfdedoiiahbnnaagreat", sum := "75a1557b1adfb177633ce778369255a722a75c5d91e21ff154c32165ebac160e", func := "blindfold/blindfoldlaw21.CheckedSchemas", spec := "checkedSchemas", inPlace := ["internal/bytealg.IndexByteString", "internal/abi.NoEscape", "internal/reflectlite.ValueOf", "internal/reflectlite.Swapper", "(internal/reflectlite.Value).Len"], unfollowed := true, recurses := true, loops := true, apart := false }
def CheckedSchemasSaid : Prop := checkedSchemasRow.holds Tryz.pinned (OpenSpec.ofChange checkedSchemasSpec)

/-- ITS FALSE NEIGHBOUR: 'it returns false'. Refute it at one input. -/
def checkedSchemasWrong : ChangeSpec := { name := "checkedSchemas", fn := fun _ => fun
  | [d] => { results := [.lit (.bool false)], args := [d] }
  | _ => none }
def CheckedSchemasWrongFalsely : Prop := checkedSchemasRow.holds Tryz.pinned (OpenSpec.ofChange checkedSchemasWrong)

/-- 'blindfoldlaw21.CheckedObservers': WHATEVER THE INPUT: true; the input reads as it did. -/
def checkedObserversSpec : ChangeSpec := { name := "checkedObservers", fn := fun _ => fun
  | [d1, d2] => { results := [.lit (.bool true)], args := [d1, d2] }
  | _ => none }
def checkedObserversRow : OpenClaim := { program := "ytfdedoiiahbnnaagreat", sum := "75a1557b1adfb177633ce778369255a722a75c5d91e21ff154c32165ebac160e", func := "blindfold/blindfoldlaw21.CheckedObservers", spec := "checkedObservers", inPlace := ["internal/bytealg.IndexByteString", "internal/abi.NoEscape", "internal/reflectlite.ValueOf", "internal/reflectlite.Swapper", "(internal/reflectlite.Value).Len"], unfollowed := true, recurses := true, loops := true, apart := false }
def CheckedObserversSaid : Prop := checkedObserversRow.holds Tryz.pinned (OpenSpec.ofChange checkedObserversSpec)

/-- ITS FALSE NEIGHBOUR: 'it returns false'. Refute it at one input. -/
def checkedObserversWrong : ChangeSpec := { name := "checkedObservers", fn := fun _ => fun
  | [d1, d2] => { results := [.lit (.bool false)], args := [d1, d2] }
  | _ => none }
def CheckedObserversWrongFalsely : Prop := checkedObserversRow.holds Tryz.pinned (OpenSpec.ofChange checkedObserversWrong)

/-- 'blindfoldlaw21.CheckedAgain': WHATEVER THE INPUT: true; the input reads as it did. -/
def checkedAgainSpec : ChangeSpec := { name := "checkedAgain", fn := fun _ => fun
  | [d] => { results := [.lit (.bool true)], args := [d] }
  | _ => none }
def checkedAgainRow : OpenClaim := { program := "ytfdedoiiahbnnaagreat", sum := "75a1557b1adfb177633ce778369255a722a75c5d91e21ff154c32165ebac160e", func := "blindfold/blindfoldlaw21.CheckedAgain", spec := "checkedAgain", inPlace := ["internal/bytealg.IndexByteString", "internal/abi.NoEscape", "internal/reflectlite.ValueOf", "internal/reflectlite.Swapper", "(internal/reflectlite.Value).Len", "internal/bytealg.MakeNoZero"], unfollowed := true, recurses := true, loops := true, apart := false }
def CheckedAgainSaid : Prop := checkedAgainRow.holds Tryz.pinned (OpenSpec.ofChange checkedAgainSpec)

/-- ITS FALSE NEIGHBOUR: 'it returns false'. Refute it at one input. -/
def checkedAgainWrong : ChangeSpec := { name := "checkedAgain", fn := fun _ => fun
  | [d] => { results := [.lit (.bool false)], args := [d] }
  | _ => none }
def CheckedAgainWrongFalsely : Prop := checkedAgainRow.holds Tryz.pinned (OpenSpec.ofChange checkedAgainWrong)

/-- 'blindfoldlaw24.TypedParses': WHATEVER THE INPUT: true; the input reads as it did. -/
def typedParsesSpec : ChangeSpec := { name := "typedParses", fn := fun _ => fun
  | [d1, d2] => { results := [.lit (.bool true)], args := [d1, d2] }
  | _ => none }
def typedParsesRow : OpenClaim := { program := "ytfdedoiiahbnnaagreat", sum := "75a1557b1adfb177633ce778369255a722a75c5d91e21ff154c32165ebac160e", func := "blindfold/blindfoldlaw24.TypedParses", spec := "typedParses", inPlace := ["internal/reflectlite.ValueOf", "internal/reflectlite.Swapper", "(internal/reflectlite.Value).Len", "internal/bytealg.IndexByteString", "internal/abi.NoEscape"], unfollowed := true, recurses := true, loops := true, apart := false }
def TypedParsesSaid : Prop := typedParsesRow.holds Tryz.pinned (OpenSpec.ofChange typedParsesSpec)

/-- ITS FALSE NEIGHBOUR: 'it returns false'. Refute it at one input. -/
def typedParsesWrong : ChangeSpec := { name := "typedParses", fn := fun _ => fun
  | [d1, d2] => { results := [.lit (.bool false)], args := [d1, d2] }
  | _ => none }
def TypedParsesWrongFalsely : Prop := typedParsesRow.holds Tryz.pinned (OpenSpec.ofChange typedParsesWrong)

/-- 'blindfoldlaw24.TypedOrder': WHATEVER THE INPUT: true; the input reads as it did. -/
def typedOrderSpec : ChangeSpec := { name := "typedOrder", fn := fun _ => fun
  | [d1, d2] => { results := [.lit (.bool true)], args := [d1, d2] }
  | _ => none }
def typedOrderRow : OpenClaim := { program := "ytfdedoiiahbnnaagreat", sum := "75a1557b1adfb177633ce778369255a722a75c5d91e21ff154c32165ebac160e", func := "blindfold/blindfoldlaw24.TypedOrder", spec := "typedOrder", inPlace := ["internal/reflectlite.ValueOf", "internal/reflectlite.Swapper", "(internal/reflectlite.Value).Len", "internal/bytealg.IndexByteString", "internal/abi.NoEscape"], unfollowed := true, recurses := true, loops := true, apart := false }
def TypedOrderSaid : Prop := typedOrderRow.holds Tryz.pinned (OpenSpec.ofChange typedOrderSpec)

/-- ITS FALSE NEIGHBOUR: 'it returns false'. Refute it at one input. -/
def typedOrderWrong : ChangeSpec := { name := "typedOrder", fn := fun _ => fun
  | [d1, d2] => { results := [.lit (.bool false)], args := [d1, d2] }
  | _ => none }
def TypedOrderWrongFalsely : Prop := typedOrderRow.holds Tryz.pinned (OpenSpec.ofChange typedOrderWrong)

/-- 'blindfoldlaw17.UnparseBack': WHATEVER THE INPUT: true; the input reads as it did. -/
def unparseBackSpec : ChangeSpec := { name := "unparseBack", fn := fun _ => fun
  | [d1, d2] => { results := [.lit (.bool true)], args := [d1, d2] }
  | _ => none }
def unparseBackRow : OpenClaim := { program := "ytfdedoiiahbnnaagreat", sum := "75a1557b1adfb177633ce778369255a722a75c5d91e21ff154c32165ebac160e", func := "blindfold/blindfoldlaw17.UnparseBack", spec := "unparseBack", inPlace := ["internal/reflectlite.ValueOf", "internal/reflectlite.Swapper", "(internal/reflectlite.Value).Len", "internal/abi.NoEscape", "internal/bytealg.MakeNoZero", "internal/bytealg.IndexByteString"], unfollowed := true, recurses := true, loops := true, apart := false }
def UnparseBackSaid : Prop := unparseBackRow.holds Tryz.pinned (OpenSpec.ofChange unparseBackSpec)

/-- ITS FALSE NEIGHBOUR: 'it returns false'. Refute it at one input. -/
def unparseBackWrong : ChangeSpec := { name := "unparseBack", fn := fun _ => fun
  | [d1, d2] => { results := [.lit (.bool false)], args := [d1, d2] }
  | _ => none }
def UnparseBackWrongFalsely : Prop := unparseBackRow.holds Tryz.pinned (OpenSpec.ofChange unparseBackWrong)

/- THE SECOND FORM. 'bulk': how many values and letters a reading holds, each counted each time it is reached (what is shared counts as often as it is met; a slice's spare places count too). A statement '..UptoSaid' is the law's where the arguments, and the package variables that the reading takes, are together of bulk at most 1048576: NARROWER than '..Said'. Prove '..Said' where nothing that the law and all that it calls make is longer than what came in: it says more and counts as full. Else prove '..UptoSaid'. A law counts once. -/
mutual
def uptoBulk {H : Type} : DataW H → Nat
  | .lit (.string bytes) => bytes.length + 1
  | .lit _ => 1
  | .nil => 1
  | .ptr d => uptoBulk d + 1
  | .slice elems spare => uptoBulkAll elems + uptoBulkAll spare + 1
  | .agg parts => uptoBulkAll parts + 1
  | .iface _ d => uptoBulk d + 1
  | .map entries => uptoBulkEntries entries + 1
  | .held _ => 1
def uptoBulkAll {H : Type} : List (DataW H) → Nat
  | [] => 0
  | d :: r => uptoBulk d + uptoBulkAll r
def uptoBulkEntries {H : Type} : List (Lit × DataW H) → Nat
  | [] => 0
  | x :: r => uptoBulkEntry x + uptoBulkEntries r
def uptoBulkEntry {H : Type} : Lit × DataW H → Nat
  | (.string bytes, d) => bytes.length + uptoBulk d + 1
  | (_, d) => uptoBulk d + 1
 end
def uptoSmall : (H : Type) → List (DataW H) → Bool := fun _ ds => decide (uptoBulkAll ds ≤ 1048576)
def OpenSpec.upto (s : _root_.Go.ChangeSpec) : _root_.Go.OpenSpec := { _root_.Go.OpenSpec.ofChange s with cond := some uptoSmall }

/-- 'blindfoldlaw21.CheckedTexts', WHERE WHAT IT READS IS OF BULK AT MOST 1048576: true; the input reads as it did. -/
def checkedTextsUptoRow : OpenClaim := { program := "ytfdedoiiahbnnaagreat", sum := "75a1557b1adfb177633ce778369255a722a75c5d91e21ff154c32165ebac160e", func := "blindfold/blindfoldlaw21.CheckedTexts", spec := "checkedTexts", inPlace := ["internal/bytealg.IndexByteString", "internal/abi.NoEscape", "internal/reflectlite.ValueOf", "internal/reflectlite.Swapper", "(internal/reflectlite.Value).Len"], unfollowed := true, recurses := true, apart := false, narrowed := true }
def CheckedTextsUptoSaid : Prop := checkedTextsUptoRow.holds Tryz.pinned (OpenSpec.upto checkedTextsSpec)

/-- 'blindfoldlaw21.CheckedSchemas', WHERE WHAT IT READS IS OF BULK AT MOST 1048576: true; the input reads as it did. -/
def checkedSchemasUptoRow : OpenClaim := { program := "ytfdedoiiahbnnaagreat", sum := "75a1557b1adfb177633ce778369255a722a75c5d91e21ff154c32165ebac160e", func := "blindfold/blindfoldlaw21.CheckedSchemas", spec := "checkedSchemas", inPlace := ["internal/bytealg.IndexByteString", "internal/abi.NoEscape", "internal/reflectlite.ValueOf", "internal/reflectlite.Swapper", "(internal/reflectlite.Value).Len"], unfollowed := true, recurses := true, loops := true, apart := false, narrowed := true }
def CheckedSchemasUptoSaid : Prop := checkedSchemasUptoRow.holds Tryz.pinned (OpenSpec.upto checkedSchemasSpec)

/-- 'blindfoldlaw21.CheckedObservers', WHERE WHAT IT READS IS OF BULK AT MOST 1048576: true; the input reads as it did. -/
def checkedObserversUptoRow : OpenClaim := { program := "ytfdedoiiahbnnaagreat", sum := "75a1557b1adfb177633ce778369255a722a75c5d91e21ff154c32165ebac160e", func := "blindfold/blindfoldlaw21.CheckedObservers", spec := "checkedObservers", inPlace := ["internal/bytealg.IndexByteString", "internal/abi.NoEscape", "internal/reflectlite.ValueOf", "internal/reflectlite.Swapper", "(internal/reflectlite.Value).Len"], unfollowed := true, recurses := true, loops := true, apart := false, narrowed := true }
def CheckedObserversUptoSaid : Prop := checkedObserversUptoRow.holds Tryz.pinned (OpenSpec.upto checkedObserversSpec)

/-- 'blindfoldlaw21.CheckedAgain', WHERE WHAT IT READS IS OF BULK AT MOST 1048576: true; the input reads as it did. -/
def checkedAgainUptoRow : OpenClaim := { program := "ytfdedoiiahbnnaagreat", sum := "75a1557b1adfb177633ce778369255a722a75c5d91e21ff154c32165ebac160e", func := "blindfold/blindfoldlaw21.CheckedAgain", spec := "checkedAgain", inPlace := ["internal/bytealg.IndexByteString", "internal/abi.NoEscape", "internal/reflectlite.ValueOf", "internal/reflectlite.Swapper", "(internal/reflectlite.Value).Len", "internal/bytealg.MakeNoZero"], unfollowed := true, recurses := true, loops := true, apart := false, narrowed := true }
def CheckedAgainUptoSaid : Prop := checkedAgainUptoRow.holds Tryz.pinned (OpenSpec.upto checkedAgainSpec)

/-- 'blindfoldlaw24.TypedParses', WHERE WHAT IT READS IS OF BULK AT MOST 1048576: true; the input reads as it did. -/
def typedParsesUptoRow : OpenClaim := { program := "ytfdedoiiahbnnaagreat", sum := "75a1557b1adfb177633ce778369255a722a75c5d91e21ff154c32165ebac160e", func := "blindfold/blindfoldlaw24.TypedParses", spec := "typedParses", inPlace := ["internal/reflectlite.ValueOf", "internal/reflectlite.Swapper", "(internal/reflectlite.Value).Len", "internal/bytealg.IndexByteString", "internal/abi.NoEscape"], unfollowed := true, recurses := true, loops := true, apart := false, narrowed := true }
def TypedParsesUptoSaid : Prop := typedParsesUptoRow.holds Tryz.pinned (OpenSpec.upto typedParsesSpec)

/-- 'blindfoldlaw24.TypedOrder', WHERE WHAT IT READS IS OF BULK AT MOST 1048576: true; the input reads as it did. -/
def typedOrderUptoRow : OpenClaim := { program := "ytfdedoiiahbnnaagreat", sum := "75a1557b1adfb177633ce778369255a722a75c5d91e21ff154c32165ebac160e", func := "blindfold/blindfoldlaw24.TypedOrder", spec := "typedOrder", inPlace := ["internal/reflectlite.ValueOf", "internal/reflectlite.Swapper", "(internal/reflectlite.Value).Len", "internal/bytealg.IndexByteString", "internal/abi.NoEscape"], unfollowed := true, recurses := true, loops := true, apart := false, narrowed := true }
def TypedOrderUptoSaid : Prop := typedOrderUptoRow.holds Tryz.pinned (OpenSpec.upto typedOrderSpec)

/-- 'blindfoldlaw17.UnparseBack', WHERE WHAT IT READS IS OF BULK AT MOST 1048576: true; the input reads as it did. -/
def unparseBackUptoRow : OpenClaim := { program := "ytfdedoiiahbnnaagreat", sum := "75a1557b1adfb177633ce778369255a722a75c5d91e21ff154c32165ebac160e", func := "blindfold/blindfoldlaw17.UnparseBack", spec := "unparseBack", inPlace := ["internal/reflectlite.ValueOf", "internal/reflectlite.Swapper", "(internal/reflectlite.Value).Len", "internal/abi.NoEscape", "internal/bytealg.MakeNoZero", "internal/bytealg.IndexByteString"], unfollowed := true, recurses := true, loops := true, apart := false, narrowed := true }
def UnparseBackUptoSaid : Prop := unparseBackUptoRow.holds Tryz.pinned (OpenSpec.upto unparseBackSpec)

end Rows
end Go.Proofs.YtfdedoiiahbnnaaGreat
