/-
  NARROWER THAN 'FOR EVERY INPUT', by the rows' own cells (each row's printed sentence says how): QueryEvals: loops · QuerySound: loops.
  DERIVED. THE GIVEN ROWS OF THIS SEAT. 2 by the template 'for every input the law returns true; each argument reads behind the call as it read before'; 0 by the template 'total and deterministic' (their statements: YtphonmiflfhdbaaGreatTotals.lean).
  GIVEN WITH THE SEED: the statements are not yours to turn. If you find one false, say at which input.
  Laid BY PROGRAM, IN A SANDBOX (cutbox-rows.mjs): the forced cells as the released guide's own fill.sh prints them over the translation 08fb4a6d80b60f87… (all of the seat's roots in one cut). By AI agents, Wed Nov 11 2026. No macro, syntax, notation, axiom, sorry.
-/
import Derived.Test.YtphonmiflfhdbaaGreatChecked
import GoSem.Claim
import GoSem.ClaimJoined
import GoSem.ClaimMapViews
import Derived.JoinedTies
import Derived.KernelRfl
namespace Go.Proofs.YtphonmiflfhdbaaGreat
/- THE CELL 'sum', in the pinned program and in every row, IS THE sha256 OF THE DUMP (.gsa) THAT YtphonmiflfhdbaaGreatProg.lean LOADS. Nothing in Lean hashes anything: it is a label: what it is worth is what the hold of that sum in a sandbox is worth. -/
noncomputable def Tryz.pinned : Pinned := { name := "ytphonmiflfhdbaagreat", sum := "08fb4a6d80b60f87214fb3be5c0bd751230a5bf12398a6374339f67b36325bb8", checked := Tryz.checked }
namespace Rows
def none {H : Type} : Left H := { results := [], args := [] }

/-- 'blindfoldlaw40.QueryEvals': WHATEVER THE INPUT: true; the input reads as it did. -/
def queryEvalsSpec : ChangeSpec := { name := "queryEvals", fn := fun _ => fun
  | [d1, d2, d3] => { results := [.lit (.bool true)], args := [d1, d2, d3] }
  | _ => none }
def queryEvalsRow : OpenClaim := { program := "ytphonmiflfhdbaagreat", sum := "08fb4a6d80b60f87214fb3be5c0bd751230a5bf12398a6374339f67b36325bb8", func := "blindfold/blindfoldlaw40.QueryEvals", spec := "queryEvals", inPlace := ["internal/reflectlite.ValueOf", "internal/reflectlite.Swapper", "(internal/reflectlite.Value).Len", "internal/bytealg.IndexByteString", "internal/abi.NoEscape"], unfollowed := true, recurses := true, loops := true, apart := false }
def QueryEvalsSaid : Prop := queryEvalsRow.holds Tryz.pinned (OpenSpec.ofChange queryEvalsSpec)

/-- ITS FALSE NEIGHBOUR: 'it returns false'. Refute it at one input. -/
def queryEvalsWrong : ChangeSpec := { name := "queryEvals", fn := fun _ => fun
  | [d1, d2, d3] => { results := [.lit (.bool false)], args := [d1, d2, d3] }
  | _ => none }
def QueryEvalsWrongFalsely : Prop := queryEvalsRow.holds Tryz.pinned (OpenSpec.ofChange queryEvalsWrong)

/-- 'blindfoldlaw40.QuerySound': WHATEVER THE INPUT: true; the input reads as it did. -/
def querySoundSpec : ChangeSpec := { name := "querySound", fn := fun _ => fun
  | [d1, d2, d3] => { results := [.lit (.bool true)], args := [d1, d2, d3] }
  | _ => none }
def querySoundRow : OpenClaim := { program := "ytphonmiflfhdbaagreat", sum := "08fb4a6d80b60f87214fb3be5c0bd751230a5bf12398a6374339f67b36325bb8", func := "blindfold/blindfoldlaw40.QuerySound", spec := "querySound", inPlace := ["internal/reflectlite.ValueOf", "internal/reflectlite.Swapper", "(internal/reflectlite.Value).Len", "internal/bytealg.IndexByteString", "internal/abi.NoEscape"], unfollowed := true, recurses := true, loops := true, apart := false }
def QuerySoundSaid : Prop := querySoundRow.holds Tryz.pinned (OpenSpec.ofChange querySoundSpec)

/-- ITS FALSE NEIGHBOUR: 'it returns false'. Refute it at one input. -/
def querySoundWrong : ChangeSpec := { name := "querySound", fn := fun _ => fun
  | [d1, d2, d3] => { results := [.lit (.bool false)], args := [d1, d2, d3] }
  | _ => none }
def QuerySoundWrongFalsely : Prop := querySoundRow.holds Tryz.pinned (OpenSpec.ofChange querySoundWrong)

/- THE SECOND FORM. 'bulk': how many values and letters a reading holds, each counted each time it is reached (what is shared counts as often as it is met; a slice's spare places count too). A statement '..UptoSaid' is the law's where the arguments, and the package variables that the reading takes, are together of bulk at most 1048576: NARROWER than '..Said'. Prove '..Said' where nothing that the law and all that it calls make is longer than what came in: it says more and counts as full. Else prove '..UptoSaid'. A law counts once. -/
mutual
def uptoBulk {H : Type} : DataW H → Nat
  | .lit (.string bytes) => bytes.length + 1
  | .lit _ => 1
  | .nil => 1
  | .ptr d => uptoBulk d + 1
  | .slice elems spare => uptoBulkAll elems + uptoBulkAll spare + 1
  | .agg parts => uptoBulkAll parts + 1
  | .iface _ d => uptoBulk d + 1
  | .map entries => uptoBulkEntries entries + 1
  | .held _ => 1
def uptoBulkAll {H : Type} : List (DataW H) → Nat
  | [] => 0
  | d :: r => uptoBulk d + uptoBulkAll r
def uptoBulkEntries {H : Type} : List (Lit × DataW H) → Nat
  | [] => 0
  | x :: r => uptoBulkEntry x + uptoBulkEntries r
def uptoBulkEntry {H : Type} : Lit × DataW H → Nat
  | (.string bytes, d) => bytes.length + uptoBulk d + 1
  | (_, d) => uptoBulk d + 1
 end
def uptoSmall : (H : Type) → List (DataW H) → Bool := fun _ ds => decide (uptoBulkAll ds ≤ 1048576)
def OpenSpec.upto (s : _root_.Go.ChangeSpec) : _root_.Go.OpenSpec := { _root_.Go.OpenSpec.ofChange s with cond := some uptoSmall }

/-- 'blindfoldlaw40.QueryEvals', WHERE WHAT IT READS IS OF BULK AT MOST 1048576: true; the input reads as it did. -/
def queryEvalsUptoRow : OpenClaim := { program := "ytphonmiflfhdbaagreat", sum := "08fb4a6d80b60f87214fb3be5c0bd751230a5bf12398a6374339f67b36325bb8", func := "blindfold/blindfoldlaw40.QueryEvals", spec := "queryEvals", inPlace := ["internal/reflectlite.ValueOf", "internal/reflectlite.Swapper", "(internal/reflectlite.Value).Len", "internal/bytealg.IndexByteString", "internal/abi.NoEscape"], unfollowed := true, recurses := true, loops := true, apart := false, narrowed := true }
def QueryEvalsUptoSaid : Prop := queryEvalsUptoRow.holds Tryz.pinned (OpenSpec.upto queryEvalsSpec)

/-- 'blindfoldlaw40.QuerySound', WHERE WHAT IT READS IS OF BULK AT MOST 1048576: true; the input reads as it did. -/
def querySoundUptoRow : OpenClaim := { program := "ytphonmiflfhdbaagreat", sum := "08fb4a6d80b60f87214fb3be5c0bd751230a5bf12398a6374339f67b36325bb8", func := "blindfold/blindfoldlaw40.QuerySound", spec := "querySound", inPlace := ["internal/reflectlite.ValueOf", "internal/reflectlite.Swapper", "(internal/reflectlite.Value).Len", "internal/bytealg.IndexByteString", "internal/abi.NoEscape"], unfollowed := true, recurses := true, loops := true, apart := false, narrowed := true }
def QuerySoundUptoSaid : Prop := querySoundUptoRow.holds Tryz.pinned (OpenSpec.upto querySoundSpec)

end Rows
end Go.Proofs.YtphonmiflfhdbaaGreat
