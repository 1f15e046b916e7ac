/-
  NARROWER THAN 'FOR EVERY INPUT', by the rows' own cells (each row's printed sentence says how): DiffApplies: loops · DiffLeads: loops · LoglineEach: loops · AuditTrue: loops · StreamHides: loops.
  DERIVED. THE GIVEN ROWS OF THIS SEAT. 5 by the template 'for every input the law returns true; each argument reads behind the call as it read before'; 0 by the template 'total and deterministic' (their statements: YtgjagnmeonoehaaGreatTotals.lean).
  GIVEN WITH THE SEED: the statements are not yours to turn. If you find one false, say at which input.
  Laid BY PROGRAM, IN A SANDBOX (cutbox-rows.mjs): the forced cells as the released guide's own fill.sh prints them over the translation 333f21bc05f7ed63… (all of the seat's roots in one cut). By AI agents, Wed Nov 11 2026. No macro, syntax, notation, axiom, sorry.
-/
import Derived.Test.YtgjagnmeonoehaaGreatChecked
import GoSem.Claim
import GoSem.ClaimJoined
import GoSem.ClaimMapViews
import Derived.JoinedTies
import Derived.KernelRfl
namespace Go.Proofs.YtgjagnmeonoehaaGreat
/- THE CELL 'sum', in the pinned program and in every row, IS THE sha256 OF THE DUMP (.gsa) THAT YtgjagnmeonoehaaGreatProg.lean LOADS. Nothing in Lean hashes anything: it is a label: what it is worth is what the hold of that sum in a sandbox is worth. -/
noncomputable def Tryz.pinned : Pinned := { name := "ytgjagnmeonoehaagreat", sum := "333f21bc05f7ed63794aec8eff2e3141d8407173e95596fc621583ce6d7c48f5", checked := Tryz.checked }
namespace Rows
def none {H : Type} : Left H := { results := [], args := [] }

/-- 'blindfoldlaw39.DiffApplies': WHATEVER THE INPUT: true; the input reads as it did. -/
def diffAppliesSpec : ChangeSpec := { name := "diffApplies", fn := fun _ => fun
  | [d1, d2, d3] => { results := [.lit (.bool true)], args := [d1, d2, d3] }
  | _ => none }
def diffAppliesRow : OpenClaim := { program := "ytgjagnmeonoehaagreat", sum := "333f21bc05f7ed63794aec8eff2e3141d8407173e95596fc621583ce6d7c48f5", func := "blindfold/blindfoldlaw39.DiffApplies", spec := "diffApplies", inPlace := ["internal/reflectlite.ValueOf", "internal/reflectlite.Swapper", "(internal/reflectlite.Value).Len", "internal/abi.NoEscape", "internal/bytealg.MakeNoZero"], unfollowed := true, recurses := true, loops := true, apart := false }
def DiffAppliesSaid : Prop := diffAppliesRow.holds Tryz.pinned (OpenSpec.ofChange diffAppliesSpec)

/-- ITS FALSE NEIGHBOUR: 'it returns false'. Refute it at one input. -/
def diffAppliesWrong : ChangeSpec := { name := "diffApplies", fn := fun _ => fun
  | [d1, d2, d3] => { results := [.lit (.bool false)], args := [d1, d2, d3] }
  | _ => none }
def DiffAppliesWrongFalsely : Prop := diffAppliesRow.holds Tryz.pinned (OpenSpec.ofChange diffAppliesWrong)

/-- 'blindfoldlaw39.DiffLeads': WHATEVER THE INPUT: true; the input reads as it did. -/
def diffLeadsSpec : ChangeSpec := { name := "diffLeads", fn := fun _ => fun
  | [d1, d2, d3] => { results := [.lit (.bool true)], args := [d1, d2, d3] }
  | _ => none }
def diffLeadsRow : OpenClaim := { program := "ytgjagnmeonoehaagreat", sum := "333f21bc05f7ed63794aec8eff2e3141d8407173e95596fc621583ce6d7c48f5", func := "blindfold/blindfoldlaw39.DiffLeads", spec := "diffLeads", inPlace := ["internal/reflectlite.ValueOf", "internal/reflectlite.Swapper", "(internal/reflectlite.Value).Len", "internal/abi.NoEscape", "internal/bytealg.MakeNoZero"], unfollowed := true, recurses := true, loops := true, apart := false }
def DiffLeadsSaid : Prop := diffLeadsRow.holds Tryz.pinned (OpenSpec.ofChange diffLeadsSpec)

/-- ITS FALSE NEIGHBOUR: 'it returns false'. Refute it at one input. -/
def diffLeadsWrong : ChangeSpec := { name := "diffLeads", fn := fun _ => fun
  | [d1, d2, d3] => { results := [.lit (.bool false)], args := [d1, d2, d3] }
  | _ => none }
def DiffLeadsWrongFalsely : Prop := diffLeadsRow.holds Tryz.pinned (OpenSpec.ofChange diffLeadsWrong)

/-- 'blindfoldlaw35.LoglineEach': WHATEVER THE INPUT: true; the input reads as it did. -/
def loglineEachSpec : ChangeSpec := { name := "loglineEach", fn := fun _ => fun
  | [d1, d2, d3] => { results := [.lit (.bool true)], args := [d1, d2, d3] }
  | _ => none }
def loglineEachRow : OpenClaim := { program := "ytgjagnmeonoehaagreat", sum := "333f21bc05f7ed63794aec8eff2e3141d8407173e95596fc621583ce6d7c48f5", func := "blindfold/blindfoldlaw35.LoglineEach", spec := "loglineEach", inPlace := ["internal/reflectlite.ValueOf", "internal/reflectlite.Swapper", "(internal/reflectlite.Value).Len", "internal/abi.NoEscape", "internal/bytealg.MakeNoZero"], unfollowed := true, recurses := true, loops := true, apart := false }
def LoglineEachSaid : Prop := loglineEachRow.holds Tryz.pinned (OpenSpec.ofChange loglineEachSpec)

/-- ITS FALSE NEIGHBOUR: 'it returns false'. Refute it at one input. -/
def loglineEachWrong : ChangeSpec := { name := "loglineEach", fn := fun _ => fun
  | [d1, d2, d3] => { results := [.lit (.bool false)], args := [d1, d2, d3] }
  | _ => none }
def LoglineEachWrongFalsely : Prop := loglineEachRow.holds Tryz.pinned (OpenSpec.ofChange loglineEachWrong)

/-- 'blindfoldlaw42.AuditTrue': WHATEVER THE INPUT: true; the input reads as it did. -/
def auditTrueSpec : ChangeSpec := { name := "auditTrue", fn := fun _ => fun
  | [d1, d2, d3] => { results := [.lit (.bool true)], args := [d1, d2, d3] }
  | _ => none }
def auditTrueRow : OpenClaim := { program := "ytgjagnmeonoehaagreat", sum := "333f21bc05f7ed63794aec8eff2e3141d8407173e95596fc621583ce6d7c48f5", func := "blindfold/blindfoldlaw42.AuditTrue", spec := "auditTrue", inPlace := ["internal/reflectlite.ValueOf", "internal/reflectlite.Swapper", "(internal/reflectlite.Value).Len", "internal/abi.NoEscape"], unfollowed := true, recurses := true, loops := true, apart := false }
def AuditTrueSaid : Prop := auditTrueRow.holds Tryz.pinned (OpenSpec.ofChange auditTrueSpec)

/-- ITS FALSE NEIGHBOUR: 'it returns false'. Refute it at one input. -/
def auditTrueWrong : ChangeSpec := { name := "auditTrue", fn := fun _ => fun
  | [d1, d2, d3] => { results := [.lit (.bool false)], args := [d1, d2, d3] }
  | _ => none }
def AuditTrueWrongFalsely : Prop := auditTrueRow.holds Tryz.pinned (OpenSpec.ofChange auditTrueWrong)

/-- 'blindfoldlaw41.StreamHides': WHATEVER THE INPUT: true; the input reads as it did. -/
def streamHidesSpec : ChangeSpec := { name := "streamHides", fn := fun _ => fun
  | [d1, d2, d3] => { results := [.lit (.bool true)], args := [d1, d2, d3] }
  | _ => none }
def streamHidesRow : OpenClaim := { program := "ytgjagnmeonoehaagreat", sum := "333f21bc05f7ed63794aec8eff2e3141d8407173e95596fc621583ce6d7c48f5", func := "blindfold/blindfoldlaw41.StreamHides", spec := "streamHides", inPlace := ["internal/reflectlite.ValueOf", "internal/reflectlite.Swapper", "(internal/reflectlite.Value).Len", "internal/abi.NoEscape", "internal/bytealg.MakeNoZero"], unfollowed := true, recurses := true, loops := true, apart := false }
def StreamHidesSaid : Prop := streamHidesRow.holds Tryz.pinned (OpenSpec.ofChange streamHidesSpec)

/-- ITS FALSE NEIGHBOUR: 'it returns false'. Refute it at one input. -/
def streamHidesWrong : ChangeSpec := { name := "streamHides", fn := fun _ => fun
  | [d1, d2, d3] => { results := [.lit (.bool false)], args := [d1, d2, d3] }
  | _ => none }
def StreamHidesWrongFalsely : Prop := streamHidesRow.holds Tryz.pinned (OpenSpec.ofChange streamHidesWrong)

/- THE SECOND FORM. 'bulk': how many values and letters a reading holds, each counted each time it is reached (what is shared counts as often as it is met; a slice's spare places count too). A statement '..UptoSaid' is the law's where the arguments, and the package variables that the reading takes, are together of bulk at most 1048576: NARROWER than '..Said'. Prove '..Said' where nothing that the law and all that it calls make is longer than what came in: it says more and counts as full. Else prove '..UptoSaid'. A law counts once. -/
mutual
def uptoBulk {H : Type} : DataW H → Nat
  | .lit (.string bytes) => bytes.length + 1
  | .lit _ => 1
  | .nil => 1
  | .ptr d => uptoBulk d + 1
  | .slice elems spare => uptoBulkAll elems + uptoBulkAll spare + 1
  | .agg parts => uptoBulkAll parts + 1
  | .iface _ d => uptoBulk d + 1
  | .map entries => uptoBulkEntries entries + 1
  | .held _ => 1
def uptoBulkAll {H : Type} : List (DataW H) → Nat
  | [] => 0
  | d :: r => uptoBulk d + uptoBulkAll r
def uptoBulkEntries {H : Type} : List (Lit × DataW H) → Nat
  | [] => 0
  | x :: r => uptoBulkEntry x + uptoBulkEntries r
def uptoBulkEntry {H : Type} : Lit × DataW H → Nat
  | (.string bytes, d) => bytes.length + uptoBulk d + 1
  | (_, d) => uptoBulk d + 1
 end
def uptoSmall : (H : Type) → List (DataW H) → Bool := fun _ ds => decide (uptoBulkAll ds ≤ 1048576)
def OpenSpec.upto (s : _root_.Go.ChangeSpec) : _root_.Go.OpenSpec := { _root_.Go.OpenSpec.ofChange s with cond := some uptoSmall }

/-- 'blindfoldlaw39.DiffApplies', WHERE WHAT IT READS IS OF BULK AT MOST 1048576: true; the input reads as it did. -/
def diffAppliesUptoRow : OpenClaim := { program := "ytgjagnmeonoehaagreat", sum := "333f21bc05f7ed63794aec8eff2e3141d8407173e95596fc621583ce6d7c48f5", func := "blindfold/blindfoldlaw39.DiffApplies", spec := "diffApplies", inPlace := ["internal/reflectlite.ValueOf", "internal/reflectlite.Swapper", "(internal/reflectlite.Value).Len", "internal/abi.NoEscape", "internal/bytealg.MakeNoZero"], unfollowed := true, recurses := true, loops := true, apart := false, narrowed := true }
def DiffAppliesUptoSaid : Prop := diffAppliesUptoRow.holds Tryz.pinned (OpenSpec.upto diffAppliesSpec)

/-- 'blindfoldlaw39.DiffLeads', WHERE WHAT IT READS IS OF BULK AT MOST 1048576: true; the input reads as it did. -/
def diffLeadsUptoRow : OpenClaim := { program := "ytgjagnmeonoehaagreat", sum := "333f21bc05f7ed63794aec8eff2e3141d8407173e95596fc621583ce6d7c48f5", func := "blindfold/blindfoldlaw39.DiffLeads", spec := "diffLeads", inPlace := ["internal/reflectlite.ValueOf", "internal/reflectlite.Swapper", "(internal/reflectlite.Value).Len", "internal/abi.NoEscape", "internal/bytealg.MakeNoZero"], unfollowed := true, recurses := true, loops := true, apart := false, narrowed := true }
def DiffLeadsUptoSaid : Prop := diffLeadsUptoRow.holds Tryz.pinned (OpenSpec.upto diffLeadsSpec)

/-- 'blindfoldlaw35.LoglineEach', WHERE WHAT IT READS IS OF BULK AT MOST 1048576: true; the input reads as it did. -/
def loglineEachUptoRow : OpenClaim := { program := "ytgjagnmeonoehaagreat", sum := "333f21bc05f7ed63794aec8eff2e3141d8407173e95596fc621583ce6d7c48f5", func := "blindfold/blindfoldlaw35.LoglineEach", spec := "loglineEach", inPlace := ["internal/reflectlite.ValueOf", "internal/reflectlite.Swapper", "(internal/reflectlite.Value).Len", "internal/abi.NoEscape", "internal/bytealg.MakeNoZero"], unfollowed := true, recurses := true, loops := true, apart := false, narrowed := true }
def LoglineEachUptoSaid : Prop := loglineEachUptoRow.holds Tryz.pinned (OpenSpec.upto loglineEachSpec)

/-- 'blindfoldlaw42.AuditTrue', WHERE WHAT IT READS IS OF BULK AT MOST 1048576: true; the input reads as it did. -/
def auditTrueUptoRow : OpenClaim := { program := "ytgjagnmeonoehaagreat", sum := "333f21bc05f7ed63794aec8eff2e3141d8407173e95596fc621583ce6d7c48f5", func := "blindfold/blindfoldlaw42.AuditTrue", spec := "auditTrue", inPlace := ["internal/reflectlite.ValueOf", "internal/reflectlite.Swapper", "(internal/reflectlite.Value).Len", "internal/abi.NoEscape"], unfollowed := true, recurses := true, loops := true, apart := false, narrowed := true }
def AuditTrueUptoSaid : Prop := auditTrueUptoRow.holds Tryz.pinned (OpenSpec.upto auditTrueSpec)

/-- 'blindfoldlaw41.StreamHides', WHERE WHAT IT READS IS OF BULK AT MOST 1048576: true; the input reads as it did. -/
def streamHidesUptoRow : OpenClaim := { program := "ytgjagnmeonoehaagreat", sum := "333f21bc05f7ed63794aec8eff2e3141d8407173e95596fc621583ce6d7c48f5", func := "blindfold/blindfoldlaw41.StreamHides", spec := "streamHides", inPlace := ["internal/reflectlite.ValueOf", "internal/reflectlite.Swapper", "(internal/reflectlite.Value).Len", "internal/abi.NoEscape", "internal/bytealg.MakeNoZero"], unfollowed := true, recurses := true, loops := true, apart := false, narrowed := true }
def StreamHidesUptoSaid : Prop := streamHidesUptoRow.holds Tryz.pinned (OpenSpec.upto streamHidesSpec)

end Rows
end Go.Proofs.YtgjagnmeonoehaaGreat
