/-
  No cell of these rows narrows 'for every input' (looked for: loops, veiled, ifaces, maps, wideKeys, modest, calm, conditions, laid).
  DERIVED. THE GIVEN ROWS OF THIS SEAT. 11 by the template 'for every input the law returns true; each argument reads behind the call as it read before'; 0 by the template 'total and deterministic' (their statements: YtgialjcichiaoaaTotals.lean).
  GIVEN WITH THE SEED: the statements are not yours to turn. If you find one false, say at which input.
  Laid BY PROGRAM, IN A SANDBOX (cutbox-rows.mjs): the forced cells as the released guide's own fill.sh prints them over the translation 4e919b88860970da… (all of the seat's roots in one cut). By AI agents, Wed Nov 11 2026. No macro, syntax, notation, axiom, sorry.
-/
import Derived.Test.YtgialjcichiaoaaChecked
import GoSem.Claim
import GoSem.ClaimJoined
import GoSem.ClaimMapViews
import Derived.JoinedTies
import Derived.KernelRfl
namespace Go.Proofs.Ytgialjcichiaoaa
/- THE CELL 'sum', in the pinned program and in every row, IS THE sha256 OF THE DUMP (.gsa) THAT YtgialjcichiaoaaProg.lean LOADS. Nothing in Lean hashes anything: it is a label: what it is worth is what the hold of that sum in a sandbox is worth. -/
noncomputable def Try.pinned : Pinned := { name := "ytgialjcichiaoaa", sum := "4e919b88860970da90ee04e2da9e91ebbd484070a67a46fe44b2a8488419efb5", checked := Try.checked }
namespace Rows
def none {H : Type} : Left H := { results := [], args := [] }

/-- 'laws.FnMendTrue': WHATEVER THE INPUT: true; the input reads as it did. -/
def fnMendTrueSpec : ChangeSpec := { name := "fnMendTrue", fn := fun _ => fun
  | [d] => { results := [.lit (.bool true)], args := [d] }
  | _ => none }
def fnMendTrueRow : OpenClaim := { program := "ytgialjcichiaoaa", sum := "4e919b88860970da90ee04e2da9e91ebbd484070a67a46fe44b2a8488419efb5", func := "loop.example/purser/laws.FnMendTrue", spec := "fnMendTrue", unfollowed := true, recurses := true, apart := false }
def FnMendTrueSaid : Prop := fnMendTrueRow.holds Try.pinned (OpenSpec.ofChange fnMendTrueSpec)

/-- ITS FALSE NEIGHBOUR: 'it returns false'. Refute it at one input. -/
def fnMendTrueWrong : ChangeSpec := { name := "fnMendTrue", fn := fun _ => fun
  | [d] => { results := [.lit (.bool false)], args := [d] }
  | _ => none }
def FnMendTrueWrongFalsely : Prop := fnMendTrueRow.holds Try.pinned (OpenSpec.ofChange fnMendTrueWrong)

/-- 'laws.FnExactDiskDo': WHATEVER THE INPUT: true; the input reads as it did. -/
def fnExactDiskDoSpec : ChangeSpec := { name := "fnExactDiskDo", fn := fun _ => fun
  | [d1, d2] => { results := [.lit (.bool true)], args := [d1, d2] }
  | _ => none }
def fnExactDiskDoRow : OpenClaim := { program := "ytgialjcichiaoaa", sum := "4e919b88860970da90ee04e2da9e91ebbd484070a67a46fe44b2a8488419efb5", func := "loop.example/purser/laws.FnExactDiskDo", spec := "fnExactDiskDo", unfollowed := true, recurses := true, apart := false }
def FnExactDiskDoSaid : Prop := fnExactDiskDoRow.holds Try.pinned (OpenSpec.ofChange fnExactDiskDoSpec)

/-- ITS FALSE NEIGHBOUR: 'it returns false'. Refute it at one input. -/
def fnExactDiskDoWrong : ChangeSpec := { name := "fnExactDiskDo", fn := fun _ => fun
  | [d1, d2] => { results := [.lit (.bool false)], args := [d1, d2] }
  | _ => none }
def FnExactDiskDoWrongFalsely : Prop := fnExactDiskDoRow.holds Try.pinned (OpenSpec.ofChange fnExactDiskDoWrong)

/-- 'laws.FnInstTwo': WHATEVER THE INPUT: true; the input reads as it did. -/
def fnInstTwoSpec : ChangeSpec := { name := "fnInstTwo", fn := fun _ => fun
  | [d1, d2] => { results := [.lit (.bool true)], args := [d1, d2] }
  | _ => none }
def fnInstTwoRow : OpenClaim := { program := "ytgialjcichiaoaa", sum := "4e919b88860970da90ee04e2da9e91ebbd484070a67a46fe44b2a8488419efb5", func := "loop.example/purser/laws.FnInstTwo", spec := "fnInstTwo", unfollowed := true, recurses := true, apart := false }
def FnInstTwoSaid : Prop := fnInstTwoRow.holds Try.pinned (OpenSpec.ofChange fnInstTwoSpec)

/-- ITS FALSE NEIGHBOUR: 'it returns false'. Refute it at one input. -/
def fnInstTwoWrong : ChangeSpec := { name := "fnInstTwo", fn := fun _ => fun
  | [d1, d2] => { results := [.lit (.bool false)], args := [d1, d2] }
  | _ => none }
def FnInstTwoWrongFalsely : Prop := fnInstTwoRow.holds Try.pinned (OpenSpec.ofChange fnInstTwoWrong)

/-- 'laws.FnStepsNone': WHATEVER THE INPUT: true; the input reads as it did. -/
def fnStepsNoneSpec : ChangeSpec := { name := "fnStepsNone", fn := fun _ => fun
  | [d] => { results := [.lit (.bool true)], args := [d] }
  | _ => none }
def fnStepsNoneRow : OpenClaim := { program := "ytgialjcichiaoaa", sum := "4e919b88860970da90ee04e2da9e91ebbd484070a67a46fe44b2a8488419efb5", func := "loop.example/purser/laws.FnStepsNone", spec := "fnStepsNone", unfollowed := true, recurses := true, apart := false }
def FnStepsNoneSaid : Prop := fnStepsNoneRow.holds Try.pinned (OpenSpec.ofChange fnStepsNoneSpec)

/-- ITS FALSE NEIGHBOUR: 'it returns false'. Refute it at one input. -/
def fnStepsNoneWrong : ChangeSpec := { name := "fnStepsNone", fn := fun _ => fun
  | [d] => { results := [.lit (.bool false)], args := [d] }
  | _ => none }
def FnStepsNoneWrongFalsely : Prop := fnStepsNoneRow.holds Try.pinned (OpenSpec.ofChange fnStepsNoneWrong)

/-- 'laws.FnExactPlanFor': WHATEVER THE INPUT: true; the input reads as it did. -/
def fnExactPlanForSpec : ChangeSpec := { name := "fnExactPlanFor", fn := fun _ => fun
  | [d1, d2, d3] => { results := [.lit (.bool true)], args := [d1, d2, d3] }
  | _ => none }
def fnExactPlanForRow : OpenClaim := { program := "ytgialjcichiaoaa", sum := "4e919b88860970da90ee04e2da9e91ebbd484070a67a46fe44b2a8488419efb5", func := "loop.example/purser/laws.FnExactPlanFor", spec := "fnExactPlanFor", inPlace := ["slices.overlaps[loop.example/purser/impl.Pkg]"], unfollowed := true, recurses := true, apart := false }
def FnExactPlanForSaid : Prop := fnExactPlanForRow.holds Try.pinned (OpenSpec.ofChange fnExactPlanForSpec)

/-- ITS FALSE NEIGHBOUR: 'it returns false'. Refute it at one input. -/
def fnExactPlanForWrong : ChangeSpec := { name := "fnExactPlanFor", fn := fun _ => fun
  | [d1, d2, d3] => { results := [.lit (.bool false)], args := [d1, d2, d3] }
  | _ => none }
def FnExactPlanForWrongFalsely : Prop := fnExactPlanForRow.holds Try.pinned (OpenSpec.ofChange fnExactPlanForWrong)

/-- 'laws.FnCutMend': WHATEVER THE INPUT: true; the input reads as it did. -/
def fnCutMendSpec : ChangeSpec := { name := "fnCutMend", fn := fun _ => fun
  | [d1, d2] => { results := [.lit (.bool true)], args := [d1, d2] }
  | _ => none }
def fnCutMendRow : OpenClaim := { program := "ytgialjcichiaoaa", sum := "4e919b88860970da90ee04e2da9e91ebbd484070a67a46fe44b2a8488419efb5", func := "loop.example/purser/laws.FnCutMend", spec := "fnCutMend", unfollowed := true, recurses := true, apart := false }
def FnCutMendSaid : Prop := fnCutMendRow.holds Try.pinned (OpenSpec.ofChange fnCutMendSpec)

/-- ITS FALSE NEIGHBOUR: 'it returns false'. Refute it at one input. -/
def fnCutMendWrong : ChangeSpec := { name := "fnCutMend", fn := fun _ => fun
  | [d1, d2] => { results := [.lit (.bool false)], args := [d1, d2] }
  | _ => none }
def FnCutMendWrongFalsely : Prop := fnCutMendRow.holds Try.pinned (OpenSpec.ofChange fnCutMendWrong)

/-- 'laws.FnExactInstMends': WHATEVER THE INPUT: true; the input reads as it did. -/
def fnExactInstMendsSpec : ChangeSpec := { name := "fnExactInstMends", fn := fun _ => fun
  | [d] => { results := [.lit (.bool true)], args := [d] }
  | _ => none }
def fnExactInstMendsRow : OpenClaim := { program := "ytgialjcichiaoaa", sum := "4e919b88860970da90ee04e2da9e91ebbd484070a67a46fe44b2a8488419efb5", func := "loop.example/purser/laws.FnExactInstMends", spec := "fnExactInstMends", unfollowed := true, recurses := true, apart := false }
def FnExactInstMendsSaid : Prop := fnExactInstMendsRow.holds Try.pinned (OpenSpec.ofChange fnExactInstMendsSpec)

/-- ITS FALSE NEIGHBOUR: 'it returns false'. Refute it at one input. -/
def fnExactInstMendsWrong : ChangeSpec := { name := "fnExactInstMends", fn := fun _ => fun
  | [d] => { results := [.lit (.bool false)], args := [d] }
  | _ => none }
def FnExactInstMendsWrongFalsely : Prop := fnExactInstMendsRow.holds Try.pinned (OpenSpec.ofChange fnExactInstMendsWrong)

/-- 'laws.FnExactWorldNew': WHATEVER THE INPUT: true; the input reads as it did. -/
def fnExactWorldNewSpec : ChangeSpec := { name := "fnExactWorldNew", fn := fun _ => fun
  | [d1, d2] => { results := [.lit (.bool true)], args := [d1, d2] }
  | _ => none }
def fnExactWorldNewRow : OpenClaim := { program := "ytgialjcichiaoaa", sum := "4e919b88860970da90ee04e2da9e91ebbd484070a67a46fe44b2a8488419efb5", func := "loop.example/purser/laws.FnExactWorldNew", spec := "fnExactWorldNew", apart := false }
def FnExactWorldNewSaid : Prop := fnExactWorldNewRow.holds Try.pinned (OpenSpec.ofChange fnExactWorldNewSpec)

/-- ITS FALSE NEIGHBOUR: 'it returns false'. Refute it at one input. -/
def fnExactWorldNewWrong : ChangeSpec := { name := "fnExactWorldNew", fn := fun _ => fun
  | [d1, d2] => { results := [.lit (.bool false)], args := [d1, d2] }
  | _ => none }
def FnExactWorldNewWrongFalsely : Prop := fnExactWorldNewRow.holds Try.pinned (OpenSpec.ofChange fnExactWorldNewWrong)

/-- 'laws.FnExactInstSteps': WHATEVER THE INPUT: true; the input reads as it did. -/
def fnExactInstStepsSpec : ChangeSpec := { name := "fnExactInstSteps", fn := fun _ => fun
  | [d1, d2] => { results := [.lit (.bool true)], args := [d1, d2] }
  | _ => none }
def fnExactInstStepsRow : OpenClaim := { program := "ytgialjcichiaoaa", sum := "4e919b88860970da90ee04e2da9e91ebbd484070a67a46fe44b2a8488419efb5", func := "loop.example/purser/laws.FnExactInstSteps", spec := "fnExactInstSteps", unfollowed := true, recurses := true, apart := false }
def FnExactInstStepsSaid : Prop := fnExactInstStepsRow.holds Try.pinned (OpenSpec.ofChange fnExactInstStepsSpec)

/-- ITS FALSE NEIGHBOUR: 'it returns false'. Refute it at one input. -/
def fnExactInstStepsWrong : ChangeSpec := { name := "fnExactInstSteps", fn := fun _ => fun
  | [d1, d2] => { results := [.lit (.bool false)], args := [d1, d2] }
  | _ => none }
def FnExactInstStepsWrongFalsely : Prop := fnExactInstStepsRow.holds Try.pinned (OpenSpec.ofChange fnExactInstStepsWrong)

/-- 'laws.FnExactInstTo': WHATEVER THE INPUT: true; the input reads as it did. -/
def fnExactInstToSpec : ChangeSpec := { name := "fnExactInstTo", fn := fun _ => fun
  | [d1, d2, d3, d4] => { results := [.lit (.bool true)], args := [d1, d2, d3, d4] }
  | _ => none }
def fnExactInstToRow : OpenClaim := { program := "ytgialjcichiaoaa", sum := "4e919b88860970da90ee04e2da9e91ebbd484070a67a46fe44b2a8488419efb5", func := "loop.example/purser/laws.FnExactInstTo", spec := "fnExactInstTo", unfollowed := true, recurses := true, apart := false }
def FnExactInstToSaid : Prop := fnExactInstToRow.holds Try.pinned (OpenSpec.ofChange fnExactInstToSpec)

/-- ITS FALSE NEIGHBOUR: 'it returns false'. Refute it at one input. -/
def fnExactInstToWrong : ChangeSpec := { name := "fnExactInstTo", fn := fun _ => fun
  | [d1, d2, d3, d4] => { results := [.lit (.bool false)], args := [d1, d2, d3, d4] }
  | _ => none }
def FnExactInstToWrongFalsely : Prop := fnExactInstToRow.holds Try.pinned (OpenSpec.ofChange fnExactInstToWrong)

/-- 'laws.FnExactInstMend': WHATEVER THE INPUT: true; the input reads as it did. -/
def fnExactInstMendSpec : ChangeSpec := { name := "fnExactInstMend", fn := fun _ => fun
  | [d] => { results := [.lit (.bool true)], args := [d] }
  | _ => none }
def fnExactInstMendRow : OpenClaim := { program := "ytgialjcichiaoaa", sum := "4e919b88860970da90ee04e2da9e91ebbd484070a67a46fe44b2a8488419efb5", func := "loop.example/purser/laws.FnExactInstMend", spec := "fnExactInstMend", unfollowed := true, recurses := true, apart := false }
def FnExactInstMendSaid : Prop := fnExactInstMendRow.holds Try.pinned (OpenSpec.ofChange fnExactInstMendSpec)

/-- ITS FALSE NEIGHBOUR: 'it returns false'. Refute it at one input. -/
def fnExactInstMendWrong : ChangeSpec := { name := "fnExactInstMend", fn := fun _ => fun
  | [d] => { results := [.lit (.bool false)], args := [d] }
  | _ => none }
def FnExactInstMendWrongFalsely : Prop := fnExactInstMendRow.holds Try.pinned (OpenSpec.ofChange fnExactInstMendWrong)

/- THE SECOND FORM. 'bulk': how many values and letters a reading holds, each counted each time it is reached (what is shared counts as often as it is met; a slice's spare places count too). A statement '..UptoSaid' is the law's where the arguments, and the package variables that the reading takes, are together of bulk at most 1048576: NARROWER than '..Said'. Prove '..Said' where nothing that the law and all that it calls make is longer than what came in: it says more and counts as full. Else prove '..UptoSaid'. A law counts once. -/
mutual
def uptoBulk {H : Type} : DataW H → Nat
  | .lit (.string bytes) => bytes.length + 1
  | .lit _ => 1
  | .nil => 1
  | .ptr d => uptoBulk d + 1
  | .slice elems spare => uptoBulkAll elems + uptoBulkAll spare + 1
  | .agg parts => uptoBulkAll parts + 1
  | .iface _ d => uptoBulk d + 1
  | .map entries => uptoBulkEntries entries + 1
  | .held _ => 1
def uptoBulkAll {H : Type} : List (DataW H) → Nat
  | [] => 0
  | d :: r => uptoBulk d + uptoBulkAll r
def uptoBulkEntries {H : Type} : List (Lit × DataW H) → Nat
  | [] => 0
  | x :: r => uptoBulkEntry x + uptoBulkEntries r
def uptoBulkEntry {H : Type} : Lit × DataW H → Nat
  | (.string bytes, d) => bytes.length + uptoBulk d + 1
  | (_, d) => uptoBulk d + 1
 end
def uptoSmall : (H : Type) → List (DataW H) → Bool := fun _ ds => decide (uptoBulkAll ds ≤ 1048576)
def OpenSpec.upto (s : _root_.Go.ChangeSpec) : _root_.Go.OpenSpec := { _root_.Go.OpenSpec.ofChange s with cond := some uptoSmall }

/-- 'laws.FnMendTrue', WHERE WHAT IT READS IS OF BULK AT MOST 1048576: true; the input reads as it did. -/
def fnMendTrueUptoRow : OpenClaim := { program := "ytgialjcichiaoaa", sum := "4e919b88860970da90ee04e2da9e91ebbd484070a67a46fe44b2a8488419efb5", func := "loop.example/purser/laws.FnMendTrue", spec := "fnMendTrue", unfollowed := true, recurses := true, apart := false, narrowed := true }
def FnMendTrueUptoSaid : Prop := fnMendTrueUptoRow.holds Try.pinned (OpenSpec.upto fnMendTrueSpec)

/-- 'laws.FnExactDiskDo', WHERE WHAT IT READS IS OF BULK AT MOST 1048576: true; the input reads as it did. -/
def fnExactDiskDoUptoRow : OpenClaim := { program := "ytgialjcichiaoaa", sum := "4e919b88860970da90ee04e2da9e91ebbd484070a67a46fe44b2a8488419efb5", func := "loop.example/purser/laws.FnExactDiskDo", spec := "fnExactDiskDo", unfollowed := true, recurses := true, apart := false, narrowed := true }
def FnExactDiskDoUptoSaid : Prop := fnExactDiskDoUptoRow.holds Try.pinned (OpenSpec.upto fnExactDiskDoSpec)

/-- 'laws.FnInstTwo', WHERE WHAT IT READS IS OF BULK AT MOST 1048576: true; the input reads as it did. -/
def fnInstTwoUptoRow : OpenClaim := { program := "ytgialjcichiaoaa", sum := "4e919b88860970da90ee04e2da9e91ebbd484070a67a46fe44b2a8488419efb5", func := "loop.example/purser/laws.FnInstTwo", spec := "fnInstTwo", unfollowed := true, recurses := true, apart := false, narrowed := true }
def FnInstTwoUptoSaid : Prop := fnInstTwoUptoRow.holds Try.pinned (OpenSpec.upto fnInstTwoSpec)

/-- 'laws.FnStepsNone', WHERE WHAT IT READS IS OF BULK AT MOST 1048576: true; the input reads as it did. -/
def fnStepsNoneUptoRow : OpenClaim := { program := "ytgialjcichiaoaa", sum := "4e919b88860970da90ee04e2da9e91ebbd484070a67a46fe44b2a8488419efb5", func := "loop.example/purser/laws.FnStepsNone", spec := "fnStepsNone", unfollowed := true, recurses := true, apart := false, narrowed := true }
def FnStepsNoneUptoSaid : Prop := fnStepsNoneUptoRow.holds Try.pinned (OpenSpec.upto fnStepsNoneSpec)

/-- 'laws.FnExactPlanFor', WHERE WHAT IT READS IS OF BULK AT MOST 1048576: true; the input reads as it did. -/
def fnExactPlanForUptoRow : OpenClaim := { program := "ytgialjcichiaoaa", sum := "4e919b88860970da90ee04e2da9e91ebbd484070a67a46fe44b2a8488419efb5", func := "loop.example/purser/laws.FnExactPlanFor", spec := "fnExactPlanFor", inPlace := ["slices.overlaps[loop.example/purser/impl.Pkg]"], unfollowed := true, recurses := true, apart := false, narrowed := true }
def FnExactPlanForUptoSaid : Prop := fnExactPlanForUptoRow.holds Try.pinned (OpenSpec.upto fnExactPlanForSpec)

/-- 'laws.FnCutMend', WHERE WHAT IT READS IS OF BULK AT MOST 1048576: true; the input reads as it did. -/
def fnCutMendUptoRow : OpenClaim := { program := "ytgialjcichiaoaa", sum := "4e919b88860970da90ee04e2da9e91ebbd484070a67a46fe44b2a8488419efb5", func := "loop.example/purser/laws.FnCutMend", spec := "fnCutMend", unfollowed := true, recurses := true, apart := false, narrowed := true }
def FnCutMendUptoSaid : Prop := fnCutMendUptoRow.holds Try.pinned (OpenSpec.upto fnCutMendSpec)

/-- 'laws.FnExactInstMends', WHERE WHAT IT READS IS OF BULK AT MOST 1048576: true; the input reads as it did. -/
def fnExactInstMendsUptoRow : OpenClaim := { program := "ytgialjcichiaoaa", sum := "4e919b88860970da90ee04e2da9e91ebbd484070a67a46fe44b2a8488419efb5", func := "loop.example/purser/laws.FnExactInstMends", spec := "fnExactInstMends", unfollowed := true, recurses := true, apart := false, narrowed := true }
def FnExactInstMendsUptoSaid : Prop := fnExactInstMendsUptoRow.holds Try.pinned (OpenSpec.upto fnExactInstMendsSpec)

/-- 'laws.FnExactWorldNew', WHERE WHAT IT READS IS OF BULK AT MOST 1048576: true; the input reads as it did. -/
def fnExactWorldNewUptoRow : OpenClaim := { program := "ytgialjcichiaoaa", sum := "4e919b88860970da90ee04e2da9e91ebbd484070a67a46fe44b2a8488419efb5", func := "loop.example/purser/laws.FnExactWorldNew", spec := "fnExactWorldNew", apart := false, narrowed := true }
def FnExactWorldNewUptoSaid : Prop := fnExactWorldNewUptoRow.holds Try.pinned (OpenSpec.upto fnExactWorldNewSpec)

/-- 'laws.FnExactInstSteps', WHERE WHAT IT READS IS OF BULK AT MOST 1048576: true; the input reads as it did. -/
def fnExactInstStepsUptoRow : OpenClaim := { program := "ytgialjcichiaoaa", sum := "4e919b88860970da90ee04e2da9e91ebbd484070a67a46fe44b2a8488419efb5", func := "loop.example/purser/laws.FnExactInstSteps", spec := "fnExactInstSteps", unfollowed := true, recurses := true, apart := false, narrowed := true }
def FnExactInstStepsUptoSaid : Prop := fnExactInstStepsUptoRow.holds Try.pinned (OpenSpec.upto fnExactInstStepsSpec)

/-- 'laws.FnExactInstTo', WHERE WHAT IT READS IS OF BULK AT MOST 1048576: true; the input reads as it did. -/
def fnExactInstToUptoRow : OpenClaim := { program := "ytgialjcichiaoaa", sum := "4e919b88860970da90ee04e2da9e91ebbd484070a67a46fe44b2a8488419efb5", func := "loop.example/purser/laws.FnExactInstTo", spec := "fnExactInstTo", unfollowed := true, recurses := true, apart := false, narrowed := true }
def FnExactInstToUptoSaid : Prop := fnExactInstToUptoRow.holds Try.pinned (OpenSpec.upto fnExactInstToSpec)

/-- 'laws.FnExactInstMend', WHERE WHAT IT READS IS OF BULK AT MOST 1048576: true; the input reads as it did. -/
def fnExactInstMendUptoRow : OpenClaim := { program := "ytgialjcichiaoaa", sum := "4e919b88860970da90ee04e2da9e91ebbd484070a67a46fe44b2a8488419efb5", func := "loop.example/purser/laws.FnExactInstMend", spec := "fnExactInstMend", unfollowed := true, recurses := true, apart := false, narrowed := true }
def FnExactInstMendUptoSaid : Prop := fnExactInstMendUptoRow.holds Try.pinned (OpenSpec.upto fnExactInstMendSpec)

end Rows
end Go.Proofs.Ytgialjcichiaoaa
