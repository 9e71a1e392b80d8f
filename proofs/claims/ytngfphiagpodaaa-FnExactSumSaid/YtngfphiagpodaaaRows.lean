/-
  No cell of these rows narrows 'for every input' (looked for: loops, veiled, ifaces, maps, wideKeys, modest, calm, conditions, laid).
  DERIVED. THE GIVEN ROWS OF THIS SEAT. 10 by the template 'for every input the law returns true; each argument reads behind the call as it read before'; 0 by the template 'total and deterministic' (their statements: YtngfphiagpodaaaTotals.lean).
  GIVEN WITH THE SEED: the statements are not yours to turn. If you find one false, say at which input.
  Laid BY PROGRAM, IN A SANDBOX (cutbox-rows.mjs): the forced cells as the released guide's own fill.sh prints them over the translation b3fae89e656adf0c… (all of the seat's roots in one cut). By AI agents, Wed Nov 11 2026. No macro, syntax, notation, axiom, sorry.
-/
import Derived.Test.YtngfphiagpodaaaChecked
import GoSem.Claim
import GoSem.ClaimJoined
import GoSem.ClaimMapViews
import Derived.JoinedTies
import Derived.KernelRfl
namespace Go.Proofs.Ytngfphiagpodaaa
/- THE CELL 'sum', in the pinned program and in every row, IS THE sha256 OF THE DUMP (.gsa) THAT YtngfphiagpodaaaProg.lean LOADS. Nothing in Lean hashes anything: it is a label: what it is worth is what the hold of that sum in a sandbox is worth. -/
noncomputable def Try.pinned : Pinned := { name := "ytngfphiagpodaaa", sum := "b3fae89e656adf0cce085e6a5a292033e7d0721d5f9279c612ec67a4b87c9a62", checked := Try.checked }
namespace Rows
def none {H : Type} : Left H := { results := [], args := [] }

/-- 'laws.FnExactConstants': WHATEVER THE INPUT: true; the input reads as it did. -/
def fnExactConstantsSpec : ChangeSpec := { name := "fnExactConstants", fn := fun _ => fun
  | [] => { results := [.lit (.bool true)], args := [] }
  | _ => none }
def fnExactConstantsRow : OpenClaim := { program := "ytngfphiagpodaaa", sum := "b3fae89e656adf0cce085e6a5a292033e7d0721d5f9279c612ec67a4b87c9a62", func := "loop.example/heliograph/laws.FnExactConstants", spec := "fnExactConstants", apart := false }
def FnExactConstantsSaid : Prop := fnExactConstantsRow.holds Try.pinned (OpenSpec.ofChange fnExactConstantsSpec)

/-- ITS FALSE NEIGHBOUR: 'it returns false'. Refute it at one input. -/
def fnExactConstantsWrong : ChangeSpec := { name := "fnExactConstants", fn := fun _ => fun
  | [] => { results := [.lit (.bool false)], args := [] }
  | _ => none }
def FnExactConstantsWrongFalsely : Prop := fnExactConstantsRow.holds Try.pinned (OpenSpec.ofChange fnExactConstantsWrong)

/-- 'laws.FnExactRulesOk': WHATEVER THE INPUT: true; the input reads as it did. -/
def fnExactRulesOkSpec : ChangeSpec := { name := "fnExactRulesOk", fn := fun _ => fun
  | [d] => { results := [.lit (.bool true)], args := [d] }
  | _ => none }
def fnExactRulesOkRow : OpenClaim := { program := "ytngfphiagpodaaa", sum := "b3fae89e656adf0cce085e6a5a292033e7d0721d5f9279c612ec67a4b87c9a62", func := "loop.example/heliograph/laws.FnExactRulesOk", spec := "fnExactRulesOk", apart := false }
def FnExactRulesOkSaid : Prop := fnExactRulesOkRow.holds Try.pinned (OpenSpec.ofChange fnExactRulesOkSpec)

/-- ITS FALSE NEIGHBOUR: 'it returns false'. Refute it at one input. -/
def fnExactRulesOkWrong : ChangeSpec := { name := "fnExactRulesOk", fn := fun _ => fun
  | [d] => { results := [.lit (.bool false)], args := [d] }
  | _ => none }
def FnExactRulesOkWrongFalsely : Prop := fnExactRulesOkRow.holds Try.pinned (OpenSpec.ofChange fnExactRulesOkWrong)

/-- 'laws.FnExactTrainOk': WHATEVER THE INPUT: true; the input reads as it did. -/
def fnExactTrainOkSpec : ChangeSpec := { name := "fnExactTrainOk", fn := fun _ => fun
  | [d1, d2] => { results := [.lit (.bool true)], args := [d1, d2] }
  | _ => none }
def fnExactTrainOkRow : OpenClaim := { program := "ytngfphiagpodaaa", sum := "b3fae89e656adf0cce085e6a5a292033e7d0721d5f9279c612ec67a4b87c9a62", func := "loop.example/heliograph/laws.FnExactTrainOk", spec := "fnExactTrainOk", apart := false }
def FnExactTrainOkSaid : Prop := fnExactTrainOkRow.holds Try.pinned (OpenSpec.ofChange fnExactTrainOkSpec)

/-- ITS FALSE NEIGHBOUR: 'it returns false'. Refute it at one input. -/
def fnExactTrainOkWrong : ChangeSpec := { name := "fnExactTrainOk", fn := fun _ => fun
  | [d1, d2] => { results := [.lit (.bool false)], args := [d1, d2] }
  | _ => none }
def FnExactTrainOkWrongFalsely : Prop := fnExactTrainOkRow.holds Try.pinned (OpenSpec.ofChange fnExactTrainOkWrong)

/-- 'laws.FnExactBoxOk': WHATEVER THE INPUT: true; the input reads as it did. -/
def fnExactBoxOkSpec : ChangeSpec := { name := "fnExactBoxOk", fn := fun _ => fun
  | [d1, d2] => { results := [.lit (.bool true)], args := [d1, d2] }
  | _ => none }
def fnExactBoxOkRow : OpenClaim := { program := "ytngfphiagpodaaa", sum := "b3fae89e656adf0cce085e6a5a292033e7d0721d5f9279c612ec67a4b87c9a62", func := "loop.example/heliograph/laws.FnExactBoxOk", spec := "fnExactBoxOk", apart := false }
def FnExactBoxOkSaid : Prop := fnExactBoxOkRow.holds Try.pinned (OpenSpec.ofChange fnExactBoxOkSpec)

/-- ITS FALSE NEIGHBOUR: 'it returns false'. Refute it at one input. -/
def fnExactBoxOkWrong : ChangeSpec := { name := "fnExactBoxOk", fn := fun _ => fun
  | [d1, d2] => { results := [.lit (.bool false)], args := [d1, d2] }
  | _ => none }
def FnExactBoxOkWrongFalsely : Prop := fnExactBoxOkRow.holds Try.pinned (OpenSpec.ofChange fnExactBoxOkWrong)

/-- 'laws.FnExactPacketOk': WHATEVER THE INPUT: true; the input reads as it did. -/
def fnExactPacketOkSpec : ChangeSpec := { name := "fnExactPacketOk", fn := fun _ => fun
  | [d] => { results := [.lit (.bool true)], args := [d] }
  | _ => none }
def fnExactPacketOkRow : OpenClaim := { program := "ytngfphiagpodaaa", sum := "b3fae89e656adf0cce085e6a5a292033e7d0721d5f9279c612ec67a4b87c9a62", func := "loop.example/heliograph/laws.FnExactPacketOk", spec := "fnExactPacketOk", apart := false }
def FnExactPacketOkSaid : Prop := fnExactPacketOkRow.holds Try.pinned (OpenSpec.ofChange fnExactPacketOkSpec)

/-- ITS FALSE NEIGHBOUR: 'it returns false'. Refute it at one input. -/
def fnExactPacketOkWrong : ChangeSpec := { name := "fnExactPacketOk", fn := fun _ => fun
  | [d] => { results := [.lit (.bool false)], args := [d] }
  | _ => none }
def FnExactPacketOkWrongFalsely : Prop := fnExactPacketOkRow.holds Try.pinned (OpenSpec.ofChange fnExactPacketOkWrong)

/-- 'laws.FnExactSum': WHATEVER THE INPUT: true; the input reads as it did. -/
def fnExactSumSpec : ChangeSpec := { name := "fnExactSum", fn := fun _ => fun
  | [d] => { results := [.lit (.bool true)], args := [d] }
  | _ => none }
def fnExactSumRow : OpenClaim := { program := "ytngfphiagpodaaa", sum := "b3fae89e656adf0cce085e6a5a292033e7d0721d5f9279c612ec67a4b87c9a62", func := "loop.example/heliograph/laws.FnExactSum", spec := "fnExactSum", apart := false }
def FnExactSumSaid : Prop := fnExactSumRow.holds Try.pinned (OpenSpec.ofChange fnExactSumSpec)

/-- ITS FALSE NEIGHBOUR: 'it returns false'. Refute it at one input. -/
def fnExactSumWrong : ChangeSpec := { name := "fnExactSum", fn := fun _ => fun
  | [d] => { results := [.lit (.bool false)], args := [d] }
  | _ => none }
def FnExactSumWrongFalsely : Prop := fnExactSumRow.holds Try.pinned (OpenSpec.ofChange fnExactSumWrong)

/-- 'laws.FnExactTrainSilent': WHATEVER THE INPUT: true; the input reads as it did. -/
def fnExactTrainSilentSpec : ChangeSpec := { name := "fnExactTrainSilent", fn := fun _ => fun
  | [d1, d2, d3] => { results := [.lit (.bool true)], args := [d1, d2, d3] }
  | _ => none }
def fnExactTrainSilentRow : OpenClaim := { program := "ytngfphiagpodaaa", sum := "b3fae89e656adf0cce085e6a5a292033e7d0721d5f9279c612ec67a4b87c9a62", func := "loop.example/heliograph/laws.FnExactTrainSilent", spec := "fnExactTrainSilent", apart := false }
def FnExactTrainSilentSaid : Prop := fnExactTrainSilentRow.holds Try.pinned (OpenSpec.ofChange fnExactTrainSilentSpec)

/-- ITS FALSE NEIGHBOUR: 'it returns false'. Refute it at one input. -/
def fnExactTrainSilentWrong : ChangeSpec := { name := "fnExactTrainSilent", fn := fun _ => fun
  | [d1, d2, d3] => { results := [.lit (.bool false)], args := [d1, d2, d3] }
  | _ => none }
def FnExactTrainSilentWrongFalsely : Prop := fnExactTrainSilentRow.holds Try.pinned (OpenSpec.ofChange fnExactTrainSilentWrong)

/-- 'laws.FnExactBoxSilent': WHATEVER THE INPUT: true; the input reads as it did. -/
def fnExactBoxSilentSpec : ChangeSpec := { name := "fnExactBoxSilent", fn := fun _ => fun
  | [d1, d2, d3] => { results := [.lit (.bool true)], args := [d1, d2, d3] }
  | _ => none }
def fnExactBoxSilentRow : OpenClaim := { program := "ytngfphiagpodaaa", sum := "b3fae89e656adf0cce085e6a5a292033e7d0721d5f9279c612ec67a4b87c9a62", func := "loop.example/heliograph/laws.FnExactBoxSilent", spec := "fnExactBoxSilent", apart := false }
def FnExactBoxSilentSaid : Prop := fnExactBoxSilentRow.holds Try.pinned (OpenSpec.ofChange fnExactBoxSilentSpec)

/-- ITS FALSE NEIGHBOUR: 'it returns false'. Refute it at one input. -/
def fnExactBoxSilentWrong : ChangeSpec := { name := "fnExactBoxSilent", fn := fun _ => fun
  | [d1, d2, d3] => { results := [.lit (.bool false)], args := [d1, d2, d3] }
  | _ => none }
def FnExactBoxSilentWrongFalsely : Prop := fnExactBoxSilentRow.holds Try.pinned (OpenSpec.ofChange fnExactBoxSilentWrong)

/-- 'laws.FnExactStood': WHATEVER THE INPUT: true; the input reads as it did. -/
def fnExactStoodSpec : ChangeSpec := { name := "fnExactStood", fn := fun _ => fun
  | [d1, d2] => { results := [.lit (.bool true)], args := [d1, d2] }
  | _ => none }
def fnExactStoodRow : OpenClaim := { program := "ytngfphiagpodaaa", sum := "b3fae89e656adf0cce085e6a5a292033e7d0721d5f9279c612ec67a4b87c9a62", func := "loop.example/heliograph/laws.FnExactStood", spec := "fnExactStood", apart := false }
def FnExactStoodSaid : Prop := fnExactStoodRow.holds Try.pinned (OpenSpec.ofChange fnExactStoodSpec)

/-- ITS FALSE NEIGHBOUR: 'it returns false'. Refute it at one input. -/
def fnExactStoodWrong : ChangeSpec := { name := "fnExactStood", fn := fun _ => fun
  | [d1, d2] => { results := [.lit (.bool false)], args := [d1, d2] }
  | _ => none }
def FnExactStoodWrongFalsely : Prop := fnExactStoodRow.holds Try.pinned (OpenSpec.ofChange fnExactStoodWrong)

/-- 'laws.FnExactMayHave': WHATEVER THE INPUT: true; the input reads as it did. -/
def fnExactMayHaveSpec : ChangeSpec := { name := "fnExactMayHave", fn := fun _ => fun
  | [d1, d2] => { results := [.lit (.bool true)], args := [d1, d2] }
  | _ => none }
def fnExactMayHaveRow : OpenClaim := { program := "ytngfphiagpodaaa", sum := "b3fae89e656adf0cce085e6a5a292033e7d0721d5f9279c612ec67a4b87c9a62", func := "loop.example/heliograph/laws.FnExactMayHave", spec := "fnExactMayHave", apart := false }
def FnExactMayHaveSaid : Prop := fnExactMayHaveRow.holds Try.pinned (OpenSpec.ofChange fnExactMayHaveSpec)

/-- ITS FALSE NEIGHBOUR: 'it returns false'. Refute it at one input. -/
def fnExactMayHaveWrong : ChangeSpec := { name := "fnExactMayHave", fn := fun _ => fun
  | [d1, d2] => { results := [.lit (.bool false)], args := [d1, d2] }
  | _ => none }
def FnExactMayHaveWrongFalsely : Prop := fnExactMayHaveRow.holds Try.pinned (OpenSpec.ofChange fnExactMayHaveWrong)

/- THE SECOND FORM. 'bulk': how many values and letters a reading holds, each counted each time it is reached (what is shared counts as often as it is met; a slice's spare places count too). A statement '..UptoSaid' is the law's where the arguments, and the package variables that the reading takes, are together of bulk at most 1048576: NARROWER than '..Said'. Prove '..Said' where nothing that the law and all that it calls make is longer than what came in: it says more and counts as full. Else prove '..UptoSaid'. A law counts once. -/
mutual
def uptoBulk {H : Type} : DataW H → Nat
  | .lit (.string bytes) => bytes.length + 1
  | .lit _ => 1
  | .nil => 1
  | .ptr d => uptoBulk d + 1
  | .slice elems spare => uptoBulkAll elems + uptoBulkAll spare + 1
  | .agg parts => uptoBulkAll parts + 1
  | .iface _ d => uptoBulk d + 1
  | .map entries => uptoBulkEntries entries + 1
  | .held _ => 1
def uptoBulkAll {H : Type} : List (DataW H) → Nat
  | [] => 0
  | d :: r => uptoBulk d + uptoBulkAll r
def uptoBulkEntries {H : Type} : List (Lit × DataW H) → Nat
  | [] => 0
  | x :: r => uptoBulkEntry x + uptoBulkEntries r
def uptoBulkEntry {H : Type} : Lit × DataW H → Nat
  | (.string bytes, d) => bytes.length + uptoBulk d + 1
  | (_, d) => uptoBulk d + 1
 end
def uptoSmall : (H : Type) → List (DataW H) → Bool := fun _ ds => decide (uptoBulkAll ds ≤ 1048576)
def OpenSpec.upto (s : _root_.Go.ChangeSpec) : _root_.Go.OpenSpec := { _root_.Go.OpenSpec.ofChange s with cond := some uptoSmall }

/-- 'laws.FnExactConstants', WHERE WHAT IT READS IS OF BULK AT MOST 1048576: true; the input reads as it did. -/
def fnExactConstantsUptoRow : OpenClaim := { program := "ytngfphiagpodaaa", sum := "b3fae89e656adf0cce085e6a5a292033e7d0721d5f9279c612ec67a4b87c9a62", func := "loop.example/heliograph/laws.FnExactConstants", spec := "fnExactConstants", apart := false, narrowed := true }
def FnExactConstantsUptoSaid : Prop := fnExactConstantsUptoRow.holds Try.pinned (OpenSpec.upto fnExactConstantsSpec)

/-- 'laws.FnExactRulesOk', WHERE WHAT IT READS IS OF BULK AT MOST 1048576: true; the input reads as it did. -/
def fnExactRulesOkUptoRow : OpenClaim := { program := "ytngfphiagpodaaa", sum := "b3fae89e656adf0cce085e6a5a292033e7d0721d5f9279c612ec67a4b87c9a62", func := "loop.example/heliograph/laws.FnExactRulesOk", spec := "fnExactRulesOk", apart := false, narrowed := true }
def FnExactRulesOkUptoSaid : Prop := fnExactRulesOkUptoRow.holds Try.pinned (OpenSpec.upto fnExactRulesOkSpec)

/-- 'laws.FnExactTrainOk', WHERE WHAT IT READS IS OF BULK AT MOST 1048576: true; the input reads as it did. -/
def fnExactTrainOkUptoRow : OpenClaim := { program := "ytngfphiagpodaaa", sum := "b3fae89e656adf0cce085e6a5a292033e7d0721d5f9279c612ec67a4b87c9a62", func := "loop.example/heliograph/laws.FnExactTrainOk", spec := "fnExactTrainOk", apart := false, narrowed := true }
def FnExactTrainOkUptoSaid : Prop := fnExactTrainOkUptoRow.holds Try.pinned (OpenSpec.upto fnExactTrainOkSpec)

/-- 'laws.FnExactBoxOk', WHERE WHAT IT READS IS OF BULK AT MOST 1048576: true; the input reads as it did. -/
def fnExactBoxOkUptoRow : OpenClaim := { program := "ytngfphiagpodaaa", sum := "b3fae89e656adf0cce085e6a5a292033e7d0721d5f9279c612ec67a4b87c9a62", func := "loop.example/heliograph/laws.FnExactBoxOk", spec := "fnExactBoxOk", apart := false, narrowed := true }
def FnExactBoxOkUptoSaid : Prop := fnExactBoxOkUptoRow.holds Try.pinned (OpenSpec.upto fnExactBoxOkSpec)

/-- 'laws.FnExactPacketOk', WHERE WHAT IT READS IS OF BULK AT MOST 1048576: true; the input reads as it did. -/
def fnExactPacketOkUptoRow : OpenClaim := { program := "ytngfphiagpodaaa", sum := "b3fae89e656adf0cce085e6a5a292033e7d0721d5f9279c612ec67a4b87c9a62", func := "loop.example/heliograph/laws.FnExactPacketOk", spec := "fnExactPacketOk", apart := false, narrowed := true }
def FnExactPacketOkUptoSaid : Prop := fnExactPacketOkUptoRow.holds Try.pinned (OpenSpec.upto fnExactPacketOkSpec)

/-- 'laws.FnExactSum', WHERE WHAT IT READS IS OF BULK AT MOST 1048576: true; the input reads as it did. -/
def fnExactSumUptoRow : OpenClaim := { program := "ytngfphiagpodaaa", sum := "b3fae89e656adf0cce085e6a5a292033e7d0721d5f9279c612ec67a4b87c9a62", func := "loop.example/heliograph/laws.FnExactSum", spec := "fnExactSum", apart := false, narrowed := true }
def FnExactSumUptoSaid : Prop := fnExactSumUptoRow.holds Try.pinned (OpenSpec.upto fnExactSumSpec)

/-- 'laws.FnExactTrainSilent', WHERE WHAT IT READS IS OF BULK AT MOST 1048576: true; the input reads as it did. -/
def fnExactTrainSilentUptoRow : OpenClaim := { program := "ytngfphiagpodaaa", sum := "b3fae89e656adf0cce085e6a5a292033e7d0721d5f9279c612ec67a4b87c9a62", func := "loop.example/heliograph/laws.FnExactTrainSilent", spec := "fnExactTrainSilent", apart := false, narrowed := true }
def FnExactTrainSilentUptoSaid : Prop := fnExactTrainSilentUptoRow.holds Try.pinned (OpenSpec.upto fnExactTrainSilentSpec)

/-- 'laws.FnExactBoxSilent', WHERE WHAT IT READS IS OF BULK AT MOST 1048576: true; the input reads as it did. -/
def fnExactBoxSilentUptoRow : OpenClaim := { program := "ytngfphiagpodaaa", sum := "b3fae89e656adf0cce085e6a5a292033e7d0721d5f9279c612ec67a4b87c9a62", func := "loop.example/heliograph/laws.FnExactBoxSilent", spec := "fnExactBoxSilent", apart := false, narrowed := true }
def FnExactBoxSilentUptoSaid : Prop := fnExactBoxSilentUptoRow.holds Try.pinned (OpenSpec.upto fnExactBoxSilentSpec)

/-- 'laws.FnExactStood', WHERE WHAT IT READS IS OF BULK AT MOST 1048576: true; the input reads as it did. -/
def fnExactStoodUptoRow : OpenClaim := { program := "ytngfphiagpodaaa", sum := "b3fae89e656adf0cce085e6a5a292033e7d0721d5f9279c612ec67a4b87c9a62", func := "loop.example/heliograph/laws.FnExactStood", spec := "fnExactStood", apart := false, narrowed := true }
def FnExactStoodUptoSaid : Prop := fnExactStoodUptoRow.holds Try.pinned (OpenSpec.upto fnExactStoodSpec)

/-- 'laws.FnExactMayHave', WHERE WHAT IT READS IS OF BULK AT MOST 1048576: true; the input reads as it did. -/
def fnExactMayHaveUptoRow : OpenClaim := { program := "ytngfphiagpodaaa", sum := "b3fae89e656adf0cce085e6a5a292033e7d0721d5f9279c612ec67a4b87c9a62", func := "loop.example/heliograph/laws.FnExactMayHave", spec := "fnExactMayHave", apart := false, narrowed := true }
def FnExactMayHaveUptoSaid : Prop := fnExactMayHaveUptoRow.holds Try.pinned (OpenSpec.upto fnExactMayHaveSpec)

end Rows
end Go.Proofs.Ytngfphiagpodaaa
