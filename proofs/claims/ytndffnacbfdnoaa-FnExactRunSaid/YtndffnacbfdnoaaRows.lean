/-
  No cell of these rows narrows 'for every input' (looked for: loops, veiled, ifaces, maps, wideKeys, modest, calm, conditions, laid).
  DERIVED. THE GIVEN ROWS OF THIS SEAT. 8 by the template 'for every input the law returns true; each argument reads behind the call as it read before'; 0 by the template 'total and deterministic' (their statements: YtndffnacbfdnoaaTotals.lean).
  GIVEN WITH THE SEED: the statements are not yours to turn. If you find one false, say at which input.
  Laid BY PROGRAM, IN A SANDBOX (cutbox-rows.mjs): the forced cells as the released guide's own fill.sh prints them over the translation f070b648675444ad… (all of the seat's roots in one cut). By AI agents, Wed Nov 11 2026. No macro, syntax, notation, axiom, sorry.
-/
import Derived.Test.YtndffnacbfdnoaaChecked
import GoSem.Claim
import GoSem.ClaimJoined
import GoSem.ClaimMapViews
import Derived.JoinedTies
import Derived.KernelRfl
namespace Go.Proofs.Ytndffnacbfdnoaa
/- THE CELL 'sum', in the pinned program and in every row, IS THE sha256 OF THE DUMP (.gsa) THAT YtndffnacbfdnoaaProg.lean LOADS. Nothing in Lean hashes anything: it is a label: what it is worth is what the hold of that sum in a sandbox is worth. -/
noncomputable def Try.pinned : Pinned := { name := "ytndffnacbfdnoaa", sum := "f070b648675444ad397f78d3337873fbdc67840bd759321e69e688a37f281530", checked := Try.checked }
namespace Rows
def none {H : Type} : Left H := { results := [], args := [] }

/-- 'laws.FnExactBoxTick': WHATEVER THE INPUT: true; the input reads as it did. -/
def fnExactBoxTickSpec : ChangeSpec := { name := "fnExactBoxTick", fn := fun _ => fun
  | [d1, d2, d3, d4, d5] => { results := [.lit (.bool true)], args := [d1, d2, d3, d4, d5] }
  | _ => none }
def fnExactBoxTickRow : OpenClaim := { program := "ytndffnacbfdnoaa", sum := "f070b648675444ad397f78d3337873fbdc67840bd759321e69e688a37f281530", func := "loop.example/heliograph/laws.FnExactBoxTick", spec := "fnExactBoxTick", apart := false }
def FnExactBoxTickSaid : Prop := fnExactBoxTickRow.holds Try.pinned (OpenSpec.ofChange fnExactBoxTickSpec)

/-- ITS FALSE NEIGHBOUR: 'it returns false'. Refute it at one input. -/
def fnExactBoxTickWrong : ChangeSpec := { name := "fnExactBoxTick", fn := fun _ => fun
  | [d1, d2, d3, d4, d5] => { results := [.lit (.bool false)], args := [d1, d2, d3, d4, d5] }
  | _ => none }
def FnExactBoxTickWrongFalsely : Prop := fnExactBoxTickRow.holds Try.pinned (OpenSpec.ofChange fnExactBoxTickWrong)

/-- 'laws.FnExactTrainTick': WHATEVER THE INPUT: true; the input reads as it did. -/
def fnExactTrainTickSpec : ChangeSpec := { name := "fnExactTrainTick", fn := fun _ => fun
  | [d1, d2, d3, d4] => { results := [.lit (.bool true)], args := [d1, d2, d3, d4] }
  | _ => none }
def fnExactTrainTickRow : OpenClaim := { program := "ytndffnacbfdnoaa", sum := "f070b648675444ad397f78d3337873fbdc67840bd759321e69e688a37f281530", func := "loop.example/heliograph/laws.FnExactTrainTick", spec := "fnExactTrainTick", apart := false }
def FnExactTrainTickSaid : Prop := fnExactTrainTickRow.holds Try.pinned (OpenSpec.ofChange fnExactTrainTickSpec)

/-- ITS FALSE NEIGHBOUR: 'it returns false'. Refute it at one input. -/
def fnExactTrainTickWrong : ChangeSpec := { name := "fnExactTrainTick", fn := fun _ => fun
  | [d1, d2, d3, d4] => { results := [.lit (.bool false)], args := [d1, d2, d3, d4] }
  | _ => none }
def FnExactTrainTickWrongFalsely : Prop := fnExactTrainTickRow.holds Try.pinned (OpenSpec.ofChange fnExactTrainTickWrong)

/-- 'laws.FnEnds': WHATEVER THE INPUT: true; the input reads as it did. -/
def fnEndsSpec : ChangeSpec := { name := "fnEnds", fn := fun _ => fun
  | [d] => { results := [.lit (.bool true)], args := [d] }
  | _ => none }
def fnEndsRow : OpenClaim := { program := "ytndffnacbfdnoaa", sum := "f070b648675444ad397f78d3337873fbdc67840bd759321e69e688a37f281530", func := "loop.example/heliograph/laws.FnEnds", spec := "fnEnds", apart := false }
def FnEndsSaid : Prop := fnEndsRow.holds Try.pinned (OpenSpec.ofChange fnEndsSpec)

/-- ITS FALSE NEIGHBOUR: 'it returns false'. Refute it at one input. -/
def fnEndsWrong : ChangeSpec := { name := "fnEnds", fn := fun _ => fun
  | [d] => { results := [.lit (.bool false)], args := [d] }
  | _ => none }
def FnEndsWrongFalsely : Prop := fnEndsRow.holds Try.pinned (OpenSpec.ofChange fnEndsWrong)

/-- 'laws.FnExactRun': WHATEVER THE INPUT: true; the input reads as it did. -/
def fnExactRunSpec : ChangeSpec := { name := "fnExactRun", fn := fun _ => fun
  | [d1, d2, d3, d4] => { results := [.lit (.bool true)], args := [d1, d2, d3, d4] }
  | _ => none }
def fnExactRunRow : OpenClaim := { program := "ytndffnacbfdnoaa", sum := "f070b648675444ad397f78d3337873fbdc67840bd759321e69e688a37f281530", func := "loop.example/heliograph/laws.FnExactRun", spec := "fnExactRun", unfollowed := true, recurses := true, apart := false }
def FnExactRunSaid : Prop := fnExactRunRow.holds Try.pinned (OpenSpec.ofChange fnExactRunSpec)

/-- ITS FALSE NEIGHBOUR: 'it returns false'. Refute it at one input. -/
def fnExactRunWrong : ChangeSpec := { name := "fnExactRun", fn := fun _ => fun
  | [d1, d2, d3, d4] => { results := [.lit (.bool false)], args := [d1, d2, d3, d4] }
  | _ => none }
def FnExactRunWrongFalsely : Prop := fnExactRunRow.holds Try.pinned (OpenSpec.ofChange fnExactRunWrong)

/-- 'laws.FnComes': WHATEVER THE INPUT: true; the input reads as it did. -/
def fnComesSpec : ChangeSpec := { name := "fnComes", fn := fun _ => fun
  | [d1, d2] => { results := [.lit (.bool true)], args := [d1, d2] }
  | _ => none }
def fnComesRow : OpenClaim := { program := "ytndffnacbfdnoaa", sum := "f070b648675444ad397f78d3337873fbdc67840bd759321e69e688a37f281530", func := "loop.example/heliograph/laws.FnComes", spec := "fnComes", unfollowed := true, recurses := true, apart := false }
def FnComesSaid : Prop := fnComesRow.holds Try.pinned (OpenSpec.ofChange fnComesSpec)

/-- ITS FALSE NEIGHBOUR: 'it returns false'. Refute it at one input. -/
def fnComesWrong : ChangeSpec := { name := "fnComes", fn := fun _ => fun
  | [d1, d2] => { results := [.lit (.bool false)], args := [d1, d2] }
  | _ => none }
def FnComesWrongFalsely : Prop := fnComesRow.holds Try.pinned (OpenSpec.ofChange fnComesWrong)

/-- 'laws.FnHas': WHATEVER THE INPUT: true; the input reads as it did. -/
def fnHasSpec : ChangeSpec := { name := "fnHas", fn := fun _ => fun
  | [d] => { results := [.lit (.bool true)], args := [d] }
  | _ => none }
def fnHasRow : OpenClaim := { program := "ytndffnacbfdnoaa", sum := "f070b648675444ad397f78d3337873fbdc67840bd759321e69e688a37f281530", func := "loop.example/heliograph/laws.FnHas", spec := "fnHas", unfollowed := true, recurses := true, apart := false }
def FnHasSaid : Prop := fnHasRow.holds Try.pinned (OpenSpec.ofChange fnHasSpec)

/-- ITS FALSE NEIGHBOUR: 'it returns false'. Refute it at one input. -/
def fnHasWrong : ChangeSpec := { name := "fnHas", fn := fun _ => fun
  | [d] => { results := [.lit (.bool false)], args := [d] }
  | _ => none }
def FnHasWrongFalsely : Prop := fnHasRow.holds Try.pinned (OpenSpec.ofChange fnHasWrong)

/-- 'laws.FnTrue': WHATEVER THE INPUT: true; the input reads as it did. -/
def fnTrueSpec : ChangeSpec := { name := "fnTrue", fn := fun _ => fun
  | [d] => { results := [.lit (.bool true)], args := [d] }
  | _ => none }
def fnTrueRow : OpenClaim := { program := "ytndffnacbfdnoaa", sum := "f070b648675444ad397f78d3337873fbdc67840bd759321e69e688a37f281530", func := "loop.example/heliograph/laws.FnTrue", spec := "fnTrue", unfollowed := true, recurses := true, apart := false }
def FnTrueSaid : Prop := fnTrueRow.holds Try.pinned (OpenSpec.ofChange fnTrueSpec)

/-- ITS FALSE NEIGHBOUR: 'it returns false'. Refute it at one input. -/
def fnTrueWrong : ChangeSpec := { name := "fnTrue", fn := fun _ => fun
  | [d] => { results := [.lit (.bool false)], args := [d] }
  | _ => none }
def FnTrueWrongFalsely : Prop := fnTrueRow.holds Try.pinned (OpenSpec.ofChange fnTrueWrong)

/-- 'laws.FnTwice': WHATEVER THE INPUT: true; the input reads as it did. -/
def fnTwiceSpec : ChangeSpec := { name := "fnTwice", fn := fun _ => fun
  | [d1, d2] => { results := [.lit (.bool true)], args := [d1, d2] }
  | _ => none }
def fnTwiceRow : OpenClaim := { program := "ytndffnacbfdnoaa", sum := "f070b648675444ad397f78d3337873fbdc67840bd759321e69e688a37f281530", func := "loop.example/heliograph/laws.FnTwice", spec := "fnTwice", unfollowed := true, recurses := true, apart := false }
def FnTwiceSaid : Prop := fnTwiceRow.holds Try.pinned (OpenSpec.ofChange fnTwiceSpec)

/-- ITS FALSE NEIGHBOUR: 'it returns false'. Refute it at one input. -/
def fnTwiceWrong : ChangeSpec := { name := "fnTwice", fn := fun _ => fun
  | [d1, d2] => { results := [.lit (.bool false)], args := [d1, d2] }
  | _ => none }
def FnTwiceWrongFalsely : Prop := fnTwiceRow.holds Try.pinned (OpenSpec.ofChange fnTwiceWrong)

/- THE SECOND FORM. 'bulk': how many values and letters a reading holds, each counted each time it is reached (what is shared counts as often as it is met; a slice's spare places count too). A statement '..UptoSaid' is the law's where the arguments, and the package variables that the reading takes, are together of bulk at most 1048576: NARROWER than '..Said'. Prove '..Said' where nothing that the law and all that it calls make is longer than what came in: it says more and counts as full. Else prove '..UptoSaid'. A law counts once. -/
mutual
def uptoBulk {H : Type} : DataW H → Nat
  | .lit (.string bytes) => bytes.length + 1
  | .lit _ => 1
  | .nil => 1
  | .ptr d => uptoBulk d + 1
  | .slice elems spare => uptoBulkAll elems + uptoBulkAll spare + 1
  | .agg parts => uptoBulkAll parts + 1
  | .iface _ d => uptoBulk d + 1
  | .map entries => uptoBulkEntries entries + 1
  | .held _ => 1
def uptoBulkAll {H : Type} : List (DataW H) → Nat
  | [] => 0
  | d :: r => uptoBulk d + uptoBulkAll r
def uptoBulkEntries {H : Type} : List (Lit × DataW H) → Nat
  | [] => 0
  | x :: r => uptoBulkEntry x + uptoBulkEntries r
def uptoBulkEntry {H : Type} : Lit × DataW H → Nat
  | (.string bytes, d) => bytes.length + uptoBulk d + 1
  | (_, d) => uptoBulk d + 1
 end
def uptoSmall : (H : Type) → List (DataW H) → Bool := fun _ ds => decide (uptoBulkAll ds ≤ 1048576)
def OpenSpec.upto (s : _root_.Go.ChangeSpec) : _root_.Go.OpenSpec := { _root_.Go.OpenSpec.ofChange s with cond := some uptoSmall }

/-- 'laws.FnExactBoxTick', WHERE WHAT IT READS IS OF BULK AT MOST 1048576: true; the input reads as it did. -/
def fnExactBoxTickUptoRow : OpenClaim := { program := "ytndffnacbfdnoaa", sum := "f070b648675444ad397f78d3337873fbdc67840bd759321e69e688a37f281530", func := "loop.example/heliograph/laws.FnExactBoxTick", spec := "fnExactBoxTick", apart := false, narrowed := true }
def FnExactBoxTickUptoSaid : Prop := fnExactBoxTickUptoRow.holds Try.pinned (OpenSpec.upto fnExactBoxTickSpec)

/-- 'laws.FnExactTrainTick', WHERE WHAT IT READS IS OF BULK AT MOST 1048576: true; the input reads as it did. -/
def fnExactTrainTickUptoRow : OpenClaim := { program := "ytndffnacbfdnoaa", sum := "f070b648675444ad397f78d3337873fbdc67840bd759321e69e688a37f281530", func := "loop.example/heliograph/laws.FnExactTrainTick", spec := "fnExactTrainTick", apart := false, narrowed := true }
def FnExactTrainTickUptoSaid : Prop := fnExactTrainTickUptoRow.holds Try.pinned (OpenSpec.upto fnExactTrainTickSpec)

/-- 'laws.FnEnds', WHERE WHAT IT READS IS OF BULK AT MOST 1048576: true; the input reads as it did. -/
def fnEndsUptoRow : OpenClaim := { program := "ytndffnacbfdnoaa", sum := "f070b648675444ad397f78d3337873fbdc67840bd759321e69e688a37f281530", func := "loop.example/heliograph/laws.FnEnds", spec := "fnEnds", apart := false, narrowed := true }
def FnEndsUptoSaid : Prop := fnEndsUptoRow.holds Try.pinned (OpenSpec.upto fnEndsSpec)

/-- 'laws.FnExactRun', WHERE WHAT IT READS IS OF BULK AT MOST 1048576: true; the input reads as it did. -/
def fnExactRunUptoRow : OpenClaim := { program := "ytndffnacbfdnoaa", sum := "f070b648675444ad397f78d3337873fbdc67840bd759321e69e688a37f281530", func := "loop.example/heliograph/laws.FnExactRun", spec := "fnExactRun", unfollowed := true, recurses := true, apart := false, narrowed := true }
def FnExactRunUptoSaid : Prop := fnExactRunUptoRow.holds Try.pinned (OpenSpec.upto fnExactRunSpec)

/-- 'laws.FnComes', WHERE WHAT IT READS IS OF BULK AT MOST 1048576: true; the input reads as it did. -/
def fnComesUptoRow : OpenClaim := { program := "ytndffnacbfdnoaa", sum := "f070b648675444ad397f78d3337873fbdc67840bd759321e69e688a37f281530", func := "loop.example/heliograph/laws.FnComes", spec := "fnComes", unfollowed := true, recurses := true, apart := false, narrowed := true }
def FnComesUptoSaid : Prop := fnComesUptoRow.holds Try.pinned (OpenSpec.upto fnComesSpec)

/-- 'laws.FnHas', WHERE WHAT IT READS IS OF BULK AT MOST 1048576: true; the input reads as it did. -/
def fnHasUptoRow : OpenClaim := { program := "ytndffnacbfdnoaa", sum := "f070b648675444ad397f78d3337873fbdc67840bd759321e69e688a37f281530", func := "loop.example/heliograph/laws.FnHas", spec := "fnHas", unfollowed := true, recurses := true, apart := false, narrowed := true }
def FnHasUptoSaid : Prop := fnHasUptoRow.holds Try.pinned (OpenSpec.upto fnHasSpec)

/-- 'laws.FnTrue', WHERE WHAT IT READS IS OF BULK AT MOST 1048576: true; the input reads as it did. -/
def fnTrueUptoRow : OpenClaim := { program := "ytndffnacbfdnoaa", sum := "f070b648675444ad397f78d3337873fbdc67840bd759321e69e688a37f281530", func := "loop.example/heliograph/laws.FnTrue", spec := "fnTrue", unfollowed := true, recurses := true, apart := false, narrowed := true }
def FnTrueUptoSaid : Prop := fnTrueUptoRow.holds Try.pinned (OpenSpec.upto fnTrueSpec)

/-- 'laws.FnTwice', WHERE WHAT IT READS IS OF BULK AT MOST 1048576: true; the input reads as it did. -/
def fnTwiceUptoRow : OpenClaim := { program := "ytndffnacbfdnoaa", sum := "f070b648675444ad397f78d3337873fbdc67840bd759321e69e688a37f281530", func := "loop.example/heliograph/laws.FnTwice", spec := "fnTwice", unfollowed := true, recurses := true, apart := false, narrowed := true }
def FnTwiceUptoSaid : Prop := fnTwiceUptoRow.holds Try.pinned (OpenSpec.upto fnTwiceSpec)

end Rows
end Go.Proofs.Ytndffnacbfdnoaa
