/-
  No cell of these rows narrows 'for every input' (looked for: loops, veiled, ifaces, maps, wideKeys, modest, calm, conditions, laid).
  DERIVED. THE GIVEN ROWS OF THIS SEAT. 11 by the template 'for every input the law returns true; each argument reads behind the call as it read before'; 0 by the template 'total and deterministic' (their statements: YtlfnddmncbkjaabTotals.lean).
  GIVEN WITH THE SEED: the statements are not yours to turn. If you find one false, say at which input.
  Laid BY PROGRAM, IN A SANDBOX (cutbox-rows.mjs): the forced cells as the released guide's own fill.sh prints them over the translation 47b331eb8b4c2760… (all of the seat's roots in one cut). By AI agents, Wed Nov 11 2026. No macro, syntax, notation, axiom, sorry.
-/
import Derived.Test.YtlfnddmncbkjaabChecked
import GoSem.Claim
import GoSem.ClaimJoined
import GoSem.ClaimMapViews
import Derived.JoinedTies
import Derived.KernelRfl
namespace Go.Proofs.Ytlfnddmncbkjaab
/- THE CELL 'sum', in the pinned program and in every row, IS THE sha256 OF THE DUMP (.gsa) THAT YtlfnddmncbkjaabProg.lean LOADS. Nothing in Lean hashes anything: it is a label: what it is worth is what the hold of that sum in a sandbox is worth. -/
noncomputable def Try.pinned : Pinned := { name := "ytlfnddmncbkjaab", sum := "47b331eb8b4c276088c1ae397aab616814c982c8240368765f09cb35a5ea7c6f", checked := Try.checked }
namespace Rows
def none {H : Type} : Left H := { results := [], args := [] }

/-- 'ferrybridgekeep.ImageBack': WHATEVER THE INPUT: true; the input reads as it did. -/
def imageBackSpec : ChangeSpec := { name := "imageBack", fn := fun _ => fun
  | [d1, d2] => { results := [.lit (.bool true)], args := [d1, d2] }
  | _ => none }
def imageBackRow : OpenClaim := { program := "ytlfnddmncbkjaab", sum := "47b331eb8b4c276088c1ae397aab616814c982c8240368765f09cb35a5ea7c6f", func := "ferrybridge/ferrybridgekeep.ImageBack", spec := "imageBack", apart := false }
def ImageBackSaid : Prop := imageBackRow.holds Try.pinned (OpenSpec.ofChange imageBackSpec)

/-- ITS FALSE NEIGHBOUR: 'it returns false'. Refute it at one input. -/
def imageBackWrong : ChangeSpec := { name := "imageBack", fn := fun _ => fun
  | [d1, d2] => { results := [.lit (.bool false)], args := [d1, d2] }
  | _ => none }
def ImageBackWrongFalsely : Prop := imageBackRow.holds Try.pinned (OpenSpec.ofChange imageBackWrong)

/-- 'ferrybridgelaw.WordTells': WHATEVER THE INPUT: true; the input reads as it did. -/
def wordTellsSpec : ChangeSpec := { name := "wordTells", fn := fun _ => fun
  | [d1, d2, d3] => { results := [.lit (.bool true)], args := [d1, d2, d3] }
  | _ => none }
def wordTellsRow : OpenClaim := { program := "ytlfnddmncbkjaab", sum := "47b331eb8b4c276088c1ae397aab616814c982c8240368765f09cb35a5ea7c6f", func := "ferrybridge/ferrybridgelaw.WordTells", spec := "wordTells", apart := false }
def WordTellsSaid : Prop := wordTellsRow.holds Try.pinned (OpenSpec.ofChange wordTellsSpec)

/-- ITS FALSE NEIGHBOUR: 'it returns false'. Refute it at one input. -/
def wordTellsWrong : ChangeSpec := { name := "wordTells", fn := fun _ => fun
  | [d1, d2, d3] => { results := [.lit (.bool false)], args := [d1, d2, d3] }
  | _ => none }
def WordTellsWrongFalsely : Prop := wordTellsRow.holds Try.pinned (OpenSpec.ofChange wordTellsWrong)

/-- 'ferrybridgelaw.DecodeEncodes': WHATEVER THE INPUT: true; the input reads as it did. -/
def decodeEncodesSpec : ChangeSpec := { name := "decodeEncodes", fn := fun _ => fun
  | [d] => { results := [.lit (.bool true)], args := [d] }
  | _ => none }
def decodeEncodesRow : OpenClaim := { program := "ytlfnddmncbkjaab", sum := "47b331eb8b4c276088c1ae397aab616814c982c8240368765f09cb35a5ea7c6f", func := "ferrybridge/ferrybridgelaw.DecodeEncodes", spec := "decodeEncodes", unfollowed := true, recurses := true, apart := false }
def DecodeEncodesSaid : Prop := decodeEncodesRow.holds Try.pinned (OpenSpec.ofChange decodeEncodesSpec)

/-- ITS FALSE NEIGHBOUR: 'it returns false'. Refute it at one input. -/
def decodeEncodesWrong : ChangeSpec := { name := "decodeEncodes", fn := fun _ => fun
  | [d] => { results := [.lit (.bool false)], args := [d] }
  | _ => none }
def DecodeEncodesWrongFalsely : Prop := decodeEncodesRow.holds Try.pinned (OpenSpec.ofChange decodeEncodesWrong)

/-- 'ferrybridgekeep.DecodeBack': WHATEVER THE INPUT: true; the input reads as it did. -/
def decodeBackSpec : ChangeSpec := { name := "decodeBack", fn := fun _ => fun
  | [d] => { results := [.lit (.bool true)], args := [d] }
  | _ => none }
def decodeBackRow : OpenClaim := { program := "ytlfnddmncbkjaab", sum := "47b331eb8b4c276088c1ae397aab616814c982c8240368765f09cb35a5ea7c6f", func := "ferrybridge/ferrybridgekeep.DecodeBack", spec := "decodeBack", unfollowed := true, recurses := true, apart := false }
def DecodeBackSaid : Prop := decodeBackRow.holds Try.pinned (OpenSpec.ofChange decodeBackSpec)

/-- ITS FALSE NEIGHBOUR: 'it returns false'. Refute it at one input. -/
def decodeBackWrong : ChangeSpec := { name := "decodeBack", fn := fun _ => fun
  | [d] => { results := [.lit (.bool false)], args := [d] }
  | _ => none }
def DecodeBackWrongFalsely : Prop := decodeBackRow.holds Try.pinned (OpenSpec.ofChange decodeBackWrong)

/-- 'ferrybridgelaw.BlockMakes': WHATEVER THE INPUT: true; the input reads as it did. -/
def blockMakesSpec : ChangeSpec := { name := "blockMakes", fn := fun _ => fun
  | [d1, d2] => { results := [.lit (.bool true)], args := [d1, d2] }
  | _ => none }
def blockMakesRow : OpenClaim := { program := "ytlfnddmncbkjaab", sum := "47b331eb8b4c276088c1ae397aab616814c982c8240368765f09cb35a5ea7c6f", func := "ferrybridge/ferrybridgelaw.BlockMakes", spec := "blockMakes", unfollowed := true, recurses := true, apart := false }
def BlockMakesSaid : Prop := blockMakesRow.holds Try.pinned (OpenSpec.ofChange blockMakesSpec)

/-- ITS FALSE NEIGHBOUR: 'it returns false'. Refute it at one input. -/
def blockMakesWrong : ChangeSpec := { name := "blockMakes", fn := fun _ => fun
  | [d1, d2] => { results := [.lit (.bool false)], args := [d1, d2] }
  | _ => none }
def BlockMakesWrongFalsely : Prop := blockMakesRow.holds Try.pinned (OpenSpec.ofChange blockMakesWrong)

/-- 'ferrybridgelaw.TransMay': WHATEVER THE INPUT: true; the input reads as it did. -/
def transMaySpec : ChangeSpec := { name := "transMay", fn := fun _ => fun
  | [d1, d2, d3] => { results := [.lit (.bool true)], args := [d1, d2, d3] }
  | _ => none }
def transMayRow : OpenClaim := { program := "ytlfnddmncbkjaab", sum := "47b331eb8b4c276088c1ae397aab616814c982c8240368765f09cb35a5ea7c6f", func := "ferrybridge/ferrybridgelaw.TransMay", spec := "transMay", unfollowed := true, recurses := true, apart := false }
def TransMaySaid : Prop := transMayRow.holds Try.pinned (OpenSpec.ofChange transMaySpec)

/-- ITS FALSE NEIGHBOUR: 'it returns false'. Refute it at one input. -/
def transMayWrong : ChangeSpec := { name := "transMay", fn := fun _ => fun
  | [d1, d2, d3] => { results := [.lit (.bool false)], args := [d1, d2, d3] }
  | _ => none }
def TransMayWrongFalsely : Prop := transMayRow.holds Try.pinned (OpenSpec.ofChange transMayWrong)

/-- 'ferrybridgelaw.TransSame': WHATEVER THE INPUT: true; the input reads as it did. -/
def transSameSpec : ChangeSpec := { name := "transSame", fn := fun _ => fun
  | [d1, d2, d3] => { results := [.lit (.bool true)], args := [d1, d2, d3] }
  | _ => none }
def transSameRow : OpenClaim := { program := "ytlfnddmncbkjaab", sum := "47b331eb8b4c276088c1ae397aab616814c982c8240368765f09cb35a5ea7c6f", func := "ferrybridge/ferrybridgelaw.TransSame", spec := "transSame", unfollowed := true, recurses := true, apart := false }
def TransSameSaid : Prop := transSameRow.holds Try.pinned (OpenSpec.ofChange transSameSpec)

/-- ITS FALSE NEIGHBOUR: 'it returns false'. Refute it at one input. -/
def transSameWrong : ChangeSpec := { name := "transSame", fn := fun _ => fun
  | [d1, d2, d3] => { results := [.lit (.bool false)], args := [d1, d2, d3] }
  | _ => none }
def TransSameWrongFalsely : Prop := transSameRow.holds Try.pinned (OpenSpec.ofChange transSameWrong)

/-- 'ferrybridgelaw.MicroRuns': WHATEVER THE INPUT: true; the input reads as it did. -/
def microRunsSpec : ChangeSpec := { name := "microRuns", fn := fun _ => fun
  | [d1, d2, d3, d4, d5] => { results := [.lit (.bool true)], args := [d1, d2, d3, d4, d5] }
  | _ => none }
def microRunsRow : OpenClaim := { program := "ytlfnddmncbkjaab", sum := "47b331eb8b4c276088c1ae397aab616814c982c8240368765f09cb35a5ea7c6f", func := "ferrybridge/ferrybridgelaw.MicroRuns", spec := "microRuns", unfollowed := true, recurses := true, apart := false }
def MicroRunsSaid : Prop := microRunsRow.holds Try.pinned (OpenSpec.ofChange microRunsSpec)

/-- ITS FALSE NEIGHBOUR: 'it returns false'. Refute it at one input. -/
def microRunsWrong : ChangeSpec := { name := "microRuns", fn := fun _ => fun
  | [d1, d2, d3, d4, d5] => { results := [.lit (.bool false)], args := [d1, d2, d3, d4, d5] }
  | _ => none }
def MicroRunsWrongFalsely : Prop := microRunsRow.holds Try.pinned (OpenSpec.ofChange microRunsWrong)

/-- 'ferrybridgelaw.HartSteps': WHATEVER THE INPUT: true; the input reads as it did. -/
def hartStepsSpec : ChangeSpec := { name := "hartSteps", fn := fun _ => fun
  | [d1, d2] => { results := [.lit (.bool true)], args := [d1, d2] }
  | _ => none }
def hartStepsRow : OpenClaim := { program := "ytlfnddmncbkjaab", sum := "47b331eb8b4c276088c1ae397aab616814c982c8240368765f09cb35a5ea7c6f", func := "ferrybridge/ferrybridgelaw.HartSteps", spec := "hartSteps", unfollowed := true, recurses := true, apart := false }
def HartStepsSaid : Prop := hartStepsRow.holds Try.pinned (OpenSpec.ofChange hartStepsSpec)

/-- ITS FALSE NEIGHBOUR: 'it returns false'. Refute it at one input. -/
def hartStepsWrong : ChangeSpec := { name := "hartSteps", fn := fun _ => fun
  | [d1, d2] => { results := [.lit (.bool false)], args := [d1, d2] }
  | _ => none }
def HartStepsWrongFalsely : Prop := hartStepsRow.holds Try.pinned (OpenSpec.ofChange hartStepsWrong)

/-- 'ferrybridgekeep.HartZero': WHATEVER THE INPUT: true; the input reads as it did. -/
def hartZeroSpec : ChangeSpec := { name := "hartZero", fn := fun _ => fun
  | [d1, d2] => { results := [.lit (.bool true)], args := [d1, d2] }
  | _ => none }
def hartZeroRow : OpenClaim := { program := "ytlfnddmncbkjaab", sum := "47b331eb8b4c276088c1ae397aab616814c982c8240368765f09cb35a5ea7c6f", func := "ferrybridge/ferrybridgekeep.HartZero", spec := "hartZero", unfollowed := true, recurses := true, apart := false }
def HartZeroSaid : Prop := hartZeroRow.holds Try.pinned (OpenSpec.ofChange hartZeroSpec)

/-- ITS FALSE NEIGHBOUR: 'it returns false'. Refute it at one input. -/
def hartZeroWrong : ChangeSpec := { name := "hartZero", fn := fun _ => fun
  | [d1, d2] => { results := [.lit (.bool false)], args := [d1, d2] }
  | _ => none }
def HartZeroWrongFalsely : Prop := hartZeroRow.holds Try.pinned (OpenSpec.ofChange hartZeroWrong)

/-- 'ferrybridgelaw.MachineRuns': WHATEVER THE INPUT: true; the input reads as it did. -/
def machineRunsSpec : ChangeSpec := { name := "machineRuns", fn := fun _ => fun
  | [d1, d2] => { results := [.lit (.bool true)], args := [d1, d2] }
  | _ => none }
def machineRunsRow : OpenClaim := { program := "ytlfnddmncbkjaab", sum := "47b331eb8b4c276088c1ae397aab616814c982c8240368765f09cb35a5ea7c6f", func := "ferrybridge/ferrybridgelaw.MachineRuns", spec := "machineRuns", unfollowed := true, recurses := true, apart := false }
def MachineRunsSaid : Prop := machineRunsRow.holds Try.pinned (OpenSpec.ofChange machineRunsSpec)

/-- ITS FALSE NEIGHBOUR: 'it returns false'. Refute it at one input. -/
def machineRunsWrong : ChangeSpec := { name := "machineRuns", fn := fun _ => fun
  | [d1, d2] => { results := [.lit (.bool false)], args := [d1, d2] }
  | _ => none }
def MachineRunsWrongFalsely : Prop := machineRunsRow.holds Try.pinned (OpenSpec.ofChange machineRunsWrong)

/- THE SECOND FORM. 'bulk': how many values and letters a reading holds, each counted each time it is reached (what is shared counts as often as it is met; a slice's spare places count too). A statement '..UptoSaid' is the law's where the arguments, and the package variables that the reading takes, are together of bulk at most 1048576: NARROWER than '..Said'. Prove '..Said' where nothing that the law and all that it calls make is longer than what came in: it says more and counts as full. Else prove '..UptoSaid'. A law counts once. -/
mutual
def uptoBulk {H : Type} : DataW H → Nat
  | .lit (.string bytes) => bytes.length + 1
  | .lit _ => 1
  | .nil => 1
  | .ptr d => uptoBulk d + 1
  | .slice elems spare => uptoBulkAll elems + uptoBulkAll spare + 1
  | .agg parts => uptoBulkAll parts + 1
  | .iface _ d => uptoBulk d + 1
  | .map entries => uptoBulkEntries entries + 1
  | .held _ => 1
def uptoBulkAll {H : Type} : List (DataW H) → Nat
  | [] => 0
  | d :: r => uptoBulk d + uptoBulkAll r
def uptoBulkEntries {H : Type} : List (Lit × DataW H) → Nat
  | [] => 0
  | x :: r => uptoBulkEntry x + uptoBulkEntries r
def uptoBulkEntry {H : Type} : Lit × DataW H → Nat
  | (.string bytes, d) => bytes.length + uptoBulk d + 1
  | (_, d) => uptoBulk d + 1
 end
def uptoSmall : (H : Type) → List (DataW H) → Bool := fun _ ds => decide (uptoBulkAll ds ≤ 1048576)
def OpenSpec.upto (s : _root_.Go.ChangeSpec) : _root_.Go.OpenSpec := { _root_.Go.OpenSpec.ofChange s with cond := some uptoSmall }

/-- 'ferrybridgekeep.ImageBack', WHERE WHAT IT READS IS OF BULK AT MOST 1048576: true; the input reads as it did. -/
def imageBackUptoRow : OpenClaim := { program := "ytlfnddmncbkjaab", sum := "47b331eb8b4c276088c1ae397aab616814c982c8240368765f09cb35a5ea7c6f", func := "ferrybridge/ferrybridgekeep.ImageBack", spec := "imageBack", apart := false, narrowed := true }
def ImageBackUptoSaid : Prop := imageBackUptoRow.holds Try.pinned (OpenSpec.upto imageBackSpec)

/-- 'ferrybridgelaw.WordTells', WHERE WHAT IT READS IS OF BULK AT MOST 1048576: true; the input reads as it did. -/
def wordTellsUptoRow : OpenClaim := { program := "ytlfnddmncbkjaab", sum := "47b331eb8b4c276088c1ae397aab616814c982c8240368765f09cb35a5ea7c6f", func := "ferrybridge/ferrybridgelaw.WordTells", spec := "wordTells", apart := false, narrowed := true }
def WordTellsUptoSaid : Prop := wordTellsUptoRow.holds Try.pinned (OpenSpec.upto wordTellsSpec)

/-- 'ferrybridgelaw.DecodeEncodes', WHERE WHAT IT READS IS OF BULK AT MOST 1048576: true; the input reads as it did. -/
def decodeEncodesUptoRow : OpenClaim := { program := "ytlfnddmncbkjaab", sum := "47b331eb8b4c276088c1ae397aab616814c982c8240368765f09cb35a5ea7c6f", func := "ferrybridge/ferrybridgelaw.DecodeEncodes", spec := "decodeEncodes", unfollowed := true, recurses := true, apart := false, narrowed := true }
def DecodeEncodesUptoSaid : Prop := decodeEncodesUptoRow.holds Try.pinned (OpenSpec.upto decodeEncodesSpec)

/-- 'ferrybridgekeep.DecodeBack', WHERE WHAT IT READS IS OF BULK AT MOST 1048576: true; the input reads as it did. -/
def decodeBackUptoRow : OpenClaim := { program := "ytlfnddmncbkjaab", sum := "47b331eb8b4c276088c1ae397aab616814c982c8240368765f09cb35a5ea7c6f", func := "ferrybridge/ferrybridgekeep.DecodeBack", spec := "decodeBack", unfollowed := true, recurses := true, apart := false, narrowed := true }
def DecodeBackUptoSaid : Prop := decodeBackUptoRow.holds Try.pinned (OpenSpec.upto decodeBackSpec)

/-- 'ferrybridgelaw.BlockMakes', WHERE WHAT IT READS IS OF BULK AT MOST 1048576: true; the input reads as it did. -/
def blockMakesUptoRow : OpenClaim := { program := "ytlfnddmncbkjaab", sum := "47b331eb8b4c276088c1ae397aab616814c982c8240368765f09cb35a5ea7c6f", func := "ferrybridge/ferrybridgelaw.BlockMakes", spec := "blockMakes", unfollowed := true, recurses := true, apart := false, narrowed := true }
def BlockMakesUptoSaid : Prop := blockMakesUptoRow.holds Try.pinned (OpenSpec.upto blockMakesSpec)

/-- 'ferrybridgelaw.TransMay', WHERE WHAT IT READS IS OF BULK AT MOST 1048576: true; the input reads as it did. -/
def transMayUptoRow : OpenClaim := { program := "ytlfnddmncbkjaab", sum := "47b331eb8b4c276088c1ae397aab616814c982c8240368765f09cb35a5ea7c6f", func := "ferrybridge/ferrybridgelaw.TransMay", spec := "transMay", unfollowed := true, recurses := true, apart := false, narrowed := true }
def TransMayUptoSaid : Prop := transMayUptoRow.holds Try.pinned (OpenSpec.upto transMaySpec)

/-- 'ferrybridgelaw.TransSame', WHERE WHAT IT READS IS OF BULK AT MOST 1048576: true; the input reads as it did. -/
def transSameUptoRow : OpenClaim := { program := "ytlfnddmncbkjaab", sum := "47b331eb8b4c276088c1ae397aab616814c982c8240368765f09cb35a5ea7c6f", func := "ferrybridge/ferrybridgelaw.TransSame", spec := "transSame", unfollowed := true, recurses := true, apart := false, narrowed := true }
def TransSameUptoSaid : Prop := transSameUptoRow.holds Try.pinned (OpenSpec.upto transSameSpec)

/-- 'ferrybridgelaw.MicroRuns', WHERE WHAT IT READS IS OF BULK AT MOST 1048576: true; the input reads as it did. -/
def microRunsUptoRow : OpenClaim := { program := "ytlfnddmncbkjaab", sum := "47b331eb8b4c276088c1ae397aab616814c982c8240368765f09cb35a5ea7c6f", func := "ferrybridge/ferrybridgelaw.MicroRuns", spec := "microRuns", unfollowed := true, recurses := true, apart := false, narrowed := true }
def MicroRunsUptoSaid : Prop := microRunsUptoRow.holds Try.pinned (OpenSpec.upto microRunsSpec)

/-- 'ferrybridgelaw.HartSteps', WHERE WHAT IT READS IS OF BULK AT MOST 1048576: true; the input reads as it did. -/
def hartStepsUptoRow : OpenClaim := { program := "ytlfnddmncbkjaab", sum := "47b331eb8b4c276088c1ae397aab616814c982c8240368765f09cb35a5ea7c6f", func := "ferrybridge/ferrybridgelaw.HartSteps", spec := "hartSteps", unfollowed := true, recurses := true, apart := false, narrowed := true }
def HartStepsUptoSaid : Prop := hartStepsUptoRow.holds Try.pinned (OpenSpec.upto hartStepsSpec)

/-- 'ferrybridgekeep.HartZero', WHERE WHAT IT READS IS OF BULK AT MOST 1048576: true; the input reads as it did. -/
def hartZeroUptoRow : OpenClaim := { program := "ytlfnddmncbkjaab", sum := "47b331eb8b4c276088c1ae397aab616814c982c8240368765f09cb35a5ea7c6f", func := "ferrybridge/ferrybridgekeep.HartZero", spec := "hartZero", unfollowed := true, recurses := true, apart := false, narrowed := true }
def HartZeroUptoSaid : Prop := hartZeroUptoRow.holds Try.pinned (OpenSpec.upto hartZeroSpec)

/-- 'ferrybridgelaw.MachineRuns', WHERE WHAT IT READS IS OF BULK AT MOST 1048576: true; the input reads as it did. -/
def machineRunsUptoRow : OpenClaim := { program := "ytlfnddmncbkjaab", sum := "47b331eb8b4c276088c1ae397aab616814c982c8240368765f09cb35a5ea7c6f", func := "ferrybridge/ferrybridgelaw.MachineRuns", spec := "machineRuns", unfollowed := true, recurses := true, apart := false, narrowed := true }
def MachineRunsUptoSaid : Prop := machineRunsUptoRow.holds Try.pinned (OpenSpec.upto machineRunsSpec)

end Rows
end Go.Proofs.Ytlfnddmncbkjaab
