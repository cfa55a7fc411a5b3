/-
  No cell of these rows narrows 'for every input' (looked for: loops, veiled, ifaces, maps, wideKeys, modest, calm, conditions, laid).
  DERIVED. THE GIVEN ROWS OF THIS SEAT. 7 by the template 'for every input the law returns true; each argument reads behind the call as it read before'; 0 by the template 'total and deterministic' (their statements: YtlfnddmncbkjaacTotals.lean).
  GIVEN WITH THE SEED: the statements are not yours to turn. If you find one false, say at which input.
  Laid BY PROGRAM, IN A SANDBOX (cutbox-rows.mjs): the forced cells as the released guide's own fill.sh prints them over the translation 9ca2457f1c6eff49… (all of the seat's roots in one cut). By AI agents, Wed Nov 11 2026. No macro, syntax, notation, axiom, sorry.
-/
import Derived.Test.YtlfnddmncbkjaacChecked
import GoSem.Claim
import GoSem.ClaimJoined
import GoSem.ClaimMapViews
import Derived.JoinedTies
import Derived.KernelRfl
namespace Go.Proofs.Ytlfnddmncbkjaac
/- THE CELL 'sum', in the pinned program and in every row, IS THE sha256 OF THE DUMP (.gsa) THAT YtlfnddmncbkjaacProg.lean LOADS. Nothing in Lean hashes anything: it is a label: what it is worth is what the hold of that sum in a sandbox is worth. -/
noncomputable def Try.pinned : Pinned := { name := "ytlfnddmncbkjaac", sum := "9ca2457f1c6eff498ec83951710a46ca390bcf9821cadc437f3f056546fbec8e", checked := Try.checked }
namespace Rows
def none {H : Type} : Left H := { results := [], args := [] }

/-- 'ferrybridgekeep.MachineSplits': WHATEVER THE INPUT: true; the input reads as it did. -/
def machineSplitsSpec : ChangeSpec := { name := "machineSplits", fn := fun _ => fun
  | [d1, d2, d3] => { results := [.lit (.bool true)], args := [d1, d2, d3] }
  | _ => none }
def machineSplitsRow : OpenClaim := { program := "ytlfnddmncbkjaac", sum := "9ca2457f1c6eff498ec83951710a46ca390bcf9821cadc437f3f056546fbec8e", func := "ferrybridge/ferrybridgekeep.MachineSplits", spec := "machineSplits", unfollowed := true, recurses := true, apart := false }
def MachineSplitsSaid : Prop := machineSplitsRow.holds Try.pinned (OpenSpec.ofChange machineSplitsSpec)

/-- ITS FALSE NEIGHBOUR: 'it returns false'. Refute it at one input. -/
def machineSplitsWrong : ChangeSpec := { name := "machineSplits", fn := fun _ => fun
  | [d1, d2, d3] => { results := [.lit (.bool false)], args := [d1, d2, d3] }
  | _ => none }
def MachineSplitsWrongFalsely : Prop := machineSplitsRow.holds Try.pinned (OpenSpec.ofChange machineSplitsWrong)

/-- 'ferrybridgekeep.MachineTurns': WHATEVER THE INPUT: true; the input reads as it did. -/
def machineTurnsSpec : ChangeSpec := { name := "machineTurns", fn := fun _ => fun
  | [d1, d2, d3, d4] => { results := [.lit (.bool true)], args := [d1, d2, d3, d4] }
  | _ => none }
def machineTurnsRow : OpenClaim := { program := "ytlfnddmncbkjaac", sum := "9ca2457f1c6eff498ec83951710a46ca390bcf9821cadc437f3f056546fbec8e", func := "ferrybridge/ferrybridgekeep.MachineTurns", spec := "machineTurns", unfollowed := true, recurses := true, apart := false }
def MachineTurnsSaid : Prop := machineTurnsRow.holds Try.pinned (OpenSpec.ofChange machineTurnsSpec)

/-- ITS FALSE NEIGHBOUR: 'it returns false'. Refute it at one input. -/
def machineTurnsWrong : ChangeSpec := { name := "machineTurns", fn := fun _ => fun
  | [d1, d2, d3, d4] => { results := [.lit (.bool false)], args := [d1, d2, d3, d4] }
  | _ => none }
def MachineTurnsWrongFalsely : Prop := machineTurnsRow.holds Try.pinned (OpenSpec.ofChange machineTurnsWrong)

/-- 'ferrybridgelaw.UndoRuns': WHATEVER THE INPUT: true; the input reads as it did. -/
def undoRunsSpec : ChangeSpec := { name := "undoRuns", fn := fun _ => fun
  | [d1, d2] => { results := [.lit (.bool true)], args := [d1, d2] }
  | _ => none }
def undoRunsRow : OpenClaim := { program := "ytlfnddmncbkjaac", sum := "9ca2457f1c6eff498ec83951710a46ca390bcf9821cadc437f3f056546fbec8e", func := "ferrybridge/ferrybridgelaw.UndoRuns", spec := "undoRuns", unfollowed := true, recurses := true, apart := false }
def UndoRunsSaid : Prop := undoRunsRow.holds Try.pinned (OpenSpec.ofChange undoRunsSpec)

/-- ITS FALSE NEIGHBOUR: 'it returns false'. Refute it at one input. -/
def undoRunsWrong : ChangeSpec := { name := "undoRuns", fn := fun _ => fun
  | [d1, d2] => { results := [.lit (.bool false)], args := [d1, d2] }
  | _ => none }
def UndoRunsWrongFalsely : Prop := undoRunsRow.holds Try.pinned (OpenSpec.ofChange undoRunsWrong)

/-- 'ferrybridgelaw.UndoTakes': WHATEVER THE INPUT: true; the input reads as it did. -/
def undoTakesSpec : ChangeSpec := { name := "undoTakes", fn := fun _ => fun
  | [d1, d2, d3] => { results := [.lit (.bool true)], args := [d1, d2, d3] }
  | _ => none }
def undoTakesRow : OpenClaim := { program := "ytlfnddmncbkjaac", sum := "9ca2457f1c6eff498ec83951710a46ca390bcf9821cadc437f3f056546fbec8e", func := "ferrybridge/ferrybridgelaw.UndoTakes", spec := "undoTakes", unfollowed := true, recurses := true, apart := false }
def UndoTakesSaid : Prop := undoTakesRow.holds Try.pinned (OpenSpec.ofChange undoTakesSpec)

/-- ITS FALSE NEIGHBOUR: 'it returns false'. Refute it at one input. -/
def undoTakesWrong : ChangeSpec := { name := "undoTakes", fn := fun _ => fun
  | [d1, d2, d3] => { results := [.lit (.bool false)], args := [d1, d2, d3] }
  | _ => none }
def UndoTakesWrongFalsely : Prop := undoTakesRow.holds Try.pinned (OpenSpec.ofChange undoTakesWrong)

/-- 'ferrybridgekeep.UndoAll': WHATEVER THE INPUT: true; the input reads as it did. -/
def undoAllSpec : ChangeSpec := { name := "undoAll", fn := fun _ => fun
  | [d1, d2] => { results := [.lit (.bool true)], args := [d1, d2] }
  | _ => none }
def undoAllRow : OpenClaim := { program := "ytlfnddmncbkjaac", sum := "9ca2457f1c6eff498ec83951710a46ca390bcf9821cadc437f3f056546fbec8e", func := "ferrybridge/ferrybridgekeep.UndoAll", spec := "undoAll", unfollowed := true, recurses := true, apart := false }
def UndoAllSaid : Prop := undoAllRow.holds Try.pinned (OpenSpec.ofChange undoAllSpec)

/-- ITS FALSE NEIGHBOUR: 'it returns false'. Refute it at one input. -/
def undoAllWrong : ChangeSpec := { name := "undoAll", fn := fun _ => fun
  | [d1, d2] => { results := [.lit (.bool false)], args := [d1, d2] }
  | _ => none }
def UndoAllWrongFalsely : Prop := undoAllRow.holds Try.pinned (OpenSpec.ofChange undoAllWrong)

/-- 'ferrybridgelaw.EngineFresh': WHATEVER THE INPUT: true; the input reads as it did. -/
def engineFreshSpec : ChangeSpec := { name := "engineFresh", fn := fun _ => fun
  | [d1, d2, d3] => { results := [.lit (.bool true)], args := [d1, d2, d3] }
  | _ => none }
def engineFreshRow : OpenClaim := { program := "ytlfnddmncbkjaac", sum := "9ca2457f1c6eff498ec83951710a46ca390bcf9821cadc437f3f056546fbec8e", func := "ferrybridge/ferrybridgelaw.EngineFresh", spec := "engineFresh", unfollowed := true, recurses := true, apart := false }
def EngineFreshSaid : Prop := engineFreshRow.holds Try.pinned (OpenSpec.ofChange engineFreshSpec)

/-- ITS FALSE NEIGHBOUR: 'it returns false'. Refute it at one input. -/
def engineFreshWrong : ChangeSpec := { name := "engineFresh", fn := fun _ => fun
  | [d1, d2, d3] => { results := [.lit (.bool false)], args := [d1, d2, d3] }
  | _ => none }
def EngineFreshWrongFalsely : Prop := engineFreshRow.holds Try.pinned (OpenSpec.ofChange engineFreshWrong)

/-- 'ferrybridgekeep.EngineRooms': WHATEVER THE INPUT: true; the input reads as it did. -/
def engineRoomsSpec : ChangeSpec := { name := "engineRooms", fn := fun _ => fun
  | [d1, d2, d3, d4] => { results := [.lit (.bool true)], args := [d1, d2, d3, d4] }
  | _ => none }
def engineRoomsRow : OpenClaim := { program := "ytlfnddmncbkjaac", sum := "9ca2457f1c6eff498ec83951710a46ca390bcf9821cadc437f3f056546fbec8e", func := "ferrybridge/ferrybridgekeep.EngineRooms", spec := "engineRooms", unfollowed := true, recurses := true, apart := false }
def EngineRoomsSaid : Prop := engineRoomsRow.holds Try.pinned (OpenSpec.ofChange engineRoomsSpec)

/-- ITS FALSE NEIGHBOUR: 'it returns false'. Refute it at one input. -/
def engineRoomsWrong : ChangeSpec := { name := "engineRooms", fn := fun _ => fun
  | [d1, d2, d3, d4] => { results := [.lit (.bool false)], args := [d1, d2, d3, d4] }
  | _ => none }
def EngineRoomsWrongFalsely : Prop := engineRoomsRow.holds Try.pinned (OpenSpec.ofChange engineRoomsWrong)

/- THE SECOND FORM. 'bulk': how many values and letters a reading holds, each counted each time it is reached (what is shared counts as often as it is met; a slice's spare places count too). A statement '..UptoSaid' is the law's where the arguments, and the package variables that the reading takes, are together of bulk at most 1048576: NARROWER than '..Said'. Prove '..Said' where nothing that the law and all that it calls make is longer than what came in: it says more and counts as full. Else prove '..UptoSaid'. A law counts once. -/
mutual
def uptoBulk {H : Type} : DataW H → Nat
  | .lit (.string bytes) => bytes.length + 1
  | .lit _ => 1
  | .nil => 1
  | .ptr d => uptoBulk d + 1
  | .slice elems spare => uptoBulkAll elems + uptoBulkAll spare + 1
  | .agg parts => uptoBulkAll parts + 1
  | .iface _ d => uptoBulk d + 1
  | .map entries => uptoBulkEntries entries + 1
  | .held _ => 1
def uptoBulkAll {H : Type} : List (DataW H) → Nat
  | [] => 0
  | d :: r => uptoBulk d + uptoBulkAll r
def uptoBulkEntries {H : Type} : List (Lit × DataW H) → Nat
  | [] => 0
  | x :: r => uptoBulkEntry x + uptoBulkEntries r
def uptoBulkEntry {H : Type} : Lit × DataW H → Nat
  | (.string bytes, d) => bytes.length + uptoBulk d + 1
  | (_, d) => uptoBulk d + 1
 end
def uptoSmall : (H : Type) → List (DataW H) → Bool := fun _ ds => decide (uptoBulkAll ds ≤ 1048576)
def OpenSpec.upto (s : _root_.Go.ChangeSpec) : _root_.Go.OpenSpec := { _root_.Go.OpenSpec.ofChange s with cond := some uptoSmall }

/-- 'ferrybridgekeep.MachineSplits', WHERE WHAT IT READS IS OF BULK AT MOST 1048576: true; the input reads as it did. -/
def machineSplitsUptoRow : OpenClaim := { program := "ytlfnddmncbkjaac", sum := "9ca2457f1c6eff498ec83951710a46ca390bcf9821cadc437f3f056546fbec8e", func := "ferrybridge/ferrybridgekeep.MachineSplits", spec := "machineSplits", unfollowed := true, recurses := true, apart := false, narrowed := true }
def MachineSplitsUptoSaid : Prop := machineSplitsUptoRow.holds Try.pinned (OpenSpec.upto machineSplitsSpec)

/-- 'ferrybridgekeep.MachineTurns', WHERE WHAT IT READS IS OF BULK AT MOST 1048576: true; the input reads as it did. -/
def machineTurnsUptoRow : OpenClaim := { program := "ytlfnddmncbkjaac", sum := "9ca2457f1c6eff498ec83951710a46ca390bcf9821cadc437f3f056546fbec8e", func := "ferrybridge/ferrybridgekeep.MachineTurns", spec := "machineTurns", unfollowed := true, recurses := true, apart := false, narrowed := true }
def MachineTurnsUptoSaid : Prop := machineTurnsUptoRow.holds Try.pinned (OpenSpec.upto machineTurnsSpec)

/-- 'ferrybridgelaw.UndoRuns', WHERE WHAT IT READS IS OF BULK AT MOST 1048576: true; the input reads as it did. -/
def undoRunsUptoRow : OpenClaim := { program := "ytlfnddmncbkjaac", sum := "9ca2457f1c6eff498ec83951710a46ca390bcf9821cadc437f3f056546fbec8e", func := "ferrybridge/ferrybridgelaw.UndoRuns", spec := "undoRuns", unfollowed := true, recurses := true, apart := false, narrowed := true }
def UndoRunsUptoSaid : Prop := undoRunsUptoRow.holds Try.pinned (OpenSpec.upto undoRunsSpec)

/-- 'ferrybridgelaw.UndoTakes', WHERE WHAT IT READS IS OF BULK AT MOST 1048576: true; the input reads as it did. -/
def undoTakesUptoRow : OpenClaim := { program := "ytlfnddmncbkjaac", sum := "9ca2457f1c6eff498ec83951710a46ca390bcf9821cadc437f3f056546fbec8e", func := "ferrybridge/ferrybridgelaw.UndoTakes", spec := "undoTakes", unfollowed := true, recurses := true, apart := false, narrowed := true }
def UndoTakesUptoSaid : Prop := undoTakesUptoRow.holds Try.pinned (OpenSpec.upto undoTakesSpec)

/-- 'ferrybridgekeep.UndoAll', WHERE WHAT IT READS IS OF BULK AT MOST 1048576: true; the input reads as it did. -/
def undoAllUptoRow : OpenClaim := { program := "ytlfnddmncbkjaac", sum := "9ca2457f1c6eff498ec83951710a46ca390bcf9821cadc437f3f056546fbec8e", func := "ferrybridge/ferrybridgekeep.UndoAll", spec := "undoAll", unfollowed := true, recurses := true, apart := false, narrowed := true }
def UndoAllUptoSaid : Prop := undoAllUptoRow.holds Try.pinned (OpenSpec.upto undoAllSpec)

/-- 'ferrybridgelaw.EngineFresh', WHERE WHAT IT READS IS OF BULK AT MOST 1048576: true; the input reads as it did. -/
def engineFreshUptoRow : OpenClaim := { program := "ytlfnddmncbkjaac", sum := "9ca2457f1c6eff498ec83951710a46ca390bcf9821cadc437f3f056546fbec8e", func := "ferrybridge/ferrybridgelaw.EngineFresh", spec := "engineFresh", unfollowed := true, recurses := true, apart := false, narrowed := true }
def EngineFreshUptoSaid : Prop := engineFreshUptoRow.holds Try.pinned (OpenSpec.upto engineFreshSpec)

/-- 'ferrybridgekeep.EngineRooms', WHERE WHAT IT READS IS OF BULK AT MOST 1048576: true; the input reads as it did. -/
def engineRoomsUptoRow : OpenClaim := { program := "ytlfnddmncbkjaac", sum := "9ca2457f1c6eff498ec83951710a46ca390bcf9821cadc437f3f056546fbec8e", func := "ferrybridge/ferrybridgekeep.EngineRooms", spec := "engineRooms", unfollowed := true, recurses := true, apart := false, narrowed := true }
def EngineRoomsUptoSaid : Prop := engineRoomsUptoRow.holds Try.pinned (OpenSpec.upto engineRoomsSpec)

end Rows
end Go.Proofs.Ytlfnddmncbkjaac
