/-
  No cell of these rows narrows 'for every input' (looked for: loops, veiled, ifaces, maps, wideKeys, modest, calm, conditions, laid).
  DERIVED. THE GIVEN ROWS OF THIS SEAT. 10 by the template 'for every input the law returns true; each argument reads behind the call as it read before'; 0 by the template 'total and deterministic' (their statements: YtekjphkabfiheaaGreatTotals.lean).
  GIVEN WITH THE SEED: the statements are not yours to turn. If you find one false, say at which input.
  Laid BY PROGRAM, IN A SANDBOX (cutbox-rows.mjs): the forced cells as the released guide's own fill.sh prints them over the translation 72559bc56373f57d… (all of the seat's roots in one cut). By AI agents, Wed Nov 11 2026. No macro, syntax, notation, axiom, sorry.
-/
import Derived.Test.YtekjphkabfiheaaGreatChecked
import GoSem.Claim
import GoSem.ClaimJoined
import GoSem.ClaimMapViews
import Derived.JoinedTies
import Derived.KernelRfl
namespace Go.Proofs.YtekjphkabfiheaaGreat
/- THE CELL 'sum', in the pinned program and in every row, IS THE sha256 OF THE DUMP (.gsa) THAT YtekjphkabfiheaaGreatProg.lean LOADS. Nothing in Lean hashes anything: it is a label: what it is worth is what the hold of that sum in a sandbox is worth. -/
noncomputable def Tryz.pinned : Pinned := { name := "ytekjphkabfiheaagreat", sum := "72559bc56373f57dcf4e615a3232ef13669616b12c79f66a12f30184baa879e1", checked := Tryz.checked }
namespace Rows
def none {H : Type} : Left H := { results := [], args := [] }

/-- 'backflushlaw15.LevelsOrderSpec': WHATEVER THE INPUT: true; the input reads as it did. -/
def levelsOrderSpecSpec : ChangeSpec := { name := "levelsOrderSpec", fn := fun _ => fun
  | [d] => { results := [.lit (.bool true)], args := [d] }
  | _ => none }
def levelsOrderSpecRow : OpenClaim := { program := "ytekjphkabfiheaagreat", sum := "72559bc56373f57dcf4e615a3232ef13669616b12c79f66a12f30184baa879e1", func := "backflush/backflushlaw15.LevelsOrderSpec", spec := "levelsOrderSpec", unfollowed := true, recurses := true, apart := false }
def LevelsOrderSpecSaid : Prop := levelsOrderSpecRow.holds Tryz.pinned (OpenSpec.ofChange levelsOrderSpecSpec)

/-- ITS FALSE NEIGHBOUR: 'it returns false'. Refute it at one input. -/
def levelsOrderSpecWrong : ChangeSpec := { name := "levelsOrderSpec", fn := fun _ => fun
  | [d] => { results := [.lit (.bool false)], args := [d] }
  | _ => none }
def LevelsOrderSpecWrongFalsely : Prop := levelsOrderSpecRow.holds Tryz.pinned (OpenSpec.ofChange levelsOrderSpecWrong)

/-- 'backflushlaw15.LevelsUp': WHATEVER THE INPUT: true; the input reads as it did. -/
def levelsUpSpec : ChangeSpec := { name := "levelsUp", fn := fun _ => fun
  | [d] => { results := [.lit (.bool true)], args := [d] }
  | _ => none }
def levelsUpRow : OpenClaim := { program := "ytekjphkabfiheaagreat", sum := "72559bc56373f57dcf4e615a3232ef13669616b12c79f66a12f30184baa879e1", func := "backflush/backflushlaw15.LevelsUp", spec := "levelsUp", unfollowed := true, recurses := true, apart := false }
def LevelsUpSaid : Prop := levelsUpRow.holds Tryz.pinned (OpenSpec.ofChange levelsUpSpec)

/-- ITS FALSE NEIGHBOUR: 'it returns false'. Refute it at one input. -/
def levelsUpWrong : ChangeSpec := { name := "levelsUp", fn := fun _ => fun
  | [d] => { results := [.lit (.bool false)], args := [d] }
  | _ => none }
def LevelsUpWrongFalsely : Prop := levelsUpRow.holds Tryz.pinned (OpenSpec.ofChange levelsUpWrong)

/-- 'backflushlaw15.LevelsSums': WHATEVER THE INPUT: true; the input reads as it did. -/
def levelsSumsSpec : ChangeSpec := { name := "levelsSums", fn := fun _ => fun
  | [d1, d2, d3, d4, d5, d6] => { results := [.lit (.bool true)], args := [d1, d2, d3, d4, d5, d6] }
  | _ => none }
def levelsSumsRow : OpenClaim := { program := "ytekjphkabfiheaagreat", sum := "72559bc56373f57dcf4e615a3232ef13669616b12c79f66a12f30184baa879e1", func := "backflush/backflushlaw15.LevelsSums", spec := "levelsSums", unfollowed := true, recurses := true, apart := false }
def LevelsSumsSaid : Prop := levelsSumsRow.holds Tryz.pinned (OpenSpec.ofChange levelsSumsSpec)

/-- ITS FALSE NEIGHBOUR: 'it returns false'. Refute it at one input. -/
def levelsSumsWrong : ChangeSpec := { name := "levelsSums", fn := fun _ => fun
  | [d1, d2, d3, d4, d5, d6] => { results := [.lit (.bool false)], args := [d1, d2, d3, d4, d5, d6] }
  | _ => none }
def LevelsSumsWrongFalsely : Prop := levelsSumsRow.holds Tryz.pinned (OpenSpec.ofChange levelsSumsWrong)

/-- 'backflushlaw15.LevelsCovers': WHATEVER THE INPUT: true; the input reads as it did. -/
def levelsCoversSpec : ChangeSpec := { name := "levelsCovers", fn := fun _ => fun
  | [d1, d2, d3, d4, d5] => { results := [.lit (.bool true)], args := [d1, d2, d3, d4, d5] }
  | _ => none }
def levelsCoversRow : OpenClaim := { program := "ytekjphkabfiheaagreat", sum := "72559bc56373f57dcf4e615a3232ef13669616b12c79f66a12f30184baa879e1", func := "backflush/backflushlaw15.LevelsCovers", spec := "levelsCovers", unfollowed := true, recurses := true, apart := false }
def LevelsCoversSaid : Prop := levelsCoversRow.holds Tryz.pinned (OpenSpec.ofChange levelsCoversSpec)

/-- ITS FALSE NEIGHBOUR: 'it returns false'. Refute it at one input. -/
def levelsCoversWrong : ChangeSpec := { name := "levelsCovers", fn := fun _ => fun
  | [d1, d2, d3, d4, d5] => { results := [.lit (.bool false)], args := [d1, d2, d3, d4, d5] }
  | _ => none }
def LevelsCoversWrongFalsely : Prop := levelsCoversRow.holds Tryz.pinned (OpenSpec.ofChange levelsCoversWrong)

/-- 'backflushlaw17.MachineRunSpec': WHATEVER THE INPUT: true; the input reads as it did. -/
def machineRunSpecSpec : ChangeSpec := { name := "machineRunSpec", fn := fun _ => fun
  | [d1, d2, d3, d4] => { results := [.lit (.bool true)], args := [d1, d2, d3, d4] }
  | _ => none }
def machineRunSpecRow : OpenClaim := { program := "ytekjphkabfiheaagreat", sum := "72559bc56373f57dcf4e615a3232ef13669616b12c79f66a12f30184baa879e1", func := "backflush/backflushlaw17.MachineRunSpec", spec := "machineRunSpec", unfollowed := true, recurses := true, apart := false }
def MachineRunSpecSaid : Prop := machineRunSpecRow.holds Tryz.pinned (OpenSpec.ofChange machineRunSpecSpec)

/-- ITS FALSE NEIGHBOUR: 'it returns false'. Refute it at one input. -/
def machineRunSpecWrong : ChangeSpec := { name := "machineRunSpec", fn := fun _ => fun
  | [d1, d2, d3, d4] => { results := [.lit (.bool false)], args := [d1, d2, d3, d4] }
  | _ => none }
def MachineRunSpecWrongFalsely : Prop := machineRunSpecRow.holds Tryz.pinned (OpenSpec.ofChange machineRunSpecWrong)

/-- 'backflushlaw17.MachineNeedsSpec': WHATEVER THE INPUT: true; the input reads as it did. -/
def machineNeedsSpecSpec : ChangeSpec := { name := "machineNeedsSpec", fn := fun _ => fun
  | [d1, d2, d3, d4, d5, d6] => { results := [.lit (.bool true)], args := [d1, d2, d3, d4, d5, d6] }
  | _ => none }
def machineNeedsSpecRow : OpenClaim := { program := "ytekjphkabfiheaagreat", sum := "72559bc56373f57dcf4e615a3232ef13669616b12c79f66a12f30184baa879e1", func := "backflush/backflushlaw17.MachineNeedsSpec", spec := "machineNeedsSpec", unfollowed := true, recurses := true, apart := false }
def MachineNeedsSpecSaid : Prop := machineNeedsSpecRow.holds Tryz.pinned (OpenSpec.ofChange machineNeedsSpecSpec)

/-- ITS FALSE NEIGHBOUR: 'it returns false'. Refute it at one input. -/
def machineNeedsSpecWrong : ChangeSpec := { name := "machineNeedsSpec", fn := fun _ => fun
  | [d1, d2, d3, d4, d5, d6] => { results := [.lit (.bool false)], args := [d1, d2, d3, d4, d5, d6] }
  | _ => none }
def MachineNeedsSpecWrongFalsely : Prop := machineNeedsSpecRow.holds Tryz.pinned (OpenSpec.ofChange machineNeedsSpecWrong)

/-- 'backflushlaw17.MachineFuel': WHATEVER THE INPUT: true; the input reads as it did. -/
def machineFuelSpec : ChangeSpec := { name := "machineFuel", fn := fun _ => fun
  | [d1, d2, d3, d4] => { results := [.lit (.bool true)], args := [d1, d2, d3, d4] }
  | _ => none }
def machineFuelRow : OpenClaim := { program := "ytekjphkabfiheaagreat", sum := "72559bc56373f57dcf4e615a3232ef13669616b12c79f66a12f30184baa879e1", func := "backflush/backflushlaw17.MachineFuel", spec := "machineFuel", unfollowed := true, recurses := true, apart := false }
def MachineFuelSaid : Prop := machineFuelRow.holds Tryz.pinned (OpenSpec.ofChange machineFuelSpec)

/-- ITS FALSE NEIGHBOUR: 'it returns false'. Refute it at one input. -/
def machineFuelWrong : ChangeSpec := { name := "machineFuel", fn := fun _ => fun
  | [d1, d2, d3, d4] => { results := [.lit (.bool false)], args := [d1, d2, d3, d4] }
  | _ => none }
def MachineFuelWrongFalsely : Prop := machineFuelRow.holds Tryz.pinned (OpenSpec.ofChange machineFuelWrong)

/-- 'backflushlaw17.MachineSums': WHATEVER THE INPUT: true; the input reads as it did. -/
def machineSumsSpec : ChangeSpec := { name := "machineSums", fn := fun _ => fun
  | [d1, d2, d3, d4] => { results := [.lit (.bool true)], args := [d1, d2, d3, d4] }
  | _ => none }
def machineSumsRow : OpenClaim := { program := "ytekjphkabfiheaagreat", sum := "72559bc56373f57dcf4e615a3232ef13669616b12c79f66a12f30184baa879e1", func := "backflush/backflushlaw17.MachineSums", spec := "machineSums", unfollowed := true, recurses := true, apart := false }
def MachineSumsSaid : Prop := machineSumsRow.holds Tryz.pinned (OpenSpec.ofChange machineSumsSpec)

/-- ITS FALSE NEIGHBOUR: 'it returns false'. Refute it at one input. -/
def machineSumsWrong : ChangeSpec := { name := "machineSums", fn := fun _ => fun
  | [d1, d2, d3, d4] => { results := [.lit (.bool false)], args := [d1, d2, d3, d4] }
  | _ => none }
def MachineSumsWrongFalsely : Prop := machineSumsRow.holds Tryz.pinned (OpenSpec.ofChange machineSumsWrong)

/-- 'backflushlaw17.MachineRecipe': WHATEVER THE INPUT: true; the input reads as it did. -/
def machineRecipeSpec : ChangeSpec := { name := "machineRecipe", fn := fun _ => fun
  | [d1, d2, d3, d4, d5, d6] => { results := [.lit (.bool true)], args := [d1, d2, d3, d4, d5, d6] }
  | _ => none }
def machineRecipeRow : OpenClaim := { program := "ytekjphkabfiheaagreat", sum := "72559bc56373f57dcf4e615a3232ef13669616b12c79f66a12f30184baa879e1", func := "backflush/backflushlaw17.MachineRecipe", spec := "machineRecipe", unfollowed := true, recurses := true, apart := false }
def MachineRecipeSaid : Prop := machineRecipeRow.holds Tryz.pinned (OpenSpec.ofChange machineRecipeSpec)

/-- ITS FALSE NEIGHBOUR: 'it returns false'. Refute it at one input. -/
def machineRecipeWrong : ChangeSpec := { name := "machineRecipe", fn := fun _ => fun
  | [d1, d2, d3, d4, d5, d6] => { results := [.lit (.bool false)], args := [d1, d2, d3, d4, d5, d6] }
  | _ => none }
def MachineRecipeWrongFalsely : Prop := machineRecipeRow.holds Tryz.pinned (OpenSpec.ofChange machineRecipeWrong)

/-- 'backflushlaw17.MachineDay': WHATEVER THE INPUT: true; the input reads as it did. -/
def machineDaySpec : ChangeSpec := { name := "machineDay", fn := fun _ => fun
  | [d1, d2, d3, d4, d5, d6] => { results := [.lit (.bool true)], args := [d1, d2, d3, d4, d5, d6] }
  | _ => none }
def machineDayRow : OpenClaim := { program := "ytekjphkabfiheaagreat", sum := "72559bc56373f57dcf4e615a3232ef13669616b12c79f66a12f30184baa879e1", func := "backflush/backflushlaw17.MachineDay", spec := "machineDay", unfollowed := true, recurses := true, apart := false }
def MachineDaySaid : Prop := machineDayRow.holds Tryz.pinned (OpenSpec.ofChange machineDaySpec)

/-- ITS FALSE NEIGHBOUR: 'it returns false'. Refute it at one input. -/
def machineDayWrong : ChangeSpec := { name := "machineDay", fn := fun _ => fun
  | [d1, d2, d3, d4, d5, d6] => { results := [.lit (.bool false)], args := [d1, d2, d3, d4, d5, d6] }
  | _ => none }
def MachineDayWrongFalsely : Prop := machineDayRow.holds Tryz.pinned (OpenSpec.ofChange machineDayWrong)

/- THE SECOND FORM. 'bulk': how many values and letters a reading holds, each counted each time it is reached (what is shared counts as often as it is met; a slice's spare places count too). A statement '..UptoSaid' is the law's where the arguments, and the package variables that the reading takes, are together of bulk at most 1048576: NARROWER than '..Said'. Prove '..Said' where nothing that the law and all that it calls make is longer than what came in: it says more and counts as full. Else prove '..UptoSaid'. A law counts once. -/
mutual
def uptoBulk {H : Type} : DataW H → Nat
  | .lit (.string bytes) => bytes.length + 1
  | .lit _ => 1
  | .nil => 1
  | .ptr d => uptoBulk d + 1
  | .slice elems spare => uptoBulkAll elems + uptoBulkAll spare + 1
  | .agg parts => uptoBulkAll parts + 1
  | .iface _ d => uptoBulk d + 1
  | .map entries => uptoBulkEntries entries + 1
  | .held _ => 1
def uptoBulkAll {H : Type} : List (DataW H) → Nat
  | [] => 0
  | d :: r => uptoBulk d + uptoBulkAll r
def uptoBulkEntries {H : Type} : List (Lit × DataW H) → Nat
  | [] => 0
  | x :: r => uptoBulkEntry x + uptoBulkEntries r
def uptoBulkEntry {H : Type} : Lit × DataW H → Nat
  | (.string bytes, d) => bytes.length + uptoBulk d + 1
  | (_, d) => uptoBulk d + 1
 end
def uptoSmall : (H : Type) → List (DataW H) → Bool := fun _ ds => decide (uptoBulkAll ds ≤ 1048576)
def OpenSpec.upto (s : _root_.Go.ChangeSpec) : _root_.Go.OpenSpec := { _root_.Go.OpenSpec.ofChange s with cond := some uptoSmall }

/-- 'backflushlaw15.LevelsOrderSpec', WHERE WHAT IT READS IS OF BULK AT MOST 1048576: true; the input reads as it did. -/
def levelsOrderSpecUptoRow : OpenClaim := { program := "ytekjphkabfiheaagreat", sum := "72559bc56373f57dcf4e615a3232ef13669616b12c79f66a12f30184baa879e1", func := "backflush/backflushlaw15.LevelsOrderSpec", spec := "levelsOrderSpec", unfollowed := true, recurses := true, apart := false, narrowed := true }
def LevelsOrderSpecUptoSaid : Prop := levelsOrderSpecUptoRow.holds Tryz.pinned (OpenSpec.upto levelsOrderSpecSpec)

/-- 'backflushlaw15.LevelsUp', WHERE WHAT IT READS IS OF BULK AT MOST 1048576: true; the input reads as it did. -/
def levelsUpUptoRow : OpenClaim := { program := "ytekjphkabfiheaagreat", sum := "72559bc56373f57dcf4e615a3232ef13669616b12c79f66a12f30184baa879e1", func := "backflush/backflushlaw15.LevelsUp", spec := "levelsUp", unfollowed := true, recurses := true, apart := false, narrowed := true }
def LevelsUpUptoSaid : Prop := levelsUpUptoRow.holds Tryz.pinned (OpenSpec.upto levelsUpSpec)

/-- 'backflushlaw15.LevelsSums', WHERE WHAT IT READS IS OF BULK AT MOST 1048576: true; the input reads as it did. -/
def levelsSumsUptoRow : OpenClaim := { program := "ytekjphkabfiheaagreat", sum := "72559bc56373f57dcf4e615a3232ef13669616b12c79f66a12f30184baa879e1", func := "backflush/backflushlaw15.LevelsSums", spec := "levelsSums", unfollowed := true, recurses := true, apart := false, narrowed := true }
def LevelsSumsUptoSaid : Prop := levelsSumsUptoRow.holds Tryz.pinned (OpenSpec.upto levelsSumsSpec)

/-- 'backflushlaw15.LevelsCovers', WHERE WHAT IT READS IS OF BULK AT MOST 1048576: true; the input reads as it did. -/
def levelsCoversUptoRow : OpenClaim := { program := "ytekjphkabfiheaagreat", sum := "72559bc56373f57dcf4e615a3232ef13669616b12c79f66a12f30184baa879e1", func := "backflush/backflushlaw15.LevelsCovers", spec := "levelsCovers", unfollowed := true, recurses := true, apart := false, narrowed := true }
def LevelsCoversUptoSaid : Prop := levelsCoversUptoRow.holds Tryz.pinned (OpenSpec.upto levelsCoversSpec)

/-- 'backflushlaw17.MachineRunSpec', WHERE WHAT IT READS IS OF BULK AT MOST 1048576: true; the input reads as it did. -/
def machineRunSpecUptoRow : OpenClaim := { program := "ytekjphkabfiheaagreat", sum := "72559bc56373f57dcf4e615a3232ef13669616b12c79f66a12f30184baa879e1", func := "backflush/backflushlaw17.MachineRunSpec", spec := "machineRunSpec", unfollowed := true, recurses := true, apart := false, narrowed := true }
def MachineRunSpecUptoSaid : Prop := machineRunSpecUptoRow.holds Tryz.pinned (OpenSpec.upto machineRunSpecSpec)

/-- 'backflushlaw17.MachineNeedsSpec', WHERE WHAT IT READS IS OF BULK AT MOST 1048576: true; the input reads as it did. -/
def machineNeedsSpecUptoRow : OpenClaim := { program := "ytekjphkabfiheaagreat", sum := "72559bc56373f57dcf4e615a3232ef13669616b12c79f66a12f30184baa879e1", func := "backflush/backflushlaw17.MachineNeedsSpec", spec := "machineNeedsSpec", unfollowed := true, recurses := true, apart := false, narrowed := true }
def MachineNeedsSpecUptoSaid : Prop := machineNeedsSpecUptoRow.holds Tryz.pinned (OpenSpec.upto machineNeedsSpecSpec)

/-- 'backflushlaw17.MachineFuel', WHERE WHAT IT READS IS OF BULK AT MOST 1048576: true; the input reads as it did. -/
def machineFuelUptoRow : OpenClaim := { program := "ytekjphkabfiheaagreat", sum := "72559bc56373f57dcf4e615a3232ef13669616b12c79f66a12f30184baa879e1", func := "backflush/backflushlaw17.MachineFuel", spec := "machineFuel", unfollowed := true, recurses := true, apart := false, narrowed := true }
def MachineFuelUptoSaid : Prop := machineFuelUptoRow.holds Tryz.pinned (OpenSpec.upto machineFuelSpec)

/-- 'backflushlaw17.MachineSums', WHERE WHAT IT READS IS OF BULK AT MOST 1048576: true; the input reads as it did. -/
def machineSumsUptoRow : OpenClaim := { program := "ytekjphkabfiheaagreat", sum := "72559bc56373f57dcf4e615a3232ef13669616b12c79f66a12f30184baa879e1", func := "backflush/backflushlaw17.MachineSums", spec := "machineSums", unfollowed := true, recurses := true, apart := false, narrowed := true }
def MachineSumsUptoSaid : Prop := machineSumsUptoRow.holds Tryz.pinned (OpenSpec.upto machineSumsSpec)

/-- 'backflushlaw17.MachineRecipe', WHERE WHAT IT READS IS OF BULK AT MOST 1048576: true; the input reads as it did. -/
def machineRecipeUptoRow : OpenClaim := { program := "ytekjphkabfiheaagreat", sum := "72559bc56373f57dcf4e615a3232ef13669616b12c79f66a12f30184baa879e1", func := "backflush/backflushlaw17.MachineRecipe", spec := "machineRecipe", unfollowed := true, recurses := true, apart := false, narrowed := true }
def MachineRecipeUptoSaid : Prop := machineRecipeUptoRow.holds Tryz.pinned (OpenSpec.upto machineRecipeSpec)

/-- 'backflushlaw17.MachineDay', WHERE WHAT IT READS IS OF BULK AT MOST 1048576: true; the input reads as it did. -/
def machineDayUptoRow : OpenClaim := { program := "ytekjphkabfiheaagreat", sum := "72559bc56373f57dcf4e615a3232ef13669616b12c79f66a12f30184baa879e1", func := "backflush/backflushlaw17.MachineDay", spec := "machineDay", unfollowed := true, recurses := true, apart := false, narrowed := true }
def MachineDayUptoSaid : Prop := machineDayUptoRow.holds Tryz.pinned (OpenSpec.upto machineDaySpec)

end Rows
end Go.Proofs.YtekjphkabfiheaaGreat
