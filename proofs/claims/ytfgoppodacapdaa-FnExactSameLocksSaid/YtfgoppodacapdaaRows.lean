/-
  No cell of these rows narrows 'for every input' (looked for: loops, veiled, ifaces, maps, wideKeys, modest, calm, conditions, laid).
  DERIVED. THE GIVEN ROWS OF THIS SEAT. 12 by the template 'for every input the law returns true; each argument reads behind the call as it read before'; 0 by the template 'total and deterministic' (their statements: YtfgoppodacapdaaTotals.lean).
  GIVEN WITH THE SEED: the statements are not yours to turn. If you find one false, say at which input.
  Laid BY PROGRAM, IN A SANDBOX (cutbox-rows.mjs): the forced cells as the released guide's own fill.sh prints them over the translation 09a3ad6a69398b3a… (all of the seat's roots in one cut). By AI agents, Wed Nov 11 2026. No macro, syntax, notation, axiom, sorry.
-/
import Derived.Test.YtfgoppodacapdaaChecked
import GoSem.Claim
import GoSem.ClaimJoined
import GoSem.ClaimMapViews
import Derived.JoinedTies
import Derived.KernelRfl
namespace Go.Proofs.Ytfgoppodacapdaa
/- THE CELL 'sum', in the pinned program and in every row, IS THE sha256 OF THE DUMP (.gsa) THAT YtfgoppodacapdaaProg.lean LOADS. Nothing in Lean hashes anything: it is a label: what it is worth is what the hold of that sum in a sandbox is worth. -/
noncomputable def Try.pinned : Pinned := { name := "ytfgoppodacapdaa", sum := "09a3ad6a69398b3acf2140e4d4ffa94e40aca84e039f5e25750339b3dc90d768", checked := Try.checked }
namespace Rows
def none {H : Type} : Left H := { results := [], args := [] }

/-- 'laws.FnExactTurnsOf': WHATEVER THE INPUT: true; the input reads as it did. -/
def fnExactTurnsOfSpec : ChangeSpec := { name := "fnExactTurnsOf", fn := fun _ => fun
  | [d] => { results := [.lit (.bool true)], args := [d] }
  | _ => none }
def fnExactTurnsOfRow : OpenClaim := { program := "ytfgoppodacapdaa", sum := "09a3ad6a69398b3acf2140e4d4ffa94e40aca84e039f5e25750339b3dc90d768", func := "loop.example/g00874/laws.FnExactTurnsOf", spec := "fnExactTurnsOf", apart := false }
def FnExactTurnsOfSaid : Prop := fnExactTurnsOfRow.holds Try.pinned (OpenSpec.ofChange fnExactTurnsOfSpec)

/-- ITS FALSE NEIGHBOUR: 'it returns false'. Refute it at one input. -/
def fnExactTurnsOfWrong : ChangeSpec := { name := "fnExactTurnsOf", fn := fun _ => fun
  | [d] => { results := [.lit (.bool false)], args := [d] }
  | _ => none }
def FnExactTurnsOfWrongFalsely : Prop := fnExactTurnsOfRow.holds Try.pinned (OpenSpec.ofChange fnExactTurnsOfWrong)

/-- 'laws.FnExactReadsOf': WHATEVER THE INPUT: true; the input reads as it did. -/
def fnExactReadsOfSpec : ChangeSpec := { name := "fnExactReadsOf", fn := fun _ => fun
  | [d] => { results := [.lit (.bool true)], args := [d] }
  | _ => none }
def fnExactReadsOfRow : OpenClaim := { program := "ytfgoppodacapdaa", sum := "09a3ad6a69398b3acf2140e4d4ffa94e40aca84e039f5e25750339b3dc90d768", func := "loop.example/g00874/laws.FnExactReadsOf", spec := "fnExactReadsOf", apart := false }
def FnExactReadsOfSaid : Prop := fnExactReadsOfRow.holds Try.pinned (OpenSpec.ofChange fnExactReadsOfSpec)

/-- ITS FALSE NEIGHBOUR: 'it returns false'. Refute it at one input. -/
def fnExactReadsOfWrong : ChangeSpec := { name := "fnExactReadsOf", fn := fun _ => fun
  | [d] => { results := [.lit (.bool false)], args := [d] }
  | _ => none }
def FnExactReadsOfWrongFalsely : Prop := fnExactReadsOfRow.holds Try.pinned (OpenSpec.ofChange fnExactReadsOfWrong)

/-- 'laws.FnExactInTheWay': WHATEVER THE INPUT: true; the input reads as it did. -/
def fnExactInTheWaySpec : ChangeSpec := { name := "fnExactInTheWay", fn := fun _ => fun
  | [d1, d2, d3, d4] => { results := [.lit (.bool true)], args := [d1, d2, d3, d4] }
  | _ => none }
def fnExactInTheWayRow : OpenClaim := { program := "ytfgoppodacapdaa", sum := "09a3ad6a69398b3acf2140e4d4ffa94e40aca84e039f5e25750339b3dc90d768", func := "loop.example/g00874/laws.FnExactInTheWay", spec := "fnExactInTheWay", unfollowed := true, recurses := true, apart := false }
def FnExactInTheWaySaid : Prop := fnExactInTheWayRow.holds Try.pinned (OpenSpec.ofChange fnExactInTheWaySpec)

/-- ITS FALSE NEIGHBOUR: 'it returns false'. Refute it at one input. -/
def fnExactInTheWayWrong : ChangeSpec := { name := "fnExactInTheWay", fn := fun _ => fun
  | [d1, d2, d3, d4] => { results := [.lit (.bool false)], args := [d1, d2, d3, d4] }
  | _ => none }
def FnExactInTheWayWrongFalsely : Prop := fnExactInTheWayRow.holds Try.pinned (OpenSpec.ofChange fnExactInTheWayWrong)

/-- 'laws.FnExactSameRows': WHATEVER THE INPUT: true; the input reads as it did. -/
def fnExactSameRowsSpec : ChangeSpec := { name := "fnExactSameRows", fn := fun _ => fun
  | [d1, d2] => { results := [.lit (.bool true)], args := [d1, d2] }
  | _ => none }
def fnExactSameRowsRow : OpenClaim := { program := "ytfgoppodacapdaa", sum := "09a3ad6a69398b3acf2140e4d4ffa94e40aca84e039f5e25750339b3dc90d768", func := "loop.example/g00874/laws.FnExactSameRows", spec := "fnExactSameRows", unfollowed := true, recurses := true, apart := false }
def FnExactSameRowsSaid : Prop := fnExactSameRowsRow.holds Try.pinned (OpenSpec.ofChange fnExactSameRowsSpec)

/-- ITS FALSE NEIGHBOUR: 'it returns false'. Refute it at one input. -/
def fnExactSameRowsWrong : ChangeSpec := { name := "fnExactSameRows", fn := fun _ => fun
  | [d1, d2] => { results := [.lit (.bool false)], args := [d1, d2] }
  | _ => none }
def FnExactSameRowsWrongFalsely : Prop := fnExactSameRowsRow.holds Try.pinned (OpenSpec.ofChange fnExactSameRowsWrong)

/-- 'laws.FnExactTriggerOk': WHATEVER THE INPUT: true; the input reads as it did. -/
def fnExactTriggerOkSpec : ChangeSpec := { name := "fnExactTriggerOk", fn := fun _ => fun
  | [d] => { results := [.lit (.bool true)], args := [d] }
  | _ => none }
def fnExactTriggerOkRow : OpenClaim := { program := "ytfgoppodacapdaa", sum := "09a3ad6a69398b3acf2140e4d4ffa94e40aca84e039f5e25750339b3dc90d768", func := "loop.example/g00874/laws.FnExactTriggerOk", spec := "fnExactTriggerOk", unfollowed := true, recurses := true, apart := false }
def FnExactTriggerOkSaid : Prop := fnExactTriggerOkRow.holds Try.pinned (OpenSpec.ofChange fnExactTriggerOkSpec)

/-- ITS FALSE NEIGHBOUR: 'it returns false'. Refute it at one input. -/
def fnExactTriggerOkWrong : ChangeSpec := { name := "fnExactTriggerOk", fn := fun _ => fun
  | [d] => { results := [.lit (.bool false)], args := [d] }
  | _ => none }
def FnExactTriggerOkWrongFalsely : Prop := fnExactTriggerOkRow.holds Try.pinned (OpenSpec.ofChange fnExactTriggerOkWrong)

/-- 'laws.FnExactSameTriggers': WHATEVER THE INPUT: true; the input reads as it did. -/
def fnExactSameTriggersSpec : ChangeSpec := { name := "fnExactSameTriggers", fn := fun _ => fun
  | [d1, d2] => { results := [.lit (.bool true)], args := [d1, d2] }
  | _ => none }
def fnExactSameTriggersRow : OpenClaim := { program := "ytfgoppodacapdaa", sum := "09a3ad6a69398b3acf2140e4d4ffa94e40aca84e039f5e25750339b3dc90d768", func := "loop.example/g00874/laws.FnExactSameTriggers", spec := "fnExactSameTriggers", unfollowed := true, recurses := true, apart := false }
def FnExactSameTriggersSaid : Prop := fnExactSameTriggersRow.holds Try.pinned (OpenSpec.ofChange fnExactSameTriggersSpec)

/-- ITS FALSE NEIGHBOUR: 'it returns false'. Refute it at one input. -/
def fnExactSameTriggersWrong : ChangeSpec := { name := "fnExactSameTriggers", fn := fun _ => fun
  | [d1, d2] => { results := [.lit (.bool false)], args := [d1, d2] }
  | _ => none }
def FnExactSameTriggersWrongFalsely : Prop := fnExactSameTriggersRow.holds Try.pinned (OpenSpec.ofChange fnExactSameTriggersWrong)

/-- 'laws.FnExactSameTrans': WHATEVER THE INPUT: true; the input reads as it did. -/
def fnExactSameTransSpec : ChangeSpec := { name := "fnExactSameTrans", fn := fun _ => fun
  | [d1, d2] => { results := [.lit (.bool true)], args := [d1, d2] }
  | _ => none }
def fnExactSameTransRow : OpenClaim := { program := "ytfgoppodacapdaa", sum := "09a3ad6a69398b3acf2140e4d4ffa94e40aca84e039f5e25750339b3dc90d768", func := "loop.example/g00874/laws.FnExactSameTrans", spec := "fnExactSameTrans", unfollowed := true, recurses := true, apart := false }
def FnExactSameTransSaid : Prop := fnExactSameTransRow.holds Try.pinned (OpenSpec.ofChange fnExactSameTransSpec)

/-- ITS FALSE NEIGHBOUR: 'it returns false'. Refute it at one input. -/
def fnExactSameTransWrong : ChangeSpec := { name := "fnExactSameTrans", fn := fun _ => fun
  | [d1, d2] => { results := [.lit (.bool false)], args := [d1, d2] }
  | _ => none }
def FnExactSameTransWrongFalsely : Prop := fnExactSameTransRow.holds Try.pinned (OpenSpec.ofChange fnExactSameTransWrong)

/-- 'laws.FnExactTriggersOk': WHATEVER THE INPUT: true; the input reads as it did. -/
def fnExactTriggersOkSpec : ChangeSpec := { name := "fnExactTriggersOk", fn := fun _ => fun
  | [d] => { results := [.lit (.bool true)], args := [d] }
  | _ => none }
def fnExactTriggersOkRow : OpenClaim := { program := "ytfgoppodacapdaa", sum := "09a3ad6a69398b3acf2140e4d4ffa94e40aca84e039f5e25750339b3dc90d768", func := "loop.example/g00874/laws.FnExactTriggersOk", spec := "fnExactTriggersOk", unfollowed := true, recurses := true, apart := false }
def FnExactTriggersOkSaid : Prop := fnExactTriggersOkRow.holds Try.pinned (OpenSpec.ofChange fnExactTriggersOkSpec)

/-- ITS FALSE NEIGHBOUR: 'it returns false'. Refute it at one input. -/
def fnExactTriggersOkWrong : ChangeSpec := { name := "fnExactTriggersOk", fn := fun _ => fun
  | [d] => { results := [.lit (.bool false)], args := [d] }
  | _ => none }
def FnExactTriggersOkWrongFalsely : Prop := fnExactTriggersOkRow.holds Try.pinned (OpenSpec.ofChange fnExactTriggersOkWrong)

/-- 'laws.FnExactSameBatches': WHATEVER THE INPUT: true; the input reads as it did. -/
def fnExactSameBatchesSpec : ChangeSpec := { name := "fnExactSameBatches", fn := fun _ => fun
  | [d1, d2] => { results := [.lit (.bool true)], args := [d1, d2] }
  | _ => none }
def fnExactSameBatchesRow : OpenClaim := { program := "ytfgoppodacapdaa", sum := "09a3ad6a69398b3acf2140e4d4ffa94e40aca84e039f5e25750339b3dc90d768", func := "loop.example/g00874/laws.FnExactSameBatches", spec := "fnExactSameBatches", unfollowed := true, recurses := true, apart := false }
def FnExactSameBatchesSaid : Prop := fnExactSameBatchesRow.holds Try.pinned (OpenSpec.ofChange fnExactSameBatchesSpec)

/-- ITS FALSE NEIGHBOUR: 'it returns false'. Refute it at one input. -/
def fnExactSameBatchesWrong : ChangeSpec := { name := "fnExactSameBatches", fn := fun _ => fun
  | [d1, d2] => { results := [.lit (.bool false)], args := [d1, d2] }
  | _ => none }
def FnExactSameBatchesWrongFalsely : Prop := fnExactSameBatchesRow.holds Try.pinned (OpenSpec.ofChange fnExactSameBatchesWrong)

/-- 'laws.FnExactSameLocks': WHATEVER THE INPUT: true; the input reads as it did. -/
def fnExactSameLocksSpec : ChangeSpec := { name := "fnExactSameLocks", fn := fun _ => fun
  | [d1, d2] => { results := [.lit (.bool true)], args := [d1, d2] }
  | _ => none }
def fnExactSameLocksRow : OpenClaim := { program := "ytfgoppodacapdaa", sum := "09a3ad6a69398b3acf2140e4d4ffa94e40aca84e039f5e25750339b3dc90d768", func := "loop.example/g00874/laws.FnExactSameLocks", spec := "fnExactSameLocks", unfollowed := true, recurses := true, apart := false }
def FnExactSameLocksSaid : Prop := fnExactSameLocksRow.holds Try.pinned (OpenSpec.ofChange fnExactSameLocksSpec)

/-- ITS FALSE NEIGHBOUR: 'it returns false'. Refute it at one input. -/
def fnExactSameLocksWrong : ChangeSpec := { name := "fnExactSameLocks", fn := fun _ => fun
  | [d1, d2] => { results := [.lit (.bool false)], args := [d1, d2] }
  | _ => none }
def FnExactSameLocksWrongFalsely : Prop := fnExactSameLocksRow.holds Try.pinned (OpenSpec.ofChange fnExactSameLocksWrong)

/-- 'laws.FnExactTriggerFits': WHATEVER THE INPUT: true; the input reads as it did. -/
def fnExactTriggerFitsSpec : ChangeSpec := { name := "fnExactTriggerFits", fn := fun _ => fun
  | [d1, d2] => { results := [.lit (.bool true)], args := [d1, d2] }
  | _ => none }
def fnExactTriggerFitsRow : OpenClaim := { program := "ytfgoppodacapdaa", sum := "09a3ad6a69398b3acf2140e4d4ffa94e40aca84e039f5e25750339b3dc90d768", func := "loop.example/g00874/laws.FnExactTriggerFits", spec := "fnExactTriggerFits", unfollowed := true, recurses := true, apart := false }
def FnExactTriggerFitsSaid : Prop := fnExactTriggerFitsRow.holds Try.pinned (OpenSpec.ofChange fnExactTriggerFitsSpec)

/-- ITS FALSE NEIGHBOUR: 'it returns false'. Refute it at one input. -/
def fnExactTriggerFitsWrong : ChangeSpec := { name := "fnExactTriggerFits", fn := fun _ => fun
  | [d1, d2] => { results := [.lit (.bool false)], args := [d1, d2] }
  | _ => none }
def FnExactTriggerFitsWrongFalsely : Prop := fnExactTriggerFitsRow.holds Try.pinned (OpenSpec.ofChange fnExactTriggerFitsWrong)

/-- 'laws.FnExactFiredBy': WHATEVER THE INPUT: true; the input reads as it did. -/
def fnExactFiredBySpec : ChangeSpec := { name := "fnExactFiredBy", fn := fun _ => fun
  | [d1, d2] => { results := [.lit (.bool true)], args := [d1, d2] }
  | _ => none }
def fnExactFiredByRow : OpenClaim := { program := "ytfgoppodacapdaa", sum := "09a3ad6a69398b3acf2140e4d4ffa94e40aca84e039f5e25750339b3dc90d768", func := "loop.example/g00874/laws.FnExactFiredBy", spec := "fnExactFiredBy", unfollowed := true, recurses := true, apart := false }
def FnExactFiredBySaid : Prop := fnExactFiredByRow.holds Try.pinned (OpenSpec.ofChange fnExactFiredBySpec)

/-- ITS FALSE NEIGHBOUR: 'it returns false'. Refute it at one input. -/
def fnExactFiredByWrong : ChangeSpec := { name := "fnExactFiredBy", fn := fun _ => fun
  | [d1, d2] => { results := [.lit (.bool false)], args := [d1, d2] }
  | _ => none }
def FnExactFiredByWrongFalsely : Prop := fnExactFiredByRow.holds Try.pinned (OpenSpec.ofChange fnExactFiredByWrong)

/- THE SECOND FORM. 'bulk': how many values and letters a reading holds, each counted each time it is reached (what is shared counts as often as it is met; a slice's spare places count too). A statement '..UptoSaid' is the law's where the arguments, and the package variables that the reading takes, are together of bulk at most 1048576: NARROWER than '..Said'. Prove '..Said' where nothing that the law and all that it calls make is longer than what came in: it says more and counts as full. Else prove '..UptoSaid'. A law counts once. -/
mutual
def uptoBulk {H : Type} : DataW H → Nat
  | .lit (.string bytes) => bytes.length + 1
  | .lit _ => 1
  | .nil => 1
  | .ptr d => uptoBulk d + 1
  | .slice elems spare => uptoBulkAll elems + uptoBulkAll spare + 1
  | .agg parts => uptoBulkAll parts + 1
  | .iface _ d => uptoBulk d + 1
  | .map entries => uptoBulkEntries entries + 1
  | .held _ => 1
def uptoBulkAll {H : Type} : List (DataW H) → Nat
  | [] => 0
  | d :: r => uptoBulk d + uptoBulkAll r
def uptoBulkEntries {H : Type} : List (Lit × DataW H) → Nat
  | [] => 0
  | x :: r => uptoBulkEntry x + uptoBulkEntries r
def uptoBulkEntry {H : Type} : Lit × DataW H → Nat
  | (.string bytes, d) => bytes.length + uptoBulk d + 1
  | (_, d) => uptoBulk d + 1
 end
def uptoSmall : (H : Type) → List (DataW H) → Bool := fun _ ds => decide (uptoBulkAll ds ≤ 1048576)
def OpenSpec.upto (s : _root_.Go.ChangeSpec) : _root_.Go.OpenSpec := { _root_.Go.OpenSpec.ofChange s with cond := some uptoSmall }

/-- 'laws.FnExactTurnsOf', WHERE WHAT IT READS IS OF BULK AT MOST 1048576: true; the input reads as it did. -/
def fnExactTurnsOfUptoRow : OpenClaim := { program := "ytfgoppodacapdaa", sum := "09a3ad6a69398b3acf2140e4d4ffa94e40aca84e039f5e25750339b3dc90d768", func := "loop.example/g00874/laws.FnExactTurnsOf", spec := "fnExactTurnsOf", apart := false, narrowed := true }
def FnExactTurnsOfUptoSaid : Prop := fnExactTurnsOfUptoRow.holds Try.pinned (OpenSpec.upto fnExactTurnsOfSpec)

/-- 'laws.FnExactReadsOf', WHERE WHAT IT READS IS OF BULK AT MOST 1048576: true; the input reads as it did. -/
def fnExactReadsOfUptoRow : OpenClaim := { program := "ytfgoppodacapdaa", sum := "09a3ad6a69398b3acf2140e4d4ffa94e40aca84e039f5e25750339b3dc90d768", func := "loop.example/g00874/laws.FnExactReadsOf", spec := "fnExactReadsOf", apart := false, narrowed := true }
def FnExactReadsOfUptoSaid : Prop := fnExactReadsOfUptoRow.holds Try.pinned (OpenSpec.upto fnExactReadsOfSpec)

/-- 'laws.FnExactInTheWay', WHERE WHAT IT READS IS OF BULK AT MOST 1048576: true; the input reads as it did. -/
def fnExactInTheWayUptoRow : OpenClaim := { program := "ytfgoppodacapdaa", sum := "09a3ad6a69398b3acf2140e4d4ffa94e40aca84e039f5e25750339b3dc90d768", func := "loop.example/g00874/laws.FnExactInTheWay", spec := "fnExactInTheWay", unfollowed := true, recurses := true, apart := false, narrowed := true }
def FnExactInTheWayUptoSaid : Prop := fnExactInTheWayUptoRow.holds Try.pinned (OpenSpec.upto fnExactInTheWaySpec)

/-- 'laws.FnExactSameRows', WHERE WHAT IT READS IS OF BULK AT MOST 1048576: true; the input reads as it did. -/
def fnExactSameRowsUptoRow : OpenClaim := { program := "ytfgoppodacapdaa", sum := "09a3ad6a69398b3acf2140e4d4ffa94e40aca84e039f5e25750339b3dc90d768", func := "loop.example/g00874/laws.FnExactSameRows", spec := "fnExactSameRows", unfollowed := true, recurses := true, apart := false, narrowed := true }
def FnExactSameRowsUptoSaid : Prop := fnExactSameRowsUptoRow.holds Try.pinned (OpenSpec.upto fnExactSameRowsSpec)

/-- 'laws.FnExactTriggerOk', WHERE WHAT IT READS IS OF BULK AT MOST 1048576: true; the input reads as it did. -/
def fnExactTriggerOkUptoRow : OpenClaim := { program := "ytfgoppodacapdaa", sum := "09a3ad6a69398b3acf2140e4d4ffa94e40aca84e039f5e25750339b3dc90d768", func := "loop.example/g00874/laws.FnExactTriggerOk", spec := "fnExactTriggerOk", unfollowed := true, recurses := true, apart := false, narrowed := true }
def FnExactTriggerOkUptoSaid : Prop := fnExactTriggerOkUptoRow.holds Try.pinned (OpenSpec.upto fnExactTriggerOkSpec)

/-- 'laws.FnExactSameTriggers', WHERE WHAT IT READS IS OF BULK AT MOST 1048576: true; the input reads as it did. -/
def fnExactSameTriggersUptoRow : OpenClaim := { program := "ytfgoppodacapdaa", sum := "09a3ad6a69398b3acf2140e4d4ffa94e40aca84e039f5e25750339b3dc90d768", func := "loop.example/g00874/laws.FnExactSameTriggers", spec := "fnExactSameTriggers", unfollowed := true, recurses := true, apart := false, narrowed := true }
def FnExactSameTriggersUptoSaid : Prop := fnExactSameTriggersUptoRow.holds Try.pinned (OpenSpec.upto fnExactSameTriggersSpec)

/-- 'laws.FnExactSameTrans', WHERE WHAT IT READS IS OF BULK AT MOST 1048576: true; the input reads as it did. -/
def fnExactSameTransUptoRow : OpenClaim := { program := "ytfgoppodacapdaa", sum := "09a3ad6a69398b3acf2140e4d4ffa94e40aca84e039f5e25750339b3dc90d768", func := "loop.example/g00874/laws.FnExactSameTrans", spec := "fnExactSameTrans", unfollowed := true, recurses := true, apart := false, narrowed := true }
def FnExactSameTransUptoSaid : Prop := fnExactSameTransUptoRow.holds Try.pinned (OpenSpec.upto fnExactSameTransSpec)

/-- 'laws.FnExactTriggersOk', WHERE WHAT IT READS IS OF BULK AT MOST 1048576: true; the input reads as it did. -/
def fnExactTriggersOkUptoRow : OpenClaim := { program := "ytfgoppodacapdaa", sum := "09a3ad6a69398b3acf2140e4d4ffa94e40aca84e039f5e25750339b3dc90d768", func := "loop.example/g00874/laws.FnExactTriggersOk", spec := "fnExactTriggersOk", unfollowed := true, recurses := true, apart := false, narrowed := true }
def FnExactTriggersOkUptoSaid : Prop := fnExactTriggersOkUptoRow.holds Try.pinned (OpenSpec.upto fnExactTriggersOkSpec)

/-- 'laws.FnExactSameBatches', WHERE WHAT IT READS IS OF BULK AT MOST 1048576: true; the input reads as it did. -/
def fnExactSameBatchesUptoRow : OpenClaim := { program := "ytfgoppodacapdaa", sum := "09a3ad6a69398b3acf2140e4d4ffa94e40aca84e039f5e25750339b3dc90d768", func := "loop.example/g00874/laws.FnExactSameBatches", spec := "fnExactSameBatches", unfollowed := true, recurses := true, apart := false, narrowed := true }
def FnExactSameBatchesUptoSaid : Prop := fnExactSameBatchesUptoRow.holds Try.pinned (OpenSpec.upto fnExactSameBatchesSpec)

/-- 'laws.FnExactSameLocks', WHERE WHAT IT READS IS OF BULK AT MOST 1048576: true; the input reads as it did. -/
def fnExactSameLocksUptoRow : OpenClaim := { program := "ytfgoppodacapdaa", sum := "09a3ad6a69398b3acf2140e4d4ffa94e40aca84e039f5e25750339b3dc90d768", func := "loop.example/g00874/laws.FnExactSameLocks", spec := "fnExactSameLocks", unfollowed := true, recurses := true, apart := false, narrowed := true }
def FnExactSameLocksUptoSaid : Prop := fnExactSameLocksUptoRow.holds Try.pinned (OpenSpec.upto fnExactSameLocksSpec)

/-- 'laws.FnExactTriggerFits', WHERE WHAT IT READS IS OF BULK AT MOST 1048576: true; the input reads as it did. -/
def fnExactTriggerFitsUptoRow : OpenClaim := { program := "ytfgoppodacapdaa", sum := "09a3ad6a69398b3acf2140e4d4ffa94e40aca84e039f5e25750339b3dc90d768", func := "loop.example/g00874/laws.FnExactTriggerFits", spec := "fnExactTriggerFits", unfollowed := true, recurses := true, apart := false, narrowed := true }
def FnExactTriggerFitsUptoSaid : Prop := fnExactTriggerFitsUptoRow.holds Try.pinned (OpenSpec.upto fnExactTriggerFitsSpec)

/-- 'laws.FnExactFiredBy', WHERE WHAT IT READS IS OF BULK AT MOST 1048576: true; the input reads as it did. -/
def fnExactFiredByUptoRow : OpenClaim := { program := "ytfgoppodacapdaa", sum := "09a3ad6a69398b3acf2140e4d4ffa94e40aca84e039f5e25750339b3dc90d768", func := "loop.example/g00874/laws.FnExactFiredBy", spec := "fnExactFiredBy", unfollowed := true, recurses := true, apart := false, narrowed := true }
def FnExactFiredByUptoSaid : Prop := fnExactFiredByUptoRow.holds Try.pinned (OpenSpec.upto fnExactFiredBySpec)

end Rows
end Go.Proofs.Ytfgoppodacapdaa
