/-
  No cell of these rows narrows 'for every input' (looked for: loops, veiled, ifaces, maps, wideKeys, modest, calm, conditions, laid).
  DERIVED. THE GIVEN ROWS OF THIS SEAT. 4 by the template 'for every input the law returns true; each argument reads behind the call as it read before'; 0 by the template 'total and deterministic' (their statements: YtokpjbddoppdpaaTotals.lean).
  GIVEN WITH THE SEED: the statements are not yours to turn. If you find one false, say at which input.
  Laid BY PROGRAM, IN A SANDBOX (cutbox-rows.mjs): the forced cells as the released guide's own fill.sh prints them over the translation 525de8979d0aaa30… (all of the seat's roots in one cut). By AI agents, Wed Nov 11 2026. No macro, syntax, notation, axiom, sorry.
-/
import Derived.Test.YtokpjbddoppdpaaChecked
import GoSem.Claim
import GoSem.ClaimJoined
import GoSem.ClaimMapViews
import Derived.JoinedTies
import Derived.KernelRfl
namespace Go.Proofs.Ytokpjbddoppdpaa
/- THE CELL 'sum', in the pinned program and in every row, IS THE sha256 OF THE DUMP (.gsa) THAT YtokpjbddoppdpaaProg.lean LOADS. Nothing in Lean hashes anything: it is a label: what it is worth is what the hold of that sum in a sandbox is worth. -/
noncomputable def Try.pinned : Pinned := { name := "ytokpjbddoppdpaa", sum := "525de8979d0aaa3028f40621e34617c99415962e1f8287ca7c6f85d25cf5d671", checked := Try.checked }
namespace Rows
def none {H : Type} : Left H := { results := [], args := [] }

/-- 'sentrylaw10.RulesLess': WHATEVER THE INPUT: true; the input reads as it did. -/
def rulesLessSpec : ChangeSpec := { name := "rulesLess", fn := fun _ => fun
  | [d] => { results := [.lit (.bool true)], args := [d] }
  | _ => none }
def rulesLessRow : OpenClaim := { program := "ytokpjbddoppdpaa", sum := "525de8979d0aaa3028f40621e34617c99415962e1f8287ca7c6f85d25cf5d671", func := "sentry/sentrylaw10.RulesLess", spec := "rulesLess", unfollowed := true, recurses := true, apart := false }
def RulesLessSaid : Prop := rulesLessRow.holds Try.pinned (OpenSpec.ofChange rulesLessSpec)

/-- ITS FALSE NEIGHBOUR: 'it returns false'. Refute it at one input. -/
def rulesLessWrong : ChangeSpec := { name := "rulesLess", fn := fun _ => fun
  | [d] => { results := [.lit (.bool false)], args := [d] }
  | _ => none }
def RulesLessWrongFalsely : Prop := rulesLessRow.holds Try.pinned (OpenSpec.ofChange rulesLessWrong)

/-- 'sentrylaw10.RulesTells': WHATEVER THE INPUT: true; the input reads as it did. -/
def rulesTellsSpec : ChangeSpec := { name := "rulesTells", fn := fun _ => fun
  | [d1, d2, d3] => { results := [.lit (.bool true)], args := [d1, d2, d3] }
  | _ => none }
def rulesTellsRow : OpenClaim := { program := "ytokpjbddoppdpaa", sum := "525de8979d0aaa3028f40621e34617c99415962e1f8287ca7c6f85d25cf5d671", func := "sentry/sentrylaw10.RulesTells", spec := "rulesTells", unfollowed := true, recurses := true, apart := false }
def RulesTellsSaid : Prop := rulesTellsRow.holds Try.pinned (OpenSpec.ofChange rulesTellsSpec)

/-- ITS FALSE NEIGHBOUR: 'it returns false'. Refute it at one input. -/
def rulesTellsWrong : ChangeSpec := { name := "rulesTells", fn := fun _ => fun
  | [d1, d2, d3] => { results := [.lit (.bool false)], args := [d1, d2, d3] }
  | _ => none }
def RulesTellsWrongFalsely : Prop := rulesTellsRow.holds Try.pinned (OpenSpec.ofChange rulesTellsWrong)

/-- 'sentrylaw11.GsmCounts': WHATEVER THE INPUT: true; the input reads as it did. -/
def gsmCountsSpec : ChangeSpec := { name := "gsmCounts", fn := fun _ => fun
  | [d1, d2] => { results := [.lit (.bool true)], args := [d1, d2] }
  | _ => none }
def gsmCountsRow : OpenClaim := { program := "ytokpjbddoppdpaa", sum := "525de8979d0aaa3028f40621e34617c99415962e1f8287ca7c6f85d25cf5d671", func := "sentry/sentrylaw11.GsmCounts", spec := "gsmCounts", inPlace := ["maps.clone"], unfollowed := true, recurses := true, apart := false }
def GsmCountsSaid : Prop := gsmCountsRow.holds Try.pinned (OpenSpec.ofChange gsmCountsSpec)

/-- ITS FALSE NEIGHBOUR: 'it returns false'. Refute it at one input. -/
def gsmCountsWrong : ChangeSpec := { name := "gsmCounts", fn := fun _ => fun
  | [d1, d2] => { results := [.lit (.bool false)], args := [d1, d2] }
  | _ => none }
def GsmCountsWrongFalsely : Prop := gsmCountsRow.holds Try.pinned (OpenSpec.ofChange gsmCountsWrong)

/-- 'sentrylaw11.GsmConds': WHATEVER THE INPUT: true; the input reads as it did. -/
def gsmCondsSpec : ChangeSpec := { name := "gsmConds", fn := fun _ => fun
  | [d1, d2] => { results := [.lit (.bool true)], args := [d1, d2] }
  | _ => none }
def gsmCondsRow : OpenClaim := { program := "ytokpjbddoppdpaa", sum := "525de8979d0aaa3028f40621e34617c99415962e1f8287ca7c6f85d25cf5d671", func := "sentry/sentrylaw11.GsmConds", spec := "gsmConds", inPlace := ["maps.clone"], unfollowed := true, recurses := true, apart := false }
def GsmCondsSaid : Prop := gsmCondsRow.holds Try.pinned (OpenSpec.ofChange gsmCondsSpec)

/-- ITS FALSE NEIGHBOUR: 'it returns false'. Refute it at one input. -/
def gsmCondsWrong : ChangeSpec := { name := "gsmConds", fn := fun _ => fun
  | [d1, d2] => { results := [.lit (.bool false)], args := [d1, d2] }
  | _ => none }
def GsmCondsWrongFalsely : Prop := gsmCondsRow.holds Try.pinned (OpenSpec.ofChange gsmCondsWrong)

/- THE SECOND FORM. 'bulk': how many values and letters a reading holds, each counted each time it is reached (what is shared counts as often as it is met; a slice's spare places count too). A statement '..UptoSaid' is the law's where the arguments, and the package variables that the reading takes, are together of bulk at most 1048576: NARROWER than '..Said'. Prove '..Said' where nothing that the law and all that it calls make is longer than what came in: it says more and counts as full. Else prove '..UptoSaid'. A law counts once. -/
mutual
def uptoBulk {H : Type} : DataW H → Nat
  | .lit (.string bytes) => bytes.length + 1
  | .lit _ => 1
  | .nil => 1
  | .ptr d => uptoBulk d + 1
  | .slice elems spare => uptoBulkAll elems + uptoBulkAll spare + 1
  | .agg parts => uptoBulkAll parts + 1
  | .iface _ d => uptoBulk d + 1
  | .map entries => uptoBulkEntries entries + 1
  | .held _ => 1
def uptoBulkAll {H : Type} : List (DataW H) → Nat
  | [] => 0
  | d :: r => uptoBulk d + uptoBulkAll r
def uptoBulkEntries {H : Type} : List (Lit × DataW H) → Nat
  | [] => 0
  | x :: r => uptoBulkEntry x + uptoBulkEntries r
def uptoBulkEntry {H : Type} : Lit × DataW H → Nat
  | (.string bytes, d) => bytes.length + uptoBulk d + 1
  | (_, d) => uptoBulk d + 1
 end
def uptoSmall : (H : Type) → List (DataW H) → Bool := fun _ ds => decide (uptoBulkAll ds ≤ 1048576)
def OpenSpec.upto (s : _root_.Go.ChangeSpec) : _root_.Go.OpenSpec := { _root_.Go.OpenSpec.ofChange s with cond := some uptoSmall }

/-- 'sentrylaw10.RulesLess', WHERE WHAT IT READS IS OF BULK AT MOST 1048576: true; the input reads as it did. -/
def rulesLessUptoRow : OpenClaim := { program := "ytokpjbddoppdpaa", sum := "525de8979d0aaa3028f40621e34617c99415962e1f8287ca7c6f85d25cf5d671", func := "sentry/sentrylaw10.RulesLess", spec := "rulesLess", unfollowed := true, recurses := true, apart := false, narrowed := true }
def RulesLessUptoSaid : Prop := rulesLessUptoRow.holds Try.pinned (OpenSpec.upto rulesLessSpec)

/-- 'sentrylaw10.RulesTells', WHERE WHAT IT READS IS OF BULK AT MOST 1048576: true; the input reads as it did. -/
def rulesTellsUptoRow : OpenClaim := { program := "ytokpjbddoppdpaa", sum := "525de8979d0aaa3028f40621e34617c99415962e1f8287ca7c6f85d25cf5d671", func := "sentry/sentrylaw10.RulesTells", spec := "rulesTells", unfollowed := true, recurses := true, apart := false, narrowed := true }
def RulesTellsUptoSaid : Prop := rulesTellsUptoRow.holds Try.pinned (OpenSpec.upto rulesTellsSpec)

/-- 'sentrylaw11.GsmCounts', WHERE WHAT IT READS IS OF BULK AT MOST 1048576: true; the input reads as it did. -/
def gsmCountsUptoRow : OpenClaim := { program := "ytokpjbddoppdpaa", sum := "525de8979d0aaa3028f40621e34617c99415962e1f8287ca7c6f85d25cf5d671", func := "sentry/sentrylaw11.GsmCounts", spec := "gsmCounts", inPlace := ["maps.clone"], unfollowed := true, recurses := true, apart := false, narrowed := true }
def GsmCountsUptoSaid : Prop := gsmCountsUptoRow.holds Try.pinned (OpenSpec.upto gsmCountsSpec)

/-- 'sentrylaw11.GsmConds', WHERE WHAT IT READS IS OF BULK AT MOST 1048576: true; the input reads as it did. -/
def gsmCondsUptoRow : OpenClaim := { program := "ytokpjbddoppdpaa", sum := "525de8979d0aaa3028f40621e34617c99415962e1f8287ca7c6f85d25cf5d671", func := "sentry/sentrylaw11.GsmConds", spec := "gsmConds", inPlace := ["maps.clone"], unfollowed := true, recurses := true, apart := false, narrowed := true }
def GsmCondsUptoSaid : Prop := gsmCondsUptoRow.holds Try.pinned (OpenSpec.upto gsmCondsSpec)

end Rows
end Go.Proofs.Ytokpjbddoppdpaa
