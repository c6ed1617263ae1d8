/-
  No cell of these rows narrows 'for every input' (looked for: loops, veiled, ifaces, maps, wideKeys, modest, calm, conditions, laid).
  DERIVED. THE GIVEN ROWS OF THIS SEAT. 5 by the template 'for every input the law returns true; each argument reads behind the call as it read before'; 0 by the template 'total and deterministic' (their statements: YtnikcccobfcndaaTotals.lean).
  GIVEN WITH THE SEED: the statements are not yours to turn. If you find one false, say at which input.
  Laid BY PROGRAM, IN A SANDBOX (cutbox-rows.mjs): the forced cells as the released guide's own fill.sh prints them over the translation dfc446aa8e10d47d… (all of the seat's roots in one cut). By AI agents, Wed Nov 11 2026. No macro, syntax, notation, axiom, sorry.
-/
import Derived.Test.YtnikcccobfcndaaChecked
import GoSem.Claim
import GoSem.ClaimJoined
import GoSem.ClaimMapViews
import Derived.JoinedTies
import Derived.KernelRfl
namespace Go.Proofs.Ytnikcccobfcndaa
/- THE CELL 'sum', in the pinned program and in every row, IS THE sha256 OF THE DUMP (.gsa) THAT YtnikcccobfcndaaProg.lean LOADS. Nothing in Lean hashes anything: it is a label: what it is worth is what the hold of that sum in a sandbox is worth. -/
noncomputable def Try.pinned : Pinned := { name := "ytnikcccobfcndaa", sum := "dfc446aa8e10d47d0616de0956a64d10047d9f16761a6f7bc9343084cbc67609", checked := Try.checked }
namespace Rows
def none {H : Type} : Left H := { results := [], args := [] }

/-- 'sumplaw40.GenSeeds': WHATEVER THE INPUT: true; the input reads as it did. -/
def genSeedsSpec : ChangeSpec := { name := "genSeeds", fn := fun _ => fun
  | [d1, d2] => { results := [.lit (.bool true)], args := [d1, d2] }
  | _ => none }
def genSeedsRow : OpenClaim := { program := "ytnikcccobfcndaa", sum := "dfc446aa8e10d47d0616de0956a64d10047d9f16761a6f7bc9343084cbc67609", func := "sump/sumplaw40.GenSeeds", spec := "genSeeds", inPlace := ["internal/bytealg.MakeNoZero"], unfollowed := true, recurses := true, apart := false }
def GenSeedsSaid : Prop := genSeedsRow.holds Try.pinned (OpenSpec.ofChange genSeedsSpec)

/-- ITS FALSE NEIGHBOUR: 'it returns false'. Refute it at one input. -/
def genSeedsWrong : ChangeSpec := { name := "genSeeds", fn := fun _ => fun
  | [d1, d2] => { results := [.lit (.bool false)], args := [d1, d2] }
  | _ => none }
def GenSeedsWrongFalsely : Prop := genSeedsRow.holds Try.pinned (OpenSpec.ofChange genSeedsWrong)

/-- 'sumplaw37.ScriptParts': WHATEVER THE INPUT: true; the input reads as it did. -/
def scriptPartsSpec : ChangeSpec := { name := "scriptParts", fn := fun _ => fun
  | [d1, d2, d3, d4] => { results := [.lit (.bool true)], args := [d1, d2, d3, d4] }
  | _ => none }
def scriptPartsRow : OpenClaim := { program := "ytnikcccobfcndaa", sum := "dfc446aa8e10d47d0616de0956a64d10047d9f16761a6f7bc9343084cbc67609", func := "sump/sumplaw37.ScriptParts", spec := "scriptParts", inPlace := ["internal/bytealg.MakeNoZero"], unfollowed := true, recurses := true, apart := false }
def ScriptPartsSaid : Prop := scriptPartsRow.holds Try.pinned (OpenSpec.ofChange scriptPartsSpec)

/-- ITS FALSE NEIGHBOUR: 'it returns false'. Refute it at one input. -/
def scriptPartsWrong : ChangeSpec := { name := "scriptParts", fn := fun _ => fun
  | [d1, d2, d3, d4] => { results := [.lit (.bool false)], args := [d1, d2, d3, d4] }
  | _ => none }
def ScriptPartsWrongFalsely : Prop := scriptPartsRow.holds Try.pinned (OpenSpec.ofChange scriptPartsWrong)

/-- 'sumplaw37.ScriptTakes': WHATEVER THE INPUT: true; the input reads as it did. -/
def scriptTakesSpec : ChangeSpec := { name := "scriptTakes", fn := fun _ => fun
  | [d] => { results := [.lit (.bool true)], args := [d] }
  | _ => none }
def scriptTakesRow : OpenClaim := { program := "ytnikcccobfcndaa", sum := "dfc446aa8e10d47d0616de0956a64d10047d9f16761a6f7bc9343084cbc67609", func := "sump/sumplaw37.ScriptTakes", spec := "scriptTakes", inPlace := ["internal/bytealg.MakeNoZero"], unfollowed := true, recurses := true, apart := false }
def ScriptTakesSaid : Prop := scriptTakesRow.holds Try.pinned (OpenSpec.ofChange scriptTakesSpec)

/-- ITS FALSE NEIGHBOUR: 'it returns false'. Refute it at one input. -/
def scriptTakesWrong : ChangeSpec := { name := "scriptTakes", fn := fun _ => fun
  | [d] => { results := [.lit (.bool false)], args := [d] }
  | _ => none }
def ScriptTakesWrongFalsely : Prop := scriptTakesRow.holds Try.pinned (OpenSpec.ofChange scriptTakesWrong)

/-- 'sumplaw37.ScriptTables': WHATEVER THE INPUT: true; the input reads as it did. -/
def scriptTablesSpec : ChangeSpec := { name := "scriptTables", fn := fun _ => fun
  | [d1, d2, d3] => { results := [.lit (.bool true)], args := [d1, d2, d3] }
  | _ => none }
def scriptTablesRow : OpenClaim := { program := "ytnikcccobfcndaa", sum := "dfc446aa8e10d47d0616de0956a64d10047d9f16761a6f7bc9343084cbc67609", func := "sump/sumplaw37.ScriptTables", spec := "scriptTables", inPlace := ["internal/bytealg.MakeNoZero"], unfollowed := true, recurses := true, apart := false }
def ScriptTablesSaid : Prop := scriptTablesRow.holds Try.pinned (OpenSpec.ofChange scriptTablesSpec)

/-- ITS FALSE NEIGHBOUR: 'it returns false'. Refute it at one input. -/
def scriptTablesWrong : ChangeSpec := { name := "scriptTables", fn := fun _ => fun
  | [d1, d2, d3] => { results := [.lit (.bool false)], args := [d1, d2, d3] }
  | _ => none }
def ScriptTablesWrongFalsely : Prop := scriptTablesRow.holds Try.pinned (OpenSpec.ofChange scriptTablesWrong)

/-- 'sumplaw40.GenPlans': WHATEVER THE INPUT: true; the input reads as it did. -/
def genPlansSpec : ChangeSpec := { name := "genPlans", fn := fun _ => fun
  | [d1, d2] => { results := [.lit (.bool true)], args := [d1, d2] }
  | _ => none }
def genPlansRow : OpenClaim := { program := "ytnikcccobfcndaa", sum := "dfc446aa8e10d47d0616de0956a64d10047d9f16761a6f7bc9343084cbc67609", func := "sump/sumplaw40.GenPlans", spec := "genPlans", inPlace := ["internal/bytealg.MakeNoZero"], unfollowed := true, recurses := true, apart := false }
def GenPlansSaid : Prop := genPlansRow.holds Try.pinned (OpenSpec.ofChange genPlansSpec)

/-- ITS FALSE NEIGHBOUR: 'it returns false'. Refute it at one input. -/
def genPlansWrong : ChangeSpec := { name := "genPlans", fn := fun _ => fun
  | [d1, d2] => { results := [.lit (.bool false)], args := [d1, d2] }
  | _ => none }
def GenPlansWrongFalsely : Prop := genPlansRow.holds Try.pinned (OpenSpec.ofChange genPlansWrong)

/- THE SECOND FORM. 'bulk': how many values and letters a reading holds, each counted each time it is reached (what is shared counts as often as it is met; a slice's spare places count too). A statement '..UptoSaid' is the law's where the arguments, and the package variables that the reading takes, are together of bulk at most 1048576: NARROWER than '..Said'. Prove '..Said' where nothing that the law and all that it calls make is longer than what came in: it says more and counts as full. Else prove '..UptoSaid'. A law counts once. -/
mutual
def uptoBulk {H : Type} : DataW H → Nat
  | .lit (.string bytes) => bytes.length + 1
  | .lit _ => 1
  | .nil => 1
  | .ptr d => uptoBulk d + 1
  | .slice elems spare => uptoBulkAll elems + uptoBulkAll spare + 1
  | .agg parts => uptoBulkAll parts + 1
  | .iface _ d => uptoBulk d + 1
  | .map entries => uptoBulkEntries entries + 1
  | .held _ => 1
def uptoBulkAll {H : Type} : List (DataW H) → Nat
  | [] => 0
  | d :: r => uptoBulk d + uptoBulkAll r
def uptoBulkEntries {H : Type} : List (Lit × DataW H) → Nat
  | [] => 0
  | x :: r => uptoBulkEntry x + uptoBulkEntries r
def uptoBulkEntry {H : Type} : Lit × DataW H → Nat
  | (.string bytes, d) => bytes.length + uptoBulk d + 1
  | (_, d) => uptoBulk d + 1
 end
def uptoSmall : (H : Type) → List (DataW H) → Bool := fun _ ds => decide (uptoBulkAll ds ≤ 1048576)
def OpenSpec.upto (s : _root_.Go.ChangeSpec) : _root_.Go.OpenSpec := { _root_.Go.OpenSpec.ofChange s with cond := some uptoSmall }

/-- 'sumplaw40.GenSeeds', WHERE WHAT IT READS IS OF BULK AT MOST 1048576: true; the input reads as it did. -/
def genSeedsUptoRow : OpenClaim := { program := "ytnikcccobfcndaa", sum := "dfc446aa8e10d47d0616de0956a64d10047d9f16761a6f7bc9343084cbc67609", func := "sump/sumplaw40.GenSeeds", spec := "genSeeds", inPlace := ["internal/bytealg.MakeNoZero"], unfollowed := true, recurses := true, apart := false, narrowed := true }
def GenSeedsUptoSaid : Prop := genSeedsUptoRow.holds Try.pinned (OpenSpec.upto genSeedsSpec)

/-- 'sumplaw37.ScriptParts', WHERE WHAT IT READS IS OF BULK AT MOST 1048576: true; the input reads as it did. -/
def scriptPartsUptoRow : OpenClaim := { program := "ytnikcccobfcndaa", sum := "dfc446aa8e10d47d0616de0956a64d10047d9f16761a6f7bc9343084cbc67609", func := "sump/sumplaw37.ScriptParts", spec := "scriptParts", inPlace := ["internal/bytealg.MakeNoZero"], unfollowed := true, recurses := true, apart := false, narrowed := true }
def ScriptPartsUptoSaid : Prop := scriptPartsUptoRow.holds Try.pinned (OpenSpec.upto scriptPartsSpec)

/-- 'sumplaw37.ScriptTakes', WHERE WHAT IT READS IS OF BULK AT MOST 1048576: true; the input reads as it did. -/
def scriptTakesUptoRow : OpenClaim := { program := "ytnikcccobfcndaa", sum := "dfc446aa8e10d47d0616de0956a64d10047d9f16761a6f7bc9343084cbc67609", func := "sump/sumplaw37.ScriptTakes", spec := "scriptTakes", inPlace := ["internal/bytealg.MakeNoZero"], unfollowed := true, recurses := true, apart := false, narrowed := true }
def ScriptTakesUptoSaid : Prop := scriptTakesUptoRow.holds Try.pinned (OpenSpec.upto scriptTakesSpec)

/-- 'sumplaw37.ScriptTables', WHERE WHAT IT READS IS OF BULK AT MOST 1048576: true; the input reads as it did. -/
def scriptTablesUptoRow : OpenClaim := { program := "ytnikcccobfcndaa", sum := "dfc446aa8e10d47d0616de0956a64d10047d9f16761a6f7bc9343084cbc67609", func := "sump/sumplaw37.ScriptTables", spec := "scriptTables", inPlace := ["internal/bytealg.MakeNoZero"], unfollowed := true, recurses := true, apart := false, narrowed := true }
def ScriptTablesUptoSaid : Prop := scriptTablesUptoRow.holds Try.pinned (OpenSpec.upto scriptTablesSpec)

/-- 'sumplaw40.GenPlans', WHERE WHAT IT READS IS OF BULK AT MOST 1048576: true; the input reads as it did. -/
def genPlansUptoRow : OpenClaim := { program := "ytnikcccobfcndaa", sum := "dfc446aa8e10d47d0616de0956a64d10047d9f16761a6f7bc9343084cbc67609", func := "sump/sumplaw40.GenPlans", spec := "genPlans", inPlace := ["internal/bytealg.MakeNoZero"], unfollowed := true, recurses := true, apart := false, narrowed := true }
def GenPlansUptoSaid : Prop := genPlansUptoRow.holds Try.pinned (OpenSpec.upto genPlansSpec)

end Rows
end Go.Proofs.Ytnikcccobfcndaa
