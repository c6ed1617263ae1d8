/-
  No cell of these rows narrows 'for every input' (looked for: loops, veiled, ifaces, maps, wideKeys, modest, calm, conditions, laid).
  DERIVED. THE GIVEN ROWS OF THIS SEAT. 10 by the template 'for every input the law returns true; each argument reads behind the call as it read before'; 0 by the template 'total and deterministic' (their statements: YtbbpjjbgdemmpaaTotals.lean).
  GIVEN WITH THE SEED: the statements are not yours to turn. If you find one false, say at which input.
  Laid BY PROGRAM, IN A SANDBOX (cutbox-rows.mjs): the forced cells as the released guide's own fill.sh prints them over the translation 0a08a2deadf43e3c… (all of the seat's roots in one cut). By AI agents, Wed Nov 11 2026. No macro, syntax, notation, axiom, sorry.
-/
import Derived.Test.YtbbpjjbgdemmpaaChecked
import GoSem.Claim
import GoSem.ClaimJoined
import GoSem.ClaimMapViews
import Derived.JoinedTies
import Derived.KernelRfl
namespace Go.Proofs.Ytbbpjjbgdemmpaa
/- THE CELL 'sum', in the pinned program and in every row, IS THE sha256 OF THE DUMP (.gsa) THAT YtbbpjjbgdemmpaaProg.lean LOADS. Nothing in Lean hashes anything: it is a label: what it is worth is what the hold of that sum in a sandbox is worth. -/
noncomputable def Try.pinned : Pinned := { name := "ytbbpjjbgdemmpaa", sum := "0a08a2deadf43e3ca9befcf05c1a2a6896a2c3b69e0e2f009dbdc655e1e87983", checked := Try.checked }
namespace Rows
def none {H : Type} : Left H := { results := [], args := [] }

/-- 'sumplaw30.ClientWays': WHATEVER THE INPUT: true; the input reads as it did. -/
def clientWaysSpec : ChangeSpec := { name := "clientWays", fn := fun _ => fun
  | [d1, d2] => { results := [.lit (.bool true)], args := [d1, d2] }
  | _ => none }
def clientWaysRow : OpenClaim := { program := "ytbbpjjbgdemmpaa", sum := "0a08a2deadf43e3ca9befcf05c1a2a6896a2c3b69e0e2f009dbdc655e1e87983", func := "sump/sumplaw30.ClientWays", spec := "clientWays", apart := false }
def ClientWaysSaid : Prop := clientWaysRow.holds Try.pinned (OpenSpec.ofChange clientWaysSpec)

/-- ITS FALSE NEIGHBOUR: 'it returns false'. Refute it at one input. -/
def clientWaysWrong : ChangeSpec := { name := "clientWays", fn := fun _ => fun
  | [d1, d2] => { results := [.lit (.bool false)], args := [d1, d2] }
  | _ => none }
def ClientWaysWrongFalsely : Prop := clientWaysRow.holds Try.pinned (OpenSpec.ofChange clientWaysWrong)

/-- 'sumplaw25.CallWords': WHATEVER THE INPUT: true; the input reads as it did. -/
def callWordsSpec : ChangeSpec := { name := "callWords", fn := fun _ => fun
  | [d1, d2, d3] => { results := [.lit (.bool true)], args := [d1, d2, d3] }
  | _ => none }
def callWordsRow : OpenClaim := { program := "ytbbpjjbgdemmpaa", sum := "0a08a2deadf43e3ca9befcf05c1a2a6896a2c3b69e0e2f009dbdc655e1e87983", func := "sump/sumplaw25.CallWords", spec := "callWords", apart := false }
def CallWordsSaid : Prop := callWordsRow.holds Try.pinned (OpenSpec.ofChange callWordsSpec)

/-- ITS FALSE NEIGHBOUR: 'it returns false'. Refute it at one input. -/
def callWordsWrong : ChangeSpec := { name := "callWords", fn := fun _ => fun
  | [d1, d2, d3] => { results := [.lit (.bool false)], args := [d1, d2, d3] }
  | _ => none }
def CallWordsWrongFalsely : Prop := callWordsRow.holds Try.pinned (OpenSpec.ofChange callWordsWrong)

/-- 'sumplaw07.CheckSums': WHATEVER THE INPUT: true; the input reads as it did. -/
def checkSumsSpec : ChangeSpec := { name := "checkSums", fn := fun _ => fun
  | [d1, d2, d3] => { results := [.lit (.bool true)], args := [d1, d2, d3] }
  | _ => none }
def checkSumsRow : OpenClaim := { program := "ytbbpjjbgdemmpaa", sum := "0a08a2deadf43e3ca9befcf05c1a2a6896a2c3b69e0e2f009dbdc655e1e87983", func := "sump/sumplaw07.CheckSums", spec := "checkSums", unfollowed := true, recurses := true, apart := false }
def CheckSumsSaid : Prop := checkSumsRow.holds Try.pinned (OpenSpec.ofChange checkSumsSpec)

/-- ITS FALSE NEIGHBOUR: 'it returns false'. Refute it at one input. -/
def checkSumsWrong : ChangeSpec := { name := "checkSums", fn := fun _ => fun
  | [d1, d2, d3] => { results := [.lit (.bool false)], args := [d1, d2, d3] }
  | _ => none }
def CheckSumsWrongFalsely : Prop := checkSumsRow.holds Try.pinned (OpenSpec.ofChange checkSumsWrong)

/-- 'sumplaw07.CheckBack': WHATEVER THE INPUT: true; the input reads as it did. -/
def checkBackSpec : ChangeSpec := { name := "checkBack", fn := fun _ => fun
  | [d1, d2, d3] => { results := [.lit (.bool true)], args := [d1, d2, d3] }
  | _ => none }
def checkBackRow : OpenClaim := { program := "ytbbpjjbgdemmpaa", sum := "0a08a2deadf43e3ca9befcf05c1a2a6896a2c3b69e0e2f009dbdc655e1e87983", func := "sump/sumplaw07.CheckBack", spec := "checkBack", unfollowed := true, recurses := true, apart := false }
def CheckBackSaid : Prop := checkBackRow.holds Try.pinned (OpenSpec.ofChange checkBackSpec)

/-- ITS FALSE NEIGHBOUR: 'it returns false'. Refute it at one input. -/
def checkBackWrong : ChangeSpec := { name := "checkBack", fn := fun _ => fun
  | [d1, d2, d3] => { results := [.lit (.bool false)], args := [d1, d2, d3] }
  | _ => none }
def CheckBackWrongFalsely : Prop := checkBackRow.holds Try.pinned (OpenSpec.ofChange checkBackWrong)

/-- 'sumplaw07.CheckGoesOn': WHATEVER THE INPUT: true; the input reads as it did. -/
def checkGoesOnSpec : ChangeSpec := { name := "checkGoesOn", fn := fun _ => fun
  | [d1, d2] => { results := [.lit (.bool true)], args := [d1, d2] }
  | _ => none }
def checkGoesOnRow : OpenClaim := { program := "ytbbpjjbgdemmpaa", sum := "0a08a2deadf43e3ca9befcf05c1a2a6896a2c3b69e0e2f009dbdc655e1e87983", func := "sump/sumplaw07.CheckGoesOn", spec := "checkGoesOn", unfollowed := true, recurses := true, apart := false }
def CheckGoesOnSaid : Prop := checkGoesOnRow.holds Try.pinned (OpenSpec.ofChange checkGoesOnSpec)

/-- ITS FALSE NEIGHBOUR: 'it returns false'. Refute it at one input. -/
def checkGoesOnWrong : ChangeSpec := { name := "checkGoesOn", fn := fun _ => fun
  | [d1, d2] => { results := [.lit (.bool false)], args := [d1, d2] }
  | _ => none }
def CheckGoesOnWrongFalsely : Prop := checkGoesOnRow.holds Try.pinned (OpenSpec.ofChange checkGoesOnWrong)

/-- 'sumplaw30.ClientCalls': WHATEVER THE INPUT: true; the input reads as it did. -/
def clientCallsSpec : ChangeSpec := { name := "clientCalls", fn := fun _ => fun
  | [d] => { results := [.lit (.bool true)], args := [d] }
  | _ => none }
def clientCallsRow : OpenClaim := { program := "ytbbpjjbgdemmpaa", sum := "0a08a2deadf43e3ca9befcf05c1a2a6896a2c3b69e0e2f009dbdc655e1e87983", func := "sump/sumplaw30.ClientCalls", spec := "clientCalls", apart := false }
def ClientCallsSaid : Prop := clientCallsRow.holds Try.pinned (OpenSpec.ofChange clientCallsSpec)

/-- ITS FALSE NEIGHBOUR: 'it returns false'. Refute it at one input. -/
def clientCallsWrong : ChangeSpec := { name := "clientCalls", fn := fun _ => fun
  | [d] => { results := [.lit (.bool false)], args := [d] }
  | _ => none }
def ClientCallsWrongFalsely : Prop := clientCallsRow.holds Try.pinned (OpenSpec.ofChange clientCallsWrong)

/-- 'sumplaw39.StatSums': WHATEVER THE INPUT: true; the input reads as it did. -/
def statSumsSpec : ChangeSpec := { name := "statSums", fn := fun _ => fun
  | [d] => { results := [.lit (.bool true)], args := [d] }
  | _ => none }
def statSumsRow : OpenClaim := { program := "ytbbpjjbgdemmpaa", sum := "0a08a2deadf43e3ca9befcf05c1a2a6896a2c3b69e0e2f009dbdc655e1e87983", func := "sump/sumplaw39.StatSums", spec := "statSums", apart := false }
def StatSumsSaid : Prop := statSumsRow.holds Try.pinned (OpenSpec.ofChange statSumsSpec)

/-- ITS FALSE NEIGHBOUR: 'it returns false'. Refute it at one input. -/
def statSumsWrong : ChangeSpec := { name := "statSums", fn := fun _ => fun
  | [d] => { results := [.lit (.bool false)], args := [d] }
  | _ => none }
def StatSumsWrongFalsely : Prop := statSumsRow.holds Try.pinned (OpenSpec.ofChange statSumsWrong)

/-- 'sumplaw39.StatEffects': WHATEVER THE INPUT: true; the input reads as it did. -/
def statEffectsSpec : ChangeSpec := { name := "statEffects", fn := fun _ => fun
  | [d1, d2, d3, d4] => { results := [.lit (.bool true)], args := [d1, d2, d3, d4] }
  | _ => none }
def statEffectsRow : OpenClaim := { program := "ytbbpjjbgdemmpaa", sum := "0a08a2deadf43e3ca9befcf05c1a2a6896a2c3b69e0e2f009dbdc655e1e87983", func := "sump/sumplaw39.StatEffects", spec := "statEffects", apart := false }
def StatEffectsSaid : Prop := statEffectsRow.holds Try.pinned (OpenSpec.ofChange statEffectsSpec)

/-- ITS FALSE NEIGHBOUR: 'it returns false'. Refute it at one input. -/
def statEffectsWrong : ChangeSpec := { name := "statEffects", fn := fun _ => fun
  | [d1, d2, d3, d4] => { results := [.lit (.bool false)], args := [d1, d2, d3, d4] }
  | _ => none }
def StatEffectsWrongFalsely : Prop := statEffectsRow.holds Try.pinned (OpenSpec.ofChange statEffectsWrong)

/-- 'sumplaw39.StatOf': WHATEVER THE INPUT: true; the input reads as it did. -/
def statOfSpec : ChangeSpec := { name := "statOf", fn := fun _ => fun
  | [d1, d2] => { results := [.lit (.bool true)], args := [d1, d2] }
  | _ => none }
def statOfRow : OpenClaim := { program := "ytbbpjjbgdemmpaa", sum := "0a08a2deadf43e3ca9befcf05c1a2a6896a2c3b69e0e2f009dbdc655e1e87983", func := "sump/sumplaw39.StatOf", spec := "statOf", apart := false }
def StatOfSaid : Prop := statOfRow.holds Try.pinned (OpenSpec.ofChange statOfSpec)

/-- ITS FALSE NEIGHBOUR: 'it returns false'. Refute it at one input. -/
def statOfWrong : ChangeSpec := { name := "statOf", fn := fun _ => fun
  | [d1, d2] => { results := [.lit (.bool false)], args := [d1, d2] }
  | _ => none }
def StatOfWrongFalsely : Prop := statOfRow.holds Try.pinned (OpenSpec.ofChange statOfWrong)

/-- 'sumplaw25.CallChecks': WHATEVER THE INPUT: true; the input reads as it did. -/
def callChecksSpec : ChangeSpec := { name := "callChecks", fn := fun _ => fun
  | [d1, d2, d3, d4] => { results := [.lit (.bool true)], args := [d1, d2, d3, d4] }
  | _ => none }
def callChecksRow : OpenClaim := { program := "ytbbpjjbgdemmpaa", sum := "0a08a2deadf43e3ca9befcf05c1a2a6896a2c3b69e0e2f009dbdc655e1e87983", func := "sump/sumplaw25.CallChecks", spec := "callChecks", apart := false }
def CallChecksSaid : Prop := callChecksRow.holds Try.pinned (OpenSpec.ofChange callChecksSpec)

/-- ITS FALSE NEIGHBOUR: 'it returns false'. Refute it at one input. -/
def callChecksWrong : ChangeSpec := { name := "callChecks", fn := fun _ => fun
  | [d1, d2, d3, d4] => { results := [.lit (.bool false)], args := [d1, d2, d3, d4] }
  | _ => none }
def CallChecksWrongFalsely : Prop := callChecksRow.holds Try.pinned (OpenSpec.ofChange callChecksWrong)

/- THE SECOND FORM. 'bulk': how many values and letters a reading holds, each counted each time it is reached (what is shared counts as often as it is met; a slice's spare places count too). A statement '..UptoSaid' is the law's where the arguments, and the package variables that the reading takes, are together of bulk at most 1048576: NARROWER than '..Said'. Prove '..Said' where nothing that the law and all that it calls make is longer than what came in: it says more and counts as full. Else prove '..UptoSaid'. A law counts once. -/
mutual
def uptoBulk {H : Type} : DataW H → Nat
  | .lit (.string bytes) => bytes.length + 1
  | .lit _ => 1
  | .nil => 1
  | .ptr d => uptoBulk d + 1
  | .slice elems spare => uptoBulkAll elems + uptoBulkAll spare + 1
  | .agg parts => uptoBulkAll parts + 1
  | .iface _ d => uptoBulk d + 1
  | .map entries => uptoBulkEntries entries + 1
  | .held _ => 1
def uptoBulkAll {H : Type} : List (DataW H) → Nat
  | [] => 0
  | d :: r => uptoBulk d + uptoBulkAll r
def uptoBulkEntries {H : Type} : List (Lit × DataW H) → Nat
  | [] => 0
  | x :: r => uptoBulkEntry x + uptoBulkEntries r
def uptoBulkEntry {H : Type} : Lit × DataW H → Nat
  | (.string bytes, d) => bytes.length + uptoBulk d + 1
  | (_, d) => uptoBulk d + 1
 end
def uptoSmall : (H : Type) → List (DataW H) → Bool := fun _ ds => decide (uptoBulkAll ds ≤ 1048576)
def OpenSpec.upto (s : _root_.Go.ChangeSpec) : _root_.Go.OpenSpec := { _root_.Go.OpenSpec.ofChange s with cond := some uptoSmall }

/-- 'sumplaw30.ClientWays', WHERE WHAT IT READS IS OF BULK AT MOST 1048576: true; the input reads as it did. -/
def clientWaysUptoRow : OpenClaim := { program := "ytbbpjjbgdemmpaa", sum := "0a08a2deadf43e3ca9befcf05c1a2a6896a2c3b69e0e2f009dbdc655e1e87983", func := "sump/sumplaw30.ClientWays", spec := "clientWays", apart := false, narrowed := true }
def ClientWaysUptoSaid : Prop := clientWaysUptoRow.holds Try.pinned (OpenSpec.upto clientWaysSpec)

/-- 'sumplaw25.CallWords', WHERE WHAT IT READS IS OF BULK AT MOST 1048576: true; the input reads as it did. -/
def callWordsUptoRow : OpenClaim := { program := "ytbbpjjbgdemmpaa", sum := "0a08a2deadf43e3ca9befcf05c1a2a6896a2c3b69e0e2f009dbdc655e1e87983", func := "sump/sumplaw25.CallWords", spec := "callWords", apart := false, narrowed := true }
def CallWordsUptoSaid : Prop := callWordsUptoRow.holds Try.pinned (OpenSpec.upto callWordsSpec)

/-- 'sumplaw07.CheckSums', WHERE WHAT IT READS IS OF BULK AT MOST 1048576: true; the input reads as it did. -/
def checkSumsUptoRow : OpenClaim := { program := "ytbbpjjbgdemmpaa", sum := "0a08a2deadf43e3ca9befcf05c1a2a6896a2c3b69e0e2f009dbdc655e1e87983", func := "sump/sumplaw07.CheckSums", spec := "checkSums", unfollowed := true, recurses := true, apart := false, narrowed := true }
def CheckSumsUptoSaid : Prop := checkSumsUptoRow.holds Try.pinned (OpenSpec.upto checkSumsSpec)

/-- 'sumplaw07.CheckBack', WHERE WHAT IT READS IS OF BULK AT MOST 1048576: true; the input reads as it did. -/
def checkBackUptoRow : OpenClaim := { program := "ytbbpjjbgdemmpaa", sum := "0a08a2deadf43e3ca9befcf05c1a2a6896a2c3b69e0e2f009dbdc655e1e87983", func := "sump/sumplaw07.CheckBack", spec := "checkBack", unfollowed := true, recurses := true, apart := false, narrowed := true }
def CheckBackUptoSaid : Prop := checkBackUptoRow.holds Try.pinned (OpenSpec.upto checkBackSpec)

/-- 'sumplaw07.CheckGoesOn', WHERE WHAT IT READS IS OF BULK AT MOST 1048576: true; the input reads as it did. -/
def checkGoesOnUptoRow : OpenClaim := { program := "ytbbpjjbgdemmpaa", sum := "0a08a2deadf43e3ca9befcf05c1a2a6896a2c3b69e0e2f009dbdc655e1e87983", func := "sump/sumplaw07.CheckGoesOn", spec := "checkGoesOn", unfollowed := true, recurses := true, apart := false, narrowed := true }
def CheckGoesOnUptoSaid : Prop := checkGoesOnUptoRow.holds Try.pinned (OpenSpec.upto checkGoesOnSpec)

/-- 'sumplaw30.ClientCalls', WHERE WHAT IT READS IS OF BULK AT MOST 1048576: true; the input reads as it did. -/
def clientCallsUptoRow : OpenClaim := { program := "ytbbpjjbgdemmpaa", sum := "0a08a2deadf43e3ca9befcf05c1a2a6896a2c3b69e0e2f009dbdc655e1e87983", func := "sump/sumplaw30.ClientCalls", spec := "clientCalls", apart := false, narrowed := true }
def ClientCallsUptoSaid : Prop := clientCallsUptoRow.holds Try.pinned (OpenSpec.upto clientCallsSpec)

/-- 'sumplaw39.StatSums', WHERE WHAT IT READS IS OF BULK AT MOST 1048576: true; the input reads as it did. -/
def statSumsUptoRow : OpenClaim := { program := "ytbbpjjbgdemmpaa", sum := "0a08a2deadf43e3ca9befcf05c1a2a6896a2c3b69e0e2f009dbdc655e1e87983", func := "sump/sumplaw39.StatSums", spec := "statSums", apart := false, narrowed := true }
def StatSumsUptoSaid : Prop := statSumsUptoRow.holds Try.pinned (OpenSpec.upto statSumsSpec)

/-- 'sumplaw39.StatEffects', WHERE WHAT IT READS IS OF BULK AT MOST 1048576: true; the input reads as it did. -/
def statEffectsUptoRow : OpenClaim := { program := "ytbbpjjbgdemmpaa", sum := "0a08a2deadf43e3ca9befcf05c1a2a6896a2c3b69e0e2f009dbdc655e1e87983", func := "sump/sumplaw39.StatEffects", spec := "statEffects", apart := false, narrowed := true }
def StatEffectsUptoSaid : Prop := statEffectsUptoRow.holds Try.pinned (OpenSpec.upto statEffectsSpec)

/-- 'sumplaw39.StatOf', WHERE WHAT IT READS IS OF BULK AT MOST 1048576: true; the input reads as it did. -/
def statOfUptoRow : OpenClaim := { program := "ytbbpjjbgdemmpaa", sum := "0a08a2deadf43e3ca9befcf05c1a2a6896a2c3b69e0e2f009dbdc655e1e87983", func := "sump/sumplaw39.StatOf", spec := "statOf", apart := false, narrowed := true }
def StatOfUptoSaid : Prop := statOfUptoRow.holds Try.pinned (OpenSpec.upto statOfSpec)

/-- 'sumplaw25.CallChecks', WHERE WHAT IT READS IS OF BULK AT MOST 1048576: true; the input reads as it did. -/
def callChecksUptoRow : OpenClaim := { program := "ytbbpjjbgdemmpaa", sum := "0a08a2deadf43e3ca9befcf05c1a2a6896a2c3b69e0e2f009dbdc655e1e87983", func := "sump/sumplaw25.CallChecks", spec := "callChecks", apart := false, narrowed := true }
def CallChecksUptoSaid : Prop := callChecksUptoRow.holds Try.pinned (OpenSpec.upto callChecksSpec)

end Rows
end Go.Proofs.Ytbbpjjbgdemmpaa
