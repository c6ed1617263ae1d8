/-
  No cell of these rows narrows 'for every input' (looked for: loops, veiled, ifaces, maps, wideKeys, modest, calm, conditions, laid).
  DERIVED. THE GIVEN ROWS OF THIS SEAT. 5 by the template 'for every input the law returns true; each argument reads behind the call as it read before'; 0 by the template 'total and deterministic' (their statements: YtbdehbaiihlacaaTotals.lean).
  GIVEN WITH THE SEED: the statements are not yours to turn. If you find one false, say at which input.
  Laid BY PROGRAM, IN A SANDBOX (cutbox-rows.mjs): the forced cells as the released guide's own fill.sh prints them over the translation a79e63fbb1b89f77… (all of the seat's roots in one cut). By AI agents, Wed Nov 11 2026. No macro, syntax, notation, axiom, sorry.
-/
import Derived.Test.YtbdehbaiihlacaaChecked
import GoSem.Claim
import GoSem.ClaimJoined
import GoSem.ClaimMapViews
import Derived.JoinedTies
import Derived.KernelRfl
namespace Go.Proofs.Ytbdehbaiihlacaa
/- THE CELL 'sum', in the pinned program and in every row, IS THE sha256 OF THE DUMP (.gsa) THAT YtbdehbaiihlacaaProg.lean LOADS. Nothing in Lean hashes anything: it is a label: what it is worth is what the hold of that sum in a sandbox is worth. -/
noncomputable def Try.pinned : Pinned := { name := "ytbdehbaiihlacaa", sum := "a79e63fbb1b89f77e3dd04c7cd1eb216a7a0d68fdf7db07360c356e82beb2451", checked := Try.checked }
namespace Rows
def none {H : Type} : Left H := { results := [], args := [] }

/-- 'sumplaw42.UsageDoes': WHATEVER THE INPUT: true; the input reads as it did. -/
def usageDoesSpec : ChangeSpec := { name := "usageDoes", fn := fun _ => fun
  | [d1, d2, d3, d4] => { results := [.lit (.bool true)], args := [d1, d2, d3, d4] }
  | _ => none }
def usageDoesRow : OpenClaim := { program := "ytbdehbaiihlacaa", sum := "a79e63fbb1b89f77e3dd04c7cd1eb216a7a0d68fdf7db07360c356e82beb2451", func := "sump/sumplaw42.UsageDoes", spec := "usageDoes", apart := false }
def UsageDoesSaid : Prop := usageDoesRow.holds Try.pinned (OpenSpec.ofChange usageDoesSpec)

/-- ITS FALSE NEIGHBOUR: 'it returns false'. Refute it at one input. -/
def usageDoesWrong : ChangeSpec := { name := "usageDoes", fn := fun _ => fun
  | [d1, d2, d3, d4] => { results := [.lit (.bool false)], args := [d1, d2, d3, d4] }
  | _ => none }
def UsageDoesWrongFalsely : Prop := usageDoesRow.holds Try.pinned (OpenSpec.ofChange usageDoesWrong)

/-- 'sumplaw14.InodeSizes': WHATEVER THE INPUT: true; the input reads as it did. -/
def inodeSizesSpec : ChangeSpec := { name := "inodeSizes", fn := fun _ => fun
  | [d1, d2, d3] => { results := [.lit (.bool true)], args := [d1, d2, d3] }
  | _ => none }
def inodeSizesRow : OpenClaim := { program := "ytbdehbaiihlacaa", sum := "a79e63fbb1b89f77e3dd04c7cd1eb216a7a0d68fdf7db07360c356e82beb2451", func := "sump/sumplaw14.InodeSizes", spec := "inodeSizes", apart := false }
def InodeSizesSaid : Prop := inodeSizesRow.holds Try.pinned (OpenSpec.ofChange inodeSizesSpec)

/-- ITS FALSE NEIGHBOUR: 'it returns false'. Refute it at one input. -/
def inodeSizesWrong : ChangeSpec := { name := "inodeSizes", fn := fun _ => fun
  | [d1, d2, d3] => { results := [.lit (.bool false)], args := [d1, d2, d3] }
  | _ => none }
def InodeSizesWrongFalsely : Prop := inodeSizesRow.holds Try.pinned (OpenSpec.ofChange inodeSizesWrong)

/-- 'sumplaw14.InodePuts': WHATEVER THE INPUT: true; the input reads as it did. -/
def inodePutsSpec : ChangeSpec := { name := "inodePuts", fn := fun _ => fun
  | [d1, d2, d3, d4] => { results := [.lit (.bool true)], args := [d1, d2, d3, d4] }
  | _ => none }
def inodePutsRow : OpenClaim := { program := "ytbdehbaiihlacaa", sum := "a79e63fbb1b89f77e3dd04c7cd1eb216a7a0d68fdf7db07360c356e82beb2451", func := "sump/sumplaw14.InodePuts", spec := "inodePuts", apart := false }
def InodePutsSaid : Prop := inodePutsRow.holds Try.pinned (OpenSpec.ofChange inodePutsSpec)

/-- ITS FALSE NEIGHBOUR: 'it returns false'. Refute it at one input. -/
def inodePutsWrong : ChangeSpec := { name := "inodePuts", fn := fun _ => fun
  | [d1, d2, d3, d4] => { results := [.lit (.bool false)], args := [d1, d2, d3, d4] }
  | _ => none }
def InodePutsWrongFalsely : Prop := inodePutsRow.holds Try.pinned (OpenSpec.ofChange inodePutsWrong)

/-- 'sumplaw14.InodeDoes': WHATEVER THE INPUT: true; the input reads as it did. -/
def inodeDoesSpec : ChangeSpec := { name := "inodeDoes", fn := fun _ => fun
  | [d1, d2, d3, d4, d5, d6] => { results := [.lit (.bool true)], args := [d1, d2, d3, d4, d5, d6] }
  | _ => none }
def inodeDoesRow : OpenClaim := { program := "ytbdehbaiihlacaa", sum := "a79e63fbb1b89f77e3dd04c7cd1eb216a7a0d68fdf7db07360c356e82beb2451", func := "sump/sumplaw14.InodeDoes", spec := "inodeDoes", apart := false }
def InodeDoesSaid : Prop := inodeDoesRow.holds Try.pinned (OpenSpec.ofChange inodeDoesSpec)

/-- ITS FALSE NEIGHBOUR: 'it returns false'. Refute it at one input. -/
def inodeDoesWrong : ChangeSpec := { name := "inodeDoes", fn := fun _ => fun
  | [d1, d2, d3, d4, d5, d6] => { results := [.lit (.bool false)], args := [d1, d2, d3, d4, d5, d6] }
  | _ => none }
def InodeDoesWrongFalsely : Prop := inodeDoesRow.holds Try.pinned (OpenSpec.ofChange inodeDoesWrong)

/-- 'sumplaw42.UsageMost': WHATEVER THE INPUT: true; the input reads as it did. -/
def usageMostSpec : ChangeSpec := { name := "usageMost", fn := fun _ => fun
  | [d1, d2, d3, d4] => { results := [.lit (.bool true)], args := [d1, d2, d3, d4] }
  | _ => none }
def usageMostRow : OpenClaim := { program := "ytbdehbaiihlacaa", sum := "a79e63fbb1b89f77e3dd04c7cd1eb216a7a0d68fdf7db07360c356e82beb2451", func := "sump/sumplaw42.UsageMost", spec := "usageMost", unfollowed := true, recurses := true, apart := false }
def UsageMostSaid : Prop := usageMostRow.holds Try.pinned (OpenSpec.ofChange usageMostSpec)

/-- ITS FALSE NEIGHBOUR: 'it returns false'. Refute it at one input. -/
def usageMostWrong : ChangeSpec := { name := "usageMost", fn := fun _ => fun
  | [d1, d2, d3, d4] => { results := [.lit (.bool false)], args := [d1, d2, d3, d4] }
  | _ => none }
def UsageMostWrongFalsely : Prop := usageMostRow.holds Try.pinned (OpenSpec.ofChange usageMostWrong)

/- THE SECOND FORM. 'bulk': how many values and letters a reading holds, each counted each time it is reached (what is shared counts as often as it is met; a slice's spare places count too). A statement '..UptoSaid' is the law's where the arguments, and the package variables that the reading takes, are together of bulk at most 1048576: NARROWER than '..Said'. Prove '..Said' where nothing that the law and all that it calls make is longer than what came in: it says more and counts as full. Else prove '..UptoSaid'. A law counts once. -/
mutual
def uptoBulk {H : Type} : DataW H → Nat
  | .lit (.string bytes) => bytes.length + 1
  | .lit _ => 1
  | .nil => 1
  | .ptr d => uptoBulk d + 1
  | .slice elems spare => uptoBulkAll elems + uptoBulkAll spare + 1
  | .agg parts => uptoBulkAll parts + 1
  | .iface _ d => uptoBulk d + 1
  | .map entries => uptoBulkEntries entries + 1
  | .held _ => 1
def uptoBulkAll {H : Type} : List (DataW H) → Nat
  | [] => 0
  | d :: r => uptoBulk d + uptoBulkAll r
def uptoBulkEntries {H : Type} : List (Lit × DataW H) → Nat
  | [] => 0
  | x :: r => uptoBulkEntry x + uptoBulkEntries r
def uptoBulkEntry {H : Type} : Lit × DataW H → Nat
  | (.string bytes, d) => bytes.length + uptoBulk d + 1
  | (_, d) => uptoBulk d + 1
 end
def uptoSmall : (H : Type) → List (DataW H) → Bool := fun _ ds => decide (uptoBulkAll ds ≤ 1048576)
def OpenSpec.upto (s : _root_.Go.ChangeSpec) : _root_.Go.OpenSpec := { _root_.Go.OpenSpec.ofChange s with cond := some uptoSmall }

/-- 'sumplaw42.UsageDoes', WHERE WHAT IT READS IS OF BULK AT MOST 1048576: true; the input reads as it did. -/
def usageDoesUptoRow : OpenClaim := { program := "ytbdehbaiihlacaa", sum := "a79e63fbb1b89f77e3dd04c7cd1eb216a7a0d68fdf7db07360c356e82beb2451", func := "sump/sumplaw42.UsageDoes", spec := "usageDoes", apart := false, narrowed := true }
def UsageDoesUptoSaid : Prop := usageDoesUptoRow.holds Try.pinned (OpenSpec.upto usageDoesSpec)

/-- 'sumplaw14.InodeSizes', WHERE WHAT IT READS IS OF BULK AT MOST 1048576: true; the input reads as it did. -/
def inodeSizesUptoRow : OpenClaim := { program := "ytbdehbaiihlacaa", sum := "a79e63fbb1b89f77e3dd04c7cd1eb216a7a0d68fdf7db07360c356e82beb2451", func := "sump/sumplaw14.InodeSizes", spec := "inodeSizes", apart := false, narrowed := true }
def InodeSizesUptoSaid : Prop := inodeSizesUptoRow.holds Try.pinned (OpenSpec.upto inodeSizesSpec)

/-- 'sumplaw14.InodePuts', WHERE WHAT IT READS IS OF BULK AT MOST 1048576: true; the input reads as it did. -/
def inodePutsUptoRow : OpenClaim := { program := "ytbdehbaiihlacaa", sum := "a79e63fbb1b89f77e3dd04c7cd1eb216a7a0d68fdf7db07360c356e82beb2451", func := "sump/sumplaw14.InodePuts", spec := "inodePuts", apart := false, narrowed := true }
def InodePutsUptoSaid : Prop := inodePutsUptoRow.holds Try.pinned (OpenSpec.upto inodePutsSpec)

/-- 'sumplaw14.InodeDoes', WHERE WHAT IT READS IS OF BULK AT MOST 1048576: true; the input reads as it did. -/
def inodeDoesUptoRow : OpenClaim := { program := "ytbdehbaiihlacaa", sum := "a79e63fbb1b89f77e3dd04c7cd1eb216a7a0d68fdf7db07360c356e82beb2451", func := "sump/sumplaw14.InodeDoes", spec := "inodeDoes", apart := false, narrowed := true }
def InodeDoesUptoSaid : Prop := inodeDoesUptoRow.holds Try.pinned (OpenSpec.upto inodeDoesSpec)

/-- 'sumplaw42.UsageMost', WHERE WHAT IT READS IS OF BULK AT MOST 1048576: true; the input reads as it did. -/
def usageMostUptoRow : OpenClaim := { program := "ytbdehbaiihlacaa", sum := "a79e63fbb1b89f77e3dd04c7cd1eb216a7a0d68fdf7db07360c356e82beb2451", func := "sump/sumplaw42.UsageMost", spec := "usageMost", unfollowed := true, recurses := true, apart := false, narrowed := true }
def UsageMostUptoSaid : Prop := usageMostUptoRow.holds Try.pinned (OpenSpec.upto usageMostSpec)

end Rows
end Go.Proofs.Ytbdehbaiihlacaa
