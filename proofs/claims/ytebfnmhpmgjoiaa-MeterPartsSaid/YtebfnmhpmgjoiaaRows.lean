/-
  No cell of these rows narrows 'for every input' (looked for: loops, veiled, ifaces, maps, wideKeys, modest, calm, conditions, laid).
  DERIVED. THE GIVEN ROWS OF THIS SEAT. 7 by the template 'for every input the law returns true; each argument reads behind the call as it read before'; 0 by the template 'total and deterministic' (their statements: YtebfnmhpmgjoiaaTotals.lean).
  GIVEN WITH THE SEED: the statements are not yours to turn. If you find one false, say at which input.
  Laid BY PROGRAM, IN A SANDBOX (cutbox-rows.mjs): the forced cells as the released guide's own fill.sh prints them over the translation 0021638db428a80f… (all of the seat's roots in one cut). By AI agents, Wed Nov 11 2026. No macro, syntax, notation, axiom, sorry.
-/
import Derived.Test.YtebfnmhpmgjoiaaChecked
import GoSem.Claim
import GoSem.ClaimJoined
import GoSem.ClaimMapViews
import Derived.JoinedTies
import Derived.KernelRfl
namespace Go.Proofs.Ytebfnmhpmgjoiaa
/- THE CELL 'sum', in the pinned program and in every row, IS THE sha256 OF THE DUMP (.gsa) THAT YtebfnmhpmgjoiaaProg.lean LOADS. Nothing in Lean hashes anything: it is a label: what it is worth is what the hold of that sum in a sandbox is worth. -/
noncomputable def Try.pinned : Pinned := { name := "ytebfnmhpmgjoiaa", sum := "0021638db428a80ff7737faf3d20a49c0b5094ca9b755a09a4515de47017da1d", checked := Try.checked }
namespace Rows
def none {H : Type} : Left H := { results := [], args := [] }

/-- 'sumplaw01.FloatTotal': WHATEVER THE INPUT: true; the input reads as it did. -/
def floatTotalSpec : ChangeSpec := { name := "floatTotal", fn := fun _ => fun
  | [d1, d2, d3] => { results := [.lit (.bool true)], args := [d1, d2, d3] }
  | _ => none }
def floatTotalRow : OpenClaim := { program := "ytebfnmhpmgjoiaa", sum := "0021638db428a80ff7737faf3d20a49c0b5094ca9b755a09a4515de47017da1d", func := "sump/sumplaw01.FloatTotal", spec := "floatTotal", apart := false }
def FloatTotalSaid : Prop := floatTotalRow.holds Try.pinned (OpenSpec.ofChange floatTotalSpec)

/-- ITS FALSE NEIGHBOUR: 'it returns false'. Refute it at one input. -/
def floatTotalWrong : ChangeSpec := { name := "floatTotal", fn := fun _ => fun
  | [d1, d2, d3] => { results := [.lit (.bool false)], args := [d1, d2, d3] }
  | _ => none }
def FloatTotalWrongFalsely : Prop := floatTotalRow.holds Try.pinned (OpenSpec.ofChange floatTotalWrong)

/-- 'sumplaw01.FloatOrder': WHATEVER THE INPUT: true; the input reads as it did. -/
def floatOrderSpec : ChangeSpec := { name := "floatOrder", fn := fun _ => fun
  | [d1, d2, d3] => { results := [.lit (.bool true)], args := [d1, d2, d3] }
  | _ => none }
def floatOrderRow : OpenClaim := { program := "ytebfnmhpmgjoiaa", sum := "0021638db428a80ff7737faf3d20a49c0b5094ca9b755a09a4515de47017da1d", func := "sump/sumplaw01.FloatOrder", spec := "floatOrder", apart := false }
def FloatOrderSaid : Prop := floatOrderRow.holds Try.pinned (OpenSpec.ofChange floatOrderSpec)

/-- ITS FALSE NEIGHBOUR: 'it returns false'. Refute it at one input. -/
def floatOrderWrong : ChangeSpec := { name := "floatOrder", fn := fun _ => fun
  | [d1, d2, d3] => { results := [.lit (.bool false)], args := [d1, d2, d3] }
  | _ => none }
def FloatOrderWrongFalsely : Prop := floatOrderRow.holds Try.pinned (OpenSpec.ofChange floatOrderWrong)

/-- 'sumplaw01.FloatMid': WHATEVER THE INPUT: true; the input reads as it did. -/
def floatMidSpec : ChangeSpec := { name := "floatMid", fn := fun _ => fun
  | [d1, d2, d3, d4] => { results := [.lit (.bool true)], args := [d1, d2, d3, d4] }
  | _ => none }
def floatMidRow : OpenClaim := { program := "ytebfnmhpmgjoiaa", sum := "0021638db428a80ff7737faf3d20a49c0b5094ca9b755a09a4515de47017da1d", func := "sump/sumplaw01.FloatMid", spec := "floatMid", apart := false }
def FloatMidSaid : Prop := floatMidRow.holds Try.pinned (OpenSpec.ofChange floatMidSpec)

/-- ITS FALSE NEIGHBOUR: 'it returns false'. Refute it at one input. -/
def floatMidWrong : ChangeSpec := { name := "floatMid", fn := fun _ => fun
  | [d1, d2, d3, d4] => { results := [.lit (.bool false)], args := [d1, d2, d3, d4] }
  | _ => none }
def FloatMidWrongFalsely : Prop := floatMidRow.holds Try.pinned (OpenSpec.ofChange floatMidWrong)

/-- 'sumplaw01.FloatSorts': WHATEVER THE INPUT: true; the input reads as it did. -/
def floatSortsSpec : ChangeSpec := { name := "floatSorts", fn := fun _ => fun
  | [d] => { results := [.lit (.bool true)], args := [d] }
  | _ => none }
def floatSortsRow : OpenClaim := { program := "ytebfnmhpmgjoiaa", sum := "0021638db428a80ff7737faf3d20a49c0b5094ca9b755a09a4515de47017da1d", func := "sump/sumplaw01.FloatSorts", spec := "floatSorts", unfollowed := true, recurses := true, apart := false }
def FloatSortsSaid : Prop := floatSortsRow.holds Try.pinned (OpenSpec.ofChange floatSortsSpec)

/-- ITS FALSE NEIGHBOUR: 'it returns false'. Refute it at one input. -/
def floatSortsWrong : ChangeSpec := { name := "floatSorts", fn := fun _ => fun
  | [d] => { results := [.lit (.bool false)], args := [d] }
  | _ => none }
def FloatSortsWrongFalsely : Prop := floatSortsRow.holds Try.pinned (OpenSpec.ofChange floatSortsWrong)

/-- 'sumplaw03.MeterRises': WHATEVER THE INPUT: true; the input reads as it did. -/
def meterRisesSpec : ChangeSpec := { name := "meterRises", fn := fun _ => fun
  | [d1, d2, d3, d4, d5, d6] => { results := [.lit (.bool true)], args := [d1, d2, d3, d4, d5, d6] }
  | _ => none }
def meterRisesRow : OpenClaim := { program := "ytebfnmhpmgjoiaa", sum := "0021638db428a80ff7737faf3d20a49c0b5094ca9b755a09a4515de47017da1d", func := "sump/sumplaw03.MeterRises", spec := "meterRises", unfollowed := true, recurses := true, apart := false }
def MeterRisesSaid : Prop := meterRisesRow.holds Try.pinned (OpenSpec.ofChange meterRisesSpec)

/-- ITS FALSE NEIGHBOUR: 'it returns false'. Refute it at one input. -/
def meterRisesWrong : ChangeSpec := { name := "meterRises", fn := fun _ => fun
  | [d1, d2, d3, d4, d5, d6] => { results := [.lit (.bool false)], args := [d1, d2, d3, d4, d5, d6] }
  | _ => none }
def MeterRisesWrongFalsely : Prop := meterRisesRow.holds Try.pinned (OpenSpec.ofChange meterRisesWrong)

/-- 'sumplaw03.MeterBoxes': WHATEVER THE INPUT: true; the input reads as it did. -/
def meterBoxesSpec : ChangeSpec := { name := "meterBoxes", fn := fun _ => fun
  | [d1, d2, d3] => { results := [.lit (.bool true)], args := [d1, d2, d3] }
  | _ => none }
def meterBoxesRow : OpenClaim := { program := "ytebfnmhpmgjoiaa", sum := "0021638db428a80ff7737faf3d20a49c0b5094ca9b755a09a4515de47017da1d", func := "sump/sumplaw03.MeterBoxes", spec := "meterBoxes", unfollowed := true, recurses := true, apart := false }
def MeterBoxesSaid : Prop := meterBoxesRow.holds Try.pinned (OpenSpec.ofChange meterBoxesSpec)

/-- ITS FALSE NEIGHBOUR: 'it returns false'. Refute it at one input. -/
def meterBoxesWrong : ChangeSpec := { name := "meterBoxes", fn := fun _ => fun
  | [d1, d2, d3] => { results := [.lit (.bool false)], args := [d1, d2, d3] }
  | _ => none }
def MeterBoxesWrongFalsely : Prop := meterBoxesRow.holds Try.pinned (OpenSpec.ofChange meterBoxesWrong)

/-- 'sumplaw03.MeterParts': WHATEVER THE INPUT: true; the input reads as it did. -/
def meterPartsSpec : ChangeSpec := { name := "meterParts", fn := fun _ => fun
  | [d1, d2, d3] => { results := [.lit (.bool true)], args := [d1, d2, d3] }
  | _ => none }
def meterPartsRow : OpenClaim := { program := "ytebfnmhpmgjoiaa", sum := "0021638db428a80ff7737faf3d20a49c0b5094ca9b755a09a4515de47017da1d", func := "sump/sumplaw03.MeterParts", spec := "meterParts", unfollowed := true, recurses := true, apart := false }
def MeterPartsSaid : Prop := meterPartsRow.holds Try.pinned (OpenSpec.ofChange meterPartsSpec)

/-- ITS FALSE NEIGHBOUR: 'it returns false'. Refute it at one input. -/
def meterPartsWrong : ChangeSpec := { name := "meterParts", fn := fun _ => fun
  | [d1, d2, d3] => { results := [.lit (.bool false)], args := [d1, d2, d3] }
  | _ => none }
def MeterPartsWrongFalsely : Prop := meterPartsRow.holds Try.pinned (OpenSpec.ofChange meterPartsWrong)

/- THE SECOND FORM. 'bulk': how many values and letters a reading holds, each counted each time it is reached (what is shared counts as often as it is met; a slice's spare places count too). A statement '..UptoSaid' is the law's where the arguments, and the package variables that the reading takes, are together of bulk at most 1048576: NARROWER than '..Said'. Prove '..Said' where nothing that the law and all that it calls make is longer than what came in: it says more and counts as full. Else prove '..UptoSaid'. A law counts once. -/
mutual
def uptoBulk {H : Type} : DataW H → Nat
  | .lit (.string bytes) => bytes.length + 1
  | .lit _ => 1
  | .nil => 1
  | .ptr d => uptoBulk d + 1
  | .slice elems spare => uptoBulkAll elems + uptoBulkAll spare + 1
  | .agg parts => uptoBulkAll parts + 1
  | .iface _ d => uptoBulk d + 1
  | .map entries => uptoBulkEntries entries + 1
  | .held _ => 1
def uptoBulkAll {H : Type} : List (DataW H) → Nat
  | [] => 0
  | d :: r => uptoBulk d + uptoBulkAll r
def uptoBulkEntries {H : Type} : List (Lit × DataW H) → Nat
  | [] => 0
  | x :: r => uptoBulkEntry x + uptoBulkEntries r
def uptoBulkEntry {H : Type} : Lit × DataW H → Nat
  | (.string bytes, d) => bytes.length + uptoBulk d + 1
  | (_, d) => uptoBulk d + 1
 end
def uptoSmall : (H : Type) → List (DataW H) → Bool := fun _ ds => decide (uptoBulkAll ds ≤ 1048576)
def OpenSpec.upto (s : _root_.Go.ChangeSpec) : _root_.Go.OpenSpec := { _root_.Go.OpenSpec.ofChange s with cond := some uptoSmall }

/-- 'sumplaw01.FloatTotal', WHERE WHAT IT READS IS OF BULK AT MOST 1048576: true; the input reads as it did. -/
def floatTotalUptoRow : OpenClaim := { program := "ytebfnmhpmgjoiaa", sum := "0021638db428a80ff7737faf3d20a49c0b5094ca9b755a09a4515de47017da1d", func := "sump/sumplaw01.FloatTotal", spec := "floatTotal", apart := false, narrowed := true }
def FloatTotalUptoSaid : Prop := floatTotalUptoRow.holds Try.pinned (OpenSpec.upto floatTotalSpec)

/-- 'sumplaw01.FloatOrder', WHERE WHAT IT READS IS OF BULK AT MOST 1048576: true; the input reads as it did. -/
def floatOrderUptoRow : OpenClaim := { program := "ytebfnmhpmgjoiaa", sum := "0021638db428a80ff7737faf3d20a49c0b5094ca9b755a09a4515de47017da1d", func := "sump/sumplaw01.FloatOrder", spec := "floatOrder", apart := false, narrowed := true }
def FloatOrderUptoSaid : Prop := floatOrderUptoRow.holds Try.pinned (OpenSpec.upto floatOrderSpec)

/-- 'sumplaw01.FloatMid', WHERE WHAT IT READS IS OF BULK AT MOST 1048576: true; the input reads as it did. -/
def floatMidUptoRow : OpenClaim := { program := "ytebfnmhpmgjoiaa", sum := "0021638db428a80ff7737faf3d20a49c0b5094ca9b755a09a4515de47017da1d", func := "sump/sumplaw01.FloatMid", spec := "floatMid", apart := false, narrowed := true }
def FloatMidUptoSaid : Prop := floatMidUptoRow.holds Try.pinned (OpenSpec.upto floatMidSpec)

/-- 'sumplaw01.FloatSorts', WHERE WHAT IT READS IS OF BULK AT MOST 1048576: true; the input reads as it did. -/
def floatSortsUptoRow : OpenClaim := { program := "ytebfnmhpmgjoiaa", sum := "0021638db428a80ff7737faf3d20a49c0b5094ca9b755a09a4515de47017da1d", func := "sump/sumplaw01.FloatSorts", spec := "floatSorts", unfollowed := true, recurses := true, apart := false, narrowed := true }
def FloatSortsUptoSaid : Prop := floatSortsUptoRow.holds Try.pinned (OpenSpec.upto floatSortsSpec)

/-- 'sumplaw03.MeterRises', WHERE WHAT IT READS IS OF BULK AT MOST 1048576: true; the input reads as it did. -/
def meterRisesUptoRow : OpenClaim := { program := "ytebfnmhpmgjoiaa", sum := "0021638db428a80ff7737faf3d20a49c0b5094ca9b755a09a4515de47017da1d", func := "sump/sumplaw03.MeterRises", spec := "meterRises", unfollowed := true, recurses := true, apart := false, narrowed := true }
def MeterRisesUptoSaid : Prop := meterRisesUptoRow.holds Try.pinned (OpenSpec.upto meterRisesSpec)

/-- 'sumplaw03.MeterBoxes', WHERE WHAT IT READS IS OF BULK AT MOST 1048576: true; the input reads as it did. -/
def meterBoxesUptoRow : OpenClaim := { program := "ytebfnmhpmgjoiaa", sum := "0021638db428a80ff7737faf3d20a49c0b5094ca9b755a09a4515de47017da1d", func := "sump/sumplaw03.MeterBoxes", spec := "meterBoxes", unfollowed := true, recurses := true, apart := false, narrowed := true }
def MeterBoxesUptoSaid : Prop := meterBoxesUptoRow.holds Try.pinned (OpenSpec.upto meterBoxesSpec)

/-- 'sumplaw03.MeterParts', WHERE WHAT IT READS IS OF BULK AT MOST 1048576: true; the input reads as it did. -/
def meterPartsUptoRow : OpenClaim := { program := "ytebfnmhpmgjoiaa", sum := "0021638db428a80ff7737faf3d20a49c0b5094ca9b755a09a4515de47017da1d", func := "sump/sumplaw03.MeterParts", spec := "meterParts", unfollowed := true, recurses := true, apart := false, narrowed := true }
def MeterPartsUptoSaid : Prop := meterPartsUptoRow.holds Try.pinned (OpenSpec.upto meterPartsSpec)

end Rows
end Go.Proofs.Ytebfnmhpmgjoiaa
