/-
  No cell of these rows narrows 'for every input' (looked for: loops, veiled, ifaces, maps, wideKeys, modest, calm, conditions, laid).
  DERIVED. THE GIVEN ROWS OF THIS SEAT. 9 by the template 'for every input the law returns true; each argument reads behind the call as it read before'; 0 by the template 'total and deterministic' (their statements: YteoklaofbdfjlaaTotals.lean).
  GIVEN WITH THE SEED: the statements are not yours to turn. If you find one false, say at which input.
  Laid BY PROGRAM, IN A SANDBOX (cutbox-rows.mjs): the forced cells as the released guide's own fill.sh prints them over the translation ac77612e3155ea8f… (all of the seat's roots in one cut). By AI agents, Wed Nov 11 2026. No macro, syntax, notation, axiom, sorry.
-/
import Derived.Test.YteoklaofbdfjlaaChecked
import GoSem.Claim
import GoSem.ClaimJoined
import GoSem.ClaimMapViews
import Derived.JoinedTies
import Derived.KernelRfl
namespace Go.Proofs.Yteoklaofbdfjlaa
/- THE CELL 'sum', in the pinned program and in every row, IS THE sha256 OF THE DUMP (.gsa) THAT YteoklaofbdfjlaaProg.lean LOADS. Nothing in Lean hashes anything: it is a label: what it is worth is what the hold of that sum in a sandbox is worth. -/
noncomputable def Try.pinned : Pinned := { name := "yteoklaofbdfjlaa", sum := "ac77612e3155ea8f6f29d0a07beb35bebd8056fdd3eeea5cd01474f50a066867", checked := Try.checked }
namespace Rows
def none {H : Type} : Left H := { results := [], args := [] }

/-- 'sumplaw09.EffectChecks': WHATEVER THE INPUT: true; the input reads as it did. -/
def effectChecksSpec : ChangeSpec := { name := "effectChecks", fn := fun _ => fun
  | [d1, d2, d3] => { results := [.lit (.bool true)], args := [d1, d2, d3] }
  | _ => none }
def effectChecksRow : OpenClaim := { program := "yteoklaofbdfjlaa", sum := "ac77612e3155ea8f6f29d0a07beb35bebd8056fdd3eeea5cd01474f50a066867", func := "sump/sumplaw09.EffectChecks", spec := "effectChecks", inPlace := ["internal/bytealg.IndexByteString", "internal/bytealg.IndexString"], named := ["internal/bytealg.MaxLen"], apart := false }
def EffectChecksSaid : Prop := effectChecksRow.holds Try.pinned (OpenSpec.ofChange effectChecksSpec)

/-- ITS FALSE NEIGHBOUR: 'it returns false'. Refute it at one input. -/
def effectChecksWrong : ChangeSpec := { name := "effectChecks", fn := fun _ => fun
  | [d1, d2, d3] => { results := [.lit (.bool false)], args := [d1, d2, d3] }
  | _ => none }
def EffectChecksWrongFalsely : Prop := effectChecksRow.holds Try.pinned (OpenSpec.ofChange effectChecksWrong)

/-- 'sumplaw09.EffectTouches': WHATEVER THE INPUT: true; the input reads as it did. -/
def effectTouchesSpec : ChangeSpec := { name := "effectTouches", fn := fun _ => fun
  | [d1, d2] => { results := [.lit (.bool true)], args := [d1, d2] }
  | _ => none }
def effectTouchesRow : OpenClaim := { program := "yteoklaofbdfjlaa", sum := "ac77612e3155ea8f6f29d0a07beb35bebd8056fdd3eeea5cd01474f50a066867", func := "sump/sumplaw09.EffectTouches", spec := "effectTouches", inPlace := ["internal/bytealg.IndexByteString", "internal/bytealg.IndexString"], named := ["internal/bytealg.MaxLen"], apart := false }
def EffectTouchesSaid : Prop := effectTouchesRow.holds Try.pinned (OpenSpec.ofChange effectTouchesSpec)

/-- ITS FALSE NEIGHBOUR: 'it returns false'. Refute it at one input. -/
def effectTouchesWrong : ChangeSpec := { name := "effectTouches", fn := fun _ => fun
  | [d1, d2] => { results := [.lit (.bool false)], args := [d1, d2] }
  | _ => none }
def EffectTouchesWrongFalsely : Prop := effectTouchesRow.holds Try.pinned (OpenSpec.ofChange effectTouchesWrong)

/-- 'sumplaw09.EffectShapes': WHATEVER THE INPUT: true; the input reads as it did. -/
def effectShapesSpec : ChangeSpec := { name := "effectShapes", fn := fun _ => fun
  | [d1, d2] => { results := [.lit (.bool true)], args := [d1, d2] }
  | _ => none }
def effectShapesRow : OpenClaim := { program := "yteoklaofbdfjlaa", sum := "ac77612e3155ea8f6f29d0a07beb35bebd8056fdd3eeea5cd01474f50a066867", func := "sump/sumplaw09.EffectShapes", spec := "effectShapes", inPlace := ["internal/bytealg.IndexByteString", "internal/bytealg.IndexString"], named := ["internal/bytealg.MaxLen"], apart := false }
def EffectShapesSaid : Prop := effectShapesRow.holds Try.pinned (OpenSpec.ofChange effectShapesSpec)

/-- ITS FALSE NEIGHBOUR: 'it returns false'. Refute it at one input. -/
def effectShapesWrong : ChangeSpec := { name := "effectShapes", fn := fun _ => fun
  | [d1, d2] => { results := [.lit (.bool false)], args := [d1, d2] }
  | _ => none }
def EffectShapesWrongFalsely : Prop := effectShapesRow.holds Try.pinned (OpenSpec.ofChange effectShapesWrong)

/-- 'sumplaw15.DirsStay': WHATEVER THE INPUT: true; the input reads as it did. -/
def dirsStaySpec : ChangeSpec := { name := "dirsStay", fn := fun _ => fun
  | [d1, d2, d3] => { results := [.lit (.bool true)], args := [d1, d2, d3] }
  | _ => none }
def dirsStayRow : OpenClaim := { program := "yteoklaofbdfjlaa", sum := "ac77612e3155ea8f6f29d0a07beb35bebd8056fdd3eeea5cd01474f50a066867", func := "sump/sumplaw15.DirsStay", spec := "dirsStay", inPlace := ["slices.overlaps[sump/api.Entry]", "internal/bytealg.IndexByteString", "internal/bytealg.IndexString"], unfollowed := true, recurses := true, named := ["internal/bytealg.MaxLen"], apart := false }
def DirsStaySaid : Prop := dirsStayRow.holds Try.pinned (OpenSpec.ofChange dirsStaySpec)

/-- ITS FALSE NEIGHBOUR: 'it returns false'. Refute it at one input. -/
def dirsStayWrong : ChangeSpec := { name := "dirsStay", fn := fun _ => fun
  | [d1, d2, d3] => { results := [.lit (.bool false)], args := [d1, d2, d3] }
  | _ => none }
def DirsStayWrongFalsely : Prop := dirsStayRow.holds Try.pinned (OpenSpec.ofChange dirsStayWrong)

/-- 'sumplaw15.DirsFinds': WHATEVER THE INPUT: true; the input reads as it did. -/
def dirsFindsSpec : ChangeSpec := { name := "dirsFinds", fn := fun _ => fun
  | [d1, d2] => { results := [.lit (.bool true)], args := [d1, d2] }
  | _ => none }
def dirsFindsRow : OpenClaim := { program := "yteoklaofbdfjlaa", sum := "ac77612e3155ea8f6f29d0a07beb35bebd8056fdd3eeea5cd01474f50a066867", func := "sump/sumplaw15.DirsFinds", spec := "dirsFinds", inPlace := ["slices.overlaps[sump/api.Entry]", "internal/bytealg.IndexByteString", "internal/bytealg.IndexString"], unfollowed := true, recurses := true, named := ["internal/bytealg.MaxLen"], apart := false }
def DirsFindsSaid : Prop := dirsFindsRow.holds Try.pinned (OpenSpec.ofChange dirsFindsSpec)

/-- ITS FALSE NEIGHBOUR: 'it returns false'. Refute it at one input. -/
def dirsFindsWrong : ChangeSpec := { name := "dirsFinds", fn := fun _ => fun
  | [d1, d2] => { results := [.lit (.bool false)], args := [d1, d2] }
  | _ => none }
def DirsFindsWrongFalsely : Prop := dirsFindsRow.holds Try.pinned (OpenSpec.ofChange dirsFindsWrong)

/-- 'sumplaw15.DirsDoes': WHATEVER THE INPUT: true; the input reads as it did. -/
def dirsDoesSpec : ChangeSpec := { name := "dirsDoes", fn := fun _ => fun
  | [d1, d2, d3] => { results := [.lit (.bool true)], args := [d1, d2, d3] }
  | _ => none }
def dirsDoesRow : OpenClaim := { program := "yteoklaofbdfjlaa", sum := "ac77612e3155ea8f6f29d0a07beb35bebd8056fdd3eeea5cd01474f50a066867", func := "sump/sumplaw15.DirsDoes", spec := "dirsDoes", inPlace := ["slices.overlaps[sump/api.Entry]", "internal/bytealg.IndexByteString", "internal/bytealg.IndexString"], unfollowed := true, recurses := true, named := ["internal/bytealg.MaxLen"], apart := false }
def DirsDoesSaid : Prop := dirsDoesRow.holds Try.pinned (OpenSpec.ofChange dirsDoesSpec)

/-- ITS FALSE NEIGHBOUR: 'it returns false'. Refute it at one input. -/
def dirsDoesWrong : ChangeSpec := { name := "dirsDoes", fn := fun _ => fun
  | [d1, d2, d3] => { results := [.lit (.bool false)], args := [d1, d2, d3] }
  | _ => none }
def DirsDoesWrongFalsely : Prop := dirsDoesRow.holds Try.pinned (OpenSpec.ofChange dirsDoesWrong)

/-- 'sumplaw10.RecordApart': WHATEVER THE INPUT: true; the input reads as it did. -/
def recordApartSpec : ChangeSpec := { name := "recordApart", fn := fun _ => fun
  | [d1, d2, d3, d4] => { results := [.lit (.bool true)], args := [d1, d2, d3, d4] }
  | _ => none }
def recordApartRow : OpenClaim := { program := "yteoklaofbdfjlaa", sum := "ac77612e3155ea8f6f29d0a07beb35bebd8056fdd3eeea5cd01474f50a066867", func := "sump/sumplaw10.RecordApart", spec := "recordApart", inPlace := ["internal/bytealg.IndexByteString", "internal/bytealg.IndexString"], unfollowed := true, recurses := true, named := ["internal/bytealg.MaxLen"], apart := false }
def RecordApartSaid : Prop := recordApartRow.holds Try.pinned (OpenSpec.ofChange recordApartSpec)

/-- ITS FALSE NEIGHBOUR: 'it returns false'. Refute it at one input. -/
def recordApartWrong : ChangeSpec := { name := "recordApart", fn := fun _ => fun
  | [d1, d2, d3, d4] => { results := [.lit (.bool false)], args := [d1, d2, d3, d4] }
  | _ => none }
def RecordApartWrongFalsely : Prop := recordApartRow.holds Try.pinned (OpenSpec.ofChange recordApartWrong)

/-- 'sumplaw10.RecordDoes': WHATEVER THE INPUT: true; the input reads as it did. -/
def recordDoesSpec : ChangeSpec := { name := "recordDoes", fn := fun _ => fun
  | [d1, d2, d3] => { results := [.lit (.bool true)], args := [d1, d2, d3] }
  | _ => none }
def recordDoesRow : OpenClaim := { program := "yteoklaofbdfjlaa", sum := "ac77612e3155ea8f6f29d0a07beb35bebd8056fdd3eeea5cd01474f50a066867", func := "sump/sumplaw10.RecordDoes", spec := "recordDoes", inPlace := ["internal/bytealg.IndexByteString", "internal/bytealg.IndexString"], unfollowed := true, recurses := true, named := ["internal/bytealg.MaxLen"], apart := false }
def RecordDoesSaid : Prop := recordDoesRow.holds Try.pinned (OpenSpec.ofChange recordDoesSpec)

/-- ITS FALSE NEIGHBOUR: 'it returns false'. Refute it at one input. -/
def recordDoesWrong : ChangeSpec := { name := "recordDoes", fn := fun _ => fun
  | [d1, d2, d3] => { results := [.lit (.bool false)], args := [d1, d2, d3] }
  | _ => none }
def RecordDoesWrongFalsely : Prop := recordDoesRow.holds Try.pinned (OpenSpec.ofChange recordDoesWrong)

/-- 'sumplaw10.RecordBack': WHATEVER THE INPUT: true; the input reads as it did. -/
def recordBackSpec : ChangeSpec := { name := "recordBack", fn := fun _ => fun
  | [d1, d2, d3] => { results := [.lit (.bool true)], args := [d1, d2, d3] }
  | _ => none }
def recordBackRow : OpenClaim := { program := "yteoklaofbdfjlaa", sum := "ac77612e3155ea8f6f29d0a07beb35bebd8056fdd3eeea5cd01474f50a066867", func := "sump/sumplaw10.RecordBack", spec := "recordBack", inPlace := ["internal/bytealg.IndexByteString", "internal/bytealg.IndexString"], unfollowed := true, recurses := true, named := ["internal/bytealg.MaxLen"], apart := false }
def RecordBackSaid : Prop := recordBackRow.holds Try.pinned (OpenSpec.ofChange recordBackSpec)

/-- ITS FALSE NEIGHBOUR: 'it returns false'. Refute it at one input. -/
def recordBackWrong : ChangeSpec := { name := "recordBack", fn := fun _ => fun
  | [d1, d2, d3] => { results := [.lit (.bool false)], args := [d1, d2, d3] }
  | _ => none }
def RecordBackWrongFalsely : Prop := recordBackRow.holds Try.pinned (OpenSpec.ofChange recordBackWrong)

/- THE SECOND FORM. 'bulk': how many values and letters a reading holds, each counted each time it is reached (what is shared counts as often as it is met; a slice's spare places count too). A statement '..UptoSaid' is the law's where the arguments, and the package variables that the reading takes, are together of bulk at most 1048576: NARROWER than '..Said'. Prove '..Said' where nothing that the law and all that it calls make is longer than what came in: it says more and counts as full. Else prove '..UptoSaid'. A law counts once. -/
mutual
def uptoBulk {H : Type} : DataW H → Nat
  | .lit (.string bytes) => bytes.length + 1
  | .lit _ => 1
  | .nil => 1
  | .ptr d => uptoBulk d + 1
  | .slice elems spare => uptoBulkAll elems + uptoBulkAll spare + 1
  | .agg parts => uptoBulkAll parts + 1
  | .iface _ d => uptoBulk d + 1
  | .map entries => uptoBulkEntries entries + 1
  | .held _ => 1
def uptoBulkAll {H : Type} : List (DataW H) → Nat
  | [] => 0
  | d :: r => uptoBulk d + uptoBulkAll r
def uptoBulkEntries {H : Type} : List (Lit × DataW H) → Nat
  | [] => 0
  | x :: r => uptoBulkEntry x + uptoBulkEntries r
def uptoBulkEntry {H : Type} : Lit × DataW H → Nat
  | (.string bytes, d) => bytes.length + uptoBulk d + 1
  | (_, d) => uptoBulk d + 1
 end
def uptoSmall : (H : Type) → List (DataW H) → Bool := fun _ ds => decide (uptoBulkAll ds ≤ 1048576)
def OpenSpec.upto (s : _root_.Go.ChangeSpec) : _root_.Go.OpenSpec := { _root_.Go.OpenSpec.ofChange s with cond := some uptoSmall }

/-- 'sumplaw09.EffectChecks', WHERE WHAT IT READS IS OF BULK AT MOST 1048576: true; the input reads as it did. -/
def effectChecksUptoRow : OpenClaim := { program := "yteoklaofbdfjlaa", sum := "ac77612e3155ea8f6f29d0a07beb35bebd8056fdd3eeea5cd01474f50a066867", func := "sump/sumplaw09.EffectChecks", spec := "effectChecks", inPlace := ["internal/bytealg.IndexByteString", "internal/bytealg.IndexString"], named := ["internal/bytealg.MaxLen"], apart := false, narrowed := true }
def EffectChecksUptoSaid : Prop := effectChecksUptoRow.holds Try.pinned (OpenSpec.upto effectChecksSpec)

/-- 'sumplaw09.EffectTouches', WHERE WHAT IT READS IS OF BULK AT MOST 1048576: true; the input reads as it did. -/
def effectTouchesUptoRow : OpenClaim := { program := "yteoklaofbdfjlaa", sum := "ac77612e3155ea8f6f29d0a07beb35bebd8056fdd3eeea5cd01474f50a066867", func := "sump/sumplaw09.EffectTouches", spec := "effectTouches", inPlace := ["internal/bytealg.IndexByteString", "internal/bytealg.IndexString"], named := ["internal/bytealg.MaxLen"], apart := false, narrowed := true }
def EffectTouchesUptoSaid : Prop := effectTouchesUptoRow.holds Try.pinned (OpenSpec.upto effectTouchesSpec)

/-- 'sumplaw09.EffectShapes', WHERE WHAT IT READS IS OF BULK AT MOST 1048576: true; the input reads as it did. -/
def effectShapesUptoRow : OpenClaim := { program := "yteoklaofbdfjlaa", sum := "ac77612e3155ea8f6f29d0a07beb35bebd8056fdd3eeea5cd01474f50a066867", func := "sump/sumplaw09.EffectShapes", spec := "effectShapes", inPlace := ["internal/bytealg.IndexByteString", "internal/bytealg.IndexString"], named := ["internal/bytealg.MaxLen"], apart := false, narrowed := true }
def EffectShapesUptoSaid : Prop := effectShapesUptoRow.holds Try.pinned (OpenSpec.upto effectShapesSpec)

/-- 'sumplaw15.DirsStay', WHERE WHAT IT READS IS OF BULK AT MOST 1048576: true; the input reads as it did. -/
def dirsStayUptoRow : OpenClaim := { program := "yteoklaofbdfjlaa", sum := "ac77612e3155ea8f6f29d0a07beb35bebd8056fdd3eeea5cd01474f50a066867", func := "sump/sumplaw15.DirsStay", spec := "dirsStay", inPlace := ["slices.overlaps[sump/api.Entry]", "internal/bytealg.IndexByteString", "internal/bytealg.IndexString"], unfollowed := true, recurses := true, named := ["internal/bytealg.MaxLen"], apart := false, narrowed := true }
def DirsStayUptoSaid : Prop := dirsStayUptoRow.holds Try.pinned (OpenSpec.upto dirsStaySpec)

/-- 'sumplaw15.DirsFinds', WHERE WHAT IT READS IS OF BULK AT MOST 1048576: true; the input reads as it did. -/
def dirsFindsUptoRow : OpenClaim := { program := "yteoklaofbdfjlaa", sum := "ac77612e3155ea8f6f29d0a07beb35bebd8056fdd3eeea5cd01474f50a066867", func := "sump/sumplaw15.DirsFinds", spec := "dirsFinds", inPlace := ["slices.overlaps[sump/api.Entry]", "internal/bytealg.IndexByteString", "internal/bytealg.IndexString"], unfollowed := true, recurses := true, named := ["internal/bytealg.MaxLen"], apart := false, narrowed := true }
def DirsFindsUptoSaid : Prop := dirsFindsUptoRow.holds Try.pinned (OpenSpec.upto dirsFindsSpec)

/-- 'sumplaw15.DirsDoes', WHERE WHAT IT READS IS OF BULK AT MOST 1048576: true; the input reads as it did. -/
def dirsDoesUptoRow : OpenClaim := { program := "yteoklaofbdfjlaa", sum := "ac77612e3155ea8f6f29d0a07beb35bebd8056fdd3eeea5cd01474f50a066867", func := "sump/sumplaw15.DirsDoes", spec := "dirsDoes", inPlace := ["slices.overlaps[sump/api.Entry]", "internal/bytealg.IndexByteString", "internal/bytealg.IndexString"], unfollowed := true, recurses := true, named := ["internal/bytealg.MaxLen"], apart := false, narrowed := true }
def DirsDoesUptoSaid : Prop := dirsDoesUptoRow.holds Try.pinned (OpenSpec.upto dirsDoesSpec)

/-- 'sumplaw10.RecordApart', WHERE WHAT IT READS IS OF BULK AT MOST 1048576: true; the input reads as it did. -/
def recordApartUptoRow : OpenClaim := { program := "yteoklaofbdfjlaa", sum := "ac77612e3155ea8f6f29d0a07beb35bebd8056fdd3eeea5cd01474f50a066867", func := "sump/sumplaw10.RecordApart", spec := "recordApart", inPlace := ["internal/bytealg.IndexByteString", "internal/bytealg.IndexString"], unfollowed := true, recurses := true, named := ["internal/bytealg.MaxLen"], apart := false, narrowed := true }
def RecordApartUptoSaid : Prop := recordApartUptoRow.holds Try.pinned (OpenSpec.upto recordApartSpec)

/-- 'sumplaw10.RecordDoes', WHERE WHAT IT READS IS OF BULK AT MOST 1048576: true; the input reads as it did. -/
def recordDoesUptoRow : OpenClaim := { program := "yteoklaofbdfjlaa", sum := "ac77612e3155ea8f6f29d0a07beb35bebd8056fdd3eeea5cd01474f50a066867", func := "sump/sumplaw10.RecordDoes", spec := "recordDoes", inPlace := ["internal/bytealg.IndexByteString", "internal/bytealg.IndexString"], unfollowed := true, recurses := true, named := ["internal/bytealg.MaxLen"], apart := false, narrowed := true }
def RecordDoesUptoSaid : Prop := recordDoesUptoRow.holds Try.pinned (OpenSpec.upto recordDoesSpec)

/-- 'sumplaw10.RecordBack', WHERE WHAT IT READS IS OF BULK AT MOST 1048576: true; the input reads as it did. -/
def recordBackUptoRow : OpenClaim := { program := "yteoklaofbdfjlaa", sum := "ac77612e3155ea8f6f29d0a07beb35bebd8056fdd3eeea5cd01474f50a066867", func := "sump/sumplaw10.RecordBack", spec := "recordBack", inPlace := ["internal/bytealg.IndexByteString", "internal/bytealg.IndexString"], unfollowed := true, recurses := true, named := ["internal/bytealg.MaxLen"], apart := false, narrowed := true }
def RecordBackUptoSaid : Prop := recordBackUptoRow.holds Try.pinned (OpenSpec.upto recordBackSpec)

end Rows
end Go.Proofs.Yteoklaofbdfjlaa
