/- gen: the example of chapter 40 (awake). -/
import Derived.Test.YtnikcccobfcndaaGc
namespace Go.Proofs.Ytnikcccobfcndaa.Ga
open Go.RowKit Go.Proofs.YtnikcccobfcndaaW.PrintWords Go.Proofs.Ytnikcccobfcndaa.PGenSeeds
set_option linter.unusedVariables false
theorem next0 (w : World) : Calls Try.prog 9 #[.int .u64 0] w fun e w' => e = .returned (.int .u64 1082269761) ∧ Below w.heap.size w w' := gen_Next.calls 0 1082269761 w (by decide)
theorem next1 (w : World) : Calls Try.prog 9 #[.int .u64 1] w fun e w' => e = .returned (.int .u64 1082269761) ∧ Below w.heap.size w w' := gen_Next.calls 1 1082269761 w (by decide)
theorem awake (w : World) : Calls Try.prog 8 #[] w fun e w' => e = .returned (.bool true) ∧ Below w.heap.size w w' := by
  go_enter Try.func8, Try.ntmps8
  go_wp2_with (first
    | (go_at_call 25; (with_reducible refine (calls _).mono ?_); rintro e x1 ⟨g, A0, c0, s1, rfl, hg, hB⟩; have HG := Aside0.mk hg; have HB := Aside0.mk hB; clear hg hB)
    | (go_at_call 9; (with_reducible refine (next0 x1).mono ?_); rintro e x2 ⟨rfl, hB⟩; have HB2 := Aside0.mk hB; clear hB)
    | (go_at_call 9; (with_reducible refine (next1 x2).mono ?_); rintro e x3 ⟨rfl, hB⟩; have HB3 := Aside0.mk hB; clear hB)
    | (go_at_call 9; (with_reducible refine (next1 x3).mono ?_); rintro e x4 ⟨rfl, hB⟩; have HB4 := Aside0.mk hB; have hg4 : x4.cell? ⟨g, 0, none⟩ = some (.slice A0 3 c0) := blk_cell (blk_below (blk_below (blk_below HG.out HB2.out) HB3.out) hB) 0; clear hB))
  go_ret
  exact ⟨rfl, ((HB.out.trans (HB2.out.mono HB.out.size)).trans (HB3.out.mono (HB.out.trans (HB2.out.mono HB.out.size)).size)).trans (HB4.out.mono ((HB.out.trans (HB2.out.mono HB.out.size)).trans (HB3.out.mono (HB.out.trans (HB2.out.mono HB.out.size)).size)).size)⟩
end Go.Proofs.Ytnikcccobfcndaa.Ga
namespace Go.Proofs.Ytnikcccobfcndaa.PGenSeeds
open Go.RowKit Go.Proofs.YtnikcccobfcndaaW.PrintWords
def sumplaw40_awake.f : Option (Bool) := some true
theorem sumplaw40_awake.calls (r : Bool) (w : World) (h : sumplaw40_awake.f = some r) :
    Calls Try.prog 8 #[] w fun e w' => e = .returned (.bool r) ∧ Below w.heap.size w w' := by
  obtain rfl := Option.some.inj h
  exact Ga.awake w
end Go.Proofs.Ytnikcccobfcndaa.PGenSeeds
