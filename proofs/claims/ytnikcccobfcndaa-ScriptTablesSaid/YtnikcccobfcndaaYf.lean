/- scripts: geom.Of, Right, Paths, Floats. -/
import Derived.Test.YtnikcccobfcndaaYd
namespace Go.Proofs.Ytnikcccobfcndaa.Sc
open Go.RowKit FT Go.Proofs.YtnikcccobfcndaaW.PrintWords Go.Proofs.YtnikcccobfcndaaW.PrintLast Go.Proofs.YtnikcccobfcndaaW.PrintMore
set_option linter.unusedVariables false
set_option linter.unusedSimpArgs false
theorem run_store_float' (P : Program) (w : World) (a : Addr) (m : Mode) (k : FloatKind) (x : Nat) : (store a (.float k x) m).run P w = stored P w a (.float k x) m := run_store P w a _ m rfl
attribute [local go_sem] run_store_float'
theorem res31 (tmps : Array Value) (w : World) (g : Nat) (cs : Array Value) (b : Value) (hp : tmps.getD 2 undef = .pointer (some ⟨g, 0, none⟩)) (hq : tmps.getD 3 undef = b) (hg : w.heap[g]? = some (.cells cs 81 (0, 0))) (hs : cs.size = 5) : (results Try.f31 tmps).run Try.prog w = .ok (.tuple #[.agg cs, b]) w := by
  have hp' : tmps[2]?.getD undef = .pointer (some ⟨g, 0, none⟩) := by simpa using hp
  have hq' : tmps[3]?.getD undef = b := by simpa using hq
  have hi : (Try.prog.info? 81).map (·.size) = some cs.size := by rw [hs]; kernel_rfl
  simp [results, Try.results31, hp', hq', asAddr, run_loadVar_row w g 81 81 cs (0, 0) _ hg Try.underlying81 rfl hi]
def geo (n : Int) : Bool := decide (64 ≤ n) && decide (n ≤ 1048576)
set_option maxHeartbeats 4000000 in
theorem geom_calls (n : Int) (w : World) : Calls Try.prog 31 #[.int .i64 n] w fun e w' => ∃ a b c d f, e = .returned (.tuple #[.agg #[.int .i64 a, .int .i64 b, .int .i64 c, .int .i64 d, .int .i64 f], .bool (geo n)]) ∧ Hid (Below w.heap.size w w') := by
  have HB1 : Hid (Below w.heap.size w (w.alloc (.cells #[.int .i64 0, .int .i64 0, .int .i64 0, .int .i64 0, .int .i64 0] 81))) := hid (below_alloc (Below.refl _ _) _)
  by_cases h1 : n < 64
  · have b1 : decide (n < 64) = true := decide_eq_true h1
    have HG : Hid (geo n = false) := hid (by unfold geo; rw [decide_eq_false (by omega)]; rfl)
    clear h1
    go_enter Try.func31, Try.ntmps31
    go_wp2
    exact ⟨rfl, .tuple #[.agg #[.int .i64 0, .int .i64 0, .int .i64 0, .int .i64 0, .int .i64 0], .bool false], res31 _ _ w.heap.size _ _ rfl rfl (blk_new w _) rfl, 0, 0, 0, 0, 0, by rw [HG.out], HB1⟩
  · have b1 : decide (n < 64) = false := decide_eq_false h1
    by_cases h2 : 1048576 < n
    · have b2 : decide (1048576 < n) = true := decide_eq_true h2
      have HG : Hid (geo n = false) := hid (by unfold geo; rw [decide_eq_false (p := n ≤ 1048576) (by omega)]; simp)
      clear h1 h2
      go_enter Try.func31, Try.ntmps31
      go_wp2
      exact ⟨rfl, .tuple #[.agg #[.int .i64 0, .int .i64 0, .int .i64 0, .int .i64 0, .int .i64 0], .bool false], res31 _ _ w.heap.size _ _ rfl rfl (blk_new w _) rfl, 0, 0, 0, 0, 0, by rw [HG.out], HB1⟩
    · have b2 : decide (1048576 < n) = false := decide_eq_false h2
      have HG : Hid (geo n = true) := hid (by unfold geo; rw [decide_eq_true (by omega), decide_eq_true (by omega)]; rfl)
      clear h1 h2
      go_enter Try.func31, Try.ntmps31
      go_wp2
      exact ⟨rfl, .tuple #[.agg _, .bool true], res31 _ _ w.heap.size _ _ rfl rfl (blk_old w _ _) rfl, _, _, _, _, _, by rw [HG.out], hid (by repeat (first | exact Below.refl _ _ | refine below_drew ?_ | refine below_alloc ?_ _ | refine below_drewN ?_ _ | refine Below.setCell ?_ (by simp) _))⟩
end Go.Proofs.Ytnikcccobfcndaa.Sc
