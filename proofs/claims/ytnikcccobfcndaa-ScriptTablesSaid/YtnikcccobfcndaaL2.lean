/- More general lemmas of this session, and the library's laws that the hand-proved contracts use. No program in sight. -/
import Derived.Test.YtnikcccobfcndaaL
import Derived.WalkLawsBesides
import Derived.WalkSpells
import Derived.LoopTactic
import Derived.ScopeJumps
import Derived.BigRegion
import Derived.ChangeAlike
import Derived.RegionTactic
import Derived.Deep.LoopGhost
import Derived.Laws.EntriesVeiled
namespace Go.Proofs.Ytnikcccobfcndaa.L2
open Go.RowKit
theorem ret_agg {x y : Array Value} (h : x = y) : Ending.returned (.agg x) = .returned (.agg y) := by rw [h]
theorem ret_tup {x y : Array Value} (h : x = y) : Ending.returned (.tuple x) = .returned (.tuple y) := by rw [h]
end Go.Proofs.Ytnikcccobfcndaa.L2
