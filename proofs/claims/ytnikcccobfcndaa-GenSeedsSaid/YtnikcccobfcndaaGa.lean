/- gen: the drawer's closure, and what a call that draws leaves. -/
import Derived.Test.YtnikcccobfcndaaPGenSeedsx1h
import Derived.Test.YtnikcccobfcndaaL3
import Derived.Test.YtnikcccobfcndaaQ
import Derived.Laws.Closers25b
import Derived.IntWalk
namespace Go.Proofs.Ytnikcccobfcndaa.Ga
open Go.RowKit Go.Proofs.YtnikcccobfcndaaW.PrintWords Go.Proofs.Ytnikcccobfcndaa.PGenSeeds
set_option linter.unusedVariables false
/-- Of the old blocks b alone may be another. -/
structure But (b : Nat) (W w' : World) : Prop where
  below : Below b W w'
  size : W.heap.size ≤ w'.heap.size
  rest : ∀ k, k < W.heap.size → k ≠ b → w'.heap[k]? = W.heap[k]?
theorem But.refl (b : Nat) (w : World) : But b w w := ⟨Below.refl _ _, Nat.le_refl _, fun _ _ _ => rfl⟩
theorem But.trans {b : Nat} {x y z : World} (h : But b x y) (g : But b y z) : But b x z := ⟨h.below.trans g.below, Nat.le_trans h.size g.size, fun k hk hn => (g.rest k (Nat.lt_of_lt_of_le hk h.size) hn).trans (h.rest k hk hn)⟩
theorem But.of {b : Nat} {x y : World} (hb : b ≤ x.heap.size) (h : Below x.heap.size x y) : But b x y := ⟨h.mono hb, h.size, fun k hk _ => h.block k hk⟩
theorem But.alloc {b : Nat} {x y : World} (h : But b x y) (hb : b ≤ x.heap.size) (o : Obj) : But b x (y.alloc o) := h.trans (But.of (Nat.le_trans hb h.size) (below_alloc (Below.refl _ _) o))
theorem But.set {b : Nat} {x y : World} (h : But b x y) (hb : b < x.heap.size) (j : Nat) (v : Value) : But b x (y.setCell ⟨b, j, none⟩ v) :=
  h.trans ⟨(Below.refl b y).setCell (Nat.le_refl b) v, by simp, fun k hk hn => Below.heap_setCell y ⟨b, j, none⟩ v k hn⟩
theorem But.blk {b g : Nat} {x y : World} {o : Obj} (h : But b x y) (hg : x.heap[g]? = some o) (hn : g ≠ b) : y.heap[g]? = some o := (h.rest g (blk_lt hg) hn).trans hg

theorem But.trans' {b : Nat} {w x y : World} (h : But b w x) (hb : Below (w.heap.size + 1) x y) (ho : ∀ k, k ≠ w.heap.size + 1 → y.heap[k]? = x.heap[k]?) (hl : b < w.heap.size) : But b w y :=
  ⟨h.below.trans (hb.mono (by omega)), Nat.le_trans h.size hb.size, fun k hk hn => (hb.block k (by omega)).trans (h.rest k hk hn)⟩
theorem next_nonneg (a r : Int) (h : gen_Next.f a = some r) : 0 ≤ r := by
  rw [← Option.some.inj h]
  exact bits_lo_u64 _ _ _
/-- The seed's box. -/
def Box (b : Nat) (w : World) : Prop := ∃ s : Int, 0 ≤ s ∧ w.heap[b]? = some (.cells #[.int .u64 s] 22 (0, 0))
set_option maxHeartbeats 1000000 in
theorem draw (b : Nat) (n : Int) (W : World) (hb : Box b W) (hn0 : 0 < n) (hn1 : n ≤ 1000) :
    Calls Try.prog 45 #[.int .i64 n, .pointer (some ⟨b, 0, none⟩)] W fun e w' => ∃ v : Int, e = .returned (.int .i64 v) ∧ 0 ≤ v ∧ v < n ∧ Box b w' ∧ But b W w' := by
  obtain ⟨s, hs, hc⟩ := hb
  have hlt := blk_lt hc
  have h0 := blk_cell hc 0
  simp only [List.getElem?_toArray, List.getElem?_cons_zero] at h0
  have hf := blk_frozen hc 0
  obtain ⟨r, hr⟩ : ∃ r, gen_Next.f s = some r := ⟨_, rfl⟩
  have hr0 := next_nonneg s r hr
  have hcall := gen_Next.calls s r W hr
  have HC := Aside0.mk hc
  clear hc hr
  have hwn : IntKind.u64.wrap n = n := Go.IntWalk.u64_in n ⟨by omega, by omega⟩
  go_enter Try.func45, Try.ntmps45
  go_wp2_with (first | (go_at_call 9; (with_reducible refine hcall.mono ?_); rintro e w1 ⟨rfl, B1⟩; have HB1 := Aside0.mk B1; have hc1 := blk_below HC.out B1; have hq1 : w1.cell? ⟨b, 0, none⟩ = some (.int .u64 s) := blk_cell hc1 0; have hf1 := blk_frozen hc1 0; have hl1 := blk_lt hc1; have HC1 := Aside0.mk hc1; clear B1 hc1))
  go_ret
  have h1 : 0 ≤ r % n := Int.emod_nonneg r (by omega)
  have h2 : r % n < n := Int.emod_lt_of_pos r hn0
  have hw : wrap64 (r % n) = r % n := Go.Proofs.Ytnikcccobfcndaa.Q.wrap64_in (by omega) (by omega)
  exact ⟨_, rfl, by omega, by omega, ⟨r, hr0, blk_set HC1.out 0 _⟩, (But.of (Nat.le_of_lt hlt) HB1.out).set hlt 0 _⟩
end Go.Proofs.Ytnikcccobfcndaa.Ga
