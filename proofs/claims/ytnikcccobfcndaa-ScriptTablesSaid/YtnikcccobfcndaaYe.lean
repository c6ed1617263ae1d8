/- scripts: plans that are the same. -/
import Derived.Test.YtnikcccobfcndaaYd
import Derived.Laws.Rows
import Derived.Laws.Tables
import Derived.Deep.RegionWith
import Derived.Deep.RegionHeld3
import Derived.BigQuiet
namespace Go.Proofs.Ytnikcccobfcndaa.Sc
open Go.RowKit Go.Proofs.YtnikcccobfcndaaW.PrintWords Go.Proofs.YtnikcccobfcndaaW.PrintLast Go.Proofs.YtnikcccobfcndaaW.PrintMore
set_option linter.unusedVariables false
set_option linter.unusedSimpArgs false
theorem run_store_float (P : Program) (w : World) (a : Addr) (m : Mode) (k : FloatKind) (x : Nat) : (store a (.float k x) m).run P w = stored P w a (.float k x) m := run_store P w a _ m rfl
attribute [local go_sem] run_store_float
/-- A plan that is in bounds. -/
def Ok36 (x : S36) : Prop := x.f1.length ≤ 9223372036854775807 ∧ (∀ r ∈ x.f1, r.length ≤ 9223372036854775807) ∧ x.f2.length ≤ 9223372036854775807 ∧ ∀ m ∈ x.f2, m.f2.length ≤ 9223372036854775807
set_option maxHeartbeats 16000000 in
set_option maxRecDepth 100000 in
theorem same36_calls (x y : S36) (cs ds : List Value) (w : World) (hx : k36.K w x cs) (hy : k36.K w y ds) (ox : Ok36 x) : Calls Try.prog 19 #[.agg cs.toArray, .agg ds.toArray] w fun e w' => e = .returned (.bool (c36 x y)) ∧ Below w.heap.size w w' := by
  obtain ⟨A1, a1, A2, a2, rfl, l1, g1, l2, g2⟩ := k36_open hx
  obtain ⟨B1, d1, B2, d2, rfl, m1, h1, m2, h2⟩ := k36_open hy
  have W00 : ∃ W0, W0 = ((w.alloc (.cells #[.int .i64 x.f0.f0, .int .i64 x.f0.f1, .int .i64 x.f0.f2, .float .f64 x.f0.f3.f0, .float .f64 x.f0.f3.f1, .float .f64 x.f0.f3.f2, .slice A1 x.f1.length a1, .slice A2 x.f2.length a2] 36)).alloc (.cells #[.int .i64 y.f0.f0, .int .i64 y.f0.f1, .int .i64 y.f0.f2, .float .f64 y.f0.f3.f0, .float .f64 y.f0.f3.f1, .float .f64 y.f0.f3.f2, .slice B1 y.f1.length d1, .slice B2 y.f2.length d2] 36)) := ⟨_, rfl⟩
  obtain ⟨W0, hW0⟩ := W00
  have HCE : Hid (∀ w', Below W0.heap.size W0 w' → w'.cell? ⟨w.heap.size, 6, none⟩ = some (.slice A1 x.f1.length a1) ∧ w'.cell? ⟨w.heap.size + 1, 6, none⟩ = some (.slice B1 y.f1.length d1) ∧ w'.cell? ⟨w.heap.size, 7, none⟩ = some (.slice A2 x.f2.length a2) ∧ w'.cell? ⟨w.heap.size + 1, 7, none⟩ = some (.slice B2 y.f2.length d2)) := hid fun w' hb => by
    subst hW0
    have k1 := blk_keep (blk_old w _ _) hb
    have k2 := blk_keep (blk_new2 w _ _) hb
    refine ⟨?_, ?_, ?_, ?_⟩
    · rw [cell_of_row w' _ _ _ _ _ k1]; rfl
    · rw [cell_of_row w' _ _ _ _ _ k2]; rfl
    · rw [cell_of_row w' _ _ _ _ _ k1]; rfl
    · rw [cell_of_row w' _ _ _ _ _ k2]; rfl
  have HW : Hid (Below w.heap.size w W0) := hid (by rw [hW0]; exact below_alloc (below_alloc (Below.refl _ _) _) _)
  have Q32 : Hid (∀ W, Hid (Below W0.heap.size W0 W) → Calls Try.prog 32 #[.agg #[.float .f64 x.f0.f3.f0, .float .f64 x.f0.f3.f1, .float .f64 x.f0.f3.f2], .agg #[.float .f64 y.f0.f3.f0, .float .f64 y.f0.f3.f1, .float .f64 y.f0.f3.f2]] W fun e w' => e = .returned (.bool (c30 x.f0.f3 y.f0.f3)) ∧ Hid (Below W0.heap.size W0 w') ∧ w'.cell? ⟨w.heap.size, 6, none⟩ = some (.slice A1 x.f1.length a1) ∧ w'.cell? ⟨w.heap.size + 1, 6, none⟩ = some (.slice B1 y.f1.length d1) ∧ w'.cell? ⟨w.heap.size, 7, none⟩ = some (.slice A2 x.f2.length a2) ∧ w'.cell? ⟨w.heap.size + 1, 7, none⟩ = some (.slice B2 y.f2.length d2)) := hid fun W hb => (pol_calls _ _ _ _ _ _ W).mono fun e w' h => ⟨h.1, hid (L.bel hb.out h.2), HCE.out _ (L.bel hb.out h.2)⟩
  have Q33 : Hid (∀ W, Hid (Below W0.heap.size W0 W) → Calls Try.prog 33 #[.slice A1 x.f1.length a1, .slice B1 y.f1.length d1, .func (.func 34) #[] #[]] W fun e w' => e = .returned (.bool (eqs (eqs c42) x.f1 y.f1)) ∧ Hid (Below W0.heap.size W0 w') ∧ w'.cell? ⟨w.heap.size, 6, none⟩ = some (.slice A1 x.f1.length a1) ∧ w'.cell? ⟨w.heap.size + 1, 6, none⟩ = some (.slice B1 y.f1.length d1) ∧ w'.cell? ⟨w.heap.size, 7, none⟩ = some (.slice A2 x.f2.length a2) ∧ w'.cell? ⟨w.heap.size + 1, 7, none⟩ = some (.slice B2 y.f2.length d2)) := hid fun W hb => (eqf33_calls A1 B1 x.f1 y.f1 a1 d1 W (Kd.C_below g1 (L.bel HW.out hb.out)) (Kd.C_below h1 (L.bel HW.out hb.out)) ox.1 ox.2.1).mono fun e w' h => ⟨h.1, hid (L.bel hb.out h.2), HCE.out _ (L.bel hb.out h.2)⟩
  have Q36 : Hid (∀ W, Hid (Below W0.heap.size W0 W) → Calls Try.prog 36 #[.slice A2 x.f2.length a2, .slice B2 y.f2.length d2, .func (.func 37) #[] #[]] W fun e w' => e = .returned (.bool (eqs c46 x.f2 y.f2)) ∧ Hid (Below W0.heap.size W0 w')) := hid fun W hb => (eqf36_calls A2 B2 x.f2 y.f2 a2 d2 W (Kd.C_below g2 (L.bel HW.out hb.out)) (Kd.C_below h2 (L.bel HW.out hb.out)) ox.2.2.1 ox.2.2.2).mono fun e w' h => ⟨h.1, hid (L.bel hb.out h.2)⟩
  clear HCE
  have HC : Hid (c36 x y = (decide (x.f0.f0 = y.f0.f0) && decide (x.f0.f1 = y.f0.f1) && decide (x.f0.f2 = y.f0.f2) && c30 x.f0.f3 y.f0.f3 && eqs (eqs c42) x.f1 y.f1 && eqs c46 x.f2 y.f2)) := hid rfl
  obtain ⟨s, hs⟩ : ∃ s, c30 x.f0.f3 y.f0.f3 = s := ⟨_, rfl⟩
  obtain ⟨u, hu⟩ : ∃ u, eqs (eqs c42) x.f1 y.f1 = u := ⟨_, rfl⟩
  obtain ⟨v, hv⟩ : ∃ v, eqs c46 x.f2 y.f2 = v := ⟨_, rfl⟩
  obtain ⟨n1, hn1⟩ : ∃ n, x.f1.length = n := ⟨_, rfl⟩
  obtain ⟨n2, hn2⟩ : ∃ n, x.f2.length = n := ⟨_, rfl⟩
  obtain ⟨r1, hr1⟩ : ∃ n, y.f1.length = n := ⟨_, rfl⟩
  obtain ⟨r2, hr2⟩ : ∃ n, y.f2.length = n := ⟨_, rfl⟩
  rw [hs] at Q32 HC
  rw [hu] at Q33
  rw [hv] at Q36
  rw [hn1, hn2, hr1, hr2] at Q32 Q33 hW0
  rw [hn2, hr2] at Q36
  rw [hu, hv] at HC
  rw [hn1, hn2, hr1, hr2]
  generalize x.f0.f0 = x0 at *
  generalize x.f0.f1 = x1 at *
  generalize x.f0.f2 = x2 at *
  generalize y.f0.f0 = y0 at *
  generalize y.f0.f1 = y1 at *
  generalize y.f0.f2 = y2 at *
  generalize x.f0.f3.f0 = x3 at *
  generalize x.f0.f3.f1 = x4 at *
  generalize x.f0.f3.f2 = x5 at *
  generalize y.f0.f3.f0 = y3 at *
  generalize y.f0.f3.f1 = y4 at *
  generalize y.f0.f3.f2 = y5 at *
  clear hx hy ox l1 g1 l2 g2 m1 h1 m2 h2 hs hu hv hn1 hn2 hr1 hr2
  have hk : (x0 == y0) = false ∨ ((x0 == y0) = true ∧ (x1 == y1) = false) ∨ ((x0 == y0) = true ∧ (x1 == y1) = true ∧ (x2 == y2) = false) ∨ ((x0 == y0) = true ∧ (x1 == y1) = true ∧ (x2 == y2) = true) := by
    cases (x0 == y0) <;> cases (x1 == y1) <;> cases (x2 == y2) <;> simp
  rcases hk with b0 | ⟨b0, b1⟩ | ⟨b0, b1, b2⟩ | ⟨b0, b1, b2⟩
  · have HD : Hid (c36 x y = false) := hid (by rw [HC.out, decide_eq_false (by simpa using b0)]; simp)
    have c0 : (x0 != y0) = true := by rw [bne, b0]; rfl
    clear b0
    go_enter Try.func19, Try.ntmps19
    go_wp2
    go_region
    all_goals go_wp2
    all_goals go_ret
    all_goals exact ⟨by rw [HD.out]; rfl, by repeat (first | exact Below.refl _ _ | refine below_drew ?_ | refine below_alloc ?_ _ | refine below_drewN ?_ _ | refine Below.setCell ?_ (by simp) _)⟩
  · have HD : Hid (c36 x y = false) := hid (by rw [HC.out, decide_eq_false (p := x1 = y1) (by simpa using b1)]; simp)
    have c0 : (x0 != y0) = false := by rw [bne, b0]; rfl
    have c1 : (x1 != y1) = true := by rw [bne, b1]; rfl
    clear b0 b1
    go_enter Try.func19, Try.ntmps19
    go_wp2
    go_region
    all_goals go_wp2
    all_goals go_ret
    all_goals exact ⟨by rw [HD.out]; rfl, by repeat (first | exact Below.refl _ _ | refine below_drew ?_ | refine below_alloc ?_ _ | refine below_drewN ?_ _ | refine Below.setCell ?_ (by simp) _)⟩
  · have HD : Hid (c36 x y = false) := hid (by rw [HC.out, decide_eq_false (p := x2 = y2) (by simpa using b2)]; simp)
    have c0 : (x0 != y0) = false := by rw [bne, b0]; rfl
    have c1 : (x1 != y1) = false := by rw [bne, b1]; rfl
    have c2 : (x2 != y2) = true := by rw [bne, b2]; rfl
    clear b0 b1 b2
    go_enter Try.func19, Try.ntmps19
    go_wp2
    go_region
    all_goals go_wp2
    all_goals go_ret
    all_goals exact ⟨by rw [HD.out]; rfl, by repeat (first | exact Below.refl _ _ | refine below_drew ?_ | refine below_alloc ?_ _ | refine below_drewN ?_ _ | refine Below.setCell ?_ (by simp) _)⟩
  · have HD : Hid (c36 x y = (s && u && v)) := hid (by rw [HC.out, decide_eq_true (p := x0 = y0) (by simpa using b0), decide_eq_true (p := x1 = y1) (by simpa using b1), decide_eq_true (p := x2 = y2) (by simpa using b2)]; simp)
    have c0 : (x0 != y0) = false := by rw [bne, b0]; rfl
    have c1 : (x1 != y1) = false := by rw [bne, b1]; rfl
    have c2 : (x2 != y2) = false := by rw [bne, b2]; rfl
    clear b0 b1 b2 HC
    rcases (show s = false ∨ (s = true ∧ u = false) ∨ (s = true ∧ u = true ∧ v = false) ∨ (s = true ∧ u = true ∧ v = true) by cases s <;> cases u <;> cases v <;> simp) with rfl | ⟨rfl, rfl⟩ | ⟨rfl, rfl, rfl⟩ | ⟨rfl, rfl, rfl⟩
    all_goals
      go_enter Try.func19, Try.ntmps19
      go_wp2
      go_region
      all_goals go_wp2_with (first
        | (go_at_call 32; (with_reducible refine (Q32.out _ ?hb).mono ?_); (case hb => exact hid (by rw [hW0]; repeat (first | exact Below.refl _ _ | refine below_drew ?_ | refine below_alloc ?_ _ | refine below_drewN ?_ _ | refine Below.setCell ?_ (by simp) _))); rintro e w3 ⟨rfl, H3, k1, k2, k3, k4⟩)
        | (go_at_call 33; (with_reducible refine (Q33.out _ H3).mono ?_); rintro e w4 ⟨rfl, H4, k5, k6, k7, k8⟩)
        | (go_at_call 36; (with_reducible refine (Q36.out _ H4).mono ?_); rintro e w5 ⟨rfl, H5⟩))
      all_goals go_ret
      all_goals exact ⟨by rw [HD.out]; rfl, by first | exact L.bel HW.out H5.out | exact L.bel HW.out H4.out | exact L.bel HW.out H3.out⟩
end Go.Proofs.Ytnikcccobfcndaa.Sc
