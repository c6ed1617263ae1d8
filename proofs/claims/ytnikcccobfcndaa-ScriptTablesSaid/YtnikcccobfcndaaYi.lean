/- scripts: the law ScriptTables, beyond its bounds. -/
import Derived.Test.YtnikcccobfcndaaYh
namespace Go.Proofs.Ytnikcccobfcndaa.Sc
open Go.RowKit FT Go.Proofs.YtnikcccobfcndaaW.PrintWords Go.Proofs.YtnikcccobfcndaaW.PrintLast Go.Proofs.YtnikcccobfcndaaW.PrintMore
set_option linter.unusedVariables false
set_option linter.unusedSimpArgs false
attribute [local go_sem] run_store_float'
def fl (r i : Nat) : Nat := match i with
  | 0 => 0
  | 1 => 9223372036854775808
  | 2 => 4607182418800017408
  | 3 => 4602678819172646912
  | 4 => 4598175219545276416
  | 5 => 4611686018427387904
  | 6 => 13830554455654793216
  | 7 => 9218868437227405312
  | 8 => 18442240474082181120
  | 9 => r
  | 10 => 9094988921128908188
  | 11 => 118622047889322841
  | 12 => 4613937818241073152
  | 13 => 4604930618986332160
  | 14 => 4609434218613702656
  | 15 => 4621819117588971520
  | _ => 0
def cv (i : Nat) : Int := match i with
  | 0 => 4
  | 1 => 3
  | 2 => 5
  | 3 => 5
  | 4 => 5
  | 5 => 5
  | 6 => 2
  | 7 => 6
  | 8 => 1
  | 9 => 0
  | 10 => 5
  | 11 => 5
  | 12 => 5
  | 13 => 5
  | 14 => 5
  | 15 => 5
  | _ => 0
def CVs : Array Value := #[.int .i64 4, .int .i64 3, .int .i64 5, .int .i64 5, .int .i64 5, .int .i64 5, .int .i64 2, .int .i64 6, .int .i64 1, .int .i64 0, .int .i64 5, .int .i64 5, .int .i64 5, .int .i64 5, .int .i64 5, .int .i64 5]
theorem FL_at (r i : Nat) (h : i < 16) : (FL r)[i]? = some (.float .f64 (fl r i)) := by
  have : i = 0 ∨ i = 1 ∨ i = 2 ∨ i = 3 ∨ i = 4 ∨ i = 5 ∨ i = 6 ∨ i = 7 ∨ i = 8 ∨ i = 9 ∨ i = 10 ∨ i = 11 ∨ i = 12 ∨ i = 13 ∨ i = 14 ∨ i = 15 := by omega
  rcases this with rfl | rfl | rfl | rfl | rfl | rfl | rfl | rfl | rfl | rfl | rfl | rfl | rfl | rfl | rfl | rfl <;> rfl
theorem CV_at (i : Nat) (h : i < 16) : CVs[i]? = some (.int .i64 (cv i)) := by
  have : i = 0 ∨ i = 1 ∨ i = 2 ∨ i = 3 ∨ i = 4 ∨ i = 5 ∨ i = 6 ∨ i = 7 ∨ i = 8 ∨ i = 9 ∨ i = 10 ∨ i = 11 ∨ i = 12 ∨ i = 13 ∨ i = 14 ∨ i = 15 := by omega
  rcases this with rfl | rfl | rfl | rfl | rfl | rfl | rfl | rfl | rfl | rfl | rfl | rfl | rfl | rfl | rfl | rfl <;> rfl
theorem cls_fl (r i : Nat) (hr : N r = true) (h : i < 16) : Fl.cls (fl r i) = cv i := by
  have : i = 0 ∨ i = 1 ∨ i = 2 ∨ i = 3 ∨ i = 4 ∨ i = 5 ∨ i = 6 ∨ i = 7 ∨ i = 8 ∨ i = 9 ∨ i = 10 ∨ i = 11 ∨ i = 12 ∨ i = 13 ∨ i = 14 ∨ i = 15 := by omega
  rcases this with rfl | rfl | rfl | rfl | rfl | rfl | rfl | rfl | rfl | rfl | rfl | rfl | rfl | rfl | rfl | rfl
  · exact (show Fl.cls 0 = 4 by decide +kernel)
  · exact (show Fl.cls 9223372036854775808 = 3 by decide +kernel)
  · exact (show Fl.cls 4607182418800017408 = 5 by decide +kernel)
  · exact (show Fl.cls 4602678819172646912 = 5 by decide +kernel)
  · exact (show Fl.cls 4598175219545276416 = 5 by decide +kernel)
  · exact (show Fl.cls 4611686018427387904 = 5 by decide +kernel)
  · exact (show Fl.cls 13830554455654793216 = 2 by decide +kernel)
  · exact (show Fl.cls 9218868437227405312 = 6 by decide +kernel)
  · exact (show Fl.cls 18442240474082181120 = 1 by decide +kernel)
  · exact (Fl.kn r).1 hr
  · exact (show Fl.cls 9094988921128908188 = 5 by decide +kernel)
  · exact (show Fl.cls 118622047889322841 = 5 by decide +kernel)
  · exact (show Fl.cls 4613937818241073152 = 5 by decide +kernel)
  · exact (show Fl.cls 4604930618986332160 = 5 by decide +kernel)
  · exact (show Fl.cls 4609434218613702656 = 5 by decide +kernel)
  · exact (show Fl.cls 4621819117588971520 = 5 by decide +kernel)
/-- The law's own variables: the configuration and the two plans. -/
structure LB (b : Nat) (C X Y : Array Value) (w W : World) : Prop where
  c : W.heap[b]? = some (.cells C 32 (0, 0))
  x : W.heap[b + 1]? = some (.cells X 36 (0, 0))
  y : W.heap[b + 1 + 1]? = some (.cells Y 36 (0, 0))
  bel : Below w.heap.size w W
theorem LB.below {b : Nat} {C X Y : Array Value} {w W W' : World} (h : LB b C X Y w W) (hb : Below W.heap.size W W') : LB b C X Y w W' := ⟨blk_keep h.c hb, blk_keep h.x hb, blk_keep h.y hb, L.bel h.bel hb⟩
theorem LB.start (w : World) (C X Y : Array Value) : LB w.heap.size C X Y w (((w.alloc (.cells C 32)).alloc (.cells X 36)).alloc (.cells Y 36)) := by
  have e : (w.alloc (.cells C 32)).heap.size = w.heap.size + 1 := by simp
  refine ⟨blk_keep (blk_old w _ _) (below_alloc (Below.refl _ _) _), ?_, ?_, below_alloc (below_alloc (below_alloc (Below.refl _ _) _) _) _⟩
  · have h := blk_old (w.alloc (.cells C 32)) (.cells X 36) (.cells Y 36)
    rwa [e] at h
  · have h := blk_new2 (w.alloc (.cells C 32)) (.cells X 36) (.cells Y 36)
    rwa [e] at h
theorem LB.cells {b : Nat} {p c n : Int} {f1 f2 f3 : Nat} {p1 c1 q1 : Int} {u1 u2 u3 : Nat} {A1 A2 : Option Addr} {n1 a1 n2 a2 : Nat} {p2 c2 q2 : Int} {v1 v2 v3 : Nat} {B1 B2 : Option Addr} {m1 d1 m2 d2 : Nat} {w W : World} (h : LB b #[.int .i64 p, .int .i64 c, .int .i64 n, .float .f64 f1, .float .f64 f2, .float .f64 f3] #[.int .i64 p1, .int .i64 c1, .int .i64 q1, .float .f64 u1, .float .f64 u2, .float .f64 u3, .slice A1 n1 a1, .slice A2 n2 a2] #[.int .i64 p2, .int .i64 c2, .int .i64 q2, .float .f64 v1, .float .f64 v2, .float .f64 v3, .slice B1 m1 d1, .slice B2 m2 d2] w W) :
    W.cell? ⟨b, 0, none⟩ = some (.int .i64 p) ∧ W.cell? ⟨b, 1, none⟩ = some (.int .i64 c) ∧ W.cell? ⟨b, 2, none⟩ = some (.int .i64 n) ∧ W.cell? ⟨b, 3, none⟩ = some (.float .f64 f1) ∧ W.cell? ⟨b, 4, none⟩ = some (.float .f64 f2) ∧ W.cell? ⟨b, 5, none⟩ = some (.float .f64 f3) := by
  refine ⟨?_, ?_, ?_, ?_, ?_, ?_⟩ <;> rw [cell_of_row W _ _ _ _ _ h.c] <;> rfl
theorem LB.cellsX {b : Nat} {C : Array Value} {p1 c1 q1 : Int} {u1 u2 u3 : Nat} {A1 A2 : Option Addr} {n1 a1 n2 a2 : Nat} {p2 c2 q2 : Int} {v1 v2 v3 : Nat} {B1 B2 : Option Addr} {m1 d1 m2 d2 : Nat} {w W : World} (h : LB b C #[.int .i64 p1, .int .i64 c1, .int .i64 q1, .float .f64 u1, .float .f64 u2, .float .f64 u3, .slice A1 n1 a1, .slice A2 n2 a2] #[.int .i64 p2, .int .i64 c2, .int .i64 q2, .float .f64 v1, .float .f64 v2, .float .f64 v3, .slice B1 m1 d1, .slice B2 m2 d2] w W) :
    W.cell? ⟨b + 1, 0, none⟩ = some (.int .i64 p1) ∧ W.cell? ⟨b + 1, 1, none⟩ = some (.int .i64 c1) ∧ W.cell? ⟨b + 1, 2, none⟩ = some (.int .i64 q1) ∧ W.cell? ⟨b + 1, 3, none⟩ = some (.float .f64 u1) ∧ W.cell? ⟨b + 1, 4, none⟩ = some (.float .f64 u2) ∧ W.cell? ⟨b + 1, 5, none⟩ = some (.float .f64 u3) ∧ W.cell? ⟨b + 1, 6, none⟩ = some (.slice A1 n1 a1) ∧ W.cell? ⟨b + 1, 7, none⟩ = some (.slice A2 n2 a2) ∧
    W.cell? ⟨b + 1 + 1, 0, none⟩ = some (.int .i64 p2) ∧ W.cell? ⟨b + 1 + 1, 1, none⟩ = some (.int .i64 c2) ∧ W.cell? ⟨b + 1 + 1, 2, none⟩ = some (.int .i64 q2) ∧ W.cell? ⟨b + 1 + 1, 3, none⟩ = some (.float .f64 v1) ∧ W.cell? ⟨b + 1 + 1, 4, none⟩ = some (.float .f64 v2) ∧ W.cell? ⟨b + 1 + 1, 5, none⟩ = some (.float .f64 v3) ∧ W.cell? ⟨b + 1 + 1, 6, none⟩ = some (.slice B1 m1 d1) ∧ W.cell? ⟨b + 1 + 1, 7, none⟩ = some (.slice B2 m2 d2) := by
  refine ⟨?_, ?_, ?_, ?_, ?_, ?_, ?_, ?_, ?_, ?_, ?_, ?_, ?_, ?_, ?_, ?_⟩
  all_goals first | (rw [cell_of_row W _ _ _ _ _ h.x]; rfl) | (rw [cell_of_row W _ _ _ _ _ h.y]; rfl)
set_option maxHeartbeats 8000000 in
set_option maxRecDepth 100000 in
theorem tables_no (p c n : Int) (f1 f2 f3 : Nat) (p1 c1 q1 : Int) (u1 u2 u3 : Nat) (A1 A2 : Option Addr) (n1 a1 n2 a2 : Nat) (p2 c2 q2 : Int) (v1 v2 v3 : Nat) (B1 B2 : Option Addr) (m1 d1 m2 d2 : Nat) (w : World) (h : ¬ (n2 ≤ 300 ∧ m2 ≤ 300 ∧ n1 ≤ 10 ∧ m1 ≤ 10)) :
    Calls Try.prog 6 #[.agg #[.int .i64 p, .int .i64 c, .int .i64 n, .float .f64 f1, .float .f64 f2, .float .f64 f3], .agg #[.int .i64 p1, .int .i64 c1, .int .i64 q1, .float .f64 u1, .float .f64 u2, .float .f64 u3, .slice A1 n1 a1, .slice A2 n2 a2], .agg #[.int .i64 p2, .int .i64 c2, .int .i64 q2, .float .f64 v1, .float .f64 v2, .float .f64 v3, .slice B1 m1 d1, .slice B2 m2 d2]] w fun e w' => e = .returned (.bool true) ∧ Below w.heap.size w w' := by
  have HL := hid (LB.start w #[.int .i64 p, .int .i64 c, .int .i64 n, .float .f64 f1, .float .f64 f2, .float .f64 f3] #[.int .i64 p1, .int .i64 c1, .int .i64 q1, .float .f64 u1, .float .f64 u2, .float .f64 u3, .slice A1 n1 a1, .slice A2 n2 a2] #[.int .i64 p2, .int .i64 c2, .int .i64 q2, .float .f64 v1, .float .f64 v2, .float .f64 v3, .slice B1 m1 d1, .slice B2 m2 d2])
  have hk : decide (300 < (n2 : Int)) = true ∨ (decide (300 < (n2 : Int)) = false ∧ decide (300 < (m2 : Int)) = true) ∨ (decide (300 < (n2 : Int)) = false ∧ decide (300 < (m2 : Int)) = false ∧ decide (10 < (n1 : Int)) = true) ∨ (decide (300 < (n2 : Int)) = false ∧ decide (300 < (m2 : Int)) = false ∧ decide (10 < (n1 : Int)) = false ∧ decide (10 < (m1 : Int)) = true) := by
    simp only [decide_eq_true_eq, decide_eq_false_iff_not]
    omega
  clear h
  obtain ⟨N1, hN1⟩ : ∃ N : Int, (n1 : Int) = N := ⟨_, rfl⟩
  obtain ⟨N2, hN2⟩ : ∃ N : Int, (n2 : Int) = N := ⟨_, rfl⟩
  obtain ⟨M1, hM1⟩ : ∃ N : Int, (m1 : Int) = N := ⟨_, rfl⟩
  obtain ⟨M2, hM2⟩ : ∃ N : Int, (m2 : Int) = N := ⟨_, rfl⟩
  rw [hN1, hN2, hM1, hM2] at hk
  rcases hk with b1 | ⟨b1, b2⟩ | ⟨b1, b2, b3⟩ | ⟨b1, b2, b3, b4⟩
  all_goals
    go_enter Try.func6, Try.ntmps6
    go_wp2_with (first
      | (go_at_call 10; with_reducible refine (awake_calls _).mono ?_; rintro e wA ⟨rfl, h1⟩; have HA := hid (HL.out.below h1); clear h1; have kx := HA.out.cellsX; have k1 := kx.2.2.2.2.2.2.1; have k2 := kx.2.2.2.2.2.2.2.1; have k3 := kx.2.2.2.2.2.2.2.2.2.2.2.2.2.2.1; have k4 := kx.2.2.2.2.2.2.2.2.2.2.2.2.2.2.2; clear kx))
    go_ret
    exact ⟨rfl, HA.out.bel⟩
end Go.Proofs.Ytnikcccobfcndaa.Sc
