/- scripts: the plan of no bytes; awake. -/
import Derived.Test.YtnikcccobfcndaaYg
import Derived.Deep.OwnRows
import Derived.WalkMore
namespace Go.Proofs.Ytnikcccobfcndaa.Sc
open Go.RowKit FT Go.Proofs.YtnikcccobfcndaaW.PrintWords Go.Proofs.YtnikcccobfcndaaW.PrintLast Go.Proofs.YtnikcccobfcndaaW.PrintMore
set_option linter.unusedVariables false
set_option linter.unusedSimpArgs false
attribute [local go_sem] run_store_float'
set_option maxHeartbeats 4000000 in
theorem next_nil (tk : Nat) (w : World) (h : w.cell? ⟨tk, 0, none⟩ = some (.slice none 0 0)) : Calls Try.prog 26 #[.pointer (some ⟨tk, 0, none⟩)] w fun e w' => e = .returned (.int .i64 0) ∧ w = w' := by
  go_enter Try.func26, Try.ntmps26
  go_wp2
  go_ret
  exact ⟨rfl, rfl⟩
theorem info38 : (Try.prog.info? 38).map (fun i => (i.zero, i.size, i.bytes)) = some (some (.slice none 0 0), 1, 24) := by kernel_rfl
theorem mk33 (m : Nat) (hm : m ≤ 20000) (w : World) : (Instr.makeSlice 33 (.int .i64 (m : Int)) (.int .i64 (m : Int))).run Try.prog w = .ok (.slice (some ⟨w.heap.size, 0, none⟩) m m) (w.alloc (.cells (Array.replicate m (.slice none 0 0)) 38)) := by
  have e : madeCells #[Value.slice none 0 0] m = Array.replicate m (Value.slice none 0 0) := by
    apply Array.ext
    · simp [madeCells]
    · intro i h1 h2
      simp [madeCells, Nat.mod_one]
  rw [← e]
  exact run_make_row' (P := Try.prog) 33 38 (.slice none 0 0) 24 Try.underlying33 info38 rfl .i64 .i64 m (by omega) (by omega) w
def Z36 : Array Value := #[.int .i64 0, .int .i64 0, .int .i64 0, .float .f64 0, .float .f64 0, .float .f64 0, .slice none 0 0, .slice none 0 0]
def P0 (g : Nat) : Array Value := #[.int .i64 64, .int .i64 8, .int .i64 1, .float .f64 0, .float .f64 0, .float .f64 0, .slice (some ⟨g, 0, none⟩) 1 1, .slice none 0 0]
set_option maxHeartbeats 8000000 in
set_option maxRecDepth 100000 in
theorem take_nil (w : World) : Calls Try.prog 11 #[.slice none 0 0] w fun e w' => ∃ g, e = .returned (.agg (P0 g)) ∧ Below w.heap.size w w' := by
  have hmk := mk33 1 (by decide)
  have hmk2 : ∀ w, (Instr.makeSlice 33 (.int .i64 1) (.int .i64 1)).run Try.prog w = .ok (.slice (some ⟨w.heap.size, 0, none⟩) 1 1) (w.alloc (.cells #[.slice none 0 0] 38)) := hmk
  obtain ⟨W0, hW0⟩ : ∃ W0, W0 = (w.alloc (.cells #[.int .i64 0, .int .i64 0, .int .i64 0, .float .f64 0, .float .f64 0, .float .f64 0, .slice none 0 0, .slice none 0 0] 36)).alloc (.cells #[.slice none 0 0] 75) := ⟨_, rfl⟩
  have HW : Hid (Below w.heap.size w W0) := hid (by rw [hW0]; exact below_alloc (below_alloc (Below.refl _ _) _) _)
  have QF : Hid (Calls Try.prog 14 #[] W0 fun e w' => ∃ r, e = .returned (.agg #[.float .f64 0, .float .f64 9223372036854775808, .float .f64 4607182418800017408, .float .f64 4602678819172646912, .float .f64 4598175219545276416, .float .f64 4611686018427387904, .float .f64 13830554455654793216, .float .f64 9218868437227405312, .float .f64 18442240474082181120, .float .f64 r, .float .f64 9094988921128908188, .float .f64 118622047889322841, .float .f64 4613937818241073152, .float .f64 4604930618986332160, .float .f64 4609434218613702656, .float .f64 4621819117588971520]) ∧ Hid (w'.cell? ⟨w.heap.size + 1, 0, none⟩ = some (.slice none 0 0)) ∧ Hid (w'.heap[w.heap.size]? = some (.cells Z36 36 (0, 0))) ∧ Hid (Below w.heap.size w w')) := hid ((floats_calls W0).mono (by
    rintro e w' ⟨r, h1, h2, h3⟩
    have k0 : W0.heap[w.heap.size + 1]? = some (.cells #[.slice none 0 0] 75 (0, 0)) := by rw [hW0]; exact blk_new2 w _ _
    have k2 : W0.heap[w.heap.size]? = some (.cells Z36 36 (0, 0)) := by rw [hW0]; exact blk_old w _ _
    exact ⟨r, h1, hid (by rw [cell_of_row w' _ _ _ _ _ (blk_keep k0 h3)]; rfl), hid (blk_keep k2 h3), hid (L.bel HW.out h3)⟩))
  rw [hW0] at QF
  clear hmk
  go_enter Try.func11, Try.ntmps11
  go_wp2_with (first
    | (go_at_call 14; (with_reducible refine QF.out.mono ?_); rintro e wF ⟨r, rfl, HT, HZ, HF⟩)
    | (go_at_call 26; (with_reducible refine (next_nil (w.heap.size + 1) _ ?hc).mono ?_); (case hc => exact cell_keep HT.out (by repeat (first | exact Below.refl _ _ | refine below_drew ?_ | refine below_alloc ?_ _ | refine below_drewN ?_ _ | refine Below.setCell ?_ (by simp) _))); rintro e w2 ⟨rfl, rfl⟩))
  go_loopg [8] 1 (fun kq v8 w' => Hid (w'.cell? ⟨w.heap.size + 1, 0, none⟩ = some (.slice none 0 0)) ∧ Hid (w'.heap[wF.heap.size + 1]? = some (.cells (P0 (wF.heap.size + 1 + 1)) 36 (0, 0))) ∧ Hid (w'.heap[w.heap.size]? = some (.cells Z36 36 (0, 0))) ∧ Hid (Below w.heap.size w w'))
  case atStart => exact ⟨hid (cell_keep HT.out (below_alloc (below_alloc (below_alloc (Below.refl _ _) _) _) _)), hid (blk_keep (blk_new2 wF _ _) (below_alloc (Below.refl _ _) _)), hid (blk_keep HZ.out (below_alloc (below_alloc (below_alloc (Below.refl _ _) _) _) _)), hid (L.bel HF.out (below_alloc (below_alloc (below_alloc (Below.refl _ _) _) _) _))⟩
  case round =>
    obtain ⟨T1, T2, T3, T4⟩ := hrel
    have k1 := T1.out
    have e2 : Hid (wr.heap[wF.heap.size + 1]? = some (.cells (P0 (wF.heap.size + 1 + 1)) 36 (0, 0))) := T2
    have e3 : Hid (wr.heap[w.heap.size]? = some (.cells Z36 36 (0, 0))) := T3
    have h6 : (Try.prog.info? 36).map (·.size) = some (P0 (wF.heap.size + 1 + 1)).size := by kernel_rfl
    go_wp2_with (first | ((with_reducible refine wpList_load_row (o := ⟨some 115, _, _, _, _, _⟩) ?hgd 36 (.tmp 6) ?ho (wF.heap.size + 1) ?hx 36 (P0 (wF.heap.size + 1 + 1)) (0, 0) _ e2.out Try.underlying36 ?hd h6 ?_); (case hgd => rfl); (case ho => rfl); (case hx => rfl); (case hd => rfl)) | ((with_reducible refine wpList_store_row rfl 36 _ _ rfl w.heap.size (P0 (wF.heap.size + 1 + 1)) ?hx ?hy 36 _ e3.out h6 ?ho ?h1 ?_); (case hx => rfl); (case hy => rfl); (case ho => rfl); (case h1 => simp [P0, Value.oneCell'])))
    exact bodyPost_ret (v := .agg (P0 _)) (L.results_c Try.results11 _ _ w.heap.size 36 (P0 _) (0, 0) _ rfl (setRow_heap _ _ _ _ 36 (0, 0) T3.out) Try.underlying36 rfl (by kernel_rfl)) rfl ⟨_, rfl, by
      have hb := T4.out
      refine ⟨hb.os, hb.tape, hb.output, by rw [setRow_size]; exact hb.size, fun k hk => ?_⟩
      rw [setRow_other _ _ _ _ (by omega)]
      exact hb.block k hk⟩
set_option maxHeartbeats 8000000 in
set_option maxRecDepth 100000 in
theorem awake_calls (w : World) : Calls Try.prog 10 #[] w fun e w' => e = .returned (.bool true) ∧ Below w.heap.size w w' := by
  have QT := hid (take_nil w)
  have QR : Hid (∀ W, Calls Try.prog 17 #[.agg #[.int .i64 64, .int .i64 8, .int .i64 1, .float .f64 0, .float .f64 0, .float .f64 0]] W fun e w' => e = .returned (.bool true) ∧ Below W.heap.size W w') := hid fun W => right_calls 64 8 1 0 0 0 W
  go_enter Try.func10, Try.ntmps10
  go_wp2_with (first
    | (go_at_call 11; (with_reducible refine QT.out.mono ?_); rintro e wF ⟨g, rfl, h1⟩; have HF := hid h1; clear h1)
    | ((with_reducible refine L.wpList_store_new rfl 36 _ _ rfl 36 _ (P0 g) ?hx ?hy ?hi ?ho ?h1 ?_); (case hx => rfl); (case hy => rfl); (case hi => kernel_rfl); (case ho => rfl); (case h1 => simp [P0, Value.oneCell']); unfold P0)
    | (go_at_call 17; (with_reducible refine (QR.out _).mono ?_); rintro e w3 ⟨rfl, h2⟩; have H2 := hid h2; clear h2))
  go_ret
  exact ⟨rfl, L.bel HF.out (L.bel (below_alloc (Below.refl _ _) _) H2.out)⟩
end Go.Proofs.Ytnikcccobfcndaa.Sc
