/- CheckGoesOn: the walk: for any two rows of words the Go text returns true and leaves what was there as it was. -/
import Derived.Test.YtbbpjjbgdemmpaaPureCheckSums
namespace Go.Proofs.Ytbbpjjbgdemmpaa.CheckGoesOnW
open Go.RowKit Go.Proofs.YtbbpjjbgdemmpaaW.PrintWords Go.Proofs.YtbbpjjbgdemmpaaW.PrintLast PCheckSums
set_option linter.unusedVariables false
theorem start_calls (s : Int) (w : World) (h : check_Sum.start = s) : Calls Try.prog 25 #[] w fun e w' => e = .returned (.int .u64 s) ∧ w = w' := by
  subst h; exact check_Sum.start_calls w
def vv (l : List Int) (s : Int) : Int := l.foldl check_Sum.step s
theorem more_calls (s x y : Int) (w : World) (h : check_Sum.step s x = y) : Calls Try.prog 24 #[.int .u64 s, .int .u64 x] w fun e w' => e = .returned (.int .u64 y) ∧ w = w' := by
  subst h; exact check_Sum.more s x w
theorem vv_snoc (l : List Int) (s : Int) (k : Nat) (h : k < l.length) : check_Sum.step (vv (l.take k) s) (rd l (k : Int)) = vv (l.take (k + 1)) s := by
  unfold vv
  rw [List.take_succ_eq_append_getElem h, List.foldl_append]
  simp [rd, List.getD_eq_getElem?_getD, List.getElem?_eq_getElem h]
set_option maxHeartbeats 4000000 in
theorem walk (A0 : Option Addr) (c0 : Nat) (l0 : (List Int)) (A1 : Option Addr) (c1 : Nat) (l1 : (List Int)) (w : World) (hl0 : l0.length ≤ c0) (hr0 : Kd.C (Kd.int .u64) w A0 l0.length l0) (hl1 : l1.length ≤ c1) (hr1 : Kd.C (Kd.int .u64) w A1 l1.length l1) :
    Calls Try.prog 7 #[.slice A0 l0.length c0, .slice A1 l1.length c1] w fun e w' => e = .returned (.bool true) ∧ Below w.heap.size w w' := by
  have HR0 := Aside0.mk hr0
  have HR1 := Aside0.mk hr1
  have HC0 := Aside0.mk hl0
  have HB := Aside0.mk (Below.refl w.heap.size w)
  have HA := Aside0.mk Pure.awake_f
  clear hr0 hr1 hl0 hl1
  by_cases h0 : (l0.length : Int) > 100
  · have b0 : decide (100 < (l0.length : Int)) = true := decide_eq_true h0
    go_enter Try.func7, Try.ntmps7
    go_wp2_with (go_at_call 20; refine (sumplaw07_awake.calls true _ HA.out).mono ?_; rintro e w1 ⟨rfl, hb⟩; replace HB := Aside0.mk (L.bel HB.out hb); clear hb)
    go_ret
    exact ⟨rfl, HB.out⟩
  have b0 : decide (100 < (l0.length : Int)) = false := decide_eq_false h0
  by_cases h1 : (l1.length : Int) > 100
  · have b1 : decide (100 < (l1.length : Int)) = true := decide_eq_true h1
    go_enter Try.func7, Try.ntmps7
    go_wp2_with (go_at_call 20; refine (sumplaw07_awake.calls true _ HA.out).mono ?_; rintro e w1 ⟨rfl, hb⟩; replace HB := Aside0.mk (L.bel HB.out hb); clear hb)
    go_ret
    exact ⟨rfl, HB.out⟩
  have b1 : decide (100 < (l1.length : Int)) = false := decide_eq_false h1
  have N0 : Aside0 (l0.length ≤ 100) := ⟨by omega⟩
  have N1 : Aside0 (l1.length ≤ 100) := ⟨by omega⟩
  clear h0 h1
  go_enter Try.func7, Try.ntmps7
  go_wp2_with (first | (go_at_call 20; refine (sumplaw07_awake.calls true _ HA.out).mono ?_; rintro e w1 ⟨rfl, hb⟩; replace HB := Aside0.mk (L.bel HB.out hb); clear hb) | (go_at_call 23; refine (check_Sum.calls A0 c0 l0 (check_Sum.v l0) _ (Kd.C_below HR0.out HB.out) HC0.out rfl).mono ?_; rintro e w1 ⟨rfl, hb⟩; replace HB := Aside0.mk (L.bel HB.out hb); clear hb))
  go_loopw [5, 22] (fun s i wr => ∃ k : Nat, k ≤ l1.length ∧ i = .int .i64 k ∧ s = .int .u64 (vv (l1.take k) (check_Sum.v l0)) ∧ Aside0 (Below w.heap.size w wr)) (fun s i _ => l1.length - (intOf i).toNat)
  case atStart => exact ⟨0, Nat.zero_le _, rfl, rfl, HB⟩
  case round =>
    clear HB
    obtain ⟨k, hk, rfl, rfl, HB⟩ := hrel
    have hn1 := N1.out
    by_cases hlt : k < l1.length
    · have HS := Aside0.mk (vv_snoc l1 (check_Sum.v l0) k hlt)
      obtain ⟨ad, had, hcell⟩ := Kd.at_int HR1.out (k : Int) (by omega) (by omega)
      subst had
      replace hcell := (HB.out.cell (World.block_lt_of_cell? w _ hcell)).trans hcell
      rw [Int.toNat_natCast] at hcell
      go_wp2_with (go_at_call 24; refine (more_calls _ _ _ _ HS.out).mono ?_; rintro e w1 ⟨rfl, rfl⟩)
      go_roundw
      case rel => exact ⟨k + 1, by omega, by go_num, rfl, HB⟩
      case measure => simp [intOf]; omega
    · obtain rfl : k = l1.length := by omega
      obtain ⟨z1, hz1⟩ : ∃ z : List Int, [] ++ l0 = z := ⟨_, rfl⟩
      obtain ⟨z2, hz2⟩ : ∃ z : List Int, z1 ++ l1 = z := ⟨_, rfl⟩
      obtain ⟨s0, hs0⟩ : ∃ s : Int, check_Sum.start = s := ⟨_, rfl⟩
      obtain ⟨s1, hs1⟩ : ∃ s : Int, vv (l1.take l1.length) (check_Sum.v l0) = s := ⟨_, rfl⟩
      rw [hs1]
      have f1 : Aside0 (check_Sum.f z2 = some s1) := ⟨by
        subst hz2 hz1 hs1
        unfold check_Sum.f; rw [List.take_length]; unfold vv check_Sum.v; rw [List.nil_append, List.foldl_append]⟩
      have f2 : Aside0 (check_Sum.f [] = some s0) := ⟨by subst hs0; rfl⟩
      have nz1 : Aside0 (z1.length ≤ 100) := ⟨by subst hz1; rw [List.nil_append]; exact N0.out⟩
      have Z1 := Aside0.mk hz1
      have Z2 := Aside0.mk hz2
      have S0 := Aside0.mk hs0
      clear hz1 hz2 hs0 hs1
      go_wp2_with (first | ((with_reducible refine gate_builtin (b := .append) (xs := #[.const (.slice none 0 0), .tmp 30]) rfl ?_); at_builtin; refine Kd.R_append_rows (Kd.int .u64) (w0 := w) w.heap.size rfl (.const (.slice none 0 0)) (.tmp 30) 27 28 (.int .u64 0) 8 rfl Try.underlying27 slices_Clone_uint64_uint64.info rfl (by decide) (by omega) (.slice none 0 0) ([] : List Int) l0 _ _ _ (fun _ => True) (fun _ => False) rfl rfl ?aO ?aR (fun _ _ h => h) (fun _ h => h.elim) ?aF ?aB ?aS ?aL ?_; (case aO => exact Kd.R_nil _ _ _ _ _); (case aR => exact Kd.C_below HR0.out HB.out); (case aF => exact fun _ _ => trivial); (case aB => exact HB.out); (case aS => exact HB.out.size); (case aL => have := N0.out; simp only [List.length_nil]; omega); intro v2 w2 ho hb hg_ hat_; rw [Z1.out] at ho; clear hg_ hat_; clear HB; have HO := Aside0.mk ho; have HB := Aside0.mk hb; clear ho hb) | ((with_reducible refine gate_builtin (b := .append) (xs := #[.tmp 31, .tmp 32]) rfl ?_); at_builtin; refine Kd.R_append_rows (Kd.int .u64) (w0 := w) w.heap.size rfl (.tmp 31) (.tmp 32) 27 28 (.int .u64 0) 8 rfl Try.underlying27 slices_Clone_uint64_uint64.info rfl (by decide) (by omega) v2 z1 l1 _ _ _ (fun _ => True) (fun _ => False) rfl rfl ?bO ?bR (fun _ _ h => h) (fun _ h => h.elim) ?bF ?bB ?bS ?bL ?_; (case bO => exact HO.out); (case bR => exact Kd.C_below HR1.out HB.out); (case bF => exact fun _ _ => trivial); (case bB => exact HB.out); (case bS => exact HB.out.size); (case bL => have := nz1.out; have := N1.out; omega); intro v3 w3 ho hb hg_ hat_; rw [Z2.out] at ho; clear hg_ hat_; clear HB HO; have HO := Aside0.mk ho; have HB := Aside0.mk hb; clear ho hb; obtain ⟨Ao, co, eo⟩ := Kd.R_slice HO.out; subst eo) | (go_at_call 23; refine (check_Sum.calls Ao co z2 s1 _ (Kd.R_reads' HO.out).2.2 (Kd.R_reads' HO.out).2.1 f1.out).mono ?_; rintro e w1 ⟨rfl, hb⟩; clear HO; replace HB := Aside0.mk (L.bel HB.out hb); clear hb) | (go_at_call 23; refine (check_Sum.calls none 0 [] s0 _ (Kd.C_nil _ _) (Nat.le_refl _) f2.out).mono ?_; rintro e w1 ⟨rfl, hb⟩; replace HB := Aside0.mk (L.bel HB.out hb); clear hb) | (go_at_call 25; refine (start_calls s0 _ S0.out).mono ?_; rintro e w1 ⟨rfl, rfl⟩))
      go_ret
      exact ⟨L.ret_bool (by simp [*]), HB.out⟩
theorem walk2 (A0 : Option Addr) (c0 : Nat) (l0 : (List Int)) (A1 : Option Addr) (c1 : Nat) (l1 : (List Int)) (w : World) (hl0 : l0.length ≤ c0) (hr0 : Kd.C (Kd.int .u64) w A0 l0.length l0) (g0 : (l0.length ≤ maxLen ∧ ∀ y1 ∈ l0, (Lit.int .u64 y1).wf = true)) (y0 : l0.length * 8 ≤ 140737488351232) (hl1 : l1.length ≤ c1) (hr1 : Kd.C (Kd.int .u64) w A1 l1.length l1) (g1 : (l1.length ≤ maxLen ∧ ∀ y1 ∈ l1, (Lit.int .u64 y1).wf = true)) (y1 : l1.length * 8 ≤ 140737488351232) :
    Calls Try.prog 7 #[.slice A0 l0.length c0, .slice A1 l1.length c1] w fun e w' => e = .returned (.bool true) ∧ Below w.heap.size w w' := walk A0 c0 l0 A1 c1 l1 w hl0 hr0 hl1 hr1
end Go.Proofs.Ytbbpjjbgdemmpaa.CheckGoesOnW
