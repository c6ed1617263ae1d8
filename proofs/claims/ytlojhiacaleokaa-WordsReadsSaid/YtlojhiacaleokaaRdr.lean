/- Words: the reader: what it holds; Bad, spoil, Left, take. -/
import Derived.Test.YtlojhiacaleokaaUn3
import Derived.Test.YtlojhiacaleokaaL
namespace Go.Proofs.Ytlojhiacaleokaa.PWD
open Go.RowKit Go.Proofs.YtlojhiacaleokaaW.PrintWords Go.Proofs.YtlojhiacaleokaaW.PrintLast Go.Proofs.YtlojhiacaleokaaW.PrintMore
set_option linter.unusedVariables false
set_option linter.unusedSimpArgs false
def Rd (w : World) (base g : Nat) (L : List Int) (bad : Bool) : Prop := ∃ A c, w.heap[g]? = some (.cells #[.slice A L.length c, .bool bad] 49 (0, 0)) ∧ base ≤ g ∧ L.length ≤ c ∧ Kd.F (Kd.int .u64) w (fun k => k ≠ g) A L.length L
theorem Rd_below {w w' : World} {base g : Nat} {L : List Int} {bad : Bool} (h : Rd w base g L bad) (hb : Below w.heap.size w w') : Rd w' base g L bad := by
  obtain ⟨A, c, h1, h2, h3, h4⟩ := h
  exact ⟨A, c, blk_below h1 hb, h2, h3, Kd.F_below h4 hb⟩
theorem Rd_drewN {w : World} {base g : Nat} {L : List Int} {bad : Bool} (h : Rd w base g L bad) (n : Nat) : Rd (w.drewN n) base g L bad := Rd_below h (pw_below_drewN (Below.refl _ _) n)
theorem Rd_lower {w : World} {base base' g : Nat} {L : List Int} {bad : Bool} (h : Rd w base g L bad) (hb : base' ≤ base) : Rd w base' g L bad := by
  obtain ⟨A, c, h1, h2, h3⟩ := h
  exact ⟨A, c, h1, Nat.le_trans hb h2, h3⟩
theorem Rd_size {w : World} {base g : Nat} {L : List Int} {bad : Bool} (h : Rd w base g L bad) : base ≤ w.heap.size := by
  obtain ⟨A, c, h1, h2, h3⟩ := h
  exact Nat.le_trans h2 (Nat.le_of_lt (blk_lt h1))
theorem Rd_spoil {w : World} {base g : Nat} {L : List Int} {bad : Bool} (h : Rd w base g L bad) : Rd (w.setCell ⟨g, 1, none⟩ (.bool true)) base g L true := by
  obtain ⟨A, c, h1, h2, h3, h4⟩ := h
  exact ⟨A, c, blk_set h1 1 _, h2, h3, Kd.F_far h4 (fun k hk => hk) _⟩
theorem bad_calls (base g : Nat) (L : List Int) (bad : Bool) (w : World) (HR : Rd w base g L bad) :
    Calls Try.prog 20 #[.pointer (some ⟨g, 0, none⟩)] w fun e w' => e = .returned (.bool bad) ∧ Drawn0 w w' := by
  obtain ⟨A, c, h1, h2, h3, h4⟩ := HR
  have hc0 : w.cell? ⟨g, 0, none⟩ = some (.slice A L.length c) := blk_cell h1 0
  have hc1 : w.cell? ⟨g, 1, none⟩ = some (.bool bad) := blk_cell h1 1
  clear h2 h3 h4
  go_enter Try.func20, Try.ntmps20
  go_wp2
  go_ret
  exact ⟨rfl, ⟨0, rfl⟩⟩
theorem bad_nil (w : World) :
    Calls Try.prog 20 #[.pointer none] w fun e w' => e = .returned (.bool true) ∧ Drawn0 w w' := by
  go_enter Try.func20, Try.ntmps20
  go_wp2
  go_ret
  exact ⟨rfl, ⟨0, rfl⟩⟩
theorem spoil_calls (base g : Nat) (L : List Int) (bad : Bool) (w : World) (HR : Rd w base g L bad) :
    Calls Try.prog 24 #[.pointer (some ⟨g, 0, none⟩)] w fun e w' => e = .returned (.tuple #[]) ∧ Rd w' base g L true ∧ Below base w w' := by
  obtain ⟨A, c, h1, h2, h3, h4⟩ := HR
  have hc0 : w.cell? ⟨g, 0, none⟩ = some (.slice A L.length c) := blk_cell h1 0
  have hc1 : w.cell? ⟨g, 1, none⟩ = some (.bool bad) := blk_cell h1 1
  have hf1 := blk_frozen h1 1
  go_enter Try.func24, Try.ntmps24
  go_wp2
  go_end0
  exact ⟨rfl, Rd_spoil ⟨A, c, h1, h2, h3, h4⟩, (Below.refl base w).setCell h2 _⟩
theorem spoil_nil (w : World) :
    Calls Try.prog 24 #[.pointer none] w fun e w' => e = .returned (.tuple #[]) ∧ Drawn0 w w' := by
  go_enter Try.func24, Try.ntmps24
  go_wp2
  go_end0
  exact ⟨rfl, ⟨0, rfl⟩⟩
set_option maxHeartbeats 2000000 in
theorem left_calls (base g : Nat) (L : List Int) (bad : Bool) (w : World) (HR : Rd w base g L bad) :
    Calls Try.prog 21 #[.pointer (some ⟨g, 0, none⟩)] w fun e w' => e = .returned (.int .i64 (if bad = true then 0 else (L.length : Int))) ∧ Drawn0 w w' := by
  have HB := Aside0.mk (bad_calls base g L bad w HR)
  obtain ⟨A, c, h1, h2, h3, h4⟩ := HR
  have hc0 : w.cell? ⟨g, 0, none⟩ = some (.slice A L.length c) := blk_cell h1 0
  have hc1 : w.cell? ⟨g, 1, none⟩ = some (.bool bad) := blk_cell h1 1
  clear h2 h3 h4
  cases bad with
  | true =>
    go_enter Try.func21, Try.ntmps21
    go_wp2_with (go_at_call 20; (with_reducible refine HB.out.mono ?_); rintro e w1 ⟨rfl, ⟨nd, rfl⟩⟩)
    go_ret
    exact ⟨rfl, ⟨_, rfl⟩⟩
  | false =>
    go_enter Try.func21, Try.ntmps21
    go_wp2_with (go_at_call 20; (with_reducible refine HB.out.mono ?_); rintro e w1 ⟨rfl, ⟨nd, rfl⟩⟩)
    go_ret
    exact ⟨rfl, ⟨_, rfl⟩⟩
set_option maxHeartbeats 2000000 in
theorem take_bad (base g : Nat) (L : List Int) (n : Int) (w : World) (HR : Rd w base g L true) :
    Calls Try.prog 25 #[.pointer (some ⟨g, 0, none⟩), .int .i64 n] w fun e w' => e = .returned (.slice none 0 0) ∧ Rd w' base g L true ∧ Below base w w' := by
  have HB := Aside0.mk (bad_calls base g L true w HR)
  have HQ := Aside0.mk HR
  clear HR
  go_enter Try.func25, Try.ntmps25
  go_wp2_with (first | (go_at_call 20; (with_reducible refine HB.out.mono ?_); rintro e w1 ⟨rfl, ⟨nd, rfl⟩⟩) | (go_at_call 24; (with_reducible refine (spoil_calls base g L true _ (Rd_drewN HQ.out _)).mono ?_); rintro e w2 ⟨rfl, hr2, hb2⟩))
  go_ret
  exact ⟨rfl, hr2, (pw_below_drewN (Below.refl _ _) _).trans hb2⟩
set_option maxHeartbeats 2000000 in
theorem take_over (base g : Nat) (L : List Int) (n : Int) (w : World) (hn : (L.length : Int) < n) (HR : Rd w base g L false) :
    Calls Try.prog 25 #[.pointer (some ⟨g, 0, none⟩), .int .i64 n] w fun e w' => e = .returned (.slice none 0 0) ∧ Rd w' base g L true ∧ Below base w w' := by
  have HB := Aside0.mk (bad_calls base g L false w HR)
  have HQ := Aside0.mk HR
  have hd : decide ((L.length : Int) < n) = true := decide_eq_true hn
  obtain ⟨A, c, h1, h2, h3, h4⟩ := HR
  have hc0 : w.cell? ⟨g, 0, none⟩ = some (.slice A L.length c) := blk_cell h1 0
  clear h1 h2 h3 h4 hn
  go_enter Try.func25, Try.ntmps25
  go_wp2_with (first | (go_at_call 20; (with_reducible refine HB.out.mono ?_); rintro e w1 ⟨rfl, ⟨nd, rfl⟩⟩) | (go_at_call 24; (with_reducible refine (spoil_calls base g L false _ (Rd_drewN HQ.out _)).mono ?_); rintro e w2 ⟨rfl, hr2, hb2⟩))
  go_ret
  exact ⟨rfl, hr2, (pw_below_drewN (Below.refl _ _) _).trans hb2⟩
theorem Rd_cut {w : World} {base g : Nat} {L : List Int} {A : Option Addr} {c n : Nat} (h1 : w.heap[g]? = some (.cells #[.slice A L.length c, .bool false] 49 (0, 0))) (h2 : base ≤ g) (h3 : L.length ≤ c) (h4 : Kd.F (Kd.int .u64) w (fun k => k ≠ g) A L.length L) (hn : n ≤ L.length) :
    Rd (w.setCell ⟨g, 0, none⟩ (.slice (if c = n then A else A.map (·.add n)) (L.length - n) (c - n))) base g (L.drop n) false := by
  refine ⟨_, _, (blk_set h1 0 _).trans (by rw [List.length_drop]; rfl), h2, by rw [List.length_drop]; omega, ?_⟩
  refine Kd.F_far (p := ⟨g, 0, none⟩) (Kd.F_imp h4 (fun W hW => ?_)) (fun k hk => hk) _
  have := Kd.C_drop hW hn h3
  have e1 : (Kd.int IntKind.u64).sz = 1 := rfl
  simp only [e1, Nat.mul_one] at this
  exact this
theorem take_C {w : World} {g : Nat} {L : List Int} {A : Option Addr} {n : Nat} (h4 : Kd.F (Kd.int .u64) w (fun k => k ≠ g) A L.length L) (hn : n ≤ L.length) (v : Value) :
    Kd.C (Kd.int .u64) (w.setCell ⟨g, 0, none⟩ v) A n (L.take n) := by
  have := Kd.C_take (Kd.F_now (Kd.F_far (p := ⟨g, 0, none⟩) h4 (fun k hk => hk) v)) hn
  rw [List.length_take, Nat.min_eq_left hn] at this
  exact this
set_option maxHeartbeats 2000000 in
theorem take_ok (base g : Nat) (L : List Int) (n : Nat) (w : World) (hn : n ≤ L.length) (HR : Rd w base g L false) :
    Calls Try.prog 25 #[.pointer (some ⟨g, 0, none⟩), .int .i64 (n : Int)] w fun e w' => ∃ A c, e = .returned (.slice A n c) ∧ n ≤ c ∧ Kd.C (Kd.int .u64) w' A n (L.take n) ∧ Rd w' base g (L.drop n) false ∧ Below base w w' := by
  have HB := Aside0.mk (bad_calls base g L false w HR)
  have HQ := Aside0.mk HR
  have hd : decide ((L.length : Int) < (n : Int)) = false := decide_eq_false (by omega)
  obtain ⟨A, c, h1, h2, h3, h4⟩ := HR
  have hc0 : w.cell? ⟨g, 0, none⟩ = some (.slice A L.length c) := blk_cell h1 0
  have hf0 := blk_frozen h1 0
  have H1 := Aside0.mk h1
  have H2 := Aside0.mk h2
  have H3 := Aside0.mk h3
  have H4 := Aside0.mk h4
  clear h1 h2 h3 h4
  go_enter Try.func25, Try.ntmps25
  go_wp2_with (go_at_call 20; (with_reducible refine HB.out.mono ?_); rintro e w1 ⟨rfl, ⟨nd, rfl⟩⟩)
  case inl h =>
    subst h
    go_ret
    have hcut := Rd_cut (w := w.drewN nd) (blk_drewN H1.out nd) H2.out H3.out (Kd.F_drewN H4.out nd) hn
    rw [if_pos rfl, Nat.sub_self] at hcut
    exact ⟨_, _, rfl, Nat.le_refl _, take_C (Kd.F_drewN H4.out nd) hn _, hcut, (pw_below_drewN (Below.refl _ _) _).setCell H2.out _⟩
  case inr h =>
    go_ret
    have hcut := Rd_cut (w := w.drewN nd) (blk_drewN H1.out nd) H2.out H3.out (Kd.F_drewN H4.out nd) hn
    rw [if_neg h] at hcut
    exact ⟨_, _, rfl, Nat.le_trans hn H3.out, take_C (Kd.F_drewN H4.out nd) hn _, hcut, (pw_below_drewN (Below.refl _ _) _).setCell H2.out _⟩
  all_goals exact absurd (Nat.le_trans hn H3.out) (by assumption)
end Go.Proofs.Ytlojhiacaleokaa.PWD
