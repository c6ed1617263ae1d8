/- Words: Unpack. -/
import Derived.Test.YtlojhiacaleokaaWr
import Derived.ScopeJumps
namespace Go.Proofs.Ytlojhiacaleokaa.PWD
open Go.RowKit Go.Proofs.YtlojhiacaleokaaW.PrintWords Go.Proofs.YtlojhiacaleokaaW.PrintLast Go.Proofs.YtlojhiacaleokaaW.PrintMore
set_option linter.unusedVariables false
set_option linter.unusedSimpArgs false
theorem scope_jumps1 {P : Program} {a : Act} {w : World} {Q : Exit → Act → World → Prop} {c R : Code} (l : Nat) (J : Act → World → Prop) (μ : Act → World → Nat) (hf : findLabel c l = some (Code.seq Code.skip R))
    (pass : ∀ a w, J a w → R.wp P (Exit.jump l (fun a' w' => J a' w' ∧ μ a' w' < μ a w) Q) a w)
    (first : (∀ a w, J a w → R.wp P (Exit.jump l J Q) a w) → c.wp P (Exit.jump l J Q) a w) : (Code.scope c).wp P Q a w :=
  wp_scope_jumps l J μ hf (first fun a w h => wp_mono (pass a w h) (by
    intro e a' w' hq
    cases e <;> first | exact hq | exact ⟨hq.1, hq.2.1⟩)) (fun a w h => wp_seq (wp_skip (pass a w h)))
def ub (l : List Int) (i : Nat) : Int := rd l ((i : Int) / 8) / 2 ^ (8 * (i % 8)) % 256
def outs (l : List Int) (n i : Nat) : List Int := (List.range i).map (ub l) ++ List.replicate (n - i) 0
theorem outs_len (l : List Int) (n i : Nat) (h : i ≤ n) : (outs l n i).length = n := by simp [outs]; omega
theorem outs_set (l : List Int) (n i : Nat) (h : i < n) : (outs l n i).set i (ub l i) = outs l n (i + 1) := by
  unfold outs
  obtain ⟨d, rfl⟩ : ∃ d, n = i + 1 + d := ⟨n - i - 1, by omega⟩
  rw [show i + 1 + d - i = d + 1 by omega, show i + 1 + d - (i + 1) = d by omega, List.replicate_succ, List.range_succ, List.map_append, List.set_append_right _ _ (by simp)]
  simp
def J (w : World) (A0 : Option Addr) (c0 : Nat) (l0 : List Int) (n : Nat) (a' : Act) (w' : World) : Prop :=
  ∃ (A6 : Option Addr) (c6 i : Nat) (u2 u3 u8 u9 u10 u11 u12 u13 u14 u15 u16 u17 u18 u19 u20 u21 u22 u23 u24 u25 u26 u27 u28 u29 u30 u31 u32 u33 u34 u35 u36 u37 u38 u39 u40 u41 u42 : Value), i ≤ n ∧ a' = { tmps := #[.slice A0 l0.length c0, .int .i64 (n : Int), u2, u3, .slice none 0 0, .bool false, .slice A6 n c6, .int .i64 (i : Int), u8, u9, u10, u11, u12, u13, u14, u15, u16, u17, u18, u19, u20, u21, u22, u23, u24, u25, u26, u27, u28, u29, u30, u31, u32, u33, u34, u35, u36, u37, u38, u39, u40, u41, u42], defers := [] } ∧ Aside0 (Kd.R (Kd.int .u8) 5 w' w.heap.size (fun _ => True) (.slice A6 n c6) (outs l0 n i)) ∧ Aside0 (Below w.heap.size w w')
set_option maxHeartbeats 4000000 in
theorem unpack_calls (A0 : Option Addr) (c0 : Nat) (l0 : List Int) (n : Nat) (w : World) (hr0 : Kd.C (Kd.int .u64) w A0 l0.length l0) (hc0 : l0.length ≤ c0) (k : Nat) (P : List Int) (b : Bool) (hn : n ≤ 500) (hnl : n ≤ 8 * l0.length) (hnd : words_Need.f (n : Int) = some (l0.length : Int)) (hP : words_Pack.f k (outs l0 n n) = some P) (hE : slices_Equal_uint64_uint64.f k P l0 = some b) :
    Calls Try.prog 7 #[.slice A0 l0.length c0, .int .i64 (n : Int)] w fun e w' => ∃ v0 : Value, e = .returned (.tuple #[v0, .bool b]) ∧ Kd.R (Kd.int .u8) 5 w' w.heap.size (fun _ => True) v0 (if b = true then outs l0 n n else []) ∧ Below w.heap.size w w' := by
  have HC0 := Aside0.mk hc0
  have HP := Aside0.mk hP
  have HE := Aside0.mk hE
  have HND := Aside0.mk hnd
  clear hP hE hnd
  have HR0 := Aside0.mk hr0
  have HN := Aside0.mk hn
  have HNL := Aside0.mk hnl
  clear hr0 hn hnl
  go_enter Try.func7, Try.ntmps7
  go_wp2
  refine scope_jumps1 0 (J w A0 c0 l0 n) (fun a' _ => n - (intOf (a'.tmps.getD 7 undef)).toNat) rfl ?_ ?_
  · rintro a w' ⟨A6, c6, i, u2, u3, u8, u9, u10, u11, u12, u13, u14, u15, u16, u17, u18, u19, u20, u21, u22, u23, u24, u25, u26, u27, u28, u29, u30, u31, u32, u33, u34, u35, u36, u37, u38, u39, u40, u41, u42, hi, rfl, HO, HB⟩
    by_cases h1 : i < n
    · have b1 : decide ((i : Int) < (n : Int)) = true := decide_eq_true (by omega)
      have hn := HN.out
      have hnl := HNL.out
      obtain ⟨ad, had, hcell⟩ := Kd.at_int HR0.out ((i : Int) / 8) (by omega) (by omega)
      subst had
      replace hcell := (HB.out.cell (World.block_lt_of_cell? w _ hcell)).trans hcell
      rw [show ((i : Int) / 8).toNat = i / 8 by omega] at hcell
      have hlen := outs_len l0 n i hi
      obtain ⟨g6, cap6, e6, hb6, hlt6, cells6, hcells6⟩ := Kd.R_form HO.out (by omega)
      rw [hlen] at e6
      cases e6
      have hx := Kd.R_celln 0 HO.out (i : Int) (by omega) (by omega)
      rw [Int.toNat_natCast] at hx
      obtain ⟨hx1, hx2⟩ := hx
      have hput := Kd.R_putn HO.out (i : Int) (ub l0 i)
      rw [Int.toNat_natCast, outs_set l0 n i h1] at hput
      have HPUT := Aside0.mk hput
      have HBG := Aside0.mk hb6
      clear hput hb6
      go_wp2
      go_step3
      rw [show (i : Int) + 1 = ((i + 1 : Nat) : Int) by omega]
      refine ⟨rfl, ⟨_, _, i + 1, _, _, _, _, _, _, _, _, _, _, _, _, _, _, _, _, _, _, _, _, _, _, _, _, _, _, _, _, _, _, _, _, _, _, _, _, _, by omega, rfl, HPUT, ⟨HB.out.setCell HBG.out _⟩⟩, ?_⟩
      simp [intOf]; omega
    · obtain rfl : i = n := by omega
      have b1 : decide ((i : Int) < (i : Int)) = false := decide_eq_false (by omega)
      have hlen := outs_len l0 i i (Nat.le_refl _)
      have hpk := words_Pack.calls k A6 c6 (outs l0 i i) P w' (Kd.R_reads' HO.out).2.2 (by rw [hlen]; exact (Kd.R_reads' HO.out).2.1) HP.out
      rw [hlen] at hpk
      have HPK := Aside0.mk hpk
      clear hpk
      cases b
      all_goals
        go_wp2_with (first | (go_at_call 10; (with_reducible refine HPK.out.mono ?_); rintro e w2 ⟨v0, rfl, hr, hb⟩; obtain ⟨A3, c3, e3⟩ := Kd.R_slice hr; subst e3; have HR2 := Aside0.mk hr; have HO2 := Aside0.mk (Kd.R_below HO.out hb); have HB2 := Aside0.mk (HB.out.trans (hb.mono HB.out.size)); clear hr hb) | (go_at_call 22; (with_reducible refine (slices_Equal_uint64_uint64.calls k A3 c3 P A0 c0 l0 _ _ (Kd.R_reads' HR2.out).2.2 (Kd.R_reads' HR2.out).2.1 (Kd.C_below HR0.out HB2.out) HC0.out HE.out).mono ?_); rintro e w3 ⟨rfl, ⟨nd, rfl⟩⟩))
        simp only [Exit.jump]
        go_ret2
      · exact ⟨_, rfl, by rw [if_neg (by decide)]; exact Kd.R_nil _ _ _ _ _, pw_below_drewN HB2.out _⟩
      · exact ⟨_, rfl, by rw [if_pos rfl]; exact Kd.R_drewN HO2.out _, pw_below_drewN HB2.out _⟩
  · intro h
    have hn := HN.out
    have b0 : decide ((n : Int) < 0) = false := decide_eq_false (by omega)
    have b2 : ((l0.length : Int) != (l0.length : Int)) = false := bne_self_eq_false _
    have HB := Aside0.mk (Below.refl w.heap.size w)
    go_wp2_with (first | (go_at_call 13; (with_reducible refine (words_Need.calls (n : Int) (l0.length : Int) _ HND.out).mono ?_); rintro e w1 ⟨rfl, ⟨nd, rfl⟩⟩) | ((with_reducible refine gate_dst (N := 18) rfl ?_); refine Kd.R_make (w0 := w) (Kd.int .u8) w.heap.size 5 rfl (N := 18) rfl 22 _ _ rfl (n : Int) rfl rfl Try.underlying22 (.int .u8 0) 1 info5 rfl (by decide) (by omega) 0 (ok := fun _ => True) (okp := fun _ => True) rfl (fun _ hk => hk) trivial (by omega) (by rw [Int.toNat_natCast]; have := HN.out; omega) (pw_below_drewN HB.out _) (Nat.le_refl _) ?_; intro v6 w6 ho hb hg_ hnew_; clear hg_ hnew_; rw [Int.toNat_natCast] at ho; obtain ⟨A6, c6, e6⟩ := Kd.R_slice ho; subst e6; rw [List.length_replicate]; rw [List.length_replicate] at ho; have HO := Aside0.mk ho; have HB6 := Aside0.mk hb; clear ho hb))
    go_step3
    rename_i hK
    refine hK _ _ ?_
    refine h _ _ ⟨A6, c6, 0, _, _, _, _, _, _, _, _, _, _, _, _, _, _, _, _, _, _, _, _, _, _, _, _, _, _, _, _, _, _, _, _, _, _, _, _, _, by omega, rfl, ⟨by unfold outs; exact HO.out⟩, HB6⟩
end Go.Proofs.Ytlojhiacaleokaa.PWD
