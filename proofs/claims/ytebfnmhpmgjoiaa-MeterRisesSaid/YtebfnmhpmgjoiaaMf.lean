/- the meter: the law MeterBoxes. -/
import Derived.Test.YtebfnmhpmgjoiaaMe3
import Derived.ChangeKeysEq
import Derived.Deep.MidRow
namespace Go.Proofs.Ytebfnmhpmgjoiaa.Fl
open Go.RowKit FT SM Go.Proofs.YtebfnmhpmgjoiaaW.PrintWords Go.Proofs.YtebfnmhpmgjoiaaW.PrintMore
set_option linter.unusedVariables false
set_option linter.unusedSimpArgs false
def ctv (l : List Nat) (k : Nat) : Int := ((l.countP (fun x => cl x == k) : Nat) : Int)
theorem Ct_lit (l : List Nat) : ((Ct l).map I).toArray = #[.int .i64 (ctv l 0), .int .i64 (ctv l 1), .int .i64 (ctv l 2), .int .i64 (ctv l 3), .int .i64 (ctv l 4), .int .i64 (ctv l 5), .int .i64 (ctv l 6)] := rfl
theorem eq_ints {k : IntKind} {t : TypeId} (ht : Try.prog.underlying t = some (.int k)) (d : Nat) (a : Int) (w : World) : (Op.equalIn (d + 1) t (.int k a) (.int k a)).run Try.prog w = .ok true w := by
  simp [Op.equalIn, run_underlying ht]
theorem eq42 (xs : Array Value) (h : xs.size = 7) (hi : ∀ i, ∀ h : i < xs.size, ∃ a, xs[i] = .int .i64 a) (w : World) : (Op.equalIn 10000 42 (.agg xs) (.agg xs)).run Try.prog w = .ok true w := by
  obtain ⟨i0, hi0, hz⟩ := Option.map_eq_some_iff.1 (show (Try.prog.info? 3).map (·.size) = some 1 by kernel_rfl)
  rw [run_equalIn_array w 9999 xs xs Try.underlying42 hi0]
  have hc : Try.prog.cellsOf 3 = 1 := by kernel_rfl
  rw [hc]
  have key : ∀ is : List Nat, (∀ i ∈ is, i < 7) → (Op.eqItems 9999 3 1 xs xs is).run Try.prog w = .ok true w := by
    intro is
    induction is with
    | nil => intro _; simp [Op.eqItems]
    | cons i is ih =>
      intro hlt
      have hi7 := hlt i (by simp)
      obtain ⟨a, ha⟩ := hi i (by omega)
      have hp : (part 3 xs (i * 1)).run Try.prog w = .ok (.int .i64 a) w := by
        have hg : xs[i]? = some (.int .i64 a) := by rw [Array.getElem?_eq_getElem (by omega), ha]
        have hag : (isAgg 3).run Try.prog w = .ok false w := by kernel_rfl
        simp [part, hag, hg]
      have he := eq_ints Try.underlying3 9998 a w
      rw [Op.eqItems]
      simp only [Sem.run_bind, hp, he, Result.andThen_ok]
      simpa using ih (fun k hk => hlt k (by simp [hk]))
  exact key _ (fun i hi => by simpa using hi)
theorem eq42C (l : List Nat) (w : World) : (Op.equalIn 10000 42 (.agg ((Ct l).map I).toArray) (.agg ((Ct l).map I).toArray)).run Try.prog w = .ok true w := by
  refine eq42 _ (by simp [Ct_len]) (fun i h => ⟨(Ct l)[i]'(by simpa using h), ?_⟩) w
  simp [I]
/-- What stays behind the calls at the law's end. -/
structure FB (A B : Option Addr) (l ed : List Nat) (tb : Nat) (w W : World) : Prop where
  row : W.heap[tb]? = some (.cells ((Ct l).map I).toArray 42 (0, 0))
  vl : Vw W A l
  ve : Vw W B ed
  bel : Below w.heap.size w W
theorem FB.below {A B : Option Addr} {l ed : List Nat} {tb : Nat} {w W W' : World} (h : FB A B l ed tb w W) (hb : Below W.heap.size W W') : FB A B l ed tb w W' := ⟨blk_keep h.row hb, h.vl.below hb, h.ve.below hb, h.bel.trans (hb.mono h.bel.size)⟩
theorem FB.cells {A B : Option Addr} {l ed : List Nat} {tb : Nat} {w W : World} (h : FB A B l ed tb w W) : W.cell? ⟨tb, 0, none⟩ = some (.int .i64 (ctv l 0)) ∧ W.cell? ⟨tb, 1, none⟩ = some (.int .i64 (ctv l 1)) ∧ W.cell? ⟨tb, 2, none⟩ = some (.int .i64 (ctv l 2)) ∧ W.cell? ⟨tb, 3, none⟩ = some (.int .i64 (ctv l 3)) ∧ W.cell? ⟨tb, 4, none⟩ = some (.int .i64 (ctv l 4)) ∧ W.cell? ⟨tb, 5, none⟩ = some (.int .i64 (ctv l 5)) ∧ W.cell? ⟨tb, 6, none⟩ = some (.int .i64 (ctv l 6)) := by
  have h1 := h.row
  rw [Ct_lit] at h1
  refine ⟨?_, ?_, ?_, ?_, ?_, ?_, ?_⟩ <;> rw [cell_of_row W tb _ _ _ _ h1] <;> rfl
/-- The counts of the boxes. -/
def DD (l ed : List Nat) (D : List Int) : Prop := ∃ M : List Nat, D = cnts (M.length + 1) (bx M) l ∧ M.Perm ed ∧ Sd less M
theorem DD.len {l ed : List Nat} {D : List Int} (h : DD l ed D) : D.length = ed.length + 1 := by
  obtain ⟨M, rfl, h1, _⟩ := h
  rw [cnts_len, h1.length_eq]
theorem DD.same {l ed : List Nat} {D E : List Int} (h : DD l ed D) (k : DD l ed E) : D = E := by
  obtain ⟨M, rfl, h1, h2⟩ := h
  obtain ⟨L, rfl, k1, k2⟩ := k
  exact cnts_same h1 k1 h2 k2 l
set_option maxHeartbeats 4000000 in
theorem mboxes_many1 (A B : Option Addr) (n c m cb x : Nat) (w : World) (h : decide ((n : Int) ≤ 40) = false) : Calls Try.prog 8 #[.slice A n c, .slice B m cb, .float .f64 x] w fun e w' => e = .returned (.bool true) ∧ Below w.heap.size w w' := by
  have H := hid h
  clear h
  go_enter Try.func8, Try.ntmps8
  go_wp2_with (first
    | (go_at_call 27; with_reducible refine (awake3_calls _).mono ?_; rintro e w1 ⟨rfl, h1⟩; have H1 := hid h1; clear h1)
    | (go_at_call 28; with_reducible refine (few3_calls A n c _ _ H.out).mono ?_; rintro e w2 ⟨rfl, rfl⟩))
  go_ret
  exact ⟨rfl, H1.out⟩
set_option maxHeartbeats 4000000 in
theorem mboxes_many2 (A B : Option Addr) (n c m cb x : Nat) (w : World) (h0 : decide ((n : Int) ≤ 40) = true) (h : decide ((m : Int) ≤ 40) = false) : Calls Try.prog 8 #[.slice A n c, .slice B m cb, .float .f64 x] w fun e w' => e = .returned (.bool true) ∧ Below w.heap.size w w' := by
  have H := hid h
  have H0 := hid h0
  clear h h0
  go_enter Try.func8, Try.ntmps8
  go_wp2_with (first
    | (go_at_call 27; with_reducible refine (awake3_calls _).mono ?_; rintro e w1 ⟨rfl, h1⟩; have H1 := hid h1; clear h1)
    | (go_at_call 28; with_reducible refine (few3_calls A n c _ _ H0.out).mono ?_; rintro e w2 ⟨rfl, rfl⟩)
    | (go_at_call 28; with_reducible refine (few3_calls B m cb _ _ H.out).mono ?_; rintro e w2 ⟨rfl, rfl⟩))
  go_ret
  exact ⟨rfl, H1.out⟩
set_option maxHeartbeats 8000000 in
theorem mboxes_main (A B : Option Addr) (l ed : List Nat) (c cb x : Nat) (w : World) (hv : Vw w A l) (he : Vw w B ed) (hl : l.length ≤ 40) (hel : ed.length ≤ 40) : Calls Try.prog 8 #[.slice A l.length c, .slice B ed.length cb, .float .f64 x] w fun e w' => e = .returned (.bool true) ∧ Below w.heap.size w w' := by
  obtain ⟨n, hn⟩ : ∃ n, l.length = n := ⟨_, rfl⟩
  obtain ⟨m, hm⟩ : ∃ m, ed.length = m := ⟨_, rfl⟩
  obtain ⟨m1, hm1⟩ : ∃ m1, m + 1 = m1 := ⟨_, rfl⟩
  have HN := hid (show l.length = n ∧ n ≤ 40 ∧ ed.length = m ∧ m ≤ 40 ∧ m + 1 = m1 from ⟨hn, by omega, hm, by omega, hm1⟩)
  have HV := hid hv
  have HE := hid he
  have F40 : Hid (∀ W, Calls Try.prog 28 #[.slice A n c] W fun e w' => e = .returned (.bool true) ∧ W = w') := hid fun W => few3_calls A n c true W (decide_eq_true (by omega))
  have G40 : Hid (∀ W, Calls Try.prog 28 #[.slice B m cb] W fun e w' => e = .returned (.bool true) ∧ W = w') := hid fun W => few3_calls B m cb true W (decide_eq_true (by omega))
  rw [hn, hm]
  clear hv he hl hel hn hm hm1
  go_enter Try.func8, Try.ntmps8
  go_wp2_with (first
    | (go_at_call 27; with_reducible refine (awake3_calls _).mono ?_; rintro e wA ⟨rfl, h1⟩; have H1 := hid h1; clear h1)
    | (go_at_call 28; with_reducible refine (F40.out _).mono ?_; rintro e w2 ⟨rfl, rfl⟩)
    | (go_at_call 28; with_reducible refine (G40.out _).mono ?_; rintro e w2 ⟨rfl, rfl⟩))
  clear F40 G40
  have z0 : Hid (Ri (wA.alloc (.cells #[.int .i64 0, .int .i64 0, .int .i64 0, .int .i64 0, .int .i64 0, .int .i64 0, .int .i64 0] 42)) wA.heap.size 42 (Ct [])) := hid (blk_new wA _)
  go_loopg [8, 23] (n + 1) (fun kq v8 v23 w' => ∃ (i r : Nat), v8 = .int .i64 (r : Int) ∧ v23 = .int .i64 (i : Int) ∧ Hid (i + kq = n + 1 ∧ i ≤ n ∧ r ≤ i ∧ r = (l.take i).countP (fun y => less y x)) ∧ Hid (Ri w' wA.heap.size 42 (Ct (l.take i))) ∧ Hid (Below wA.heap.size wA w'))
  case atStart => exact ⟨0, 0, rfl, rfl, hid ⟨by omega, by omega, by omega, rfl⟩, z0, hid (below_alloc (Below.refl _ _) _)⟩
  case round =>
    obtain ⟨i, r, rfl, rfl, HK, H2, HB⟩ := hrel
    cases gk with
    | zero => exact absurd HK.out.1 (by have := HK.out; omega)
    | succ k1 =>
      obtain ⟨II, hII⟩ : ∃ II : Int, (i : Int) = II := ⟨_, rfl⟩
      rw [hII]
      obtain ⟨RI, hRI⟩ : ∃ RI : Int, (r : Int) = RI := ⟨_, rfl⟩
      rw [hRI]
      by_cases ci : i < n
      · have b1 : decide (II < (n : Int)) = true := decide_eq_true (by omega)
        obtain ⟨y, hy⟩ : ∃ y, l[i]? = some y := ⟨_, List.getElem?_eq_getElem (by have := HN.out; omega)⟩
        cases A with
        | none => exact absurd (HV.out.nil rfl) (by rintro rfl; cases hy)
        | some ad =>
          have c1 := ((HV.out.below H1.out).below HB.out).at' ad rfl i y hy
          have t1 : II.toNat = i := by omega
          have p1 : 0 ≤ II := by omega
          have p2 : II < (n : Int) := by omega
          have HCI : Hid (i + 1 ≤ n) := hid ci
          have HCT := hid (countP_step (fun y => less y x) l i y hy)
          have HW1 : Hid (wrap64 (II + 1) = ((i + 1 : Nat) : Int)) := hid (by have := HN.out; rw [wrap_small _ (by omega) (by omega)]; omega)
          have HW2 : Hid (wrap64 (RI + 1) = ((r + 1 : Nat) : Int)) := hid (by have := HN.out; have := HK.out; rw [wrap_small _ (by omega) (by omega)]; omega)
          obtain ⟨k, hk⟩ : ∃ k, cl y = k := ⟨_, rfl⟩
          have hcl := cl_is y
          rw [hk] at hcl
          obtain ⟨d, hd⟩ : ∃ d, Ct (l.take i) = d := ⟨_, rfl⟩
          have hst : d.set k (d.getD k 0 + 1) = Ct (l.take (i + 1)) := by rw [← hd]; exact cnts_step 7 cl l i y k hy hk hcl.2
          have hle : 0 ≤ d.getD k 0 ∧ d.getD k 0 ≤ (n : Int) := by
            rw [← hd]
            have h1 := cnts_le 7 cl (l.take i) k hcl.2
            have h2 := List.length_take_le' i l
            have := HN.out
            unfold Ct
            omega
          have hlen : d.length = 7 := by rw [← hd]; exact Ct_len _
          rw [hd] at H2
          obtain ⟨q, hq⟩ : ∃ q, d.getD k 0 = q := ⟨_, rfl⟩
          have c2 := H2.out.cell k (by omega)
          have f2 := H2.out.frozen k
          rw [hq] at c2 hst hle
          have HST := hid hst
          have w2 : wrap64 (q + 1) = q + 1 := by have := HN.out; exact wrap_small _ (by omega) (by omega)
          obtain ⟨KI, hKI⟩ : ∃ KI : Int, (k : Int) = KI := ⟨_, rfl⟩
          have hcc : cls y = KI := by rw [← hKI]; exact hcl.1
          have t2 : KI.toNat = k := by omega
          have p3 : 0 ≤ KI := by omega
          have p4 : KI < 7 := by omega
          have HCC := hid hcc
          have HD := hid hd
          have HRI := hid hRI
          have HB2 := hid (show Below wA.heap.size wA (wr.setCell ⟨wA.heap.size, k, none⟩ (.int .i64 (q + 1))) from HB.out.setCell (Nat.le_refl _) _)
          clear hy hII ci hk hcl hst hle hlen hq hKI hcc hd hRI
          cases hc : less y x with
          | false =>
            have HC := hid hc
            clear hc
            go_wp2_with (first | (go_at_call 14; with_reducible refine (rclass_calls y _ _ HCC.out).mono ?_; rintro e w1 ⟨rfl, rfl⟩) | (go_at_call 15; with_reducible refine (rless_calls y x _ _ HC.out).mono ?_; rintro e w1 ⟨rfl, rfl⟩))
            go_roundg k1
            case measure => omega
            case rel => exact ⟨i + 1, r, congrArg (Value.int .i64) HRI.out.symm, congrArg (Value.int .i64) HW1.out, hid ⟨by have := HK.out; omega, HCI.out, by have := HK.out; omega, by rw [HCT.out, HC.out]; exact HK.out.2.2.2⟩, hid (by have h := H2.out.set k (q + 1); rw [HST.out] at h; exact h), HB2⟩
          | true =>
            have HC := hid hc
            clear hc
            go_wp2_with (first | (go_at_call 14; with_reducible refine (rclass_calls y _ _ HCC.out).mono ?_; rintro e w1 ⟨rfl, rfl⟩) | (go_at_call 15; with_reducible refine (rless_calls y x _ _ HC.out).mono ?_; rintro e w1 ⟨rfl, rfl⟩))
            go_roundg k1
            case measure => omega
            case rel => exact ⟨i + 1, r + 1, congrArg (Value.int .i64) HW2.out, congrArg (Value.int .i64) HW1.out, hid ⟨by have := HK.out; omega, HCI.out, by have := HK.out; omega, by rw [HCT.out, HC.out]; simp only [if_true]; exact congrArg (· + 1) HK.out.2.2.2⟩, hid (by have h := H2.out.set k (q + 1); rw [HST.out] at h; exact h), HB2⟩
      · have b1 : decide (II < (n : Int)) = false := decide_eq_false (by omega)
        have ht : l.take i = l := List.take_of_length_le (by have := HN.out; have := HK.out; omega)
        have hr : ((rank l x : Nat) : Int) = RI := by
          rw [← hRI, HK.out.2.2.2, ht]; rfl
        rw [ht] at H2
        have hRR : (RI == RI) = true := beq_self_eq_true RI
        have he42 := eq42C l
        rw [Ct_lit] at he42
        have F1 : Hid (FB A B l ed wA.heap.size w wr.drew) := hid (FB.below ⟨H2.out, (HV.out.below H1.out).below HB.out, (HE.out.below H1.out).below HB.out, L.bel H1.out HB.out⟩ (below_drew (Below.refl _ _)))
        have hN := HN.out
        have CBo : Hid (∀ W, Hid (FB A B l ed wA.heap.size w W) → Calls Try.prog 29 #[.slice A n c, .slice B m cb] W fun e W' => ∃ g D, e = .returned (.slice (some ⟨g, 0, none⟩) m1 m1) ∧ Hid (FB A B l ed wA.heap.size w W' ∧ Ri W' g 3 D ∧ DD l ed D)) := hid fun W h => by
          have h1 := boxes_calls A B l ed c cb W h.out.vl h.out.ve (by omega) (by omega)
          rw [hN.1, hN.2.2.1] at h1
          refine h1.mono ?_
          rintro e W' ⟨g, M, e1, e2, e3, e4, e5, e6⟩
          exact ⟨g, _, by rw [e1, e2.length_eq, hN.2.2.1, hN.2.2.2.2], hid ⟨h.out.below e6, e4, M, rfl, e2, e3⟩⟩
        have CRb : Hid (∀ W g D, Hid (FB A B l ed wA.heap.size w W ∧ Ri W g 3 D ∧ DD l ed D) → Calls Try.prog 33 #[.slice A n c, .slice B m cb] W fun e W' => ∃ g2, e = .returned (.slice (some ⟨g2, 0, none⟩) m1 m1) ∧ Hid (FB A B l ed wA.heap.size w W' ∧ Ri W' g 3 D ∧ Ri W' g2 3 D ∧ D.length = m1)) := hid fun W g D h => by
          have h1 := rboxes_calls A B l ed c cb W h.out.1.vl h.out.1.ve (by omega) (by omega)
          rw [hN.1, hN.2.2.1] at h1
          refine h1.mono ?_
          rintro e W' ⟨g2, M, e1, e2, e3, e4, e5, e6⟩
          have hD : D = cnts (M.length + 1) (bx M) l := h.out.2.2.same ⟨M, rfl, e2, e3⟩
          exact ⟨g2, by rw [e1, e2.length_eq, hN.2.2.1, hN.2.2.2.2], hid ⟨h.out.1.below e6, h.out.2.1.below e6, by rw [hD]; exact e4, by rw [h.out.2.2.len, hN.2.2.1, hN.2.2.2.2]⟩⟩
        have CSi : Hid (∀ W g g2 D, Hid (FB A B l ed wA.heap.size w W ∧ Ri W g 3 D ∧ Ri W g2 3 D ∧ D.length = m1) → Calls Try.prog 32 #[.slice (some ⟨g, 0, none⟩) m1 m1, .slice (some ⟨g2, 0, none⟩) m1 m1] W fun e W' => e = .returned (.bool true) ∧ Hid (FB A B l ed wA.heap.size w W')) := hid fun W g g2 D h => (same_ints g g2 D m1 m1 m1 W h.out.2.1 h.out.2.2.1 h.out.2.2.2 (by omega)).mono fun e W' ⟨e1, e2⟩ => ⟨e1, hid (h.out.1.below e2)⟩
        have CCo : Hid (∀ W, Hid (FB A B l ed wA.heap.size w W) → Calls Try.prog 34 #[.slice A n c] W fun e W' => e = .returned (.agg #[.int .i64 (ctv l 0), .int .i64 (ctv l 1), .int .i64 (ctv l 2), .int .i64 (ctv l 3), .int .i64 (ctv l 4), .int .i64 (ctv l 5), .int .i64 (ctv l 6)]) ∧ Hid (FB A B l ed wA.heap.size w W')) := hid fun W h => by
          have h1 := count_calls A l c W h.out.vl (by omega)
          rw [hN.1, Ct_lit] at h1
          exact h1.mono fun e W' ⟨e1, e2⟩ => ⟨e1, hid (h.out.below e2)⟩
        have CRa : Hid (∀ W, Hid (FB A B l ed wA.heap.size w W) → Calls Try.prog 30 #[.slice A n c, .float .f64 x] W fun e W' => e = .returned (.int .i64 RI) ∧ Hid (FB A B l ed wA.heap.size w W')) := hid fun W h => by
          have h1 := rank_calls A l c x W h.out.vl (by omega)
          rw [hN.1, hr] at h1
          exact h1.mono fun e W' ⟨e1, e2⟩ => ⟨e1, by rw [← e2]; exact h⟩
        have CA := hid F1.out.cells
        clear hII hRI ci ht hr H2 hN HK HB
        have GC : Hid (∀ W, FB A B l ed wA.heap.size w W → W.cell? ⟨wA.heap.size, 0, none⟩ = some (.int .i64 (ctv l 0)) ∧ W.cell? ⟨wA.heap.size, 1, none⟩ = some (.int .i64 (ctv l 1)) ∧ W.cell? ⟨wA.heap.size, 2, none⟩ = some (.int .i64 (ctv l 2)) ∧ W.cell? ⟨wA.heap.size, 3, none⟩ = some (.int .i64 (ctv l 3)) ∧ W.cell? ⟨wA.heap.size, 4, none⟩ = some (.int .i64 (ctv l 4)) ∧ W.cell? ⟨wA.heap.size, 5, none⟩ = some (.int .i64 (ctv l 5)) ∧ W.cell? ⟨wA.heap.size, 6, none⟩ = some (.int .i64 (ctv l 6))) := hid fun W h => h.cells
        go_upto_region 14 with fail
        go_region_held3 (fun w' => w'.cell? ⟨wA.heap.size, 0, none⟩ = some (.int .i64 (ctv l 0)) ∧ w'.cell? ⟨wA.heap.size, 1, none⟩ = some (.int .i64 (ctv l 1)) ∧ w'.cell? ⟨wA.heap.size, 2, none⟩ = some (.int .i64 (ctv l 2)) ∧ w'.cell? ⟨wA.heap.size, 3, none⟩ = some (.int .i64 (ctv l 3)) ∧ w'.cell? ⟨wA.heap.size, 4, none⟩ = some (.int .i64 (ctv l 4)) ∧ w'.cell? ⟨wA.heap.size, 5, none⟩ = some (.int .i64 (ctv l 5)) ∧ w'.cell? ⟨wA.heap.size, 6, none⟩ = some (.int .i64 (ctv l 6))) (first | exact CA.out | exact CB.out | exact CD.out | exact CE.out | exact CF.out | exact CG.out) (first
          | (go_at_call 29; (with_reducible refine (CBo.out _ F1).mono ?_); rintro e1 w4 ⟨g, D, rfl, F2⟩; have CB := hid (GC.out _ F2.out.1))
          | (go_at_call 33; (with_reducible refine (CRb.out _ g D F2).mono ?_); rintro e1 w5 ⟨g2, rfl, F3⟩; have CD := hid (GC.out _ F3.out.1))
          | (go_at_call 32; (with_reducible refine (CSi.out _ g g2 D F3).mono ?_); rintro e1 w6 ⟨rfl, F4⟩; have CE := hid (GC.out _ F4.out))
          | (go_at_call 34; (with_reducible refine (CCo.out _ F4).mono ?_); rintro e1 w7 ⟨rfl, F5⟩; have CF := hid (GC.out _ F5.out))
          | (go_at_call 30; (with_reducible refine (CRa.out _ F5).mono ?_); rintro e1 w8 ⟨rfl, F6⟩; have CG := hid (GC.out _ F6.out)))
        go_wp2
        go_ret
        exact ⟨by first | rfl | (simp; done) | (simp [*]; done), F6.out.bel⟩
end Go.Proofs.Ytebfnmhpmgjoiaa.Fl
