/- scripts: the law ScriptTables, within its bounds. -/
import Derived.Test.YtnikcccobfcndaaYi
import Derived.Deep.CutRange
import Derived.Deep.RegionHeld3
namespace Go.Proofs.Ytnikcccobfcndaa.Sc
open Go.RowKit FT Go.Proofs.YtnikcccobfcndaaW.PrintWords Go.Proofs.YtnikcccobfcndaaW.PrintLast Go.Proofs.YtnikcccobfcndaaW.PrintMore
set_option linter.unusedVariables false
set_option linter.unusedSimpArgs false
attribute [local go_sem] run_store_float'
theorem alloc2_setRow (w : World) (t : TypeId) (old cs : Array Value) (o2 : Obj) : ((w.alloc (.cells old t)).alloc o2).setRow w.heap.size cs = (w.alloc (.cells cs t)).alloc o2 := by
  unfold World.setRow World.alloc
  congr 1
  apply Array.ext
  · simp
  · intro i h1 h2
    simp only [Array.getElem_modify, Array.getElem_push, Array.size_push]
    by_cases h : i < w.heap.size
    · rw [dif_pos (by omega), dif_pos h, dif_pos (by omega), dif_pos h, if_neg (by omega)]
    · by_cases e : i = w.heap.size
      · subst e
        simp
      · have : ¬ i < w.heap.size + 1 := by omega
        rw [dif_neg this, dif_neg this, if_neg (by omega)]
theorem wpList_store_new1 {P : Program} {ops : Array Oper} {rest : List Oper} {o : Oper} {a : Act} {w : World} {Q : Exit → Act → World → Prop} (hgd : o.guard = none) (ty : TypeId) (x y : Operand) (ho : o.op = .store ty x y)
    (t : TypeId) (old cells : Array Value) (o2 : Obj) (hx : a.eval x = .pointer (some ⟨w.heap.size, 0, none⟩)) (hy : a.eval y = .agg cells)
    (hi : (P.info? ty).map (·.size) = some cells.size)
    (hold : old.size = cells.size) (h1 : cells.all (·.oneCell') = true)
    (h : wpList P ops Q rest (a.put o.dst undef) ((w.alloc (.cells cells t)).alloc o2)) : wpList P ops Q (o :: rest) a ((w.alloc (.cells old t)).alloc o2) := by
  refine wpList_store_row hgd ty x y ho w.heap.size cells hx hy t old ?_ hi hold h1 ?_
  · exact blk_old w _ _
  · rw [alloc2_setRow]; exact h
/-- What stays. -/
structure LW (b g r : Nat) (C X Y : Array Value) (w W : World) : Prop where
  lb : LB b C X Y w W
  fl : W.heap[g]? = some (.cells (FL r) 48 (0, 0))
  pt : W.heap[g + 1]? = some (.cells PT 39 (0, 0))
  cv : W.heap[g + 1 + 1]? = some (.cells CVs 56 (0, 0))
theorem LW.below {b g r : Nat} {C X Y : Array Value} {w W W' : World} (h : LW b g r C X Y w W) (hb : Below W.heap.size W W') : LW b g r C X Y w W' := ⟨h.lb.below hb, blk_keep h.fl hb, blk_keep h.pt hb, blk_keep h.cv hb⟩
theorem LW.start {b r : Nat} {C X Y : Array Value} {w wP : World} (h : LB b C X Y w wP) : LW b wP.heap.size r C X Y w (((wP.alloc (.cells (FL r) 48)).alloc (.cells PT 39)).alloc (.cells CVs 56)) := by
  have e : (wP.alloc (.cells (FL r) 48)).heap.size = wP.heap.size + 1 := by simp
  refine ⟨h.below (below_alloc (below_alloc (below_alloc (Below.refl _ _) _) _) _), blk_keep (blk_old wP _ _) (below_alloc (Below.refl _ _) _), ?_, ?_⟩
  · have h := blk_old (wP.alloc (.cells (FL r) 48)) (.cells PT 39) (.cells CVs 56)
    rwa [e] at h
  · have h := blk_new2 (wP.alloc (.cells (FL r) 48)) (.cells PT 39) (.cells CVs 56)
    rwa [e] at h
set_option maxHeartbeats 16000000 in
set_option maxRecDepth 100000 in
theorem tables_main (p c n : Int) (f1 f2 f3 : Nat) (p1 c1 q1 : Int) (u1 u2 u3 : Nat) (A1 A2 : Option Addr) (n1 a1 n2 a2 : Nat) (p2 c2 q2 : Int) (v1 v2 v3 : Nat) (B1 B2 : Option Addr) (m1 d1 m2 d2 : Nat) (w : World) (h2 : n2 ≤ 300) (h3 : m2 ≤ 300) (h4 : n1 ≤ 10) (h5 : m1 ≤ 10) (s : Bool)
    (hAA : ∀ W, Below w.heap.size w W → Calls Try.prog 19 #[.agg #[.int .i64 p1, .int .i64 c1, .int .i64 q1, .float .f64 u1, .float .f64 u2, .float .f64 u3, .slice A1 n1 a1, .slice A2 n2 a2], .agg #[.int .i64 p1, .int .i64 c1, .int .i64 q1, .float .f64 u1, .float .f64 u2, .float .f64 u3, .slice A1 n1 a1, .slice A2 n2 a2]] W fun e w' => e = .returned (.bool true) ∧ Below W.heap.size W w')
    (hAB : ∀ W, Below w.heap.size w W → Calls Try.prog 19 #[.agg #[.int .i64 p1, .int .i64 c1, .int .i64 q1, .float .f64 u1, .float .f64 u2, .float .f64 u3, .slice A1 n1 a1, .slice A2 n2 a2], .agg #[.int .i64 p2, .int .i64 c2, .int .i64 q2, .float .f64 v1, .float .f64 v2, .float .f64 v3, .slice B1 m1 d1, .slice B2 m2 d2]] W fun e w' => e = .returned (.bool s) ∧ Below W.heap.size W w')
    (hBA : ∀ W, Below w.heap.size w W → Calls Try.prog 19 #[.agg #[.int .i64 p2, .int .i64 c2, .int .i64 q2, .float .f64 v1, .float .f64 v2, .float .f64 v3, .slice B1 m1 d1, .slice B2 m2 d2], .agg #[.int .i64 p1, .int .i64 c1, .int .i64 q1, .float .f64 u1, .float .f64 u2, .float .f64 u3, .slice A1 n1 a1, .slice A2 n2 a2]] W fun e w' => e = .returned (.bool s) ∧ Below W.heap.size W w')
    (hs : s = true → p1 = p2 ∧ n2 = m2 ∧ n1 = m1) :
    Calls Try.prog 6 #[.agg #[.int .i64 p, .int .i64 c, .int .i64 n, .float .f64 f1, .float .f64 f2, .float .f64 f3], .agg #[.int .i64 p1, .int .i64 c1, .int .i64 q1, .float .f64 u1, .float .f64 u2, .float .f64 u3, .slice A1 n1 a1, .slice A2 n2 a2], .agg #[.int .i64 p2, .int .i64 c2, .int .i64 q2, .float .f64 v1, .float .f64 v2, .float .f64 v3, .slice B1 m1 d1, .slice B2 m2 d2]] w fun e w' => e = .returned (.bool true) ∧ Below w.heap.size w w' := by
  have HL := hid (LB.start w #[.int .i64 p, .int .i64 c, .int .i64 n, .float .f64 f1, .float .f64 f2, .float .f64 f3] #[.int .i64 p1, .int .i64 c1, .int .i64 q1, .float .f64 u1, .float .f64 u2, .float .f64 u3, .slice A1 n1 a1, .slice A2 n2 a2] #[.int .i64 p2, .int .i64 c2, .int .i64 q2, .float .f64 v1, .float .f64 v2, .float .f64 v3, .slice B1 m1 d1, .slice B2 m2 d2])
  obtain ⟨N1, hN1⟩ : ∃ N : Int, (n1 : Int) = N := ⟨_, rfl⟩
  obtain ⟨N2, hN2⟩ : ∃ N : Int, (n2 : Int) = N := ⟨_, rfl⟩
  obtain ⟨M1, hM1⟩ : ∃ N : Int, (m1 : Int) = N := ⟨_, rfl⟩
  obtain ⟨M2, hM2⟩ : ∃ N : Int, (m2 : Int) = N := ⟨_, rfl⟩
  have b1 : decide (300 < N2) = false := decide_eq_false (by omega)
  have b2 : decide (300 < M2) = false := decide_eq_false (by omega)
  have b3 : decide (10 < N1) = false := decide_eq_false (by omega)
  have b4 : decide (10 < M1) = false := decide_eq_false (by omega)
  have HNN := hid (And.intro hN1 (And.intro hN2 (And.intro hM1 hM2)))
  have HAA := hid hAA
  have HAB := hid hAB
  have HBA := hid hBA
  have HS := hid hs
  obtain ⟨rv, hrv⟩ : ∃ rv, right p c n = rv := ⟨_, rfl⟩
  have HRV := hid hrv
  have QR : Hid (∀ W, Calls Try.prog 17 #[.agg #[.int .i64 p, .int .i64 c, .int .i64 n, .float .f64 f1, .float .f64 f2, .float .f64 f3]] W fun e w' => e = .returned (.bool rv) ∧ Below W.heap.size W w') := hid fun W => by rw [← hrv]; exact right_calls p c n f1 f2 f3 W
  clear h2 h3 h4 h5 hAA hAB hBA hs hrv
  go_enter Try.func6, Try.ntmps6
  go_wp2_with (first
    | (go_at_call 10; with_reducible refine (awake_calls _).mono ?_; rintro e wA ⟨rfl, h1⟩; have HA := hid (HL.out.below h1); clear h1; have kx := HA.out.cellsX; have k1 := kx.2.2.2.2.2.2.1; have k2 := kx.2.2.2.2.2.2.2.1; have k3 := kx.2.2.2.2.2.2.2.2.2.2.2.2.2.2.1; have k4 := kx.2.2.2.2.2.2.2.2.2.2.2.2.2.2.2; clear kx)
    | (go_at_call 14; with_reducible refine (floats_calls _).mono ?_; rintro e wF ⟨r, rfl, h0, h1⟩; have HR := hid h0; have HF := hid (HA.out.below h1); clear h0 h1)
    | (go_at_call 12; with_reducible refine (paths_calls _).mono ?_; rintro e wP ⟨rfl, h1⟩; have HP := hid (HF.out.below h1); clear h1)
    | ((with_reducible refine wpList_store_new1 rfl 48 _ _ rfl 48 _ (FL r) _ ?hx ?hy ?hi ?ho ?h1 ?_); (case hx => rfl); (case hy => rfl); (case hi => kernel_rfl); (case ho => rfl); (case h1 => simp [FL, Value.oneCell']))
    | ((with_reducible refine wpList_store_new2 rfl 39 _ _ rfl 39 _ PT (wP.heap.size + 1) ?hn ?hx ?hy ?hi ?ho ?h1 ?_); (case hn => simp); (case hx => rfl); (case hy => rfl); (case hi => kernel_rfl); (case ho => rfl); (case h1 => simp [PT, Value.oneCell']))
    | ((with_reducible refine wpList_load_row (o := ⟨some 40, _, _, _, _, _⟩) ?hgd 48 (.tmp 7) ?ho wP.heap.size ?hx 48 (FL r) (0, 0) _ ?hg Try.underlying48 ?hd ?hi ?_); (case hgd => rfl); (case ho => rfl); (case hx => rfl); (case hg => exact (LW.start (r := r) HP.out).fl); (case hd => rfl); (case hi => kernel_rfl)))
  go_loopg [41] 17 (fun kq v41 w' => ∃ i : Nat, v41 = .int .i64 (i : Int) ∧ Hid (i + kq = 17 ∧ i ≤ 16) ∧ Hid (LW w.heap.size wP.heap.size r #[.int .i64 p, .int .i64 c, .int .i64 n, .float .f64 f1, .float .f64 f2, .float .f64 f3] #[.int .i64 p1, .int .i64 c1, .int .i64 q1, .float .f64 u1, .float .f64 u2, .float .f64 u3, .slice A1 n1 a1, .slice A2 n2 a2] #[.int .i64 p2, .int .i64 c2, .int .i64 q2, .float .f64 v1, .float .f64 v2, .float .f64 v3, .slice B1 m1 d1, .slice B2 m2 d2] w w'))
  case atStart => exact ⟨0, rfl, hid ⟨by omega, by omega⟩, hid (LW.start (r := r) HP.out)⟩
  case round =>
    obtain ⟨i, rfl, HK, HW⟩ := hrel
    cases gk with
    | zero => exact absurd HK.out.1 (by have := HK.out; omega)
    | succ k1 =>
      obtain ⟨II, hII⟩ : ∃ II : Int, (i : Int) = II := ⟨_, rfl⟩
      rw [hII]
      by_cases ci : i < 16
      · have b5 : decide (II < 16) = true := decide_eq_true (by omega)
        have t1 : II.toNat = i := by omega
        have p1' : 0 ≤ II := by omega
        have p2' : II < 16 := by omega
        obtain ⟨xf, hxf⟩ : ∃ xf, fl r i = xf := ⟨_, rfl⟩
        obtain ⟨xc, hxc⟩ : ∃ xc, cv i = xc := ⟨_, rfl⟩
        have hcl := cls_fl r i HR.out ci
        rw [hxf, hxc] at hcl
        have hidx : ∀ W, (Instr.index 48 (.agg (FL r)) (.int .i64 II)).run Try.prog W = .ok (.float .f64 xf) W := fun W => by
          rw [← hxf]
          exact L.run_index_one Try.underlying48 (by kernel_rfl) Try.underlying28 rfl (FL r) .i64 II p1' p2' (.float .f64 (fl r i)) (by rw [t1]; exact FL_at r i ci) W
        have ccv : wr.cell? ⟨wP.heap.size + 1 + 1, i, none⟩ = some (.int .i64 xc) := by
          rw [cell_of_row wr _ _ _ _ _ HW.out.cv, ← hxc]; exact CV_at i ci
        have hne : (xc != xc) = false := bne_self_eq_false xc
        have HCL := hid hcl
        have HCI : Hid (i + 1 ≤ 16) := hid ci
        have HW1 : Hid (wrap64 (II + 1) = ((i + 1 : Nat) : Int)) := hid (by rw [wrap_small _ (by omega) (by omega)]; omega)
        have HW2 : Hid (II + 1 = ((i + 1 : Nat) : Int)) := hid (by omega)
        have HX : Hid (∀ nn, LW w.heap.size wP.heap.size r #[.int .i64 p, .int .i64 c, .int .i64 n, .float .f64 f1, .float .f64 f2, .float .f64 f3] #[.int .i64 p1, .int .i64 c1, .int .i64 q1, .float .f64 u1, .float .f64 u2, .float .f64 u3, .slice A1 n1 a1, .slice A2 n2 a2] #[.int .i64 p2, .int .i64 c2, .int .i64 q2, .float .f64 v1, .float .f64 v2, .float .f64 v3, .slice B1 m1 d1, .slice B2 m2 d2] w (wr.drewN nn)) := hid fun nn => HW.out.below (below_drewN (Below.refl _ _) nn)
        clear hII ci hxf hxc hcl
        go_upto_region 10 with fail
        go_quiet (first | (go_at_call 20; exact Calls.quiet_of_same ((Fl.rclass_calls xf xc _ HCL.out).mono fun _ _ h => ⟨h.1, h.2.symm⟩)))
        go_wp2
        go_roundg k1
        case measure => omega
        case rel => exact ⟨i + 1, congrArg (Value.int .i64) (by first | exact HW1.out | exact HW2.out), hid ⟨by have := HK.out; omega, HCI.out⟩, hid (HX.out _)⟩
      · have b5 : decide (II < 16) = false := decide_eq_false (by omega)
        clear hII ci
        have kc := HW.out.lb.cells
        have e0 := kc.1
        have e1 := kc.2.1
        have e2 := kc.2.2.1
        have e3 := kc.2.2.2.1
        have e4 := kc.2.2.2.2.1
        have e5 := kc.2.2.2.2.2
        clear kc
        go_upto_region 13 with fail
        go_cut [12] from 52 to 80 (fun s12 wx => s12 = .bool rv ∧ wx = wr)
        case first =>
          have hk : decide (64 ≤ p) = false ∨ (decide (64 ≤ p) = true ∧ decide (p ≤ 1048576) = false) ∨ (decide (64 ≤ p) = true ∧ decide (p ≤ 1048576) = true ∧ decide (1 ≤ n) = false) ∨ (decide (64 ≤ p) = true ∧ decide (p ≤ 1048576) = true ∧ decide (1 ≤ n) = true ∧ decide (n ≤ 8) = false) ∨ (decide (64 ≤ p) = true ∧ decide (p ≤ 1048576) = true ∧ decide (1 ≤ n) = true ∧ decide (n ≤ 8) = true ∧ decide (8 ≤ c) = false) ∨ (decide (64 ≤ p) = true ∧ decide (p ≤ 1048576) = true ∧ decide (1 ≤ n) = true ∧ decide (n ≤ 8) = true ∧ decide (8 ≤ c) = true ∧ decide (c ≤ 256) = false) ∨ (decide (64 ≤ p) = true ∧ decide (p ≤ 1048576) = true ∧ decide (1 ≤ n) = true ∧ decide (n ≤ 8) = true ∧ decide (8 ≤ c) = true ∧ decide (c ≤ 256) = true) := by
            cases decide (64 ≤ p) <;> cases decide (p ≤ 1048576) <;> cases decide (1 ≤ n) <;> cases decide (n ≤ 8) <;> cases decide (8 ≤ c) <;> cases decide (c ≤ 256) <;> simp
          rcases hk with y1 | ⟨y1, y2⟩ | ⟨y1, y2, y3⟩ | ⟨y1, y2, y3, y4⟩ | ⟨y1, y2, y3, y4, y5⟩ | ⟨y1, y2, y3, y4, y5, y6⟩ | ⟨y1, y2, y3, y4, y5, y6⟩
          all_goals
            go_wp2
            go_meet
            exact ⟨congrArg Value.bool (by rw [← HRV.out]; unfold right geo; simp only [*]; rfl), rfl⟩
        case rest =>
          obtain ⟨rfl, rfl⟩ := hcut
          have hrr : (rv != rv) = false := bne_self_eq_false rv
          have o3 : (FloatKind.f64.format.order 4602678819172646912 4602678819172646912 != some .eq) = false := by decide +kernel
          have o10 : (FloatKind.f64.format.order 9094988921128908188 9094988921128908188 != some .eq) = false := by decide +kernel
          have o15 : (FloatKind.f64.format.order 4621819117588971520 4621819117588971520 != some .eq) = false := by decide +kernel
          have QR2 : Hid (Calls Try.prog 17 #[.agg #[.int .i64 p, .int .i64 c, .int .i64 n, .float .f64 f1, .float .f64 f2, .float .f64 f3]] wc fun e w' => e = .returned (.bool rv) ∧ Hid (LW w.heap.size wP.heap.size r #[.int .i64 p, .int .i64 c, .int .i64 n, .float .f64 f1, .float .f64 f2, .float .f64 f3] #[.int .i64 p1, .int .i64 c1, .int .i64 q1, .float .f64 u1, .float .f64 u2, .float .f64 u3, .slice A1 n1 a1, .slice A2 n2 a2] #[.int .i64 p2, .int .i64 c2, .int .i64 q2, .float .f64 v1, .float .f64 v2, .float .f64 v3, .slice B1 m1 d1, .slice B2 m2 d2] w w') ∧ w'.cell? ⟨wP.heap.size, 3, none⟩ = some (.float .f64 4602678819172646912) ∧ w'.cell? ⟨wP.heap.size, 10, none⟩ = some (.float .f64 9094988921128908188) ∧ w'.cell? ⟨wP.heap.size, 15, none⟩ = some (.float .f64 4621819117588971520) ∧ w'.cell? ⟨wP.heap.size + 1, 0, none⟩ = some (.string ⟨#[47]⟩) ∧ w'.cell? ⟨wP.heap.size + 1, 8, none⟩ = some (.string ⟨#[47, 100, 47, 101, 47, 97]⟩) ∧ w'.cell? ⟨wP.heap.size + 1, 10, none⟩ = some (.string ⟨#[]⟩) ∧ w'.cell? ⟨wP.heap.size + 1, 13, none⟩ = some (.string ⟨#[47, 47, 99, 47]⟩)) := hid ((QR.out wc).mono (by
            rintro e w' ⟨h1, h2⟩
            have hw := HW.out.below h2
            refine ⟨h1, hid hw, ?_, ?_, ?_, ?_, ?_, ?_, ?_⟩
            all_goals first | (rw [cell_of_row w' _ _ _ _ _ hw.fl]; rfl) | (rw [cell_of_row w' _ _ _ _ _ hw.pt]; rfl)))
          go_upto_region 16 with (first | (go_at_call 17; with_reducible refine QR2.out.mono ?_; rintro e w14 ⟨rfl, H14, g1, g2, g3, g4, g5, g6, g7⟩))
          have F0 : Hid (LB w.heap.size #[.int .i64 p, .int .i64 c, .int .i64 n, .float .f64 f1, .float .f64 f2, .float .f64 f3] #[.int .i64 p1, .int .i64 c1, .int .i64 q1, .float .f64 u1, .float .f64 u2, .float .f64 u3, .slice A1 n1 a1, .slice A2 n2 a2] #[.int .i64 p2, .int .i64 c2, .int .i64 q2, .float .f64 v1, .float .f64 v2, .float .f64 v3, .slice B1 m1 d1, .slice B2 m2 d2] w w14.drew) := hid (H14.out.lb.below (below_drew (Below.refl _ _)))
          have QAA : Hid (∀ W, Hid (LB w.heap.size #[.int .i64 p, .int .i64 c, .int .i64 n, .float .f64 f1, .float .f64 f2, .float .f64 f3] #[.int .i64 p1, .int .i64 c1, .int .i64 q1, .float .f64 u1, .float .f64 u2, .float .f64 u3, .slice A1 n1 a1, .slice A2 n2 a2] #[.int .i64 p2, .int .i64 c2, .int .i64 q2, .float .f64 v1, .float .f64 v2, .float .f64 v3, .slice B1 m1 d1, .slice B2 m2 d2] w W) → Calls Try.prog 19 #[.agg #[.int .i64 p1, .int .i64 c1, .int .i64 q1, .float .f64 u1, .float .f64 u2, .float .f64 u3, .slice A1 n1 a1, .slice A2 n2 a2], .agg #[.int .i64 p1, .int .i64 c1, .int .i64 q1, .float .f64 u1, .float .f64 u2, .float .f64 u3, .slice A1 n1 a1, .slice A2 n2 a2]] W fun e w' => e = .returned (.bool true) ∧ Hid (LB w.heap.size #[.int .i64 p, .int .i64 c, .int .i64 n, .float .f64 f1, .float .f64 f2, .float .f64 f3] #[.int .i64 p1, .int .i64 c1, .int .i64 q1, .float .f64 u1, .float .f64 u2, .float .f64 u3, .slice A1 n1 a1, .slice A2 n2 a2] #[.int .i64 p2, .int .i64 c2, .int .i64 q2, .float .f64 v1, .float .f64 v2, .float .f64 v3, .slice B1 m1 d1, .slice B2 m2 d2] w w')) := hid fun W h => (HAA.out W h.out.bel).mono fun e w' k => ⟨k.1, hid (h.out.below k.2)⟩
          have QAB : Hid (∀ W, Hid (LB w.heap.size #[.int .i64 p, .int .i64 c, .int .i64 n, .float .f64 f1, .float .f64 f2, .float .f64 f3] #[.int .i64 p1, .int .i64 c1, .int .i64 q1, .float .f64 u1, .float .f64 u2, .float .f64 u3, .slice A1 n1 a1, .slice A2 n2 a2] #[.int .i64 p2, .int .i64 c2, .int .i64 q2, .float .f64 v1, .float .f64 v2, .float .f64 v3, .slice B1 m1 d1, .slice B2 m2 d2] w W) → Calls Try.prog 19 #[.agg #[.int .i64 p1, .int .i64 c1, .int .i64 q1, .float .f64 u1, .float .f64 u2, .float .f64 u3, .slice A1 n1 a1, .slice A2 n2 a2], .agg #[.int .i64 p2, .int .i64 c2, .int .i64 q2, .float .f64 v1, .float .f64 v2, .float .f64 v3, .slice B1 m1 d1, .slice B2 m2 d2]] W fun e w' => e = .returned (.bool s) ∧ Hid (LB w.heap.size #[.int .i64 p, .int .i64 c, .int .i64 n, .float .f64 f1, .float .f64 f2, .float .f64 f3] #[.int .i64 p1, .int .i64 c1, .int .i64 q1, .float .f64 u1, .float .f64 u2, .float .f64 u3, .slice A1 n1 a1, .slice A2 n2 a2] #[.int .i64 p2, .int .i64 c2, .int .i64 q2, .float .f64 v1, .float .f64 v2, .float .f64 v3, .slice B1 m1 d1, .slice B2 m2 d2] w w')) := hid fun W h => (HAB.out W h.out.bel).mono fun e w' k => ⟨k.1, hid (h.out.below k.2)⟩
          have QBA : Hid (∀ W, Hid (LB w.heap.size #[.int .i64 p, .int .i64 c, .int .i64 n, .float .f64 f1, .float .f64 f2, .float .f64 f3] #[.int .i64 p1, .int .i64 c1, .int .i64 q1, .float .f64 u1, .float .f64 u2, .float .f64 u3, .slice A1 n1 a1, .slice A2 n2 a2] #[.int .i64 p2, .int .i64 c2, .int .i64 q2, .float .f64 v1, .float .f64 v2, .float .f64 v3, .slice B1 m1 d1, .slice B2 m2 d2] w W) → Calls Try.prog 19 #[.agg #[.int .i64 p2, .int .i64 c2, .int .i64 q2, .float .f64 v1, .float .f64 v2, .float .f64 v3, .slice B1 m1 d1, .slice B2 m2 d2], .agg #[.int .i64 p1, .int .i64 c1, .int .i64 q1, .float .f64 u1, .float .f64 u2, .float .f64 u3, .slice A1 n1 a1, .slice A2 n2 a2]] W fun e w' => e = .returned (.bool s) ∧ Hid (LB w.heap.size #[.int .i64 p, .int .i64 c, .int .i64 n, .float .f64 f1, .float .f64 f2, .float .f64 f3] #[.int .i64 p1, .int .i64 c1, .int .i64 q1, .float .f64 u1, .float .f64 u2, .float .f64 u3, .slice A1 n1 a1, .slice A2 n2 a2] #[.int .i64 p2, .int .i64 c2, .int .i64 q2, .float .f64 v1, .float .f64 v2, .float .f64 v3, .slice B1 m1 d1, .slice B2 m2 d2] w w')) := hid fun W h => (HBA.out W h.out.bel).mono fun e w' k => ⟨k.1, hid (h.out.below k.2)⟩
          clear e0 e1 e2 e3 e4 e5 g1 g2 g3 g4 g5 g6 g7 o3 o10 o15 hrr QR QR2 HL HA HF HP HRV HAA HAB HBA
          refine wp_region_noPanic ?_
          refine wp_region_held_drew (S := fun w' => w'.cell? ⟨w.heap.size + 1, 0, none⟩ = some (.int .i64 p1) ∧ w'.cell? ⟨w.heap.size + 1, 1, none⟩ = some (.int .i64 c1) ∧ w'.cell? ⟨w.heap.size + 1, 2, none⟩ = some (.int .i64 q1) ∧ w'.cell? ⟨w.heap.size + 1, 3, none⟩ = some (.float .f64 u1) ∧ w'.cell? ⟨w.heap.size + 1, 4, none⟩ = some (.float .f64 u2) ∧ w'.cell? ⟨w.heap.size + 1, 5, none⟩ = some (.float .f64 u3) ∧ w'.cell? ⟨w.heap.size + 1, 6, none⟩ = some (.slice A1 n1 a1) ∧ w'.cell? ⟨w.heap.size + 1, 7, none⟩ = some (.slice A2 n2 a2) ∧ w'.cell? ⟨w.heap.size + 1 + 1, 0, none⟩ = some (.int .i64 p2) ∧ w'.cell? ⟨w.heap.size + 1 + 1, 1, none⟩ = some (.int .i64 c2) ∧ w'.cell? ⟨w.heap.size + 1 + 1, 2, none⟩ = some (.int .i64 q2) ∧ w'.cell? ⟨w.heap.size + 1 + 1, 3, none⟩ = some (.float .f64 v1) ∧ w'.cell? ⟨w.heap.size + 1 + 1, 4, none⟩ = some (.float .f64 v2) ∧ w'.cell? ⟨w.heap.size + 1 + 1, 5, none⟩ = some (.float .f64 v3) ∧ w'.cell? ⟨w.heap.size + 1 + 1, 6, none⟩ = some (.slice B1 m1 d1) ∧ w'.cell? ⟨w.heap.size + 1 + 1, 7, none⟩ = some (.slice B2 m2 d2)) (by kernel_rfl) F0.out.cellsX (fun hHeld => ?_)
          cases s with
          | true =>
            obtain ⟨rfl, rfl, rfl⟩ := HS.out rfl
            have hq1 : (p1 == p1) = true := beq_self_eq_true p1
            refine wpAnyH_take (i := 0) (oi := { dst := some 119, op := Op.load 36 (Operand.tmp 4), type := 36, pos := "law.go:127", after := #[], guard := none }) (v := ?_) rfl (by kernel_rfl) (by kernel_rfl) (by kernel_rfl) (fun _ _ _ h => h) (Or.inl ⟨by rfl, ?_⟩) (by assumption) ?_
            rotate_left
            focus (intro w hSw; (try dsimp only at hSw); go_simp; try with_reducible rfl)
            simp only [Act.put, List.setIfInBounds_toArray, List.set_cons_zero, List.set_cons_succ]
            refine wpAnyH_take (i := 1) (oi := { dst := some 120, op := Op.load 36 (Operand.tmp 4), type := 36, pos := "law.go:127", after := #[], guard := none }) (v := ?_) rfl (by kernel_rfl) (by kernel_rfl) (by kernel_rfl) (fun _ _ _ h => h) (Or.inl ⟨by rfl, ?_⟩) (by assumption) ?_
            rotate_left
            focus (intro w hSw; (try dsimp only at hSw); go_simp; try with_reducible rfl)
            simp only [Act.put, List.setIfInBounds_toArray, List.set_cons_zero, List.set_cons_succ]
            refine wpAnyH_ready (rs := [2]) (by kernel_rfl) (by simp) ?_
            refine AllReadyH.cons (o := { dst := some 121, op := Op.call { callee := Callee.value (Operand.func 19), args := #[Operand.tmp 119, Operand.tmp 120], argTypes := #[36, 36] }, type := 4, pos := "law.go:127", after := #[{ on := 0, ground := Ground.data }, { on := 1, ground := Ground.data }], guard := none }) rfl (fun K hK => ?_) AllReadyH.nil
            go_simp
            (go_at_call 19; (with_reducible refine (QAA.out _ F0).mono ?_); rintro e w20 ⟨rfl, F1⟩)
            try go_wp2_with fail
            refine hK.out _ _ F1.out.cellsX (fun hHeld => ?_)
            clear hK K
            try simp only [Act.put, List.setIfInBounds_toArray, List.set_cons_zero, List.set_cons_succ]
            refine wpAnyH_take (i := 3) (oi := { dst := some 122, op := Op.move (Operand.tmp 121), type := 4, pos := "law.go:127", after := #[{ on := 2, ground := Ground.data }, { on := 2, ground := Ground.chain }], guard := none }) (v := ?_) rfl (by kernel_rfl) (by kernel_rfl) (by kernel_rfl) (fun _ _ _ h => h) (Or.inl ⟨by rfl, ?_⟩) (by assumption) ?_
            rotate_left
            focus (intro w hSw; (try dsimp only at hSw); go_simp; try with_reducible rfl)
            simp only [Act.put, List.setIfInBounds_toArray, List.set_cons_zero, List.set_cons_succ]
            refine wpAnyH_take (i := 4) (oi := { dst := some 123, op := Op.load 36 (Operand.tmp 4), type := 36, pos := "law.go:127", after := #[{ on := 3, ground := Ground.guard }], guard := some (3, true) }) (v := ?_) rfl (by kernel_rfl) (by kernel_rfl) (by kernel_rfl) (fun _ _ _ h => h) (Or.inl ⟨by rfl, ?_⟩) (by assumption) ?_
            rotate_left
            focus (intro w hSw; (try dsimp only at hSw); go_simp; try with_reducible rfl)
            simp only [Act.put, List.setIfInBounds_toArray, List.set_cons_zero, List.set_cons_succ]
            refine wpAnyH_take (i := 5) (oi := { dst := some 124, op := Op.load 36 (Operand.tmp 5), type := 36, pos := "law.go:127", after := #[{ on := 3, ground := Ground.guard }], guard := some (3, true) }) (v := ?_) rfl (by kernel_rfl) (by kernel_rfl) (by kernel_rfl) (fun _ _ _ h => h) (Or.inl ⟨by rfl, ?_⟩) (by assumption) ?_
            rotate_left
            focus (intro w hSw; (try dsimp only at hSw); go_simp; try with_reducible rfl)
            simp only [Act.put, List.setIfInBounds_toArray, List.set_cons_zero, List.set_cons_succ]
            refine wpAnyH_take (i := 7) (oi := { dst := some 126, op := Op.load 36 (Operand.tmp 5), type := 36, pos := "law.go:127", after := #[{ on := 3, ground := Ground.guard }], guard := some (3, true) }) (v := ?_) rfl (by kernel_rfl) (by kernel_rfl) (by kernel_rfl) (fun _ _ _ h => h) (Or.inl ⟨by rfl, ?_⟩) (by assumption) ?_
            rotate_left
            focus (intro w hSw; (try dsimp only at hSw); go_simp; try with_reducible rfl)
            simp only [Act.put, List.setIfInBounds_toArray, List.set_cons_zero, List.set_cons_succ]
            refine wpAnyH_take (i := 8) (oi := { dst := some 127, op := Op.load 36 (Operand.tmp 4), type := 36, pos := "law.go:127", after := #[{ on := 3, ground := Ground.guard }], guard := some (3, true) }) (v := ?_) rfl (by kernel_rfl) (by kernel_rfl) (by kernel_rfl) (fun _ _ _ h => h) (Or.inl ⟨by rfl, ?_⟩) (by assumption) ?_
            rotate_left
            focus (intro w hSw; (try dsimp only at hSw); go_simp; try with_reducible rfl)
            simp only [Act.put, List.setIfInBounds_toArray, List.set_cons_zero, List.set_cons_succ]
            refine wpAnyH_ready (rs := [6]) (by kernel_rfl) (by simp) ?_
            refine AllReadyH.cons (o := { dst := some 125, op := Op.call { callee := Callee.value (Operand.func 19), args := #[Operand.tmp 123, Operand.tmp 124], argTypes := #[36, 36] }, type := 4, pos := "law.go:127", after := #[{ on := 4, ground := Ground.data }, { on := 5, ground := Ground.data }, { on := 3, ground := Ground.chain }, { on := 3, ground := Ground.guard }], guard := some (3, true) }) rfl (fun K hK => ?_) AllReadyH.nil
            go_simp
            (go_at_call 19; (with_reducible refine (QAB.out _ F1).mono ?_); rintro e w21 ⟨rfl, F2⟩)
            try go_wp2_with fail
            refine hK.out _ _ F2.out.cellsX (fun hHeld => ?_)
            clear hK K
            try simp only [Act.put, List.setIfInBounds_toArray, List.set_cons_zero, List.set_cons_succ]
            refine wpAnyH_ready (rs := [9]) (by kernel_rfl) (by simp) ?_
            refine AllReadyH.cons (o := { dst := some 128, op := Op.call { callee := Callee.value (Operand.func 19), args := #[Operand.tmp 126, Operand.tmp 127], argTypes := #[36, 36] }, type := 4, pos := "law.go:127", after := #[{ on := 7, ground := Ground.data }, { on := 8, ground := Ground.data }, { on := 6, ground := Ground.chain }, { on := 3, ground := Ground.guard }], guard := some (3, true) }) rfl (fun K hK => ?_) AllReadyH.nil
            go_simp
            (go_at_call 19; (with_reducible refine (QBA.out _ F2).mono ?_); rintro e w22 ⟨rfl, F3⟩)
            try go_wp2_with fail
            refine hK.out _ _ F3.out.cellsX (fun hHeld => ?_)
            clear hK K
            try simp only [Act.put, List.setIfInBounds_toArray, List.set_cons_zero, List.set_cons_succ]
            refine wpAnyH_take (i := 10) (oi := { dst := some 129, op := Op.binOp BinOp.eql 4 (Operand.tmp 125) (Operand.tmp 128) 4, type := 4, pos := "law.go:127", after := #[{ on := 6, ground := Ground.data }, { on := 9, ground := Ground.data }, { on := 3, ground := Ground.guard }], guard := some (3, true) }) (v := ?_) rfl (by kernel_rfl) (by kernel_rfl) (by kernel_rfl) (fun _ _ _ h => h) (Or.inl ⟨by rfl, ?_⟩) (by assumption) ?_
            rotate_left
            focus (intro w hSw; (try dsimp only at hSw); go_simp; try with_reducible rfl)
            simp only [Act.put, List.setIfInBounds_toArray, List.set_cons_zero, List.set_cons_succ]
            refine wpAnyH_take (i := 11) (oi := { dst := some 130, op := Op.pick (Operand.tmp 122) (Operand.tmp 129) (Operand.const (Value.bool false)), type := 4, pos := "law.go:127", after := #[{ on := 3, ground := Ground.data }, { on := 10, ground := Ground.data }], guard := none }) (v := ?_) rfl (by kernel_rfl) (by kernel_rfl) (by kernel_rfl) (fun _ _ _ h => h) (Or.inl ⟨by rfl, ?_⟩) (by assumption) ?_
            rotate_left
            focus (intro w hSw; (try dsimp only at hSw); go_simp; try with_reducible rfl)
            simp only [Act.put, List.setIfInBounds_toArray, List.set_cons_zero, List.set_cons_succ]
            refine wpAnyH_take (i := 12) (oi := { dst := some 131, op := Op.move (Operand.tmp 130), type := 4, pos := "law.go:127", after := #[{ on := 11, ground := Ground.data }, { on := 9, ground := Ground.chain }], guard := none }) (v := ?_) rfl (by kernel_rfl) (by kernel_rfl) (by kernel_rfl) (fun _ _ _ h => h) (Or.inl ⟨by rfl, ?_⟩) (by assumption) ?_
            rotate_left
            focus (intro w hSw; (try dsimp only at hSw); go_simp; try with_reducible rfl)
            simp only [Act.put, List.setIfInBounds_toArray, List.set_cons_zero, List.set_cons_succ]
            refine wpAnyH_take (i := 13) (oi := { dst := some 132, op := Op.load 36 (Operand.tmp 4), type := 36, pos := "law.go:127", after := #[{ on := 12, ground := Ground.guard }], guard := some (12, true) }) (v := ?_) rfl (by kernel_rfl) (by kernel_rfl) (by kernel_rfl) (fun _ _ _ h => h) (Or.inl ⟨by rfl, ?_⟩) (by assumption) ?_
            rotate_left
            focus (intro w hSw; (try dsimp only at hSw); go_simp; try with_reducible rfl)
            simp only [Act.put, List.setIfInBounds_toArray, List.set_cons_zero, List.set_cons_succ]
            refine wpAnyH_take (i := 14) (oi := { dst := some 133, op := Op.load 36 (Operand.tmp 5), type := 36, pos := "law.go:127", after := #[{ on := 12, ground := Ground.guard }], guard := some (12, true) }) (v := ?_) rfl (by kernel_rfl) (by kernel_rfl) (by kernel_rfl) (fun _ _ _ h => h) (Or.inl ⟨by rfl, ?_⟩) (by assumption) ?_
            rotate_left
            focus (intro w hSw; (try dsimp only at hSw); go_simp; try with_reducible rfl)
            simp only [Act.put, List.setIfInBounds_toArray, List.set_cons_zero, List.set_cons_succ]
            refine wpAnyH_ready (rs := [15]) (by kernel_rfl) (by simp) ?_
            refine AllReadyH.cons (o := { dst := some 134, op := Op.call { callee := Callee.value (Operand.func 19), args := #[Operand.tmp 132, Operand.tmp 133], argTypes := #[36, 36] }, type := 4, pos := "law.go:127", after := #[{ on := 13, ground := Ground.data }, { on := 14, ground := Ground.data }, { on := 12, ground := Ground.chain }, { on := 12, ground := Ground.guard }], guard := some (12, true) }) rfl (fun K hK => ?_) AllReadyH.nil
            go_simp
            (go_at_call 19; (with_reducible refine (QAB.out _ F3).mono ?_); rintro e w23 ⟨rfl, F4⟩)
            try go_wp2_with fail
            refine hK.out _ _ F4.out.cellsX (fun hHeld => ?_)
            clear hK K
            try simp only [Act.put, List.setIfInBounds_toArray, List.set_cons_zero, List.set_cons_succ]
            refine wpAnyH_take (i := 16) (oi := { dst := some 135, op := Op.unOp UnOp.not 4 (Operand.tmp 134), type := 4, pos := "law.go:127", after := #[{ on := 15, ground := Ground.data }, { on := 12, ground := Ground.guard }], guard := some (12, true) }) (v := ?_) rfl (by kernel_rfl) (by kernel_rfl) (by kernel_rfl) (fun _ _ _ h => h) (Or.inl ⟨by rfl, ?_⟩) (by assumption) ?_
            rotate_left
            focus (intro w hSw; (try dsimp only at hSw); go_simp; try with_reducible rfl)
            simp only [Act.put, List.setIfInBounds_toArray, List.set_cons_zero, List.set_cons_succ]
            refine wpAnyH_take (i := 17) (oi := { dst := some 136, op := Op.move (Operand.tmp 135), type := 4, pos := "law.go:127", after := #[{ on := 16, ground := Ground.data }, { on := 15, ground := Ground.chain }, { on := 12, ground := Ground.guard }], guard := some (12, true) }) (v := ?_) rfl (by kernel_rfl) (by kernel_rfl) (by kernel_rfl) (fun _ _ _ h => h) (Or.inl ⟨by rfl, ?_⟩) (by assumption) ?_
            rotate_left
            focus (intro w hSw; (try dsimp only at hSw); go_simp; try with_reducible rfl)
            simp only [Act.put, List.setIfInBounds_toArray, List.set_cons_zero, List.set_cons_succ]
            refine wpAnyH_take (i := 18) (oi := { dst := some 137, op := Op.fieldAddr 36 (Operand.tmp 4) 0, type := 0, pos := "law.go:127", after := #[{ on := 17, ground := Ground.guard }], guard := some (17, false) }) (v := ?_) rfl (by kernel_rfl) (by kernel_rfl) (by kernel_rfl) (fun _ _ _ h => h) (Or.inl ⟨by rfl, ?_⟩) (by assumption) ?_
            rotate_left
            focus (intro w hSw; (try dsimp only at hSw); go_simp; try with_reducible rfl)
            simp only [Act.put, List.setIfInBounds_toArray, List.set_cons_zero, List.set_cons_succ]
            refine wpAnyH_take (i := 19) (oi := { dst := some 138, op := Op.fieldAddr 32 (Operand.tmp 137) 0, type := 0, pos := "law.go:127", after := #[{ on := 18, ground := Ground.data }, { on := 17, ground := Ground.guard }], guard := some (17, false) }) (v := ?_) rfl (by kernel_rfl) (by kernel_rfl) (by kernel_rfl) (fun _ _ _ h => h) (Or.inl ⟨by rfl, ?_⟩) (by assumption) ?_
            rotate_left
            focus (intro w hSw; (try dsimp only at hSw); go_simp; try with_reducible rfl)
            simp only [Act.put, List.setIfInBounds_toArray, List.set_cons_zero, List.set_cons_succ]
            refine wpAnyH_take (i := 20) (oi := { dst := some 139, op := Op.load 3 (Operand.tmp 138), type := 3, pos := "law.go:127", after := #[{ on := 19, ground := Ground.data }, { on := 17, ground := Ground.guard }], guard := some (17, false) }) (v := ?_) rfl (by kernel_rfl) (by kernel_rfl) (by kernel_rfl) (fun _ _ _ h => h) (Or.inl ⟨by rfl, ?_⟩) (by assumption) ?_
            rotate_left
            focus (intro w hSw; (try dsimp only at hSw); go_simp; try with_reducible rfl)
            simp only [Act.put, List.setIfInBounds_toArray, List.set_cons_zero, List.set_cons_succ]
            refine wpAnyH_take (i := 21) (oi := { dst := some 140, op := Op.fieldAddr 36 (Operand.tmp 5) 0, type := 0, pos := "law.go:127", after := #[{ on := 17, ground := Ground.guard }], guard := some (17, false) }) (v := ?_) rfl (by kernel_rfl) (by kernel_rfl) (by kernel_rfl) (fun _ _ _ h => h) (Or.inl ⟨by rfl, ?_⟩) (by assumption) ?_
            rotate_left
            focus (intro w hSw; (try dsimp only at hSw); go_simp; try with_reducible rfl)
            simp only [Act.put, List.setIfInBounds_toArray, List.set_cons_zero, List.set_cons_succ]
            refine wpAnyH_take (i := 22) (oi := { dst := some 141, op := Op.fieldAddr 32 (Operand.tmp 140) 0, type := 0, pos := "law.go:127", after := #[{ on := 21, ground := Ground.data }, { on := 17, ground := Ground.guard }], guard := some (17, false) }) (v := ?_) rfl (by kernel_rfl) (by kernel_rfl) (by kernel_rfl) (fun _ _ _ h => h) (Or.inl ⟨by rfl, ?_⟩) (by assumption) ?_
            rotate_left
            focus (intro w hSw; (try dsimp only at hSw); go_simp; try with_reducible rfl)
            simp only [Act.put, List.setIfInBounds_toArray, List.set_cons_zero, List.set_cons_succ]
            refine wpAnyH_take (i := 23) (oi := { dst := some 142, op := Op.load 3 (Operand.tmp 141), type := 3, pos := "law.go:127", after := #[{ on := 22, ground := Ground.data }, { on := 17, ground := Ground.guard }], guard := some (17, false) }) (v := ?_) rfl (by kernel_rfl) (by kernel_rfl) (by kernel_rfl) (fun _ _ _ h => h) (Or.inl ⟨by rfl, ?_⟩) (by assumption) ?_
            rotate_left
            focus (intro w hSw; (try dsimp only at hSw); go_simp; try with_reducible rfl)
            simp only [Act.put, List.setIfInBounds_toArray, List.set_cons_zero, List.set_cons_succ]
            refine wpAnyH_take (i := 24) (oi := { dst := some 143, op := Op.binOp BinOp.eql 3 (Operand.tmp 139) (Operand.tmp 142) 3, type := 4, pos := "law.go:127", after := #[{ on := 20, ground := Ground.data }, { on := 23, ground := Ground.data }, { on := 17, ground := Ground.guard }], guard := some (17, false) }) (v := ?_) rfl (by kernel_rfl) (by kernel_rfl) (by kernel_rfl) (fun _ _ _ h => h) (Or.inl ⟨by rfl, ?_⟩) (by assumption) ?_
            rotate_left
            focus (intro w hSw; (try dsimp only at hSw); go_simp; try with_reducible rfl)
            simp only [Act.put, List.setIfInBounds_toArray, List.set_cons_zero, List.set_cons_succ]
            refine wpAnyH_take (i := 25) (oi := { dst := some 144, op := Op.move (Operand.tmp 143), type := 4, pos := "law.go:127", after := #[{ on := 24, ground := Ground.data }, { on := 17, ground := Ground.chain }, { on := 17, ground := Ground.guard }], guard := some (17, false) }) (v := ?_) rfl (by kernel_rfl) (by kernel_rfl) (by kernel_rfl) (fun _ _ _ h => h) (Or.inl ⟨by rfl, ?_⟩) (by assumption) ?_
            rotate_left
            focus (intro w hSw; (try dsimp only at hSw); go_simp; try with_reducible rfl)
            simp only [Act.put, List.setIfInBounds_toArray, List.set_cons_zero, List.set_cons_succ]
            refine wpAnyH_take (i := 26) (oi := { dst := some 145, op := Op.fieldAddr 36 (Operand.tmp 4) 2, type := 0, pos := "law.go:127", after := #[{ on := 25, ground := Ground.guard }], guard := some (25, true) }) (v := ?_) rfl (by kernel_rfl) (by kernel_rfl) (by kernel_rfl) (fun _ _ _ h => h) (Or.inl ⟨by rfl, ?_⟩) (by assumption) ?_
            rotate_left
            focus (intro w hSw; (try dsimp only at hSw); go_simp; try with_reducible rfl)
            simp only [Act.put, List.setIfInBounds_toArray, List.set_cons_zero, List.set_cons_succ]
            refine wpAnyH_take (i := 27) (oi := { dst := some 146, op := Op.load 34 (Operand.tmp 145), type := 34, pos := "law.go:127", after := #[{ on := 26, ground := Ground.data }, { on := 25, ground := Ground.guard }], guard := some (25, true) }) (v := ?_) rfl (by kernel_rfl) (by kernel_rfl) (by kernel_rfl) (fun _ _ _ h => h) (Or.inl ⟨by rfl, ?_⟩) (by assumption) ?_
            rotate_left
            focus (intro w hSw; (try dsimp only at hSw); go_simp; try with_reducible rfl)
            simp only [Act.put, List.setIfInBounds_toArray, List.set_cons_zero, List.set_cons_succ]
            refine wpAnyH_take (i := 28) (oi := { dst := some 147, op := Op.call { callee := Callee.builtin Builtin.len, args := #[Operand.tmp 146], argTypes := #[34] }, type := 3, pos := "law.go:127", after := #[{ on := 27, ground := Ground.data }, { on := 25, ground := Ground.guard }], guard := some (25, true) }) (v := ?_) rfl (by kernel_rfl) (by kernel_rfl) (by kernel_rfl) (fun _ _ _ h => h) (Or.inl ⟨by rfl, ?_⟩) (by assumption) ?_
            rotate_left
            focus (intro w hSw; (try dsimp only at hSw); go_simp; try with_reducible rfl)
            simp only [Act.put, List.setIfInBounds_toArray, List.set_cons_zero, List.set_cons_succ]
            refine wpAnyH_take (i := 29) (oi := { dst := some 148, op := Op.fieldAddr 36 (Operand.tmp 5) 2, type := 0, pos := "law.go:127", after := #[{ on := 25, ground := Ground.guard }], guard := some (25, true) }) (v := ?_) rfl (by kernel_rfl) (by kernel_rfl) (by kernel_rfl) (fun _ _ _ h => h) (Or.inl ⟨by rfl, ?_⟩) (by assumption) ?_
            rotate_left
            focus (intro w hSw; (try dsimp only at hSw); go_simp; try with_reducible rfl)
            simp only [Act.put, List.setIfInBounds_toArray, List.set_cons_zero, List.set_cons_succ]
            refine wpAnyH_take (i := 30) (oi := { dst := some 149, op := Op.load 34 (Operand.tmp 148), type := 34, pos := "law.go:127", after := #[{ on := 29, ground := Ground.data }, { on := 25, ground := Ground.guard }], guard := some (25, true) }) (v := ?_) rfl (by kernel_rfl) (by kernel_rfl) (by kernel_rfl) (fun _ _ _ h => h) (Or.inl ⟨by rfl, ?_⟩) (by assumption) ?_
            rotate_left
            focus (intro w hSw; (try dsimp only at hSw); go_simp; try with_reducible rfl)
            simp only [Act.put, List.setIfInBounds_toArray, List.set_cons_zero, List.set_cons_succ]
            refine wpAnyH_take (i := 31) (oi := { dst := some 150, op := Op.call { callee := Callee.builtin Builtin.len, args := #[Operand.tmp 149], argTypes := #[34] }, type := 3, pos := "law.go:127", after := #[{ on := 30, ground := Ground.data }, { on := 25, ground := Ground.guard }], guard := some (25, true) }) (v := ?_) rfl (by kernel_rfl) (by kernel_rfl) (by kernel_rfl) (fun _ _ _ h => h) (Or.inl ⟨by rfl, ?_⟩) (by assumption) ?_
            rotate_left
            focus (intro w hSw; (try dsimp only at hSw); go_simp; try with_reducible rfl)
            simp only [Act.put, List.setIfInBounds_toArray, List.set_cons_zero, List.set_cons_succ]
            refine wpAnyH_take (i := 32) (oi := { dst := some 151, op := Op.binOp BinOp.eql 3 (Operand.tmp 147) (Operand.tmp 150) 3, type := 4, pos := "law.go:127", after := #[{ on := 28, ground := Ground.data }, { on := 31, ground := Ground.data }, { on := 25, ground := Ground.guard }], guard := some (25, true) }) (v := ?_) rfl (by kernel_rfl) (by kernel_rfl) (by kernel_rfl) (fun _ _ _ h => h) (Or.inl ⟨by rfl, ?_⟩) (by assumption) ?_
            rotate_left
            focus (intro w hSw; (try dsimp only at hSw); go_simp; try with_reducible rfl)
            simp only [Act.put, List.setIfInBounds_toArray, List.set_cons_zero, List.set_cons_succ]
            refine wpAnyH_take (i := 33) (oi := { dst := some 152, op := Op.pick (Operand.tmp 144) (Operand.tmp 151) (Operand.const (Value.bool false)), type := 4, pos := "law.go:127", after := #[{ on := 25, ground := Ground.data }, { on := 32, ground := Ground.data }, { on := 17, ground := Ground.guard }], guard := some (17, false) }) (v := ?_) rfl (by kernel_rfl) (by kernel_rfl) (by kernel_rfl) (fun _ _ _ h => h) (Or.inl ⟨by rfl, ?_⟩) (by assumption) ?_
            rotate_left
            focus (intro w hSw; (try dsimp only at hSw); go_simp; try with_reducible rfl)
            simp only [Act.put, List.setIfInBounds_toArray, List.set_cons_zero, List.set_cons_succ]
            refine wpAnyH_take (i := 34) (oi := { dst := some 153, op := Op.move (Operand.tmp 152), type := 4, pos := "law.go:127", after := #[{ on := 33, ground := Ground.data }, { on := 25, ground := Ground.chain }, { on := 17, ground := Ground.guard }], guard := some (17, false) }) (v := ?_) rfl (by kernel_rfl) (by kernel_rfl) (by kernel_rfl) (fun _ _ _ h => h) (Or.inl ⟨by rfl, ?_⟩) (by assumption) ?_
            rotate_left
            focus (intro w hSw; (try dsimp only at hSw); go_simp; try with_reducible rfl)
            simp only [Act.put, List.setIfInBounds_toArray, List.set_cons_zero, List.set_cons_succ]
            refine wpAnyH_take (i := 35) (oi := { dst := some 154, op := Op.fieldAddr 36 (Operand.tmp 4) 1, type := 0, pos := "law.go:127", after := #[{ on := 34, ground := Ground.guard }], guard := some (34, true) }) (v := ?_) rfl (by kernel_rfl) (by kernel_rfl) (by kernel_rfl) (fun _ _ _ h => h) (Or.inl ⟨by rfl, ?_⟩) (by assumption) ?_
            rotate_left
            focus (intro w hSw; (try dsimp only at hSw); go_simp; try with_reducible rfl)
            simp only [Act.put, List.setIfInBounds_toArray, List.set_cons_zero, List.set_cons_succ]
            refine wpAnyH_take (i := 36) (oi := { dst := some 155, op := Op.load 33 (Operand.tmp 154), type := 33, pos := "law.go:127", after := #[{ on := 35, ground := Ground.data }, { on := 34, ground := Ground.guard }], guard := some (34, true) }) (v := ?_) rfl (by kernel_rfl) (by kernel_rfl) (by kernel_rfl) (fun _ _ _ h => h) (Or.inl ⟨by rfl, ?_⟩) (by assumption) ?_
            rotate_left
            focus (intro w hSw; (try dsimp only at hSw); go_simp; try with_reducible rfl)
            simp only [Act.put, List.setIfInBounds_toArray, List.set_cons_zero, List.set_cons_succ]
            refine wpAnyH_take (i := 37) (oi := { dst := some 156, op := Op.call { callee := Callee.builtin Builtin.len, args := #[Operand.tmp 155], argTypes := #[33] }, type := 3, pos := "law.go:127", after := #[{ on := 36, ground := Ground.data }, { on := 34, ground := Ground.guard }], guard := some (34, true) }) (v := ?_) rfl (by kernel_rfl) (by kernel_rfl) (by kernel_rfl) (fun _ _ _ h => h) (Or.inl ⟨by rfl, ?_⟩) (by assumption) ?_
            rotate_left
            focus (intro w hSw; (try dsimp only at hSw); go_simp; try with_reducible rfl)
            simp only [Act.put, List.setIfInBounds_toArray, List.set_cons_zero, List.set_cons_succ]
            refine wpAnyH_take (i := 38) (oi := { dst := some 157, op := Op.fieldAddr 36 (Operand.tmp 5) 1, type := 0, pos := "law.go:127", after := #[{ on := 34, ground := Ground.guard }], guard := some (34, true) }) (v := ?_) rfl (by kernel_rfl) (by kernel_rfl) (by kernel_rfl) (fun _ _ _ h => h) (Or.inl ⟨by rfl, ?_⟩) (by assumption) ?_
            rotate_left
            focus (intro w hSw; (try dsimp only at hSw); go_simp; try with_reducible rfl)
            simp only [Act.put, List.setIfInBounds_toArray, List.set_cons_zero, List.set_cons_succ]
            refine wpAnyH_take (i := 39) (oi := { dst := some 158, op := Op.load 33 (Operand.tmp 157), type := 33, pos := "law.go:127", after := #[{ on := 38, ground := Ground.data }, { on := 34, ground := Ground.guard }], guard := some (34, true) }) (v := ?_) rfl (by kernel_rfl) (by kernel_rfl) (by kernel_rfl) (fun _ _ _ h => h) (Or.inl ⟨by rfl, ?_⟩) (by assumption) ?_
            rotate_left
            focus (intro w hSw; (try dsimp only at hSw); go_simp; try with_reducible rfl)
            simp only [Act.put, List.setIfInBounds_toArray, List.set_cons_zero, List.set_cons_succ]
            refine wpAnyH_take (i := 40) (oi := { dst := some 159, op := Op.call { callee := Callee.builtin Builtin.len, args := #[Operand.tmp 158], argTypes := #[33] }, type := 3, pos := "law.go:127", after := #[{ on := 39, ground := Ground.data }, { on := 34, ground := Ground.guard }], guard := some (34, true) }) (v := ?_) rfl (by kernel_rfl) (by kernel_rfl) (by kernel_rfl) (fun _ _ _ h => h) (Or.inl ⟨by rfl, ?_⟩) (by assumption) ?_
            rotate_left
            focus (intro w hSw; (try dsimp only at hSw); go_simp; try with_reducible rfl)
            simp only [Act.put, List.setIfInBounds_toArray, List.set_cons_zero, List.set_cons_succ]
            refine wpAnyH_take (i := 41) (oi := { dst := some 160, op := Op.binOp BinOp.eql 3 (Operand.tmp 156) (Operand.tmp 159) 3, type := 4, pos := "law.go:127", after := #[{ on := 37, ground := Ground.data }, { on := 40, ground := Ground.data }, { on := 34, ground := Ground.guard }], guard := some (34, true) }) (v := ?_) rfl (by kernel_rfl) (by kernel_rfl) (by kernel_rfl) (fun _ _ _ h => h) (Or.inl ⟨by rfl, ?_⟩) (by assumption) ?_
            rotate_left
            focus (intro w hSw; (try dsimp only at hSw); go_simp; try with_reducible rfl)
            simp only [Act.put, List.setIfInBounds_toArray, List.set_cons_zero, List.set_cons_succ]
            refine wpAnyH_take (i := 42) (oi := { dst := some 161, op := Op.pick (Operand.tmp 153) (Operand.tmp 160) (Operand.const (Value.bool false)), type := 4, pos := "law.go:127", after := #[{ on := 34, ground := Ground.data }, { on := 41, ground := Ground.data }, { on := 17, ground := Ground.guard }], guard := some (17, false) }) (v := ?_) rfl (by kernel_rfl) (by kernel_rfl) (by kernel_rfl) (fun _ _ _ h => h) (Or.inl ⟨by rfl, ?_⟩) (by assumption) ?_
            rotate_left
            focus (intro w hSw; (try dsimp only at hSw); go_simp; try with_reducible rfl)
            simp only [Act.put, List.setIfInBounds_toArray, List.set_cons_zero, List.set_cons_succ]
            refine wpAnyH_take (i := 43) (oi := { dst := some 162, op := Op.pick (Operand.tmp 136) (Operand.const (Value.bool true)) (Operand.tmp 161), type := 4, pos := "law.go:127", after := #[{ on := 17, ground := Ground.data }, { on := 42, ground := Ground.data }, { on := 12, ground := Ground.guard }], guard := some (12, true) }) (v := ?_) rfl (by kernel_rfl) (by kernel_rfl) (by kernel_rfl) (fun _ _ _ h => h) (Or.inl ⟨by rfl, ?_⟩) (by assumption) ?_
            rotate_left
            focus (intro w hSw; (try dsimp only at hSw); go_simp; try with_reducible rfl)
            simp only [Act.put, List.setIfInBounds_toArray, List.set_cons_zero, List.set_cons_succ]
            refine wpAnyH_take (i := 44) (oi := { dst := some 163, op := Op.pick (Operand.tmp 131) (Operand.tmp 162) (Operand.const (Value.bool false)), type := 4, pos := "law.go:127", after := #[{ on := 12, ground := Ground.data }, { on := 43, ground := Ground.data }], guard := none }) (v := ?_) rfl (by kernel_rfl) (by kernel_rfl) (by kernel_rfl) (fun _ _ _ h => h) (Or.inl ⟨by rfl, ?_⟩) (by assumption) ?_
            rotate_left
            focus (intro w hSw; (try dsimp only at hSw); go_simp; try with_reducible rfl)
            simp only [Act.put, List.setIfInBounds_toArray, List.set_cons_zero, List.set_cons_succ]
            refine wpAnyH_take (i := 45) (oi := { dst := some 6, op := Op.assign (Operand.tmp 163), type := 4, pos := "law.go:127", after := #[{ on := 44, ground := Ground.data }, { on := 34, ground := Ground.chain }, { on := 0, ground := Ground.phase }, { on := 1, ground := Ground.phase }, { on := 2, ground := Ground.phase }, { on := 3, ground := Ground.phase }, { on := 4, ground := Ground.phase }, { on := 5, ground := Ground.phase }, { on := 6, ground := Ground.phase }, { on := 7, ground := Ground.phase }, { on := 8, ground := Ground.phase }, { on := 9, ground := Ground.phase }, { on := 10, ground := Ground.phase }, { on := 11, ground := Ground.phase }, { on := 12, ground := Ground.phase }, { on := 13, ground := Ground.phase }, { on := 14, ground := Ground.phase }, { on := 15, ground := Ground.phase }, { on := 16, ground := Ground.phase }, { on := 17, ground := Ground.phase }, { on := 18, ground := Ground.phase }, { on := 19, ground := Ground.phase }, { on := 20, ground := Ground.phase }, { on := 21, ground := Ground.phase }, { on := 22, ground := Ground.phase }, { on := 23, ground := Ground.phase }, { on := 24, ground := Ground.phase }, { on := 25, ground := Ground.phase }, { on := 26, ground := Ground.phase }, { on := 27, ground := Ground.phase }, { on := 28, ground := Ground.phase }, { on := 29, ground := Ground.phase }, { on := 30, ground := Ground.phase }, { on := 31, ground := Ground.phase }, { on := 32, ground := Ground.phase }, { on := 33, ground := Ground.phase }, { on := 34, ground := Ground.phase }, { on := 35, ground := Ground.phase }, { on := 36, ground := Ground.phase }, { on := 37, ground := Ground.phase }, { on := 38, ground := Ground.phase }, { on := 39, ground := Ground.phase }, { on := 40, ground := Ground.phase }, { on := 41, ground := Ground.phase }, { on := 42, ground := Ground.phase }, { on := 43, ground := Ground.phase }, { on := 44, ground := Ground.phase }], guard := none }) (v := ?_) rfl (by kernel_rfl) (by kernel_rfl) (by kernel_rfl) (fun _ _ _ h => h) (Or.inl ⟨by rfl, ?_⟩) (by assumption) ?_
            rotate_left
            focus (intro w hSw; (try dsimp only at hSw); go_simp; try with_reducible rfl)
            simp only [Act.put, List.setIfInBounds_toArray, List.set_cons_zero, List.set_cons_succ]
            refine wpAnyH_done (by kernel_rfl) ?_ _
            refine NoPanic.normal ?_
            go_wp2
            go_ret
            exact ⟨rfl, F4.out.bel⟩
          | false =>
            refine wpAnyH_take (i := 0) (oi := { dst := some 119, op := Op.load 36 (Operand.tmp 4), type := 36, pos := "law.go:127", after := #[], guard := none }) (v := ?_) rfl (by kernel_rfl) (by kernel_rfl) (by kernel_rfl) (fun _ _ _ h => h) (Or.inl ⟨by rfl, ?_⟩) (by assumption) ?_
            rotate_left
            focus (intro w hSw; (try dsimp only at hSw); go_simp; try with_reducible rfl)
            simp only [Act.put, List.setIfInBounds_toArray, List.set_cons_zero, List.set_cons_succ]
            refine wpAnyH_take (i := 1) (oi := { dst := some 120, op := Op.load 36 (Operand.tmp 4), type := 36, pos := "law.go:127", after := #[], guard := none }) (v := ?_) rfl (by kernel_rfl) (by kernel_rfl) (by kernel_rfl) (fun _ _ _ h => h) (Or.inl ⟨by rfl, ?_⟩) (by assumption) ?_
            rotate_left
            focus (intro w hSw; (try dsimp only at hSw); go_simp; try with_reducible rfl)
            simp only [Act.put, List.setIfInBounds_toArray, List.set_cons_zero, List.set_cons_succ]
            refine wpAnyH_ready (rs := [2]) (by kernel_rfl) (by simp) ?_
            refine AllReadyH.cons (o := { dst := some 121, op := Op.call { callee := Callee.value (Operand.func 19), args := #[Operand.tmp 119, Operand.tmp 120], argTypes := #[36, 36] }, type := 4, pos := "law.go:127", after := #[{ on := 0, ground := Ground.data }, { on := 1, ground := Ground.data }], guard := none }) rfl (fun K hK => ?_) AllReadyH.nil
            go_simp
            (go_at_call 19; (with_reducible refine (QAA.out _ F0).mono ?_); rintro e w20 ⟨rfl, F1⟩)
            try go_wp2_with fail
            refine hK.out _ _ F1.out.cellsX (fun hHeld => ?_)
            clear hK K
            try simp only [Act.put, List.setIfInBounds_toArray, List.set_cons_zero, List.set_cons_succ]
            refine wpAnyH_take (i := 3) (oi := { dst := some 122, op := Op.move (Operand.tmp 121), type := 4, pos := "law.go:127", after := #[{ on := 2, ground := Ground.data }, { on := 2, ground := Ground.chain }], guard := none }) (v := ?_) rfl (by kernel_rfl) (by kernel_rfl) (by kernel_rfl) (fun _ _ _ h => h) (Or.inl ⟨by rfl, ?_⟩) (by assumption) ?_
            rotate_left
            focus (intro w hSw; (try dsimp only at hSw); go_simp; try with_reducible rfl)
            simp only [Act.put, List.setIfInBounds_toArray, List.set_cons_zero, List.set_cons_succ]
            refine wpAnyH_take (i := 4) (oi := { dst := some 123, op := Op.load 36 (Operand.tmp 4), type := 36, pos := "law.go:127", after := #[{ on := 3, ground := Ground.guard }], guard := some (3, true) }) (v := ?_) rfl (by kernel_rfl) (by kernel_rfl) (by kernel_rfl) (fun _ _ _ h => h) (Or.inl ⟨by rfl, ?_⟩) (by assumption) ?_
            rotate_left
            focus (intro w hSw; (try dsimp only at hSw); go_simp; try with_reducible rfl)
            simp only [Act.put, List.setIfInBounds_toArray, List.set_cons_zero, List.set_cons_succ]
            refine wpAnyH_take (i := 5) (oi := { dst := some 124, op := Op.load 36 (Operand.tmp 5), type := 36, pos := "law.go:127", after := #[{ on := 3, ground := Ground.guard }], guard := some (3, true) }) (v := ?_) rfl (by kernel_rfl) (by kernel_rfl) (by kernel_rfl) (fun _ _ _ h => h) (Or.inl ⟨by rfl, ?_⟩) (by assumption) ?_
            rotate_left
            focus (intro w hSw; (try dsimp only at hSw); go_simp; try with_reducible rfl)
            simp only [Act.put, List.setIfInBounds_toArray, List.set_cons_zero, List.set_cons_succ]
            refine wpAnyH_take (i := 7) (oi := { dst := some 126, op := Op.load 36 (Operand.tmp 5), type := 36, pos := "law.go:127", after := #[{ on := 3, ground := Ground.guard }], guard := some (3, true) }) (v := ?_) rfl (by kernel_rfl) (by kernel_rfl) (by kernel_rfl) (fun _ _ _ h => h) (Or.inl ⟨by rfl, ?_⟩) (by assumption) ?_
            rotate_left
            focus (intro w hSw; (try dsimp only at hSw); go_simp; try with_reducible rfl)
            simp only [Act.put, List.setIfInBounds_toArray, List.set_cons_zero, List.set_cons_succ]
            refine wpAnyH_take (i := 8) (oi := { dst := some 127, op := Op.load 36 (Operand.tmp 4), type := 36, pos := "law.go:127", after := #[{ on := 3, ground := Ground.guard }], guard := some (3, true) }) (v := ?_) rfl (by kernel_rfl) (by kernel_rfl) (by kernel_rfl) (fun _ _ _ h => h) (Or.inl ⟨by rfl, ?_⟩) (by assumption) ?_
            rotate_left
            focus (intro w hSw; (try dsimp only at hSw); go_simp; try with_reducible rfl)
            simp only [Act.put, List.setIfInBounds_toArray, List.set_cons_zero, List.set_cons_succ]
            refine wpAnyH_ready (rs := [6]) (by kernel_rfl) (by simp) ?_
            refine AllReadyH.cons (o := { dst := some 125, op := Op.call { callee := Callee.value (Operand.func 19), args := #[Operand.tmp 123, Operand.tmp 124], argTypes := #[36, 36] }, type := 4, pos := "law.go:127", after := #[{ on := 4, ground := Ground.data }, { on := 5, ground := Ground.data }, { on := 3, ground := Ground.chain }, { on := 3, ground := Ground.guard }], guard := some (3, true) }) rfl (fun K hK => ?_) AllReadyH.nil
            go_simp
            (go_at_call 19; (with_reducible refine (QAB.out _ F1).mono ?_); rintro e w21 ⟨rfl, F2⟩)
            try go_wp2_with fail
            refine hK.out _ _ F2.out.cellsX (fun hHeld => ?_)
            clear hK K
            try simp only [Act.put, List.setIfInBounds_toArray, List.set_cons_zero, List.set_cons_succ]
            refine wpAnyH_ready (rs := [9]) (by kernel_rfl) (by simp) ?_
            refine AllReadyH.cons (o := { dst := some 128, op := Op.call { callee := Callee.value (Operand.func 19), args := #[Operand.tmp 126, Operand.tmp 127], argTypes := #[36, 36] }, type := 4, pos := "law.go:127", after := #[{ on := 7, ground := Ground.data }, { on := 8, ground := Ground.data }, { on := 6, ground := Ground.chain }, { on := 3, ground := Ground.guard }], guard := some (3, true) }) rfl (fun K hK => ?_) AllReadyH.nil
            go_simp
            (go_at_call 19; (with_reducible refine (QBA.out _ F2).mono ?_); rintro e w22 ⟨rfl, F3⟩)
            try go_wp2_with fail
            refine hK.out _ _ F3.out.cellsX (fun hHeld => ?_)
            clear hK K
            try simp only [Act.put, List.setIfInBounds_toArray, List.set_cons_zero, List.set_cons_succ]
            refine wpAnyH_take (i := 10) (oi := { dst := some 129, op := Op.binOp BinOp.eql 4 (Operand.tmp 125) (Operand.tmp 128) 4, type := 4, pos := "law.go:127", after := #[{ on := 6, ground := Ground.data }, { on := 9, ground := Ground.data }, { on := 3, ground := Ground.guard }], guard := some (3, true) }) (v := ?_) rfl (by kernel_rfl) (by kernel_rfl) (by kernel_rfl) (fun _ _ _ h => h) (Or.inl ⟨by rfl, ?_⟩) (by assumption) ?_
            rotate_left
            focus (intro w hSw; (try dsimp only at hSw); go_simp; try with_reducible rfl)
            simp only [Act.put, List.setIfInBounds_toArray, List.set_cons_zero, List.set_cons_succ]
            refine wpAnyH_take (i := 11) (oi := { dst := some 130, op := Op.pick (Operand.tmp 122) (Operand.tmp 129) (Operand.const (Value.bool false)), type := 4, pos := "law.go:127", after := #[{ on := 3, ground := Ground.data }, { on := 10, ground := Ground.data }], guard := none }) (v := ?_) rfl (by kernel_rfl) (by kernel_rfl) (by kernel_rfl) (fun _ _ _ h => h) (Or.inl ⟨by rfl, ?_⟩) (by assumption) ?_
            rotate_left
            focus (intro w hSw; (try dsimp only at hSw); go_simp; try with_reducible rfl)
            simp only [Act.put, List.setIfInBounds_toArray, List.set_cons_zero, List.set_cons_succ]
            refine wpAnyH_take (i := 12) (oi := { dst := some 131, op := Op.move (Operand.tmp 130), type := 4, pos := "law.go:127", after := #[{ on := 11, ground := Ground.data }, { on := 9, ground := Ground.chain }], guard := none }) (v := ?_) rfl (by kernel_rfl) (by kernel_rfl) (by kernel_rfl) (fun _ _ _ h => h) (Or.inl ⟨by rfl, ?_⟩) (by assumption) ?_
            rotate_left
            focus (intro w hSw; (try dsimp only at hSw); go_simp; try with_reducible rfl)
            simp only [Act.put, List.setIfInBounds_toArray, List.set_cons_zero, List.set_cons_succ]
            refine wpAnyH_take (i := 13) (oi := { dst := some 132, op := Op.load 36 (Operand.tmp 4), type := 36, pos := "law.go:127", after := #[{ on := 12, ground := Ground.guard }], guard := some (12, true) }) (v := ?_) rfl (by kernel_rfl) (by kernel_rfl) (by kernel_rfl) (fun _ _ _ h => h) (Or.inl ⟨by rfl, ?_⟩) (by assumption) ?_
            rotate_left
            focus (intro w hSw; (try dsimp only at hSw); go_simp; try with_reducible rfl)
            simp only [Act.put, List.setIfInBounds_toArray, List.set_cons_zero, List.set_cons_succ]
            refine wpAnyH_take (i := 14) (oi := { dst := some 133, op := Op.load 36 (Operand.tmp 5), type := 36, pos := "law.go:127", after := #[{ on := 12, ground := Ground.guard }], guard := some (12, true) }) (v := ?_) rfl (by kernel_rfl) (by kernel_rfl) (by kernel_rfl) (fun _ _ _ h => h) (Or.inl ⟨by rfl, ?_⟩) (by assumption) ?_
            rotate_left
            focus (intro w hSw; (try dsimp only at hSw); go_simp; try with_reducible rfl)
            simp only [Act.put, List.setIfInBounds_toArray, List.set_cons_zero, List.set_cons_succ]
            refine wpAnyH_ready (rs := [15]) (by kernel_rfl) (by simp) ?_
            refine AllReadyH.cons (o := { dst := some 134, op := Op.call { callee := Callee.value (Operand.func 19), args := #[Operand.tmp 132, Operand.tmp 133], argTypes := #[36, 36] }, type := 4, pos := "law.go:127", after := #[{ on := 13, ground := Ground.data }, { on := 14, ground := Ground.data }, { on := 12, ground := Ground.chain }, { on := 12, ground := Ground.guard }], guard := some (12, true) }) rfl (fun K hK => ?_) AllReadyH.nil
            go_simp
            (go_at_call 19; (with_reducible refine (QAB.out _ F3).mono ?_); rintro e w23 ⟨rfl, F4⟩)
            try go_wp2_with fail
            refine hK.out _ _ F4.out.cellsX (fun hHeld => ?_)
            clear hK K
            try simp only [Act.put, List.setIfInBounds_toArray, List.set_cons_zero, List.set_cons_succ]
            refine wpAnyH_take (i := 16) (oi := { dst := some 135, op := Op.unOp UnOp.not 4 (Operand.tmp 134), type := 4, pos := "law.go:127", after := #[{ on := 15, ground := Ground.data }, { on := 12, ground := Ground.guard }], guard := some (12, true) }) (v := ?_) rfl (by kernel_rfl) (by kernel_rfl) (by kernel_rfl) (fun _ _ _ h => h) (Or.inl ⟨by rfl, ?_⟩) (by assumption) ?_
            rotate_left
            focus (intro w hSw; (try dsimp only at hSw); go_simp; try with_reducible rfl)
            simp only [Act.put, List.setIfInBounds_toArray, List.set_cons_zero, List.set_cons_succ]
            refine wpAnyH_take (i := 17) (oi := { dst := some 136, op := Op.move (Operand.tmp 135), type := 4, pos := "law.go:127", after := #[{ on := 16, ground := Ground.data }, { on := 15, ground := Ground.chain }, { on := 12, ground := Ground.guard }], guard := some (12, true) }) (v := ?_) rfl (by kernel_rfl) (by kernel_rfl) (by kernel_rfl) (fun _ _ _ h => h) (Or.inl ⟨by rfl, ?_⟩) (by assumption) ?_
            rotate_left
            focus (intro w hSw; (try dsimp only at hSw); go_simp; try with_reducible rfl)
            simp only [Act.put, List.setIfInBounds_toArray, List.set_cons_zero, List.set_cons_succ]
            refine wpAnyH_take (i := 18) (oi := { dst := some 137, op := Op.fieldAddr 36 (Operand.tmp 4) 0, type := 0, pos := "law.go:127", after := #[{ on := 17, ground := Ground.guard }], guard := some (17, false) }) (v := undef) rfl (by kernel_rfl) (by kernel_rfl) (by kernel_rfl) (fun _ _ _ h => h) (Or.inr ⟨by rfl, rfl⟩) (by assumption) ?_
            simp only [Act.put, List.setIfInBounds_toArray, List.set_cons_zero, List.set_cons_succ]
            refine wpAnyH_take (i := 19) (oi := { dst := some 138, op := Op.fieldAddr 32 (Operand.tmp 137) 0, type := 0, pos := "law.go:127", after := #[{ on := 18, ground := Ground.data }, { on := 17, ground := Ground.guard }], guard := some (17, false) }) (v := undef) rfl (by kernel_rfl) (by kernel_rfl) (by kernel_rfl) (fun _ _ _ h => h) (Or.inr ⟨by rfl, rfl⟩) (by assumption) ?_
            simp only [Act.put, List.setIfInBounds_toArray, List.set_cons_zero, List.set_cons_succ]
            refine wpAnyH_take (i := 20) (oi := { dst := some 139, op := Op.load 3 (Operand.tmp 138), type := 3, pos := "law.go:127", after := #[{ on := 19, ground := Ground.data }, { on := 17, ground := Ground.guard }], guard := some (17, false) }) (v := undef) rfl (by kernel_rfl) (by kernel_rfl) (by kernel_rfl) (fun _ _ _ h => h) (Or.inr ⟨by rfl, rfl⟩) (by assumption) ?_
            simp only [Act.put, List.setIfInBounds_toArray, List.set_cons_zero, List.set_cons_succ]
            refine wpAnyH_take (i := 21) (oi := { dst := some 140, op := Op.fieldAddr 36 (Operand.tmp 5) 0, type := 0, pos := "law.go:127", after := #[{ on := 17, ground := Ground.guard }], guard := some (17, false) }) (v := undef) rfl (by kernel_rfl) (by kernel_rfl) (by kernel_rfl) (fun _ _ _ h => h) (Or.inr ⟨by rfl, rfl⟩) (by assumption) ?_
            simp only [Act.put, List.setIfInBounds_toArray, List.set_cons_zero, List.set_cons_succ]
            refine wpAnyH_take (i := 22) (oi := { dst := some 141, op := Op.fieldAddr 32 (Operand.tmp 140) 0, type := 0, pos := "law.go:127", after := #[{ on := 21, ground := Ground.data }, { on := 17, ground := Ground.guard }], guard := some (17, false) }) (v := undef) rfl (by kernel_rfl) (by kernel_rfl) (by kernel_rfl) (fun _ _ _ h => h) (Or.inr ⟨by rfl, rfl⟩) (by assumption) ?_
            simp only [Act.put, List.setIfInBounds_toArray, List.set_cons_zero, List.set_cons_succ]
            refine wpAnyH_take (i := 23) (oi := { dst := some 142, op := Op.load 3 (Operand.tmp 141), type := 3, pos := "law.go:127", after := #[{ on := 22, ground := Ground.data }, { on := 17, ground := Ground.guard }], guard := some (17, false) }) (v := undef) rfl (by kernel_rfl) (by kernel_rfl) (by kernel_rfl) (fun _ _ _ h => h) (Or.inr ⟨by rfl, rfl⟩) (by assumption) ?_
            simp only [Act.put, List.setIfInBounds_toArray, List.set_cons_zero, List.set_cons_succ]
            refine wpAnyH_take (i := 24) (oi := { dst := some 143, op := Op.binOp BinOp.eql 3 (Operand.tmp 139) (Operand.tmp 142) 3, type := 4, pos := "law.go:127", after := #[{ on := 20, ground := Ground.data }, { on := 23, ground := Ground.data }, { on := 17, ground := Ground.guard }], guard := some (17, false) }) (v := undef) rfl (by kernel_rfl) (by kernel_rfl) (by kernel_rfl) (fun _ _ _ h => h) (Or.inr ⟨by rfl, rfl⟩) (by assumption) ?_
            simp only [Act.put, List.setIfInBounds_toArray, List.set_cons_zero, List.set_cons_succ]
            refine wpAnyH_take (i := 25) (oi := { dst := some 144, op := Op.move (Operand.tmp 143), type := 4, pos := "law.go:127", after := #[{ on := 24, ground := Ground.data }, { on := 17, ground := Ground.chain }, { on := 17, ground := Ground.guard }], guard := some (17, false) }) (v := undef) rfl (by kernel_rfl) (by kernel_rfl) (by kernel_rfl) (fun _ _ _ h => h) (Or.inr ⟨by rfl, rfl⟩) (by assumption) ?_
            simp only [Act.put, List.setIfInBounds_toArray, List.set_cons_zero, List.set_cons_succ]
            refine wpAnyH_take (i := 26) (oi := { dst := some 145, op := Op.fieldAddr 36 (Operand.tmp 4) 2, type := 0, pos := "law.go:127", after := #[{ on := 25, ground := Ground.guard }], guard := some (25, true) }) (v := undef) rfl (by kernel_rfl) (by kernel_rfl) (by kernel_rfl) (fun _ _ _ h => h) (Or.inr ⟨by rfl, rfl⟩) (by assumption) ?_
            simp only [Act.put, List.setIfInBounds_toArray, List.set_cons_zero, List.set_cons_succ]
            refine wpAnyH_take (i := 27) (oi := { dst := some 146, op := Op.load 34 (Operand.tmp 145), type := 34, pos := "law.go:127", after := #[{ on := 26, ground := Ground.data }, { on := 25, ground := Ground.guard }], guard := some (25, true) }) (v := undef) rfl (by kernel_rfl) (by kernel_rfl) (by kernel_rfl) (fun _ _ _ h => h) (Or.inr ⟨by rfl, rfl⟩) (by assumption) ?_
            simp only [Act.put, List.setIfInBounds_toArray, List.set_cons_zero, List.set_cons_succ]
            refine wpAnyH_take (i := 28) (oi := { dst := some 147, op := Op.call { callee := Callee.builtin Builtin.len, args := #[Operand.tmp 146], argTypes := #[34] }, type := 3, pos := "law.go:127", after := #[{ on := 27, ground := Ground.data }, { on := 25, ground := Ground.guard }], guard := some (25, true) }) (v := undef) rfl (by kernel_rfl) (by kernel_rfl) (by kernel_rfl) (fun _ _ _ h => h) (Or.inr ⟨by rfl, rfl⟩) (by assumption) ?_
            simp only [Act.put, List.setIfInBounds_toArray, List.set_cons_zero, List.set_cons_succ]
            refine wpAnyH_take (i := 29) (oi := { dst := some 148, op := Op.fieldAddr 36 (Operand.tmp 5) 2, type := 0, pos := "law.go:127", after := #[{ on := 25, ground := Ground.guard }], guard := some (25, true) }) (v := undef) rfl (by kernel_rfl) (by kernel_rfl) (by kernel_rfl) (fun _ _ _ h => h) (Or.inr ⟨by rfl, rfl⟩) (by assumption) ?_
            simp only [Act.put, List.setIfInBounds_toArray, List.set_cons_zero, List.set_cons_succ]
            refine wpAnyH_take (i := 30) (oi := { dst := some 149, op := Op.load 34 (Operand.tmp 148), type := 34, pos := "law.go:127", after := #[{ on := 29, ground := Ground.data }, { on := 25, ground := Ground.guard }], guard := some (25, true) }) (v := undef) rfl (by kernel_rfl) (by kernel_rfl) (by kernel_rfl) (fun _ _ _ h => h) (Or.inr ⟨by rfl, rfl⟩) (by assumption) ?_
            simp only [Act.put, List.setIfInBounds_toArray, List.set_cons_zero, List.set_cons_succ]
            refine wpAnyH_take (i := 31) (oi := { dst := some 150, op := Op.call { callee := Callee.builtin Builtin.len, args := #[Operand.tmp 149], argTypes := #[34] }, type := 3, pos := "law.go:127", after := #[{ on := 30, ground := Ground.data }, { on := 25, ground := Ground.guard }], guard := some (25, true) }) (v := undef) rfl (by kernel_rfl) (by kernel_rfl) (by kernel_rfl) (fun _ _ _ h => h) (Or.inr ⟨by rfl, rfl⟩) (by assumption) ?_
            simp only [Act.put, List.setIfInBounds_toArray, List.set_cons_zero, List.set_cons_succ]
            refine wpAnyH_take (i := 32) (oi := { dst := some 151, op := Op.binOp BinOp.eql 3 (Operand.tmp 147) (Operand.tmp 150) 3, type := 4, pos := "law.go:127", after := #[{ on := 28, ground := Ground.data }, { on := 31, ground := Ground.data }, { on := 25, ground := Ground.guard }], guard := some (25, true) }) (v := undef) rfl (by kernel_rfl) (by kernel_rfl) (by kernel_rfl) (fun _ _ _ h => h) (Or.inr ⟨by rfl, rfl⟩) (by assumption) ?_
            simp only [Act.put, List.setIfInBounds_toArray, List.set_cons_zero, List.set_cons_succ]
            refine wpAnyH_take (i := 33) (oi := { dst := some 152, op := Op.pick (Operand.tmp 144) (Operand.tmp 151) (Operand.const (Value.bool false)), type := 4, pos := "law.go:127", after := #[{ on := 25, ground := Ground.data }, { on := 32, ground := Ground.data }, { on := 17, ground := Ground.guard }], guard := some (17, false) }) (v := undef) rfl (by kernel_rfl) (by kernel_rfl) (by kernel_rfl) (fun _ _ _ h => h) (Or.inr ⟨by rfl, rfl⟩) (by assumption) ?_
            simp only [Act.put, List.setIfInBounds_toArray, List.set_cons_zero, List.set_cons_succ]
            refine wpAnyH_take (i := 34) (oi := { dst := some 153, op := Op.move (Operand.tmp 152), type := 4, pos := "law.go:127", after := #[{ on := 33, ground := Ground.data }, { on := 25, ground := Ground.chain }, { on := 17, ground := Ground.guard }], guard := some (17, false) }) (v := undef) rfl (by kernel_rfl) (by kernel_rfl) (by kernel_rfl) (fun _ _ _ h => h) (Or.inr ⟨by rfl, rfl⟩) (by assumption) ?_
            simp only [Act.put, List.setIfInBounds_toArray, List.set_cons_zero, List.set_cons_succ]
            refine wpAnyH_take (i := 35) (oi := { dst := some 154, op := Op.fieldAddr 36 (Operand.tmp 4) 1, type := 0, pos := "law.go:127", after := #[{ on := 34, ground := Ground.guard }], guard := some (34, true) }) (v := undef) rfl (by kernel_rfl) (by kernel_rfl) (by kernel_rfl) (fun _ _ _ h => h) (Or.inr ⟨by rfl, rfl⟩) (by assumption) ?_
            simp only [Act.put, List.setIfInBounds_toArray, List.set_cons_zero, List.set_cons_succ]
            refine wpAnyH_take (i := 36) (oi := { dst := some 155, op := Op.load 33 (Operand.tmp 154), type := 33, pos := "law.go:127", after := #[{ on := 35, ground := Ground.data }, { on := 34, ground := Ground.guard }], guard := some (34, true) }) (v := undef) rfl (by kernel_rfl) (by kernel_rfl) (by kernel_rfl) (fun _ _ _ h => h) (Or.inr ⟨by rfl, rfl⟩) (by assumption) ?_
            simp only [Act.put, List.setIfInBounds_toArray, List.set_cons_zero, List.set_cons_succ]
            refine wpAnyH_take (i := 37) (oi := { dst := some 156, op := Op.call { callee := Callee.builtin Builtin.len, args := #[Operand.tmp 155], argTypes := #[33] }, type := 3, pos := "law.go:127", after := #[{ on := 36, ground := Ground.data }, { on := 34, ground := Ground.guard }], guard := some (34, true) }) (v := undef) rfl (by kernel_rfl) (by kernel_rfl) (by kernel_rfl) (fun _ _ _ h => h) (Or.inr ⟨by rfl, rfl⟩) (by assumption) ?_
            simp only [Act.put, List.setIfInBounds_toArray, List.set_cons_zero, List.set_cons_succ]
            refine wpAnyH_take (i := 38) (oi := { dst := some 157, op := Op.fieldAddr 36 (Operand.tmp 5) 1, type := 0, pos := "law.go:127", after := #[{ on := 34, ground := Ground.guard }], guard := some (34, true) }) (v := undef) rfl (by kernel_rfl) (by kernel_rfl) (by kernel_rfl) (fun _ _ _ h => h) (Or.inr ⟨by rfl, rfl⟩) (by assumption) ?_
            simp only [Act.put, List.setIfInBounds_toArray, List.set_cons_zero, List.set_cons_succ]
            refine wpAnyH_take (i := 39) (oi := { dst := some 158, op := Op.load 33 (Operand.tmp 157), type := 33, pos := "law.go:127", after := #[{ on := 38, ground := Ground.data }, { on := 34, ground := Ground.guard }], guard := some (34, true) }) (v := undef) rfl (by kernel_rfl) (by kernel_rfl) (by kernel_rfl) (fun _ _ _ h => h) (Or.inr ⟨by rfl, rfl⟩) (by assumption) ?_
            simp only [Act.put, List.setIfInBounds_toArray, List.set_cons_zero, List.set_cons_succ]
            refine wpAnyH_take (i := 40) (oi := { dst := some 159, op := Op.call { callee := Callee.builtin Builtin.len, args := #[Operand.tmp 158], argTypes := #[33] }, type := 3, pos := "law.go:127", after := #[{ on := 39, ground := Ground.data }, { on := 34, ground := Ground.guard }], guard := some (34, true) }) (v := undef) rfl (by kernel_rfl) (by kernel_rfl) (by kernel_rfl) (fun _ _ _ h => h) (Or.inr ⟨by rfl, rfl⟩) (by assumption) ?_
            simp only [Act.put, List.setIfInBounds_toArray, List.set_cons_zero, List.set_cons_succ]
            refine wpAnyH_take (i := 41) (oi := { dst := some 160, op := Op.binOp BinOp.eql 3 (Operand.tmp 156) (Operand.tmp 159) 3, type := 4, pos := "law.go:127", after := #[{ on := 37, ground := Ground.data }, { on := 40, ground := Ground.data }, { on := 34, ground := Ground.guard }], guard := some (34, true) }) (v := undef) rfl (by kernel_rfl) (by kernel_rfl) (by kernel_rfl) (fun _ _ _ h => h) (Or.inr ⟨by rfl, rfl⟩) (by assumption) ?_
            simp only [Act.put, List.setIfInBounds_toArray, List.set_cons_zero, List.set_cons_succ]
            refine wpAnyH_take (i := 42) (oi := { dst := some 161, op := Op.pick (Operand.tmp 153) (Operand.tmp 160) (Operand.const (Value.bool false)), type := 4, pos := "law.go:127", after := #[{ on := 34, ground := Ground.data }, { on := 41, ground := Ground.data }, { on := 17, ground := Ground.guard }], guard := some (17, false) }) (v := undef) rfl (by kernel_rfl) (by kernel_rfl) (by kernel_rfl) (fun _ _ _ h => h) (Or.inr ⟨by rfl, rfl⟩) (by assumption) ?_
            simp only [Act.put, List.setIfInBounds_toArray, List.set_cons_zero, List.set_cons_succ]
            refine wpAnyH_take (i := 43) (oi := { dst := some 162, op := Op.pick (Operand.tmp 136) (Operand.const (Value.bool true)) (Operand.tmp 161), type := 4, pos := "law.go:127", after := #[{ on := 17, ground := Ground.data }, { on := 42, ground := Ground.data }, { on := 12, ground := Ground.guard }], guard := some (12, true) }) (v := ?_) rfl (by kernel_rfl) (by kernel_rfl) (by kernel_rfl) (fun _ _ _ h => h) (Or.inl ⟨by rfl, ?_⟩) (by assumption) ?_
            rotate_left
            focus (intro w hSw; (try dsimp only at hSw); go_simp; try with_reducible rfl)
            simp only [Act.put, List.setIfInBounds_toArray, List.set_cons_zero, List.set_cons_succ]
            refine wpAnyH_take (i := 44) (oi := { dst := some 163, op := Op.pick (Operand.tmp 131) (Operand.tmp 162) (Operand.const (Value.bool false)), type := 4, pos := "law.go:127", after := #[{ on := 12, ground := Ground.data }, { on := 43, ground := Ground.data }], guard := none }) (v := ?_) rfl (by kernel_rfl) (by kernel_rfl) (by kernel_rfl) (fun _ _ _ h => h) (Or.inl ⟨by rfl, ?_⟩) (by assumption) ?_
            rotate_left
            focus (intro w hSw; (try dsimp only at hSw); go_simp; try with_reducible rfl)
            simp only [Act.put, List.setIfInBounds_toArray, List.set_cons_zero, List.set_cons_succ]
            refine wpAnyH_take (i := 45) (oi := { dst := some 6, op := Op.assign (Operand.tmp 163), type := 4, pos := "law.go:127", after := #[{ on := 44, ground := Ground.data }, { on := 34, ground := Ground.chain }, { on := 0, ground := Ground.phase }, { on := 1, ground := Ground.phase }, { on := 2, ground := Ground.phase }, { on := 3, ground := Ground.phase }, { on := 4, ground := Ground.phase }, { on := 5, ground := Ground.phase }, { on := 6, ground := Ground.phase }, { on := 7, ground := Ground.phase }, { on := 8, ground := Ground.phase }, { on := 9, ground := Ground.phase }, { on := 10, ground := Ground.phase }, { on := 11, ground := Ground.phase }, { on := 12, ground := Ground.phase }, { on := 13, ground := Ground.phase }, { on := 14, ground := Ground.phase }, { on := 15, ground := Ground.phase }, { on := 16, ground := Ground.phase }, { on := 17, ground := Ground.phase }, { on := 18, ground := Ground.phase }, { on := 19, ground := Ground.phase }, { on := 20, ground := Ground.phase }, { on := 21, ground := Ground.phase }, { on := 22, ground := Ground.phase }, { on := 23, ground := Ground.phase }, { on := 24, ground := Ground.phase }, { on := 25, ground := Ground.phase }, { on := 26, ground := Ground.phase }, { on := 27, ground := Ground.phase }, { on := 28, ground := Ground.phase }, { on := 29, ground := Ground.phase }, { on := 30, ground := Ground.phase }, { on := 31, ground := Ground.phase }, { on := 32, ground := Ground.phase }, { on := 33, ground := Ground.phase }, { on := 34, ground := Ground.phase }, { on := 35, ground := Ground.phase }, { on := 36, ground := Ground.phase }, { on := 37, ground := Ground.phase }, { on := 38, ground := Ground.phase }, { on := 39, ground := Ground.phase }, { on := 40, ground := Ground.phase }, { on := 41, ground := Ground.phase }, { on := 42, ground := Ground.phase }, { on := 43, ground := Ground.phase }, { on := 44, ground := Ground.phase }], guard := none }) (v := ?_) rfl (by kernel_rfl) (by kernel_rfl) (by kernel_rfl) (fun _ _ _ h => h) (Or.inl ⟨by rfl, ?_⟩) (by assumption) ?_
            rotate_left
            focus (intro w hSw; (try dsimp only at hSw); go_simp; try with_reducible rfl)
            simp only [Act.put, List.setIfInBounds_toArray, List.set_cons_zero, List.set_cons_succ]
            refine wpAnyH_done (by kernel_rfl) ?_ _
            refine NoPanic.normal ?_
            go_wp2
            go_ret
            exact ⟨rfl, F4.out.bel⟩
end Go.Proofs.Ytnikcccobfcndaa.Sc
