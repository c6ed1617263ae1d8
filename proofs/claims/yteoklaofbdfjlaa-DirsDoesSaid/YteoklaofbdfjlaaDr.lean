/- dirs.Put's contract: a name that wasn't there. -/
import Derived.Test.YteoklaofbdfjlaaDq
import Derived.Test.YteoklaofbdfjlaaDk
import Derived.Test.YteoklaofbdfjlaaQ
import Derived.RegionTactic
import Derived.Outline
import Derived.Deep.RegionHeld3
import Derived.Deep.RegionWith
namespace Go.Proofs.Yteoklaofbdfjlaa.Dc
open Go.RowKit Go.Lib Go.Proofs.YteoklaofbdfjlaaW.PrintWords Go.Proofs.YteoklaofbdfjlaaW.PrintLast Go.Proofs.YteoklaofbdfjlaaW.PrintMore Go.Proofs.Yteoklaofbdfjlaa.PDirs Go.Proofs.Yteoklaofbdfjlaa.Q
set_option linter.unusedVariables false

def at_ (l : List S49) (s : ByteArray) : Nat := l.findIdx (fun x => Op.bytesLess s.toList x.f0.toList)
set_option maxHeartbeats 4000000 in
theorem put_new (A0 : Option Addr) (c0 : Nat) (l0 : List S49) (a1 : ByteArray) (a2 : Int) (w : World) (hr0 : Kd.C k49 w A0 l0.length l0) (hc0 : l0.length ≤ c0) (hl : l0.length ≤ 1000) (hf : (l0.any fun x => decide (x.f0.toList = a1.toList)) = false) :
    Calls Try.prog 27 #[.slice A0 l0.length c0, .string a1, .int .i64 a2] w fun e w' => ∃ v0_ : Value, e = .returned (.tuple #[v0_, .bool true]) ∧ Kd.R k49 49 w' w.heap.size (fun _ => True) v0_ (ins l0 ⟨a1, a2⟩ (at_ l0 a1)) ∧ Below w.heap.size w w' := by
  have hj : dirs_place.f 1001 l0 a1 = some (-1) := by
    rcases place_ev a1 l0 hl with ⟨h, _⟩ | ⟨_, h⟩
    · rw [h] at hf; cases hf
    · exact h
  have eg : ∀ args w, (callFunc 63 args).run Try.prog w = .ok (.enter 63 args) w := enters_of Try.func63 (by kernel_rfl) rfl
  have hb0 := blk_new w (.cells #[.string a1] 9)
  have hbel := below_alloc (Below.refl _ w) (.cells #[.string a1] 9)
  have HP := Aside0.mk (dirs_place.calls 1001 A0 c0 l0 a1 (-1) (w.alloc (.cells #[.string a1] 9)) (Kd.C_alloc hr0 _) hc0 hj)
  have HI := fun W (h : Below (w.alloc (.cells #[.string a1] 9)).heap.size (w.alloc (.cells #[.string a1] 9)) W) => indexFunc 63 #[.pointer (some ⟨w.heap.size, 0, none⟩)] (aft a1) A0 c0 l0 W eg (pred63 a1 w.heap.size W (blk_below hb0 h)) hl (Kd.C_below (Kd.C_alloc hr0 _) h)
  obtain ⟨n, hn⟩ : ∃ n, n = at_ l0 a1 := ⟨_, rfl⟩
  have hI2 : ∀ W, Below (w.alloc (.cells #[.string a1] 9)).heap.size (w.alloc (.cells #[.string a1] 9)) W → Calls Try.prog 62 #[.slice A0 l0.length c0, .func (.func 63) #[] #[.pointer (some ⟨w.heap.size, 0, none⟩)]] W fun e w' => (∃ i : Int, e = .returned (.int .i64 i) ∧ ((0 ≤ i ∧ i = (n : Int)) ∨ (i = -1 ∧ n = l0.length))) ∧ Below W.heap.size W w' := fun W h => (HI W h).mono (by
    rintro e w' ⟨⟨i, rfl, hi⟩, hb⟩
    refine ⟨⟨i, rfl, ?_⟩, hb⟩
    rcases hi with ⟨k, hk, rfl, hd, hbef⟩ | ⟨rfl, hnone⟩
    · refine .inl ⟨by omega, ?_⟩
      rw [hn]
      have : at_ l0 a1 = k := (List.findIdx_eq hk).2 ⟨hd, fun j hj => by have := hbef j hj; simpa [aft] using this⟩
      rw [this]
    · refine .inr ⟨rfl, ?_⟩
      rw [hn]
      exact List.findIdx_eq_length.2 (fun x hx => by simpa [aft] using hnone x hx))
  have HI := Aside0.mk hI2
  have HA := Aside0.mk hbel
  have HR := Aside0.mk (Kd.C_alloc hr0 (.cells #[.string a1] 9))
  have HC := Aside0.mk hc0
  have HL := Aside0.mk hl
  have HN := Aside0.mk hn
  have HB0 := Aside0.mk hb0
  rw [← hn]
  clear hr0 hc0 hl hf hj hI2 hn hb0 hbel
  go_enter Try.func27, Try.ntmps27
  go_wp2_with (first
    | (go_at_call 61; refine HP.out.mono ?_; rintro e w1 ⟨rfl, hB⟩; have HBl := Aside0.mk hB; clear hB)
    | (go_at_call 62; refine (HI.out w1 HBl.out).mono ?_; rintro e w2 ⟨⟨i, rfl, hi⟩, hB⟩; have HBl2 := Aside0.mk (below_step HBl.out hB); have Hi := Aside0.mk hi; clear hB hi))
  · have hnl : n = l0.length := by have := Hi.out; omega
    have hc4 : w2.cell? ⟨w.heap.size, 0, none⟩ = some (.string a1) := blk_cell (blk_below HB0.out HBl2.out) 0
    have HCl : Aside0 (∀ W : World, Below w2.heap.size w2 W → Calls Try.prog 59 #[.slice A0 l0.length c0] W fun e w3 => ∃ A1 c1, e = .returned (.slice A1 l0.length c1) ∧ Aside0 (Kd.R k49 49 w3 W.heap.size (fun _ => True) (.slice A1 l0.length c1) l0) ∧ Aside0 (Below W.heap.size W w3) ∧ w3.cell? ⟨w.heap.size, 0, none⟩ = some (.string a1)) := ⟨fun W h => (clone.calls A0 c0 l0 l0 W (Kd.C_below (Kd.C_below HR.out HBl2.out) h) HC.out (by unfold clone.f; rw [if_pos (by have := HL.out; omega)])).mono (fun e w3 ⟨v, he, hR, hB⟩ => by
      obtain ⟨A1, c1, rfl⟩ := Kd.R_slice hR
      exact ⟨A1, c1, he, ⟨hR⟩, ⟨hB⟩, pw_cell_below hB (pw_cell_below h hc4)⟩)⟩
    have HIN : Aside0 (∀ (w3 : World) (A1 : Option Addr) (c1 : Nat), Kd.R k49 49 w3 w2.drew.heap.size (fun _ => True) (.slice A1 l0.length c1) l0 → Below w2.drew.heap.size w2.drew w3 → Calls Try.prog 64 #[.slice A1 l0.length c1, .int .i64 (l0.length : Int), .slice (some ⟨w3.heap.size, 0, none⟩) 1 1] (w3.alloc (.cells #[.string a1, .int .i64 a2] 49)) fun e w' => ∃ v', e = .returned v' ∧ Aside0 (Kd.R k49 49 w' w.heap.size (fun _ => True) v' (ins l0 ⟨a1, a2⟩ l0.length)) ∧ Aside0 (Below w.heap.size w w')) :=
      ⟨fun w3 A1 c1 hR hB => insert_any l0 ⟨a1, a2⟩ l0.length A1 c1 w3.heap.size 1 w _ (below_alloc (below_step (below_step HA.out (below_drew HBl2.out)) hB) _) HL.out (Kd.R_alloc (Kd.R_lower hR (below_step HA.out HBl2.out).size) _) (blk_new w3 _) (Kd.R_ne_new hR 0) (Nat.le_refl _)⟩
    have HIN2 : Aside0 (∀ (w3 : World) (A1 : Option Addr) (c1 : Nat), Kd.R k49 49 w3 (w2.drew.alloc (.cells #[.string a1, .int .i64 a2] 49)).heap.size (fun _ => True) (.slice A1 l0.length c1) l0 → Below (w2.drew.alloc (.cells #[.string a1, .int .i64 a2] 49)).heap.size (w2.drew.alloc (.cells #[.string a1, .int .i64 a2] 49)) w3 → Calls Try.prog 64 #[.slice A1 l0.length c1, .int .i64 (l0.length : Int), .slice (some ⟨w2.heap.size, 0, none⟩) 1 1] w3 fun e w' => ∃ v', e = .returned v' ∧ Aside0 (Kd.R k49 49 w' w.heap.size (fun _ => True) v' (ins l0 ⟨a1, a2⟩ l0.length)) ∧ Aside0 (Below w.heap.size w w')) :=
      ⟨fun w3 A1 c1 hR hB => insert_any l0 ⟨a1, a2⟩ l0.length A1 c1 w2.heap.size 1 w _ (below_step (below_alloc (below_step HA.out (below_drew HBl2.out)) _) hB) HL.out (Kd.R_lower hR (Nat.le_trans (below_step HA.out HBl2.out).size (by simp))) (blk_below (blk_new w2.drew _) hB) (fun e => by have := Kd.R_base hR w2.heap.size e.symm; simp at this; omega) (Nat.le_refl _)⟩
    have hrefl := Aside0.mk (Below.refl w2.heap.size w2)
    clear HI HP HBl HB0 Hi HN
    go_region_with (first
      | (go_at_call 59; (first | refine (HCl.out _ (below_drew hrefl.out)).mono ?_ | refine (HCl.out _ (below_alloc (below_drew hrefl.out) _)).mono ?_); (rintro e w3 ⟨A1, c1, rfl, HR3, HB3, hc5⟩))
      | (go_at_call 64; (first | (with_reducible refine (HIN.out _ _ _ HR3.out HB3.out).mono ?_) | (with_reducible refine (HIN2.out _ _ _ HR3.out HB3.out).mono ?_)); rintro e w4 ⟨v4, rfl, HR4, HB4⟩))
    all_goals (go_wp2; go_ret2; exact ⟨_, rfl, (hnl ▸ HR4.out), HB4.out⟩)
  · obtain rfl : i = (n : Int) := by have := Hi.out; omega
    have hle : Aside0 (n ≤ l0.length) := ⟨by rw [HN.out]; exact List.findIdx_le_length⟩
    have hc4 : w2.cell? ⟨w.heap.size, 0, none⟩ = some (.string a1) := blk_cell (blk_below HB0.out HBl2.out) 0
    have HCl : Aside0 (∀ W : World, Below w2.heap.size w2 W → Calls Try.prog 59 #[.slice A0 l0.length c0] W fun e w3 => ∃ A1 c1, e = .returned (.slice A1 l0.length c1) ∧ Aside0 (Kd.R k49 49 w3 W.heap.size (fun _ => True) (.slice A1 l0.length c1) l0) ∧ Aside0 (Below W.heap.size W w3) ∧ w3.cell? ⟨w.heap.size, 0, none⟩ = some (.string a1)) := ⟨fun W h => (clone.calls A0 c0 l0 l0 W (Kd.C_below (Kd.C_below HR.out HBl2.out) h) HC.out (by unfold clone.f; rw [if_pos (by have := HL.out; omega)])).mono (fun e w3 ⟨v, he, hR, hB⟩ => by
      obtain ⟨A1, c1, rfl⟩ := Kd.R_slice hR
      exact ⟨A1, c1, he, ⟨hR⟩, ⟨hB⟩, pw_cell_below hB (pw_cell_below h hc4)⟩)⟩
    have HIN : Aside0 (∀ (w3 : World) (A1 : Option Addr) (c1 : Nat), Kd.R k49 49 w3 w2.drew.heap.size (fun _ => True) (.slice A1 l0.length c1) l0 → Below w2.drew.heap.size w2.drew w3 → Calls Try.prog 64 #[.slice A1 l0.length c1, .int .i64 (n : Int), .slice (some ⟨w3.heap.size, 0, none⟩) 1 1] (w3.alloc (.cells #[.string a1, .int .i64 a2] 49)) fun e w' => ∃ v', e = .returned v' ∧ Aside0 (Kd.R k49 49 w' w.heap.size (fun _ => True) v' (ins l0 ⟨a1, a2⟩ n)) ∧ Aside0 (Below w.heap.size w w')) :=
      ⟨fun w3 A1 c1 hR hB => insert_any l0 ⟨a1, a2⟩ n A1 c1 w3.heap.size 1 w _ (below_alloc (below_step (below_step HA.out (below_drew HBl2.out)) hB) _) HL.out (Kd.R_alloc (Kd.R_lower hR (below_step HA.out HBl2.out).size) _) (blk_new w3 _) (Kd.R_ne_new hR 0) hle.out⟩
    have HIN2 : Aside0 (∀ (w3 : World) (A1 : Option Addr) (c1 : Nat), Kd.R k49 49 w3 (w2.drew.alloc (.cells #[.string a1, .int .i64 a2] 49)).heap.size (fun _ => True) (.slice A1 l0.length c1) l0 → Below (w2.drew.alloc (.cells #[.string a1, .int .i64 a2] 49)).heap.size (w2.drew.alloc (.cells #[.string a1, .int .i64 a2] 49)) w3 → Calls Try.prog 64 #[.slice A1 l0.length c1, .int .i64 (n : Int), .slice (some ⟨w2.heap.size, 0, none⟩) 1 1] w3 fun e w' => ∃ v', e = .returned v' ∧ Aside0 (Kd.R k49 49 w' w.heap.size (fun _ => True) v' (ins l0 ⟨a1, a2⟩ n)) ∧ Aside0 (Below w.heap.size w w')) :=
      ⟨fun w3 A1 c1 hR hB => insert_any l0 ⟨a1, a2⟩ n A1 c1 w2.heap.size 1 w _ (below_step (below_alloc (below_step HA.out (below_drew HBl2.out)) _) hB) HL.out (Kd.R_lower hR (Nat.le_trans (below_step HA.out HBl2.out).size (by simp))) (blk_below (blk_new w2.drew _) hB) (fun e => by have := Kd.R_base hR w2.heap.size e.symm; simp at this; omega) hle.out⟩
    have hrefl := Aside0.mk (Below.refl w2.heap.size w2)
    clear HI HP HBl HB0 Hi HN
    go_region_with (first
      | (go_at_call 59; (first | refine (HCl.out _ (below_drew hrefl.out)).mono ?_ | refine (HCl.out _ (below_alloc (below_drew hrefl.out) _)).mono ?_); (rintro e w3 ⟨A1, c1, rfl, HR3, HB3, hc5⟩))
      | (go_at_call 64; (first | (with_reducible refine (HIN.out _ _ _ HR3.out HB3.out).mono ?_) | (with_reducible refine (HIN2.out _ _ _ HR3.out HB3.out).mono ?_)); rintro e w4 ⟨v4, rfl, HR4, HB4⟩))
    all_goals (go_wp2; go_ret2; exact ⟨_, rfl, HR4.out, HB4.out⟩)
end Go.Proofs.Yteoklaofbdfjlaa.Dc
