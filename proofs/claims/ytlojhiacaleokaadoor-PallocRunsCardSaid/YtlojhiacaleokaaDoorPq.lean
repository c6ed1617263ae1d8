/- palloc: Used. -/
import Derived.Test.YtlojhiacaleokaaDoorPg
namespace Go.Proofs.YtlojhiacaleokaaDoor.Pa
open Go.RowKit Go.Proofs.YtlojhiacaleokaaDoorW.PrintWords Go.Proofs.YtlojhiacaleokaaDoorW.PrintLast Go.Proofs.YtlojhiacaleokaaDoorW.PrintMore
set_option linter.unusedVariables false
set_option linter.unusedSimpArgs false
theorem used_nil (w : World) : Calls Tryd.prog 18 #[.pointer none] w fun e w' => e = .returned (.slice none 0 0) ∧ w' = w := by
  go_enter Tryd.func18, Tryd.ntmps18
  go_wp2
  go_ret
  exact ⟨rfl, rfl⟩
def upto (xs : List Nat) (k : Nat) : List Nat := (List.range (64 * k)).filter (bit xs)
theorem upto_all (xs : List Nat) : upto xs xs.length = ul xs := rfl
theorem len_filter (p : Nat → Bool) (m : Nat) : ((List.range m).filter p).length ≤ m := Nat.le_trans (List.length_filter_le _ _) (by rw [List.length_range]; exact Nat.le_refl m)
theorem and_dec (x : Nat) (h0 : x ≠ 0) (hx : x < 18446744073709551616) : bits BinOp.and IntKind.u64 (x : Int) (IntKind.u64.wrap ((x : Int) - 1)) = ((x &&& (x - 1) : Nat) : Int) := by
  have e : IntKind.u64.wrap ((x : Int) - 1) = ((x - 1 : Nat) : Int) := by
    rw [IntKind.wrap_u64]; omega
  rw [e, bits_and_u64_nat x (x - 1) hx (by omega)]
set_option maxHeartbeats 4000000 in
theorem PS.used {w : World} {b g n : Nat} {L : List Nat} (h : PS w b g n L) (hT : Tz.Tb w) :
    Calls Tryd.prog 18 #[.pointer (some ⟨b, 0, none⟩)] w fun e w' => ∃ v, e = .returned v ∧ Kd.R (Kd.int .i64) 3 w' w.heap.size (fun _ => True) v (vals L) ∧ Below w.heap.size w w' := by
  have hn1 := h.n1
  have hl := h.lt
  obtain ⟨xs, hp, hul⟩ := h.ex
  have HP := hid hp
  have HU := hid hul
  have HT := hid hT
  have HN1 : Hid (xs.length ≤ 20000) := hid (by have := hp.len; omega)
  have h2 := hp.c2
  clear h hp hul hT hn1
  go_enter Tryd.func18, Tryd.ntmps18
  go_wp2
  go_loopg [3, 14] (xs.length + 1) (fun kq v3 v14 w' => ∃ k : Nat, v14 = .int .i64 (k : Int) ∧ Hid (k + kq = xs.length + 1 ∧ k ≤ xs.length) ∧ Aside0 (Kd.R (Kd.int .i64) 3 w' w.heap.size (fun _ => True) v3 (vals (upto xs k))) ∧ Aside0 (Below w.heap.size w w'))
  case atStart => exact ⟨0, rfl, hid ⟨by omega, by omega⟩, ⟨Kd.R_nil _ _ _ _ _⟩, ⟨Below.refl _ _⟩⟩
  case round =>
    obtain ⟨k, rfl, HJ, HR, HB⟩ := hrel
    have hk := HJ.out.2
    cases gk with
    | zero => exact absurd HJ.out.1 (by omega)
    | succ k1 =>
      by_cases cj : k < xs.length
      · have c4b0 : decide (k < xs.length) = true := decide_eq_true cj
        have hx0 := HP.out.cell k cj
        have hx : wr.cell? ⟨g, k, none⟩ = some (.int .u64 (xs[k] : Int)) := (HB.out.cell (by show g < _; exact hl.2)).trans hx0
        have p0 : (0 ≤ (k : Int)) = True := eq_true (by omega)
        have q0 : ((k : Int) < (xs.length : Int)) = True := eq_true (by omega)
        have HW : Hid (wrap64 ((k : Int) + 1) = ((k + 1 : Nat) : Int)) := by
          have := HN1.out
          refine hid ?_
          rw [wrap_small _ (by omega) (by omega)]; rfl
        have hgd : xs.getD k 0 = xs[k] := by rw [List.getD_eq_getElem?_getD, List.getElem?_eq_getElem cj]; rfl
        have HUS : Hid (Us xs k 0 (upto xs k) xs[k]) := hid (by
          have := Us.start xs k (by rw [hgd]; exact HP.out.lt _ (List.getElem_mem cj))
          rw [hgd] at this; exact this)
        obtain ⟨x0, hx0e⟩ : ∃ x0, xs[k] = x0 := ⟨_, rfl⟩
        rw [hx0e] at hx HUS
        have hmul : wrap64 ((k : Int) * 64) = (k : Int) * 64 := by have := HN1.out; exact wrap_small _ (by omega) (by omega)
        clear hx0 hgd hx0e
        go_wp2
        go_loopg [3, 5] 65 (fun kq v3 v5 w' => ∃ (r : Nat) (out : List Nat) (x : Nat), v5 = .int .u64 (x : Int) ∧ Hid (65 ≤ r + kq) ∧ Hid (Us xs k r out x) ∧ Aside0 (Kd.R (Kd.int .i64) 3 w' w.heap.size (fun _ => True) v3 (vals out)) ∧ Aside0 (Below w.heap.size w w'))
        case atStart => exact ⟨0, _, x0, rfl, hid (by omega), HUS, HR, HB⟩
        case round =>
          obtain ⟨r, out, x, rfl, HRK, HU2, HR2, HB2⟩ := hrel
          cases gk with
          | zero => exact absurd HRK.out (by have := HU2.out.r64; omega)
          | succ k2 =>
            by_cases cx : x = 0
            · have cb : ((x : Int) != 0) = false := by rw [cx]; rfl
              have HD : Hid (out = upto xs (k + 1)) := hid (by have h := HU2.out; rw [cx] at h; exact h.done)
              clear cx
              go_wp2
              go_roundg k1
              case measure => omega
              case rel => exact ⟨k + 1, congrArg (Value.int .i64) HW.out, hid ⟨by have := HJ.out.1; omega, by omega⟩, ⟨by rw [← HD.out]; exact HR2.out⟩, HB2⟩
            · have cb : ((x : Int) != 0) = true := by simp; omega
              have HX0 := hid cx
              have htz := Tz.tz x HU2.out.lt wr (Tz.Tb_below HT.out HB2.out)
              obtain ⟨hst, ht64, hrt⟩ := HU2.out.step cx
              have hlen : out.length ≤ 64 * 20000 + 64 := by
                rw [HU2.out.out]
                have := HN1.out
                have := HU2.out.r64
                exact Nat.le_trans (len_filter _ _) (by omega)
              have hand := and_dec x cx HU2.out.lt
              obtain ⟨t, hte⟩ : ∃ t, Lib.ctz 64 x = t := ⟨_, rfl⟩
              rw [hte] at htz hst ht64 hrt
              obtain ⟨y, hy⟩ : ∃ y, x &&& (x - 1) = y := ⟨_, rfl⟩
              rw [hy] at hand hst
              obtain ⟨M, hM⟩ : ∃ M, 64 * k + t = M := ⟨_, rfl⟩
              rw [hM] at hst
              have hadd : wrap64 ((k : Int) * 64 + (t : Int)) = (M : Int) := by
                have := HN1.out
                rw [wrap_small _ (by omega) (by omega)]; omega
              have HST := hid hst
              have HLEN := hid hlen
              have HRT := hid hrt
              have HS : Aside0 (w.heap.size ≤ wr.heap.size) := ⟨HB2.out.size⟩
              clear hst hlen cx hrt hy hM hte ht64
              go_wp2_with (first | (go_at_call 22; (with_reducible refine htz.mono ?_); rintro e w2 ⟨rfl, hw2⟩; subst w2) | ((with_reducible refine gate_builtin (b := .append) (xs := #[.tmp 21, .tmp 27]) rfl ?_); at_builtin; refine Kd.R_append (Kd.int .i64) (w0 := w) w.heap.size rfl (.tmp 21) (.tmp 27) 22 3 (.int .i64 0) 8 rfl Tryd.underlying22 info3 rfl (by decide) (by omega) _ (vals out) (M : Int) [.int .i64 (M : Int)] (fun _ => True) (fun _ => False) rfl rfl ?aP (fun _ hk => hk.elim) ?aF ?aO ?aB ?aS ?aL ?_; (case aP => exact rfl); (case aF => exact (fun _ _ => trivial)); (case aO => exact HR2.out); (case aB => exact HB2.out); (case aS => exact HS.out); (case aL => have := HLEN.out; rw [vals_len]; omega); intro v1 w1 ho hb1 hg1 hat1; have HO1 := Aside0.mk ho; have HB1 := Aside0.mk hb1; clear ho hb1 hg1 hat1))
              go_roundg k2
              case measure => omega
              case rel =>
                refine ⟨t + 1, out ++ [M], y, ?_, hid (by have := HRK.out; have := HRT.out; omega), HST, ⟨?_⟩, HB1⟩
                · first | rfl | exact congrArg (Value.int .u64) hand
                · rw [vals_append]; exact HO1.out
      · have c4b0 : decide (k < xs.length) = false := decide_eq_false cj
        have HE : Hid (upto xs k = L) := hid (by rw [show k = xs.length by omega]; exact HU.out)
        go_wp2
        go_ret
        exact ⟨_, rfl, by rw [← HE.out]; exact HR.out, HB.out⟩
end Go.Proofs.YtlojhiacaleokaaDoor.Pa
