/- palloc: Runs. -/
import Derived.Test.YtlojhiacaleokaaDoorPn
namespace Go.Proofs.YtlojhiacaleokaaDoor.Pa
open Go.RowKit Go.Proofs.YtlojhiacaleokaaDoorW.PrintWords Go.Proofs.YtlojhiacaleokaaDoorW.PrintLast Go.Proofs.YtlojhiacaleokaaDoorW.PrintMore
set_option linter.unusedVariables false
set_option linter.unusedSimpArgs false
theorem info45 : (Tryd.prog.info? 45).map (fun i => (i.zero, i.size, i.bytes)) = some (some (.agg #[.int .i64 0, .int .i64 0]), 2, 16) := by kernel_rfl
def cel (r : Nat × Nat) : List Value := [.int .i64 (r.1 : Int), .int .i64 (r.2 : Int)]
def cels (out : List (Nat × Nat)) : List Value := out.flatMap cel
theorem cels_len (out : List (Nat × Nat)) : (cels out).length = out.length * 2 := by
  induction out with
  | nil => rfl
  | cons r t ih => unfold cels at ih ⊢; rw [List.flatMap_cons, List.length_append, ih, List.length_cons]; simp [cel]; omega
theorem cels_append (a b : List (Nat × Nat)) : cels (a ++ b) = cels a ++ cels b := by simp [cels]
theorem cels_at (out : List (Nat × Nat)) (k : Nat) (hk : k < out.length) : (cels out)[k * 2]? = some (.int .i64 (out[k].1 : Int)) ∧ (cels out)[k * 2 + 1]? = some (.int .i64 (out[k].2 : Int)) := by
  have e : out = out.take k ++ out[k] :: out.drop (k + 1) := by rw [List.getElem_cons_drop, List.take_append_drop]
  have hl : (cels (out.take k)).length = k * 2 := by rw [cels_len, List.length_take]; omega
  have e2 : cels out = cels (out.take k) ++ (cel out[k] ++ cels (out.drop (k + 1))) := by
    conv => lhs; rw [e]
    rw [cels_append]; rfl
  rw [e2]
  constructor
  · rw [List.getElem?_append_right (by omega), hl, Nat.sub_self]; rfl
  · rw [List.getElem?_append_right (by omega), hl, show k * 2 + 1 - k * 2 = 1 by omega]; rfl
/-- The rows in a row of the call's own. -/
def RW (w : World) (base : Nat) (v : Value) (out : List (Nat × Nat)) : Prop := w.ownsRow base 45 2 v out.length (cels out)
theorem RW.nil (w : World) (base : Nat) : RW w base (.slice none 0 0) [] := World.ownsRow_nil _ _ _ _
theorem RW.slice {w : World} {base : Nat} {v : Value} {out : List (Nat × Nat)} (h : RW w base v out) : (v = .slice none 0 0 ∧ out = []) ∨ ∃ g cap, v = .slice (some ⟨g, 0, none⟩) out.length cap ∧ base ≤ g ∧ g < w.heap.size ∧ (∀ j u, (cels out)[j]? = some u → w.cell? ⟨g, j, none⟩ = some u ∧ w.frozen? ⟨g, j, none⟩ = false) := by
  rcases h.2 with ⟨rfl, h0⟩ | ⟨g, cap, cur, rfl, hb, hh, h1, h2, h3, h4⟩
  · exact Or.inl ⟨rfl, List.eq_nil_of_length_eq_zero h0⟩
  · refine Or.inr ⟨g, cap, rfl, hb, blk_lt hh, fun j u hu => ⟨?_, blk_frozen hh j⟩⟩
    rw [blk_cell hh j]
    have : cur.toList[j]? = some u := by
      have hj := (List.getElem?_eq_some_iff.1 hu).1
      rw [← h4] at hu
      rw [List.getElem?_take] at hu
      split at hu
      · exact hu
      · cases hu
    simpa using this
theorem RW.grow {w : World} {base g cap : Nat} {out : List (Nat × Nat)} {a c : Nat} (h : RW w base (.slice (some ⟨g, 0, none⟩) (out ++ [(a, c)]).length cap) (out ++ [(a, c)])) (i : Nat) :
    RW (w.setCell ⟨g, out.length * 2 + 1, none⟩ (.int .i64 (i : Int))) base (.slice (some ⟨g, 0, none⟩) (out ++ [(a, i)]).length cap) (out ++ [(a, i)]) := by
  rcases h.2 with ⟨hv, _⟩ | ⟨g', cap', cur, hv, hb, hh, h1, h2, h3, h4⟩
  · simp at hv
  · injection hv with e1 e2 e3
    injection e1 with e1
    injection e1 with e1
    subst e1; subst e3
    have hl0 := cels_len out
    refine ⟨by rw [cels_len], Or.inr ⟨g, cap, cur.setIfInBounds (out.length * 2 + 1) (.int .i64 (i : Int)), rfl, hb, heap_set hh _, by simpa using h1, h2, by simpa using h3, ?_⟩⟩
    rw [cels_append, Array.toList_setIfInBounds]
    have hlen : (out ++ [(a, c)]).length * 2 = out.length * 2 + 2 := by simp; omega
    have hlen' : (out ++ [(a, i)]).length * 2 = out.length * 2 + 2 := by simp; omega
    rw [hlen, cels_append] at h4
    rw [hlen', List.take_set, h4]
    have e5 : cels [(a, c)] = [.int .i64 (a : Int), .int .i64 (c : Int)] := rfl
    rw [e5, List.set_append_right _ _ (by omega), hl0, show out.length * 2 + 1 - out.length * 2 = 1 by omega]
    rfl
theorem RW.below {w w' : World} {base : Nat} {v : Value} {out : List (Nat × Nat)} (h : RW w base v out) (hb : Below w.heap.size w w') : RW w' base v out := by
  refine ⟨h.1, ?_⟩
  rcases h.2 with h0 | ⟨g, cap, cur, h1, h2, h3, h4⟩
  · exact Or.inl h0
  · exact Or.inr ⟨g, cap, cur, h1, h2, blk_below h3 hb, h4⟩
theorem runs_nil (w : World) : Calls Tryd.prog 20 #[.pointer none] w fun e w' => e = .returned (.slice none 0 0) ∧ w' = w := by
  have hu := used_nil w
  go_enter Tryd.func20, Tryd.ntmps20
  go_wp2_with (first | (go_at_call 18; (with_reducible refine hu.mono ?_); rintro e w1 ⟨rfl, hw1⟩; subst w1))
  go_loopg [3, 10] 1 (fun kq v3 v10 w' => v3 = .slice none 0 0 ∧ v10 = .int .i64 0 ∧ w' = w)
  case atStart => exact ⟨rfl, rfl, rfl⟩
  case round =>
    obtain ⟨rfl, rfl, rfl⟩ := hrel
    go_wp2
    go_ret
    exact ⟨rfl, rfl⟩
theorem one2 (x : Nat) : ∀ u ∈ [Value.int .i64 (x : Int), Value.int .i64 (x : Int)], u.oneCell' = true := by
  intro u hu
  have : u = Value.int .i64 (x : Int) := by simpa using hu
  subst this
  rfl
theorem take_lt {L : List Nat} (hs : L.Pairwise (· < ·)) (j : Nat) (hj : j < L.length) : ∀ x ∈ L.take j, x < L[j] := by
  intro x hx
  obtain ⟨k, hk, rfl⟩ := List.getElem_of_mem hx
  rw [List.length_take] at hk
  rw [List.getElem_take]
  exact List.pairwise_iff_getElem.1 hs k j (by omega) hj (by omega)
set_option maxHeartbeats 4000000 in
theorem PS.runs {w : World} {b g n : Nat} {L : List Nat} (h : PS w b g n L) (hT : Tz.Tb w) :
    Calls Tryd.prog 20 #[.pointer (some ⟨b, 0, none⟩)] w fun e w' => ∃ v out, e = .returned v ∧ RW w' w.heap.size v out ∧ Rr out L ∧ Below w.heap.size w w' := by
  have hu := h.used' hT
  have HS := hid h.sorted
  have HIN := hid h.inn
  have HLn := hid (show L.length ≤ 1048576 from Nat.le_trans h.len h.n1)
  have HN1 := hid h.n1
  clear h hT
  go_enter Tryd.func20, Tryd.ntmps20
  go_wp2_with (first | (go_at_call 18; (with_reducible refine hu.mono ?_); rintro e w1 ⟨A, c, rfl, _, hC, hB⟩; have HC := hid hC; have HB := hid hB; clear hC hB))
  go_loopg [3, 10] (L.length + 1) (fun kq v3 v10 w' => ∃ (j : Nat) (out : List (Nat × Nat)), v10 = .int .i64 (j : Int) ∧ Hid (j + kq = L.length + 1 ∧ j ≤ L.length) ∧ Aside0 (RW w' w1.heap.size v3 out) ∧ Hid (Rr out (L.take j)) ∧ Hid (Below w1.heap.size w1 w'))
  case atStart => exact ⟨0, [], rfl, hid ⟨by omega, by omega⟩, ⟨RW.nil _ _⟩, hid Rr.nil, hid (Below.refl _ _)⟩
  case round =>
    obtain ⟨j, out, rfl, HJ, HR, HRr, HB1⟩ := hrel
    have hj := HJ.out.2
    cases gk with
    | zero => exact absurd HJ.out.1 (by omega)
    | succ k1 =>
      by_cases cj : j < L.length
      · have c4b0 : decide (j < L.length) = true := decide_eq_true cj
        obtain ⟨ad, rfl, hx⟩ := Kd.at_int (Kd.C_below HC.out HB1.out) (j : Int) (by omega) (by omega)
        rw [Int.toNat_natCast, vals_rd L j cj] at hx
        have p0 : (0 ≤ (j : Int)) = True := eq_true (by omega)
        have q0 : ((j : Int) < (L.length : Int)) = True := eq_true (by omega)
        have HW : Hid (wrap64 ((j : Int) + 1) = ((j + 1 : Nat) : Int)) := by
          have := HLn.out
          refine hid ?_
          rw [wrap_small _ (by omega) (by omega)]; rfl
        have HLT := hid (take_lt HS.out j cj)
        have hpos := HIN.out _ (List.getElem_mem cj)
        have htk : L.take (j + 1) = L.take j ++ [L[j]] := List.take_succ_eq_append_getElem cj
        obtain ⟨x, hxe⟩ : ∃ x, L[j] = x := ⟨_, rfl⟩
        rw [hxe] at hx hpos htk HLT
        have HPOS := hid hpos
        have HTK := hid htk
        obtain ⟨X1, hX1⟩ : ∃ X1 : Int, (x : Int) - 1 = X1 := ⟨_, rfl⟩
        have hx1 : wrap64 ((x : Int) - 1) = X1 := by have := HN1.out; rw [wrap_small _ (by omega) (by omega)]; exact hX1
        have HX1 := hid hX1
        clear hX1
        clear hxe htk
        have hol : out.length ≤ L.length := by
          have h1 : out.length ≤ (flat out).length := by
            have : ∀ (o : List (Nat × Nat)), (∀ k (h : k < o.length), o[k].1 ≤ o[k].2) → o.length ≤ (flat o).length := by
              intro o
              induction o with
              | nil => intro _; simp
              | cons r t ih =>
                intro h
                have h1 := h 0 (by simp)
                have h2 := ih (fun k hk => by have := h (k + 1) (by simpa using hk); simpa using this)
                have h3 : flat (r :: t) = List.range' r.1 (r.2 + 1 - r.1) ++ flat t := by simp [flat]
                rw [h3, List.length_append, List.length_range', List.length_cons]
                simp only [List.getElem_cons_zero] at h1
                omega
            exact this out HRr.out.up
          rw [HRr.out.flat, List.length_take] at h1
          omega
        have HOL : Hid (out.length ≤ 1048576) := hid (Nat.le_trans hol HLn.out)
        clear hol
        rcases HR.out.slice with ⟨rfl, rfl⟩ | ⟨g9, cap9, rfl, hg9, hg8, hcl9⟩
        · go_wp2_with (first | ((with_reducible refine gate_builtin (b := .append) (xs := #[.tmp 35, .tmp 39]) rfl ?_); at_builtin; refine print_append_cells (w0 := w1) w1.heap.size rfl (.tmp 35) (.tmp 39) 43 45 (.agg #[.int .i64 0, .int .i64 0]) 2 16 rfl Tryd.underlying43 info45 rfl (by decide) (by decide) _ 0 (cels ([] : List (Nat × Nat))) [.int .i64 (x : Int), .int .i64 (x : Int)] rfl rfl rfl (one2 x) ?aO ?aB ?aS ?aL ?_; (case aO => exact HR.out); (case aB => exact HB1.out); (case aS => exact HB1.out.size); (case aL => have := HOL.out; omega); intro v1 w2 ho hb1 hg1 hat1; have HO1 := Aside0.mk ho; have HBB := hid hb1; clear ho hb1 hg1 hat1))
          go_roundg k1
          case measure => omega
          case rel =>
            refine ⟨j + 1, ([] : List (Nat × Nat)) ++ [(x, x)], congrArg (Value.int .i64) HW.out, hid ⟨by have := HJ.out.1; omega, by omega⟩, ⟨?_⟩, hid ?_, HBB⟩
            · have h9 := HO1.out
              unfold RW
              rw [cels_append, List.length_append]
              exact h9
            · rw [HTK.out]
              exact HRr.out.new x HPOS.out.1 HLT.out (fun hk => by simp at hk)
        · rcases List.eq_nil_or_concat out with rfl | ⟨out0, ⟨a, c9⟩, rfl⟩
          · go_wp2_with (first | ((with_reducible refine gate_builtin (b := .append) (xs := #[.tmp 35, .tmp 39]) rfl ?_); at_builtin; refine print_append_cells (w0 := w1) w1.heap.size rfl (.tmp 35) (.tmp 39) 43 45 (.agg #[.int .i64 0, .int .i64 0]) 2 16 rfl Tryd.underlying43 info45 rfl (by decide) (by decide) _ 0 (cels ([] : List (Nat × Nat))) [.int .i64 (x : Int), .int .i64 (x : Int)] rfl rfl rfl (one2 x) ?aO ?aB ?aS ?aL ?_; (case aO => exact HR.out); (case aB => exact HB1.out); (case aS => exact HB1.out.size); (case aL => have := HOL.out; omega); intro v1 w2 ho hb1 hg1 hat1; have HO1 := Aside0.mk ho; have HBB := hid hb1; clear ho hb1 hg1 hat1))
            go_roundg k1
            case measure => omega
            case rel =>
              refine ⟨j + 1, ([] : List (Nat × Nat)) ++ [(x, x)], congrArg (Value.int .i64) HW.out, hid ⟨by have := HJ.out.1; omega, by omega⟩, ⟨?_⟩, hid ?_, HBB⟩
              · have h9 := HO1.out
                unfold RW
                rw [cels_append, List.length_append]
                exact h9
              · rw [HTK.out]
                exact HRr.out.new x HPOS.out.1 HLT.out (fun hk => by simp at hk)
          · rw [List.concat_eq_append] at HR HRr HOL hcl9 ⊢
            have hlen : (out0 ++ [(a, c9)]).length = out0.length + 1 := by simp
            have hat := (cels_at (out0 ++ [(a, c9)]) out0.length (by simp)).2
            have e9 : (out0 ++ [(a, c9)])[out0.length]'(by simp) = (a, c9) := by simp
            rw [e9] at hat
            obtain ⟨hcA, hfA⟩ := hcl9 _ _ hat
            have HOL2 : Hid (out0.length + 1 ≤ 1048576) := hid (by have := HOL.out; rw [hlen] at this; exact this)
            have hn1 : wrap64 (out0.length : Int) = (out0.length : Int) := by have := HOL2.out; exact wrap_small _ (by omega) (by omega)
            have HLE := hid hlen
            have HR1 := hid HR.out
            rw [hlen]
            clear hlen hat hcl9
            by_cases hc : (c9 : Int) = X1
            · have cb : ((c9 : Int) == X1) = true := by simpa using hc
              have HC9 : Hid (c9 + 1 = x) := hid (by have := HX1.out; have := HPOS.out.1; omega)
              have hput := HRr.out.grow a c9 x HC9.out
              have hrw : RW (wr.setCell ⟨g9, out0.length * 2 + 1, none⟩ (.int .i64 (x : Int))) w1.heap.size (.slice (some ⟨g9, 0, none⟩) (out0.length + 1) cap9) (out0 ++ [(a, x)]) := by
                have h8 := (HR1.out).grow x
                have h7 : (out0 ++ [(a, x)]).length = out0.length + 1 := by simp
                rw [h7] at h8
                exact h8
              have HPUT := hid hput
              have HRW := Aside0.mk hrw
              have HBS : Hid (Below w1.heap.size w1 (wr.setCell ⟨g9, out0.length * 2 + 1, none⟩ (.int .i64 (x : Int)))) := hid (HB1.out.setCell hg9 _)
              clear hc hput hrw
              go_wp2
              go_roundg k1
              case measure => omega
              case rel => exact ⟨j + 1, out0 ++ [(a, x)], congrArg (Value.int .i64) HW.out, hid ⟨by have := HJ.out.1; omega, by omega⟩, HRW, hid (by rw [HTK.out]; exact HPUT.out), HBS⟩
            · have cb : ((c9 : Int) == X1) = false := by simpa using hc
              have HGAP : Hid (∀ hk : 0 < (out0 ++ [(a, c9)]).length, (out0 ++ [(a, c9)])[(out0 ++ [(a, c9)]).length - 1].2 + 1 ≠ x) := hid (by
                intro hk
                have : (out0 ++ [(a, c9)])[(out0 ++ [(a, c9)]).length - 1] = (a, c9) := by simp
                rw [this]
                have := HX1.out
                show c9 + 1 ≠ x
                omega)
              clear hc
              go_wp2_with (first | ((with_reducible refine gate_builtin (b := .append) (xs := #[.tmp 35, .tmp 39]) rfl ?_); at_builtin; refine print_append_cells (w0 := w1) w1.heap.size rfl (.tmp 35) (.tmp 39) 43 45 (.agg #[.int .i64 0, .int .i64 0]) 2 16 rfl Tryd.underlying43 info45 rfl (by decide) (by decide) _ (out0.length + 1) (cels (out0 ++ [(a, c9)])) [.int .i64 (x : Int), .int .i64 (x : Int)] rfl rfl rfl (one2 x) ?aO ?aB ?aS ?aL ?_; (case aO => have h9 := HR.out; unfold RW at h9; rw [HLE.out] at h9; exact h9); (case aB => exact HB1.out); (case aS => exact HB1.out.size); (case aL => have := HOL2.out; omega); intro v1 w2 ho hb1 hg1 hat1; have HO1 := Aside0.mk ho; have HBB := hid hb1; clear ho hb1 hg1 hat1))
              go_roundg k1
              case measure => omega
              case rel =>
                refine ⟨j + 1, (out0 ++ [(a, c9)]) ++ [(x, x)], congrArg (Value.int .i64) HW.out, hid ⟨by have := HJ.out.1; omega, by omega⟩, ⟨?_⟩, hid ?_, HBB⟩
                · have h9 := HO1.out
                  unfold RW
                  rw [cels_append, List.length_append, HLE.out]
                  exact h9
                · rw [HTK.out]
                  exact HRr.out.new x HPOS.out.1 HLT.out HGAP.out
      · have c4b0 : decide (j < L.length) = false := decide_eq_false cj
        have HE : Hid (L.take j = L) := hid (List.take_of_length_le (by omega))
        go_wp2
        go_ret
        refine ⟨_, out, rfl, ?_, ?_, ?_⟩
        · exact ⟨HR.out.1, (own_weaken HR.out HB.out.size).2⟩
        · have := HRr.out; rw [HE.out] at this; exact this
        · exact Go.Proofs.YtlojhiacaleokaaDoor.L.bel HB.out HB1.out
end Go.Proofs.YtlojhiacaleokaaDoor.Pa
