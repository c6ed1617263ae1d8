-- Written by a program of this session: the printer, with contracts put in that were proved by hand. Lean checks it.
import Derived.Test.YteoklaofbdfjlaaDoorPNamesx0
import Derived.Test.YteoklaofbdfjlaaDoorPNamesx1
import Derived.Test.YteoklaofbdfjlaaDoorPNamesx2
import Derived.Test.YteoklaofbdfjlaaDoorPNamesx3
import Derived.Test.YteoklaofbdfjlaaDoorPNamesx4
import Derived.Test.YteoklaofbdfjlaaDoorPNamesx5
namespace Go.Proofs.YteoklaofbdfjlaaDoor.PNames
open Go.RowKit Go.Proofs.YteoklaofbdfjlaaDoorW.PrintWords Go.Proofs.YteoklaofbdfjlaaDoorW.PrintLast Go.Proofs.YteoklaofbdfjlaaDoorW.PrintMore
attribute [local go_sem] L.setCell_drewN max2_int min2_int max_two min_two max_three min_three max_four min_four   -- for this text's walks alone
set_option linter.unusedVariables false
set_option linter.unusedSimpArgs false

/-! ### sumplaw08_NameSplits: function 5 -/
mutual
def sumplaw08_NameSplits.j0 : Nat → ByteArray → ByteArray → ByteArray → Bool → Option (Bool)
  | 0, _, _, _, _ => none
  | k + 1, x0, x1, x2, x31 => if x31 = true then (some true) else ((name_Split.f k x1).bind fun bt184 => ((sumpref01_Split.f k x1).bind fun bt188 => ((sumpref01_Split.f k x2).bind fun bt192 => ((name_Base.f k x1).bind fun bt196 => (if bt188.2 = 0 then (if bt192.2 = 0 then (if (bt188.1.length : Int) > (bt192.1.length : Int) then (if 0 ≤ (mn (bt192.1.length : Int) (bt188.1.length : Int)) then (if (mn (bt192.1.length : Int) (bt188.1.length : Int)) ≤ (bt188.1.length : Int) then ((sumpref01_SameTexts.f k (bt188.1.take ((mn (bt192.1.length : Int) (bt188.1.length : Int)) : Int).toNat) bt192.1).bind fun t203 => (sumplaw08_NameSplits.j1 k x0 x1 x2 bt184.1 bt184.2 bt188.1 bt188.2 bt196.1 bt196.2.1 bt196.2.2 t203)) else (none)) else (none)) else (sumplaw08_NameSplits.j1 k x0 x1 x2 bt184.1 bt184.2 bt188.1 bt188.2 bt196.1 bt196.2.1 bt196.2.2 false)) else (sumplaw08_NameSplits.j1 k x0 x1 x2 bt184.1 bt184.2 bt188.1 bt188.2 bt196.1 bt196.2.1 bt196.2.2 false)) else (sumplaw08_NameSplits.j1 k x0 x1 x2 bt184.1 bt184.2 bt188.1 bt188.2 bt196.1 bt196.2.1 bt196.2.2 false))))))
def sumplaw08_NameSplits.j1 : Nat → ByteArray → ByteArray → ByteArray → List ByteArray → Int → List ByteArray → Int → ByteArray → ByteArray → Int → Bool → Option (Bool)
  | 0, _, _, _, _, _, _, _, _, _, _, _ => none
  | k + 1, x0, x1, x2, x7, x8, x9, x10, x13, x14, x15, x16 => (name_Check.f k x0).bind fun t204 => ((sumpref01_Name.f k x0).bind fun t205 => (if t204 = t205 then ((sumpref01_SameTexts.f k x7 x9).bind fun t206 => (if t206 = true then (if x8 = x10 then ((name_Under.f k x1 x2).bind fun t207 => (if (t207 != x16) = true then (sumplaw08_NameSplits.j2 k x9 x10 x13 x14 x15 true) else ((name_Less.f x0 x1).bind fun t208 => (sumplaw08_NameSplits.j2 k x9 x10 x13 x14 x15 (t208 != (Op.bytesLess x0.toList x1.toList)))))) else (sumplaw08_NameSplits.j2 k x9 x10 x13 x14 x15 true)) else (sumplaw08_NameSplits.j2 k x9 x10 x13 x14 x15 true))) else (sumplaw08_NameSplits.j2 k x9 x10 x13 x14 x15 true)))
def sumplaw08_NameSplits.j2 : Nat → List ByteArray → Int → ByteArray → ByteArray → Int → Bool → Option (Bool)
  | 0, _, _, _, _, _, _ => none
  | k + 1, x9, x10, x13, x14, x15, x108 => if x108 = true then (some false) else (if x10 = 0 then (if (x9.length : Int) = 0 then (if x13.toList = ([] : List UInt8) then (if x14.toList = ([] : List UInt8) then (if x15 = x10 then (some (x15 == 22)) else (some (x15 == 22))) else (some false)) else (some false)) else (if x15 = 0 then (if 0 ≤ (wrap64 ((x9.length : Int) - 1)) then (if (wrap64 ((x9.length : Int) - 1)) < (x9.length : Int) then (if x14.toList = (rdOf ByteArray.empty x9 (wrap64 ((x9.length : Int) - 1))).toList then (if (wrap64 ((x9.length : Int) - 1)) ≤ (x9.length : Int) then ((sumpref01_Join.f k (x9.take ((wrap64 ((x9.length : Int) - 1)) : Int).toNat)).bind fun t214 => (some (x13.toList == t214.toList))) else (none)) else (some false)) else (none)) else (none)) else (some false))) else (if x13.toList = ([] : List UInt8) then (if x14.toList = ([] : List UInt8) then (if x15 = x10 then (some true) else (some false)) else (some false)) else (some false)))
end
def sumplaw08_NameSplits.f (k : Nat) (a0 : ByteArray) (a1 : ByteArray) (a2 : ByteArray) : Option (Bool) := (sumplaw08_awake.f k).bind fun t183 => (if t183 = true then (if (a0.size : Int) > 200 then (sumplaw08_NameSplits.j0 k a0 a1 a2 true) else (if (a1.size : Int) > 200 then (sumplaw08_NameSplits.j0 k a0 a1 a2 true) else (sumplaw08_NameSplits.j0 k a0 a1 a2 (decide ((a2.size : Int) > 200))))) else (some false))
theorem sumplaw08_NameSplits.mono_l : ∀ k, (∀ y0 y1 y2 y3, LeO (sumplaw08_NameSplits.j0 k y0 y1 y2 y3) (sumplaw08_NameSplits.j0 (k + 1) y0 y1 y2 y3)) ∧ (∀ y0 y1 y2 y3 y4 y5 y6 y7 y8 y9 y10, LeO (sumplaw08_NameSplits.j1 k y0 y1 y2 y3 y4 y5 y6 y7 y8 y9 y10) (sumplaw08_NameSplits.j1 (k + 1) y0 y1 y2 y3 y4 y5 y6 y7 y8 y9 y10)) ∧ (∀ y0 y1 y2 y3 y4 y5, LeO (sumplaw08_NameSplits.j2 k y0 y1 y2 y3 y4 y5) (sumplaw08_NameSplits.j2 (k + 1) y0 y1 y2 y3 y4 y5))
  | 0 => ⟨fun _ _ _ _ r h => by simp [sumplaw08_NameSplits.j0] at h, fun _ _ _ _ _ _ _ _ _ _ _ r h => by simp [sumplaw08_NameSplits.j1] at h, fun _ _ _ _ _ _ r h => by simp [sumplaw08_NameSplits.j2] at h⟩
  | k + 1 => by
    obtain ⟨ih0, ih1, ih2⟩ := sumplaw08_NameSplits.mono_l k
    refine ⟨?_, ?_, ?_⟩
    · intro y0 y1 y2 y3
      unfold sumplaw08_NameSplits.j0
      repeat' first
      | (with_reducible exact ih0 _ _ _ _)
      | (with_reducible exact ih1 _ _ _ _ _ _ _ _ _ _ _)
      | (with_reducible exact ih2 _ _ _ _ _ _)
      | (with_reducible exact name_Base.mono _ _)
      | (with_reducible exact name_Check.mono _ _)
      | (with_reducible exact name_Split.mono _ _)
      | (with_reducible exact name_Under.mono _ _ _)
      | (with_reducible exact sumplaw08_awake.mono _)
      | (with_reducible exact sumpref01_Join.mono _ _)
      | (with_reducible exact sumpref01_Name.mono _ _)
      | (with_reducible exact sumpref01_SameTexts.mono _ _ _)
      | (with_reducible exact sumpref01_Split.mono _ _)
      | (with_reducible exact LeO.refl _)
      | (with_reducible exact LeO.none _)
      | (with_reducible refine LeO.ite ?_ ?_)
      | (with_reducible refine LeO.bind ?_ (fun _ => ?_))
      | exact ih0 _ _ _ _
      | exact ih1 _ _ _ _ _ _ _ _ _ _ _
      | exact ih2 _ _ _ _ _ _
      | exact name_Base.mono _ _
      | exact name_Check.mono _ _
      | exact name_Split.mono _ _
      | exact name_Under.mono _ _ _
      | exact sumplaw08_awake.mono _
      | exact sumpref01_Join.mono _ _
      | exact sumpref01_Name.mono _ _
      | exact sumpref01_SameTexts.mono _ _ _
      | exact sumpref01_Split.mono _ _
      | exact LeO.none _
      | refine LeO.ite ?_ ?_
      | refine LeO.bind ?_ (fun _ => ?_)
    · intro y0 y1 y2 y3 y4 y5 y6 y7 y8 y9 y10
      unfold sumplaw08_NameSplits.j1
      repeat' first
      | (with_reducible exact ih0 _ _ _ _)
      | (with_reducible exact ih1 _ _ _ _ _ _ _ _ _ _ _)
      | (with_reducible exact ih2 _ _ _ _ _ _)
      | (with_reducible exact name_Base.mono _ _)
      | (with_reducible exact name_Check.mono _ _)
      | (with_reducible exact name_Split.mono _ _)
      | (with_reducible exact name_Under.mono _ _ _)
      | (with_reducible exact sumplaw08_awake.mono _)
      | (with_reducible exact sumpref01_Join.mono _ _)
      | (with_reducible exact sumpref01_Name.mono _ _)
      | (with_reducible exact sumpref01_SameTexts.mono _ _ _)
      | (with_reducible exact sumpref01_Split.mono _ _)
      | (with_reducible exact LeO.refl _)
      | (with_reducible exact LeO.none _)
      | (with_reducible refine LeO.ite ?_ ?_)
      | (with_reducible refine LeO.bind ?_ (fun _ => ?_))
      | exact ih0 _ _ _ _
      | exact ih1 _ _ _ _ _ _ _ _ _ _ _
      | exact ih2 _ _ _ _ _ _
      | exact name_Base.mono _ _
      | exact name_Check.mono _ _
      | exact name_Split.mono _ _
      | exact name_Under.mono _ _ _
      | exact sumplaw08_awake.mono _
      | exact sumpref01_Join.mono _ _
      | exact sumpref01_Name.mono _ _
      | exact sumpref01_SameTexts.mono _ _ _
      | exact sumpref01_Split.mono _ _
      | exact LeO.none _
      | refine LeO.ite ?_ ?_
      | refine LeO.bind ?_ (fun _ => ?_)
    · intro y0 y1 y2 y3 y4 y5
      unfold sumplaw08_NameSplits.j2
      repeat' first
      | (with_reducible exact ih0 _ _ _ _)
      | (with_reducible exact ih1 _ _ _ _ _ _ _ _ _ _ _)
      | (with_reducible exact ih2 _ _ _ _ _ _)
      | (with_reducible exact name_Base.mono _ _)
      | (with_reducible exact name_Check.mono _ _)
      | (with_reducible exact name_Split.mono _ _)
      | (with_reducible exact name_Under.mono _ _ _)
      | (with_reducible exact sumplaw08_awake.mono _)
      | (with_reducible exact sumpref01_Join.mono _ _)
      | (with_reducible exact sumpref01_Name.mono _ _)
      | (with_reducible exact sumpref01_SameTexts.mono _ _ _)
      | (with_reducible exact sumpref01_Split.mono _ _)
      | (with_reducible exact LeO.refl _)
      | (with_reducible exact LeO.none _)
      | (with_reducible refine LeO.ite ?_ ?_)
      | (with_reducible refine LeO.bind ?_ (fun _ => ?_))
      | exact ih0 _ _ _ _
      | exact ih1 _ _ _ _ _ _ _ _ _ _ _
      | exact ih2 _ _ _ _ _ _
      | exact name_Base.mono _ _
      | exact name_Check.mono _ _
      | exact name_Split.mono _ _
      | exact name_Under.mono _ _ _
      | exact sumplaw08_awake.mono _
      | exact sumpref01_Join.mono _ _
      | exact sumpref01_Name.mono _ _
      | exact sumpref01_SameTexts.mono _ _ _
      | exact sumpref01_Split.mono _ _
      | exact LeO.none _
      | refine LeO.ite ?_ ?_
      | refine LeO.bind ?_ (fun _ => ?_)
theorem sumplaw08_NameSplits.mono : ∀ a0 a1 a2 k, LeO (sumplaw08_NameSplits.f k a0 a1 a2) (sumplaw08_NameSplits.f (k + 1) a0 a1 a2) := by
  intro a0 a1 a2 k
  obtain ⟨ih0, ih1, ih2⟩ := sumplaw08_NameSplits.mono_l k
  unfold sumplaw08_NameSplits.f
  repeat' first
      | (with_reducible exact ih0 _ _ _ _)
      | (with_reducible exact ih1 _ _ _ _ _ _ _ _ _ _ _)
      | (with_reducible exact ih2 _ _ _ _ _ _)
      | (with_reducible exact name_Base.mono _ _)
      | (with_reducible exact name_Check.mono _ _)
      | (with_reducible exact name_Split.mono _ _)
      | (with_reducible exact name_Under.mono _ _ _)
      | (with_reducible exact sumplaw08_awake.mono _)
      | (with_reducible exact sumpref01_Join.mono _ _)
      | (with_reducible exact sumpref01_Name.mono _ _)
      | (with_reducible exact sumpref01_SameTexts.mono _ _ _)
      | (with_reducible exact sumpref01_Split.mono _ _)
      | (with_reducible exact LeO.refl _)
      | (with_reducible exact LeO.none _)
      | (with_reducible refine LeO.ite ?_ ?_)
      | (with_reducible refine LeO.bind ?_ (fun _ => ?_))
      | exact ih0 _ _ _ _
      | exact ih1 _ _ _ _ _ _ _ _ _ _ _
      | exact ih2 _ _ _ _ _ _
      | exact name_Base.mono _ _
      | exact name_Check.mono _ _
      | exact name_Split.mono _ _
      | exact name_Under.mono _ _ _
      | exact sumplaw08_awake.mono _
      | exact sumpref01_Join.mono _ _
      | exact sumpref01_Name.mono _ _
      | exact sumpref01_SameTexts.mono _ _ _
      | exact sumpref01_Split.mono _ _
      | exact LeO.none _
      | refine LeO.ite ?_ ?_
      | refine LeO.bind ?_ (fun _ => ?_)
set_option maxHeartbeats 8000000 in
set_option maxRecDepth 100000 in
theorem sumplaw08_NameSplits.calls (k : Nat) (a0 : ByteArray) (a1 : ByteArray) (a2 : ByteArray) (r : Bool) (w : World) (h : sumplaw08_NameSplits.f k a0 a1 a2 = some r) (ht : r = true) :
    Calls Tryd.prog 5 #[.string a0, .string a1, .string a2] w fun e w' => e = .returned (.bool r) ∧ Below w.heap.size w w' := by
  have HB := Aside0.mk (Below.refl w.heap.size w)
  have HT := Aside0.mk ht
  clear ht
  have H : ((sumplaw08_awake.f k).bind fun t183 => (if t183 = true then (if (a0.size : Int) > 200 then (sumplaw08_NameSplits.j0 k a0 a1 a2 true) else (if (a1.size : Int) > 200 then (sumplaw08_NameSplits.j0 k a0 a1 a2 true) else (sumplaw08_NameSplits.j0 k a0 a1 a2 (decide ((a2.size : Int) > 200))))) else (some false))) = some r := h
  clear h
  replace H := Option.bind_eq_some_iff.mp H
  obtain ⟨t183, A40, H⟩ := H
  replace H : (if t183 = true then (if (a0.size : Int) > 200 then (sumplaw08_NameSplits.j0 k a0 a1 a2 true) else (if (a1.size : Int) > 200 then (sumplaw08_NameSplits.j0 k a0 a1 a2 true) else (sumplaw08_NameSplits.j0 k a0 a1 a2 (decide ((a2.size : Int) > 200))))) else (some false)) = some r := H
  have A4 := Aside0.mk A40
  clear A40
  by_cases c5 : t183 = true
  · subst c5
    have H1 : (if (a0.size : Int) > 200 then (sumplaw08_NameSplits.j0 k a0 a1 a2 true) else (if (a1.size : Int) > 200 then (sumplaw08_NameSplits.j0 k a0 a1 a2 true) else (sumplaw08_NameSplits.j0 k a0 a1 a2 (decide ((a2.size : Int) > 200))))) = some r := by rw [if_pos rfl] at H; exact H
    clear H
    have H := H1
    clear H1
    have HC6 := Aside0.mk H
    clear H
    go_enter Tryd.func5, Tryd.ntmps5
    go_upto_region 3 with (first | ((with_reducible refine gate_callee (f := 6) rfl ?_); refine goesL_ (some 17) rfl rfl Tryd.func6 (by kernel_rfl) rfl #[] rfl (by (try simp only [List.map_toArray, List.map_cons, List.map_nil]); first | done | rfl | (simp only [List.length_drop, List.length_take]; rfl)) ?_; (with_reducible refine (sumplaw08_awake.calls k  true _ A4.out).mono ?_); rintro e w7 ⟨rfl, hb⟩; refine ⟨_, rfl, ?_⟩; have n0_ := Aside0.mk (below_step (by repeat (first | (with_reducible first | exact HB.out | apply below_alloc | apply pw_below_drewN | apply below_drew1) | exact HB.out)) hb); clear HB; have HB := n0_; clear n0_; (try clear hb); (try clear hb2); (try clear hk); (try clear hi)))
    (try simp only [Act.put, List.setIfInBounds_toArray, List.set_cons_zero, List.set_cons_succ])
    go_cut [31] (fun v31 wc => ∃ (kq : Nat) (x31_5 : Bool), v31 = .bool x31_5 ∧ Aside0 (sumplaw08_NameSplits.j0 kq a0 a1 a2 x31_5 = some r) ∧ Aside0 (kq ≤ k) ∧ Aside0 (Below w.heap.size w wc))
    case first =>
      have H := HC6.out
      clear HC6
      by_cases c8 : (a0.size : Int) > 200
      · rw [if_pos c8] at H
        have c8b0 : decide (200 < (a0.size : Int)) = true := decide_eq_true c8
        have c8b1 : decide (200 < a0.size) = true := decide_eq_true (by omega)
        have c8le : Aside0 (200 + 1 ≤ (a0.size : Int)) := ⟨by omega⟩
        clear c8
        (first | rw [c8b0] | (simp only [i64_w, i32_w]; rw [c8b0]) | skip)
        have H' := Aside0.mk H
        clear H
        go_wp2
        go_meet
        case rel => exact ⟨_, (true), (by first | rfl | (simp; done) | (simp [*]; done)), H', ⟨by first | omega | exact Nat.le_refl _⟩, ⟨by repeat (first | (with_reducible first | exact HB.out | apply below_alloc | apply pw_below_drewN | apply below_drew1) | exact HB.out)⟩⟩
      · rw [if_neg c8] at H
        have c8b0 : decide (200 < (a0.size : Int)) = false := decide_eq_false c8
        have c8b1 : decide (200 < a0.size) = false := decide_eq_false (by omega)
        have c8le : Aside0 ((a0.size : Int) ≤ 200) := ⟨by omega⟩
        clear c8
        (first | rw [c8b0] | (simp only [i64_w, i32_w]; rw [c8b0]) | skip)
        by_cases c9 : (a1.size : Int) > 200
        · rw [if_pos c9] at H
          have c9b0 : decide (200 < (a1.size : Int)) = true := decide_eq_true c9
          have c9b1 : decide (200 < a1.size) = true := decide_eq_true (by omega)
          have c9le : Aside0 (200 + 1 ≤ (a1.size : Int)) := ⟨by omega⟩
          clear c9
          have H' := Aside0.mk H
          clear H
          go_wp2
          go_meet
          case rel => exact ⟨_, (true), (by first | rfl | (simp; done) | (simp [*]; done)), H', ⟨by first | omega | exact Nat.le_refl _⟩, ⟨by repeat (first | (with_reducible first | exact HB.out | apply below_alloc | apply pw_below_drewN | apply below_drew1) | exact HB.out)⟩⟩
        · rw [if_neg c9] at H
          have c9b0 : decide (200 < (a1.size : Int)) = false := decide_eq_false c9
          have c9b1 : decide (200 < a1.size) = false := decide_eq_false (by omega)
          have c9le : Aside0 ((a1.size : Int) ≤ 200) := ⟨by omega⟩
          clear c9
          have H' := Aside0.mk H
          clear H
          go_wp2
          go_meet
          case rel => exact ⟨_, (decide ((a2.size : Int) > 200)), (by first | rfl | (simp; done) | (simp [*]; done)), H', ⟨by first | omega | exact Nat.le_refl _⟩, ⟨by repeat (first | (with_reducible first | exact HB.out | apply below_alloc | apply pw_below_drewN | apply below_drew1) | exact HB.out)⟩⟩
    case rest =>
      clear HC6
      try clear p2
      try clear c5
      try clear c6
      try clear c8
      try clear c8b0
      try clear c8b1
      try clear c9
      try clear c9b0
      try clear c9b1
      obtain ⟨kq, x31_5, rfl, HA, HJ5, HB⟩ := hcut
      cases kq with
      | zero => exact absurd HA.out (by simp [sumplaw08_NameSplits.j0])
      | succ kj5 =>
        have H := HA.out
        clear HA
        simp only [sumplaw08_NameSplits.j0] at H
        by_cases c10 : x31_5 = true
        · subst c10
          have H1 : (some true) = some r := by rw [if_pos rfl] at H; exact H
          clear H
          have H := H1
          clear H1
          obtain rfl := Option.some.inj H
          go_wp2
          go_ret
          exact ⟨by first | rfl | (simp [errW_none, errW_some] <;> rfl) | (simp [*, errW_none, errW_some] <;> rfl) | (refine L.ret_bool ?_; rw [Bool.eq_iff_iff]; simp; done) | (refine L.ret_bool ?_; rw [Bool.eq_iff_iff]; simp [*]; done), by repeat (first | (with_reducible first | exact HB.out | apply below_alloc | apply pw_below_drewN | apply below_drew1) | exact HB.out)⟩
        · replace c10 := Bool.eq_false_iff.mpr c10
          subst c10
          have H1 : ((name_Split.f kj5 a1).bind fun bt184 => ((sumpref01_Split.f kj5 a1).bind fun bt188 => ((sumpref01_Split.f kj5 a2).bind fun bt192 => ((name_Base.f kj5 a1).bind fun bt196 => (if bt188.2 = 0 then (if bt192.2 = 0 then (if (bt188.1.length : Int) > (bt192.1.length : Int) then (if 0 ≤ (mn (bt192.1.length : Int) (bt188.1.length : Int)) then (if (mn (bt192.1.length : Int) (bt188.1.length : Int)) ≤ (bt188.1.length : Int) then ((sumpref01_SameTexts.f kj5 (bt188.1.take ((mn (bt192.1.length : Int) (bt188.1.length : Int)) : Int).toNat) bt192.1).bind fun t203 => (sumplaw08_NameSplits.j1 kj5 a0 a1 a2 bt184.1 bt184.2 bt188.1 bt188.2 bt196.1 bt196.2.1 bt196.2.2 t203)) else (none)) else (none)) else (sumplaw08_NameSplits.j1 kj5 a0 a1 a2 bt184.1 bt184.2 bt188.1 bt188.2 bt196.1 bt196.2.1 bt196.2.2 false)) else (sumplaw08_NameSplits.j1 kj5 a0 a1 a2 bt184.1 bt184.2 bt188.1 bt188.2 bt196.1 bt196.2.1 bt196.2.2 false)) else (sumplaw08_NameSplits.j1 kj5 a0 a1 a2 bt184.1 bt184.2 bt188.1 bt188.2 bt196.1 bt196.2.1 bt196.2.2 false)))))) = some r := by rw [if_neg (show ¬ (false = true) by decide)] at H; exact H
          clear H
          have H := H1
          clear H1
          replace H := Option.bind_eq_some_iff.mp H
          obtain ⟨⟨t184, t185⟩, A110, H⟩ := H
          replace H : ((sumpref01_Split.f kj5 a1).bind fun bt188 => ((sumpref01_Split.f kj5 a2).bind fun bt192 => ((name_Base.f kj5 a1).bind fun bt196 => (if bt188.2 = 0 then (if bt192.2 = 0 then (if (bt188.1.length : Int) > (bt192.1.length : Int) then (if 0 ≤ (mn (bt192.1.length : Int) (bt188.1.length : Int)) then (if (mn (bt192.1.length : Int) (bt188.1.length : Int)) ≤ (bt188.1.length : Int) then ((sumpref01_SameTexts.f kj5 (bt188.1.take ((mn (bt192.1.length : Int) (bt188.1.length : Int)) : Int).toNat) bt192.1).bind fun t203 => (sumplaw08_NameSplits.j1 kj5 a0 a1 a2 t184 t185 bt188.1 bt188.2 bt196.1 bt196.2.1 bt196.2.2 t203)) else (none)) else (none)) else (sumplaw08_NameSplits.j1 kj5 a0 a1 a2 t184 t185 bt188.1 bt188.2 bt196.1 bt196.2.1 bt196.2.2 false)) else (sumplaw08_NameSplits.j1 kj5 a0 a1 a2 t184 t185 bt188.1 bt188.2 bt196.1 bt196.2.1 bt196.2.2 false)) else (sumplaw08_NameSplits.j1 kj5 a0 a1 a2 t184 t185 bt188.1 bt188.2 bt196.1 bt196.2.1 bt196.2.2 false))))) = some r := H
          have A11 := Aside0.mk A110
          clear A110
          replace H := Option.bind_eq_some_iff.mp H
          obtain ⟨⟨t188, t189⟩, A120, H⟩ := H
          replace H : ((sumpref01_Split.f kj5 a2).bind fun bt192 => ((name_Base.f kj5 a1).bind fun bt196 => (if t189 = 0 then (if bt192.2 = 0 then (if (t188.length : Int) > (bt192.1.length : Int) then (if 0 ≤ (mn (bt192.1.length : Int) (t188.length : Int)) then (if (mn (bt192.1.length : Int) (t188.length : Int)) ≤ (t188.length : Int) then ((sumpref01_SameTexts.f kj5 (t188.take ((mn (bt192.1.length : Int) (t188.length : Int)) : Int).toNat) bt192.1).bind fun t203 => (sumplaw08_NameSplits.j1 kj5 a0 a1 a2 t184 t185 t188 t189 bt196.1 bt196.2.1 bt196.2.2 t203)) else (none)) else (none)) else (sumplaw08_NameSplits.j1 kj5 a0 a1 a2 t184 t185 t188 t189 bt196.1 bt196.2.1 bt196.2.2 false)) else (sumplaw08_NameSplits.j1 kj5 a0 a1 a2 t184 t185 t188 t189 bt196.1 bt196.2.1 bt196.2.2 false)) else (sumplaw08_NameSplits.j1 kj5 a0 a1 a2 t184 t185 t188 t189 bt196.1 bt196.2.1 bt196.2.2 false)))) = some r := H
          have A12 := Aside0.mk A120
          clear A120
          replace H := Option.bind_eq_some_iff.mp H
          obtain ⟨⟨t192, t193⟩, A130, H⟩ := H
          replace H : ((name_Base.f kj5 a1).bind fun bt196 => (if t189 = 0 then (if t193 = 0 then (if (t188.length : Int) > (t192.length : Int) then (if 0 ≤ (mn (t192.length : Int) (t188.length : Int)) then (if (mn (t192.length : Int) (t188.length : Int)) ≤ (t188.length : Int) then ((sumpref01_SameTexts.f kj5 (t188.take ((mn (t192.length : Int) (t188.length : Int)) : Int).toNat) t192).bind fun t203 => (sumplaw08_NameSplits.j1 kj5 a0 a1 a2 t184 t185 t188 t189 bt196.1 bt196.2.1 bt196.2.2 t203)) else (none)) else (none)) else (sumplaw08_NameSplits.j1 kj5 a0 a1 a2 t184 t185 t188 t189 bt196.1 bt196.2.1 bt196.2.2 false)) else (sumplaw08_NameSplits.j1 kj5 a0 a1 a2 t184 t185 t188 t189 bt196.1 bt196.2.1 bt196.2.2 false)) else (sumplaw08_NameSplits.j1 kj5 a0 a1 a2 t184 t185 t188 t189 bt196.1 bt196.2.1 bt196.2.2 false))) = some r := H
          have A13 := Aside0.mk A130
          clear A130
          replace H := Option.bind_eq_some_iff.mp H
          obtain ⟨⟨t196, t197, t198⟩, A140, H⟩ := H
          replace H : (if t189 = 0 then (if t193 = 0 then (if (t188.length : Int) > (t192.length : Int) then (if 0 ≤ (mn (t192.length : Int) (t188.length : Int)) then (if (mn (t192.length : Int) (t188.length : Int)) ≤ (t188.length : Int) then ((sumpref01_SameTexts.f kj5 (t188.take ((mn (t192.length : Int) (t188.length : Int)) : Int).toNat) t192).bind fun t203 => (sumplaw08_NameSplits.j1 kj5 a0 a1 a2 t184 t185 t188 t189 t196 t197 t198 t203)) else (none)) else (none)) else (sumplaw08_NameSplits.j1 kj5 a0 a1 a2 t184 t185 t188 t189 t196 t197 t198 false)) else (sumplaw08_NameSplits.j1 kj5 a0 a1 a2 t184 t185 t188 t189 t196 t197 t198 false)) else (sumplaw08_NameSplits.j1 kj5 a0 a1 a2 t184 t185 t188 t189 t196 t197 t198 false)) = some r := H
          have A14 := Aside0.mk A140
          clear A140
          have HC15 := Aside0.mk H
          clear H
          go_upto_region 9 with (first | ((with_reducible refine gate_callee (f := 9) rfl ?_); refine goesL_ (some 34) rfl rfl Tryd.func9 (by kernel_rfl) rfl #[.string a1] rfl (by (try simp only [List.map_toArray, List.map_cons, List.map_nil]); first | done | rfl | (simp only [List.length_drop, List.length_take]; rfl)) ?_; (with_reducible refine (name_Split.calls kj5 a1 t184 t185 _ A11.out).mono ?_); rintro e w16 ⟨v186, rfl, ho0, hb⟩; refine ⟨_, rfl, ?_⟩; have n0_ := Aside0.mk (Kd.R_lower ho0 (below_size (by repeat (first | (with_reducible first | exact HB.out | apply below_alloc | apply pw_below_drewN | apply below_drew1) | exact HB.out)))); have n1_ := Aside0.mk (below_step (by repeat (first | (with_reducible first | exact HB.out | apply below_alloc | apply pw_below_drewN | apply below_drew1) | exact HB.out)) hb); clear HB; have HO187 := n0_; have HB := n1_; clear n0_ n1_; (try clear hb); (try clear hb2); (try clear hk); (try clear hi); (try clear ho0)) | ((with_reducible refine gate_callee (f := 13) rfl ?_); refine goesL_ (some 39) rfl rfl Tryd.func13 (by kernel_rfl) rfl #[.string a1] rfl (by (try simp only [List.map_toArray, List.map_cons, List.map_nil]); first | done | rfl | (simp only [List.length_drop, List.length_take]; rfl)) ?_; (with_reducible refine (sumpref01_Split.calls kj5 a1 t188 t189 _ A12.out).mono ?_); rintro e w17 ⟨v190, rfl, ho0, hb⟩; refine ⟨_, rfl, ?_⟩; have n0_ := Aside0.mk (Kd.R_elder' (by (with_reducible repeat (first | apply Kd.R_alloc | apply Kd.R_drewN | apply Kd.R_drew)); exact HO187.out) (Kd.R_base ho0) hb); have n1_ := Aside0.mk (Kd.R_lower (Kd.R_new' ho0 (Kd.R_lt (by (with_reducible repeat (first | apply Kd.R_alloc | apply Kd.R_drewN | apply Kd.R_drew)); exact HO187.out))) (below_size (by repeat (first | (with_reducible first | exact HB.out | apply below_alloc | apply pw_below_drewN | apply below_drew1) | exact HB.out)))); have n2_ := Aside0.mk (below_step (by repeat (first | (with_reducible first | exact HB.out | apply below_alloc | apply pw_below_drewN | apply below_drew1) | exact HB.out)) hb); clear HO187; clear HB; have HO187 := n0_; have HO191 := n1_; have HB := n2_; clear n0_ n1_ n2_; (try clear hb); (try clear hb2); (try clear hk); (try clear hi); (try clear ho0)) | ((with_reducible refine gate_callee (f := 13) rfl ?_); refine goesL_ (some 44) rfl rfl Tryd.func13 (by kernel_rfl) rfl #[.string a2] rfl (by (try simp only [List.map_toArray, List.map_cons, List.map_nil]); first | done | rfl | (simp only [List.length_drop, List.length_take]; rfl)) ?_; (with_reducible refine (sumpref01_Split.calls kj5 a2 t192 t193 _ A13.out).mono ?_); rintro e w18 ⟨v194, rfl, ho0, hb⟩; refine ⟨_, rfl, ?_⟩; have n0_ := Aside0.mk (Kd.R_elder' (by (with_reducible repeat (first | apply Kd.R_alloc | apply Kd.R_drewN | apply Kd.R_drew)); exact HO187.out) (Kd.R_base ho0) hb); have n1_ := Aside0.mk (Kd.R_elder' (by (with_reducible repeat (first | apply Kd.R_alloc | apply Kd.R_drewN | apply Kd.R_drew)); exact HO191.out) (Kd.R_base ho0) hb); have n2_ := Aside0.mk (Kd.R_lower (Kd.R_new' (Kd.R_new' ho0 (Kd.R_lt (by (with_reducible repeat (first | apply Kd.R_alloc | apply Kd.R_drewN | apply Kd.R_drew)); exact HO187.out))) (Kd.R_lt (by (with_reducible repeat (first | apply Kd.R_alloc | apply Kd.R_drewN | apply Kd.R_drew)); exact HO191.out))) (below_size (by repeat (first | (with_reducible first | exact HB.out | apply below_alloc | apply pw_below_drewN | apply below_drew1) | exact HB.out)))); have n3_ := Aside0.mk (below_step (by repeat (first | (with_reducible first | exact HB.out | apply below_alloc | apply pw_below_drewN | apply below_drew1) | exact HB.out)) hb); clear HO187; clear HO191; clear HB; have HO187 := n0_; have HO191 := n1_; have HO195 := n2_; have HB := n3_; clear n0_ n1_ n2_ n3_; (try clear hb); (try clear hb2); (try clear hk); (try clear hi); (try clear ho0)) | ((with_reducible refine gate_callee (f := 12) rfl ?_); refine goesL_ (some 49) rfl rfl Tryd.func12 (by kernel_rfl) rfl #[.string a1] rfl (by (try simp only [List.map_toArray, List.map_cons, List.map_nil]); first | done | rfl | (simp only [List.length_drop, List.length_take]; rfl)) ?_; (with_reducible refine (name_Base.calls kj5 a1 t196 t197 t198 _ A14.out).mono ?_); rintro e w19 ⟨rfl, hb⟩; refine ⟨_, rfl, ?_⟩; have n0_ := Aside0.mk (Kd.R_below (by (with_reducible repeat (first | apply Kd.R_alloc | apply Kd.R_drewN | apply Kd.R_drew)); exact HO187.out) hb); have n1_ := Aside0.mk (Kd.R_below (by (with_reducible repeat (first | apply Kd.R_alloc | apply Kd.R_drewN | apply Kd.R_drew)); exact HO191.out) hb); have n2_ := Aside0.mk (Kd.R_below (by (with_reducible repeat (first | apply Kd.R_alloc | apply Kd.R_drewN | apply Kd.R_drew)); exact HO195.out) hb); have n3_ := Aside0.mk (below_step (by repeat (first | (with_reducible first | exact HB.out | apply below_alloc | apply pw_below_drewN | apply below_drew1) | exact HB.out)) hb); clear HO187; clear HO191; clear HO195; clear HB; have HO187 := n0_; have HO191 := n1_; have HO195 := n2_; have HB := n3_; clear n0_ n1_ n2_ n3_; (try clear hb); (try clear hb2); (try clear hk); (try clear hi)))
          (try simp only [Act.put, List.setIfInBounds_toArray, List.set_cons_zero, List.set_cons_succ])
          go_cut [16] (fun v16 wc => ∃ (kq : Nat) (x16_14 : Bool), v16 = .bool x16_14 ∧ Aside0 (sumplaw08_NameSplits.j1 kq a0 a1 a2 t184 t185 t188 t189 t196 t197 t198 x16_14 = some r) ∧ Aside0 (kq ≤ kj5) ∧ Aside0 (Kd.R Kd.string 9 wc w.heap.size (fun k_ => some k_ ≠ (v190 : Value).ownBlock) v186 t184) ∧ Aside0 (Kd.R Kd.string 9 wc w.heap.size (fun k_ => some k_ ≠ (v186 : Value).ownBlock) v190 t188) ∧ Aside0 (Below w.heap.size w wc))
          case first =>
            have H := HC15.out
            clear HC15
            by_cases c20 : t189 = 0
            · rw [if_pos c20] at H
              have c20b0 : (t189 == 0) = true := beq_iff_eq.mpr c20
              have c20b1 : (t189 != 0) = false := bne_eq_false_iff_eq.mpr c20
              have c20le : Aside0 (t189 ≤ 0) := ⟨Int.le_of_eq c20⟩
              have c20ge : Aside0 (0 ≤ t189) := ⟨Int.le_of_eq c20.symm⟩
              clear c20
              (first | rw [c20b0] | (simp only [i64_w, i32_w]; rw [c20b0]) | skip)
              by_cases c21 : t193 = 0
              · rw [if_pos c21] at H
                have c21b0 : (t193 == 0) = true := beq_iff_eq.mpr c21
                have c21b1 : (t193 != 0) = false := bne_eq_false_iff_eq.mpr c21
                have c21le : Aside0 (t193 ≤ 0) := ⟨Int.le_of_eq c21⟩
                have c21ge : Aside0 (0 ≤ t193) := ⟨Int.le_of_eq c21.symm⟩
                clear c21
                by_cases c22 : (t188.length : Int) > (t192.length : Int)
                · rw [if_pos c22] at H
                  have c22b0 : decide ((t192.length : Int) < (t188.length : Int)) = true := decide_eq_true c22
                  have c22b1 : decide (t192.length < t188.length) = true := decide_eq_true (Int.ofNat_lt.mp c22)
                  clear c22
                  have hji23 : mn (t192.length : Int) (t188.length : Int) = (t192.length : Int) := by unfold mn; have := of_decide_eq_true c22b0; split <;> omega
                  have hno1 : ((t188.length : Int) < (t192.length : Int)) = False := eq_false (by have := of_decide_eq_true c22b0; omega)
                  have hno2 : (t188.length < t192.length) = False := eq_false (by have := of_decide_eq_true c22b0; omega)
                  replace H : (if 0 ≤ ((t192.length : Int)) then (if ((t192.length : Int)) ≤ (t188.length : Int) then ((sumpref01_SameTexts.f kj5 (t188.take (((t192.length : Int)) : Int).toNat) t192).bind fun t203 => (sumplaw08_NameSplits.j1 kj5 a0 a1 a2 t184 t185 t188 t189 t196 t197 t198 t203)) else (none)) else (none)) = some r := by first | (rw [hji23] at H; exact H) | (simp only [hji23] at H ⊢; exact H)
                  (try (have hji23l : 0 ≤ (t192.length : Int) := by (rw [← hji23]; unfold mn; (repeat' split) <;> omega)))
                  (try (have hji23m : 0 ≤ (t192.length : Int) := by omega))
                  have hji23_ : (if (t188.length : Int) < (t192.length : Int) then (t188.length : Int) else (t192.length : Int)) = (t192.length : Int) := hji23
                  by_cases c24 : 0 ≤ ((t192.length : Int))
                  · rw [if_pos c24] at H
                    have c24b0 := eq_true c24
                    have c24b1 : decide (0 ≤ ((t192.length : Int))) = true := decide_eq_true c24
                    clear c24
                    by_cases c25 : ((t192.length : Int)) ≤ (t188.length : Int)
                    · rw [if_pos c25] at H
                      have c25b0 := eq_true c25
                      have c25b1 : decide (((t192.length : Int)) ≤ (t188.length : Int)) = true := decide_eq_true c25
                      clear c25
                      obtain ⟨y199, hy199⟩ : ∃ y_ : List ByteArray, y_ = (t188.take (((t192.length : Int)) : Int).toNat) := ⟨_, rfl⟩
                      replace H : ((sumpref01_SameTexts.f kj5 y199 t192).bind fun t203 => (sumplaw08_NameSplits.j1 kj5 a0 a1 a2 t184 t185 t188 t189 t196 t197 t198 t203)) = some r := by first | (rw [hy199]; with_reducible exact H) | (have H2_ := (Option.bind_some _ _).symm.trans H; rw [hy199]; with_reducible exact H2_) | (have H2_ := (Option.bind_some _ _).symm.trans H; with_reducible exact H2_) | with_reducible exact H | (rw [hy199]; exact H) | exact H
                      have Ny199 := Aside0.mk hy199
                      clear hy199
                      replace H := Option.bind_eq_some_iff.mp H
                      obtain ⟨t203, A260, H⟩ := H
                      replace H : (sumplaw08_NameSplits.j1 kj5 a0 a1 a2 t184 t185 t188 t189 t196 t197 t198 t203) = some r := H
                      have A26 := Aside0.mk A260
                      clear A260
                      have H' := Aside0.mk H
                      clear H
                      obtain ⟨Ao27, co27, eo27⟩ := Kd.R_slice HO191.out
                      subst eo27
                      obtain ⟨Ao28, co28, eo28⟩ := Kd.R_slice HO195.out
                      subst eo28
                      have q29 : (((t192.length : Int)) : Int) ≤ ((t188.length : Int) : Int) := of_decide_eq_true (by first | (with_reducible assumption) | assumption)
                      obtain ⟨i029, hi029, _, hsz29, _⟩ := info_parts info9
                      have hroom29 : t188.length ≤ co27 := (Kd.R_reads' HO191.out).2.1
                      have hC29 : Kd.C Kd.string _ Ao27 t188.length t188 := (Kd.R_reads' HO191.out).2.2
                      have hcut29 := cut_to (P := Tryd.prog) 22 9 .i64 Tryd.underlying22 hi029 Ao27 t188.length co27 ((t192.length : Int)) (of_decide_eq_true (by first | (with_reducible assumption) | assumption)) q29 hroom29
                      have hr29 := Kd.C_take (m := (((t192.length : Int)) : Int).toNat) hC29 (by omega)
                      have hy29 : y199.length = (((t192.length : Int)) : Int).toNat := (by rw [Ny199.out, List.length_take]; omega)
                      rw [← Ny199.out] at hr29
                      rw [← hy29] at hcut29
                      have HR202 := Aside0.mk hr29
                      have HC202 := Aside0.mk (show y199.length ≤ co27 from by omega)
                      clear hr29 hC29 hroom29 hi029 hsz29
                      have KY29 := Aside0.mk hy29
                      clear hy29
                      have KL29 := Aside0.mk (show (((t192.length : Int)) : Int).toNat ≤ t188.length from by omega)
                      replace q29 := eq_true q29
                      go_wp2_with (first | (go_at_call 10; (with_reducible refine (sumpref01_SameTexts.calls kj5 _ _ y199 _ _ t192 t203 _ ?side1 ?side2 ?side3 ?side4 A26.out).mono ?_); (case side1 => repeat (first | exact (by repeat (first | (with_reducible exact HR202.out) | (with_reducible refine Kd.C_alloc ?_ _) | (with_reducible refine Kd.C_drewN ?_ _) | (with_reducible refine Kd.C_drew ?_) | exact HR202.out)) | (with_reducible refine Kd.C_alloc ?_ _) | (with_reducible refine Kd.C_drewN ?_ _) | (with_reducible refine Kd.C_drew ?_))); (case side2 => exact HC202.out); (case side3 => repeat (first | exact (Kd.R_reads' HO195.out).2.2 | (with_reducible refine Kd.C_alloc ?_ _) | (with_reducible refine Kd.C_drewN ?_ _) | (with_reducible refine Kd.C_drew ?_))); (case side4 => exact (Kd.R_reads' HO195.out).2.1); rintro e w' ⟨rfl, ⟨nd, rfl⟩⟩))
                      go_meet
                      case rel => exact ⟨_, (t203), (by first | rfl | (simp; done) | (simp [*]; done)), H', ⟨by have := HJ5.out; first | omega | exact Nat.le_refl _⟩, ⟨by (with_reducible repeat (first | apply Kd.R_alloc | apply Kd.R_drewN | apply Kd.R_drew)); exact Kd.R_mono HO187.out (fun _ hk => hk.1.2)⟩, ⟨by (with_reducible repeat (first | apply Kd.R_alloc | apply Kd.R_drewN | apply Kd.R_drew)); exact Kd.R_mono HO191.out (fun _ hk => hk.1.2)⟩, ⟨by repeat (first | (with_reducible first | exact HB.out | apply below_alloc | apply pw_below_drewN | apply below_drew1) | exact HB.out)⟩⟩
                    · rw [if_neg c25] at H
                      exact absurd H (by simp)
                  · rw [if_neg c24] at H
                    exact absurd H (by simp)
                · rw [if_neg c22] at H
                  have c22b0 : decide ((t192.length : Int) < (t188.length : Int)) = false := decide_eq_false c22
                  have c22b1 : decide (t192.length < t188.length) = false := decide_eq_false (fun h => c22 (Int.ofNat_lt.mpr h))
                  clear c22
                  have H' := Aside0.mk H
                  clear H
                  obtain ⟨Ao30, co30, eo30⟩ := Kd.R_slice HO191.out
                  subst eo30
                  obtain ⟨Ao31, co31, eo31⟩ := Kd.R_slice HO195.out
                  subst eo31
                  go_wp2
                  go_meet
                  case rel => exact ⟨_, (false), (by first | rfl | (simp; done) | (simp [*]; done)), H', ⟨by have := HJ5.out; first | omega | exact Nat.le_refl _⟩, ⟨by (with_reducible repeat (first | apply Kd.R_alloc | apply Kd.R_drewN | apply Kd.R_drew)); exact Kd.R_mono HO187.out (fun _ hk => hk.1.2)⟩, ⟨by (with_reducible repeat (first | apply Kd.R_alloc | apply Kd.R_drewN | apply Kd.R_drew)); exact Kd.R_mono HO191.out (fun _ hk => hk.1.2)⟩, ⟨by repeat (first | (with_reducible first | exact HB.out | apply below_alloc | apply pw_below_drewN | apply below_drew1) | exact HB.out)⟩⟩
              · rw [if_neg c21] at H
                have c21b0 : (t193 == 0) = false := beq_eq_false_iff_ne.mpr c21
                have c21b1 : (t193 != 0) = true := bne_iff_ne.mpr c21
                have H' := Aside0.mk H
                clear H
                go_wp2
                go_meet
                case rel => exact ⟨_, (false), (by first | rfl | (simp; done) | (simp [*]; done)), H', ⟨by have := HJ5.out; first | omega | exact Nat.le_refl _⟩, ⟨by (with_reducible repeat (first | apply Kd.R_alloc | apply Kd.R_drewN | apply Kd.R_drew)); exact Kd.R_mono HO187.out (fun _ hk => hk.1.2)⟩, ⟨by (with_reducible repeat (first | apply Kd.R_alloc | apply Kd.R_drewN | apply Kd.R_drew)); exact Kd.R_mono HO191.out (fun _ hk => hk.1.2)⟩, ⟨by repeat (first | (with_reducible first | exact HB.out | apply below_alloc | apply pw_below_drewN | apply below_drew1) | exact HB.out)⟩⟩
            · rw [if_neg c20] at H
              have c20b0 : (t189 == 0) = false := beq_eq_false_iff_ne.mpr c20
              have c20b1 : (t189 != 0) = true := bne_iff_ne.mpr c20
              (first | rw [c20b0] | (simp only [i64_w, i32_w]; rw [c20b0]) | skip)
              have H' := Aside0.mk H
              clear H
              go_wp2
              go_meet
              case rel => exact ⟨_, (false), (by first | rfl | (simp; done) | (simp [*]; done)), H', ⟨by have := HJ5.out; first | omega | exact Nat.le_refl _⟩, ⟨by (with_reducible repeat (first | apply Kd.R_alloc | apply Kd.R_drewN | apply Kd.R_drew)); exact Kd.R_mono HO187.out (fun _ hk => hk.1.2)⟩, ⟨by (with_reducible repeat (first | apply Kd.R_alloc | apply Kd.R_drewN | apply Kd.R_drew)); exact Kd.R_mono HO191.out (fun _ hk => hk.1.2)⟩, ⟨by repeat (first | (with_reducible first | exact HB.out | apply below_alloc | apply pw_below_drewN | apply below_drew1) | exact HB.out)⟩⟩
          case rest =>
            clear HC15
            try clear c1
            try clear c2
            try clear p2
            try clear q2
            try clear c5
            try clear c6
            try clear c8
            try clear c8b0
            try clear c8b1
            try clear c9
            try clear c9b0
            try clear c9b1
            try clear c10
            try clear c12
            try clear c13
            try clear c20
            try clear c20b0
            try clear c20b1
            try clear c21
            try clear c21b0
            try clear c21b1
            try clear c22
            try clear c22b0
            try clear c22b1
            try clear c24
            try clear c24b0
            try clear c24b1
            try clear c25
            try clear c25b0
            try clear c25b1
            try clear q29
            try clear p2
            try clear q29
            obtain ⟨kq, x16_14, rfl, HA, HJ14, HO_7, HO_9, HB⟩ := hcut
            cases kq with
            | zero => exact absurd HA.out (by simp [sumplaw08_NameSplits.j1])
            | succ kj14 =>
              have H := HA.out
              clear HA
              simp only [sumplaw08_NameSplits.j1] at H
              have HC32 := Aside0.mk H
              clear H
              go_upto_region 10 with (fail)
              go_cut [108] (fun v108 wc => ∃ (kq : Nat) (x108_31 : Bool), v108 = .bool x108_31 ∧ Aside0 (sumplaw08_NameSplits.j2 kq t188 t189 t196 t197 t198 x108_31 = some r) ∧ Aside0 (kq ≤ kj14) ∧ Aside0 (Kd.R Kd.string 9 wc w.heap.size (fun _ => True) v190 t188) ∧ Aside0 (Below w.heap.size w wc))
              case first =>
                have H := HC32.out
                clear HC32
                replace H := Option.bind_eq_some_iff.mp H
                obtain ⟨t204, A330, H⟩ := H
                replace H : ((sumpref01_Name.f kj14 a0).bind fun t205 => (if t204 = t205 then ((sumpref01_SameTexts.f kj14 t184 t188).bind fun t206 => (if t206 = true then (if t185 = t189 then ((name_Under.f kj14 a1 a2).bind fun t207 => (if (t207 != x16_14) = true then (sumplaw08_NameSplits.j2 kj14 t188 t189 t196 t197 t198 true) else ((name_Less.f a0 a1).bind fun t208 => (sumplaw08_NameSplits.j2 kj14 t188 t189 t196 t197 t198 (t208 != (Op.bytesLess a0.toList a1.toList)))))) else (sumplaw08_NameSplits.j2 kj14 t188 t189 t196 t197 t198 true)) else (sumplaw08_NameSplits.j2 kj14 t188 t189 t196 t197 t198 true))) else (sumplaw08_NameSplits.j2 kj14 t188 t189 t196 t197 t198 true))) = some r := H
                have A33 := Aside0.mk A330
                clear A330
                replace H := Option.bind_eq_some_iff.mp H
                obtain ⟨t205, A340, H⟩ := H
                replace H : (if t204 = t205 then ((sumpref01_SameTexts.f kj14 t184 t188).bind fun t206 => (if t206 = true then (if t185 = t189 then ((name_Under.f kj14 a1 a2).bind fun t207 => (if (t207 != x16_14) = true then (sumplaw08_NameSplits.j2 kj14 t188 t189 t196 t197 t198 true) else ((name_Less.f a0 a1).bind fun t208 => (sumplaw08_NameSplits.j2 kj14 t188 t189 t196 t197 t198 (t208 != (Op.bytesLess a0.toList a1.toList)))))) else (sumplaw08_NameSplits.j2 kj14 t188 t189 t196 t197 t198 true)) else (sumplaw08_NameSplits.j2 kj14 t188 t189 t196 t197 t198 true))) else (sumplaw08_NameSplits.j2 kj14 t188 t189 t196 t197 t198 true)) = some r := H
                have A34 := Aside0.mk A340
                clear A340
                by_cases c35 : t204 = t205
                · rw [if_pos c35] at H
                  have c35b0 : (t204 == t205) = true := beq_iff_eq.mpr c35
                  have c35b1 : (t204 != t205) = false := bne_eq_false_iff_eq.mpr c35
                  clear c35
                  (first | rw [c35b0] | (simp only [i64_w, i32_w]; rw [c35b0]) | skip)
                  replace H := Option.bind_eq_some_iff.mp H
                  obtain ⟨t206, A360, H⟩ := H
                  replace H : (if t206 = true then (if t185 = t189 then ((name_Under.f kj14 a1 a2).bind fun t207 => (if (t207 != x16_14) = true then (sumplaw08_NameSplits.j2 kj14 t188 t189 t196 t197 t198 true) else ((name_Less.f a0 a1).bind fun t208 => (sumplaw08_NameSplits.j2 kj14 t188 t189 t196 t197 t198 (t208 != (Op.bytesLess a0.toList a1.toList)))))) else (sumplaw08_NameSplits.j2 kj14 t188 t189 t196 t197 t198 true)) else (sumplaw08_NameSplits.j2 kj14 t188 t189 t196 t197 t198 true)) = some r := H
                  have A36 := Aside0.mk A360
                  clear A360
                  by_cases c37 : t206 = true
                  · subst c37
                    have H1 : (if t185 = t189 then ((name_Under.f kj14 a1 a2).bind fun t207 => (if (t207 != x16_14) = true then (sumplaw08_NameSplits.j2 kj14 t188 t189 t196 t197 t198 true) else ((name_Less.f a0 a1).bind fun t208 => (sumplaw08_NameSplits.j2 kj14 t188 t189 t196 t197 t198 (t208 != (Op.bytesLess a0.toList a1.toList)))))) else (sumplaw08_NameSplits.j2 kj14 t188 t189 t196 t197 t198 true)) = some r := by rw [if_pos rfl] at H; exact H
                    clear H
                    have H := H1
                    clear H1
                    by_cases c38 : t185 = t189
                    · rw [if_pos c38] at H
                      have c38b0 : (t185 == t189) = true := beq_iff_eq.mpr c38
                      have c38b1 : (t185 != t189) = false := bne_eq_false_iff_eq.mpr c38
                      clear c38
                      replace H := Option.bind_eq_some_iff.mp H
                      obtain ⟨t207, A390, H⟩ := H
                      replace H : (if (t207 != x16_14) = true then (sumplaw08_NameSplits.j2 kj14 t188 t189 t196 t197 t198 true) else ((name_Less.f a0 a1).bind fun t208 => (sumplaw08_NameSplits.j2 kj14 t188 t189 t196 t197 t198 (t208 != (Op.bytesLess a0.toList a1.toList))))) = some r := H
                      have A39 := Aside0.mk A390
                      clear A390
                      by_cases c40 : (t207 != x16_14) = true
                      · rw [if_pos c40] at H
                        have c40b0 : (t207 != x16_14) = true := c40
                        (try (have c40b1 : decide (t207 = x16_14) = false := by simpa using c40))
                        (try (have c40b2 : (t207 == x16_14) = false := by simpa using c40))
                        (try (have c40b3 : ¬ (t207 = x16_14) := by simpa using c40))
                        clear c40
                        have H' := Aside0.mk H
                        clear H
                        go_wp2_with (first | ((with_reducible refine gate_callee (f := 7) rfl ?_); refine goesL_ (some 78) rfl rfl Tryd.func7 (by kernel_rfl) rfl #[.string a0] rfl (by (try simp only [List.map_toArray, List.map_cons, List.map_nil]); first | done | rfl | (simp only [List.length_drop, List.length_take]; rfl)) ?_; (with_reducible refine (name_Check.calls kj14 a0 t204 _ A33.out).mono ?_); rintro e w' ⟨rfl, ⟨nd, rfl⟩⟩; refine ⟨_, rfl, ?_⟩) | ((with_reducible refine gate_callee (f := 14) rfl ?_); refine goesL_ (some 80) rfl rfl Tryd.func14 (by kernel_rfl) rfl #[.string a0] rfl (by (try simp only [List.map_toArray, List.map_cons, List.map_nil]); first | done | rfl | (simp only [List.length_drop, List.length_take]; rfl)) ?_; (with_reducible refine (sumpref01_Name.calls kj14 a0 t205 _ A34.out).mono ?_); rintro e w' ⟨rfl, ⟨nd, rfl⟩⟩; refine ⟨_, rfl, ?_⟩; obtain ⟨Ao41, co41, eo41⟩ := Kd.R_slice HO_7.out; subst eo41; obtain ⟨Ao42, co42, eo42⟩ := Kd.R_slice HO_9.out; subst eo42) | (go_at_call 10; (with_reducible refine (sumpref01_SameTexts.calls kj14 _ _ t184 _ _ t188 true _ ?side1 ?side2 ?side3 ?side4 A36.out).mono ?_); (case side1 => repeat (first | exact (Kd.R_reads' HO_7.out).2.2 | (with_reducible refine Kd.C_alloc ?_ _) | (with_reducible refine Kd.C_drewN ?_ _) | (with_reducible refine Kd.C_drew ?_))); (case side2 => exact (Kd.R_reads' HO_7.out).2.1); (case side3 => repeat (first | exact (Kd.R_reads' HO_9.out).2.2 | (with_reducible refine Kd.C_alloc ?_ _) | (with_reducible refine Kd.C_drewN ?_ _) | (with_reducible refine Kd.C_drew ?_))); (case side4 => exact (Kd.R_reads' HO_9.out).2.1); rintro e w' ⟨rfl, ⟨nd, rfl⟩⟩) | (go_at_call 11; (with_reducible refine (name_Under.calls kj14 a1 a2 t207 _ A39.out).mono ?_); rintro e w43 ⟨rfl, hb⟩; have n0_ := Aside0.mk (Kd.R_below (by (with_reducible repeat (first | apply Kd.R_alloc | apply Kd.R_drewN | apply Kd.R_drew)); exact HO_7.out) hb); have n1_ := Aside0.mk (Kd.R_below (by (with_reducible repeat (first | apply Kd.R_alloc | apply Kd.R_drewN | apply Kd.R_drew)); exact HO_9.out) hb); have n2_ := Aside0.mk (below_step (by repeat (first | (with_reducible first | exact HB.out | apply below_alloc | apply pw_below_drewN | apply below_drew1) | exact HB.out)) hb); clear HO_7; clear HO_9; clear HB; have HO_7 := n0_; have HO_9 := n1_; have HB := n2_; clear n0_ n1_ n2_; (try clear hb); (try clear hb2); (try clear hk); (try clear hi)))
                        go_meet
                        case rel => exact ⟨_, (true), (by first | rfl | (simp; done) | (simp [*]; done)), H', ⟨by have := HJ5.out; have := HJ14.out; first | omega | exact Nat.le_refl _⟩, ⟨by (with_reducible repeat (first | apply Kd.R_alloc | apply Kd.R_drewN | apply Kd.R_drew)); exact Kd.R_mono HO_9.out (fun _ hk => trivial)⟩, ⟨by repeat (first | (with_reducible first | exact HB.out | apply below_alloc | apply pw_below_drewN | apply below_drew1) | exact HB.out)⟩⟩
                      · rw [if_neg c40] at H
                        have c40b0 : (t207 != x16_14) = false := by simpa using c40
                        (try (have c40b1 : decide (t207 = x16_14) = true := by simpa using c40))
                        (try (have c40b2 : (t207 == x16_14) = true := by simpa using c40))
                        clear c40
                        replace H := Option.bind_eq_some_iff.mp H
                        obtain ⟨t208, A440, H⟩ := H
                        replace H : (sumplaw08_NameSplits.j2 kj14 t188 t189 t196 t197 t198 (t208 != (Op.bytesLess a0.toList a1.toList))) = some r := H
                        have A44 := Aside0.mk A440
                        clear A440
                        have H' := Aside0.mk H
                        clear H
                        go_wp2_with (first | ((with_reducible refine gate_callee (f := 7) rfl ?_); refine goesL_ (some 78) rfl rfl Tryd.func7 (by kernel_rfl) rfl #[.string a0] rfl (by (try simp only [List.map_toArray, List.map_cons, List.map_nil]); first | done | rfl | (simp only [List.length_drop, List.length_take]; rfl)) ?_; (with_reducible refine (name_Check.calls kj14 a0 t204 _ A33.out).mono ?_); rintro e w' ⟨rfl, ⟨nd, rfl⟩⟩; refine ⟨_, rfl, ?_⟩) | ((with_reducible refine gate_callee (f := 14) rfl ?_); refine goesL_ (some 80) rfl rfl Tryd.func14 (by kernel_rfl) rfl #[.string a0] rfl (by (try simp only [List.map_toArray, List.map_cons, List.map_nil]); first | done | rfl | (simp only [List.length_drop, List.length_take]; rfl)) ?_; (with_reducible refine (sumpref01_Name.calls kj14 a0 t205 _ A34.out).mono ?_); rintro e w' ⟨rfl, ⟨nd, rfl⟩⟩; refine ⟨_, rfl, ?_⟩; obtain ⟨Ao45, co45, eo45⟩ := Kd.R_slice HO_7.out; subst eo45; obtain ⟨Ao46, co46, eo46⟩ := Kd.R_slice HO_9.out; subst eo46) | (go_at_call 10; (with_reducible refine (sumpref01_SameTexts.calls kj14 _ _ t184 _ _ t188 true _ ?side1 ?side2 ?side3 ?side4 A36.out).mono ?_); (case side1 => repeat (first | exact (Kd.R_reads' HO_7.out).2.2 | (with_reducible refine Kd.C_alloc ?_ _) | (with_reducible refine Kd.C_drewN ?_ _) | (with_reducible refine Kd.C_drew ?_))); (case side2 => exact (Kd.R_reads' HO_7.out).2.1); (case side3 => repeat (first | exact (Kd.R_reads' HO_9.out).2.2 | (with_reducible refine Kd.C_alloc ?_ _) | (with_reducible refine Kd.C_drewN ?_ _) | (with_reducible refine Kd.C_drew ?_))); (case side4 => exact (Kd.R_reads' HO_9.out).2.1); rintro e w' ⟨rfl, ⟨nd, rfl⟩⟩) | (go_at_call 11; (with_reducible refine (name_Under.calls kj14 a1 a2 t207 _ A39.out).mono ?_); rintro e w47 ⟨rfl, hb⟩; have n0_ := Aside0.mk (Kd.R_below (by (with_reducible repeat (first | apply Kd.R_alloc | apply Kd.R_drewN | apply Kd.R_drew)); exact HO_7.out) hb); have n1_ := Aside0.mk (Kd.R_below (by (with_reducible repeat (first | apply Kd.R_alloc | apply Kd.R_drewN | apply Kd.R_drew)); exact HO_9.out) hb); have n2_ := Aside0.mk (below_step (by repeat (first | (with_reducible first | exact HB.out | apply below_alloc | apply pw_below_drewN | apply below_drew1) | exact HB.out)) hb); clear HO_7; clear HO_9; clear HB; have HO_7 := n0_; have HO_9 := n1_; have HB := n2_; clear n0_ n1_ n2_; (try clear hb); (try clear hb2); (try clear hk); (try clear hi)) | (go_at_call 15; (with_reducible refine (name_Less.calls a0 a1 t208 _ A44.out).mono ?_); rintro e w' ⟨rfl, ⟨nd, rfl⟩⟩))
                        go_meet
                        case rel => exact ⟨_, ((t208 != (Op.bytesLess a0.toList a1.toList))), (by first | rfl | (simp; done) | (simp [*]; done)), H', ⟨by have := HJ5.out; have := HJ14.out; first | omega | exact Nat.le_refl _⟩, ⟨by (with_reducible repeat (first | apply Kd.R_alloc | apply Kd.R_drewN | apply Kd.R_drew)); exact Kd.R_mono HO_9.out (fun _ hk => trivial)⟩, ⟨by repeat (first | (with_reducible first | exact HB.out | apply below_alloc | apply pw_below_drewN | apply below_drew1) | exact HB.out)⟩⟩
                    · rw [if_neg c38] at H
                      have c38b0 : (t185 == t189) = false := beq_eq_false_iff_ne.mpr c38
                      have c38b1 : (t185 != t189) = true := bne_iff_ne.mpr c38
                      have H' := Aside0.mk H
                      clear H
                      go_wp2_with (first | ((with_reducible refine gate_callee (f := 7) rfl ?_); refine goesL_ (some 78) rfl rfl Tryd.func7 (by kernel_rfl) rfl #[.string a0] rfl (by (try simp only [List.map_toArray, List.map_cons, List.map_nil]); first | done | rfl | (simp only [List.length_drop, List.length_take]; rfl)) ?_; (with_reducible refine (name_Check.calls kj14 a0 t204 _ A33.out).mono ?_); rintro e w' ⟨rfl, ⟨nd, rfl⟩⟩; refine ⟨_, rfl, ?_⟩) | ((with_reducible refine gate_callee (f := 14) rfl ?_); refine goesL_ (some 80) rfl rfl Tryd.func14 (by kernel_rfl) rfl #[.string a0] rfl (by (try simp only [List.map_toArray, List.map_cons, List.map_nil]); first | done | rfl | (simp only [List.length_drop, List.length_take]; rfl)) ?_; (with_reducible refine (sumpref01_Name.calls kj14 a0 t205 _ A34.out).mono ?_); rintro e w' ⟨rfl, ⟨nd, rfl⟩⟩; refine ⟨_, rfl, ?_⟩; obtain ⟨Ao48, co48, eo48⟩ := Kd.R_slice HO_7.out; subst eo48; obtain ⟨Ao49, co49, eo49⟩ := Kd.R_slice HO_9.out; subst eo49) | (go_at_call 10; (with_reducible refine (sumpref01_SameTexts.calls kj14 _ _ t184 _ _ t188 true _ ?side1 ?side2 ?side3 ?side4 A36.out).mono ?_); (case side1 => repeat (first | exact (Kd.R_reads' HO_7.out).2.2 | (with_reducible refine Kd.C_alloc ?_ _) | (with_reducible refine Kd.C_drewN ?_ _) | (with_reducible refine Kd.C_drew ?_))); (case side2 => exact (Kd.R_reads' HO_7.out).2.1); (case side3 => repeat (first | exact (Kd.R_reads' HO_9.out).2.2 | (with_reducible refine Kd.C_alloc ?_ _) | (with_reducible refine Kd.C_drewN ?_ _) | (with_reducible refine Kd.C_drew ?_))); (case side4 => exact (Kd.R_reads' HO_9.out).2.1); rintro e w' ⟨rfl, ⟨nd, rfl⟩⟩))
                      go_meet
                      case rel => exact ⟨_, (true), (by first | rfl | (simp; done) | (simp [*]; done)), H', ⟨by have := HJ5.out; have := HJ14.out; first | omega | exact Nat.le_refl _⟩, ⟨by (with_reducible repeat (first | apply Kd.R_alloc | apply Kd.R_drewN | apply Kd.R_drew)); exact Kd.R_mono HO_9.out (fun _ hk => trivial)⟩, ⟨by repeat (first | (with_reducible first | exact HB.out | apply below_alloc | apply pw_below_drewN | apply below_drew1) | exact HB.out)⟩⟩
                  · replace c37 := Bool.eq_false_iff.mpr c37
                    subst c37
                    have H1 : (sumplaw08_NameSplits.j2 kj14 t188 t189 t196 t197 t198 true) = some r := by rw [if_neg (show ¬ (false = true) by decide)] at H; exact H
                    clear H
                    have H := H1
                    clear H1
                    have H' := Aside0.mk H
                    clear H
                    go_wp2_with (first | ((with_reducible refine gate_callee (f := 7) rfl ?_); refine goesL_ (some 78) rfl rfl Tryd.func7 (by kernel_rfl) rfl #[.string a0] rfl (by (try simp only [List.map_toArray, List.map_cons, List.map_nil]); first | done | rfl | (simp only [List.length_drop, List.length_take]; rfl)) ?_; (with_reducible refine (name_Check.calls kj14 a0 t204 _ A33.out).mono ?_); rintro e w' ⟨rfl, ⟨nd, rfl⟩⟩; refine ⟨_, rfl, ?_⟩) | ((with_reducible refine gate_callee (f := 14) rfl ?_); refine goesL_ (some 80) rfl rfl Tryd.func14 (by kernel_rfl) rfl #[.string a0] rfl (by (try simp only [List.map_toArray, List.map_cons, List.map_nil]); first | done | rfl | (simp only [List.length_drop, List.length_take]; rfl)) ?_; (with_reducible refine (sumpref01_Name.calls kj14 a0 t205 _ A34.out).mono ?_); rintro e w' ⟨rfl, ⟨nd, rfl⟩⟩; refine ⟨_, rfl, ?_⟩; obtain ⟨Ao50, co50, eo50⟩ := Kd.R_slice HO_7.out; subst eo50; obtain ⟨Ao51, co51, eo51⟩ := Kd.R_slice HO_9.out; subst eo51) | (go_at_call 10; (with_reducible refine (sumpref01_SameTexts.calls kj14 _ _ t184 _ _ t188 false _ ?side1 ?side2 ?side3 ?side4 A36.out).mono ?_); (case side1 => repeat (first | exact (Kd.R_reads' HO_7.out).2.2 | (with_reducible refine Kd.C_alloc ?_ _) | (with_reducible refine Kd.C_drewN ?_ _) | (with_reducible refine Kd.C_drew ?_))); (case side2 => exact (Kd.R_reads' HO_7.out).2.1); (case side3 => repeat (first | exact (Kd.R_reads' HO_9.out).2.2 | (with_reducible refine Kd.C_alloc ?_ _) | (with_reducible refine Kd.C_drewN ?_ _) | (with_reducible refine Kd.C_drew ?_))); (case side4 => exact (Kd.R_reads' HO_9.out).2.1); rintro e w' ⟨rfl, ⟨nd, rfl⟩⟩))
                    go_meet
                    case rel => exact ⟨_, (true), (by first | rfl | (simp; done) | (simp [*]; done)), H', ⟨by have := HJ5.out; have := HJ14.out; first | omega | exact Nat.le_refl _⟩, ⟨by (with_reducible repeat (first | apply Kd.R_alloc | apply Kd.R_drewN | apply Kd.R_drew)); exact Kd.R_mono HO_9.out (fun _ hk => trivial)⟩, ⟨by repeat (first | (with_reducible first | exact HB.out | apply below_alloc | apply pw_below_drewN | apply below_drew1) | exact HB.out)⟩⟩
                · rw [if_neg c35] at H
                  have c35b0 : (t204 == t205) = false := beq_eq_false_iff_ne.mpr c35
                  have c35b1 : (t204 != t205) = true := bne_iff_ne.mpr c35
                  (first | rw [c35b0] | (simp only [i64_w, i32_w]; rw [c35b0]) | skip)
                  have H' := Aside0.mk H
                  clear H
                  go_wp2_with (first | ((with_reducible refine gate_callee (f := 7) rfl ?_); refine goesL_ (some 78) rfl rfl Tryd.func7 (by kernel_rfl) rfl #[.string a0] rfl (by (try simp only [List.map_toArray, List.map_cons, List.map_nil]); first | done | rfl | (simp only [List.length_drop, List.length_take]; rfl)) ?_; (with_reducible refine (name_Check.calls kj14 a0 t204 _ A33.out).mono ?_); rintro e w' ⟨rfl, ⟨nd, rfl⟩⟩; refine ⟨_, rfl, ?_⟩) | ((with_reducible refine gate_callee (f := 14) rfl ?_); refine goesL_ (some 80) rfl rfl Tryd.func14 (by kernel_rfl) rfl #[.string a0] rfl (by (try simp only [List.map_toArray, List.map_cons, List.map_nil]); first | done | rfl | (simp only [List.length_drop, List.length_take]; rfl)) ?_; (with_reducible refine (sumpref01_Name.calls kj14 a0 t205 _ A34.out).mono ?_); rintro e w' ⟨rfl, ⟨nd, rfl⟩⟩; refine ⟨_, rfl, ?_⟩))
                  go_meet
                  case rel => exact ⟨_, (true), (by first | rfl | (simp; done) | (simp [*]; done)), H', ⟨by have := HJ5.out; have := HJ14.out; first | omega | exact Nat.le_refl _⟩, ⟨by (with_reducible repeat (first | apply Kd.R_alloc | apply Kd.R_drewN | apply Kd.R_drew)); exact Kd.R_mono HO_9.out (fun _ hk => trivial)⟩, ⟨by repeat (first | (with_reducible first | exact HB.out | apply below_alloc | apply pw_below_drewN | apply below_drew1) | exact HB.out)⟩⟩
              case rest =>
                clear HC32
                try clear c1
                try clear c2
                try clear p2
                try clear q2
                try clear c3
                try clear c4
                try clear c5
                try clear c6
                try clear c7
                try clear c8
                try clear c8b0
                try clear c8b1
                try clear c9
                try clear c9b0
                try clear c9b1
                try clear c10
                try clear c12
                try clear c13
                try clear c14
                try clear c20
                try clear c20b0
                try clear c20b1
                try clear c21
                try clear c21b0
                try clear c21b1
                try clear c22
                try clear c22b0
                try clear c22b1
                try clear c24
                try clear c24b0
                try clear c24b1
                try clear c25
                try clear c25b0
                try clear c25b1
                try clear q29
                try clear c35
                try clear c35b0
                try clear c35b1
                try clear c37
                try clear c38
                try clear c38b0
                try clear c38b1
                try clear c40
                try clear c40b0
                try clear c40b1
                try clear c40b2
                try clear p2
                try clear q2
                try clear q29
                obtain ⟨kq, x108_31, rfl, HA, HJ31, HO_9, HB⟩ := hcut
                cases kq with
                | zero => exact absurd HA.out (by simp [sumplaw08_NameSplits.j2])
                | succ kj31 =>
                  have H := HA.out
                  clear HA
                  simp only [sumplaw08_NameSplits.j2] at H
                  by_cases c52 : x108_31 = true
                  · subst c52
                    have H1 : (some false) = some r := by rw [if_pos rfl] at H; exact H
                    clear H
                    have H := H1
                    clear H1
                    exact absurd ((Option.some.inj H).trans HT.out) (by simp)
                  · replace c52 := Bool.eq_false_iff.mpr c52
                    subst c52
                    have H1 : (if t189 = 0 then (if (t188.length : Int) = 0 then (if t196.toList = ([] : List UInt8) then (if t197.toList = ([] : List UInt8) then (if t198 = t189 then (some (t198 == 22)) else (some (t198 == 22))) else (some false)) else (some false)) else (if t198 = 0 then (if 0 ≤ (wrap64 ((t188.length : Int) - 1)) then (if (wrap64 ((t188.length : Int) - 1)) < (t188.length : Int) then (if t197.toList = (rdOf ByteArray.empty t188 (wrap64 ((t188.length : Int) - 1))).toList then (if (wrap64 ((t188.length : Int) - 1)) ≤ (t188.length : Int) then ((sumpref01_Join.f kj31 (t188.take ((wrap64 ((t188.length : Int) - 1)) : Int).toNat)).bind fun t214 => (some (t196.toList == t214.toList))) else (none)) else (some false)) else (none)) else (none)) else (some false))) else (if t196.toList = ([] : List UInt8) then (if t197.toList = ([] : List UInt8) then (if t198 = t189 then (some true) else (some false)) else (some false)) else (some false))) = some r := by rw [if_neg (show ¬ (false = true) by decide)] at H; exact H
                    clear H
                    have H := H1
                    clear H1
                    by_cases c53 : t189 = 0
                    · rw [if_pos c53] at H
                      have c53b0 : (t189 == 0) = true := beq_iff_eq.mpr c53
                      have c53b1 : (t189 != 0) = false := bne_eq_false_iff_eq.mpr c53
                      have c53le : Aside0 (t189 ≤ 0) := ⟨Int.le_of_eq c53⟩
                      have c53ge : Aside0 (0 ≤ t189) := ⟨Int.le_of_eq c53.symm⟩
                      clear c53
                      by_cases c54 : (t188.length : Int) = 0
                      · rw [if_pos c54] at H
                        have c54b0 : ((t188.length : Int) == 0) = true := beq_iff_eq.mpr c54
                        have c54b1 : ((t188.length : Int) != 0) = false := bne_eq_false_iff_eq.mpr c54
                        have c54le : Aside0 ((t188.length : Int) ≤ 0) := ⟨Int.le_of_eq c54⟩
                        have c54ge : Aside0 (0 ≤ (t188.length : Int)) := ⟨Int.le_of_eq c54.symm⟩
                        clear c54
                        by_cases c55 : t196.toList = ([] : List UInt8)
                        · rw [if_pos c55] at H
                          have c55b0 : (t196.toList == ([] : List UInt8)) = true := beq_iff_eq.mpr c55
                          have c55b1 : (t196.toList != ([] : List UInt8)) = false := bne_eq_false_iff_eq.mpr c55
                          clear c55
                          by_cases c56 : t197.toList = ([] : List UInt8)
                          · rw [if_pos c56] at H
                            have c56b0 : (t197.toList == ([] : List UInt8)) = true := beq_iff_eq.mpr c56
                            have c56b1 : (t197.toList != ([] : List UInt8)) = false := bne_eq_false_iff_eq.mpr c56
                            clear c56
                            by_cases c57 : t198 = t189
                            · rw [if_pos c57] at H
                              have c57b0 : (t198 == t189) = true := beq_iff_eq.mpr c57
                              have c57b1 : (t198 != t189) = false := bne_eq_false_iff_eq.mpr c57
                              clear c57
                              obtain rfl := Option.some.inj H
                              obtain ⟨Ao58, co58, eo58⟩ := Kd.R_slice HO_9.out
                              subst eo58
                              go_wp2
                              go_ret
                              exact ⟨by first | rfl | (simp [errW_none, errW_some] <;> rfl) | (simp [*, errW_none, errW_some] <;> rfl) | (refine L.ret_bool ?_; rw [Bool.eq_iff_iff]; simp; done) | (refine L.ret_bool ?_; rw [Bool.eq_iff_iff]; simp [*]; done), by repeat (first | (with_reducible first | exact HB.out | apply below_alloc | apply pw_below_drewN | apply below_drew1) | exact HB.out)⟩
                            · rw [if_neg c57] at H
                              have c57b0 : (t198 == t189) = false := beq_eq_false_iff_ne.mpr c57
                              have c57b1 : (t198 != t189) = true := bne_iff_ne.mpr c57
                              obtain rfl := Option.some.inj H
                              obtain ⟨Ao59, co59, eo59⟩ := Kd.R_slice HO_9.out
                              subst eo59
                              go_wp2
                              go_ret
                              exact ⟨by first | rfl | (simp [errW_none, errW_some] <;> rfl) | (simp [*, errW_none, errW_some] <;> rfl) | (refine L.ret_bool ?_; rw [Bool.eq_iff_iff]; simp; done) | (refine L.ret_bool ?_; rw [Bool.eq_iff_iff]; simp [*]; done), by repeat (first | (with_reducible first | exact HB.out | apply below_alloc | apply pw_below_drewN | apply below_drew1) | exact HB.out)⟩
                          · rw [if_neg c56] at H
                            have c56b0 : (t197.toList == ([] : List UInt8)) = false := beq_eq_false_iff_ne.mpr c56
                            have c56b1 : (t197.toList != ([] : List UInt8)) = true := bne_iff_ne.mpr c56
                            exact absurd ((Option.some.inj H).trans HT.out) (by simp)
                        · rw [if_neg c55] at H
                          have c55b0 : (t196.toList == ([] : List UInt8)) = false := beq_eq_false_iff_ne.mpr c55
                          have c55b1 : (t196.toList != ([] : List UInt8)) = true := bne_iff_ne.mpr c55
                          exact absurd ((Option.some.inj H).trans HT.out) (by simp)
                      · rw [if_neg c54] at H
                        have c54b0 : ((t188.length : Int) == 0) = false := beq_eq_false_iff_ne.mpr c54
                        have c54b1 : ((t188.length : Int) != 0) = true := bne_iff_ne.mpr c54
                        have c54b2 : ¬ (t188 = []) := fun h_ => c54 (by rw [h_]; rfl)
                        by_cases c60 : t198 = 0
                        · rw [if_pos c60] at H
                          have c60b0 : (t198 == 0) = true := beq_iff_eq.mpr c60
                          have c60b1 : (t198 != 0) = false := bne_eq_false_iff_eq.mpr c60
                          have c60le : Aside0 (t198 ≤ 0) := ⟨Int.le_of_eq c60⟩
                          have c60ge : Aside0 (0 ≤ t198) := ⟨Int.le_of_eq c60.symm⟩
                          clear c60
                          obtain ⟨ji61, hji61⟩ : ∃ j_ : Int, (wrap64 ((t188.length : Int) - 1)) = j_ := ⟨_, rfl⟩
                          replace H : (if 0 ≤ (ji61) then (if (ji61) < (t188.length : Int) then (if t197.toList = (rdOf ByteArray.empty t188 (ji61)).toList then (if (ji61) ≤ (t188.length : Int) then ((sumpref01_Join.f kj31 (t188.take ((ji61) : Int).toNat)).bind fun t214 => (some (t196.toList == t214.toList))) else (none)) else (some false)) else (none)) else (none)) = some r := by first | (rw [hji61] at H; exact H) | (simp only [hji61] at H ⊢; exact H)
                          have hji61w : (IntKind.i64.wrap ((t188.length : Int) - 1)) = ji61 := (i64_w _).trans hji61
                          by_cases c62 : 0 ≤ (ji61)
                          · rw [if_pos c62] at H
                            have c62b0 : decide (0 ≤ (ji61)) = true := decide_eq_true c62
                            clear c62
                            by_cases c63 : (ji61) < (t188.length : Int)
                            · rw [if_pos c63] at H
                              have c63b0 : decide ((ji61) < (t188.length : Int)) = true := decide_eq_true c63
                              clear c63
                              by_cases c64 : t197.toList = (rdOf ByteArray.empty t188 (ji61)).toList
                              · rw [if_pos c64] at H
                                have c64b0 : (t197.toList == (rdOf ByteArray.empty t188 (ji61)).toList) = true := beq_iff_eq.mpr c64
                                have c64b1 : (t197.toList != (rdOf ByteArray.empty t188 (ji61)).toList) = false := bne_eq_false_iff_eq.mpr c64
                                clear c64
                                have c65b0 := eq_true (of_decide_eq_true (by first | (with_reducible assumption) | assumption) : 0 ≤ (ji61))
                                by_cases c66 : (ji61) ≤ (t188.length : Int)
                                · rw [if_pos c66] at H
                                  have c66b0 := eq_true c66
                                  have c66b1 : decide ((ji61) ≤ (t188.length : Int)) = true := decide_eq_true c66
                                  clear c66
                                  obtain ⟨y210, hy210⟩ : ∃ y_ : List ByteArray, y_ = (t188.take ((ji61) : Int).toNat) := ⟨_, rfl⟩
                                  replace H : ((sumpref01_Join.f kj31 y210).bind fun t214 => (some (t196.toList == t214.toList))) = some r := by first | (rw [hy210]; with_reducible exact H) | (have H2_ := (Option.bind_some _ _).symm.trans H; rw [hy210]; with_reducible exact H2_) | (have H2_ := (Option.bind_some _ _).symm.trans H; with_reducible exact H2_) | with_reducible exact H | (rw [hy210]; exact H) | exact H
                                  have Ny210 := Aside0.mk hy210
                                  clear hy210
                                  replace H := Option.bind_eq_some_iff.mp H
                                  obtain ⟨t214, A670, H⟩ := H
                                  replace H : (some (t196.toList == t214.toList)) = some r := H
                                  have A67 := Aside0.mk A670
                                  clear A670
                                  obtain rfl := Option.some.inj H
                                  obtain ⟨Ao68, co68, eo68⟩ := Kd.R_slice HO_9.out
                                  subst eo68
                                  have p209 : 0 ≤ ((ji61) : Int) := of_decide_eq_true (by first | (with_reducible assumption) | assumption)
                                  have q209 : (ji61) < (t188.length : Int) := of_decide_eq_true (by first | (with_reducible assumption) | assumption)
                                  obtain ⟨ad209, e209, hx209_0⟩ := Kd.at_string (Kd.R_reads' HO_9.out).2.2 (ji61) p209 q209
                                  cases e209
                                  replace p209 := eq_true p209
                                  replace q209 := eq_true q209
                                  have q69 : ((ji61) : Int) ≤ ((t188.length : Int) : Int) := of_decide_eq_true (by first | (with_reducible assumption) | assumption)
                                  obtain ⟨i069, hi069, _, hsz69, _⟩ := info_parts info9
                                  have hroom69 : t188.length ≤ co68 := (Kd.R_reads' HO_9.out).2.1
                                  have hC69 : Kd.C Kd.string _ (some ad209) t188.length t188 := (Kd.R_reads' HO_9.out).2.2
                                  have hcut69 := cut_to (P := Tryd.prog) 22 9 .i64 Tryd.underlying22 hi069 (some ad209) t188.length co68 (ji61) (of_decide_eq_true (by first | (with_reducible assumption) | assumption)) q69 hroom69
                                  have hr69 := Kd.C_take (m := ((ji61) : Int).toNat) hC69 (by omega)
                                  have hy69 : y210.length = ((ji61) : Int).toNat := (by rw [Ny210.out, List.length_take]; omega)
                                  rw [← Ny210.out] at hr69
                                  rw [← hy69] at hcut69
                                  have HR213 := Aside0.mk hr69
                                  have HC213 := Aside0.mk (show y210.length ≤ co68 from by omega)
                                  clear hr69 hC69 hroom69 hi069 hsz69
                                  have KY69 := Aside0.mk hy69
                                  clear hy69
                                  have KL69 := Aside0.mk (show ((ji61) : Int).toNat ≤ t188.length from by omega)
                                  replace q69 := eq_true q69
                                  go_wp2_with (first | (go_at_call 16; (with_reducible refine (sumpref01_Join.calls kj31 _ _ y210 t214 _ ?side1 ?side2 A67.out).mono ?_); (case side1 => repeat (first | exact (by repeat (first | (with_reducible exact HR213.out) | (with_reducible refine Kd.C_alloc ?_ _) | (with_reducible refine Kd.C_drewN ?_ _) | (with_reducible refine Kd.C_drew ?_) | exact HR213.out)) | (with_reducible refine Kd.C_alloc ?_ _) | (with_reducible refine Kd.C_drewN ?_ _) | (with_reducible refine Kd.C_drew ?_))); (case side2 => exact HC213.out); rintro e w' ⟨rfl, ⟨nd, rfl⟩⟩))
                                  go_ret
                                  exact ⟨by first | rfl | (simp [errW_none, errW_some] <;> rfl) | (simp only [← hji61]; first | rfl | (simp [errW_none, errW_some] <;> rfl)) | (simp [*, errW_none, errW_some] <;> rfl) | (refine L.ret_bool ?_; rw [Bool.eq_iff_iff]; simp; done) | (refine L.ret_bool ?_; rw [Bool.eq_iff_iff]; simp [*]; done), by repeat (first | (with_reducible first | exact HB.out | apply below_alloc | apply pw_below_drewN | apply below_drew1) | exact HB.out)⟩
                                · rw [if_neg c66] at H
                                  exact absurd H (by simp)
                              · rw [if_neg c64] at H
                                have c64b0 : (t197.toList == (rdOf ByteArray.empty t188 (ji61)).toList) = false := beq_eq_false_iff_ne.mpr c64
                                have c64b1 : (t197.toList != (rdOf ByteArray.empty t188 (ji61)).toList) = true := bne_iff_ne.mpr c64
                                exact absurd ((Option.some.inj H).trans HT.out) (by simp)
                            · rw [if_neg c63] at H
                              exact absurd H (by simp)
                          · rw [if_neg c62] at H
                            exact absurd H (by simp)
                        · rw [if_neg c60] at H
                          have c60b0 : (t198 == 0) = false := beq_eq_false_iff_ne.mpr c60
                          have c60b1 : (t198 != 0) = true := bne_iff_ne.mpr c60
                          exact absurd ((Option.some.inj H).trans HT.out) (by simp)
                    · rw [if_neg c53] at H
                      have c53b0 : (t189 == 0) = false := beq_eq_false_iff_ne.mpr c53
                      have c53b1 : (t189 != 0) = true := bne_iff_ne.mpr c53
                      by_cases c70 : t196.toList = ([] : List UInt8)
                      · rw [if_pos c70] at H
                        have c70b0 : (t196.toList == ([] : List UInt8)) = true := beq_iff_eq.mpr c70
                        have c70b1 : (t196.toList != ([] : List UInt8)) = false := bne_eq_false_iff_eq.mpr c70
                        clear c70
                        by_cases c71 : t197.toList = ([] : List UInt8)
                        · rw [if_pos c71] at H
                          have c71b0 : (t197.toList == ([] : List UInt8)) = true := beq_iff_eq.mpr c71
                          have c71b1 : (t197.toList != ([] : List UInt8)) = false := bne_eq_false_iff_eq.mpr c71
                          clear c71
                          by_cases c72 : t198 = t189
                          · rw [if_pos c72] at H
                            have c72b0 : (t198 == t189) = true := beq_iff_eq.mpr c72
                            have c72b1 : (t198 != t189) = false := bne_eq_false_iff_eq.mpr c72
                            clear c72
                            obtain rfl := Option.some.inj H
                            go_wp2
                            go_ret
                            exact ⟨by first | rfl | (simp [errW_none, errW_some] <;> rfl) | (simp [*, errW_none, errW_some] <;> rfl) | (refine L.ret_bool ?_; rw [Bool.eq_iff_iff]; simp; done) | (refine L.ret_bool ?_; rw [Bool.eq_iff_iff]; simp [*]; done), by repeat (first | (with_reducible first | exact HB.out | apply below_alloc | apply pw_below_drewN | apply below_drew1) | exact HB.out)⟩
                          · rw [if_neg c72] at H
                            have c72b0 : (t198 == t189) = false := beq_eq_false_iff_ne.mpr c72
                            have c72b1 : (t198 != t189) = true := bne_iff_ne.mpr c72
                            exact absurd ((Option.some.inj H).trans HT.out) (by simp)
                        · rw [if_neg c71] at H
                          have c71b0 : (t197.toList == ([] : List UInt8)) = false := beq_eq_false_iff_ne.mpr c71
                          have c71b1 : (t197.toList != ([] : List UInt8)) = true := bne_iff_ne.mpr c71
                          exact absurd ((Option.some.inj H).trans HT.out) (by simp)
                      · rw [if_neg c70] at H
                        have c70b0 : (t196.toList == ([] : List UInt8)) = false := beq_eq_false_iff_ne.mpr c70
                        have c70b1 : (t196.toList != ([] : List UInt8)) = true := bne_iff_ne.mpr c70
                        exact absurd ((Option.some.inj H).trans HT.out) (by simp)
  · replace c5 := Bool.eq_false_iff.mpr c5
    subst c5
    have H1 : (some false) = some r := by rw [if_neg (show ¬ (false = true) by decide)] at H; exact H
    clear H
    have H := H1
    clear H1
    exact absurd ((Option.some.inj H).trans HT.out) (by simp)

/-- THE ONE PURE STATEMENT of sumplaw08_NameSplits: yours. -/
def sumplaw08_NameSplits.Pure : Prop := ∀ (a0 : ByteArray) (a1 : ByteArray) (a2 : ByteArray), a0.size ≤ 140737488351232 → a1.size ≤ 140737488351232 → a2.size ≤ 140737488351232 → ∃ k, sumplaw08_NameSplits.f k a0 a1 a2 = some true
theorem sumplaw08_NameSplits.walk (P : sumplaw08_NameSplits.Pure) (a0 : ByteArray) (a1 : ByteArray) (a2 : ByteArray) (w : World) (w0 : a0.size ≤ 140737488351232) (w1 : a1.size ≤ 140737488351232) (w2 : a2.size ≤ 140737488351232) :
    Calls Tryd.prog 5 #[.string a0, .string a1, .string a2] w fun e w' => e = .returned (.bool true) ∧ Below w.heap.size w w' := by
  obtain ⟨k, h⟩ := P a0 a1 a2 w0 w1 w2
  refine (sumplaw08_NameSplits.calls k a0 a1 a2 true w h rfl).mono ?_
  rintro e w' ⟨rfl, hd⟩
  exact ⟨rfl, hd⟩

end Go.Proofs.YteoklaofbdfjlaaDoor.PNames
