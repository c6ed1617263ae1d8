/- the meter: awake; Sum, Mean, Median, Quantile. -/
import Derived.Test.YtebfnmhpmgjoiaaMc
import Derived.Test.YtebfnmhpmgjoiaaFe
namespace Go.Proofs.Ytebfnmhpmgjoiaa.Fl
open Go.RowKit FT SM Ieee Go.Proofs.YtebfnmhpmgjoiaaW.PrintWords Go.Proofs.YtebfnmhpmgjoiaaW.PrintMore
set_option linter.unusedVariables false
set_option linter.unusedSimpArgs false
theorem blk_new2 (w : World) (o1 o2 : Obj) : ((w.alloc o1).alloc o2).heap[w.heap.size + 1]? = some o2 := by
  have h := blk_new (w.alloc o1) o2
  rw [sz_new] at h
  exact h
theorem blk_keep {w w' : World} {g : Nat} {o : Obj} (h : w.heap[g]? = some o) (hb : Below w.heap.size w w') : w'.heap[g]? = some o := by
  rw [hb.block g (Array.getElem?_eq_some_iff.1 h).1, h]
theorem aw_boxes (W : World) (a b : Nat) (h1 : W.heap[a]? = some (.cells #[.float .f64 4607182418800017408, .float .f64 4611686018427387904, .float .f64 4613937818241073152] 22 (0, 0))) (h2 : W.heap[b]? = some (.cells #[.float .f64 4611686018427387904] 22 (0, 0))) : Calls Try.prog 29 #[.slice (some ⟨a, 0, none⟩) 3 3, .slice (some ⟨b, 0, none⟩) 1 1] W fun e w' => ∃ g, e = .returned (.slice (some ⟨g, 0, none⟩) 2 2) ∧ Ri w' g 3 [1, 2] ∧ Below W.heap.size W w' := by
  refine (boxes_calls (some ⟨a, 0, none⟩) (some ⟨b, 0, none⟩) [4607182418800017408, 4611686018427387904, 4613937818241073152] [4611686018427387904] 3 1 W ⟨fun ad ha => by injection ha with ha; subst ha; exact At.of_cells (Z := []) h1, fun h => by cases h⟩ ⟨fun ad ha => by injection ha with ha; subst ha; exact At.of_cells (Z := []) h2, fun h => by cases h⟩ (by decide) (by decide)).mono ?_
  rintro e w' ⟨g, M, h1, h2, h3, h4, h5, h6⟩
  have hM : M = [4611686018427387904] := List.perm_singleton.1 h2
  subst hM
  exact ⟨g, h1, by rw [show ([1, 2] : List Int) = cnts ([4611686018427387904].length + 1) (bx [4611686018427387904]) [4607182418800017408, 4611686018427387904, 4613937818241073152] by decide +kernel]; exact h4, h6⟩
set_option maxHeartbeats 4000000 in
theorem awake3_calls (w : World) : Calls Try.prog 27 #[] w fun e w' => e = .returned (.bool true) ∧ Below w.heap.size w w' := by
  have HB0 : Hid (Below w.heap.size w ((w.alloc (.cells #[.float .f64 4607182418800017408, .float .f64 4611686018427387904, .float .f64 4613937818241073152] 22)).alloc (.cells #[.float .f64 4611686018427387904] 22))) := hid (below_alloc (below_alloc (Below.refl _ _) _) _)
  go_enter Try.func27, Try.ntmps27
  go_wp2_with (first
    | (go_at_call 29; (with_reducible refine (aw_boxes _ w.heap.size (w.heap.size + 1) ?h1 ?h2).mono ?_); (case h1 => exact blk_keep (blk_new w _) (below_alloc (Below.refl _ _) _)); (case h2 => exact blk_new2 w _ _); rintro e1 wB ⟨g, rfl, h1, h2⟩; have H1 := hid h1; have H2 := hid h2; clear h1 h2)
    | (go_at_call 32; (with_reducible refine (same_ints g wB.heap.size [1, 2] 2 2 2 _ ?h1 ?h2 rfl (by decide)).mono ?_); (case h1 => exact H1.out.below (below_alloc (Below.refl _ _) _)); (case h2 => exact blk_new wB _); rintro e1 wC ⟨rfl, h1⟩; have H3 := hid h1; clear h1))
  go_ret
  exact ⟨rfl, L.bel (L.bel (L.bel HB0.out H2.out) (below_alloc (Below.refl _ _) _)) H3.out⟩
/-- The number, or a NaN. -/
def Is (o : Option Nat) (s : Nat) : Prop := match o with
  | some v => s = v
  | none => N s = true
theorem Is.same {o : Option Nat} {a b : Nat} (h : Is o a) (k : Is o b) : same a b = true := by
  cases o with
  | some v =>
    have h' : a = v := h
    have k' : b = v := k
    rw [h', k']; exact same_refl _
  | none =>
    have h' : N a = true := h
    have k' : N b = true := k
    show (!less a b && !less b a) = true
    rw [less_nan a b (.inl h'), less_nan b a (.inl k'), h', k']; rfl
theorem N_draw (t : Nat) (x y : Nat) : N ((Question.nanBits .f64 x y).cut t) = true := by
  have h : (Question.nanBits .f64 x y).cut t = (t % 2) * 2 ^ 63 + 0x7ff0000000000000 + 1 + (t / 2) % (2 ^ 52 - 1) := rfl
  rw [h]
  obtain ⟨a, ha⟩ : ∃ a, t % 2 = a := ⟨_, rfl⟩
  obtain ⟨b, hb⟩ : ∃ b, (t / 2) % (2 ^ 52 - 1) = b := ⟨_, rfl⟩
  have ha2 : a < 2 := by omega
  have hb2 : b < 2 ^ 52 - 1 := by rw [← hb]; exact Nat.mod_lt _ (by decide)
  rw [ha, hb]
  obtain ⟨r, hr⟩ : ∃ r, a * 2 ^ 63 + 0x7ff0000000000000 + 1 + b = r := ⟨_, rfl⟩
  rw [hr]
  have h1 : 2047 * 2 ^ 52 < r % 2 ^ 63 := by omega
  unfold N Format.read
  rw [lp, bin, inf, sw]
  dsimp only
  rw [if_neg (by omega), if_neg (by omega), if_neg (by omega)]
  rfl
/-- A sum or a quotient of any two floats: what it is, and the world behind it. -/
theorem arith_of (op : BinOp) (hop : op = .quo ∨ op = .add) (t : TypeId) (x y : Nat) : ∃ (v : World → Nat) (k : Nat), (∀ W0 : World, (binOp op t (.float .f64 x) (.float .f64 y)).run Try.prog W0 = .ok (.float .f64 (v W0)) (W0.drewN k)) ∧ ∀ W0, Is (floatBits op .f64 x y) (v W0) := by
  cases h : floatBits op .f64 x y with
  | some v => exact ⟨fun _ => v, 0, fun W0 => run_float_arith W0 op t .f64 x y v h, fun _ => rfl⟩
  | none =>
    refine ⟨fun W0 => (Question.nanBits .f64 x y).cut (W0.tape W0.drawn (.nanBits .f64 x y)), 1, fun W0 => ?_, fun W0 => N_draw _ _ _⟩
    rcases hop with rfl | rfl
    · have h' : FloatKind.f64.format.div x y = none := h
      simp [binOp, Op.floatArith, h', Question.forced]
      rfl
    · have h' : FloatKind.f64.format.add x y = none := h
      simp [binOp, Op.floatArith, h', Question.forced]
      rfl
theorem N_read {x : Nat} (h : N x = true) : ∃ s t, double.read x = .nan s t := by
  unfold N at h
  cases hd : double.read x with
  | nan s t => exact ⟨s, t, rfl⟩
  | infinity s => rw [hd] at h; cases h
  | number s m p => rw [hd] at h; cases h
theorem add_nan {x : Nat} (y : Nat) (h : N x = true) : floatBits .add .f64 x y = none := by
  obtain ⟨s, t, hd⟩ := N_read h
  show double.add x y = none
  unfold Format.add
  rw [hd]
  rfl
theorem add_nan' {x : Nat} (y : Nat) (h : N x = true) : floatBits .add .f64 y x = none := by
  obtain ⟨s, t, hd⟩ := N_read h
  show double.add y x = none
  unfold Format.add
  rw [hd]
  cases double.read y <;> rfl
theorem quo_nan {x : Nat} (y : Nat) (h : N x = true) : floatBits .quo .f64 x y = none := by
  obtain ⟨s, t, hd⟩ := N_read h
  show double.div x y = none
  unfold Format.div
  rw [hd]
  rfl
theorem Is.add {o : Option Nat} {s r y : Nat} (h : Is o s) (k : Is (floatBits .add .f64 s y) r) : Is (o.bind fun v => floatBits .add .f64 v y) r := by
  cases o with
  | some v =>
    have h' : s = v := h
    subst h'; exact k
  | none => rw [add_nan y h] at k; exact k
theorem Is.quo {o : Option Nat} {s r y : Nat} (h : Is o s) (k : Is (floatBits .quo .f64 s y) r) : Is (o.bind fun v => floatBits .quo .f64 v y) r := by
  cases o with
  | some v =>
    have h' : s = v := h
    subst h'; exact k
  | none => rw [quo_nan y h] at k; exact k
/-- The sum, one by one. -/
def FS (l : List Nat) : Option Nat := l.foldl (fun o x => o.bind fun v => floatBits .add .f64 v x) (some 0)
theorem FS_step (l : List Nat) (i x : Nat) (h : l[i]? = some x) : FS (l.take (i + 1)) = (FS (l.take i)).bind fun v => floatBits .add .f64 v x := by
  unfold FS
  rw [List.take_add_one, h]
  simp
theorem below_drewN {B : Nat} {w0 w : World} (h : Below B w0 w) (n : Nat) : Below B w0 (w.drewN n) := ⟨h.os, h.tape, h.output, h.size, h.block⟩
set_option maxHeartbeats 4000000 in
theorem sum_calls (A : Option Addr) (l : List Nat) (c : Nat) (w : World) (hv : Vw w A l) (hl : l.length ≤ 1000000) : Calls Try.prog 37 #[.slice A l.length c] w fun e w' => ∃ s, e = .returned (.float .f64 s) ∧ Is (FS l) s ∧ Below w.heap.size w w' := by
  obtain ⟨n, hn⟩ : ∃ n, l.length = n := ⟨_, rfl⟩
  have HN := hid (show l.length = n ∧ n ≤ 1000000 from ⟨hn, by omega⟩)
  have HV := hid hv
  rw [hn]
  clear hv hl hn
  go_enter Try.func37, Try.ntmps37
  go_wp2
  go_loopg [3, 8] (n + 1) (fun kq v3 v8 w' => ∃ i s : Nat, v3 = .float .f64 s ∧ v8 = .int .i64 (i : Int) ∧ Hid (i + kq = n + 1 ∧ i ≤ n) ∧ Hid (Is (FS (l.take i)) s) ∧ Hid (Below w.heap.size w w'))
  case atStart => exact ⟨0, 0, rfl, rfl, hid ⟨by omega, by omega⟩, hid rfl, hid (Below.refl _ _)⟩
  case round =>
    obtain ⟨i, s, rfl, rfl, HK, HS, HB⟩ := hrel
    cases gk with
    | zero => exact absurd HK.out.1 (by have := HK.out; omega)
    | succ k1 =>
      obtain ⟨II, hII⟩ : ∃ II : Int, (i : Int) = II := ⟨_, rfl⟩
      rw [hII]
      by_cases ci : i < n
      · have b1 : decide (II < (n : Int)) = true := decide_eq_true (by omega)
        obtain ⟨y, hy⟩ : ∃ y, l[i]? = some y := ⟨_, List.getElem?_eq_getElem (by have := HN.out; omega)⟩
        cases A with
        | none => exact absurd (HV.out.nil rfl) (by rintro rfl; cases hy)
        | some ad =>
          have c1 := (HV.out.below HB.out).at' ad rfl i y hy
          have t1 : II.toNat = i := by omega
          have p1 : 0 ≤ II := by omega
          have p2 : II < (n : Int) := by omega
          have HCI : Hid (i + 1 ≤ n) := hid ci
          have HW1 : Hid (wrap64 (II + 1) = ((i + 1 : Nat) : Int)) := hid (by have := HN.out; rw [wrap_small _ (by omega) (by omega)]; omega)
          obtain ⟨v, kd, hq, hi⟩ := arith_of .add (.inr rfl) 22 s y
          have HF := hid (FS_step l i y hy)
          have HI := hid hi
          clear hy hII ci hi
          go_wp2
          go_roundg k1
          case measure => omega
          case rel => exact ⟨i + 1, _, rfl, congrArg (Value.int .i64) HW1.out, hid ⟨by have := HK.out; omega, HCI.out⟩, hid (by rw [HF.out]; exact HS.out.add (HI.out _)), hid (below_drewN HB.out _)⟩
      · have b1 : decide (II < (n : Int)) = false := decide_eq_false (by omega)
        have HE : Hid (l.take i = l) := hid (List.take_of_length_le (by have := HN.out; have := HK.out; omega))
        rw [HE.out] at HS
        clear hII ci
        go_wp2
        go_ret
        exact ⟨s, rfl, HS.out, HB.out⟩
set_option maxHeartbeats 4000000 in
theorem rsum_calls (A : Option Addr) (l : List Nat) (c : Nat) (w : World) (hv : Vw w A l) (hl : l.length ≤ 1000000) : Calls Try.prog 38 #[.slice A l.length c] w fun e w' => ∃ s, e = .returned (.float .f64 s) ∧ Is (FS l) s ∧ Below w.heap.size w w' := by
  obtain ⟨n, hn⟩ : ∃ n, l.length = n := ⟨_, rfl⟩
  have HN := hid (show l.length = n ∧ n ≤ 1000000 from ⟨hn, by omega⟩)
  have HV := hid hv
  rw [hn]
  clear hv hl hn
  go_enter Try.func38, Try.ntmps38
  go_wp2
  go_loopg [3, 8] (n + 1) (fun kq v3 v8 w' => ∃ i s : Nat, v3 = .float .f64 s ∧ v8 = .int .i64 (i : Int) ∧ Hid (i + kq = n + 1 ∧ i ≤ n) ∧ Hid (Is (FS (l.take i)) s) ∧ Hid (Below w.heap.size w w'))
  case atStart => exact ⟨0, 0, rfl, rfl, hid ⟨by omega, by omega⟩, hid rfl, hid (Below.refl _ _)⟩
  case round =>
    obtain ⟨i, s, rfl, rfl, HK, HS, HB⟩ := hrel
    cases gk with
    | zero => exact absurd HK.out.1 (by have := HK.out; omega)
    | succ k1 =>
      obtain ⟨II, hII⟩ : ∃ II : Int, (i : Int) = II := ⟨_, rfl⟩
      rw [hII]
      by_cases ci : i < n
      · have b1 : decide (II < (n : Int)) = true := decide_eq_true (by omega)
        obtain ⟨y, hy⟩ : ∃ y, l[i]? = some y := ⟨_, List.getElem?_eq_getElem (by have := HN.out; omega)⟩
        cases A with
        | none => exact absurd (HV.out.nil rfl) (by rintro rfl; cases hy)
        | some ad =>
          have c1 := (HV.out.below HB.out).at' ad rfl i y hy
          have t1 : II.toNat = i := by omega
          have p1 : 0 ≤ II := by omega
          have p2 : II < (n : Int) := by omega
          have HCI : Hid (i + 1 ≤ n) := hid ci
          have HW1 : Hid (wrap64 (II + 1) = ((i + 1 : Nat) : Int)) := hid (by have := HN.out; rw [wrap_small _ (by omega) (by omega)]; omega)
          obtain ⟨v, kd, hq, hi⟩ := arith_of .add (.inr rfl) 22 s y
          have HF := hid (FS_step l i y hy)
          have HI := hid hi
          clear hy hII ci hi
          go_wp2
          go_roundg k1
          case measure => omega
          case rel => exact ⟨i + 1, _, rfl, congrArg (Value.int .i64) HW1.out, hid ⟨by have := HK.out; omega, HCI.out⟩, hid (by rw [HF.out]; exact HS.out.add (HI.out _)), hid (below_drewN HB.out _)⟩
      · have b1 : decide (II < (n : Int)) = false := decide_eq_false (by omega)
        have HE : Hid (l.take i = l) := hid (List.take_of_length_le (by have := HN.out; have := HK.out; omega))
        rw [HE.out] at HS
        clear hII ci
        go_wp2
        go_ret
        exact ⟨s, rfl, HS.out, HB.out⟩
end Go.Proofs.Ytebfnmhpmgjoiaa.Fl
