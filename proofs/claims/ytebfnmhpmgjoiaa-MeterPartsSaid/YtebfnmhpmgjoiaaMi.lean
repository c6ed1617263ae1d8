/- the meter: the law MeterParts. -/
import Derived.Test.YtebfnmhpmgjoiaaMe3
import Derived.BigQuiet
namespace Go.Proofs.Ytebfnmhpmgjoiaa.Fl
open Go.RowKit FT SM Ieee Go.Proofs.YtebfnmhpmgjoiaaW.PrintWords Go.Proofs.YtebfnmhpmgjoiaaW.PrintMore
set_option linter.unusedVariables false
set_option linter.unusedSimpArgs false
def av (op : BinOp) (x y : Nat) (W : World) : Nat := match floatBits op .f64 x y with
  | some v => v
  | none => (Question.nanBits .f64 x y).cut (W.tape W.drawn (.nanBits .f64 x y))
def ak (op : BinOp) (x y : Nat) : Nat := match floatBits op .f64 x y with
  | some _ => 0
  | none => 1
theorem av_is (op : BinOp) (x y : Nat) (W : World) : Is (floatBits op .f64 x y) (av op x y W) := by
  unfold av
  cases h : floatBits op .f64 x y with
  | some v => exact rfl
  | none => exact N_draw _ _ _
theorem quo_run (W0 : World) (x y : Nat) : (binOp .quo 22 (.float .f64 x) (.float .f64 y)).run Try.prog W0 = .ok (.float .f64 (av .quo x y W0)) (W0.drewN (ak .quo x y)) := by
  unfold av ak
  cases h : floatBits .quo .f64 x y with
  | some v => exact run_float_arith W0 .quo 22 .f64 x y v h
  | none =>
    have h' : FloatKind.f64.format.div x y = none := h
    simp [binOp, Op.floatArith, h', Question.forced]
    rfl
theorem add_run (W0 : World) (x y : Nat) : (binOp .add 22 (.float .f64 x) (.float .f64 y)).run Try.prog W0 = .ok (.float .f64 (av .add x y W0)) (W0.drewN (ak .add x y)) := by
  unfold av ak
  cases h : floatBits .add .f64 x y with
  | some v => exact run_float_arith W0 .add 22 .f64 x y v h
  | none =>
    have h' : FloatKind.f64.format.add x y = none := h
    simp [binOp, Op.floatArith, h', Question.forced]
    rfl
set_option maxHeartbeats 4000000 in
set_option maxRecDepth 100000 in
theorem parts_no (A : Option Addr) (n c : Nat) (num den : Int) (w : World) (h : ¬ n ≤ 40) : Calls Try.prog 9 #[.slice A n c, .int .i64 num, .int .i64 den] w fun e w' => e = .returned (.bool true) ∧ Below w.heap.size w w' := by
  have F1 := hid (fun W => few3_calls A n c false W (decide_eq_false (by omega)))
  clear h
  go_enter Try.func9, Try.ntmps9
  go_wp2_with (first
    | (go_at_call 27; with_reducible refine (awake3_calls _).mono ?_; rintro e w1 ⟨rfl, h1⟩; have H1 := hid h1; clear h1)
    | (go_at_call 28; with_reducible refine (F1.out _).mono ?_; rintro e w2 ⟨rfl, rfl⟩))
  go_ret
  exact ⟨rfl, H1.out⟩
set_option maxHeartbeats 4000000 in
set_option maxRecDepth 100000 in
theorem parts_nil (A : Option Addr) (c : Nat) (num den : Int) (w : World) : Calls Try.prog 9 #[.slice A 0 c, .int .i64 num, .int .i64 den] w fun e w' => e = .returned (.bool true) ∧ Below w.heap.size w w' := by
  have F1 := hid (fun W => few3_calls A 0 c true W (by decide))
  have hvn : ∀ W, Vw W A [] := fun W => ⟨fun ad _ j x hj => (by cases hj), fun _ => rfl⟩
  have CS : Hid (∀ W, Calls Try.prog 37 #[.slice A 0 c] W fun e w' => ∃ s, e = .returned (.float .f64 s) ∧ Is (FS []) s ∧ Below W.heap.size W w') := hid fun W => sum_calls A [] c W (hvn W) (by decide)
  have CR : Hid (∀ W, Calls Try.prog 38 #[.slice A 0 c] W fun e w' => ∃ s, e = .returned (.float .f64 s) ∧ Is (FS []) s ∧ Below W.heap.size W w') := hid fun W => rsum_calls A [] c W (hvn W) (by decide)
  have C2 : Hid (∀ W, Calls Try.prog 22 #[.slice A 0 c] W fun e w' => e = .returned (.slice none 0 0) ∧ W = w') := hid fun W => sorted_nil A c W
  have CM : Hid (∀ W, Calls Try.prog 35 #[.slice A 0 c] W fun e w' => e = .returned (.tuple #[.float .f64 0, .bool false]) ∧ w' = W) := hid fun W => mean_nil A c W
  have CD : Hid (∀ W, Calls Try.prog 36 #[.slice A 0 c] W fun e w' => e = .returned (.tuple #[.float .f64 0, .bool false]) ∧ w' = W) := hid fun W => median_nil A c W
  have CQ : Hid (∀ W, Calls Try.prog 31 #[.slice A 0 c, .int .i64 num, .int .i64 den] W fun e w' => e = .returned (.tuple #[.float .f64 0, .bool false]) ∧ w' = W) := hid fun W => quant_no A 0 c num den W (by unfold mayq; simp)
  have z1 : (FloatKind.f64.format.order 0 0 == some .eq) = true := by decide +kernel
  have z2 : (FloatKind.f64.format.order 0 0 != some .eq) = false := by decide +kernel
  clear hvn
  go_enter Try.func9, Try.ntmps9
  go_wp2_with (first
    | (go_at_call 27; with_reducible refine (awake3_calls _).mono ?_; rintro e wA ⟨rfl, h1⟩; have H1 := hid h1; clear h1)
    | (go_at_call 28; with_reducible refine (F1.out _).mono ?_; rintro e w2 ⟨rfl, rfl⟩)
    | (go_at_call 22; with_reducible refine (C2.out _).mono ?_; rintro e w2 ⟨rfl, rfl⟩)
    | (go_at_call 35; with_reducible refine (CM.out _).mono ?_; rintro e w2 ⟨rfl, e2⟩; subst e2)
    | (go_at_call 36; with_reducible refine (CD.out _).mono ?_; rintro e w2 ⟨rfl, e2⟩; subst e2)
    | (go_at_call 31; with_reducible refine (CQ.out _).mono ?_; rintro e w2 ⟨rfl, e2⟩; subst e2)
    | (go_at_call 37; with_reducible refine (CS.out _).mono ?_; rintro e wS ⟨s, rfl, h1, h2⟩; have HS := hid h1; have HBS := hid h2; clear h1 h2)
    | (go_at_call 38; with_reducible refine (CR.out _).mono ?_; rintro e wR ⟨s2, rfl, h1, h2⟩; have HR := hid h1; have HBR := hid h2; clear h1 h2)
    | (go_at_call 16; with_reducible refine (rsame_calls s s2 true _ (HS.out.same HR.out)).mono ?_; rintro e w2 ⟨rfl, rfl⟩))
  have HB := hid (L.bel (L.bel H1.out HBS.out) HBR.out)
  go_upto_region 15 with fail
  go_quiet (fail)
  go_wp2
  go_ret
  exact ⟨rfl, by first | exact HB.out | exact below_drewN HB.out _ | exact below_drew HB.out⟩
structure SP (A : Option Addr) (l : List Nat) (w : World) (ad : Addr) (L : List Nat) (i1 i2 i3 x1 x2 x3 : Nat) (W : World) : Prop where
  vl : Vw W A l
  vL : Vw W (some ad) L
  e1 : L[i1]? = some x1
  e2 : L[i2]? = some x2
  e3 : L[i3]? = some x3
  perm : L.Perm l
  sd : Sd less L
  bel : Below w.heap.size w W
theorem SP.below {A : Option Addr} {l : List Nat} {w : World} {ad : Addr} {L : List Nat} {i1 i2 i3 x1 x2 x3 : Nat} {W W' : World} (h : SP A l w ad L i1 i2 i3 x1 x2 x3 W) (hb : Below W.heap.size W W') : SP A l w ad L i1 i2 i3 x1 x2 x3 W' :=
  ⟨h.vl.below hb, h.vL.below hb, h.e1, h.e2, h.e3, h.perm, h.sd, h.bel.trans (hb.mono h.bel.size)⟩
theorem SP.cells {A : Option Addr} {l : List Nat} {w : World} {ad : Addr} {L : List Nat} {i1 i2 i3 x1 x2 x3 : Nat} {W : World} (h : SP A l w ad L i1 i2 i3 x1 x2 x3 W) : W.cell? (ad.add i1) = some (.float .f64 x1) ∧ W.cell? (ad.add i2) = some (.float .f64 x2) ∧ W.cell? (ad.add i3) = some (.float .f64 x3) :=
  ⟨h.vL.at' ad rfl _ _ h.e1, h.vL.at' ad rfl _ _ h.e2, h.vL.at' ad rfl _ _ h.e3⟩
theorem same_at {M L l : List Nat} (hM : M.Perm l) (hL : L.Perm l) (sM : Sd less M) (sL : Sd less L) {i a b : Nat} (ha : M[i]? = some a) (hb : L[i]? = some b) : same a b = true := by
  obtain ⟨hi, rfl⟩ := List.getElem?_eq_some_iff.1 ha
  obtain ⟨hj, rfl⟩ := List.getElem?_eq_some_iff.1 hb
  have hs := sorted_same less_SW M L (hM.trans hL.symm) sM sL i hi hj
  exact same_of hs.1 hs.2
def MD (l : List Nat) (md : Nat) : Prop := (l.length % 2 = 1 → ∃ M, M.Perm l ∧ Sd less M ∧ M[l.length / 2]? = some md) ∧ (l.length % 2 = 0 → ∃ M a b, M.Perm l ∧ Sd less M ∧ M[l.length / 2 - 1]? = some a ∧ M[l.length / 2]? = some b ∧ Is (midv a b) md)
theorem median_calls (A : Option Addr) (l : List Nat) (c : Nat) (w : World) (hv : Vw w A l) (hl : l.length ≤ 40) (h0 : 0 < l.length) : Calls Try.prog 36 #[.slice A l.length c] w fun e w' => ∃ m, e = .returned (.tuple #[.float .f64 m, .bool true]) ∧ MD l m ∧ Below w.heap.size w w' := by
  rcases Nat.mod_two_eq_zero_or_one l.length with h | h
  · refine (median_even A l c w hv hl h0 h).mono ?_
    rintro e w' ⟨M, a, b, m, h1, h2, h3, h4, h5, h6, h7⟩
    exact ⟨m, h1, ⟨fun k => by omega, fun _ => ⟨M, a, b, h2, h3, h4, h5, h6⟩⟩, h7⟩
  · refine (median_odd A l c w hv hl h).mono ?_
    rintro e w' ⟨M, m, h1, h2, h3, h4, h5⟩
    exact ⟨m, h1, ⟨fun _ => ⟨M, h2, h3, h4⟩, fun k => by omega⟩, h5⟩
def QV (l : List Nat) (num den : Int) (z : Bool) (q : Nat) : Prop := z = true → ∃ M, M.Perm l ∧ Sd less M ∧ M[qix l.length num den]? = some q
theorem quant2 (A : Option Addr) (l : List Nat) (c : Nat) (num den : Int) (w : World) (hv : Vw w A l) (hl : l.length ≤ 40) (hm : mayq l.length num den = true) : Calls Try.prog 31 #[.slice A l.length c, .int .i64 num, .int .i64 den] w fun e w' => ∃ q, e = .returned (.tuple #[.float .f64 q, .bool true]) ∧ QV l num den true q ∧ Below w.heap.size w w' := by
  refine (quant_some A l c num den w hv hl hm).mono ?_
  rintro e w' ⟨M, q, h1, h2, h3, h4, h5⟩
  exact ⟨q, h1, fun _ => ⟨M, h2, h3, h4⟩, h5⟩
theorem quant3 (A : Option Addr) (l : List Nat) (c : Nat) (num den : Int) (w : World) (hv : Vw w A l) (hl : l.length ≤ 40) (hm : mayq l.length num den = false) : Calls Try.prog 31 #[.slice A l.length c, .int .i64 num, .int .i64 den] w fun e w' => e = .returned (.tuple #[.float .f64 0, .bool false]) ∧ w' = w := quant_no A l.length c num den w hm
theorem same_mid {l L : List Nat} {md a b q r m : Nat} (hM : MD l md) (hz : l.length % 2 = 0) (hp : L.Perm l) (hs : Sd less L) (ha : L[l.length / 2 - 1]? = some a) (hb : L[l.length / 2]? = some b) (h1 : Is (floatBits .quo .f64 a two) q) (h2 : Is (floatBits .quo .f64 b two) r) (h3 : Is (floatBits .add .f64 q r) m) : same md m = true := by
  obtain ⟨M, a', b', m1, m2, m3, m4, m5⟩ := hM.2 hz
  have e := midv_same (same_at m1 hp m2 hs m3 ha) (same_at m1 hp m2 hs m4 hb)
  rw [e] at m5
  exact m5.same (Is.mid h1 h2 h3)
end Go.Proofs.Ytebfnmhpmgjoiaa.Fl
