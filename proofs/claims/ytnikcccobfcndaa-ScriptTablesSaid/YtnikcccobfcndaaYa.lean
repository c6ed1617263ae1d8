/- scripts: the kinds of plans; rows that are alike. -/
import Derived.Test.YtnikcccobfcndaaPScripty1
import Derived.Test.YtnikcccobfcndaaFc
import Derived.Test.YtnikcccobfcndaaFK
import Derived.Test.YtnikcccobfcndaaL3
namespace Go.Proofs.Ytnikcccobfcndaa.Sc
open Go.RowKit Go.Proofs.YtnikcccobfcndaaW.PrintWords Go.Proofs.YtnikcccobfcndaaW.PrintLast Go.Proofs.YtnikcccobfcndaaW.PrintMore
set_option linter.unusedVariables false
set_option linter.unusedSimpArgs false
structure S30 where
  f0 : Nat
  f1 : Nat
  f2 : Nat
def k30 : Kd S30 := Kd.iso (Kd.pair (FK.kf .f64) (Kd.pair (FK.kf .f64) (FK.kf .f64))) (fun x : S30 => (x.f0, x.f1, x.f2))
structure S32 where
  f0 : Int
  f1 : Int
  f2 : Int
  f3 : S30
def k32 : Kd S32 := Kd.iso (Kd.pair (Kd.int .i64) (Kd.pair (Kd.int .i64) (Kd.pair (Kd.int .i64) k30))) (fun x : S32 => (x.f0, x.f1, x.f2, x.f3))
structure S42 where
  f0 : Int
  f1 : Int
  f2 : Int
  f3 : Int
  f4 : Int
  f5 : ByteArray
  f6 : ByteArray
  f7 : (List Int)
def z42 : S42 := ⟨0, 0, 0, 0, 0, ⟨#[]⟩, ⟨#[]⟩, []⟩
def k42 : Kd S42 := Kd.iso (Kd.pair (Kd.int .i64) (Kd.pair (Kd.int .i64) (Kd.pair (Kd.int .i64) (Kd.pair (Kd.int .i64) (Kd.pair (Kd.int .i64) (Kd.pair Kd.string (Kd.pair Kd.string (Kd.slice 5 (Kd.int .u8))))))))) (fun x : S42 => (x.f0, x.f1, x.f2, x.f3, x.f4, x.f5, x.f6, x.f7))
theorem k42_open {w : World} {x : S42} {cs : List Value} (h : k42.K w x cs) : ∃ A7 c7, cs = [.int .i64 x.f0, .int .i64 x.f1, .int .i64 x.f2, .int .i64 x.f3, .int .i64 x.f4, .string x.f5, .string x.f6, .slice A7 x.f7.length c7] ∧ x.f7.length ≤ c7 ∧ (Kd.int .u8).C w A7 x.f7.length x.f7 := by
  obtain ⟨_, _, rfl, rfl, ⟨_, _, rfl, rfl, ⟨_, _, rfl, rfl, ⟨_, _, rfl, rfl, ⟨_, _, rfl, rfl, ⟨_, _, rfl, rfl, ⟨_, _, rfl, rfl, ⟨A7, c7, rfl, l7, g7⟩⟩⟩⟩⟩⟩⟩⟩ := h
  exact ⟨A7, c7, rfl, l7, g7⟩
structure S46 where
  f0 : Int
  f1 : Int
  f2 : (List Bool)
def z46 : S46 := ⟨0, 0, []⟩
def k46 : Kd S46 := Kd.iso (Kd.pair (Kd.int .i64) (Kd.pair (Kd.int .i64) (Kd.slice 4 Kd.bool))) (fun x : S46 => (x.f0, x.f1, x.f2))
theorem k46_open {w : World} {x : S46} {cs : List Value} (h : k46.K w x cs) : ∃ A2 c2, cs = [.int .i64 x.f0, .int .i64 x.f1, .slice A2 x.f2.length c2] ∧ x.f2.length ≤ c2 ∧ Kd.bool.C w A2 x.f2.length x.f2 := by
  obtain ⟨_, _, rfl, rfl, ⟨_, _, rfl, rfl, ⟨A2, c2, rfl, l2, g2⟩⟩⟩ := h
  exact ⟨A2, c2, rfl, l2, g2⟩
structure S36 where
  f0 : S32
  f1 : (List (List S42))
  f2 : (List S46)
def k36 : Kd S36 := Kd.iso (Kd.pair k32 (Kd.pair (Kd.slice 38 (Kd.slice 42 k42)) (Kd.slice 46 k46))) (fun x : S36 => (x.f0, x.f1, x.f2))
theorem k32_open {w : World} {x : S32} {cs : List Value} (h : k32.K w x cs) : cs = [.int .i64 x.f0, .int .i64 x.f1, .int .i64 x.f2, .float .f64 x.f3.f0, .float .f64 x.f3.f1, .float .f64 x.f3.f2] := by
  obtain ⟨_, _, rfl, rfl, ⟨_, _, rfl, rfl, ⟨_, _, rfl, rfl, ⟨_, _, rfl, h1, ⟨_, _, rfl, h2, h3⟩⟩⟩⟩⟩ := h
  have h1' : _ = [Value.float .f64 x.f3.f0] := h1
  have h2' : _ = [Value.float .f64 x.f3.f1] := h2
  have h3' : _ = [Value.float .f64 x.f3.f2] := h3
  rw [h1', h2', h3']; rfl
theorem k36_open {w : World} {x : S36} {cs : List Value} (h : k36.K w x cs) : ∃ A1 c1 A2 c2, cs = [.int .i64 x.f0.f0, .int .i64 x.f0.f1, .int .i64 x.f0.f2, .float .f64 x.f0.f3.f0, .float .f64 x.f0.f3.f1, .float .f64 x.f0.f3.f2, .slice A1 x.f1.length c1, .slice A2 x.f2.length c2] ∧ x.f1.length ≤ c1 ∧ (Kd.slice 42 k42).C w A1 x.f1.length x.f1 ∧ x.f2.length ≤ c2 ∧ k46.C w A2 x.f2.length x.f2 := by
  obtain ⟨c0, _, rfl, h0, ⟨_, _, rfl, ⟨A1, c1, rfl, l1, g1⟩, ⟨A2, c2, rfl, l2, g2⟩⟩⟩ := h
  rw [k32_open h0]
  exact ⟨A1, c1, A2, c2, rfl, l1, g1, l2, g2⟩
/-! ### rows that are alike, one by one -/
def eqs {α : Type} (c : α → α → Bool) : List α → List α → Bool
  | [], [] => true
  | x :: l, y :: k => c x y && eqs c l k
  | _, _ => false
theorem eqs_len {α : Type} {c : α → α → Bool} : ∀ {l k : List α}, eqs c l k = true → l.length = k.length
  | [], [], _ => rfl
  | _ :: l, _ :: k, h => by
    simp only [eqs, Bool.and_eq_true] at h
    simp [eqs_len h.2]
  | [], _ :: _, h => by simp [eqs] at h
  | _ :: _, [], h => by simp [eqs] at h
theorem eqs_ne {α : Type} {c : α → α → Bool} {l k : List α} (h : l.length ≠ k.length) : eqs c l k = false := by
  cases e : eqs c l k with
  | false => rfl
  | true => exact absurd (eqs_len e) h
theorem eqs_all {α : Type} {c : α → α → Bool} : ∀ {l k : List α}, l.length = k.length → (∀ (j : Nat) (x y : α), l[j]? = some x → k[j]? = some y → c x y = true) → eqs c l k = true
  | [], [], _, _ => rfl
  | x :: l, y :: k, h, g => by
    simp only [eqs, Bool.and_eq_true]
    exact ⟨g 0 x y rfl rfl, eqs_all (by simpa using h) (fun j a b ha hb => g (j + 1) a b (by simpa using ha) (by simpa using hb))⟩
  | [], _ :: _, h, _ => by simp at h
  | _ :: _, [], h, _ => by simp at h
theorem eqs_bad {α : Type} {c : α → α → Bool} : ∀ {l k : List α} (j : Nat) (x y : α), l[j]? = some x → k[j]? = some y → c x y = false → eqs c l k = false
  | [], _, _, _, _, h, _, _ => by simp at h
  | _ :: _, [], _, _, _, _, h, _ => by simp at h
  | a :: l, b :: k, 0, x, y, hx, hy, h => by
    simp at hx hy
    subst hx; subst hy
    simp [eqs, h]
  | a :: l, b :: k, j + 1, x, y, hx, hy, h => by
    have := eqs_bad (c := c) j x y (by simpa using hx) (by simpa using hy) h
    simp [eqs, this]
theorem eqs_refl {α : Type} {c : α → α → Bool} (h : ∀ x, c x x = true) : ∀ l, eqs c l l = true
  | [] => rfl
  | x :: l => by simp [eqs, h x, eqs_refl h l]
theorem eqs_symm {α : Type} {c : α → α → Bool} (h : ∀ x y, c x y = c y x) : ∀ l k, eqs c l k = eqs c k l
  | [], [] => rfl
  | x :: l, y :: k => by simp only [eqs]; rw [h x y, eqs_symm h l k]
  | [], _ :: _ => rfl
  | _ :: _, [] => rfl
/-! ### what is the same -/
def c42 (x y : S42) : Bool := (PScript.call_Same.f x.f0 x.f1 x.f2 x.f3 x.f4 x.f5 x.f6 x.f7 y.f0 y.f1 y.f2 y.f3 y.f4 y.f5 y.f6 y.f7).getD false
theorem c42_is (x y : S42) : PScript.call_Same.f x.f0 x.f1 x.f2 x.f3 x.f4 x.f5 x.f6 x.f7 y.f0 y.f1 y.f2 y.f3 y.f4 y.f5 y.f6 y.f7 = some (c42 x y) := by
  unfold c42 PScript.call_Same.f PScript.bytes_Equal.f
  repeat' split
  all_goals rfl
theorem c42_eq (x y : S42) : c42 x y = (decide (x.f0 = y.f0) && decide (x.f1 = y.f1) && decide (x.f2 = y.f2) && decide (x.f3 = y.f3) && decide (x.f4 = y.f4) && decide (x.f5.toList = y.f5.toList) && decide (x.f6.toList = y.f6.toList) && ((strOfNums x.f7).toList == (strOfNums y.f7).toList)) := by
  unfold c42 PScript.call_Same.f PScript.bytes_Equal.f
  repeat' split
  all_goals simp [*]
theorem c42_refl (x : S42) : c42 x x = true := by rw [c42_eq]; simp
theorem c42_symm (x y : S42) : c42 x y = c42 y x := by
  rw [c42_eq, c42_eq, Bool.eq_iff_iff]
  simp only [Bool.and_eq_true, decide_eq_true_eq, beq_iff_eq]
  constructor <;> (rintro ⟨⟨⟨⟨⟨⟨⟨h1, h2⟩, h3⟩, h4⟩, h5⟩, h6⟩, h7⟩, h8⟩; exact ⟨⟨⟨⟨⟨⟨⟨h1.symm, h2.symm⟩, h3.symm⟩, h4.symm⟩, h5.symm⟩, h6.symm⟩, h7.symm⟩, h8.symm⟩)
def c46 (x y : S46) : Bool := decide (x.f0 = y.f0) && decide (x.f1 = y.f1) && eqs (fun a b : Bool => a == b) x.f2 y.f2
theorem c46_refl (x : S46) : c46 x x = true := by unfold c46; rw [eqs_refl (fun x => beq_self_eq_true x)]; simp
theorem c46_symm (x y : S46) : c46 x y = c46 y x := by
  unfold c46
  rw [eqs_symm (fun a b => by cases a <;> cases b <;> rfl), decide_eq_decide.2 (show x.f0 = y.f0 ↔ y.f0 = x.f0 from ⟨Eq.symm, Eq.symm⟩), decide_eq_decide.2 (show x.f1 = y.f1 ↔ y.f1 = x.f1 from ⟨Eq.symm, Eq.symm⟩)]
def c30 (x y : S30) : Bool := Fl.same x.f0 y.f0 && Fl.same x.f1 y.f1 && Fl.same x.f2 y.f2
def c36 (x y : S36) : Bool := decide (x.f0.f0 = y.f0.f0) && decide (x.f0.f1 = y.f0.f1) && decide (x.f0.f2 = y.f0.f2) && c30 x.f0.f3 y.f0.f3 && eqs (eqs c42) x.f1 y.f1 && eqs c46 x.f2 y.f2
theorem c36_refl (x : S36) : c36 x x = true := by
  unfold c36 c30
  rw [eqs_refl (fun l => eqs_refl c42_refl l), eqs_refl c46_refl, Fl.same_refl, Fl.same_refl, Fl.same_refl]; simp
theorem c36_symm (x y : S36) : c36 x y = c36 y x := by
  unfold c36 c30
  rw [eqs_symm (fun a b => eqs_symm c42_symm a b), eqs_symm c46_symm, Fl.same_symm x.f0.f3.f0, Fl.same_symm x.f0.f3.f1, Fl.same_symm x.f0.f3.f2, decide_eq_decide.2 (show x.f0.f0 = y.f0.f0 ↔ y.f0.f0 = x.f0.f0 from ⟨Eq.symm, Eq.symm⟩), decide_eq_decide.2 (show x.f0.f1 = y.f0.f1 ↔ y.f0.f1 = x.f0.f1 from ⟨Eq.symm, Eq.symm⟩), decide_eq_decide.2 (show x.f0.f2 = y.f0.f2 ↔ y.f0.f2 = x.f0.f2 from ⟨Eq.symm, Eq.symm⟩)]
theorem c36_says {x y : S36} (h : c36 x y = true) : x.f0.f0 = y.f0.f0 ∧ x.f1.length = y.f1.length ∧ x.f2.length = y.f2.length := by
  unfold c36 at h
  simp only [Bool.and_eq_true, decide_eq_true_eq] at h
  exact ⟨h.1.1.1.1.1, eqs_len h.1.2, eqs_len h.2⟩
end Go.Proofs.Ytnikcccobfcndaa.Sc
