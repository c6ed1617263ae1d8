/- sorting floats: the law FloatSorts. -/
import Derived.Test.YtebfnmhpmgjoiaaTe
namespace Go.Proofs.Ytebfnmhpmgjoiaa.Fl
open Go.RowKit FT SM
set_option linter.unusedVariables false
set_option linter.unusedSimpArgs false
theorem few_calls (A : Option Addr) (n c : Nat) (b : Bool) (w : World) (h : decide ((n : Int) ≤ 40) = b) : Calls Try.prog 21 #[.slice A n c] w fun e w' => e = .returned (.bool b) ∧ w = w' := by
  have H := hid h
  clear h
  go_enter Try.func21, Try.ntmps21
  go_wp2
  go_ret
  exact ⟨L.ret_bool H.out, rfl⟩
theorem sorted_nil (A : Option Addr) (c0 : Nat) (w : World) : Calls Try.prog 22 #[.slice A 0 c0] w fun e w' => e = .returned (.slice none 0 0) ∧ w = w' := by
  go_enter Try.func22, Try.ntmps22
  go_wp2
  go_loopg [3, 9] 1 (fun kq v3 v9 w' => v3 = .slice none 0 0 ∧ v9 = .int .i64 0 ∧ w = w')
  case atStart => exact ⟨rfl, rfl, rfl⟩
  case round =>
    obtain ⟨rfl, rfl, hw⟩ := hrel
    go_wp2
    go_ret
    exact ⟨rfl, hw⟩
theorem same_nil (A B : Option Addr) (ca cb : Nat) (w : World) : Calls Try.prog 25 #[.slice A 0 ca, .slice B 0 cb] w fun e w' => e = .returned (.bool true) ∧ w = w' := by
  go_enter Try.func25, Try.ntmps25
  go_wp2
  go_loopg [13] 1 (fun kq v13 w' => v13 = .int .i64 0 ∧ w = w')
  case atStart => exact ⟨rfl, rfl⟩
  case round =>
    obtain ⟨rfl, hw⟩ := hrel
    go_wp2
    go_ret
    exact ⟨rfl, hw⟩
theorem less_first {L : List Nat} (hs : Sd less L) (x y : Nat) (hx : L[0]? = some x) (hy : y ∈ L) : less y x = false := by
  cases L with
  | nil => cases hx
  | cons z T =>
    have : z = x := by simpa using hx
    subst this
    rcases List.mem_cons.1 hy with rfl | h
    · exact less_irr _
    · exact (List.pairwise_cons.1 hs).1 y h
theorem less_last {L : List Nat} (hs : Sd less L) (x y : Nat) (hx : L[L.length - 1]? = some x) (hy : y ∈ L) : less x y = false := by
  rcases List.eq_nil_or_concat L with rfl | ⟨T, z, rfl⟩
  · cases hy
  · rw [List.concat_eq_append] at hs hx hy
    have : z = x := by simpa using hx
    subst this
    rcases List.mem_append.1 hy with h | h
    · exact (List.pairwise_append.1 hs).2.2 y h z (by simp)
    · obtain rfl : y = z := by simpa using h
      exact less_irr _
theorem same_of {x y : Nat} (h1 : less x y = false) (h2 : less y x = false) : same x y = true := by unfold same; rw [h1, h2]; rfl
set_option maxHeartbeats 4000000 in
theorem sorts_many (A : Option Addr) (n c : Nat) (w : World) (h : decide ((n : Int) ≤ 40) = false) : Calls Try.prog 6 #[.slice A n c] w fun e w' => e = .returned (.bool true) ∧ Below w.heap.size w w' := by
  have H := hid h
  clear h
  go_enter Try.func6, Try.ntmps6
  go_wp2_with (first
    | (go_at_call 10; with_reducible refine (awake_calls _).mono ?_; rintro e w1 ⟨rfl, rfl⟩)
    | (go_at_call 21; with_reducible refine (few_calls A n c _ _ H.out).mono ?_; rintro e w1 ⟨rfl, rfl⟩))
  go_ret
  exact ⟨rfl, Below.refl _ _⟩
set_option maxHeartbeats 4000000 in
theorem sorts_nil (A : Option Addr) (c : Nat) (w : World) : Calls Try.prog 6 #[.slice A 0 c] w fun e w' => e = .returned (.bool true) ∧ Below w.heap.size w w' := by
  have z1 : (FloatKind.f64.format.order 0 0 == some .eq) = true := by decide +kernel
  go_enter Try.func6, Try.ntmps6
  go_wp2_with (first
    | (go_at_call 10; with_reducible refine (awake_calls _).mono ?_; rintro e w1 ⟨rfl, rfl⟩)
    | (go_at_call 21; with_reducible refine (few_calls A 0 c true _ (by decide)).mono ?_; rintro e w1 ⟨rfl, rfl⟩)
    | (go_at_call 22; with_reducible refine (sorted_nil A c _).mono ?_; rintro e w1 ⟨rfl, rfl⟩)
    | (go_at_call 23; with_reducible refine (min_nil A c _).mono ?_; rintro e w1 ⟨rfl, e1⟩; subst e1)
    | (go_at_call 24; with_reducible refine (max_nil A c _).mono ?_; rintro e w1 ⟨rfl, e1⟩; subst e1)
    | (go_at_call 26; with_reducible refine (sort_nil A c _).mono ?_; rintro e w1 ⟨A', c', rfl, h1⟩; have H1 := hid h1; clear h1)
    | (go_at_call 25; with_reducible refine (same_nil A' none c' 0 _).mono ?_; rintro e w2 ⟨rfl, rfl⟩))
  go_ret
  exact ⟨rfl, H1.out⟩
theorem sorted_some (ad : Addr) (l : List Nat) (c0 : Nat) (w : World) (hv : At w ad l) (h0 : 0 < l.length) (hl : l.length ≤ 1000) : Calls Try.prog 22 #[.slice (some ad) l.length c0] w fun e w' => ∃ a c L, e = .returned (.slice (some a) l.length c) ∧ At w' a L ∧ L.length = l.length ∧ L.Perm l ∧ Sd less L ∧ Below w.heap.size w w' := by
  refine (sorted_calls ad l c0 w hv hl).mono ?_
  rintro e w' ⟨A, c, L, rfl, h1, h2, h3, h4⟩
  have hL := h2.length_eq
  cases A with
  | none =>
    have := (h1.nil rfl).1
    subst this
    simp at hL
    omega
  | some a => exact ⟨a, c, L, by rw [hL], h1.cells a rfl, hL, h2, h3, h4⟩
theorem ends {wU : World} {a : Addr} {L l : List Nat} {n m1 m2 : Nat} (h : At wU a L) (hn : L.length = n) (h0 : 0 < n) (hp : L.Perm l) (hs : Sd less L) (h1 : m1 ∈ l ∧ ∀ v ∈ l, less v m1 = false) (h2 : m2 ∈ l ∧ ∀ v ∈ l, more v m2 = false) :
    ∃ x0 xl, wU.cell? a = some (.float .f64 x0) ∧ wU.cell? (a.add (n - 1)) = some (.float .f64 xl) ∧ same m1 x0 = true ∧ same m2 xl = true := by
  obtain ⟨x0, e0⟩ : ∃ x, L[0]? = some x := ⟨_, List.getElem?_eq_getElem (by omega)⟩
  obtain ⟨xl, el⟩ : ∃ x, L[L.length - 1]? = some x := ⟨_, List.getElem?_eq_getElem (by omega)⟩
  have c0 := h 0 x0 e0
  rw [show a.add 0 = a by cases a; rfl] at c0
  have cl := h _ xl el
  rw [hn] at cl
  refine ⟨x0, xl, c0, cl, same_of ?_ ?_, same_of ?_ ?_⟩
  · exact less_first hs x0 m1 e0 (hp.mem_iff.2 h1.1)
  · exact h1.2 x0 (hp.mem_iff.1 (List.mem_of_getElem? e0))
  · exact h2.2 xl (hp.mem_iff.1 (List.mem_of_getElem? el))
  · exact less_last hs xl m2 el (hp.mem_iff.2 h2.1)
theorem fin_same {wS wT : World} {g n cap cL : Nat} {ad : Addr} {L M Z l : List Nat} (hb : Below wS.heap.size wS wT) (hR : Rw wT g (M ++ Z)) (hA : At wS ad L) (hn : L.length = n) (hM : M.Perm l) (hL : L.Perm l) (sM : Sd less M) (sL : Sd less L) (h1 : n ≤ 1000) :
    Calls Try.prog 25 #[.slice (some ⟨g, 0, none⟩) n cap, .slice (some ad) n cL] wT fun e w' => e = .returned (.bool true) ∧ Below wT.heap.size wT w' := by
  have hl : M.length = L.length := hM.length_eq.trans hL.length_eq.symm
  have := same_floats ⟨g, 0, none⟩ ad M L cap cL wT (At.of_cells (Z := Z) hR) (hA.below hb) hl (by
    intro j x y hx hy
    obtain ⟨j1, rfl⟩ := List.getElem?_eq_some_iff.1 hx
    obtain ⟨j2, rfl⟩ := List.getElem?_eq_some_iff.1 hy
    have := sorted_same less_SW M L (hM.trans hL.symm) sM sL j j1 j2
    exact same_of this.1 this.2) (by omega)
  rw [hl, hn] at this
  exact this
set_option maxHeartbeats 4000000 in
theorem sorts_some (ad : Addr) (l : List Nat) (c : Nat) (w : World) (hv : At w ad l) (h0 : 0 < l.length) (hl : l.length ≤ 40) : Calls Try.prog 6 #[.slice (some ad) l.length c] w fun e w' => e = .returned (.bool true) ∧ Below w.heap.size w w' := by
  obtain ⟨n, hn⟩ : ∃ n, l.length = n := ⟨_, rfl⟩
  have h40 : decide ((n : Int) ≤ 40) = true := decide_eq_true (by omega)
  have HF := hid (few_calls (some ad) n c true w h40)
  have HV := hid hv
  have HN := hid (show l.length = n ∧ 0 < n ∧ n ≤ 40 from ⟨hn, by omega, by omega⟩)
  have HSo := hid (sorted_some ad l c w hv h0 (by omega))
  have HMi := hid (fun W (hb : Below w.heap.size w W) => min_some ad l c W (hv.below hb) h0 (by omega))
  have HMa := hid (fun W (hb : Below w.heap.size w W) => max_some ad l c W (hv.below hb) h0 (by omega))
  have HSr := hid (fun W (hb : Below w.heap.size w W) => sort_some ad l c W (hv.below hb) h0 hl)
  rw [hn] at HSo HMi HMa HSr
  have p1 : decide ((0 : Int) < (n : Int)) = true := decide_eq_true (by omega)
  have p1n : decide (0 < n) = true := decide_eq_true (by omega)
  have p2 : (0 : Int) < (n : Int) := by omega
  have pl : n ≤ 1000 := by omega
  have p0 : 0 < n := by omega
  obtain ⟨NI, hNI⟩ : ∃ NI : Int, (n : Int) - 1 = NI := ⟨_, rfl⟩
  have q1 : wrap64 ((n : Int) - 1) = NI := by rw [wrap_small _ (by omega) (by omega)]; exact hNI
  have q1' : IntKind.i64.wrap ((n : Int) - 1) = NI := (wrap_i64_is _).trans q1
  have q2 : NI.toNat = n - 1 := by omega
  have q3 : 0 ≤ NI := by omega
  have q4 : NI < (n : Int) := by omega
  have HR : Hid (Below w.heap.size w w) := hid (Below.refl _ _)
  rw [hn]
  clear hv h0 hl hn h40 hNI
  go_enter Try.func6, Try.ntmps6
  go_wp2_with (first
    | (go_at_call 10; with_reducible refine (awake_calls _).mono ?_; rintro e w1 ⟨rfl, rfl⟩)
    | (go_at_call 21; with_reducible refine HF.out.mono ?_; rintro e w1 ⟨rfl, rfl⟩)
    | (go_at_call 22; with_reducible refine HSo.out.mono ?_; rintro e wS ⟨a, cL, L, rfl, h1, hLn, h2, h3, h4⟩; have HO := hid h1; have HP := hid h2; have HD := hid h3; have HBS := hid h4; have HLn := hid hLn; clear h1 h2 h3 h4 hLn)
    | (go_at_call 23; with_reducible refine (HMi.out _ HBS.out).mono ?_; rintro e w1 ⟨m1, rfl, e1, g1, g2⟩; subst e1; have HM1 := hid (And.intro g1 g2); clear g1 g2)
    | (go_at_call 24; with_reducible refine (HMa.out _ HBS.out).mono ?_; rintro e w1 ⟨m2, rfl, e1, g1, g2⟩; subst e1; have HM2 := hid (And.intro g1 g2); clear g1 g2)
    | (go_at_call 26; with_reducible refine (HSr.out _ HBS.out).mono ?_; rintro e wT ⟨g, cap, Z, M, rfl, h1, h2, h3, h4⟩; have HRW := hid h1; have HPM := hid h2; have HSM := hid h3; have HBT := hid h4; clear h1 h2 h3 h4)
    | (go_at_call 25; go_loud (with_reducible refine (fin_same HBT.out HRW.out HO.out HLn.out HPM.out HP.out HSM.out HD.out (Nat.le_trans HN.out.2.2 (by decide))).mono ?_; rintro e wU ⟨rfl, h1⟩; have HBU := hid h1; clear h1; obtain ⟨x0, xl, k0, kl, s0, s1⟩ := ends (((HO.out).below HBT.out).below HBU.out) HLn.out HN.out.2.1 HP.out HD.out HM1.out HM2.out; have HS0 := hid s0; have HS1 := hid s1; clear s0 s1))
    | (go_at_call 16; with_reducible refine (rsame_calls m1 x0 true _ HS0.out).mono ?_; rintro e w1 ⟨rfl, rfl⟩)
    | (go_at_call 16; with_reducible refine (rsame_calls m2 xl true _ HS1.out).mono ?_; rintro e w1 ⟨rfl, rfl⟩))
  go_ret
  exact ⟨rfl, HBS.out.trans ((HBT.out.trans (HBU.out.mono HBT.out.size)).mono HBS.out.size)⟩
/-- FloatSorts: true, whatever the row. -/
theorem sorts_walk (A : Option Addr) (l : List Nat) (c : Nat) (w : World) (hc : ∀ ad, A = some ad → At w ad l) (hn : A = none → l = []) : Calls Try.prog 6 #[.slice A l.length c] w fun e w' => e = .returned (.bool true) ∧ Below w.heap.size w w' := by
  by_cases h1 : l.length ≤ 40
  · by_cases h0 : l.length = 0
    · rw [h0]; exact sorts_nil A c w
    · cases A with
      | none => exact absurd (hn rfl) (by rintro rfl; exact h0 rfl)
      | some ad => exact sorts_some ad l c w (hc ad rfl) (by omega) h1
  · exact sorts_many A l.length c w (decide_eq_false (by omega))
end Go.Proofs.Ytebfnmhpmgjoiaa.Fl
