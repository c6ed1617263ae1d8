/- the meter: rows of counts; Count, SameInts. -/
import Derived.Test.YtebfnmhpmgjoiaaMa
namespace Go.Proofs.Ytebfnmhpmgjoiaa.Fl
open Go.RowKit FT SM Go.Proofs.YtebfnmhpmgjoiaaW.PrintWords Go.Proofs.YtebfnmhpmgjoiaaW.PrintMore
set_option linter.unusedVariables false
set_option linter.unusedSimpArgs false
def I (x : Int) : Value := .int .i64 x
/-- The whole numbers d lie in block g. -/
def Ri (w : World) (g t : Nat) (d : List Int) : Prop := w.heap[g]? = some (.cells (d.map I).toArray t (0, 0))
theorem Ri.cell {w : World} {g t : Nat} {d : List Int} (h : Ri w g t d) (j : Nat) (hj : j < d.length) : w.cell? ⟨g, j, none⟩ = some (.int .i64 (d.getD j 0)) := by
  rw [cell_of_row w g j _ _ _ h]
  simp [I, hj, List.getD_eq_getElem?_getD]
theorem Ri.frozen {w : World} {g t : Nat} {d : List Int} (h : Ri w g t d) (j : Nat) : w.frozen? ⟨g, j, none⟩ = false := by
  unfold Ri at h
  simp [World.frozen?, h]
theorem Ri.set {w : World} {g t : Nat} {d : List Int} (h : Ri w g t d) (j : Nat) (v : Int) : Ri (w.setCell ⟨g, j, none⟩ (.int .i64 v)) g t (d.set j v) := by
  unfold Ri at *
  rw [setCell_eq_setRow w g j _ t (0, 0) _ h, setRow_heap w g _ _ t (0, 0) h]
  simp [List.map_set, I]
theorem Ri.move {w w' : World} {g t : Nat} {d : List Int} (h : Ri w g t d) (hk : w'.heap[g]? = w.heap[g]?) : Ri w' g t d := hk.trans h
theorem Ri.lt {w : World} {g t : Nat} {d : List Int} (h : Ri w g t d) : g < w.heap.size := by
  rcases Nat.lt_or_ge g w.heap.size with h1 | h1
  · exact h1
  · unfold Ri at h; rw [Array.getElem?_eq_none h1] at h; cases h
theorem Ri.below {w w' : World} {g t : Nat} {d : List Int} (h : Ri w g t d) (hb : Below w.heap.size w w') : Ri w' g t d := h.move (hb.block g h.lt)
/-- How many fall into each of m boxes. -/
def cnts (m : Nat) (q : Nat → Nat) (l : List Nat) : List Int := (List.range m).map fun k => ((l.countP (fun x => q x == k) : Nat) : Int)
theorem cnts_len (m : Nat) (q : Nat → Nat) (l : List Nat) : (cnts m q l).length = m := by simp [cnts]
theorem cnts_nil (m : Nat) (q : Nat → Nat) : cnts m q [] = List.replicate m 0 := by
  unfold cnts
  apply List.ext_getElem
  · simp
  · intro i h1 h2
    simp
theorem cnts_at (m : Nat) (q : Nat → Nat) (l : List Nat) (k : Nat) (hk : k < m) : (cnts m q l).getD k 0 = ((l.countP (fun x => q x == k) : Nat) : Int) := by
  unfold cnts
  rw [List.getD_eq_getElem?_getD, List.getElem?_map, List.getElem?_range hk]
  rfl
theorem cnts_le (m : Nat) (q : Nat → Nat) (l : List Nat) (k : Nat) (hk : k < m) : 0 ≤ (cnts m q l).getD k 0 ∧ (cnts m q l).getD k 0 ≤ (l.length : Int) := by
  rw [cnts_at m q l k hk]
  have := List.countP_le_length (p := fun x => q x == k) (l := l)
  omega
theorem cnts_get (m : Nat) (q : Nat → Nat) (l : List Nat) (j : Nat) (h : j < (cnts m q l).length) : (cnts m q l)[j] = ((l.countP (fun x => q x == j) : Nat) : Int) := by
  simp [cnts]
theorem below_row {B g : Nat} {w0 w : World} (hb : Below B w0 w) (hg : B ≤ g) (cs : Array Value) : Below B w0 (w.setRow g cs) :=
  ⟨hb.os, hb.tape, hb.output, by simpa using hb.size, fun k hk => (setRow_other w g k cs (by omega)).trans (hb.block k hk)⟩
theorem cnts_step (m : Nat) (q : Nat → Nat) (l : List Nat) (i x k : Nat) (hx : l[i]? = some x) (hk : q x = k) (hm : k < m) : (cnts m q (l.take i)).set k ((cnts m q (l.take i)).getD k 0 + 1) = cnts m q (l.take (i + 1)) := by
  rw [cnts_at m q _ k hm]
  apply List.ext_getElem
  · simp [cnts_len]
  · intro j h1 h2
    have hj : j < m := by rw [cnts_len] at h2; exact h2
    rw [List.getElem_set, cnts_get, cnts_get, countP_step _ l i x hx]
    by_cases e : k = j
    · subst e
      rw [if_pos rfl, hk]
      simp
    · rw [if_neg e, hk]
      simp [e]
def cl (x : Nat) : Nat := (cls x).toNat
theorem cls_bd (x : Nat) : 0 ≤ cls x ∧ cls x < 7 := by
  unfold cls
  repeat' split
  all_goals decide
theorem cl_is (x : Nat) : cls x = ((cl x : Nat) : Int) ∧ cl x < 7 := by
  have := cls_bd x
  unfold cl
  omega
theorem Ri.drewN {w : World} {g t : Nat} {d : List Int} (h : Ri w g t d) (n : Nat) : Ri (w.drewN n) g t d := h
theorem size7 (d : List Int) (h : d.length = 7) : (Try.prog.info? 42).map (·.size) = some ((d.map I).toArray).size := by
  rw [show ((d.map I).toArray).size = 7 by simp [h]]
  kernel_rfl
theorem one7 (d : List Int) : ((d.map I).toArray).all (·.oneCell') = true := by
  simp [I, Value.oneCell']
def Ct (l : List Nat) : List Int := cnts 7 cl l
theorem Ct_len (l : List Nat) : (Ct l).length = 7 := cnts_len _ _ _
theorem Ct_nil : Ct [] = [0, 0, 0, 0, 0, 0, 0] := by rfl
set_option maxHeartbeats 4000000 in
theorem count_calls (A : Option Addr) (l : List Nat) (c : Nat) (w : World) (hv : Vw w A l) (hl : l.length ≤ 1000000) : Calls Try.prog 34 #[.slice A l.length c] w fun e w' => e = .returned (.agg ((Ct l).map I).toArray) ∧ Below w.heap.size w w' := by
  obtain ⟨n, hn⟩ : ∃ n, l.length = n := ⟨_, rfl⟩
  have HN := hid (show l.length = n ∧ n ≤ 1000000 from ⟨hn, by omega⟩)
  have HV := hid hv
  rw [hn]
  clear hv hl hn
  have z0 : Hid (Ri ((w.alloc (.cells #[.int .i64 0, .int .i64 0, .int .i64 0, .int .i64 0, .int .i64 0, .int .i64 0, .int .i64 0] 42)).alloc (.cells #[.int .i64 0, .int .i64 0, .int .i64 0, .int .i64 0, .int .i64 0, .int .i64 0, .int .i64 0] 42)) w.heap.size 42 (Ct [])) := hid (Ri.below (w := w.alloc (.cells #[.int .i64 0, .int .i64 0, .int .i64 0, .int .i64 0, .int .i64 0, .int .i64 0, .int .i64 0] 42)) (blk_new w _) (below_alloc (Below.refl _ _) _))
  have z1 : Hid (Ri ((w.alloc (.cells #[.int .i64 0, .int .i64 0, .int .i64 0, .int .i64 0, .int .i64 0, .int .i64 0, .int .i64 0] 42)).alloc (.cells #[.int .i64 0, .int .i64 0, .int .i64 0, .int .i64 0, .int .i64 0, .int .i64 0, .int .i64 0] 42)) (w.heap.size + 1) 42 (Ct [])) := hid (by
    have h := blk_new (w.alloc (.cells #[.int .i64 0, .int .i64 0, .int .i64 0, .int .i64 0, .int .i64 0, .int .i64 0, .int .i64 0] 42)) (.cells #[.int .i64 0, .int .i64 0, .int .i64 0, .int .i64 0, .int .i64 0, .int .i64 0, .int .i64 0] 42)
    rw [sz_new] at h
    exact h)
  have z2 : Hid (Below w.heap.size w ((w.alloc (.cells #[.int .i64 0, .int .i64 0, .int .i64 0, .int .i64 0, .int .i64 0, .int .i64 0, .int .i64 0] 42)).alloc (.cells #[.int .i64 0, .int .i64 0, .int .i64 0, .int .i64 0, .int .i64 0, .int .i64 0, .int .i64 0] 42))) := hid (below_alloc (below_alloc (Below.refl _ _) _) _)
  go_enter Try.func34, Try.ntmps34
  go_wp2
  go_loopg [8] (n + 1) (fun kq v8 w' => ∃ i : Nat, v8 = .int .i64 (i : Int) ∧ Hid (i + kq = n + 1 ∧ i ≤ n) ∧ Hid (Ri w' w.heap.size 42 (Ct [])) ∧ Hid (Ri w' (w.heap.size + 1) 42 (Ct (l.take i))) ∧ Hid (Below w.heap.size w w'))
  case atStart => exact ⟨0, rfl, hid ⟨by omega, by omega⟩, z0, z1, z2⟩
  case round =>
    obtain ⟨i, rfl, HK, H0, H1, HB⟩ := hrel
    cases gk with
    | zero => exact absurd HK.out.1 (by have := HK.out; omega)
    | succ k1 =>
      obtain ⟨II, hII⟩ : ∃ II : Int, (i : Int) = II := ⟨_, rfl⟩
      rw [hII]
      by_cases ci : i < n
      · have b1 : decide (II < (n : Int)) = true := decide_eq_true (by omega)
        obtain ⟨y, hy⟩ : ∃ y, l[i]? = some y := ⟨_, List.getElem?_eq_getElem (by have := HN.out; omega)⟩
        cases A with
        | none => exact absurd (HV.out.nil rfl) (by rintro rfl; cases hy)
        | some ad =>
          have c1 := (HV.out.below HB.out).at' ad rfl i y hy
          have t1 : II.toNat = i := by omega
          have p1 : 0 ≤ II := by omega
          have p2 : II < (n : Int) := by omega
          have HCI : Hid (i + 1 ≤ n) := hid ci
          have HW1 : Hid (wrap64 (II + 1) = ((i + 1 : Nat) : Int)) := hid (by have := HN.out; rw [wrap_small _ (by omega) (by omega)]; omega)
          obtain ⟨k, hk⟩ : ∃ k, cl y = k := ⟨_, rfl⟩
          have hcl := cl_is y
          rw [hk] at hcl
          obtain ⟨d, hd⟩ : ∃ d, Ct (l.take i) = d := ⟨_, rfl⟩
          have hst : d.set k (d.getD k 0 + 1) = Ct (l.take (i + 1)) := by rw [← hd]; exact cnts_step 7 cl l i y k hy hk hcl.2
          have hle : 0 ≤ d.getD k 0 ∧ d.getD k 0 ≤ (n : Int) := by
            rw [← hd]
            have h1 := cnts_le 7 cl (l.take i) k hcl.2
            have h2 := List.length_take_le' i l
            have := HN.out
            unfold Ct
            omega
          have hlen : d.length = 7 := by rw [← hd]; exact Ct_len _
          rw [hd] at H1
          obtain ⟨q, hq⟩ : ∃ q, d.getD k 0 = q := ⟨_, rfl⟩
          have c2 := H1.out.cell k (by omega)
          have f2 := H1.out.frozen k
          rw [hq] at c2 hst hle
          have HST := hid hst
          have w2 : wrap64 (q + 1) = q + 1 := by have := HN.out; exact wrap_small _ (by omega) (by omega)
          obtain ⟨KI, hKI⟩ : ∃ KI : Int, (k : Int) = KI := ⟨_, rfl⟩
          have hcc : cls y = KI := by rw [← hKI]; exact hcl.1
          have t2 : KI.toNat = k := by omega
          have p3 : 0 ≤ KI := by omega
          have p4 : KI < 7 := by omega
          have hlt := H1.out.lt
          have hne : w.heap.size + 1 ≠ w.heap.size := by omega
          have HCC := hid hcc
          have HD := hid hd
          clear hy hII ci hk hcl hst hle hlen hq hKI hcc hd
          go_wp2_with (first | (go_at_call 13; with_reducible refine (class_calls y _ _ HCC.out).mono ?_; rintro e w1 ⟨rfl, rfl⟩))
          go_roundg k1
          case measure => omega
          case rel => exact ⟨i + 1, congrArg (Value.int .i64) HW1.out, hid ⟨by have := HK.out; omega, HCI.out⟩, hid (H0.out.move (Below.heap_setCell _ _ _ _ (by show w.heap.size ≠ _; simp))), hid (by have h := H1.out.set k (q + 1); rw [HST.out] at h; exact h), hid (HB.out.setCell (by show w.heap.size ≤ _; simp) _)⟩
      · have b1 : decide (II < (n : Int)) = false := decide_eq_false (by omega)
        have HE : Hid (Ct (l.take i) = Ct l) := hid (by rw [List.take_of_length_le (by have := HN.out; have := HK.out; omega)])
        rw [HE.out] at H1
        clear hII ci
        have h6 := size7 (Ct l) (Ct_len l)
        have e1 : Hid (wr.heap[w.heap.size + 1]? = some (.cells ((Ct l).map I).toArray 42 (0, 0))) := hid H1.out
        have e0 : Hid (wr.heap[w.heap.size]? = some (.cells ((Ct []).map I).toArray 42 (0, 0))) := hid H0.out
        go_wp2_with (first | ((with_reducible refine wpList_load_row (o := ⟨some 19, _, _, _, _, _⟩) ?hgd 42 (.tmp 3) ?ho (w.heap.size + 1) ?hx 42 ((Ct l).map I).toArray (0, 0) _ e1.out Try.underlying42 ?hd h6 ?_); (case hgd => rfl); (case ho => rfl); (case hx => rfl); (case hd => rfl)) | ((with_reducible refine wpList_store_row rfl 42 _ _ rfl w.heap.size ((Ct l).map I).toArray ?hx ?hy 42 _ e0.out h6 ?ho ?h1 ?_); (case hx => rfl); (case hy => rfl); (case ho => simp [Ct_len]); (case h1 => exact one7 _)))
        exact bodyPost_ret (v := .agg ((Ct l).map I).toArray) (L.results_c Try.results34 _ _ w.heap.size 42 ((Ct l).map I).toArray (0, 0) _ rfl (setRow_heap _ _ _ _ _ _ H0.out) Try.underlying42 rfl h6) rfl ⟨rfl, below_row HB.out (Nat.le_refl _) _⟩
end Go.Proofs.Ytebfnmhpmgjoiaa.Fl
