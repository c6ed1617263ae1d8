/- slices.Insert at Entry: the fourth road: no room. -/
import Derived.Test.YteoklaofbdfjlaaDj
namespace Go.Proofs.Yteoklaofbdfjlaa.Dc
open Go.RowKit Go.Lib Go.Proofs.YteoklaofbdfjlaaW.PrintWords Go.Proofs.YteoklaofbdfjlaaW.PrintLast Go.Proofs.YteoklaofbdfjlaaW.PrintMore Go.Proofs.Yteoklaofbdfjlaa.PDirs
set_option linter.unusedVariables false
set_option maxHeartbeats 2000000 in
set_option maxRecDepth 100000 in
theorem insert_grow (l : List S49) (x : S49) (i : Nat) (hi : i < l.length) (g c vb vc : Nat) (ok : Nat → Prop) (w0 w : World) (HB : Below w0.heap.size w0 w) (hl : l.length ≤ 1000) (hr : Kd.R k49 49 w w0.heap.size ok (.slice (some ⟨g, 0, none⟩) l.length c) l)
    (hv : w.heap[vb]? = some (.cells (enc x).toArray 49 (0, 0))) (hroom : c < l.length + 1) (hok : ∀ k, w.heap.size ≤ k → ok k) :
    Calls Try.prog 64 #[.slice (some ⟨g, 0, none⟩) l.length c, .int .i64 (i : Int), .slice (some ⟨vb, 0, none⟩) 1 vc] w fun e w' => ∃ v', e = .returned v' ∧ Kd.R k49 49 w' w0.heap.size ok v' (ins l x i) ∧ Below w0.heap.size w0 w' := by
  obtain ⟨cur, hb, hh, h1, h2, h3, h4⟩ : ∃ cur : Array Value, w0.heap.size ≤ g ∧ w.heap[g]? = some (.cells cur 49 (0, 0)) ∧ l.length ≤ c ∧ c ≤ maxLen ∧ cur.size = c * 2 ∧ cur.toList.take (l.length * 2) = FC.E enc l := by
    rcases FC.R_cells F49 hr with ⟨hv, _⟩ | ⟨g', cap', cur, hv, hb, ho, hh, h1, h2, h3, h4⟩
    · exact absurd hv (by simp)
    · have hgc : g = g' ∧ c = cap' := by
        injection hv with ha _ hc
        injection ha with ha
        injection ha with hg
        exact ⟨hg, hc⟩
      obtain ⟨rfl, rfl⟩ := hgc
      exact ⟨cur, hb, hh, h1, h2, h3, h4⟩
  obtain rfl : c = l.length := by omega
  unfold maxLen at h2
  have hEl : (FC.E enc l).length = l.length * 2 := FC.E_len F49.len l
  have hgw : g < w.heap.size := (Array.getElem?_eq_some_iff.1 hh).1
  have hvw : vb < w.heap.size := (Array.getElem?_eq_some_iff.1 hv).1
  have hcs : ∀ j v, (FC.E enc l)[j]? = some v → w.cell? ⟨g, j, none⟩ = some v := fun j v hj => by
    have hjl := (List.getElem?_eq_some_iff.1 hj).1
    rw [← h4, List.getElem?_take, if_pos (by omega)] at hj
    rw [blk_cell hh, ← Array.getElem?_toList]; exact hj
  have hvs : ∀ j v, (enc x)[j]? = some v → w.cell? ⟨vb, j, none⟩ = some v := fun j v hj => by
    rw [blk_cell hv, List.getElem?_toArray]; exact hj
  obtain ⟨i0, hi0, hzz⟩ := Option.map_eq_some_iff.1 clone.info
  simp only [Prod.mk.injEq] at hzz
  obtain ⟨hz0, hzs, hzb⟩ := hzz
  have hkk : (l.length : Int) + 1 - (i : Int) = ((l.length + 1 - i : Nat) : Int) := by omega
  have hold : (Builtin.firstCells i0.size i (.slice (some ⟨g, 0, none⟩) i l.length)).run Try.prog w.drew = .ok ((FC.E enc l).take (i * 2)).toArray w.drew := by
    rw [hzs]
    exact run_firstCells_some w.drew 2 i ⟨g, 0, none⟩ i l.length _ (by rw [List.length_take]; omega) (fun j v hj => by
      rw [add_plain]
      rw [List.getElem?_take] at hj
      split at hj
      · exact hcs j v hj
      · cases hj)
  obtain ⟨G, hG⟩ : ∃ G, G = grownCap w (l.length + 1) l.length 49 := ⟨_, rfl⟩
  have hGn : l.length + 1 ≤ G := by rw [hG]; exact grownCap_ge w _ _ _
  have hG63 : G ≤ maxLen := by rw [hG]; exact grownCap_le_maxLen w (l.length + 1) l.length 49 (by unfold maxLen; omega)
  obtain ⟨ROW, hROW⟩ : ∃ ROW : Array Value, ROW = ((FC.E enc l).take (i * 2)).toArray ++ Builtin.zeroCells zv.cells (l.length + 1 - i) ++ Builtin.zeroCells zv.cells (G - (l.length + 1)) := ⟨_, rfl⟩
  have hrz : ∀ ty, (Builtin.append_ #[40, 3] ty #[.slice (some ⟨g, 0, none⟩) i l.length, .int .i64 ((l.length : Int) + 1 - (i : Int))]).run Try.prog w = .ok (.slice (some ⟨w.heap.size, 0, none⟩) (l.length + 1) G) (w.drew.alloc (.cells ROW 49)) := fun ty => by
    have h := Lib.run_append_grow_zeros w 40 3 ty 49 i0 zv .i64 .i64 Try.underlying40 Try.underlying3 hi0 hz0 (some ⟨g, 0, none⟩) i l.length ((FC.E enc l).take (i * 2)) hold (l.length + 1 - i) (by omega) (by omega) (by omega) (by omega) (by rw [hzb]; omega) (by rw [hzb, show i + (l.length + 1 - i) = l.length + 1 by omega]; exact growslice_fits (by omega) (by omega))
    rw [show i + (l.length + 1 - i) = l.length + 1 by omega, ← hG, ← hROW] at h
    rw [hkk]
    exact h
  have hRs : ROW.size = G * 2 := by
    have z1 := zlen (l.length + 1 - i)
    have z2 := zlen (G - (l.length + 1))
    rw [Array.length_toList] at z1 z2
    rw [hROW, Array.size_append, Array.size_append, z1, z2, List.size_toArray, List.length_take]
    omega
  have hRt : ROW.toList.take (i * 2) = (FC.E enc l).take (i * 2) := by
    rw [hROW, Array.toList_append, Array.toList_append, List.append_assoc]
    rw [List.take_append_of_le_length (by rw [List.length_take]; omega), List.take_of_length_le (by rw [List.length_take]; omega)]
  obtain ⟨W1, hW1⟩ : ∃ W1, W1 = w.drew.alloc (.cells ROW 49) := ⟨_, rfl⟩
  have hWN : W1.heap[w.heap.size]? = some (.cells ROW 49 (0, 0)) := by rw [hW1]; exact heap_alloc_new w.drew _
  have hN : ∀ j, j < (l.length + 1) * 2 → (W1.cell? ⟨w.heap.size, j, none⟩).isSome = true := fun j hj => by
    rw [blk_cell hWN, Array.getElem?_eq_getElem (by omega)]; rfl
  have hNf : ∀ j, W1.frozen? ⟨w.heap.size, j, none⟩ = false := fun j => blk_frozen hWN j
  have hOb : ∀ j v, w.cell? ⟨g, j, none⟩ = some v → W1.cell? ⟨g, j, none⟩ = some v := fun j v h => by rw [hW1, World.cell?_alloc_past (w := w.drew) _ g j hgw]; exact h
  have hOv : ∀ j v, w.cell? ⟨vb, j, none⟩ = some v → W1.cell? ⟨vb, j, none⟩ = some v := fun j v h => by rw [hW1, World.cell?_alloc_past (w := w.drew) _ vb j hvw]; exact h
  have hdl : ((FC.E enc l).drop (i * 2)).length = l.length * 2 - i * 2 := by rw [List.length_drop, hEl]
  have hcpA : ∀ (W : World), (∀ x, W.cell? x = W1.cell? x) → (∀ x, W.frozen? x = W1.frozen? x) → ∀ ty dc, (Builtin.copy_ #[40, 40] ty #[.slice (some ⟨w.heap.size, i * 2, none⟩) (l.length + 1 - i) dc, .slice (some ⟨vb, 0, none⟩) 1 vc]).run Try.prog W = .ok (goInt (Nat.min 1 (l.length + 1 - i))) (W.setCells w.heap.size (i * 2) (enc x)) := fun W hWc hWf ty dc =>
    run_copy_rows W 40 40 ty 49 2 w.heap.size (i * 2) (l.length + 1 - i) dc ⟨vb, 0, none⟩ 1 vc (enc x) Try.underlying40 hsz2 (by rw [enc_len]; simp only [Nat.min_def]; split <;> omega)
      (fun j v hj => by rw [Addr.add_lit, hWc, Nat.zero_add]; exact hOv _ v (hvs j v hj))
      (fun j hj => by rw [enc_len] at hj; rw [hWc]; exact hN _ (by omega)) (fun j hj => by rw [hWf]; exact hNf _) (F49.one x)
  have hcpB : ∀ (W : World), (∀ x_1, W.cell? x_1 = (W1.setCells w.heap.size (i * 2) (enc x)).cell? x_1) → (∀ x_1, W.frozen? x_1 = (W1.setCells w.heap.size (i * 2) (enc x)).frozen? x_1) → ∀ ty dc sc, (Builtin.copy_ #[40, 40] ty #[.slice (some ⟨w.heap.size, (i + 1) * 2, none⟩) (l.length - i) dc, .slice (some ⟨g, i * 2, none⟩) (l.length - i) sc]).run Try.prog W = .ok (goInt (Nat.min (l.length - i) (l.length - i))) (W.setCells w.heap.size ((i + 1) * 2) ((FC.E enc l).drop (i * 2))) := fun W hWc hWf ty dc sc =>
    run_copy_rows W 40 40 ty 49 2 w.heap.size ((i + 1) * 2) (l.length - i) dc ⟨g, i * 2, none⟩ (l.length - i) sc _ Try.underlying40 hsz2 (by rw [hdl]; simp only [Nat.min_def]; split <;> omega)
      (fun j v hj => by
        rw [Addr.add_lit, hWc, World.cell?_setCells_out _ _ _ _ _ (fun h _ => absurd h (by show ¬ g = _; omega))]
        exact hOb _ v (hcs _ v (by rwa [List.getElem?_drop] at hj)))
      (fun j hj => by rw [hdl] at hj; rw [hWc]; exact isSome_setCells _ _ _ _ (fun t ht => hN _ (by rw [enc_len] at ht; omega)) _ (hN _ (by omega)))
      (fun j hj => by rw [hWf, World.frozen?_setCells]; exact hNf _) (fun v hv => FC.E_one' F49.one l v (List.mem_of_mem_drop hv))
  have hfin : Kd.R k49 49 ((((w.alloc (.cells ROW 49)).drew.setCells w.heap.size (i * 2) (enc x)).drew).setCells w.heap.size ((i + 1) * 2) ((FC.E enc l).drop (i * 2))) w0.heap.size ok (.slice (some ⟨w.heap.size, 0, none⟩) (l.length + 1) G) (ins l x i) := by
    rw [← drew_setCells]
    exact Kd.R_drew (row_new x i hi ROW HB.size (hok _ (Nat.le_refl _)) (by rw [hW1] at hWN; exact hWN) hGn hG63 hRs hRt)
  have hbel : Below w0.heap.size w0 ((((w.alloc (.cells ROW 49)).drew.setCells w.heap.size (i * 2) (enc x)).drew).setCells w.heap.size ((i + 1) * 2) ((FC.E enc l).drop (i * 2))) :=
    below_setCells (below_drew (below_setCells (below_drew (below_alloc HB _)) HB.size _ _)) HB.size _ _
  have hG63' := hG63
  unfold maxLen at hG63'
  subst hW1
  have hE1 : ∀ x, ((w.alloc (.cells ROW 49)).drew).cell? x = (w.drew.alloc (.cells ROW 49)).cell? x := fun x => rfl
  have hE2 : ∀ x, ((w.alloc (.cells ROW 49)).drew).frozen? x = (w.drew.alloc (.cells ROW 49)).frozen? x := fun x => rfl
  have hF1 : ∀ y, (((w.alloc (.cells ROW 49)).drew.setCells w.heap.size (i * 2) (enc x)).drew).cell? y = ((w.drew.alloc (.cells ROW 49)).setCells w.heap.size (i * 2) (enc x)).cell? y := fun y => rfl
  have hF2 : ∀ y, (((w.alloc (.cells ROW 49)).drew.setCells w.heap.size (i * 2) (enc x)).drew).frozen? y = ((w.drew.alloc (.cells ROW 49)).setCells w.heap.size (i * 2) (enc x)).frozen? y := fun y => rfl
  have hz2 : ¬ ((i : Int) = (l.length : Int)) := by omega
  have hw1 : IntKind.i64.wrap ((i : Int) + 1) = (i : Int) + 1 := by rw [IntKind.wrap_i64]; omega
  have hb1 : (0 : Int) ≤ (i : Int) + 1 := by omega
  have hin : i ≤ l.length := by omega
  have htn : ((i : Int) + 1).toNat = i + 1 := by omega
  have hGi : ¬ (G = i) := by omega
  have hGim : ¬ (G = i + 1) := by omega
  have hci : ¬ (l.length = i) := by omega
  have hb3 : (i : Int) ≤ (l.length : Int) := by omega
  have HF := Aside0.mk hfin
  have HBl := Aside0.mk hbel
  clear hfin hbel hkk hold hROW hG hRs hRt hG63 hr HB hv h4 hh h3 hEl hdl hcs hvs hN hNf hOb hOv hWN hz0 hzs hzb hok
  go_enter Try.func64, Try.ntmps64
  go_wp2_with (first
    | (at_builtin; refine Lib.wpList_append_run _ rfl _ _ _ _ rfl _ _ rfl rfl _ _ (hrz _) ?_)
    | (at_builtin; refine wpList_copy_runI _ rfl _ _ 40 40 rfl _ _ rfl rfl (hcpA _ hE1 hE2 _ _) ?_))
  go_region_law (refine step_copy_runI rfl _ _ 40 40 rfl (.slice (some ⟨w.heap.size, (i + 1) * 2, none⟩) (l.length - i) (G - (i + 1))) (.slice (some ⟨g, i * 2, none⟩) (l.length - i) (l.length - i)) (by simp [Act.eval, Act.put]) (by simp [Act.eval, Act.put]) (hcpB _ hF1 hF2 3 (G - (i + 1)) (l.length - i)) ?_)
  go_wp2
  go_ret
  exact ⟨_, rfl, HF.out, HBl.out⟩
theorem insert_any (l : List S49) (x : S49) (n : Nat) (A : Option Addr) (c vb vc : Nat) (w0 w : World) (HB : Below w0.heap.size w0 w) (hl : l.length ≤ 1000) (hr : Kd.R k49 49 w w0.heap.size (fun _ => True) (.slice A l.length c) l)
    (hv : w.heap[vb]? = some (.cells (enc x).toArray 49 (0, 0))) (hne : some vb ≠ (Value.slice A l.length c).ownBlock) (hn : n ≤ l.length) :
    Calls Try.prog 64 #[.slice A l.length c, .int .i64 (n : Int), .slice (some ⟨vb, 0, none⟩) 1 vc] w fun e w' => ∃ v', e = .returned v' ∧ Aside0 (Kd.R k49 49 w' w0.heap.size (fun _ => True) v' (ins l x n)) ∧ Aside0 (Below w0.heap.size w0 w') := by
  have h : Calls Try.prog 64 #[.slice A l.length c, .int .i64 (n : Int), .slice (some ⟨vb, 0, none⟩) 1 vc] w fun e w' => ∃ v', e = .returned v' ∧ Kd.R k49 49 w' w0.heap.size (fun _ => True) v' (ins l x n) ∧ Below w0.heap.size w0 w' := by
    rcases Nat.lt_or_ge n l.length with h1 | h1
    · rcases FC.R_cells F49 hr with ⟨_, h0⟩ | ⟨g, cap, cur, hv', _⟩
      · rw [h0] at h1; exact absurd h1 (Nat.not_lt_zero _)
      · injection hv' with ha _ _
        subst ha
        have hne' : vb ≠ g := fun e => hne (by rw [e]; rfl)
        rcases Nat.lt_or_ge c (l.length + 1) with h2 | h2
        · exact insert_grow l x n h1 g c vb vc _ w0 w HB hl hr hv h2 (fun _ _ => trivial)
        · exact insert_room l x n h1 g c vb vc _ w0 w HB hl hr hv hne' h2
    · obtain rfl : n = l.length := by omega
      have e : ins l x l.length = l ++ [x] := by unfold ins; rw [List.take_length, List.drop_length]
      rw [e]
      exact insert_end l x A c vb vc _ w0 w HB hl hr hv (fun _ _ => trivial)
  exact h.mono (fun e w' ⟨v, he, hr, hb⟩ => ⟨v, he, ⟨hr⟩, ⟨hb⟩⟩)
end Go.Proofs.Yteoklaofbdfjlaa.Dc
