/- slices.Insert at Entry: the walk, three roads. -/
import Derived.Test.YteoklaofbdfjlaaDi
import Derived.Deep.RegionLaw
import Derived.Outline
namespace Go.Proofs.Yteoklaofbdfjlaa.Dc
open Go.RowKit Go.Lib Go.Proofs.YteoklaofbdfjlaaW.PrintWords Go.Proofs.YteoklaofbdfjlaaW.PrintLast Go.Proofs.YteoklaofbdfjlaaW.PrintMore Go.Proofs.Yteoklaofbdfjlaa.PDirs
set_option linter.unusedVariables false
theorem box_C {w : World} {vb : Nat} (x : S49) (hv : w.heap[vb]? = some (.cells (enc x).toArray 49 (0, 0))) : Kd.C k49 w (some ⟨vb, 0, none⟩) 1 [x] := by
  refine ⟨rfl, by decide, fun _ => ⟨_, rfl, fun j p hj => ?_⟩⟩
  obtain ⟨rfl, rfl⟩ : j = 0 ∧ p = x := by
    cases j with
    | zero => exact ⟨rfl, (Option.some.inj hj).symm⟩
    | succ j => simp at hj
  refine ⟨enc p, rfl, k49_mk w p, fun q u hq => ?_⟩
  rw [add_plain, Nat.zero_mul, Nat.zero_add, blk_cell hv, ← List.getElem?_toArray] at *
  exact hq
theorem from_run (A : Option Addr) (c n i : Nat) (hi : i ≤ n) (W : World) : (Instr.slice 40 (.slice A n c) (some (.int .i64 (i : Int))) none none).run Try.prog W = .ok (.slice (if c = i then A else A.map (·.add (i * 2))) (n - i) (c - i)) W := by
  obtain ⟨i0, hi0, hzz⟩ := Option.map_eq_some_iff.1 clone.info
  simp only [Prod.mk.injEq] at hzz
  exact cut_from (P := Try.prog) 40 49 .i64 Try.underlying40 hi0 2 hzz.2.1 A n c (i : Int) (by omega) (by omega) W
/-- At the end. -/
theorem insert_end (l : List S49) (x : S49) (A : Option Addr) (c vb vc : Nat) (ok : Nat → Prop) (w0 w : World) (HB : Below w0.heap.size w0 w) (hl : l.length ≤ 1000) (hr : Kd.R k49 49 w w0.heap.size ok (.slice A l.length c) l)
    (hv : w.heap[vb]? = some (.cells (enc x).toArray 49 (0, 0))) (hok : ∀ k, w.heap.size ≤ k → ok k) :
    Calls Try.prog 64 #[.slice A l.length c, .int .i64 l.length, .slice (some ⟨vb, 0, none⟩) 1 vc] w fun e w' => ∃ v', e = .returned v' ∧ Kd.R k49 49 w' w0.heap.size ok v' (l ++ [x]) ∧ Below w0.heap.size w0 w' := by
  have HR := Aside0.mk hr
  have HV := Aside0.mk (box_C x hv)
  have HBl := Aside0.mk HB
  have HL := Aside0.mk hl
  have HO := Aside0.mk hok
  have hcut := fun W => from_run A c l.length l.length (Nat.le_refl _) W
  obtain ⟨zz, hzz⟩ : ∃ zz : Value, zz = .slice (if c = l.length then A else A.map (·.add (l.length * 2))) (l.length - l.length) (c - l.length) := ⟨_, rfl⟩
  rw [← hzz] at hcut
  clear hr hv HB hl hok hzz
  go_enter Try.func64, Try.ntmps64
  go_wp2_with (first | ((with_reducible refine gate_builtin (b := .append) (xs := #[.tmp 23, .tmp 24]) rfl ?_); at_builtin; refine Kd.R_append_rows k49 (w0 := w0) w0.heap.size rfl (.tmp 23) (.tmp 24) 40 49 zv 24 rfl Try.underlying40 clone.info rfl (by decide) (by omega) (.slice A l.length c) l [x] _ _ _ ok (fun _ => False) rfl rfl ?aO ?aR (fun _ _ h => clone.km h) (fun _ h => h.elim) ?aF ?aB ?aS ?aL ?_; (case aO => exact HR.out); (case aR => exact HV.out); (case aF => exact HO.out); (case aB => exact HBl.out); (case aS => exact HBl.out.size); (case aL => have := HL.out; omega); intro v2 w2 ho hb hg_ hat_; clear hg_ hat_; clear HR HBl; have HR := Aside0.mk ho; have HBl := Aside0.mk hb; clear ho hb))
  go_ret
  exact ⟨_, rfl, HR.out, HBl.out⟩
theorem hsz2 : (Try.prog.info? 49).map (·.size) = some 2 := by kernel_rfl
set_option maxHeartbeats 2000000 in
/-- In the middle, where there is room. -/
theorem insert_room (l : List S49) (x : S49) (i : Nat) (hi : i < l.length) (g c vb vc : Nat) (ok : Nat → Prop) (w0 w : World) (HB : Below w0.heap.size w0 w) (hl : l.length ≤ 1000) (hr : Kd.R k49 49 w w0.heap.size ok (.slice (some ⟨g, 0, none⟩) l.length c) l)
    (hv : w.heap[vb]? = some (.cells (enc x).toArray 49 (0, 0))) (hne : vb ≠ g) (hroom : l.length + 1 ≤ c) :
    Calls Try.prog 64 #[.slice (some ⟨g, 0, none⟩) l.length c, .int .i64 (i : Int), .slice (some ⟨vb, 0, none⟩) 1 vc] w fun e w' => ∃ v', e = .returned v' ∧ Kd.R k49 49 w' w0.heap.size ok v' (ins l x i) ∧ Below w0.heap.size w0 w' := by
  have hfin := row_in_place (w := w.drew) (Kd.R_drew hr) x i hi hroom
  have hbel : Below w0.heap.size w0 ((w.drew.setCells g ((i + 1) * 2) ((FC.E enc l).drop (i * 2))).setCells g (i * 2) (enc x)) := by
    have hg : w0.heap.size ≤ g := Kd.R_base hr g (by simp [Value.ownBlock])
    exact below_setCells (below_setCells (below_drew HB) hg _ _) hg _ _
  obtain ⟨cur, hb, hh, h2, h3, h4⟩ : ∃ cur : Array Value, w0.heap.size ≤ g ∧ w.heap[g]? = some (.cells cur 49 (0, 0)) ∧ c ≤ maxLen ∧ cur.size = c * 2 ∧ cur.toList.take (l.length * 2) = FC.E enc l := by
    rcases FC.R_cells F49 hr with ⟨hv, _⟩ | ⟨g', cap', cur, hv, hb, ho, hh, h1, h2, h3, h4⟩
    · exact absurd hv (by simp)
    · have hgc : g = g' ∧ c = cap' := by
        injection hv with ha _ hc
        injection ha with ha
        injection ha with hg
        exact ⟨hg, hc⟩
      obtain ⟨rfl, rfl⟩ := hgc
      exact ⟨cur, hb, hh, h2, h3, h4⟩
  unfold maxLen at h2
  have hEl : (FC.E enc l).length = l.length * 2 := FC.E_len F49.len l
  have hcs : ∀ j v, (FC.E enc l)[j]? = some v → w.cell? ⟨g, j, none⟩ = some v := fun j v hj => by
    have hjl := (List.getElem?_eq_some_iff.1 hj).1
    rw [← h4, List.getElem?_take, if_pos (by omega)] at hj
    rw [blk_cell hh, ← Array.getElem?_toList]; exact hj
  have hsp : ∀ j, j < (l.length + 1) * 2 → (w.cell? ⟨g, j, none⟩).isSome = true := fun j hj => by
    rw [blk_cell hh, Array.getElem?_eq_getElem (by omega)]; rfl
  have hfz : ∀ j, w.frozen? ⟨g, j, none⟩ = false := fun j => blk_frozen hh j
  have hvs : ∀ j v, (enc x)[j]? = some v → w.cell? ⟨vb, j, none⟩ = some v := fun j v hj => by
    rw [blk_cell hv, List.getElem?_toArray]; exact hj
  have hov : ∀ lb cb, (callFunc 81 #[.slice (some ⟨vb, 0, none⟩) 1 vc, .slice (some ⟨g, (i + 1) * 2, none⟩) lb cb]).run Try.prog w = .ok (.value (.bool false)) w := fun lb cb => by
    have hz : ∀ w, (Go.sizeOf 49).run Try.prog w = .ok 2 w := fun w => by kernel_rfl
    have hsa : w.shape? vb = some (49, 2) := by simp [World.shape?, hv, enc]
    have hsb : w.shape? g = some (49, cur.size) := by simp [World.shape?, hh]
    rw [run_callFunc_extern Try.func81 (by kernel_rfl) (by kernel_rfl) (by kernel_rfl) (e := Extern.SlicesOverlaps.overlaps #[40, 40] #[4]) (by kernel_rfl),
      Lib.run_overlaps_apart w 40 4 49 Try.underlying40 2 hz ⟨vb, 0, none⟩ ⟨g, (i + 1) * 2, none⟩ 1 vc lb cb hne 49 49 2 cur.size hsa hsb (by omega) (blk_frozen hv _) (blk_frozen hv _)]
    rfl
  have hdl : ((FC.E enc l).drop (i * 2)).length = l.length * 2 - i * 2 := by rw [List.length_drop, hEl]
  have hcp1 : ∀ ty dc sc, (Builtin.copy_ #[40, 40] ty #[.slice (some ⟨g, (i + 1) * 2, none⟩) (l.length - i) dc, .slice (some ⟨g, i * 2, none⟩) (l.length + 1 - i) sc]).run Try.prog w.drew = .ok (goInt (Nat.min (l.length + 1 - i) (l.length - i))) (w.drew.setCells g ((i + 1) * 2) ((FC.E enc l).drop (i * 2))) := fun ty dc sc =>
    run_copy_rows w.drew 40 40 ty 49 2 g ((i + 1) * 2) (l.length - i) dc ⟨g, i * 2, none⟩ (l.length + 1 - i) sc _ Try.underlying40 hsz2 (by rw [hdl]; simp only [Nat.min_def]; split <;> omega)
      (fun j v hj => by rw [Addr.add_lit]; exact hcs _ v (by rwa [List.getElem?_drop] at hj))
      (fun j hj => hsp _ (by omega)) (fun j hj => hfz _) (fun v hv => FC.E_one' F49.one l v (List.mem_of_mem_drop hv))
  obtain ⟨W1, hW1⟩ : ∃ W1, W1 = w.drew.setCells g ((i + 1) * 2) ((FC.E enc l).drop (i * 2)) := ⟨_, rfl⟩
  have hsp1 : ∀ k, k < (l.length + 1) * 2 → (W1.cell? ⟨g, k, none⟩).isSome = true := fun k hk => by
    rw [hW1]
    exact isSome_setCells g _ _ w.drew (fun j hj => hsp _ (by rw [hdl] at hj; omega)) _ (hsp k hk)
  have hcp2 : ∀ ty dc, (Builtin.copy_ #[40, 40] ty #[.slice (some ⟨g, i * 2, none⟩) (l.length + 1 - i) dc, .slice (some ⟨vb, 0, none⟩) 1 vc]).run Try.prog W1 = .ok (goInt (Nat.min 1 (l.length + 1 - i))) (W1.setCells g (i * 2) (enc x)) := fun ty dc =>
    run_copy_rows W1 40 40 ty 49 2 g (i * 2) (l.length + 1 - i) dc ⟨vb, 0, none⟩ 1 vc (enc x) Try.underlying40 hsz2 (by rw [enc_len]; simp only [Nat.min_def]; split <;> omega)
      (fun j v hj => by
        rw [Addr.add_lit, hW1, World.cell?_setCells_out g _ _ _ _ (fun h _ => absurd h hne), Nat.zero_add]
        exact hvs j v hj)
      (fun j hj => hsp1 _ (by rw [enc_len] at hj; omega)) (fun j hj => by rw [hW1, World.frozen?_setCells]; exact hfz _) (F49.one x)
  rw [← hW1] at hcp1 hfin hbel
  have hz2 : ¬ ((i : Int) = (l.length : Int)) := by omega
  have hw1 : IntKind.i64.wrap ((i : Int) + 1) = (i : Int) + 1 := by rw [IntKind.wrap_i64]; omega
  have hb1 : (0 : Int) ≤ (i : Int) + 1 := by omega
  have hin : i ≤ l.length := by omega
  have htn : ((i : Int) + 1).toNat = i + 1 := by omega
  have hb2 : ¬ (c = i + 1) := by omega
  have hb3 : (i : Int) ≤ (l.length : Int) + 1 := by omega
  have hb4 : ¬ (c = i) := by omega
  have HF := Aside0.mk hfin
  have HBl := Aside0.mk hbel
  have HW := Aside0.mk hW1
  clear hfin hbel hW1 hcs hsp hfz hvs hsp1 hr HB hv h4 hh h3 hEl hdl
  go_enter Try.func64, Try.ntmps64
  go_wp2_with (simp only [hov])
  go_region_law (refine step_copy_runI rfl _ _ 40 40 rfl _ _ (by simp [Act.eval, Act.put]) (by simp [Act.eval, Act.put]) (hcp1 _ _ _) ?_)
  go_wp2_with (at_builtin; refine wpList_copy_runI _ rfl _ _ 40 40 rfl _ _ rfl rfl (hcp2 _ _) ?_)
  go_ret
  exact ⟨_, rfl, HF.out, HBl.out⟩
end Go.Proofs.Yteoklaofbdfjlaa.Dc
