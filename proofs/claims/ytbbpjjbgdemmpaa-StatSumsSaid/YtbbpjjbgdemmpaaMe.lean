/- stat.Errors: how often which errors there were. -/
import Derived.Test.YtbbpjjbgdemmpaaSd
import Derived.Maps.OwnOps
import Derived.Maps.Views
namespace Go.Proofs.Ytbbpjjbgdemmpaa.PStat
open Go.RowKit Go.Proofs.YtbbpjjbgdemmpaaW.PrintWords Go.Proofs.YtbbpjjbgdemmpaaW.PrintLast Go.Proofs.YtbbpjjbgdemmpaaW.PrintMore
set_option linter.unusedVariables false
set_option linter.unusedSimpArgs false
theorem law49 : Go.Maps.Keyed Try.prog 49 := Go.Maps.int_keyed Try.underlying49
theorem zero3 (w : World) : (zeroValue 3).run Try.prog w = .ok (.int .i64 0) w := by kernel_rfl
def Mp (w : World) (b n : Nat) (F : Int → Int) : Prop := ∃ D : DataW Unit, Go.Maps.IsMap D ∧ w.ownsMap Try.prog 49 (plainElem Try.prog 3) b n D ∧ ∀ x, D.atKey (.int .i64 x) (.lit (.int .i64 0)) = .lit (.int .i64 (F x))
theorem mp_made (w : World) : Mp (w.alloc (.map #[] 0)) w.heap.size 0 (fun _ => 0) :=
  ⟨.map [], ⟨[], rfl⟩, World.ownsMap_made _ _ _ _, fun _ => rfl⟩
theorem mp_blk {w w' : World} {b n : Nat} {F : Int → Int} (h : Mp w b n F) (he : w'.heap[b]? = w.heap[b]?) : Mp w' b n F := by
  obtain ⟨D, h1, ⟨es, clock, hb, h2⟩, h3⟩ := h
  exact ⟨D, h1, ⟨es, clock, he.trans hb, h2⟩, h3⟩
theorem mp_lt {w : World} {b n : Nat} {F : Int → Int} (h : Mp w b n F) : b < w.heap.size := by
  obtain ⟨D, h1, ⟨es, clock, hb, h2⟩, h3⟩ := h
  exact (Array.getElem?_eq_some_iff.1 hb).1
theorem mp_look {w : World} {b n : Nat} {F : Int → Int} (h : Mp w b n F) {x : Int} (hx : (Lit.int .i64 x).wf = true) :
    (Instr.lookup 47 (.map (some b)) (.int .i64 x) false).run Try.prog w = .ok (.int .i64 (F x)) w := by
  obtain ⟨D, h1, h2, h3⟩ := h
  obtain ⟨c, hr, hat, _⟩ := h2.lookup_int law49 Try.underlying47 Try.underlying3 (zero3 w) (Go.Maps.keyOf_int_mk Try.underlying49 hx)
  rw [h3] at hat
  have : F x = c := by injection hat with e; injection e
  rw [this]; exact hr
theorem mp_upd {W : World} {ops : Array Oper} {rest : List Oper} {o : Oper} {a : Act} {Q : Exit → Act → World → Prop} (hg : o.guard = none) (m x v : Operand) (hop : o.op = Op.mapUpdate 47 m x v)
    (b n : Nat) (F : Int → Int) (hm : a.eval m = .map (some b)) (HM : Mp W b n F) (hn : n < 1000000) (X c : Int) (hx : a.eval x = .int .i64 X) (hv : a.eval v = .int .i64 c) (wX : (Lit.int .i64 X).wf = true) (wc : (Lit.int .i64 c).wf = true)
    (hK : ∀ w', Mp w' b (n + 1) (fun y => if y = X then c else F y) → W.grownBy w' (some b) → wpList Try.prog ops Q rest (a.put o.dst undef) w') : wpList Try.prog ops Q (o :: rest) a W := by
  obtain ⟨D, h1, h2, h3⟩ := HM
  refine wpList_mapUpdate_own _ hg m x v 47 hop 49 3 law49 Try.underlying47 _ b n D hm h2 (by unfold maxLen; omega) _ _ _ hx hv (Go.Maps.keyOf_int_mk Try.underlying49 wX) _ [] (plainElem_int Try.underlying3 wc) ?_
  intro w' h4 h5
  refine hK w' ⟨_, ?_, h4, fun y => ?_⟩ h5
  · obtain ⟨es, rfl⟩ := h1; exact ⟨_, rfl⟩
  · show _ = DataW.lit (Lit.int IntKind.i64 (if y = X then c else F y))
    by_cases e : y = X
    · subst e; rw [if_pos rfl]; exact Go.Maps.atKey_put_same h1 (by trivial) _ _
    · rw [if_neg e, Go.Maps.atKey_put_other (fun q => e (by injection q))]; exact h3 y
/-- How often an error was met. -/
def cE (l : List S54) (e : Int) : Nat := l.countP (fun x => decide (er x = e))
theorem cE_snoc (l : List S54) (j : Nat) (h : j < l.length) : (fun y => if y = er l[j] then ((cE (l.take j) (er l[j]) : Nat) : Int) + 1 else (cE (l.take j) y : Int)) = fun y => (cE (l.take (j + 1)) y : Int) := by
  funext y
  unfold cE
  rw [cp_snoc _ _ _ h]
  by_cases e : y = er l[j]
  · subst e; rw [if_pos rfl, if_pos (decide_eq_true rfl)]; rfl
  · rw [if_neg e, if_neg (by simpa using Ne.symm e)]; rfl
theorem wf_nat (n : Nat) (h : n ≤ 1000000000) : (Lit.int .i64 ((n : Int) + 1)).wf = true := WalkArith.wf_i64 (by omega)
set_option maxHeartbeats 8000000 in
theorem errors_calls (A0 : Option Addr) (c0 : Nat) (l : List S54) (w : World) (hr0 : Kd.C k54 w A0 l.length l) (hm : l.length < 1000000) (hwf : ∀ x ∈ l, (Lit.int .i64 (er x)).wf = true) :
    Calls Try.prog 36 #[.slice A0 l.length c0] w fun e w' => e = .returned (.map (some w.heap.size)) ∧ Mp w' w.heap.size l.length (fun y => (cE l y : Int)) ∧ Below w.heap.size w w' := by
  have HR := Aside0.mk hr0
  have HWF := Aside0.mk hwf
  clear hr0 hwf
  have hmm := @run_makeMap Try.prog
  go_enter Try.func36, Try.ntmps36
  go_wp2
  go_loopg [9] (l.length + 1) (fun kq v9 w' => ∃ j : Nat, v9 = .int .i64 (j : Int) ∧ Aside0 (j + kq = l.length + 1 ∧ j ≤ l.length) ∧ Aside0 (Mp w' w.heap.size j (fun y => (cE (l.take j) y : Int))) ∧ Aside0 (Below w.heap.size w w'))
  case atStart => exact ⟨0, rfl, ⟨by omega, by omega⟩, ⟨mp_made w⟩, ⟨(Below.refl _ _).alloc (Nat.le_refl _) _⟩⟩
  case round =>
    obtain ⟨j, rfl, HJ, HM, HB⟩ := hrel
    have hj := HJ.out.2
    cases gk with
    | zero => exact absurd HJ.out.1 (by omega)
    | succ k1 =>
      by_cases c : j < l.length
      · have q0 : (j : Int) < (l.length : Int) := by omega
        obtain ⟨ad, CS, A8, c8, A14, c14, rfl, hcell, E, hC8, hl8⟩ := elem HR.out j c
        have HCL : Aside0 (∀ q v, CS[q]? = some v → wr.cell? ((ad.add (j * 18)).add q) = some v) := ⟨fun q v hq => pw_cell_below HB.out (hcell q v hq)⟩
        have HE := Aside0.mk E
        have e9 := E.c9
        have HM1 := Aside0.mk (mp_blk HM.out ((below_alloc (Below.refl wr.heap.size wr) (.cells CS 54)).block _ (mp_lt HM.out)))
        have hwx := HWF.out _ (List.getElem_mem c)
        have hlk := mp_look HM1.out hwx
        obtain ⟨n, hn⟩ : ∃ n, n = cE (l.take j) (er l[j]) := ⟨_, rfl⟩
        have hnj : n ≤ j := by rw [hn]; exact cp_le _ _ _
        have HS := Aside0.mk (cE_snoc l j c)
        rw [← hn] at hlk HS
        have HWX := Aside0.mk hwx
        have HWC := Aside0.mk (wf_nat n (by omega))
        clear hcell E hC8 hn hwx
        go_wp2_with (first | ((with_reducible refine L.wpList_load_cells (o := ⟨some 12, _, _, _, _, _⟩) ?hgd 54 (.tmp 11) ?ho (ad.add (j * 18)) ?hx CS _ HCL.out Try.underlying54 ?hd (hi54 HE.out.sz) ?_); (case hgd => rfl); (case ho => rfl); (case hx => rfl); (case hd => rfl)) | ((with_reducible refine L.wpList_store_new rfl 54 _ _ rfl 54 _ CS ?hx ?hy (hi54 HE.out.sz) ?ho HE.out.one ?_); (case hx => rfl); (case hy => rfl); (case ho => rw [HE.out.sz]; kernel_rfl)) | (at_mapUpdate; refine mp_upd rfl _ _ _ rfl w.heap.size j _ rfl HM1.out (by omega) (er l[j]) ((n : Int) + 1) rfl rfl HWX.out HWC.out ?_; intro w5 hm5 hg5; have HM5 := Aside0.mk hm5; have HG5 := Aside0.mk hg5; clear hm5 hg5))
        go_roundg k1
        case measure => omega
        case rel => exact ⟨j + 1, by go_num, ⟨by have := HJ.out.1; omega, by omega⟩, ⟨by rw [← HS.out]; exact HM5.out⟩, ⟨pw_below_grown (below_alloc HB.out _) (some w.heap.size) (below_alloc HB.out _).size HG5.out (fun k hk => by injection hk with hk; omega)⟩⟩
      · have q0 : ¬ (j : Int) < (l.length : Int) := by omega
        obtain rfl : j = l.length := by omega
        rw [List.take_length] at HM
        go_wp2
        go_ret
        exact ⟨rfl, HM.out, HB.out⟩
end Go.Proofs.Ytbbpjjbgdemmpaa.PStat
