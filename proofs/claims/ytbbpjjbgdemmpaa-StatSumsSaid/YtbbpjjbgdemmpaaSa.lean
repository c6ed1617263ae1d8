/- stat: what a row of done calls reads as; whether they are few. -/
import Derived.Test.YtbbpjjbgdemmpaaPStatx1
import Derived.Test.YtbbpjjbgdemmpaaL3
import Derived.Outline
namespace Go.Proofs.Ytbbpjjbgdemmpaa.PStat
open Go.RowKit Go.Proofs.YtbbpjjbgdemmpaaW.PrintWords Go.Proofs.YtbbpjjbgdemmpaaW.PrintLast Go.Proofs.YtbbpjjbgdemmpaaW.PrintMore
set_option linter.unusedVariables false
abbrev kd (x : S54) : Int := x.f1.f0
abbrev er (x : S54) : Int := x.f2.f0
abbrev dl (x : S54) : Nat := x.f1.f7.length
abbrev rl (x : S54) : Nat := x.f2.f5.length
/-- An element's cells, and where they lie. -/
structure El (CS : Array Value) (x : S54) (A8 : Option Addr) (c8 : Nat) (A14 : Option Addr) (c14 : Nat) : Prop where
  sz : CS.size = 18
  one : CS.all (·.oneCell') = true
  c1 : CS[1]? = some (.int .i64 (kd x))
  c2 : CS[2]? = some (.int .i64 x.f1.f1)
  c3 : CS[3]? = some (.int .i64 x.f1.f2)
  c4 : CS[4]? = some (.int .i64 x.f1.f3)
  c5 : CS[5]? = some (.int .i64 x.f1.f4)
  c6 : CS[6]? = some (.string x.f1.f5)
  c7 : CS[7]? = some (.string x.f1.f6)
  c8 : CS[8]? = some (.slice A8 (dl x) c8)
  c9 : CS[9]? = some (.int .i64 (er x))
  c14 : CS[14]? = some (.slice A14 (rl x) c14)
theorem elem {w : World} {A : Option Addr} {l : List S54} (h : Kd.C k54 w A l.length l) (j : Nat) (hj : j < l.length) :
    ∃ ad CS A8 c8 A14 c14, A = some ad ∧ (∀ q v, CS[q]? = some v → w.cell? ((ad.add (j * 18)).add q) = some v) ∧ El CS l[j] A8 c8 A14 c14 ∧ (Kd.int .u8).C w A8 (dl l[j]) l[j].f1.f7 ∧ dl l[j] ≤ c8 := by
  obtain ⟨ad, c, e, _, hK, hc0⟩ := Kd.C_get h z54 (j : Int) (by omega) (by omega)
  have hx : l.getD (j : Int).toNat z54 = l[j] := by
    rw [Int.toNat_natCast, List.getD_eq_getElem?_getD, List.getElem?_eq_getElem hj]; rfl
  rw [hx] at hK
  have hc : ∀ q u, c[q]? = some u → w.cell? (ad.add (j * 18 + q)) = some u := fun q u hq => by have := hc0 q u hq; rw [Int.toNat_natCast] at this; exact this
  obtain ⟨A8, c8, A14, c14, A15, c15, hce, l8, g8, l14, g14, l15, g15⟩ := k54_open hK
  refine ⟨ad, c.toArray, A8, c8, A14, c14, e, fun q v hq => ?_, ⟨by rw [hce]; rfl, by rw [hce]; simp [Value.oneCell'], by rw [hce]; rfl, by rw [hce]; rfl, by rw [hce]; rfl, by rw [hce]; rfl, by rw [hce]; rfl, by rw [hce]; rfl, by rw [hce]; rfl, by rw [hce]; rfl, by rw [hce]; rfl, by rw [hce]; rfl⟩, g8, l8⟩
  rw [add_add]
  exact hc q v (by simpa using hq)
theorem hi54 {CS : Array Value} (h : CS.size = 18) : (Try.prog.info? 54).map (·.size) = some CS.size := by rw [h]; kernel_rfl
/-! ### few -/
def fewx (x : S54) : Bool := decide (dl x ≤ 2000) && decide (rl x ≤ 2000)
def few (l : List S54) : Bool := l.all fewx && decide (l.length ≤ 40)
set_option maxHeartbeats 2000000 in
theorem few_calls (A0 : Option Addr) (c0 : Nat) (l : List S54) (w : World) (hr0 : Kd.C k54 w A0 l.length l) (hm : l.length ≤ 1000000000000) :
    Calls Try.prog 34 #[.slice A0 l.length c0] w fun e w' => e = .returned (.bool (few l)) ∧ Below w.heap.size w w' := by
  have HR := Aside0.mk hr0
  clear hr0
  go_enter Try.func34, Try.ntmps34
  go_wp2
  go_loopg [7] (l.length + 1) (fun kq v7 w' => ∃ j : Nat, v7 = .int .i64 (j : Int) ∧ Aside0 (j + kq = l.length + 1 ∧ j ≤ l.length) ∧ Aside0 ((l.take j).all fewx = true) ∧ Aside0 (Below w.heap.size w w'))
  case atStart => exact ⟨0, rfl, ⟨by omega, by omega⟩, ⟨by rw [List.take_zero]; rfl⟩, ⟨Below.refl _ _⟩⟩
  case round =>
    obtain ⟨j, rfl, HJ, HF, HB⟩ := hrel
    have hj := HJ.out.2
    cases gk with
    | zero => exact absurd HJ.out.1 (by omega)
    | succ k1 =>
      by_cases c : j < l.length
      · have q0 : (j : Int) < (l.length : Int) := by omega
        obtain ⟨ad, CS, A8, c8, A14, c14, rfl, hcell, E, _, _⟩ := elem HR.out j c
        have HCL : Aside0 (∀ q v, CS[q]? = some v → wr.cell? ((ad.add (j * 18)).add q) = some v) := ⟨fun q v hq => pw_cell_below HB.out (hcell q v hq)⟩
        have HE := Aside0.mk E
        have e8 := E.c8
        have e14 := E.c14
        have HD : Aside0 ((l.take (j + 1)).all fewx = fewx l[j]) := ⟨by rw [List.take_succ_eq_append_getElem c, List.all_append, HF.out]; simp⟩
        have HX : Aside0 (fewx l[j] = false → l.all fewx = false) := ⟨fun h => by rw [List.all_eq_false]; exact ⟨l[j], List.getElem_mem c, by rw [h]; decide⟩⟩
        clear hcell E
        go_wp2_with (first | ((with_reducible refine L.wpList_load_cells (o := ⟨some 10, _, _, _, _, _⟩) ?hgd 54 (.tmp 9) ?ho (ad.add (j * 18)) ?hx CS _ HCL.out Try.underlying54 ?hd (hi54 HE.out.sz) ?_); (case hgd => rfl); (case ho => rfl); (case hx => rfl); (case hd => rfl)) | ((with_reducible refine L.wpList_store_new rfl 54 _ _ rfl 54 _ CS ?hx ?hy (hi54 HE.out.sz) ?ho HE.out.one ?_); (case hx => rfl); (case hy => rfl); (case ho => rw [HE.out.sz]; kernel_rfl)))
        · go_ret
          exact ⟨L.ret_bool (by unfold few; rw [HX.out (by unfold fewx; rw [decide_eq_false (show ¬ rl l[j] ≤ 2000 by omega)]; simp)]; rfl), below_alloc HB.out _⟩
        · go_roundg k1
          case measure => omega
          case rel => exact ⟨j + 1, by go_num, ⟨by have := HJ.out.1; omega, by omega⟩, ⟨by rw [HD.out]; unfold fewx; rw [decide_eq_true (by omega), decide_eq_true (by omega)]; rfl⟩, ⟨below_alloc HB.out _⟩⟩
        · go_ret
          exact ⟨L.ret_bool (by unfold few; rw [HX.out (by unfold fewx; rw [decide_eq_false (show ¬ dl l[j] ≤ 2000 by omega)]; rfl)]; rfl), below_alloc HB.out _⟩
      · have q0 : ¬ (j : Int) < (l.length : Int) := by omega
        obtain rfl : j = l.length := by omega
        rw [List.take_length] at HF
        go_wp2
        go_ret
        exact ⟨L.ret_bool (by unfold few; rw [HF.out, Bool.true_and]; simp; omega), HB.out⟩
end Go.Proofs.Ytbbpjjbgdemmpaa.PStat
