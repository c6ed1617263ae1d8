/- slices.DeleteFunc at Entry with dirs.Drop's closure. -/
import Derived.Test.YteoklaofbdfjlaaDd
namespace Go.Proofs.Yteoklaofbdfjlaa.Dc
open Go.RowKit Go.Lib Go.Proofs.YteoklaofbdfjlaaW.PrintWords Go.Proofs.YteoklaofbdfjlaaW.PrintLast Go.Proofs.YteoklaofbdfjlaaW.PrintMore Go.Proofs.Yteoklaofbdfjlaa.PDirs
set_option linter.unusedVariables false
theorem F49 : FC.Flat k49 enc 2 where
  size := rfl
  len := fun _ => rfl
  one := fun x v hv => by
    simp only [enc, List.mem_cons, List.not_mem_nil, or_false] at hv
    rcases hv with rfl | rfl <;> rfl
  M_of := fun h => k49_openM h
  M_mk := fun w base ok x => k49_mkM w base ok x
  K_of := fun h => k49_open h
/-- What stands in the row, the first i of it, behind a clearing of the others. -/
theorem row_cleared {w : World} {base : Nat} {ok : Nat → Prop} {g c : Nat} {xs : List S49} (h : Kd.R k49 49 w base ok (.slice (some ⟨g, 0, none⟩) xs.length c) xs) (i : Nat) (hi : i ≤ xs.length) (zs : List Value) (hz : zs.length = (xs.length - i) * 2) :
    Kd.R k49 49 (w.setCells g (i * 2) zs) base ok (.slice (some ⟨g, 0, none⟩) i c) (xs.take i) := by
  rcases FC.R_cells F49 h with ⟨hv, _⟩ | ⟨g', cap, cur, hv, hb, ho, hh, h1, h2, h3, h4⟩
  · cases hv
  · injection hv with ha _ hc
    injection ha with ha
    injection ha with hg
    subst hg; subst hc
    obtain ⟨cur', k1, k2, k3⟩ := setCells_row zs (i * 2) w cur hh (by omega)
    have hl : (xs.take i).length = i := by rw [List.length_take]; omega
    have := FC.cells_R (e := 49) (l := xs.take i) F49 g c cur' hb ho k1 (by omega) h2 (by omega) (by
      have hcl : cur.toList.length = c * 2 := by rw [Array.length_toList]; omega
      rw [hl, k3, List.append_assoc, List.take_append_of_le_length (by rw [List.length_take]; omega), List.take_take, Nat.min_self, FC.E_take F49.len, ← h4, List.take_take, Nat.min_eq_left (by omega)])
    rw [hl] at this
    exact this
abbrev zv : Value := .agg #[.string ⟨#[]⟩, .int .i64 0]
theorem zlen (n : Nat) : (Builtin.zeroCells zv.cells n).toList.length = n * 2 := by simp [Builtin.zeroCells, Value.cells]
theorem z_one (n : Nat) : ∀ v ∈ (Builtin.zeroCells zv.cells n).toList, v.oneCell' = true := by
  intro v hv
  have : v ∈ Builtin.zeroCells zv.cells n := by simpa using hv
  obtain ⟨q, hq, rfl⟩ := Array.getElem_of_mem this
  simp [Builtin.zeroCells, Value.cells]
  have : q % 2 = 0 ∨ q % 2 = 1 := by omega
  rcases this with h | h <;> simp [h, Value.oneCell']
theorem zv_run : ∀ w, (zeroValue 49).run Try.prog w = .ok zv w := fun w => by kernel_rfl
theorem below_setCells {w0 w : World} {B g : Nat} (h : Below B w0 w) (hg : B ≤ g) (o : Nat) (zs : List Value) : Below B w0 (w.setCells g o zs) := by
  induction zs generalizing o w with
  | nil => exact h
  | cons z t ih => exact ih (h.setCell hg _) _
theorem clear_run {w : World} {base : Nat} {ok : Nat → Prop} {g c : Nat} {xs : List S49} (h : Kd.R k49 49 w base ok (.slice (some ⟨g, 0, none⟩) xs.length c) xs) (i : Nat) (hi : i < xs.length) :
    ∀ ty, (Builtin.clear_ #[40] ty #[.slice (some ⟨g, i * 2, none⟩) (xs.length - i) (c - i)]).run Try.prog w = .ok (.tuple #[]) (w.setCells g (i * 2) (Builtin.zeroCells zv.cells (xs.length - i)).toList) := fun ty => by
  rcases FC.R_cells F49 h with ⟨hv, _⟩ | ⟨g', cap', cur, hv, hb, ho, hh, h1, h2, h3, h4⟩
  · exact absurd hv (by simp)
  · have hgc : g = g' ∧ c = cap' := by
      injection hv with ha _ hc
      injection ha with ha
      injection ha with hg
      exact ⟨hg, hc⟩
    obtain ⟨rfl, rfl⟩ := hgc
    have hn : 0 < xs.length - i := by omega
    have hcc : ∀ j, j < (Builtin.zeroCells zv.cells (xs.length - i)).toList.length → (w.cell? ⟨g, i * 2 + j, none⟩).isSome = true := fun j hj => by
      rw [zlen] at hj
      rw [blk_cell hh, Array.getElem?_eq_getElem (by omega)]; rfl
    exact run_clear_row w 40 49 ty zv g (i * 2) (xs.length - i) (c - i) Try.underlying40 zv_run (z_one _) hn hcc (fun j hj => blk_frozen hh _)
def del (s : ByteArray) (x : S49) : Bool := x.f0.toList == s.toList
theorem pred60 (s : ByteArray) (B : Nat) (w : World) (hb : w.heap[B]? = some (.cells #[.string s] 9 (0, 0))) : Pred 60 #[.pointer (some ⟨B, 0, none⟩)] (del s) w := fun W x h => by
  have hB : B < w.heap.size := (Array.getElem?_eq_some_iff.1 hb).1
  have hW := (blk_below hb h)
  refine (drop1 s B x W (Array.getElem?_eq_some_iff.1 hW).1 (blk_cell hW 0)).mono ?_
  rintro e w' ⟨he, n, rfl⟩
  exact ⟨he, pw_below_drewN (below_alloc h _) n⟩
set_option maxHeartbeats 4000000 in
theorem deleteFunc (s : ByteArray) (B : Nat) (A : Option Addr) (c : Nat) (ok : Nat → Prop) (l : List S49) (w0 w : World) (HB : Below w0.heap.size w0 w) (hl : l.length ≤ 1000) (hr : Kd.R k49 49 w w0.heap.size ok (.slice A l.length c) l)
    (hb : w.heap[B]? = some (.cells #[.string s] 9 (0, 0))) (hB : w0.heap.size ≤ B) :
    Calls Try.prog 58 #[.slice A l.length c, .func (.func 60) #[] #[.pointer (some ⟨B, 0, none⟩)]] w fun e w' => ∃ v', e = .returned v' ∧ Kd.R k49 49 w' w0.heap.size ok v' (l.filter fun x => !del s x) ∧ Below w0.heap.size w0 w' := by
  have eg : ∀ args w, (callFunc 60 args).run Try.prog w = .ok (.enter 60 args) w := enters_of Try.func60 (by kernel_rfl) rfl
  have hI := indexFunc 60 #[.pointer (some ⟨B, 0, none⟩)] (del s) A c l w eg (pred60 s B w hb) hl (Kd.R_reads' hr).2.2
  by_cases hno : ∀ x ∈ l, del s x = false
  · have hI2 : Calls Try.prog 62 #[.slice A l.length c, .func (.func 60) #[] #[.pointer (some ⟨B, 0, none⟩)]] w fun e w' => e = .returned (.int .i64 (-1)) ∧ Below w.heap.size w w' := hI.mono (by
      rintro e w' ⟨⟨i, rfl, hi⟩, hb'⟩
      rcases hi with ⟨k0, hk0, rfl, hd, _⟩ | ⟨rfl, _⟩
      · rw [hno _ (List.getElem_mem hk0)] at hd; cases hd
      · exact ⟨rfl, hb'⟩)
    have HI := Aside0.mk hI2
    clear hI hI2
    have HR := Aside0.mk hr
    have HBl := Aside0.mk HB
    have e : (l.filter fun x => !del s x) = l := by
      rw [List.filter_eq_self]; intro x hx; rw [hno x hx]; rfl
    rw [e]
    clear hr hb HB hno
    go_enter Try.func58, Try.ntmps58
    go_wp2_with (go_at_call 62; refine HI.out.mono ?_; rintro e w' ⟨rfl, hb'⟩)
    go_ret
    exact ⟨_, rfl, Kd.R_below HR.out hb', below_step HBl.out hb'⟩
  · obtain ⟨k0, hk0⟩ : ∃ k0, k0 = l.findIdx (del s) := ⟨_, rfl⟩
    have hI2 : Calls Try.prog 62 #[.slice A l.length c, .func (.func 60) #[] #[.pointer (some ⟨B, 0, none⟩)]] w fun e w' => e = .returned (.int .i64 (k0 : Int)) ∧ Below w.heap.size w w' := hI.mono (by
      rintro e w' ⟨⟨i, rfl, hi⟩, hb'⟩
      rcases hi with ⟨k, hk, rfl, hd, hbef⟩ | ⟨rfl, h⟩
      · have : l.findIdx (del s) = k := (List.findIdx_eq hk).2 ⟨hd, fun j hj => by simpa using hbef j hj⟩
        rw [hk0, this]; exact ⟨rfl, hb'⟩
      · exact absurd h hno)
    have hlt : k0 < l.length := by
      rw [hk0, List.findIdx_lt_length]
      simp only [Classical.not_forall, Bool.not_eq_false] at hno
      obtain ⟨x, hx, hd⟩ := hno
      exact ⟨x, hx, hd⟩
    obtain ⟨g, hA, hgb⟩ : ∃ g, A = some ⟨g, 0, none⟩ ∧ w0.heap.size ≤ g := by
      rcases FC.R_cells F49 hr with ⟨_, h0⟩ | ⟨g, cap, cur, hv, hb, _⟩
      · rw [h0] at hlt; exact absurd hlt (Nat.not_lt_zero _)
      · injection hv with ha _ _
        exact ⟨g, ha, hb⟩
    subst hA
    have HI := Aside0.mk hI2
    clear hI hI2
    have HR := Aside0.mk hr
    have HBk := Aside0.mk hb
    have HBl := Aside0.mk HB
    have q1 : ((k0 : Int) == -1) = false := by rw [beq_eq_false_iff_ne]; omega
    have Hk0 := Aside0.mk hk0
    clear hr hb HB hno hk0
    go_enter Try.func58, Try.ntmps58
    go_wp2_with (go_at_call 62; refine HI.out.mono ?_; rintro e w' ⟨rfl, hb'⟩)
    have hk0 := Hk0.out
    have HR2 := Aside0.mk (Kd.R_below HR.out hb')
    have HBk2 := Aside0.mk (blk_below HBk.out hb')
    have HBl2 := Aside0.mk (below_step HBl.out hb')
    clear HI HR HBk HBl hb'
    have hw : wrap64 ((k0 : Int) + 1) = ((k0 + 1 : Nat) : Int) := by unfold wrap64; omega
    have hbef : ∀ j, ∀ h : j < l.length, j < k0 → del s l[j] = false := fun j h hj => by
      have := List.not_of_lt_findIdx (p := del s) (xs := l) (i := j) (by rw [← hk0]; exact hj)
      simpa using this
    have hat : del s l[k0] = true := by
      have := List.findIdx_getElem (p := del s) (xs := l) (w := by rw [← hk0]; exact hlt)
      simpa [← hk0] using this
    have hfil : (l.take (k0 + 1)).filter (fun x => !del s x) = l.take k0 := by
      rw [List.take_add_one, List.getElem?_eq_getElem hlt, List.filter_append]
      have h1 : (l.take k0).filter (fun x => !del s x) = l.take k0 := by
        rw [List.filter_eq_self]
        intro x hx
        obtain ⟨j, hj, rfl⟩ := List.getElem_of_mem hx
        rw [List.length_take] at hj
        rw [List.getElem_take, hbef j (by omega) (by omega)]; rfl
      rw [h1]
      simp [hat]
    go_loopg [5, 6] l.length (fun gg s5 s6 wr => ∃ ii jj : Nat, ∃ xs : List S49, ii < jj ∧ jj ≤ l.length ∧ l.length - jj ≤ gg ∧ s5 = .int .i64 ii ∧ s6 = .int .i64 jj ∧ xs.length = l.length ∧ Aside0 (xs.take ii = (l.take jj).filter (fun x => !del s x)) ∧ Aside0 (xs.drop jj = l.drop jj) ∧ Aside0 (Kd.R k49 49 wr w0.heap.size ok (.slice (some ⟨g, 0, none⟩) l.length c) xs) ∧ Aside0 (wr.heap[B]? = some (.cells #[.string s] 9 (0, 0))) ∧ Aside0 (Below w0.heap.size w0 wr))
    case atStart => exact ⟨k0, k0 + 1, l, by omega, by omega, by omega, rfl, (by first | rfl | (rw [← hw]) | (congr 1; omega)), rfl, ⟨hfil.symm⟩, ⟨rfl⟩, HR2, HBk2, HBl2⟩
    case round =>
      clear HR2 HBk2 HBl2 hw hbef hat hfil hk0 Hk0
      obtain ⟨ii, jj, xs, hij, hjl, hg, rfl, rfl, hxl, HT, HD, HR, HBk, HBl⟩ := hrel
      by_cases hlt2 : jj < l.length
      · have hjz : (jj : Int) < (l.length : Int) := by omega
        have h0z : (0 : Int) ≤ (jj : Int) := by omega
        have hC := (Kd.R_reads' HR.out).2.2
        rw [hxl] at hC
        obtain ⟨ad, e, h0, h1⟩ := at_T49 hC (jj : Int) (by omega) (by omega)
        obtain rfl := Option.some.inj e
        have hrd : rd_T49 xs (jj : Int) = l[jj] := by
          have e1 : xs[jj]'(by omega) = l[jj] := by
            have a1 := List.drop_eq_getElem_cons (l := xs) (i := jj) (by omega)
            have a2 := List.drop_eq_getElem_cons (l := l) (i := jj) hlt2
            have a3 := HD.out
            rw [a1, a2] at a3
            exact (List.cons.inj a3).1
          unfold rd_T49
          rw [Int.toNat_natCast, List.getD_eq_getElem?_getD, List.getElem?_eq_getElem (by omega)]; exact e1
        rw [hrd, Int.toNat_natCast] at h0 h1
        rw [add_plain] at h0 h1
        clear hC hrd
        have hBlt : B < wr.heap.size := (Array.getElem?_eq_some_iff.1 HBk.out).1
        have hBc : wr.cell? ⟨B, 0, none⟩ = some (.string s) := (blk_cell HBk.out 0).trans rfl
        have hne1 : B ≠ wr.heap.size := by omega
        have hne2 : B ≠ wr.heap.size + 1 := by omega
        have hwj : wrap64 ((jj : Int) + 1) = ((jj + 1 : Nat) : Int) := by unfold wrap64; omega
        have Hwj := Aside0.mk hwj
        clear hwj
        have htk : (l.take (jj + 1)).filter (fun x => !del s x) = (l.take jj).filter (fun x => !del s x) ++ (if del s l[jj] then [] else [l[jj]]) := by
          rw [List.take_add_one, List.getElem?_eq_getElem hlt2, List.filter_append]
          congr 1
          simp only [Option.toList_some, List.filter_cons, List.filter_nil]
          cases del s l[jj] <;> rfl
        have Htk := Aside0.mk htk
        clear htk
        cases hq : del s l[jj] with
        | true =>
          have hq1 : (l[jj].f0.toList == s.toList) = true := hq
          go_wp2
          go_roundg (l.length - (jj + 1))
          case measure => omega
          case rel =>
            refine ⟨ii, jj + 1, xs, by omega, by omega, by omega, rfl, (by first | rfl | (rw [← Hwj.out]) | (congr 1; omega)), hxl, ⟨by rw [Htk.out, hq, HT.out]; simp⟩, ⟨by
              have := congrArg List.tail HD.out
              rw [List.tail_drop, List.tail_drop] at this; exact this⟩, ⟨Kd.R_alloc (Kd.R_alloc HR.out _) _⟩, ⟨blk_alloc (blk_alloc HBk.out _) _⟩, ⟨below_alloc (below_alloc HBl.out _) _⟩⟩
        | false =>
          have hq1 : (l[jj].f0.toList == s.toList) = false := hq
          obtain ⟨c0, hc0, hcc0⟩ : ∃ c0 : List Value, c0.length = k49.sz ∧ ∀ q u, c0[q]? = some u → wr.cell? ⟨g, ii * 2 + q, none⟩ = some u := by
            obtain ⟨ad, cs, e1, e2, _, e3⟩ := Kd.C_get (Kd.R_reads' HR.out).2.2 z49 (ii : Int) (by omega) (by omega)
            obtain rfl := Option.some.inj e1
            exact ⟨cs, e2, fun q u hq => by have := e3 q u hq; rw [add_plain] at this; exact this⟩
          have hf0 : ∀ q, wr.frozen? ⟨g, q, none⟩ = false := by
            rcases FC.R_cells F49 HR.out with ⟨hv, _⟩ | ⟨g', cap', cur, hv, hb, ho, hh, h1, h2, h3, h4⟩
            · cases hv
            · injection hv with ha _ hc
              injection ha with ha
              injection ha with hg
              subst hg
              exact fun q => blk_frozen hh q
          obtain ⟨u0, u1, rfl⟩ : ∃ u0 u1, c0 = [u0, u1] := by
            match c0, hc0 with
            | [a, b], _ => exact ⟨a, b, rfl⟩
          have hx0 : wr.cell? ⟨g, ii * 2, none⟩ = some u0 := hcc0 0 u0 rfl
          have hx1 : wr.cell? ⟨g, ii * 2 + 1, none⟩ = some u1 := hcc0 1 u1 rfl
          have hz0 : wr.frozen? ⟨g, ii * 2, none⟩ = false := hf0 _
          have hz1 : wr.frozen? ⟨g, ii * 2 + 1, none⟩ = false := hf0 _
          have hgs : g < wr.heap.size := Kd.R_lt HR.out g (by simp [Value.ownBlock])
          have hgn1 : g ≠ wr.heap.size := by omega
          have hgn2 : g ≠ wr.heap.size + 1 := by omega
          have hiz : (ii : Int) < (l.length : Int) := by omega
          have hwi : wrap64 ((ii : Int) + 1) = ((ii + 1 : Nat) : Int) := by unfold wrap64; omega
          have Hwi := Aside0.mk hwi
          have Hcc := Aside0.mk hcc0
          clear hwi hcc0 hf0
          go_wp2
          go_roundg (l.length - (jj + 1))
          case measure => omega
          case rel =>
            have hsg := Kd.R_seg (okp := fun _ => False) (x' := l[jj]) (seg := enc l[jj]) (j := 0) HR.out (ii : Int) (by omega) (by omega) hc0 (fun q u hq => by rw [Int.toNat_natCast]; exact Hcc.out q u hq) (show 0 + 2 ≤ 2 by decide) (k49_mkM _ _ _ _) (fun _ h => h.elim)
            rw [Int.toNat_natCast] at hsg
            have hgb2 : some B ≠ some g := fun e => by
              have hh := (Kd.R_typed HR.out g (by simp [Value.ownBlock]))
              obtain ⟨cells, hh⟩ := hh
              obtain rfl := Option.some.inj e
              have := HBk.out.symm.trans hh
              injection this with this
              injection this with _ this
              exact absurd this (by decide)
            refine ⟨ii + 1, jj + 1, xs.set ii l[jj], by omega, by omega, by omega, (by first | rfl | (rw [← Hwi.out]) | (congr 1; omega)), (by first | rfl | (rw [← Hwj.out]) | (congr 1; omega)), by rw [List.length_set]; exact hxl, ⟨?_⟩, ⟨?_⟩, ⟨?_⟩, ⟨?_⟩, ⟨?_⟩⟩
            · rw [Htk.out, hq, ← HT.out, List.take_succ_eq_append_getElem (by rw [List.length_set]; omega), List.take_set_of_le (Nat.le_refl _)]
              simp
            · rw [List.drop_set_of_lt (by omega)]
              have := congrArg List.tail HD.out
              rw [List.tail_drop, List.tail_drop] at this; exact this
            · exact Kd.R_alloc (Kd.R_alloc hsg.1 _) _
            · exact blk_alloc (blk_alloc (blk_grown HBk.out hsg.2 hgb2) _) _
            · exact below_alloc (below_alloc (pw_below_grown HBl.out (some g) HBl.out.size hsg.2 (fun k hk => by injection hk with hk; omega)) _) _
      · obtain rfl : jj = l.length := by omega
        have hic : ¬ c = ii := by have := (Kd.R_reads' HR.out).2.1; omega
        have hnc := (Kd.R_reads' HR.out).2.1
        have i1 : ii ≤ l.length := by omega
        have i2 : ii ≤ c := by omega
        have i3 : (ii : Int) ≤ (l.length : Int) := by omega
        have i4 : (ii : Int) ≤ (c : Int) := by omega
        have i5 : (0 : Int) ≤ (ii : Int) := by omega
        have hz := zlen (l.length - ii)
        have hcl := hxl ▸ clear_run (hxl ▸ HR.out) ii (by omega)
        have Hz := Aside0.mk hz
        clear hz
        go_wp2
        go_ret
        have hR4 := row_cleared (hxl ▸ HR.out) ii (by omega) _ (by rw [Hz.out, hxl])
        rw [HT.out, List.take_length] at hR4
        exact ⟨_, rfl, hR4, below_setCells HBl.out hgb _ _⟩
end Go.Proofs.Yteoklaofbdfjlaa.Dc
