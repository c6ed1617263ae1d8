/- palloc: PallocDoes' walk: the two objects side by side. -/
import Derived.Test.YtlojhiacaleokaaDoorPi
import Derived.Deep.RegionHeld3
import Derived.Deep.CutRange
import Derived.Test.YtlojhiacaleokaaDoorPPallocDoesx0
namespace Go.Proofs.YtlojhiacaleokaaDoor.Pa
open Go.RowKit Go.Proofs.YtlojhiacaleokaaDoorW.PrintWords Go.Proofs.YtlojhiacaleokaaDoorW.PrintLast Go.Proofs.YtlojhiacaleokaaDoorW.PrintMore Go.Proofs.YtlojhiacaleokaaDoor.PPallocDoes
set_option linter.unusedVariables false
set_option linter.unusedSimpArgs false
def G36 (x : S36) : Prop := (Lit.int .i64 x.f0).wf = true ∧ (Lit.int .i64 x.f1).wf = true
instance : Inhabited S36 := ⟨z36⟩
def St (b g t : Nat) (k : Nat) : Prop := k = b ∨ k = g ∨ k = t
theorem St_le {b g t : Nat} {w : World} {n : Nat} {L : List Nat} (h : PS w b g n L) (ht : t = w.heap.size) : (∀ k, St b g t k → k ≤ w.heap.size) ∧ St b g t w.heap.size := by
  subst ht
  refine ⟨fun k hk => ?_, Or.inr (Or.inr rfl)⟩
  rcases hk with rfl | rfl | rfl
  · exact Nat.le_of_lt h.lt.1
  · exact Nat.le_of_lt h.lt.2
  · exact Nat.le_refl _
/-- Both objects, with the same pages. -/
structure JS (w : World) (b g t n : Nat) (L1 L2 : List Nat) : Prop where
  ps : PS w b g n L1
  ts : TS w (St b g t) t n L2
  tb : t ≠ b
  tg : t ≠ g
theorem JS.below {w w' : World} {b g t n : Nat} {L1 L2 : List Nat} (h : JS w b g t n L1 L2) (hb : Below w.heap.size w w') : JS w' b g t n L1 L2 :=
  ⟨h.ps.below hb, h.ts.move (Kept.of_below hb _) (hb.block t h.ts.lt), h.tb, h.tg⟩
theorem JS.lts {w : World} {b g t n : Nat} {L1 L2 : List Nat} (h : JS w b g t n L1 L2) : ∀ k, St b g t k → k < w.heap.size := by
  intro k hk
  rcases hk with rfl | rfl | rfl
  · exact h.ps.lt.1
  · exact h.ps.lt.2
  · exact h.ts.lt
theorem JS.p {w w' : World} {b g t n : Nat} {L1 L2 L1' : List Nat} (h : JS w b g t n L1 L2) (hp : PS w' b g n L1') (hf : Fr b g w w') : JS w' b g t n L1' L2 :=
  ⟨hp, h.ts.move ⟨hf.size, fun k hk hn => hf.rest k hk (fun e => hn (Or.inl e)) (fun e => hn (Or.inr (Or.inl e)))⟩ (hf.rest t h.ts.lt h.tb h.tg), h.tb, h.tg⟩
theorem JS.t {w w' : World} {b g t n : Nat} {L1 L2 L2' : List Nat} (h : JS w b g t n L1 L2) (ht : TS w' (St b g t) t n L2') (hf : Fr t t w w') : JS w' b g t n L1 L2' :=
  ⟨h.ps.move (hf.rest b h.ps.lt.1 (Ne.symm h.tb) (Ne.symm h.tb)) (hf.rest g h.ps.lt.2 (Ne.symm h.tg) (Ne.symm h.tg)), ht, h.tb, h.tg⟩
theorem TakeIs.form {n : Nat} {L : List Nat} {v : Value} {L' : List Nat} (h : TakeIs n L v L') : ∃ (x : Int) (y : Bool), v = .tuple #[.int .i64 x, .bool y] := by
  rcases h with ⟨_, rfl, _⟩ | ⟨_, m, _, _, rfl, _⟩
  · exact ⟨0, false, rfl⟩
  · exact ⟨_, true, rfl⟩
/-- What the round's deed came in: a box of the call's own. -/
structure Bx (w : World) (d b g t : Nat) (f0 f1 : Int) : Prop where
  blk : w.heap[d]? = some (.cells #[.int .i64 f0, .int .i64 f1] 36 (0, 0))
  db : d ≠ b
  dg : d ≠ g
  dt : d ≠ t
theorem Bx.fr {w w' : World} {d b g t x y : Nat} {f0 f1 : Int} (h : Bx w d b g t f0 f1) (hf : Fr x y w w') (hx : d ≠ x) (hy : d ≠ y) : Bx w' d b g t f0 f1 := ⟨(hf.rest d (blk_lt h.blk) hx hy).trans h.blk, h.db, h.dg, h.dt⟩
theorem Bx.below {w w' : World} {d b g t : Nat} {f0 f1 : Int} (h : Bx w d b g t f0 f1) (hb : Below w.heap.size w w') : Bx w' d b g t f0 f1 := ⟨blk_below h.blk hb, h.db, h.dg, h.dt⟩
/-- A world of the round: the objects, the box, what lay there before. -/
structure G0 (w W : World) (b g t n d : Nat) (f0 f1 : Int) (L1 L2 : List Nat) : Prop where
  js : JS W b g t n L1 L2
  bx : Bx W d b g t f0 f1
  bel : Below w.heap.size w W
  hg : w.heap.size ≤ b ∧ w.heap.size ≤ g ∧ w.heap.size ≤ t
theorem G0.below {w W W' : World} {b g t n d : Nat} {f0 f1 : Int} {L1 L2 : List Nat} (h : G0 w W b g t n d f0 f1 L1 L2) (hb : Below W.heap.size W W') : G0 w W' b g t n d f0 f1 L1 L2 :=
  ⟨h.js.below hb, h.bx.below hb, Go.Proofs.YtlojhiacaleokaaDoor.L.bel h.bel hb, h.hg⟩
theorem G0.p {w W W' : World} {b g t n d : Nat} {f0 f1 : Int} {L1 L2 L1' : List Nat} (h : G0 w W b g t n d f0 f1 L1 L2) (hp : PS W' b g n L1') (hf : Fr b g W W') : G0 w W' b g t n d f0 f1 L1' L2 :=
  ⟨h.js.p hp hf, h.bx.fr hf h.bx.db h.bx.dg, hf.low h.bel (Nat.le_refl _) h.hg.1 h.hg.2.1, h.hg⟩
theorem G0.t {w W W' : World} {b g t n d : Nat} {f0 f1 : Int} {L1 L2 L2' : List Nat} (h : G0 w W b g t n d f0 f1 L1 L2) (ht : TS W' (St b g t) t n L2') (hf : Fr t t W W') : G0 w W' b g t n d f0 f1 L1 L2' :=
  ⟨h.js.t ht hf, h.bx.fr hf h.bx.dt h.bx.dt, hf.low h.bel (Nat.le_refl _) h.hg.2.2 h.hg.2.2, h.hg⟩
theorem G0.drew {w W : World} {b g t n d : Nat} {f0 f1 : Int} {L1 L2 : List Nat} (h : G0 w W b g t n d f0 f1 L1 L2) : G0 w W.drew b g t n d f0 f1 L1 L2 := h.below (below_drew (Below.refl _ _))
theorem G0.cell {w W : World} {b g t n d : Nat} {f0 f1 : Int} {L1 L2 : List Nat} (h : G0 w W b g t n d f0 f1 L1 L2) : W.cell? ⟨d, 1, none⟩ = some (.int .i64 f1) := blk_cell h.bx.blk 1
/-- .. and the document's row where it stands. -/
structure GG (w W : World) (b g t n d : Nat) (f0 f1 : Int) (L : List Nat) (A : Option Addr) (c : Nat) : Prop where
  g0 : G0 w W b g t n d f0 f1 L L
  tb : W.heap[t]? = some (.cells #[.int .i64 (n : Int), .slice A L.length c] 38 (0, 0))
  vw : Vw W (St b g t) A c L
theorem GG.below {w W W' : World} {b g t n d : Nat} {f0 f1 : Int} {L : List Nat} {A : Option Addr} {c : Nat} (h : GG w W b g t n d f0 f1 L A c) (hb : Below W.heap.size W W') : GG w W' b g t n d f0 f1 L A c :=
  ⟨h.g0.below hb, (hb.block t h.g0.js.ts.lt).trans h.tb, h.vw.move (Kept.of_below hb _)⟩
theorem GG.cells {w W : World} {b g t n d : Nat} {f0 f1 : Int} {L : List Nat} {A : Option Addr} {c : Nat} (h : GG w W b g t n d f0 f1 L A c) : W.cell? ⟨t, 0, none⟩ = some (.int .i64 (n : Int)) ∧ W.cell? ⟨t, 1, none⟩ = some (.slice A L.length c) ∧ W.cell? ⟨d, 1, none⟩ = some (.int .i64 f1) :=
  ⟨blk_cell h.tb 0, blk_cell h.tb 1, h.g0.cell⟩
theorem G0.row {w W : World} {b g t n d : Nat} {f0 f1 : Int} {L : List Nat} (h : G0 w W b g t n d f0 f1 L L) : ∃ A c, GG w W b g t n d f0 f1 L A c := by
  obtain ⟨A, c, h1, h2⟩ := h.js.ts.ex
  exact ⟨A, c, h, h1, h2⟩
set_option maxHeartbeats 4000000 in
set_option maxRecDepth 100000 in
theorem walkPallocDoes (a0 : Int) (A1 : Option Addr) (c1 : Nat) (l1 : (List Int)) (A2 : Option Addr) (c2 : Nat) (l2 : (List S36)) (w : World) (w0 : (Lit.int .i64 a0).wf = true) (hl1 : l1.length ≤ c1) (hr1 : Kd.C (Kd.int .i64) w A1 l1.length l1) (g1 : (l1.length ≤ maxLen ∧ ∀ y1 ∈ l1, (Lit.int .i64 y1).wf = true)) (y1 : l1.length * 8 ≤ 140737488351232) (hl2 : l2.length ≤ c2) (hr2 : Kd.C k36 w A2 l2.length l2) (g2 : (l2.length ≤ maxLen ∧ ∀ y2 ∈ l2, G36 y2)) (y2 : l2.length * 16 ≤ 140737488351232) (hT : Tz.Tb w) :
    Calls Tryd.prog 4 #[.int .i64 a0, .slice A1 l1.length c1, .slice A2 l2.length c2] w fun e w' => e = .returned (.bool true) ∧ Below w.heap.size w w' := by
  have haw := awake w hT
  have HT := hid hT
  have HR := hid hr1
  have HR2 := hid hr2
  clear w0 g1 y1 g2 y2 hT hr1 hr2 hl1 hl2
  by_cases c1' : 300 < a0
  · have b1 : decide (300 < a0) = true := decide_eq_true c1'
    go_enter Tryd.func4, Tryd.ntmps4
    go_wp2_with (first | (go_at_call 7; (with_reducible refine haw.mono ?_); rintro e w1 ⟨rfl, hB⟩; have HB := hid hB; clear hB))
    go_ret
    exact ⟨rfl, HB.out⟩
  · have b1 : decide (300 < a0) = false := decide_eq_false c1'
    by_cases c2' : 60 < l1.length
    · have b2 : decide (60 < (l1.length : Int)) = true := decide_eq_true (by omega)
      go_enter Tryd.func4, Tryd.ntmps4
      go_wp2_with (first | (go_at_call 7; (with_reducible refine haw.mono ?_); rintro e w1 ⟨rfl, hB⟩; have HB := hid hB; clear hB))
      go_ret
      exact ⟨rfl, HB.out⟩
    · have b2 : decide (60 < (l1.length : Int)) = false := decide_eq_false (by omega)
      by_cases c3' : 60 < l2.length
      · have b3 : decide (60 < (l2.length : Int)) = true := decide_eq_true (by omega)
        go_enter Tryd.func4, Tryd.ntmps4
        go_wp2_with (first | (go_at_call 7; (with_reducible refine haw.mono ?_); rintro e w1 ⟨rfl, hB⟩; have HB := hid hB; clear hB))
        go_ret
        exact ⟨rfl, HB.out⟩
      · have b3 : decide (60 < (l2.length : Int)) = false := decide_eq_false (by omega)
        obtain ⟨N, hN⟩ : ∃ N, cl a0 = N := ⟨_, rfl⟩
        have hn20 : N ≤ 1048576 := by rw [← hN]; exact cl_le _
        have HLs := hid (show l1.length ≤ 1000 by omega)
        have HL2 := hid (show l2.length ≤ 60 by omega)
        have HN := hid hN
        have HN2 := hid hn20
        clear c1' c2' c3' hN hn20
        go_enter Tryd.func4, Tryd.ntmps4
        go_wp2_with (first
          | (go_at_call 7; (with_reducible refine haw.mono ?_); rintro e w1 ⟨rfl, hB⟩; have HB := hid hB; clear hB)
          | (go_at_call 8; (with_reducible refine (new_ A1 c1 l1 w1 (Kd.C_below HR.out HB.out) HLs.out a0).mono ?_); rw [HN.out]; rintro e w2 ⟨rfl, hP, hB⟩; have HP := hid hP; have HB2 := hid (Go.Proofs.YtlojhiacaleokaaDoor.L.bel HB.out hB); clear hP hB)
          | (go_at_call 12; (with_reducible refine (newTaken A1 c1 l1 w2 (Kd.C_below HR.out HB2.out) HLs.out a0 (St (w1.heap.size + 1) w1.heap.size w2.heap.size) (St_le HP.out rfl).1 (St_le HP.out rfl).2).mono ?_); rw [HN.out]; rintro e w3 ⟨rfl, hTS, hB⟩; have HB3 := hid (Go.Proofs.YtlojhiacaleokaaDoor.L.bel HB2.out hB); have HJ := hid (show ∃ L, JS w3 (w1.heap.size + 1) w1.heap.size w2.heap.size N L L from ⟨_, HP.out.below hB, hTS, Ne.symm (Nat.ne_of_lt HP.out.lt.1), Ne.symm (Nat.ne_of_lt HP.out.lt.2)⟩); clear hTS hB))
        obtain ⟨b, hbe⟩ : ∃ b, w1.heap.size + 1 = b := ⟨_, rfl⟩
        obtain ⟨g, hge⟩ : ∃ g, w1.heap.size = g := ⟨_, rfl⟩
        obtain ⟨t, hte⟩ : ∃ t, w2.heap.size = t := ⟨_, rfl⟩
        have HG : Hid (w.heap.size ≤ b ∧ w.heap.size ≤ g ∧ w.heap.size ≤ t) := hid ⟨by have := HB.out.size; omega, by have := HB.out.size; omega, by have := HB2.out.size; omega⟩
        rw [hbe, hge, hte] at HJ
        rw [hbe, hte]
        clear hbe hge hte HB HB2 HP haw
        go_loopg [38] (l2.length + 1) (fun kq v38 w' => ∃ j : Nat, v38 = .int .i64 (j : Int) ∧ Hid (j + kq = l2.length + 1 ∧ j ≤ l2.length) ∧ Hid (∃ L, JS w' b g t N L L) ∧ Hid (Below w.heap.size w w'))
        case atStart => exact ⟨0, rfl, hid ⟨by omega, by omega⟩, HJ, HB3⟩
        case round =>
          clear HJ HB3
          obtain ⟨j, rfl, HK, HJ, HB⟩ := hrel
          have hj := HK.out.2
          cases gk with
          | zero => exact absurd HK.out.1 (by omega)
          | succ k1 =>
            by_cases cj : j < l2.length
            · have c4b0 : decide (j < l2.length) = true := decide_eq_true cj
              obtain ⟨ad, rfl, hx, hy⟩ := at_T36 (Kd.C_below HR2.out HB.out) (j : Int) (by omega) (by omega)
              rw [Int.toNat_natCast] at hx hy
              have p0 : (0 ≤ (j : Int)) = True := eq_true (by omega)
              have q0 : ((j : Int) < (l2.length : Int)) = True := eq_true (by omega)
              have HW : Hid (wrap64 ((j : Int) + 1) = ((j + 1 : Nat) : Int)) := by
                have := HL2.out
                refine hid ?_
                rw [wrap_small _ (by omega) (by omega)]; rfl
              obtain ⟨f0, hf0⟩ : ∃ f0, (rd_T36 l2 (j : Int)).f0 = f0 := ⟨_, rfl⟩
              obtain ⟨f1, hf1⟩ : ∃ f1, (rd_T36 l2 (j : Int)).f1 = f1 := ⟨_, rfl⟩
              rw [hf0] at hx
              rw [hf1] at hy
              clear hf0 hf1
              have HG0 : Hid (∃ L, G0 w (wr.alloc (.cells #[.int .i64 f0, .int .i64 f1] 36)) b g t N wr.heap.size f0 f1 L L) := hid (by
                obtain ⟨L, h⟩ := HJ.out
                exact ⟨L, h.below (below_alloc (Below.refl _ _) _), ⟨blk_new wr _, Ne.symm (Nat.ne_of_lt h.ps.lt.1), Ne.symm (Nat.ne_of_lt h.ps.lt.2), Ne.symm (Nat.ne_of_lt h.ts.lt)⟩, below_alloc HB.out _, HG.out⟩)
              by_cases cf : f0 = 0
              · subst cf
                obtain ⟨L0, hG0⟩ := HG0.out
                have HG1 := hid hG0
                clear hG0 HG0
                go_upto_region 15 with (first
                  | (go_at_call 10; (with_reducible refine (HG1.out.js.ps.take (Tz.Tb_below HT.out HG1.out.bel)).mono ?_); rintro e w4 ⟨v, L1, rfl, hTk, hP, hF⟩; obtain ⟨x, y, rfl⟩ := hTk.form; have HTk := hid hTk; have HG2 := hid (HG1.out.p hP hF); clear hTk hP hF)
                  | (go_at_call 13; (with_reducible refine (HG2.out.js.ts.take HG2.out.js.lts).mono ?_); rintro e w5 ⟨v, L2, rfl, hTk, hP, hF⟩; obtain ⟨e1, e2⟩ := HTk.out.same hTk; subst e1; subst e2; have HG3 := hid (HG2.out.t hP hF); clear hTk hP hF))
                clear HG1 HG2 HTk hx hy HJ HB
                obtain ⟨A, c, hGG⟩ := HG3.out.drew.row
                have F1 := Aside0.mk hGG
                have HLn : Aside0 (L1.length ≤ N) := ⟨HG3.out.js.ps.len⟩
                obtain ⟨FI, hFI⟩ : ∃ FI : Int, (N : Int) - (L1.length : Int) = FI := ⟨_, rfl⟩
                have hsub : wrap64 ((N : Int) - (L1.length : Int)) = FI := by
                  have := HLn.out
                  have := HN2.out
                  rw [← hFI]; exact wrap_small _ (by omega) (by omega)
                have hsub2 : IntKind.i64.wrap ((N : Int) - (L1.length : Int)) = FI := (wrap_i64_is _).trans hsub
                have hNN : (FI != FI) = false := bne_self_eq_false FI
                obtain ⟨Y, hY⟩ : ∃ Y, hasL L1 f1 = Y := ⟨_, rfl⟩
                have HC1 : Aside0 (∀ W, Aside0 (GG w W b g t N wr.heap.size 0 f1 L1 A c) → Calls Tryd.prog 15 #[.pointer (some ⟨b, 0, none⟩), .int .i64 f1] W fun e W' => e = .returned (.bool Y) ∧ W' = W) := ⟨fun W h => by rw [← hY]; exact h.out.g0.js.ps.has f1⟩
                have HC2 : Aside0 (∀ W, Aside0 (GG w W b g t N wr.heap.size 0 f1 L1 A c) → Calls Tryd.prog 16 #[.pointer (some ⟨t, 0, none⟩), .int .i64 f1] W fun e W' => e = .returned (.bool Y) ∧ W' = W) := ⟨fun W h => by rw [← hY]; exact h.out.g0.js.ts.has f1⟩
                have HC3 : Aside0 (∀ W, Aside0 (GG w W b g t N wr.heap.size 0 f1 L1 A c) → Calls Tryd.prog 9 #[.pointer (some ⟨b, 0, none⟩)] W fun e W' => e = .returned (.int .i64 FI) ∧ W' = W) := ⟨fun W h => by rw [← hFI]; exact h.out.g0.js.ps.free⟩
                have HC4 : Aside0 (∀ W, Aside0 (GG w W b g t N wr.heap.size 0 f1 L1 A c) → Calls Tryd.prog 18 #[.pointer (some ⟨b, 0, none⟩)] W fun e W' => ∃ A6 c6, e = .returned (.slice A6 L1.length c6) ∧ Aside0 (GG w W' b g t N wr.heap.size 0 f1 L1 A c) ∧ Aside0 (Calls Tryd.prog 17 #[.slice A6 L1.length c6, .slice A L1.length c] W' fun e W'' => e = .returned (.bool true) ∧ Aside0 (GG w W'' b g t N wr.heap.size 0 f1 L1 A c))) := ⟨fun W h => (h.out.g0.js.ps.used' (Tz.Tb_below HT.out h.out.g0.bel)).mono (by
                  rintro e W' ⟨A6, c6, rfl, hc6, hC6, hB6⟩
                  have h6 := h.out.below hB6
                  refine ⟨A6, c6, rfl, ⟨h6⟩, ⟨(same A6 c6 A c L1 W' hC6 hc6 h6.vw.row h6.vw.len (Nat.le_trans HLn.out HN2.out)).mono ?_⟩⟩
                  rintro e W'' ⟨rfl, m, rfl⟩
                  exact ⟨rfl, ⟨h6.below (pw_below_drewN (Below.refl _ _) m)⟩⟩)⟩
                have CA := Aside0.mk hGG.cells
                clear hGG hY HG3 HLn hFI
                go_region_held3 (fun w' => w'.cell? ⟨t, 0, none⟩ = some (.int .i64 (N : Int)) ∧ w'.cell? ⟨t, 1, none⟩ = some (.slice A L1.length c) ∧ w'.cell? ⟨wr.heap.size, 1, none⟩ = some (.int .i64 f1)) (first | exact CA.out | exact CB.out | exact CD.out) (first | (go_at_call 15; (with_reducible refine (HC1.out _ F1).mono ?_); rintro e w9 ⟨rfl, hw9⟩; subst w9) | (go_at_call 16; (with_reducible refine (HC2.out _ F1).mono ?_); rintro e w9 ⟨rfl, hw9⟩; subst w9) | (go_at_call 9; (with_reducible refine (HC3.out _ F1).mono ?_); rintro e w9 ⟨rfl, hw9⟩; subst w9) | (go_at_call 18; (with_reducible refine (HC4.out _ F1).mono ?_); rintro e w6 ⟨A6, c6, rfl, F6, HS6⟩; have CB := Aside0.mk F6.out.cells) | (go_at_call 17; (with_reducible refine HS6.out.mono ?_); rintro e w7 ⟨rfl, F7⟩; have CD := Aside0.mk F7.out.cells))
                have HE : Hid (∃ L, JS w7 b g t N L L) := hid ⟨_, F7.out.g0.js⟩
                have HB7 := hid F7.out.g0.bel
                clear F1 F6 F7 HS6 HC1 HC2 HC3 HC4 CA CB CD
                go_wp2
                go_roundg k1
                case measure => omega
                case rel => exact ⟨j + 1, congrArg (Value.int .i64) HW.out, hid ⟨by have := HK.out.1; omega, by omega⟩, HE, HB7⟩
              · have cb : (f0 == 0) = false := by simpa using cf
                obtain ⟨L0, hG0⟩ := HG0.out
                have HG1 : Aside0 (G0 w (wr.alloc (.cells #[.int .i64 f0, .int .i64 f1] 36)).drew b g t N wr.heap.size f0 f1 L0 L0) := ⟨hG0.drew⟩
                clear hG0 HG0 cf
                obtain ⟨X, hX⟩ : ∃ X, hasL L0 f1 = X := ⟨_, rfl⟩
                obtain ⟨L1, hL1⟩ : ∃ L1, giveL L0 f1 = L1 := ⟨_, rfl⟩
                have HC1 : Aside0 (∀ W, Aside0 (G0 w W b g t N wr.heap.size f0 f1 L0 L0) → Calls Tryd.prog 11 #[.pointer (some ⟨b, 0, none⟩), .int .i64 f1] W fun e W' => e = .returned (.bool X) ∧ Aside0 (G0 w W' b g t N wr.heap.size f0 f1 L1 L0)) := ⟨fun W h => (h.out.js.ps.give f1).mono (by
                  rintro e W' ⟨rfl, hP, hF⟩
                  rw [hX]
                  rw [hL1] at hP
                  exact ⟨rfl, ⟨h.out.p hP hF⟩⟩)⟩
                have HC2 : Aside0 (∀ W, Aside0 (G0 w W b g t N wr.heap.size f0 f1 L1 L0) → Calls Tryd.prog 14 #[.pointer (some ⟨t, 0, none⟩), .int .i64 f1] W fun e W' => e = .returned (.bool X) ∧ Aside0 (G0 w W' b g t N wr.heap.size f0 f1 L1 L1)) := ⟨fun W h => (h.out.js.ts.give h.out.js.lts f1).mono (by
                  rintro e W' ⟨rfl, hP, hF⟩
                  rw [hX]
                  rw [hL1] at hP
                  exact ⟨rfl, ⟨h.out.t hP hF⟩⟩)⟩
                have hXX : (X == X) = true := by cases X <;> rfl
                clear hX hL1
                have CA := Aside0.mk HG1.out.cell
                go_upto_region 14 with fail
                clear hx hy HJ HB
                go_region_held3 (fun w' => w'.cell? ⟨wr.heap.size, 1, none⟩ = some (.int .i64 f1)) (first | exact CA.out | exact CB.out | exact CD.out) (first | (go_at_call 11; (with_reducible refine (HC1.out _ HG1).mono ?_); rintro e w4 ⟨rfl, HG2⟩; have CB := Aside0.mk HG2.out.cell) | (go_at_call 14; (with_reducible refine (HC2.out _ HG2).mono ?_); rintro e w5 ⟨rfl, HG3⟩; have CD := Aside0.mk HG3.out.cell))
                go_upto_region 15 with fail
                clear HG1 HG2 HC1 HC2 CA CB CD
                obtain ⟨A, c, hGG⟩ := HG3.out.drew.row
                have F1 := Aside0.mk hGG
                have HLn : Aside0 (L1.length ≤ N) := ⟨HG3.out.js.ps.len⟩
                obtain ⟨FI, hFI⟩ : ∃ FI : Int, (N : Int) - (L1.length : Int) = FI := ⟨_, rfl⟩
                have hsub : wrap64 ((N : Int) - (L1.length : Int)) = FI := by
                  have := HLn.out
                  have := HN2.out
                  rw [← hFI]; exact wrap_small _ (by omega) (by omega)
                have hsub2 : IntKind.i64.wrap ((N : Int) - (L1.length : Int)) = FI := (wrap_i64_is _).trans hsub
                have hNN : (FI != FI) = false := bne_self_eq_false FI
                obtain ⟨Y, hY⟩ : ∃ Y, hasL L1 f1 = Y := ⟨_, rfl⟩
                have HC1 : Aside0 (∀ W, Aside0 (GG w W b g t N wr.heap.size f0 f1 L1 A c) → Calls Tryd.prog 15 #[.pointer (some ⟨b, 0, none⟩), .int .i64 f1] W fun e W' => e = .returned (.bool Y) ∧ W' = W) := ⟨fun W h => by rw [← hY]; exact h.out.g0.js.ps.has f1⟩
                have HC2 : Aside0 (∀ W, Aside0 (GG w W b g t N wr.heap.size f0 f1 L1 A c) → Calls Tryd.prog 16 #[.pointer (some ⟨t, 0, none⟩), .int .i64 f1] W fun e W' => e = .returned (.bool Y) ∧ W' = W) := ⟨fun W h => by rw [← hY]; exact h.out.g0.js.ts.has f1⟩
                have HC3 : Aside0 (∀ W, Aside0 (GG w W b g t N wr.heap.size f0 f1 L1 A c) → Calls Tryd.prog 9 #[.pointer (some ⟨b, 0, none⟩)] W fun e W' => e = .returned (.int .i64 FI) ∧ W' = W) := ⟨fun W h => by rw [← hFI]; exact h.out.g0.js.ps.free⟩
                have HC4 : Aside0 (∀ W, Aside0 (GG w W b g t N wr.heap.size f0 f1 L1 A c) → Calls Tryd.prog 18 #[.pointer (some ⟨b, 0, none⟩)] W fun e W' => ∃ A6 c6, e = .returned (.slice A6 L1.length c6) ∧ Aside0 (GG w W' b g t N wr.heap.size f0 f1 L1 A c) ∧ Aside0 (Calls Tryd.prog 17 #[.slice A6 L1.length c6, .slice A L1.length c] W' fun e W'' => e = .returned (.bool true) ∧ Aside0 (GG w W'' b g t N wr.heap.size f0 f1 L1 A c))) := ⟨fun W h => (h.out.g0.js.ps.used' (Tz.Tb_below HT.out h.out.g0.bel)).mono (by
                  rintro e W' ⟨A6, c6, rfl, hc6, hC6, hB6⟩
                  have h6 := h.out.below hB6
                  refine ⟨A6, c6, rfl, ⟨h6⟩, ⟨(same A6 c6 A c L1 W' hC6 hc6 h6.vw.row h6.vw.len (Nat.le_trans HLn.out HN2.out)).mono ?_⟩⟩
                  rintro e W'' ⟨rfl, m, rfl⟩
                  exact ⟨rfl, ⟨h6.below (pw_below_drewN (Below.refl _ _) m)⟩⟩)⟩
                have CA := Aside0.mk hGG.cells
                clear hGG hY HG3 HLn hFI
                go_region_held3 (fun w' => w'.cell? ⟨t, 0, none⟩ = some (.int .i64 (N : Int)) ∧ w'.cell? ⟨t, 1, none⟩ = some (.slice A L1.length c) ∧ w'.cell? ⟨wr.heap.size, 1, none⟩ = some (.int .i64 f1)) (first | exact CA.out | exact CB.out | exact CD.out) (first | (go_at_call 15; (with_reducible refine (HC1.out _ F1).mono ?_); rintro e w9 ⟨rfl, hw9⟩; subst w9) | (go_at_call 16; (with_reducible refine (HC2.out _ F1).mono ?_); rintro e w9 ⟨rfl, hw9⟩; subst w9) | (go_at_call 9; (with_reducible refine (HC3.out _ F1).mono ?_); rintro e w9 ⟨rfl, hw9⟩; subst w9) | (go_at_call 18; (with_reducible refine (HC4.out _ F1).mono ?_); rintro e w6 ⟨A6, c6, rfl, F6, HS6⟩; have CB := Aside0.mk F6.out.cells) | (go_at_call 17; (with_reducible refine HS6.out.mono ?_); rintro e w7 ⟨rfl, F7⟩; have CD := Aside0.mk F7.out.cells))
                have HE : Hid (∃ L, JS w7 b g t N L L) := hid ⟨_, F7.out.g0.js⟩
                have HB7 := hid F7.out.g0.bel
                clear F1 F6 F7 HS6 HC1 HC2 HC3 HC4 CA CB CD
                go_wp2
                go_roundg k1
                case measure => omega
                case rel => exact ⟨j + 1, congrArg (Value.int .i64) HW.out, hid ⟨by have := HK.out.1; omega, by omega⟩, HE, HB7⟩
            · have c4b0 : decide (j < l2.length) = false := decide_eq_false cj
              go_wp2
              go_ret
              exact ⟨rfl, HB.out⟩
end Go.Proofs.YtlojhiacaleokaaDoor.Pa
