/- stat.Of: the tally of done calls. -/
import Derived.Test.YtbbpjjbgdemmpaaSa
namespace Go.Proofs.Ytbbpjjbgdemmpaa.PStat
open Go.RowKit Go.Proofs.YtbbpjjbgdemmpaaW.PrintWords Go.Proofs.YtbbpjjbgdemmpaaW.PrintLast Go.Proofs.YtbbpjjbgdemmpaaW.PrintMore
set_option linter.unusedVariables false
set_option linter.unusedSimpArgs false
/-- What a done call counts as: failed, a write, a sync. -/
def isF (x : S54) : Bool := decide (er x ≠ 0)
def isW (x : S54) : Bool := decide (er x = 0) && (decide (kd x = 4) || decide (kd x = 6))
def isS (x : S54) : Bool := decide (er x = 0) && !(decide (kd x = 4) || decide (kd x = 6)) && (decide (kd x = 8) || decide (kd x = 9))
def nF (l : List S54) : Nat := l.countP isF
def nW (l : List S54) : Nat := l.countP isW
def nS (l : List S54) : Nat := l.countP isS
theorem cp_snoc (p : S54 → Bool) (l : List S54) (j : Nat) (h : j < l.length) : (l.take (j + 1)).countP p = (l.take j).countP p + if p l[j] then 1 else 0 := by
  rw [List.take_succ_eq_append_getElem h, List.countP_append, List.countP_cons, List.countP_nil, Nat.zero_add]
theorem cp_le (p : S54 → Bool) (l : List S54) (j : Nat) : (l.take j).countP p ≤ j := Nat.le_trans List.countP_le_length (by rw [List.length_take]; omega)
def tally (a b c d : Nat) : Array Value := #[.int .i64 (a : Int), .int .i64 (b : Int), .int .i64 (c : Int), .int .i64 (d : Int), .int .i64 0, .int .i64 0]
theorem below_row {B g : Nat} {w0 w : World} (hb : Below B w0 w) (hg : B ≤ g) (cs : Array Value) : Below B w0 (w.setRow g cs) :=
  ⟨hb.os, hb.tape, hb.output, by rw [setRow_size]; exact hb.size, fun k hk => (setRow_other w g k cs (by omega)).trans (hb.block k hk)⟩
theorem tally_one (a b c d : Nat) : (tally a b c d).all (·.oneCell') = true := by simp [tally, Value.oneCell']
theorem cls1 {x : S54} (h : (er x != 0) = true) : isF x = true ∧ isW x = false ∧ isS x = false := by
  have : er x ≠ 0 := by simpa using h
  simp [isF, isW, isS, this]
theorem cls2 {x : S54} (h : (er x != 0) = false) (h2 : kd x = 4 ∨ kd x = 6) : isF x = false ∧ isW x = true ∧ isS x = false := by
  have : er x = 0 := by simpa using h
  rcases h2 with h2 | h2 <;> simp [isF, isW, isS, this, h2]
theorem cls3 {x : S54} (h : (er x != 0) = false) (h2 : ¬ kd x = 4 ∧ ¬ kd x = 6) (h3 : kd x = 8 ∨ kd x = 9) : isF x = false ∧ isW x = false ∧ isS x = true := by
  have : er x = 0 := by simpa using h
  simp [isF, isW, isS, this, h2, h3]
theorem cls4 {x : S54} (h : (er x != 0) = false) (h2 : ¬ kd x = 4 ∧ ¬ kd x = 6) (h3 : ¬ kd x = 8 ∧ ¬ kd x = 9) : isF x = false ∧ isW x = false ∧ isS x = false := by
  have : er x = 0 := by simpa using h
  simp [isF, isW, isS, this, h2, h3]
theorem cls5 {x : S54} (h : (er x != 0) = false) (h2 : ¬ kd x = 4 ∧ ¬ kd x = 6) (h3 : (kd x == 8) = true ∨ (kd x == 9) = true) : isF x = false ∧ isW x = false ∧ isS x = true := cls3 h h2 (by simpa using h3)
theorem cls6 {x : S54} (h : (er x != 0) = false) (h2 : ¬ kd x = 4 ∧ ¬ kd x = 6) (h3 : (kd x == 8) = false ∧ (kd x == 9) = false) : isF x = false ∧ isW x = false ∧ isS x = false := cls4 h h2 (by simpa using h3)
theorem writes_calls (a0 a1 a2 a3 a4 : Int) (a5 a6 : ByteArray) (A : Option Addr) (c : Nat) (l : List Int) (w : World) (hr : Kd.C (Kd.int .u8) w A l.length l) (hc : l.length ≤ c) :
    Calls Try.prog 50 #[.agg #[.int .i64 a0, .int .i64 a1, .int .i64 a2, .int .i64 a3, .int .i64 a4, .string a5, .string a6, .slice A l.length c]] w fun e w' => e = .returned (.bool (decide (a0 = 4) || decide (a0 = 6))) ∧ Below w.heap.size w w' :=
  call_Writes.calls a0 a1 a2 a3 a4 a5 a6 A c l _ w hr hc (by
    unfold call_Writes.f
    by_cases h : a0 = 4
    · rw [if_pos h, decide_eq_true h]; rfl
    · rw [if_neg h, decide_eq_false h, Bool.false_or]; rfl)
set_option maxHeartbeats 8000000 in
theorem of_calls (A0 : Option Addr) (c0 : Nat) (l : List S54) (w : World) (hr0 : Kd.C k54 w A0 l.length l) (hm : l.length ≤ 1000000000) :
    Calls Try.prog 37 #[.slice A0 l.length c0] w fun e w' => e = .returned (.agg (tally l.length (nF l) (nW l) (nS l))) ∧ Below w.heap.size w w' := by
  have HR := Aside0.mk hr0
  clear hr0
  go_enter Try.func37, Try.ntmps37
  go_wp2
  go_loopg [8] (l.length + 1) (fun kq v8 w' => ∃ j : Nat, v8 = .int .i64 (j : Int) ∧ Aside0 (j + kq = l.length + 1 ∧ j ≤ l.length) ∧ Aside0 (w'.heap[w.heap.size]? = some (.cells (tally 0 0 0 0) 56 (0, 0))) ∧ Aside0 (w'.heap[w.heap.size + 1]? = some (.cells (tally j (nF (l.take j)) (nW (l.take j)) (nS (l.take j))) 56 (0, 0))) ∧ Aside0 (Below w.heap.size w w'))
  case atStart =>
    refine ⟨0, rfl, ⟨by omega, by omega⟩, ⟨?_⟩, ⟨?_⟩, ⟨below_alloc (below_alloc (Below.refl _ _) _) _⟩⟩
    · exact blk_alloc (blk_new w _) _
    · have := blk_new (w.alloc (.cells (tally 0 0 0 0) 56)) (.cells (tally 0 0 0 0) 56)
      rw [World.size_alloc] at this
      exact this
  case round =>
    obtain ⟨j, rfl, HJ, HZ, HT, HB⟩ := hrel
    have hj := HJ.out.2
    cases gk with
    | zero => exact absurd HJ.out.1 (by omega)
    | succ k1 =>
      by_cases c : j < l.length
      · have q0 : (j : Int) < (l.length : Int) := by omega
        obtain ⟨ad, CS, A8, c8, A14, c14, rfl, hcell, E, hC8, hl8⟩ := elem HR.out j c
        have HCL : Aside0 (∀ q v, CS[q]? = some v → wr.cell? ((ad.add (j * 18)).add q) = some v) := ⟨fun q v hq => pw_cell_below HB.out (hcell q v hq)⟩
        have HE := Aside0.mk E
        have e1 := E.c1; have e2 := E.c2; have e3 := E.c3; have e4 := E.c4; have e5 := E.c5; have e6 := E.c6; have e7 := E.c7; have e8 := E.c8; have e9 := E.c9
        obtain ⟨a, ha⟩ : ∃ a, a = nF (l.take j) := ⟨_, rfl⟩
        obtain ⟨b, hb⟩ : ∃ b, b = nW (l.take j) := ⟨_, rfl⟩
        obtain ⟨d, hd⟩ : ∃ d, d = nS (l.take j) := ⟨_, rfl⟩
        have la : a ≤ j := by rw [ha]; exact cp_le _ _ _
        have lb : b ≤ j := by rw [hb]; exact cp_le _ _ _
        have ld : d ≤ j := by rw [hd]; exact cp_le _ _ _
        have SA : Aside0 (nF (l.take (j + 1)) = a + if isF l[j] then 1 else 0) := ⟨by rw [ha]; exact cp_snoc _ _ _ c⟩
        have SB : Aside0 (nW (l.take (j + 1)) = b + if isW l[j] then 1 else 0) := ⟨by rw [hb]; exact cp_snoc _ _ _ c⟩
        have SD : Aside0 (nS (l.take (j + 1)) = d + if isS l[j] then 1 else 0) := ⟨by rw [hd]; exact cp_snoc _ _ _ c⟩
        rw [← ha, ← hb, ← hd] at HT
        clear ha hb hd
        have t0 : wr.cell? ⟨w.heap.size + 1, 0, none⟩ = some (.int .i64 (j : Int)) := (blk_cell HT.out 0).trans rfl
        have t1 : wr.cell? ⟨w.heap.size + 1, 1, none⟩ = some (.int .i64 (a : Int)) := (blk_cell HT.out 1).trans rfl
        have f0 := blk_frozen HT.out 0
        have f1 := blk_frozen HT.out 1
        have hlt := blk_lt HT.out
        have hne : w.heap.size + 1 ≠ wr.heap.size := by omega
        have HT0 : Aside0 ((wr.setCell ⟨w.heap.size + 1, 0, none⟩ (.int .i64 ((j : Int) + 1))).heap[w.heap.size + 1]? = some (.cells (tally (j + 1) a b d) 56 (0, 0))) := ⟨by
          have := blk_set HT.out 0 (.int .i64 ((j : Int) + 1))
          exact this⟩
        have HZ0 : Aside0 ((wr.setCell ⟨w.heap.size + 1, 0, none⟩ (.int .i64 ((j : Int) + 1))).heap[w.heap.size]? = some (.cells (tally 0 0 0 0) 56 (0, 0))) := ⟨blk_far HZ.out (by show w.heap.size ≠ _; simp) _⟩
        have HB0 : Aside0 (Below w.heap.size w (wr.setCell ⟨w.heap.size + 1, 0, none⟩ (.int .i64 ((j : Int) + 1)))) := ⟨below_set HB.out (Nat.le_succ _)⟩
        have HCall : Aside0 (Calls Try.prog 50 #[.agg #[.int .i64 (kd l[j]), .int .i64 l[j].f1.f1, .int .i64 l[j].f1.f2, .int .i64 l[j].f1.f3, .int .i64 l[j].f1.f4, .string l[j].f1.f5, .string l[j].f1.f6, .slice A8 (dl l[j]) c8]] ((wr.setCell ⟨w.heap.size + 1, 0, none⟩ (.int .i64 ((j : Int) + 1))).alloc (.cells CS 54)) fun e w4 => e = .returned (.bool (decide (kd l[j] = 4) || decide (kd l[j] = 6))) ∧
            Aside0 (w4.heap[w.heap.size + 1]? = some (.cells (tally (j + 1) a b d) 56 (0, 0))) ∧ Aside0 (w4.heap[w.heap.size]? = some (.cells (tally 0 0 0 0) 56 (0, 0))) ∧ w4.heap[wr.heap.size]? = some (.cells CS 54 (0, 0)) ∧ Aside0 (Below w.heap.size w w4)) := ⟨by
          have hC := Kd.C_alloc (w := wr.setCell ⟨w.heap.size + 1, 0, none⟩ (.int .i64 ((j : Int) + 1))) (Kd.C_below hC8 HB0.out) (.cells CS 54)
          refine (writes_calls _ _ _ _ _ _ _ A8 c8 _ _ hC hl8).mono ?_
          rintro e w4 ⟨rfl, hb4⟩
          refine ⟨rfl, ⟨blk_below (blk_alloc HT0.out _) hb4⟩, ⟨blk_below (blk_alloc HZ0.out _) hb4⟩, ?_, ⟨below_step (below_alloc HB0.out _) hb4⟩⟩
          have := blk_below (blk_new (wr.setCell ⟨w.heap.size + 1, 0, none⟩ (.int .i64 ((j : Int) + 1))) (.cells CS 54)) hb4
          rw [World.size_setCell] at this
          exact this⟩
        clear hcell E hC8 HT HZ
        go_wp2_with (first | ((with_reducible refine L.wpList_load_cells (o := ⟨some 11, _, _, _, _, _⟩) ?hgd 54 (.tmp 10) ?ho (ad.add (j * 18)) ?hx CS _ HCL.out Try.underlying54 ?hd (hi54 HE.out.sz) ?_); (case hgd => rfl); (case ho => rfl); (case hx => rfl); (case hd => rfl)) | ((with_reducible refine L.wpList_store_new rfl 54 _ _ rfl 54 _ CS ?hx ?hy (hi54 HE.out.sz) ?ho HE.out.one ?_); (case hx => rfl); (case hy => rfl); (case ho => rw [HE.out.sz]; kernel_rfl)) | (go_at_call 50; refine HCall.out.mono ?_; rintro e w4 ⟨rfl, HT4, HZ4, hX, HB4⟩; have u2 : w4.cell? ⟨w.heap.size + 1, 2, none⟩ = some (.int .i64 (b : Int)) := (blk_cell HT4.out 2).trans rfl; have u3 : w4.cell? ⟨w.heap.size + 1, 3, none⟩ = some (.int .i64 (d : Int)) := (blk_cell HT4.out 3).trans rfl; have g2 := blk_frozen HT4.out 2; have g3 := blk_frozen HT4.out 3; have x1 := (blk_cell hX 1).trans e1; clear hX))
        · obtain ⟨qF, qW, qS⟩ := cls1 (x := l[j]) (by assumption)
          rw [qF] at SA; rw [qW] at SB; rw [qS] at SD
          simp only [if_true, Bool.false_eq_true, if_false, Nat.add_zero] at SA SB SD
          go_roundg k1
          case measure => omega
          case rel =>
            refine ⟨j + 1, by go_num, ⟨by have := HJ.out.1; omega, by omega⟩, ⟨?_⟩, ⟨?_⟩, ⟨?_⟩⟩
            · exact blk_alloc (blk_far HZ0.out (by show w.heap.size ≠ _; simp) _) _
            · rw [SA.out, SB.out, SD.out]; exact blk_alloc (blk_set HT0.out 1 (.int .i64 ((a : Int) + 1))) _
            · exact below_alloc (below_set HB0.out (Nat.le_succ _)) _
        · obtain ⟨qF, qW, qS⟩ := cls2 (x := l[j]) (by assumption) (by assumption)
          rw [qF] at SA; rw [qW] at SB; rw [qS] at SD
          simp only [if_true, Bool.false_eq_true, if_false, Nat.add_zero] at SA SB SD
          go_roundg k1
          case measure => omega
          case rel =>
            refine ⟨j + 1, by go_num, ⟨by have := HJ.out.1; omega, by omega⟩, ⟨?_⟩, ⟨?_⟩, ⟨?_⟩⟩
            · exact blk_far HZ4.out (by show w.heap.size ≠ _; simp) _
            · rw [SA.out, SB.out, SD.out]; exact blk_set HT4.out 2 (.int .i64 ((b : Int) + 1))
            · exact below_set HB4.out (Nat.le_succ _)
        · obtain ⟨qF, qW, qS⟩ := cls3 (x := l[j]) (by assumption) (by assumption) (Or.inl (by assumption))
          rw [qF] at SA; rw [qW] at SB; rw [qS] at SD
          simp only [if_true, Bool.false_eq_true, if_false, Nat.add_zero] at SA SB SD
          go_roundg k1
          case measure => omega
          case rel =>
            refine ⟨j + 1, by go_num, ⟨by have := HJ.out.1; omega, by omega⟩, ⟨?_⟩, ⟨?_⟩, ⟨?_⟩⟩
            · exact blk_far HZ4.out (by show w.heap.size ≠ _; simp) _
            · rw [SA.out, SB.out, SD.out]; exact blk_set HT4.out 3 (.int .i64 ((d : Int) + 1))
            · exact below_set HB4.out (Nat.le_succ _)
        · obtain ⟨qF, qW, qS⟩ := cls5 (x := l[j]) (by assumption) (by assumption) (by assumption)
          rw [qF] at SA; rw [qW] at SB; rw [qS] at SD
          simp only [if_true, Bool.false_eq_true, if_false, Nat.add_zero] at SA SB SD
          go_roundg k1
          case measure => omega
          case rel =>
            refine ⟨j + 1, by go_num, ⟨by have := HJ.out.1; omega, by omega⟩, ⟨?_⟩, ⟨?_⟩, ⟨?_⟩⟩
            · exact blk_far HZ4.out (by show w.heap.size ≠ _; simp) _
            · rw [SA.out, SB.out, SD.out]; exact blk_set HT4.out 3 (.int .i64 ((d : Int) + 1))
            · exact below_set HB4.out (Nat.le_succ _)
        · obtain ⟨qF, qW, qS⟩ := cls6 (x := l[j]) (by assumption) (by assumption) (by assumption)
          rw [qF] at SA; rw [qW] at SB; rw [qS] at SD
          simp only [if_true, Bool.false_eq_true, if_false, Nat.add_zero] at SA SB SD
          go_roundg k1
          case measure => omega
          case rel =>
            refine ⟨j + 1, by go_num, ⟨by have := HJ.out.1; omega, by omega⟩, ⟨?_⟩, ⟨?_⟩, ⟨?_⟩⟩
            · exact HZ4.out
            · rw [SA.out, SB.out, SD.out]; exact HT4.out
            · exact HB4.out
      · have q0 : ¬ (j : Int) < (l.length : Int) := by omega
        obtain rfl : j = l.length := by omega
        rw [List.take_length] at HT
        have h6 : (Try.prog.info? 56).map (·.size) = some (tally l.length (nF l) (nW l) (nS l)).size := by kernel_rfl
        go_wp2_with (first | ((with_reducible refine wpList_load_row (o := ⟨some 49, _, _, _, _, _⟩) ?hgd 56 (.tmp 3) ?ho (w.heap.size + 1) ?hx 56 (tally l.length (nF l) (nW l) (nS l)) (0, 0) _ HT.out Try.underlying56 ?hd h6 ?_); (case hgd => rfl); (case ho => rfl); (case hx => rfl); (case hd => rfl)) | ((with_reducible refine wpList_store_row rfl 56 _ _ rfl w.heap.size (tally l.length (nF l) (nW l) (nS l)) ?hx ?hy 56 _ HZ.out h6 ?ho ?h1 ?_); (case hx => rfl); (case hy => rfl); (case ho => rfl); (case h1 => exact tally_one _ _ _ _)))

        exact bodyPost_ret (v := .agg (tally l.length (nF l) (nW l) (nS l))) (L.results_c Try.results37 _ _ w.heap.size 56 (tally l.length (nF l) (nW l) (nS l)) (0, 0) _ rfl (setRow_heap _ _ _ _ _ _ HZ.out) Try.underlying56 rfl h6) rfl ⟨rfl, below_row HB.out (Nat.le_refl _) _⟩
end Go.Proofs.Ytbbpjjbgdemmpaa.PStat
