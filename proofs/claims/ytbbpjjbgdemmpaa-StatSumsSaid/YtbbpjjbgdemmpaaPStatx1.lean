-- Written by a program of this session: the printer, with contracts put in that were proved by hand. Lean checks it.
import Derived.Test.YtbbpjjbgdemmpaaPStatx0
namespace Go.Proofs.Ytbbpjjbgdemmpaa.PStat
open Go.RowKit Go.Proofs.YtbbpjjbgdemmpaaW.PrintWords Go.Proofs.YtbbpjjbgdemmpaaW.PrintLast Go.Proofs.YtbbpjjbgdemmpaaW.PrintMore
attribute [local go_sem] L.setCell_drewN max2_int min2_int max_two min_two max_three min_three max_four min_four   -- for this text's walks alone
set_option linter.unusedVariables false
set_option linter.unusedSimpArgs false

/-! ### call_Writes: function 50 -/
def call_Writes.f (a0_0 : Int) (a0_1 : Int) (a0_2 : Int) (a0_3 : Int) (a0_4 : Int) (a0_5 : ByteArray) (a0_6 : ByteArray) (l0_7 : List Int) : Option (Bool) := if a0_0 = 4 then (some true) else (some (a0_0 == 6))
set_option maxHeartbeats 8000000 in
set_option maxRecDepth 100000 in
theorem call_Writes.calls (a0_0 : Int) (a0_1 : Int) (a0_2 : Int) (a0_3 : Int) (a0_4 : Int) (a0_5 : ByteArray) (a0_6 : ByteArray) (A0_7 : Option Addr) (c0_7 : Nat) (l0_7 : List Int) (r : Bool) (w : World) (hr0_7 : Kd.C (Kd.int .u8) w A0_7 l0_7.length l0_7) (hc0_7 : l0_7.length ≤ c0_7) (h : call_Writes.f a0_0 a0_1 a0_2 a0_3 a0_4 a0_5 a0_6 l0_7 = some r) :
    Calls Try.prog 50 #[.agg #[.int .i64 a0_0, .int .i64 a0_1, .int .i64 a0_2, .int .i64 a0_3, .int .i64 a0_4, .string a0_5, .string a0_6, .slice A0_7 l0_7.length c0_7]] w fun e w' => e = .returned (.bool r) ∧ Below w.heap.size w w' := by
  have hu40 := Try.underlying40
  have HR0_7 := Aside0.mk hr0_7
  have HC0_7 := Aside0.mk hc0_7
  clear hr0_7 hc0_7
  have HB := Aside0.mk (Below.refl w.heap.size w)
  have H : (if a0_0 = 4 then (some true) else (some (a0_0 == 6))) = some r := h
  clear h
  by_cases c2 : a0_0 = 4
  · rw [if_pos c2] at H
    have c2b0 : (a0_0 == 4) = true := beq_iff_eq.mpr c2
    have c2b1 : (a0_0 != 4) = false := bne_eq_false_iff_eq.mpr c2
    clear c2
    obtain rfl := Option.some.inj H
    go_enter Try.func50, Try.ntmps50
    go_wp2_with (first | ((with_reducible refine gate_dst (N := 1) rfl ?_); refine box_event ?hg (N := 1) ?hd (cs := #[.int .i64 a0_0, .int .i64 a0_1, .int .i64 a0_2, .int .i64 a0_3, .int .i64 a0_4, .string a0_5, .string a0_6, .slice A0_7 l0_7.length c0_7]) (t := 40) ?hr ?_; (case hd => rfl); (case hg => rfl); (case hr => first | (go_simp; done) | (go_simp; rfl)); intro gb101 hg w3 hbox hb; have n0_ := Aside0.mk (below_step (by repeat (first | (with_reducible first | exact HB.out | apply below_alloc | apply pw_below_drewN | apply below_drew1) | exact HB.out)) hb); have n1_ := Aside0.mk (hbox); have n2_ := Aside0.mk ((by rw [hg]; exact (below_size (by repeat (first | (with_reducible first | exact HB.out | apply below_alloc | apply pw_below_drewN | apply below_drew1) | exact HB.out))) : w.heap.size ≤ gb101)); have n3_ := Aside0.mk ((by rw [hg]; exact (below_size (by repeat (first | (with_reducible first | exact HB.out | apply below_alloc | apply pw_below_drewN | apply below_drew1) | exact HB.out))) : w.heap.size ≤ gb101)); clear HB; have HB := n0_; have BK101 := n1_; have GW101 := n2_; have GE101 := n3_; clear n0_ n1_ n2_ n3_; clear hb hbox hg; have hcz4_0 : w3.cell? ⟨gb101, 0, none⟩ = some (.int .i64 a0_0) := (blk_cell BK101.out 0).trans rfl; have hcz4_1 : w3.cell? ⟨gb101, 1, none⟩ = some (.int .i64 a0_1) := (blk_cell BK101.out 1).trans rfl; have hcz4_2 : w3.cell? ⟨gb101, 2, none⟩ = some (.int .i64 a0_2) := (blk_cell BK101.out 2).trans rfl; have hcz4_3 : w3.cell? ⟨gb101, 3, none⟩ = some (.int .i64 a0_3) := (blk_cell BK101.out 3).trans rfl; have hcz4_4 : w3.cell? ⟨gb101, 4, none⟩ = some (.int .i64 a0_4) := (blk_cell BK101.out 4).trans rfl; have hcz4_5 : w3.cell? ⟨gb101, 5, none⟩ = some (.string a0_5) := (blk_cell BK101.out 5).trans rfl; have hcz4_6 : w3.cell? ⟨gb101, 6, none⟩ = some (.string a0_6) := (blk_cell BK101.out 6).trans rfl; have hcz4_7 : w3.cell? ⟨gb101, 7, none⟩ = some (.slice A0_7 l0_7.length c0_7) := (blk_cell BK101.out 7).trans rfl; have hfz4_0 := blk_frozen BK101.out 0; have hfz4_1 := blk_frozen BK101.out 1; have hfz4_2 := blk_frozen BK101.out 2; have hfz4_3 := blk_frozen BK101.out 3; have hfz4_4 := blk_frozen BK101.out 4; have hfz4_5 := blk_frozen BK101.out 5; have hfz4_6 := blk_frozen BK101.out 6; have hfz4_7 := blk_frozen BK101.out 7))
    go_ret
    exact ⟨by first | rfl | (simp [errW_none, errW_some] <;> rfl) | (simp [*, errW_none, errW_some] <;> rfl) | (refine L.ret_bool ?_; rw [Bool.eq_iff_iff]; simp; done) | (refine L.ret_bool ?_; rw [Bool.eq_iff_iff]; simp [*]; done), by repeat (first | (with_reducible first | exact HB.out | apply below_alloc | apply pw_below_drewN | apply below_drew1 | refine below_set ?_ GE101.out) | exact HB.out)⟩
  · rw [if_neg c2] at H
    have c2b0 : (a0_0 == 4) = false := beq_eq_false_iff_ne.mpr c2
    have c2b1 : (a0_0 != 4) = true := bne_iff_ne.mpr c2
    obtain rfl := Option.some.inj H
    go_enter Try.func50, Try.ntmps50
    go_wp2_with (first | ((with_reducible refine gate_dst (N := 1) rfl ?_); refine box_event ?hg (N := 1) ?hd (cs := #[.int .i64 a0_0, .int .i64 a0_1, .int .i64 a0_2, .int .i64 a0_3, .int .i64 a0_4, .string a0_5, .string a0_6, .slice A0_7 l0_7.length c0_7]) (t := 40) ?hr ?_; (case hd => rfl); (case hg => rfl); (case hr => first | (go_simp; done) | (go_simp; rfl)); intro gb101 hg w5 hbox hb; have n0_ := Aside0.mk (below_step (by repeat (first | (with_reducible first | exact HB.out | apply below_alloc | apply pw_below_drewN | apply below_drew1) | exact HB.out)) hb); have n1_ := Aside0.mk (hbox); have n2_ := Aside0.mk ((by rw [hg]; exact (below_size (by repeat (first | (with_reducible first | exact HB.out | apply below_alloc | apply pw_below_drewN | apply below_drew1) | exact HB.out))) : w.heap.size ≤ gb101)); have n3_ := Aside0.mk ((by rw [hg]; exact (below_size (by repeat (first | (with_reducible first | exact HB.out | apply below_alloc | apply pw_below_drewN | apply below_drew1) | exact HB.out))) : w.heap.size ≤ gb101)); clear HB; have HB := n0_; have BK101 := n1_; have GW101 := n2_; have GE101 := n3_; clear n0_ n1_ n2_ n3_; clear hb hbox hg; have hcz6_0 : w5.cell? ⟨gb101, 0, none⟩ = some (.int .i64 a0_0) := (blk_cell BK101.out 0).trans rfl; have hcz6_1 : w5.cell? ⟨gb101, 1, none⟩ = some (.int .i64 a0_1) := (blk_cell BK101.out 1).trans rfl; have hcz6_2 : w5.cell? ⟨gb101, 2, none⟩ = some (.int .i64 a0_2) := (blk_cell BK101.out 2).trans rfl; have hcz6_3 : w5.cell? ⟨gb101, 3, none⟩ = some (.int .i64 a0_3) := (blk_cell BK101.out 3).trans rfl; have hcz6_4 : w5.cell? ⟨gb101, 4, none⟩ = some (.int .i64 a0_4) := (blk_cell BK101.out 4).trans rfl; have hcz6_5 : w5.cell? ⟨gb101, 5, none⟩ = some (.string a0_5) := (blk_cell BK101.out 5).trans rfl; have hcz6_6 : w5.cell? ⟨gb101, 6, none⟩ = some (.string a0_6) := (blk_cell BK101.out 6).trans rfl; have hcz6_7 : w5.cell? ⟨gb101, 7, none⟩ = some (.slice A0_7 l0_7.length c0_7) := (blk_cell BK101.out 7).trans rfl; have hfz6_0 := blk_frozen BK101.out 0; have hfz6_1 := blk_frozen BK101.out 1; have hfz6_2 := blk_frozen BK101.out 2; have hfz6_3 := blk_frozen BK101.out 3; have hfz6_4 := blk_frozen BK101.out 4; have hfz6_5 := blk_frozen BK101.out 5; have hfz6_6 := blk_frozen BK101.out 6; have hfz6_7 := blk_frozen BK101.out 7))
    go_ret
    exact ⟨by first | rfl | (simp [errW_none, errW_some] <;> rfl) | (simp [*, errW_none, errW_some] <;> rfl) | (refine L.ret_bool ?_; rw [Bool.eq_iff_iff]; simp; done) | (refine L.ret_bool ?_; rw [Bool.eq_iff_iff]; simp [*]; done), by repeat (first | (with_reducible first | exact HB.out | apply below_alloc | apply pw_below_drewN | apply below_drew1 | refine below_set ?_ GE101.out) | exact HB.out)⟩

-- NOT PRINTED: function 37 (stat_Of)


/-! ### sumplaw39_awake: function 33 -/
def sumplaw39_awake.f : Option (Bool) := some true
abbrev sumplaw39_awake.CS : Array Value := #[.int .i64 0, .int .i64 9, .int .i64 0, .int .i64 0, .int .i64 0, .int .i64 0, .string ⟨#[]⟩, .string ⟨#[]⟩, .slice none 0 0, .int .i64 0, .int .i64 0, .int .i64 0, .int .i64 0, .int .i64 0, .slice none 0 0, .slice none 0 0, .int .i64 0, .int .i64 0]
set_option maxHeartbeats 1000000 in
theorem sumplaw39_awake.wr1 (w : World) : Calls Try.prog 50 #[.agg #[.int .i64 9, .int .i64 0, .int .i64 0, .int .i64 0, .int .i64 0, .string ⟨#[]⟩, .string ⟨#[]⟩, .slice none 0 0]] w fun e w' => e = .returned (.bool false) ∧ Below w.heap.size w w' := by
  go_enter Try.func50, Try.ntmps50
  go_wp2
  go_ret
  exact ⟨rfl, (Below.refl _ _).alloc (Nat.le_refl _) _⟩
theorem sumplaw39_awake.of_facts {w w4 : World} {A B C : Array Value} {ta tb tc : TypeId} (hb : Below (((w.alloc (.cells A ta)).alloc (.cells B tb)).alloc (.cells C tc)).heap.size (((w.alloc (.cells A ta)).alloc (.cells B tb)).alloc (.cells C tc)) w4) :
    w4.heap[w.heap.size]? = some (.cells A ta (0, 0)) ∧ w4.heap[w.heap.size + 1]? = some (.cells B tb (0, 0)) ∧ w4.heap[w.heap.size + 1 + 1]? = some (.cells C tc (0, 0)) ∧ w.heap.size + 1 + 1 < w4.heap.size ∧ Below w.heap.size w w4 := by
  have hs := hb.size
  simp only [World.size_alloc] at hs
  have h1 : (w.alloc (.cells A ta)).heap[w.heap.size]? = some (.cells A ta (0, 0)) := blk_new w _
  have h2 : ((w.alloc (.cells A ta)).alloc (.cells B tb)).heap[w.heap.size + 1]? = some (.cells B tb (0, 0)) := by
    have := blk_new (w.alloc (.cells A ta)) (.cells B tb); rw [World.size_alloc] at this; exact this
  have h3 : (((w.alloc (.cells A ta)).alloc (.cells B tb)).alloc (.cells C tc)).heap[w.heap.size + 1 + 1]? = some (.cells C tc (0, 0)) := by
    have := blk_new ((w.alloc (.cells A ta)).alloc (.cells B tb)) (.cells C tc); rw [World.size_alloc, World.size_alloc] at this; exact this
  refine ⟨blk_below (blk_alloc (blk_alloc h1 _) _) hb, blk_below (blk_alloc h2 _) hb, blk_below h3 hb, by omega, ?_⟩
  exact ((((Below.refl _ _).alloc (Nat.le_refl _) _).alloc (by simp) _).alloc (by simp; omega) _).trans (hb.mono (by simp; omega))
set_option maxRecDepth 100000 in
set_option maxHeartbeats 4000000 in
theorem sumplaw39_awake.of1 (b : Nat) (w : World) (hb : w.heap[b]? = some (.cells sumplaw39_awake.CS 54 (0, 0))) :
    Calls Try.prog 37 #[.slice (some ⟨b, 0, none⟩) 1 1] w fun e w' => e = .returned (.agg #[.int .i64 1, .int .i64 0, .int .i64 0, .int .i64 1, .int .i64 0, .int .i64 0]) ∧ Below w.heap.size w w' := by
  have hlt := blk_lt hb
  have hb0 := Aside0.mk hb
  clear hb
  go_enter Try.func37, Try.ntmps37
  go_wp2
  refine wp_loop_rounds 2 ?_
  rw [rounds_succ]
  go_wp2_with (first | ((with_reducible refine wpList_load_row (o := ⟨some 11, _, _, _, _, _⟩) ?hgd 54 (.tmp 10) ?ho b ?hx 54 sumplaw39_awake.CS (0, 0) _ ?hg Try.underlying54 ?hd ?hi ?_); (case hgd => rfl); (case ho => rfl); (case hx => rfl); (case hg => exact blk_alloc (blk_alloc hb0.out _) _); (case hd => rfl); (case hi => kernel_rfl)) | ((with_reducible refine L.wpList_store_new rfl 54 _ _ rfl 54 _ sumplaw39_awake.CS ?hx ?hy ?hi ?ho ?h1 ?_); (case hx => rfl); (case hy => rfl); (case hi => kernel_rfl); (case ho => kernel_rfl); (case h1 => kernel_rfl)) | (go_at_call 50; (with_reducible refine (sumplaw39_awake.wr1 _).mono ?_); rintro e w4 ⟨rfl, hb4⟩; obtain ⟨hR, hT, hX, hz4, hbb⟩ := sumplaw39_awake.of_facts hb4; have HBB := Aside0.mk hbb; have hR := Aside0.mk hR; have ht0 := blk_cell hT 0; have ht1 := blk_cell hT 1; have ht2 := blk_cell hT 2; have ht3 := blk_cell hT 3; have ht4 := blk_cell hT 4; have ht5 := blk_cell hT 5; have hr0 := blk_cell hR.out 0; have hr1 := blk_cell hR.out 1; have hr2 := blk_cell hR.out 2; have hr3 := blk_cell hR.out 3; have hr4 := blk_cell hR.out 4; have hr5 := blk_cell hR.out 5; have hx1 := blk_cell hX 1; have ft0 := blk_frozen hT 3; have fr0 := blk_frozen hR.out 0; have fr1 := blk_frozen hR.out 1; have fr2 := blk_frozen hR.out 2; have fr3 := blk_frozen hR.out 3; have fr4 := blk_frozen hR.out 4; have fr5 := blk_frozen hR.out 5; have HT := Aside0.mk hT; simp only [List.getElem?_toArray, List.getElem?_cons_zero, List.getElem?_cons_succ] at ht0 ht1 ht2 ht3 ht4 ht5 hr0 hr1 hr2 hr3 hr4 hr5 hx1; clear hb4 hbb hT hX))
  rw [rounds_succ]
  go_wp2
  exact bodyPost_ret (v := .agg #[.int .i64 1, .int .i64 0, .int .i64 0, .int .i64 1, .int .i64 0, .int .i64 0]) (L.results_c Try.results37 _ _ w.heap.size 56 #[.int .i64 1, .int .i64 0, .int .i64 0, .int .i64 1, .int .i64 0, .int .i64 0] (0, 0) _ rfl ((blk_set (blk_set (blk_set (blk_set (blk_set (blk_set (blk_far hR.out (p := ⟨w.heap.size + 1, 3, none⟩) (Nat.ne_of_lt (Nat.lt_succ_self _)) _) 0 _) 1 _) 2 _) 3 _) 4 _) 5 _).trans rfl) Try.underlying56 rfl (by kernel_rfl)) rfl ⟨rfl, below_set (below_set (below_set (below_set (below_set (below_set (below_set HBB.out (Nat.le_succ _)) (Nat.le_refl _)) (Nat.le_refl _)) (Nat.le_refl _)) (Nat.le_refl _)) (Nat.le_refl _)) (Nat.le_refl _)⟩
set_option maxRecDepth 100000 in
set_option maxHeartbeats 2000000 in
theorem sumplaw39_awake.t33 (w : World) :
    Calls Try.prog 33 #[] w fun e w' => e = .returned (.bool true) ∧ Below w.heap.size w w' := by
  go_enter Try.func33, Try.ntmps33
  go_wp2_with (first | (go_at_call 37; (with_reducible refine (sumplaw39_awake.of1 w.heap.size _ (blk_new w (.cells sumplaw39_awake.CS 54))).mono ?_); rintro e w1 ⟨rfl, hb1⟩; have HB1 := Aside0.mk ((below_alloc (Below.refl _ w) _).trans (hb1.mono (by simp))); clear hb1))
  go_ret
  exact ⟨rfl, HB1.out⟩
theorem sumplaw39_awake.calls (r : Bool) (w : World) (h : sumplaw39_awake.f = some r) :
    Calls Try.prog 33 #[] w fun e w' => e = .returned (.bool r) ∧ Below w.heap.size w w' := by
  obtain rfl := Option.some.inj h
  exact sumplaw39_awake.t33 w


/-! ### call_Word: function 18 -/
def call_Word.list : List ByteArray := [⟨#[]⟩, ⟨#[111, 112, 101, 110]⟩, ⟨#[99, 108, 111, 115, 101]⟩, ⟨#[114, 101, 97, 100]⟩, ⟨#[119, 114, 105, 116, 101]⟩, ⟨#[112, 114, 101, 97, 100]⟩, ⟨#[112, 119, 114, 105, 116, 101]⟩, ⟨#[115, 101, 101, 107]⟩, ⟨#[102, 115, 121, 110, 99]⟩, ⟨#[115, 121, 110, 99]⟩, ⟨#[109, 107, 100, 105, 114]⟩, ⟨#[114, 109, 100, 105, 114]⟩, ⟨#[108, 105, 110, 107]⟩, ⟨#[117, 110, 108, 105, 110, 107]⟩, ⟨#[114, 101, 110, 97, 109, 101]⟩, ⟨#[116, 114, 117, 110, 99, 97, 116, 101]⟩, ⟨#[115, 116, 97, 116]⟩, ⟨#[108, 105, 115, 116]⟩]
abbrev call_Word.all : Array Value := #[.string ⟨#[]⟩, .string ⟨#[111, 112, 101, 110]⟩, .string ⟨#[99, 108, 111, 115, 101]⟩, .string ⟨#[114, 101, 97, 100]⟩, .string ⟨#[119, 114, 105, 116, 101]⟩, .string ⟨#[112, 114, 101, 97, 100]⟩, .string ⟨#[112, 119, 114, 105, 116, 101]⟩, .string ⟨#[115, 101, 101, 107]⟩, .string ⟨#[102, 115, 121, 110, 99]⟩, .string ⟨#[115, 121, 110, 99]⟩, .string ⟨#[109, 107, 100, 105, 114]⟩, .string ⟨#[114, 109, 100, 105, 114]⟩, .string ⟨#[108, 105, 110, 107]⟩, .string ⟨#[117, 110, 108, 105, 110, 107]⟩, .string ⟨#[114, 101, 110, 97, 109, 101]⟩, .string ⟨#[116, 114, 117, 110, 99, 97, 116, 101]⟩, .string ⟨#[115, 116, 97, 116]⟩, .string ⟨#[108, 105, 115, 116]⟩]
def call_Word.wd (i : Nat) : ByteArray := call_Word.list.getD i ⟨#[]⟩
def call_Word.f (a0 : Int) : Option (ByteArray) := some (if 0 ≤ a0 then call_Word.wd a0.toNat else ⟨#[]⟩)
set_option maxHeartbeats 400000 in
theorem call_Word.words (w : World) : Calls Try.prog 54 #[] w fun e w' => e = .returned (.agg call_Word.all) ∧ Below w.heap.size w w' := by
  go_enter Try.func54, Try.ntmps54
  go_wp2_with (first | ((with_reducible refine L.wpList_build_is rfl 81 _ rfl call_Word.all ?hf ?_); (case hf => kernel_rfl)) | ((with_reducible refine L.wpList_store_new rfl 81 _ _ rfl 81 _ call_Word.all ?hx ?hy ?hi ?ho ?h1 ?_); (case hx => rfl); (case hy => rfl); (case hi => kernel_rfl); (case ho => kernel_rfl); (case h1 => kernel_rfl)))
  exact bodyPost_ret (v := .agg call_Word.all) (L.results_c Try.results54 _ _ _ _ _ _ _ rfl (heap_alloc_new w _) Try.underlying81 rfl (by kernel_rfl)) rfl ⟨rfl, (Below.refl _ _).alloc (Nat.le_refl _) _⟩
theorem call_Word.cells (i : Nat) (h : i < 18) : call_Word.all[i]? = some (.string (call_Word.wd i)) := by
  have h2 : i = 0 ∨ i = 1 ∨ i = 2 ∨ i = 3 ∨ i = 4 ∨ i = 5 ∨ i = 6 ∨ i = 7 ∨ i = 8 ∨ i = 9 ∨ i = 10 ∨ i = 11 ∨ i = 12 ∨ i = 13 ∨ i = 14 ∨ i = 15 ∨ i = 16 ∨ i = 17 := by omega
  rcases h2 with rfl | rfl | rfl | rfl | rfl | rfl | rfl | rfl | rfl | rfl | rfl | rfl | rfl | rfl | rfl | rfl | rfl | rfl <;> rfl
theorem call_Word.idx (k : Int) (h0 : 0 ≤ k) (h1 : k < 18) (w : World) : (Instr.index 81 (.agg call_Word.all) (.int .i64 k)).run Try.prog w = .ok (.string (call_Word.wd k.toNat)) w :=
  L.run_index_one Try.underlying81 (by kernel_rfl) Try.underlying9 rfl _ .i64 k h0 h1 _ (call_Word.cells k.toNat (by omega)) w
set_option maxHeartbeats 400000 in
theorem call_Word.calls (a0 : Int) (r : ByteArray) (w : World) (h : call_Word.f a0 = some r) :
    Calls Try.prog 18 #[.int .i64 a0] w fun e w' => e = .returned (.string r) ∧ Below w.heap.size w w' := by
  obtain rfl := Option.some.inj h
  clear h
  by_cases hin : 0 ≤ a0 ∧ a0 < 18
  · obtain ⟨h0, h1⟩ := hin
    rw [if_pos h0]
    have hi := call_Word.idx a0 h0 h1
    go_enter Try.func18, Try.ntmps18
    go_wp2_with (go_at_call 54; refine (call_Word.words _).mono ?_; rintro e w' ⟨rfl, hb⟩)
    go_ret
    exact ⟨rfl, hb⟩
  · have he : (if 0 ≤ a0 then call_Word.wd a0.toNat else ⟨#[]⟩) = (⟨#[]⟩ : ByteArray) := by
      split
      · unfold call_Word.wd; rw [List.getD_eq_getElem?_getD, List.getElem?_eq_none (by show 18 ≤ a0.toNat; omega)]; rfl
      · rfl
    rw [he]
    clear he
    rcases (show a0 < 0 ∨ 17 < a0 by omega) with h | h
    all_goals
      clear hin
      go_enter Try.func18, Try.ntmps18
      go_wp2
      go_ret
      exact ⟨rfl, Below.refl _ _⟩

-- NOT PRINTED: function 35 (stat_Kinds)

-- NOT PRINTED: function 36 (stat_Errors)

end Go.Proofs.Ytbbpjjbgdemmpaa.PStat
