/- gen: Calls at the example's recipe. -/
import Derived.Test.YtnikcccobfcndaaGb
import Derived.Deep.CutRange
import Derived.Deep.RegionHeld3
import Derived.Deep.RegionLaw
namespace Go.Proofs.Ytnikcccobfcndaa.Ga
open Go.RowKit Go.Proofs.YtnikcccobfcndaaW.PrintWords Go.Proofs.Ytnikcccobfcndaa.PGenSeeds
set_option linter.unusedVariables false
theorem drawer (w : World) : Calls Try.prog 39 #[.int .u64 0] w fun e w' => e = .returned (F w.heap.size) ∧ w' = w.alloc (.cells #[.int .u64 0] 22) := by
  go_enter Try.func39, Try.ntmps39
  go_wp2
  go_ret
  exact ⟨rfl, rfl⟩
theorem may (w : World) : Calls Try.prog 22 #[.agg RC] w fun e w' => e = .returned (.bool true) ∧ Below w.heap.size w w' :=
  gen_May.calls 2 3 1 0 0 0 0 true w (by unfold gen_May.f gen_within.f; simp [wrap64])
theorem info42 : (Try.prog.info? 42).map (fun i => (i.zero, i.size, i.bytes)) = some (some (.agg Z), 8, 96) := by kernel_rfl
/-- Calls' world: the recipe's box at H, the seed's at b, the rows' row at b + 1. -/
structure St (b : Nat) (w wk : World) (s0 s1 : Value) : Prop where
  hb : w.heap.size < b
  below : Below w.heap.size w wk
  box : Box b wk
  recp : wk.heap[w.heap.size]? = some (.cells RC 60 (0, 0))
  out : wk.heap[b + 1]? = some (.cells #[s0, s1] 38 (0, 0))
theorem owns_keep {x y : World} {base e size n : Nat} {v : Value} {xs : List Value} (h : x.ownsRow base e size v n xs) (hk : ∀ k, k < x.heap.size → base ≤ k → y.heap[k]? = x.heap[k]?) : y.ownsRow base e size v n xs := by
  refine ⟨h.1, ?_⟩
  rcases h.2 with h0 | ⟨g, cap, cur, h1, h2, h3, h4⟩
  · exact Or.inl h0
  · exact Or.inr ⟨g, cap, cur, h1, h2, (hk g (blk_lt h3) h2).trans h3, h4⟩
/-- Behind the call of one. -/
theorem St.call {b : Nat} {w x y : World} {s0 s1 : Value} (h : St b w x s0 s1) (hx : Box b y) (hB : But b x y) : St b w y s0 s1 :=
  ⟨h.hb, h.below.trans (hB.below.mono (Nat.le_of_lt h.hb)), hx, hB.blk h.recp (by have := h.hb; omega), hB.blk h.out (by omega)⟩
theorem St.below' {b : Nat} {w x y : World} {s0 s1 : Value} (h : St b w x s0 s1) (hB : Below x.heap.size x y) : St b w y s0 s1 :=
  h.call (h.box.below hB) (But.of (Nat.le_of_lt h.box.lt) hB)
/-- Behind the append. -/
theorem St.grown {b : Nat} {w x y : World} {s0 s1 v : Value} {n : Nat} {xs : List Value} (h : St b w x s0 s1) (ho : x.ownsRow (b + 2) 42 8 v n xs) (hg : x.grownBy y v.ownBlock) : St b w y s0 s1 := by
  have hn : ∀ k, k < b + 2 → some k ≠ v.ownBlock := by
    intro k hk e
    rcases ho.2 with ⟨rfl, _⟩ | ⟨g, cap, cur, rfl, h2, _⟩
    · simp [Value.ownBlock] at e
    · simp [Value.ownBlock] at e; omega
  have hbl := h.box.lt
  have hol := blk_lt h.out
  have hrl := blk_lt h.recp
  have hh := h.hb
  refine ⟨h.hb, h.below.trans ⟨hg.os, hg.tape, hg.output, hg.size, fun k hk => hg.block k (by omega) (hn k (by omega))⟩, ?_, ?_, ?_⟩
  · obtain ⟨s, h0, h1⟩ := h.box
    exact ⟨s, h0, (hg.block b hbl (hn b (by omega))).trans h1⟩
  · exact (hg.block _ hrl (hn _ (by omega))).trans h.recp
  · exact (hg.block _ hol (hn _ (by omega))).trans h.out
theorem St.put0 {b : Nat} {w x : World} {s0 s1 : Value} (h : St b w x s0 s1) (v : Value) : St b w (x.setCell ⟨b + 1, 0, none⟩ v) v s1 := by
  have hh := h.hb
  refine ⟨h.hb, h.below.setCell (by show w.heap.size ≤ b + 1; omega) v, ?_, blk_far h.recp (by show _ ≠ b + 1; omega) v, blk_set h.out 0 v⟩
  obtain ⟨s, h0, h1⟩ := h.box
  exact ⟨s, h0, blk_far h1 (by show _ ≠ b + 1; omega) v⟩
theorem St.put1 {b : Nat} {w x : World} {s0 s1 : Value} (h : St b w x s0 s1) (v : Value) : St b w (x.setCell ⟨b + 1, 1, none⟩ v) s0 v := by
  have hh := h.hb
  refine ⟨h.hb, h.below.setCell (by show w.heap.size ≤ b + 1; omega) v, ?_, blk_far h.recp (by show _ ≠ b + 1; omega) v, blk_set h.out 1 v⟩
  obtain ⟨s, h0, h1⟩ := h.box
  exact ⟨s, h0, blk_far h1 (by show _ ≠ b + 1; omega) v⟩
theorem owns_set {b : Nat} {x : World} {v : Value} {n j : Nat} {xs : List Value} (h : x.ownsRow (b + 2) 42 8 v n xs) (u : Value) : (x.setCell ⟨b + 1, j, none⟩ u).ownsRow (b + 2) 42 8 v n xs :=
  owns_keep h fun k _ hk => Below.heap_setCell x ⟨b + 1, j, none⟩ u k (by show k ≠ b + 1; omega)
theorem cells8 {v : Value} (h : IsCall v) : ∃ c0 c1 c2 c3 c4 c5 c6 c7 : Value, v = .agg #[c0, c1, c2, c3, c4, c5, c6, c7] ∧ ∀ u ∈ [c0, c1, c2, c3, c4, c5, c6, c7], u.oneCell' = true := by
  obtain ⟨⟨l⟩, rfl, hs, h1⟩ := h
  match l, hs with
  | [c0, c1, c2, c3, c4, c5, c6, c7], _ => exact ⟨c0, c1, c2, c3, c4, c5, c6, c7, rfl, by simpa using h1⟩
theorem owns_alloc {b : Nat} {x : World} {v : Value} {n : Nat} {xs : List Value} (h : x.ownsRow (b + 2) 42 8 v n xs) (o : Obj) : (x.alloc o).ownsRow (b + 2) 42 8 v n xs :=
  owns_keep h fun k hk _ => Below.heap_alloc x o k hk
theorem owns_len {x : World} {base e size n : Nat} {v : Value} {xs : List Value} (h : x.ownsRow base e size v n xs) : ∃ A c, v = .slice A n c := by
  rcases h.2 with ⟨rfl, rfl⟩ | ⟨g, cap, cur, rfl, _⟩
  · exact ⟨none, 0, rfl⟩
  · exact ⟨_, cap, rfl⟩
theorem St.start {w x1 : World} (hB : Below (w.alloc (.cells RC 60)).heap.size (w.alloc (.cells RC 60)) x1) (hr : x1.heap[w.heap.size]? = some (.cells RC 60 (0, 0))) :
    St x1.heap.size w ((x1.alloc (.cells #[.int .u64 0] 22)).alloc (.cells #[.slice none 0 0, .slice none 0 0] 38)) (.slice none 0 0) (.slice none 0 0) := by
  have hlt := blk_lt hr
  have h0 : Below w.heap.size w x1 := (below_alloc (Below.refl _ w) _).trans (hB.mono (by rw [World.size_alloc]; omega))
  refine ⟨hlt, below_alloc (below_alloc h0 _) _, ⟨0, Int.le_refl _, blk_alloc (blk_new x1 _) _⟩, blk_alloc (blk_alloc hr _) _, ?_⟩
  have := blk_new (x1.alloc (.cells #[.int .u64 0] 22)) (.cells #[.slice none 0 0, .slice none 0 0] 38)
  rwa [World.size_alloc] at this
theorem St.facts0 {b : Nat} {w x : World} {s0 s1 : Value} (h : St b w x s0 s1) : x.cell? ⟨b + 1, 0, none⟩ = some s0 ∧ x.cell? ⟨w.heap.size, 0, none⟩ = some (.int .i64 2) ∧ x.cell? ⟨w.heap.size, 1, none⟩ = some (.int .i64 3) ∧ x.cell? ⟨w.heap.size, 2, none⟩ = some (.int .i64 1) ∧ x.cell? ⟨w.heap.size, 3, none⟩ = some (.int .i64 0) ∧ x.cell? ⟨w.heap.size, 4, none⟩ = some (.int .i64 0) ∧ x.cell? ⟨w.heap.size, 5, none⟩ = some (.int .i64 0) ∧ x.cell? ⟨w.heap.size, 6, none⟩ = some (.int .u64 0) ∧ x.frozen? ⟨b + 1, 0, none⟩ = false :=
  ⟨blk_cell h.out 0, blk_cell h.recp 0, blk_cell h.recp 1, blk_cell h.recp 2, blk_cell h.recp 3, blk_cell h.recp 4, blk_cell h.recp 5, blk_cell h.recp 6, blk_frozen h.out 0⟩
theorem St.facts1 {b : Nat} {w x : World} {s0 s1 : Value} (h : St b w x s0 s1) : x.cell? ⟨b + 1, 1, none⟩ = some s1 ∧ x.cell? ⟨w.heap.size, 0, none⟩ = some (.int .i64 2) ∧ x.cell? ⟨w.heap.size, 1, none⟩ = some (.int .i64 3) ∧ x.cell? ⟨w.heap.size, 2, none⟩ = some (.int .i64 1) ∧ x.cell? ⟨w.heap.size, 3, none⟩ = some (.int .i64 0) ∧ x.cell? ⟨w.heap.size, 4, none⟩ = some (.int .i64 0) ∧ x.cell? ⟨w.heap.size, 5, none⟩ = some (.int .i64 0) ∧ x.cell? ⟨w.heap.size, 6, none⟩ = some (.int .u64 0) ∧ x.frozen? ⟨b + 1, 1, none⟩ = false :=
  ⟨blk_cell h.out 1, blk_cell h.recp 0, blk_cell h.recp 1, blk_cell h.recp 2, blk_cell h.recp 3, blk_cell h.recp 4, blk_cell h.recp 5, blk_cell h.recp 6, blk_frozen h.out 1⟩
theorem owns_but {b : Nat} {x y : World} {v : Value} {n : Nat} {xs : List Value} (h : x.ownsRow (b + 2) 42 8 v n xs) (hB : But b x y) : y.ownsRow (b + 2) 42 8 v n xs :=
  owns_keep h fun k hk hb => hB.rest k hk (by omega)
theorem info38 : (Try.prog.info? 38).map (fun i => (i.zero, i.size, i.bytes)) = some (some (.slice none 0 0), 1, 24) := by kernel_rfl
theorem mk2 (w : World) : (Instr.makeSlice 33 (.int .i64 2) (.int .i64 2)).run Try.prog w = .ok (.slice (some ⟨w.heap.size, 0, none⟩) 2 2) (w.alloc (.cells #[.slice none 0 0, .slice none 0 0] 38)) := by
  have h := run_make_row' (P := Try.prog) 33 38 (.slice none 0 0) 24 Try.underlying33 info38 rfl .i64 .i64 2 (by decide) (by decide) w
  have hm : madeCells #[Value.slice none 0 0] 2 = #[.slice none 0 0, .slice none 0 0] := by kernel_rfl
  rw [hm] at h
  exact h
set_option maxHeartbeats 4000000 in
set_option maxRecDepth 100000 in
theorem calls (w : World) :
    Calls Try.prog 25 #[.agg RC] w fun e w' => ∃ g A0 c0 s1, e = .returned (.slice (some ⟨g, 0, none⟩) 2 2) ∧ w'.heap[g]? = some (.cells #[.slice A0 3 c0, s1] 38 (0, 0)) ∧ Below w.heap.size w w' := by
  obtain ⟨i42, hi42, hz42, hs42, hb42⟩ : ∃ i : TypeInfo, Try.prog.info? 42 = some i ∧ i.zero = some (.agg Z) ∧ i.size = 8 ∧ i.bytes = 96 := by
    obtain ⟨i, hi, hz⟩ := Option.map_eq_some_iff.1 info42
    simp only [Prod.mk.injEq] at hz
    exact ⟨i, hi, hz.1, hz.2.1, hz.2.2⟩
  have hmk := mk2
  have hR0 := Aside0.mk (blk_new w (.cells RC 60))
  go_enter Try.func25, Try.ntmps25
  go_wp2_with (first
    | ((with_reducible refine wpList_load_row (o := ⟨some 6, _, _, _, _, _⟩) ?hgd 60 (.tmp 1) ?ho w.heap.size ?hx 60 RC (0, 0) _ ?hg Try.underlying60 ?hd ?hi ?_); (case hgd => rfl); (case ho => rfl); (case hx => rfl); (case hg => exact hR0.out); (case hd => rfl); (case hi => kernel_rfl))
    | (go_at_call 22; (with_reducible refine (may _).mono ?_); rintro e x1 ⟨rfl, hB⟩; have HB1 := Aside0.mk hB; have hr := blk_below hR0.out hB; have HR1 := Aside0.mk hr; have hr6 : x1.cell? ⟨w.heap.size, 6, none⟩ = some (.int .u64 0) := blk_cell hr 6; have hr0 : x1.cell? ⟨w.heap.size, 0, none⟩ = some (.int .i64 2) := blk_cell hr 0; have hr1 : x1.cell? ⟨w.heap.size, 1, none⟩ = some (.int .i64 3) := blk_cell hr 1; have hlt := blk_lt hr; clear hB hr)
    | (go_at_call 39; (with_reducible refine (drawer _).mono ?_); rintro e x2 ⟨rfl, rfl⟩))
  have hW : Aside0 (St x1.heap.size w ((x1.alloc (.cells #[.int .u64 0] 22)).alloc (.cells #[.slice none 0 0, .slice none 0 0] 38)) (.slice none 0 0) (.slice none 0 0)) := ⟨St.start HB1.out HR1.out⟩
  clear hmk hR0 HB1 HR1 hr6 hr0 hr1
  generalize ((x1.alloc (.cells #[.int .u64 0] 22)).alloc (.cells #[.slice none 0 0, .slice none 0 0] 38)) = W0 at hW ⊢
  generalize x1.heap.size = b at hW hlt ⊢
  go_loopg [5, 17, 22] 2 (fun gg _ s17 _ wr => ∃ q0 q1 : Value, Aside (St b w wr q0 q1) ∧ ((2 ≤ gg ∧ s17 = .int .i64 0 ∧ q0 = .slice none 0 0 ∧ q1 = .slice none 0 0) ∨ (1 ≤ gg ∧ s17 = .int .i64 1 ∧ q1 = .slice none 0 0 ∧ ∃ A0 c0, q0 = .slice A0 3 c0) ∨ (s17 = .int .i64 2 ∧ ∃ A0 c0, q0 = .slice A0 3 c0)))
  case atStart => exact ⟨_, _, hW.out, Or.inl ⟨Nat.le_refl _, rfl, rfl, rfl⟩⟩
  case round =>
    obtain ⟨q0, q1, SS, hc⟩ := hrel
    have SO := Aside0.mk SS.out
    have hr1 : wr.cell? ⟨w.heap.size, 1, none⟩ = some (.int .i64 3) := blk_cell SO.out.recp 1
    clear SS hW
    rcases hc with ⟨hg, rfl, rfl, rfl⟩ | ⟨hg, rfl, rfl, A0, c0, rfl⟩ | ⟨rfl, A0, c0, rfl⟩
    · go_wp2
      go_loopg [22] 3 (fun gg s22 wr => ∃ (j : Nat) (s : Value) (xs : List Value), j ≤ 3 ∧ 3 - j ≤ gg ∧ s22 = .int .i64 j ∧ Aside (St b w wr s (.slice none 0 0)) ∧ Aside (wr.ownsRow (b + 2) 42 8 s j xs))
      case atStart => exact ⟨0, .slice none 0 0, [], by omega, by omega, rfl, SO.out, World.ownsRow_nil _ _ _ _⟩
      case round =>
        obtain ⟨j, s, xs, hj, hg, rfl, SW, OW⟩ := hrel
        have S0 := Aside0.mk SW.out
        have O0 := Aside0.mk OW.out
        clear SW OW
        have hlen := Aside0.mk (owns_len O0.out)
        by_cases hlt : j < 3
        · have hltz : (j : Int) < 3 := by omega
          go_upto_region 10 with fail
          have SD : Aside0 (St b w wr.drew s (.slice none 0 0)) := ⟨S0.out.below' (below_drew (Below.refl _ _))⟩
          have OD : Aside0 (wr.drew.ownsRow (b + 2) 42 8 s j xs) := ⟨owns_keep O0.out fun k _ _ => rfl⟩
          have CA := Aside0.mk (SD.out.facts0)
          obtain ⟨p0, r0, r1, r2, r3, r4, r5, r6, z0⟩ := CA.out
          clear hr1
          go_region_law (first | (go_simp; go_at_call 41; (with_reducible refine (one b s _ SD.out.box).mono ?_); rintro e x2 ⟨v, rfl, hv, hx, hB⟩; obtain ⟨c0, c1, c2, c3, c4, c5, c6, c7, rfl, h1⟩ := cells8 hv; have S2 := Aside0.mk (SD.out.call hx hB); have O2 := Aside0.mk (owns_but OD.out hB); have H8 := Aside0.mk h1; obtain ⟨p0b, r0b, r1b, r2b, r3b, r4b, r5b, r6b, z0b⟩ := S2.out.facts0; obtain ⟨p0d, r0d, r1d, r2d, r3d, r4d, r5d, r6d, z0d⟩ := (S2.out.below' (below_alloc (Below.refl _ x2) (.cells #[c0, c1, c2, c3, c4, c5, c6, c7] 42))).facts0; clear hv hx hB h1) | (refine step_append_lies _ rfl (.tmp 29) (.tmp 37) 38 rfl (b + 2) 42 i42 (.agg Z) 8 96 Try.underlying38 hi42 hz42 hs42 hb42 rfl (by decide) s j xs rfl (owns_alloc O2.out _) ⟨x2.heap.size, 0, none⟩ 1 1 [c0, c1, c2, c3, c4, c5, c6, c7] rfl rfl (World.news_of_block (blk_new x2 _)) H8.out (by decide) (by unfold maxLen; omega) (by omega) (by have := blk_lt S2.out.out; simp; omega) _ rfl ?_; intro g cap x3 hown hgrow hat hlt3; have S3 := Aside0.mk ((S2.out.below' (below_alloc (Below.refl _ x2) (.cells #[c0, c1, c2, c3, c4, c5, c6, c7] 42))).grown (owns_alloc O2.out _) hgrow); have O3 := Aside0.mk hown; obtain ⟨p0c, r0c, r1c, r2c, r3c, r4c, r5c, r6c, z0c⟩ := S3.out.facts0; clear hown hgrow hat hlt3))
          all_goals (go_wp2; go_roundg (3 - (j + 1)); (case measure => omega); (case rel => exact ⟨j + 1, .slice (some ⟨g, 0, none⟩) (j + 1) cap, xs ++ [c0, c1, c2, c3, c4, c5, c6, c7], by omega, by omega, by go_num, S3.out.put0 _, owns_set O3.out _⟩))
        · obtain rfl : j = 3 := by omega
          clear hlt
          go_wp2
          go_roundg 1
          case measure => omega
          case rel => exact ⟨s, _, S0.out, Or.inr (Or.inl ⟨by omega, by go_num, rfl, hlen.out⟩)⟩
    · go_wp2
      go_loopg [22] 3 (fun gg s22 wr => ∃ (j : Nat) (s : Value) (xs : List Value), j ≤ 3 ∧ 3 - j ≤ gg ∧ s22 = .int .i64 j ∧ Aside (St b w wr (.slice A0 3 c0) s) ∧ Aside (wr.ownsRow (b + 2) 42 8 s j xs))
      case atStart => exact ⟨0, .slice none 0 0, [], by omega, by omega, rfl, SO.out, World.ownsRow_nil _ _ _ _⟩
      case round =>
        obtain ⟨j, s, xs, hj, hg, rfl, SW, OW⟩ := hrel
        have S0 := Aside0.mk SW.out
        have O0 := Aside0.mk OW.out
        clear SW OW
        have hlen := Aside0.mk (owns_len O0.out)
        by_cases hlt : j < 3
        · have hltz : (j : Int) < 3 := by omega
          go_upto_region 10 with fail
          have SD : Aside0 (St b w wr.drew (.slice A0 3 c0) s) := ⟨S0.out.below' (below_drew (Below.refl _ _))⟩
          have OD : Aside0 (wr.drew.ownsRow (b + 2) 42 8 s j xs) := ⟨owns_keep O0.out fun k _ _ => rfl⟩
          have CA := Aside0.mk (SD.out.facts1)
          obtain ⟨p0, r0, r1, r2, r3, r4, r5, r6, z0⟩ := CA.out
          clear hr1
          go_region_law (first | (go_simp; go_at_call 41; (with_reducible refine (one b s _ SD.out.box).mono ?_); rintro e x2 ⟨v, rfl, hv, hx, hB⟩; obtain ⟨c0, c1, c2, c3, c4, c5, c6, c7, rfl, h1⟩ := cells8 hv; have S2 := Aside0.mk (SD.out.call hx hB); have O2 := Aside0.mk (owns_but OD.out hB); have H8 := Aside0.mk h1; obtain ⟨p0b, r0b, r1b, r2b, r3b, r4b, r5b, r6b, z0b⟩ := S2.out.facts1; obtain ⟨p0d, r0d, r1d, r2d, r3d, r4d, r5d, r6d, z0d⟩ := (S2.out.below' (below_alloc (Below.refl _ x2) (.cells #[c0, c1, c2, c3, c4, c5, c6, c7] 42))).facts1; clear hv hx hB h1) | (refine step_append_lies _ rfl (.tmp 29) (.tmp 37) 38 rfl (b + 2) 42 i42 (.agg Z) 8 96 Try.underlying38 hi42 hz42 hs42 hb42 rfl (by decide) s j xs rfl (owns_alloc O2.out _) ⟨x2.heap.size, 0, none⟩ 1 1 [c0, c1, c2, c3, c4, c5, c6, c7] rfl rfl (World.news_of_block (blk_new x2 _)) H8.out (by decide) (by unfold maxLen; omega) (by omega) (by have := blk_lt S2.out.out; simp; omega) _ rfl ?_; intro g cap x3 hown hgrow hat hlt3; have S3 := Aside0.mk ((S2.out.below' (below_alloc (Below.refl _ x2) (.cells #[c0, c1, c2, c3, c4, c5, c6, c7] 42))).grown (owns_alloc O2.out _) hgrow); have O3 := Aside0.mk hown; obtain ⟨p0c, r0c, r1c, r2c, r3c, r4c, r5c, r6c, z0c⟩ := S3.out.facts1; clear hown hgrow hat hlt3))
          all_goals (go_wp2; go_roundg (3 - (j + 1)); (case measure => omega); (case rel => exact ⟨j + 1, .slice (some ⟨g, 0, none⟩) (j + 1) cap, xs ++ [c0, c1, c2, c3, c4, c5, c6, c7], by omega, by omega, by go_num, S3.out.put1 _, owns_set O3.out _⟩))
        · obtain rfl : j = 3 := by omega
          clear hlt
          go_wp2
          go_roundg 0
          case measure => omega
          case rel => exact ⟨_, s, S0.out, Or.inr (Or.inr ⟨by go_num, _, _, rfl⟩)⟩
    · go_wp2
      go_ret
      exact ⟨_, _, _, _, rfl, SO.out.out, SO.out.below⟩
end Go.Proofs.Ytnikcccobfcndaa.Ga
