/- scripts: calls that are the same, rows of them. -/
import Derived.Test.YtnikcccobfcndaaYa
import Derived.Laws.Rows
import Derived.Laws.Tables
import Derived.Deep.RegionWith
import Derived.Deep.RegionHeld3
import Derived.BigQuiet
namespace Go.Proofs.Ytnikcccobfcndaa.Sc
open Go.RowKit Go.Proofs.YtnikcccobfcndaaW.PrintWords Go.Proofs.YtnikcccobfcndaaW.PrintLast Go.Proofs.YtnikcccobfcndaaW.PrintMore
set_option linter.unusedVariables false
set_option linter.unusedSimpArgs false
theorem wpList_store_new2 {P : Program} {ops : Array Oper} {rest : List Oper} {o : Oper} {a : Act} {w : World} {Q : Exit → Act → World → Prop} (hgd : o.guard = none) (ty : TypeId) (x y : Operand) (ho : o.op = .store ty x y)
    (t : TypeId) (old cells : Array Value) (n : Nat) (hn : w.heap.size = n) (hx : a.eval x = .pointer (some ⟨n, 0, none⟩)) (hy : a.eval y = .agg cells)
    (hi : (P.info? ty).map (·.size) = some cells.size)
    (hold : old.size = cells.size) (h1 : cells.all (·.oneCell') = true)
    (h : wpList P ops Q rest (a.put o.dst undef) (w.alloc (.cells cells t))) : wpList P ops Q (o :: rest) a (w.alloc (.cells old t)) := by
  subst hn
  exact L.wpList_store_new hgd ty x y ho t old cells hx hy hi hold h1 h
theorem hid {p : Prop} (h : p) : Hid p := h
theorem wrap_small (x : Int) (h1 : -9223372036854775808 ≤ x) (h2 : x ≤ 9223372036854775807) : wrap64 x = x := by unfold wrap64; omega
theorem blk_new (W : World) (o : Obj) : (W.alloc o).heap[W.heap.size]? = some o := by
  simp only [World.alloc]
  exact Array.getElem?_push_size
theorem blk_keep {w w' : World} {g : Nat} {o : Obj} (h : w.heap[g]? = some o) (hb : Below w.heap.size w w') : w'.heap[g]? = some o := by
  rw [hb.block g (Array.getElem?_eq_some_iff.1 h).1, h]
theorem blk_new2 (w : World) (o1 o2 : Obj) : ((w.alloc o1).alloc o2).heap[w.heap.size + 1]? = some o2 := by
  have h := blk_new (w.alloc o1) o2
  have e : (w.alloc o1).heap.size = w.heap.size + 1 := by simp
  rw [e] at h
  exact h
theorem blk_old (w : World) (o1 o2 : Obj) : ((w.alloc o1).alloc o2).heap[w.heap.size]? = some o1 := blk_keep (blk_new w o1) (below_alloc (Below.refl _ _) _)
theorem cell_keep {w w' : World} {a : Addr} {v : Value} (h : w.cell? a = some v) (hb : Below w.heap.size w w') : w'.cell? a = some v := (hb.cell (World.block_lt_of_cell? w _ h)).trans h
theorem below_drewN {B : Nat} {w0 w : World} (h : Below B w0 w) (n : Nat) : Below B w0 (w.drewN n) := ⟨h.os, h.tape, h.output, h.size, h.block⟩
theorem drawn0_below {w w' : World} (h : Drawn0 w w') : Below w.heap.size w w' := by
  obtain ⟨n, rfl⟩ := h
  exact below_drewN (Below.refl _ _) n
/-- The elements of a row of structs: their cells. -/
theorem elem42 {w : World} {A : Option Addr} {l : List S42} (h : Kd.C k42 w A l.length l) (i : Nat) (x : S42) (hx : l[i]? = some x) : ∃ (ad : Addr) (CS : Array Value), A = some ad ∧ (∀ q v, CS[q]? = some v → w.cell? ((ad.add (i * 8)).add q) = some v) ∧ CS.size = 8 ∧ CS.all (·.oneCell') = true ∧ k42.K w x CS.toList := by
  have hi := (List.getElem?_eq_some_iff.1 hx).1
  obtain ⟨ad, c, e, _, hK, hc⟩ := Kd.C_get h z42 (i : Int) (by omega) (by omega)
  have hx2 : l.getD (i : Int).toNat z42 = x := by rw [Int.toNat_natCast, List.getD_eq_getElem?_getD, hx]; rfl
  rw [hx2] at hK
  have hc2 : ∀ j u, c[j]? = some u → w.cell? (ad.add (i * 8 + j)) = some u := fun j u hj => by have := hc j u hj; rwa [Int.toNat_natCast] at this
  refine ⟨ad, c.toArray, e, fun q v hq => ?_, ?_, ?_, by simpa using hK⟩
  · rw [Go.Deep.add_add]; exact hc2 q v (by simpa using hq)
  · obtain ⟨A7, c7, rfl, _⟩ := k42_open hK; rfl
  · obtain ⟨A7, c7, rfl, _⟩ := k42_open hK; simp [Value.oneCell']
theorem elem46 {w : World} {A : Option Addr} {l : List S46} (h : Kd.C k46 w A l.length l) (i : Nat) (x : S46) (hx : l[i]? = some x) : ∃ (ad : Addr) (CS : Array Value), A = some ad ∧ (∀ q v, CS[q]? = some v → w.cell? ((ad.add (i * 3)).add q) = some v) ∧ CS.size = 3 ∧ CS.all (·.oneCell') = true ∧ k46.K w x CS.toList := by
  have hi := (List.getElem?_eq_some_iff.1 hx).1
  obtain ⟨ad, c, e, _, hK, hc⟩ := Kd.C_get h z46 (i : Int) (by omega) (by omega)
  have hx2 : l.getD (i : Int).toNat z46 = x := by rw [Int.toNat_natCast, List.getD_eq_getElem?_getD, hx]; rfl
  rw [hx2] at hK
  have hc2 : ∀ j u, c[j]? = some u → w.cell? (ad.add (i * 3 + j)) = some u := fun j u hj => by have := hc j u hj; rwa [Int.toNat_natCast] at this
  refine ⟨ad, c.toArray, e, fun q v hq => ?_, ?_, ?_, by simpa using hK⟩
  · rw [Go.Deep.add_add]; exact hc2 q v (by simpa using hq)
  · obtain ⟨A7, c7, rfl, _⟩ := k46_open hK; rfl
  · obtain ⟨A7, c7, rfl, _⟩ := k46_open hK; simp [Value.oneCell']
theorem info42 : (Try.prog.info? 42).map (·.size) = some 8 := by kernel_rfl
theorem info46 : (Try.prog.info? 46).map (·.size) = some 3 := by kernel_rfl
/-- call.Same. -/
theorem same42_calls (x y : S42) (CS DS : Array Value) (w : World) (hx : k42.K w x CS.toList) (hy : k42.K w y DS.toList) : Calls Try.prog 13 #[.agg CS, .agg DS] w fun e w' => e = .returned (.bool (c42 x y)) ∧ Below w.heap.size w w' := by
  obtain ⟨A7, c7, e1, l7, g7⟩ := k42_open hx
  obtain ⟨B7, d7, e2, m7, h7⟩ := k42_open hy
  have e1' : CS = #[.int .i64 x.f0, .int .i64 x.f1, .int .i64 x.f2, .int .i64 x.f3, .int .i64 x.f4, .string x.f5, .string x.f6, .slice A7 x.f7.length c7] := by rw [← Array.toArray_toList (xs := CS), e1]
  have e2' : DS = #[.int .i64 y.f0, .int .i64 y.f1, .int .i64 y.f2, .int .i64 y.f3, .int .i64 y.f4, .string y.f5, .string y.f6, .slice B7 y.f7.length d7] := by rw [← Array.toArray_toList (xs := DS), e2]
  rw [e1', e2']
  exact (PScript.call_Same.calls x.f0 x.f1 x.f2 x.f3 x.f4 x.f5 x.f6 A7 c7 x.f7 y.f0 y.f1 y.f2 y.f3 y.f4 y.f5 y.f6 B7 d7 y.f7 (c42 x y) w g7 l7 h7 m7 (c42_is x y)).mono fun e w' h => h
set_option maxHeartbeats 4000000 in
set_option maxRecDepth 100000 in
theorem eqf35_calls (A B : Option Addr) (l k : List S42) (ca cb : Nat) (w : World) (hA : Kd.C k42 w A l.length l) (hB : Kd.C k42 w B k.length k) (hl : l.length ≤ 9223372036854775807) : Calls Try.prog 35 #[.slice A l.length ca, .slice B k.length cb, .func (.func 13) #[] #[]] w fun e w' => e = .returned (.bool (eqs c42 l k)) ∧ Below w.heap.size w w' := by
  by_cases hne : l.length = k.length
  · obtain ⟨n, hn⟩ : ∃ n, l.length = n := ⟨_, rfl⟩
    have hk : k.length = n := hne ▸ hn
    have HN := hid (show l.length = n ∧ k.length = n ∧ n ≤ 9223372036854775807 from ⟨hn, hk, hn ▸ hl⟩)
    have HA := hid hA
    have HB := hid hB
    rw [hn, hk]
    clear hA hB hl hn hk hne
    go_enter Try.func35, Try.ntmps35
    go_wp2
    go_loopg [17] (n + 1) (fun kq v17 w' => ∃ i : Nat, v17 = .int .i64 (i : Int) ∧ Hid (i + kq = n + 1 ∧ i ≤ n) ∧ Hid (∀ (j : Nat) (x y : S42), j < i → l[j]? = some x → k[j]? = some y → c42 x y = true) ∧ Hid (Below w.heap.size w w'))
    case atStart => exact ⟨0, rfl, hid ⟨by omega, by omega⟩, hid (fun j x y hj => by omega), hid (Below.refl _ _)⟩
    case round =>
      obtain ⟨i, rfl, HK, HE, HW⟩ := hrel
      cases gk with
      | zero => exact absurd HK.out.1 (by have := HK.out; omega)
      | succ k1 =>
        obtain ⟨II, hII⟩ : ∃ II : Int, (i : Int) = II := ⟨_, rfl⟩
        rw [hII]
        by_cases ci : i < n
        · have b1 : decide (II < (n : Int)) = true := decide_eq_true (by omega)
          obtain ⟨x, hx⟩ : ∃ x, l[i]? = some x := ⟨_, List.getElem?_eq_getElem (by have := HN.out; omega)⟩
          obtain ⟨y, hy⟩ : ∃ y, k[i]? = some y := ⟨_, List.getElem?_eq_getElem (by have := HN.out; omega)⟩
          obtain ⟨ad, CS, rfl, hc1, z1, o1, K1⟩ := elem42 (Kd.C_below HA.out HW.out) i x hx
          obtain ⟨bd, DS, rfl, hc2, z2, o2, K2⟩ := elem42 (Kd.C_below HB.out HW.out) i y hy
          have t1 : II.toNat = i := by omega
          have p1 : 0 ≤ II := by omega
          have p2 : II < (n : Int) := by omega
          have HCI : Hid (i + 1 ≤ n) := hid ci
          have HW1 : Hid (wrap64 (II + 1) = ((i + 1 : Nat) : Int)) := hid (by have := HN.out; rw [wrap_small _ (by omega) (by omega)]; omega)
          have HC1 : Hid (∀ q v, CS[q]? = some v → wr.cell? ((ad.add (i * 8)).add q) = some v) := hid hc1
          have HC2 : Hid (∀ q v, DS[q]? = some v → (wr.alloc (.cells CS 42)).cell? ((bd.add (i * 8)).add q) = some v) := hid fun q v hq => cell_keep (hc2 q v hq) (below_alloc (Below.refl _ _) _)
          have i1 : Hid ((Try.prog.info? 42).map (·.size) = some CS.size) := hid (by rw [z1]; exact info42)
          have i2 : Hid ((Try.prog.info? 42).map (·.size) = some DS.size) := hid (by rw [z2]; exact info42)
          have G1 : Hid (((wr.alloc (.cells CS 42)).alloc (.cells DS 42)).heap[wr.heap.size]? = some (.cells CS 42 (0, 0))) := hid (blk_old wr _ _)
          have G2 : Hid (((wr.alloc (.cells CS 42)).alloc (.cells DS 42)).heap[wr.heap.size + 1]? = some (.cells DS 42 (0, 0))) := hid (blk_new2 wr _ _)
          have HB2 : Hid (Below wr.heap.size wr ((wr.alloc (.cells CS 42)).alloc (.cells DS 42))) := hid (below_alloc (below_alloc (Below.refl _ _) _) _)
          have Z1 : Hid (CS.size = 8 ∧ CS.all (·.oneCell') = true) := hid ⟨z1, o1⟩
          have Z2 : Hid (DS.size = 8 ∧ DS.all (·.oneCell') = true) := hid ⟨z2, o2⟩
          have HXY := hid (And.intro hx hy)
          have HCL : Hid (Calls Try.prog 13 #[.agg CS, .agg DS] ((wr.alloc (.cells CS 42)).alloc (.cells DS 42)) fun e w' => e = .returned (.bool (c42 x y)) ∧ Below ((wr.alloc (.cells CS 42)).alloc (.cells DS 42)).heap.size ((wr.alloc (.cells CS 42)).alloc (.cells DS 42)) w') := hid (same42_calls x y CS DS _ (Kd.K_below _ HB2.out K1) (Kd.K_below _ HB2.out K2))
          clear hx hy hII ci hc1 hc2 z1 z2 o1 o2 K1 K2
          cases hc : c42 x y with
          | false =>
            have HC := hid (eqs_bad i x y HXY.out.1 HXY.out.2 hc)
            rw [hc] at HCL
            clear hc
            go_wp2_with (first
              | ((with_reducible refine L.wpList_load_cells (o := ⟨some 21, _, _, _, _, _⟩) ?hgd 42 (.tmp 20) ?ho (ad.add (i * 8)) ?hx CS _ HC1.out Try.underlying42 ?hd i1.out ?_); (case hgd => rfl); (case ho => rfl); (case hx => rfl); (case hd => rfl))
              | ((with_reducible refine L.wpList_store_new rfl 42 _ _ rfl 42 _ CS ?hx ?hy i1.out ?ho Z1.out.2 ?_); (case hx => rfl); (case hy => rfl); (case ho => rw [Z1.out.1]; rfl))
              | ((with_reducible refine L.wpList_load_cells (o := ⟨some 25, _, _, _, _, _⟩) ?hgd 42 (.tmp 24) ?ho (bd.add (i * 8)) ?hx DS _ HC2.out Try.underlying42 ?hd i2.out ?_); (case hgd => rfl); (case ho => rfl); (case hx => rfl); (case hd => rfl))
              | ((with_reducible refine wpList_store_new2 rfl 42 _ _ rfl 42 _ DS (wr.heap.size + 1) ?hn ?hx ?hy i2.out ?ho Z2.out.2 ?_); (case hn => simp); (case hx => rfl); (case hy => rfl); (case ho => rw [Z2.out.1]; rfl))
              | ((with_reducible refine wpList_load_row (o := ⟨some 27, _, _, _, _, _⟩) ?hgd 42 (.tmp 8) ?ho wr.heap.size ?hx 42 CS (0, 0) _ G1.out Try.underlying42 ?hd i1.out ?_); (case hgd => rfl); (case ho => rfl); (case hx => rfl); (case hd => rfl))
              | ((with_reducible refine wpList_load_row (o := ⟨some 28, _, _, _, _, _⟩) ?hgd 42 (.tmp 9) ?ho (wr.heap.size + 1) ?hx 42 DS (0, 0) _ G2.out Try.underlying42 ?hd i2.out ?_); (case hgd => rfl); (case ho => rfl); (case hx => rfl); (case hd => rfl))
              | (go_at_call 13; (with_reducible refine HCL.out.mono ?_); rintro e w3 ⟨rfl, h3⟩; have H3 := hid h3; clear h3))
            go_ret
            exact ⟨by rw [HC.out]; rfl, L.bel HW.out (L.bel HB2.out H3.out)⟩
          | true =>
            have HC := hid hc
            rw [hc] at HCL
            clear hc
            go_wp2_with (first
              | ((with_reducible refine L.wpList_load_cells (o := ⟨some 21, _, _, _, _, _⟩) ?hgd 42 (.tmp 20) ?ho (ad.add (i * 8)) ?hx CS _ HC1.out Try.underlying42 ?hd i1.out ?_); (case hgd => rfl); (case ho => rfl); (case hx => rfl); (case hd => rfl))
              | ((with_reducible refine L.wpList_store_new rfl 42 _ _ rfl 42 _ CS ?hx ?hy i1.out ?ho Z1.out.2 ?_); (case hx => rfl); (case hy => rfl); (case ho => rw [Z1.out.1]; rfl))
              | ((with_reducible refine L.wpList_load_cells (o := ⟨some 25, _, _, _, _, _⟩) ?hgd 42 (.tmp 24) ?ho (bd.add (i * 8)) ?hx DS _ HC2.out Try.underlying42 ?hd i2.out ?_); (case hgd => rfl); (case ho => rfl); (case hx => rfl); (case hd => rfl))
              | ((with_reducible refine wpList_store_new2 rfl 42 _ _ rfl 42 _ DS (wr.heap.size + 1) ?hn ?hx ?hy i2.out ?ho Z2.out.2 ?_); (case hn => simp); (case hx => rfl); (case hy => rfl); (case ho => rw [Z2.out.1]; rfl))
              | ((with_reducible refine wpList_load_row (o := ⟨some 27, _, _, _, _, _⟩) ?hgd 42 (.tmp 8) ?ho wr.heap.size ?hx 42 CS (0, 0) _ G1.out Try.underlying42 ?hd i1.out ?_); (case hgd => rfl); (case ho => rfl); (case hx => rfl); (case hd => rfl))
              | ((with_reducible refine wpList_load_row (o := ⟨some 28, _, _, _, _, _⟩) ?hgd 42 (.tmp 9) ?ho (wr.heap.size + 1) ?hx 42 DS (0, 0) _ G2.out Try.underlying42 ?hd i2.out ?_); (case hgd => rfl); (case ho => rfl); (case hx => rfl); (case hd => rfl))
              | (go_at_call 13; (with_reducible refine HCL.out.mono ?_); rintro e w3 ⟨rfl, h3⟩; have H3 := hid h3; clear h3))
            go_roundg k1
            case measure => omega
            case rel => exact ⟨i + 1, congrArg (Value.int .i64) HW1.out, hid ⟨by have := HK.out; omega, HCI.out⟩, hid (fun j a b hj ha hb => by
              rcases Nat.lt_or_ge j i with h | h
              · exact HE.out j a b h ha hb
              · obtain rfl : j = i := by omega
                rw [HXY.out.1] at ha
                rw [HXY.out.2] at hb
                obtain rfl := Option.some.inj ha
                obtain rfl := Option.some.inj hb
                exact HC.out), hid (L.bel HW.out (L.bel HB2.out H3.out))⟩
        · have b1 : decide (II < (n : Int)) = false := decide_eq_false (by omega)
          have HC : Hid (eqs c42 l k = true) := hid (eqs_all (by have := HN.out; omega) (fun j x y hx hy => HE.out j x y (by have := (List.getElem?_eq_some_iff.1 hx).1; have := HN.out; have := HK.out; omega) hx hy))
          clear hII ci
          go_wp2
          go_ret
          exact ⟨by rw [HC.out]; rfl, HW.out⟩
  · have HE := hid (eqs_ne (c := c42) hne)
    obtain ⟨n, hn⟩ : ∃ n, l.length = n := ⟨_, rfl⟩
    obtain ⟨m, hm⟩ : ∃ m, k.length = m := ⟨_, rfl⟩
    rw [hn, hm] at hne ⊢
    have b1 : ((n : Int) != (m : Int)) = true := by simp; omega
    have b2 : (n != m) = true := by simp; omega
    have b3 : ¬ n = m := hne
    clear hA hB hl hn hm hne
    go_enter Try.func35, Try.ntmps35
    go_wp2
    go_ret
    exact ⟨by rw [HE.out]; rfl, Below.refl _ _⟩
end Go.Proofs.Ytnikcccobfcndaa.Sc
