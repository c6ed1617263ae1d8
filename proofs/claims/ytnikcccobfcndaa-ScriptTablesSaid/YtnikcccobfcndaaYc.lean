/- scripts: moves that are the same, rows of them. -/
import Derived.Test.YtnikcccobfcndaaYb
import Derived.Laws.Rows
import Derived.Laws.Tables
import Derived.Deep.RegionWith
import Derived.Deep.RegionHeld3
import Derived.BigQuiet
namespace Go.Proofs.Ytnikcccobfcndaa.Sc
open Go.RowKit Go.Proofs.YtnikcccobfcndaaW.PrintWords Go.Proofs.YtnikcccobfcndaaW.PrintLast Go.Proofs.YtnikcccobfcndaaW.PrintMore
set_option linter.unusedVariables false
set_option linter.unusedSimpArgs false
theorem elemB {w : World} {A : Option Addr} {l : List Bool} (h : Kd.C Kd.bool w A l.length l) (i : Nat) (x : Bool) (hx : l[i]? = some x) : ∃ ad : Addr, A = some ad ∧ w.cell? (ad.add i) = some (.bool x) := by
  have hi := (List.getElem?_eq_some_iff.1 hx).1
  obtain ⟨ad, c, e, _, hK, hc⟩ := Kd.C_get h false (i : Int) (by omega) (by omega)
  have hx2 : l.getD (i : Int).toNat false = x := by rw [Int.toNat_natCast, List.getD_eq_getElem?_getD, hx]; rfl
  rw [hx2] at hK
  have hK' : c = [.bool x] := hK
  have := hc 0 (.bool x) (by rw [hK']; rfl)
  rw [Int.toNat_natCast] at this
  exact ⟨ad, e, by rwa [show i * Kd.bool.sz + 0 = i by show i * 1 + 0 = i; omega] at this⟩
theorem elemL {w : World} {A : Option Addr} {l : List (List S42)} (h : Kd.C (Kd.slice 42 k42) w A l.length l) (i : Nat) (x : List S42) (hx : l[i]? = some x) : ∃ (ad : Addr) (Ai : Option Addr) (ci : Nat), A = some ad ∧ w.cell? (ad.add i) = some (.slice Ai x.length ci) ∧ x.length ≤ ci ∧ Kd.C k42 w Ai x.length x := by
  have hi := (List.getElem?_eq_some_iff.1 hx).1
  obtain ⟨ad, c, e, _, hK, hc⟩ := Kd.C_get h [] (i : Int) (by omega) (by omega)
  have hx2 : l.getD (i : Int).toNat [] = x := by rw [Int.toNat_natCast, List.getD_eq_getElem?_getD, hx]; rfl
  rw [hx2] at hK
  obtain ⟨Ai, ci, e1, l1, g1⟩ := hK
  have := hc 0 (.slice Ai x.length ci) (by rw [e1]; rfl)
  rw [Int.toNat_natCast] at this
  exact ⟨ad, Ai, ci, e, by rwa [show i * (Kd.slice 42 k42).sz + 0 = i by show i * 1 + 0 = i; omega] at this, l1, g1⟩
def eqB (a b : Bool) : Bool := a == b
set_option maxHeartbeats 4000000 in
theorem eqb_calls (A B : Option Addr) (l k : List Bool) (ca cb : Nat) (w : World) (hA : Kd.C Kd.bool w A l.length l) (hB : Kd.C Kd.bool w B k.length k) (hl : l.length ≤ 9223372036854775807) : Calls Try.prog 38 #[.slice A l.length ca, .slice B k.length cb] w fun e w' => e = .returned (.bool (eqs eqB l k)) ∧ Below w.heap.size w w' := by
  by_cases hne : l.length = k.length
  · obtain ⟨n, hn⟩ : ∃ n, l.length = n := ⟨_, rfl⟩
    have hk : k.length = n := hne ▸ hn
    have HN := hid (show l.length = n ∧ k.length = n ∧ n ≤ 9223372036854775807 from ⟨hn, hk, hn ▸ hl⟩)
    have HA := hid hA
    have HB := hid hB
    rw [hn, hk]
    clear hA hB hl hn hk hne
    go_enter Try.func38, Try.ntmps38
    go_wp2
    go_loopg [13] (n + 1) (fun kq v13 w' => ∃ i : Nat, v13 = .int .i64 (i : Int) ∧ Hid (i + kq = n + 1 ∧ i ≤ n) ∧ Hid (∀ (j : Nat) (x y : Bool), j < i → l[j]? = some x → k[j]? = some y → eqB x y = true) ∧ Hid (Below w.heap.size w w'))
    case atStart => exact ⟨0, rfl, hid ⟨by omega, by omega⟩, hid (fun j x y hj => by omega), hid (Below.refl _ _)⟩
    case round =>
      obtain ⟨i, rfl, HK, HE, HW⟩ := hrel
      cases gk with
      | zero => exact absurd HK.out.1 (by have := HK.out; omega)
      | succ k1 =>
        obtain ⟨II, hII⟩ : ∃ II : Int, (i : Int) = II := ⟨_, rfl⟩
        rw [hII]
        by_cases ci : i < n
        · have b1 : decide (II < (n : Int)) = true := decide_eq_true (by omega)
          obtain ⟨x, hx⟩ : ∃ x, l[i]? = some x := ⟨_, List.getElem?_eq_getElem (by have := HN.out; omega)⟩
          obtain ⟨y, hy⟩ : ∃ y, k[i]? = some y := ⟨_, List.getElem?_eq_getElem (by have := HN.out; omega)⟩
          obtain ⟨ad, rfl, c1⟩ := elemB (Kd.C_below HA.out HW.out) i x hx
          obtain ⟨bd, rfl, c2⟩ := elemB (Kd.C_below HB.out HW.out) i y hy
          have t1 : II.toNat = i := by omega
          have p1 : 0 ≤ II := by omega
          have p2 : II < (n : Int) := by omega
          have HCI : Hid (i + 1 ≤ n) := hid ci
          have HW1 : Hid (wrap64 (II + 1) = ((i + 1 : Nat) : Int)) := hid (by have := HN.out; rw [wrap_small _ (by omega) (by omega)]; omega)
          have HXY := hid (And.intro hx hy)
          have HX : Hid (∀ nn, Below w.heap.size w (wr.drewN nn)) := hid fun nn => below_drewN HW.out nn
          clear hx hy hII ci
          cases hc : eqB x y with
          | false =>
            have HC := hid (eqs_bad i x y HXY.out.1 HXY.out.2 hc)
            have hxy : x = !y := by unfold eqB at hc; cases x <;> cases y <;> simp_all
            subst hxy
            clear hc
            cases y
            all_goals
              go_upto_region 6 with fail
              go_quiet (fail)
              go_wp2
              go_ret
              exact ⟨by rw [HC.out]; rfl, HX.out _⟩
          | true =>
            have HC := hid hc
            have hxy2 : x = y := by unfold eqB at hc; simpa using hc
            subst hxy2
            have hxy : (x != x) = false := bne_self_eq_false x
            clear hc
            go_upto_region 6 with fail
            go_quiet (fail)
            go_wp2
            go_roundg k1
            case measure => omega
            case rel => exact ⟨i + 1, congrArg (Value.int .i64) HW1.out, hid ⟨by have := HK.out; omega, HCI.out⟩, hid (fun j a b hj ha hb => by
              rcases Nat.lt_or_ge j i with h | h
              · exact HE.out j a b h ha hb
              · obtain rfl : j = i := by omega
                rw [HXY.out.1] at ha
                rw [HXY.out.2] at hb
                obtain rfl := Option.some.inj ha
                obtain rfl := Option.some.inj hb
                exact HC.out), hid (HX.out _)⟩
        · have b1 : decide (II < (n : Int)) = false := decide_eq_false (by omega)
          have HC : Hid (eqs eqB l k = true) := hid (eqs_all (by have := HN.out; omega) (fun j x y hx hy => HE.out j x y (by have := (List.getElem?_eq_some_iff.1 hx).1; have := HN.out; have := HK.out; omega) hx hy))
          clear hII ci
          go_wp2
          go_ret
          exact ⟨by rw [HC.out]; rfl, HW.out⟩
  · have HE := hid (eqs_ne (c := eqB) hne)
    obtain ⟨n, hn⟩ : ∃ n, l.length = n := ⟨_, rfl⟩
    obtain ⟨m, hm⟩ : ∃ m, k.length = m := ⟨_, rfl⟩
    rw [hn, hm] at hne ⊢
    have b1 : ((n : Int) != (m : Int)) = true := by simp; omega
    have b2 : (n != m) = true := by simp; omega
    have b3 : ¬ n = m := hne
    clear hA hB hl hn hm hne
    go_enter Try.func38, Try.ntmps38
    go_wp2
    go_ret
    exact ⟨by rw [HE.out]; rfl, Below.refl _ _⟩
set_option maxHeartbeats 4000000 in
set_option maxRecDepth 100000 in
theorem same46_calls (x y : S46) (CS DS : Array Value) (w : World) (hx : k46.K w x CS.toList) (hy : k46.K w y DS.toList) (hl : x.f2.length ≤ 9223372036854775807) : Calls Try.prog 37 #[.agg CS, .agg DS] w fun e w' => e = .returned (.bool (c46 x y)) ∧ Below w.heap.size w w' := by
  obtain ⟨A2, c2, e1, l2, g2⟩ := k46_open hx
  obtain ⟨B2, d2, e2, m2, h2⟩ := k46_open hy
  have e1' : CS = #[.int .i64 x.f0, .int .i64 x.f1, .slice A2 x.f2.length c2] := by rw [← Array.toArray_toList (xs := CS), e1]
  have e2' : DS = #[.int .i64 y.f0, .int .i64 y.f1, .slice B2 y.f2.length d2] := by rw [← Array.toArray_toList (xs := DS), e2]
  rw [e1', e2']
  have HQ : Hid (∀ W, Below w.heap.size w W → Calls Try.prog 38 #[.slice A2 x.f2.length c2, .slice B2 y.f2.length d2] W fun e w' => e = .returned (.bool (eqs eqB x.f2 y.f2)) ∧ Hid (Below w.heap.size w w')) := hid fun W hb => (eqb_calls A2 B2 x.f2 y.f2 c2 d2 W (Kd.C_below g2 hb) (Kd.C_below h2 hb) hl).mono fun e w' h => ⟨h.1, hid (L.bel hb h.2)⟩
  have HC : Hid (c46 x y = (decide (x.f0 = y.f0) && decide (x.f1 = y.f1) && eqs eqB x.f2 y.f2)) := hid rfl
  obtain ⟨n, hn⟩ : ∃ n, x.f2.length = n := ⟨_, rfl⟩
  obtain ⟨m, hm⟩ : ∃ m, y.f2.length = m := ⟨_, rfl⟩
  rw [hn, hm] at HQ ⊢
  obtain ⟨r, hr⟩ : ∃ r, eqs eqB x.f2 y.f2 = r := ⟨_, rfl⟩
  rw [hr] at HQ HC
  have HBB : Hid (Below w.heap.size w ((w.alloc (.cells #[.int .i64 x.f0, .int .i64 x.f1, .slice A2 n c2] 46)).alloc (.cells #[.int .i64 y.f0, .int .i64 y.f1, .slice B2 m d2] 46))) := hid (below_alloc (below_alloc (Below.refl _ _) _) _)
  generalize x.f0 = x0 at *
  generalize x.f1 = x1 at *
  generalize y.f0 = y0 at *
  generalize y.f1 = y1 at *
  clear hx hy hl e1 e2 l2 g2 m2 h2 e1' e2' hn hm hr
  by_cases q0 : x0 = y0
  · subst q0
    have b0 : (x0 == x0) = true := beq_self_eq_true x0
    by_cases q1 : x1 = y1
    · subst q1
      have b1 : (x1 == x1) = true := beq_self_eq_true x1
      have HD : Hid (c46 x y = r) := hid (by rw [HC.out]; simp)
      go_enter Try.func37, Try.ntmps37
      go_wp2_with (first | (go_at_call 38; (with_reducible refine (HQ.out _ HBB.out).mono ?_); rintro e w3 ⟨rfl, H3⟩))
      go_ret
      exact ⟨by rw [HD.out]; rfl, H3.out⟩
    · have b1 : (x1 == y1) = false := by simpa using q1
      have HD : Hid (c46 x y = false) := hid (by rw [HC.out, decide_eq_false q1]; simp)
      clear q1
      go_enter Try.func37, Try.ntmps37
      go_wp2
      go_ret
      exact ⟨by rw [HD.out]; rfl, HBB.out⟩
  · have b0 : (x0 == y0) = false := by simpa using q0
    have HD : Hid (c46 x y = false) := hid (by rw [HC.out, decide_eq_false q0]; simp)
    clear q0
    go_enter Try.func37, Try.ntmps37
    go_wp2
    go_ret
    exact ⟨by rw [HD.out]; rfl, HBB.out⟩
set_option maxHeartbeats 4000000 in
set_option maxRecDepth 100000 in
theorem eqf36_calls (A B : Option Addr) (l k : List S46) (ca cb : Nat) (w : World) (hA : Kd.C k46 w A l.length l) (hB : Kd.C k46 w B k.length k) (hl : l.length ≤ 9223372036854775807) (hlb : ∀ x ∈ l, x.f2.length ≤ 9223372036854775807) : Calls Try.prog 36 #[.slice A l.length ca, .slice B k.length cb, .func (.func 37) #[] #[]] w fun e w' => e = .returned (.bool (eqs c46 l k)) ∧ Below w.heap.size w w' := by
  by_cases hne : l.length = k.length
  · obtain ⟨n, hn⟩ : ∃ n, l.length = n := ⟨_, rfl⟩
    have hk : k.length = n := hne ▸ hn
    have HN := hid (show l.length = n ∧ k.length = n ∧ n ≤ 9223372036854775807 from ⟨hn, hk, hn ▸ hl⟩)
    have HLB := hid hlb
    have HA := hid hA
    have HB := hid hB
    rw [hn, hk]
    clear hA hB hl hn hk hne hlb
    go_enter Try.func36, Try.ntmps36
    go_wp2
    go_loopg [17] (n + 1) (fun kq v17 w' => ∃ i : Nat, v17 = .int .i64 (i : Int) ∧ Hid (i + kq = n + 1 ∧ i ≤ n) ∧ Hid (∀ (j : Nat) (x y : S46), j < i → l[j]? = some x → k[j]? = some y → c46 x y = true) ∧ Hid (Below w.heap.size w w'))
    case atStart => exact ⟨0, rfl, hid ⟨by omega, by omega⟩, hid (fun j x y hj => by omega), hid (Below.refl _ _)⟩
    case round =>
      obtain ⟨i, rfl, HK, HE, HW⟩ := hrel
      cases gk with
      | zero => exact absurd HK.out.1 (by have := HK.out; omega)
      | succ k1 =>
        obtain ⟨II, hII⟩ : ∃ II : Int, (i : Int) = II := ⟨_, rfl⟩
        rw [hII]
        by_cases ci : i < n
        · have b1 : decide (II < (n : Int)) = true := decide_eq_true (by omega)
          obtain ⟨x, hx⟩ : ∃ x, l[i]? = some x := ⟨_, List.getElem?_eq_getElem (by have := HN.out; omega)⟩
          obtain ⟨y, hy⟩ : ∃ y, k[i]? = some y := ⟨_, List.getElem?_eq_getElem (by have := HN.out; omega)⟩
          obtain ⟨ad, CS, rfl, hc1, z1, o1, K1⟩ := elem46 (Kd.C_below HA.out HW.out) i x hx
          obtain ⟨bd, DS, rfl, hc2, z2, o2, K2⟩ := elem46 (Kd.C_below HB.out HW.out) i y hy
          have t1 : II.toNat = i := by omega
          have p1 : 0 ≤ II := by omega
          have p2 : II < (n : Int) := by omega
          have HCI : Hid (i + 1 ≤ n) := hid ci
          have HW1 : Hid (wrap64 (II + 1) = ((i + 1 : Nat) : Int)) := hid (by have := HN.out; rw [wrap_small _ (by omega) (by omega)]; omega)
          have HC1 : Hid (∀ q v, CS[q]? = some v → wr.cell? ((ad.add (i * 3)).add q) = some v) := hid hc1
          have HC2 : Hid (∀ q v, DS[q]? = some v → (wr.alloc (.cells CS 46)).cell? ((bd.add (i * 3)).add q) = some v) := hid fun q v hq => cell_keep (hc2 q v hq) (below_alloc (Below.refl _ _) _)
          have i1 : Hid ((Try.prog.info? 46).map (·.size) = some CS.size) := hid (by rw [z1]; exact info46)
          have i2 : Hid ((Try.prog.info? 46).map (·.size) = some DS.size) := hid (by rw [z2]; exact info46)
          have G1 : Hid (((wr.alloc (.cells CS 46)).alloc (.cells DS 46)).heap[wr.heap.size]? = some (.cells CS 46 (0, 0))) := hid (blk_old wr _ _)
          have G2 : Hid (((wr.alloc (.cells CS 46)).alloc (.cells DS 46)).heap[wr.heap.size + 1]? = some (.cells DS 46 (0, 0))) := hid (blk_new2 wr _ _)
          have HB2 : Hid (Below wr.heap.size wr ((wr.alloc (.cells CS 46)).alloc (.cells DS 46))) := hid (below_alloc (below_alloc (Below.refl _ _) _) _)
          have Z1 : Hid (CS.size = 3 ∧ CS.all (·.oneCell') = true) := hid ⟨z1, o1⟩
          have Z2 : Hid (DS.size = 3 ∧ DS.all (·.oneCell') = true) := hid ⟨z2, o2⟩
          have HXY := hid (And.intro hx hy)
          have HCL : Hid (Calls Try.prog 37 #[.agg CS, .agg DS] ((wr.alloc (.cells CS 46)).alloc (.cells DS 46)) fun e w' => e = .returned (.bool (c46 x y)) ∧ Below ((wr.alloc (.cells CS 46)).alloc (.cells DS 46)).heap.size ((wr.alloc (.cells CS 46)).alloc (.cells DS 46)) w') := hid (same46_calls x y CS DS _ (Kd.K_below _ HB2.out K1) (Kd.K_below _ HB2.out K2) (HLB.out x (List.mem_of_getElem? hx)))
          clear hx hy hII ci hc1 hc2 z1 z2 o1 o2 K1 K2
          cases hc : c46 x y with
          | false =>
            have HC := hid (eqs_bad i x y HXY.out.1 HXY.out.2 hc)
            rw [hc] at HCL
            clear hc
            go_wp2_with (first
              | ((with_reducible refine L.wpList_load_cells (o := ⟨some 21, _, _, _, _, _⟩) ?hgd 46 (.tmp 20) ?ho (ad.add (i * 3)) ?hx CS _ HC1.out Try.underlying46 ?hd i1.out ?_); (case hgd => rfl); (case ho => rfl); (case hx => rfl); (case hd => rfl))
              | ((with_reducible refine L.wpList_store_new rfl 46 _ _ rfl 46 _ CS ?hx ?hy i1.out ?ho Z1.out.2 ?_); (case hx => rfl); (case hy => rfl); (case ho => rw [Z1.out.1]; rfl))
              | ((with_reducible refine L.wpList_load_cells (o := ⟨some 25, _, _, _, _, _⟩) ?hgd 46 (.tmp 24) ?ho (bd.add (i * 3)) ?hx DS _ HC2.out Try.underlying46 ?hd i2.out ?_); (case hgd => rfl); (case ho => rfl); (case hx => rfl); (case hd => rfl))
              | ((with_reducible refine wpList_store_new2 rfl 46 _ _ rfl 46 _ DS (wr.heap.size + 1) ?hn ?hx ?hy i2.out ?ho Z2.out.2 ?_); (case hn => simp); (case hx => rfl); (case hy => rfl); (case ho => rw [Z2.out.1]; rfl))
              | ((with_reducible refine wpList_load_row (o := ⟨some 27, _, _, _, _, _⟩) ?hgd 46 (.tmp 8) ?ho wr.heap.size ?hx 46 CS (0, 0) _ G1.out Try.underlying46 ?hd i1.out ?_); (case hgd => rfl); (case ho => rfl); (case hx => rfl); (case hd => rfl))
              | ((with_reducible refine wpList_load_row (o := ⟨some 28, _, _, _, _, _⟩) ?hgd 46 (.tmp 9) ?ho (wr.heap.size + 1) ?hx 46 DS (0, 0) _ G2.out Try.underlying46 ?hd i2.out ?_); (case hgd => rfl); (case ho => rfl); (case hx => rfl); (case hd => rfl))
              | (go_at_call 37; (with_reducible refine HCL.out.mono ?_); rintro e w3 ⟨rfl, h3⟩; have H3 := hid h3; clear h3))
            go_ret
            exact ⟨by rw [HC.out]; rfl, L.bel HW.out (L.bel HB2.out H3.out)⟩
          | true =>
            have HC := hid hc
            rw [hc] at HCL
            clear hc
            go_wp2_with (first
              | ((with_reducible refine L.wpList_load_cells (o := ⟨some 21, _, _, _, _, _⟩) ?hgd 46 (.tmp 20) ?ho (ad.add (i * 3)) ?hx CS _ HC1.out Try.underlying46 ?hd i1.out ?_); (case hgd => rfl); (case ho => rfl); (case hx => rfl); (case hd => rfl))
              | ((with_reducible refine L.wpList_store_new rfl 46 _ _ rfl 46 _ CS ?hx ?hy i1.out ?ho Z1.out.2 ?_); (case hx => rfl); (case hy => rfl); (case ho => rw [Z1.out.1]; rfl))
              | ((with_reducible refine L.wpList_load_cells (o := ⟨some 25, _, _, _, _, _⟩) ?hgd 46 (.tmp 24) ?ho (bd.add (i * 3)) ?hx DS _ HC2.out Try.underlying46 ?hd i2.out ?_); (case hgd => rfl); (case ho => rfl); (case hx => rfl); (case hd => rfl))
              | ((with_reducible refine wpList_store_new2 rfl 46 _ _ rfl 46 _ DS (wr.heap.size + 1) ?hn ?hx ?hy i2.out ?ho Z2.out.2 ?_); (case hn => simp); (case hx => rfl); (case hy => rfl); (case ho => rw [Z2.out.1]; rfl))
              | ((with_reducible refine wpList_load_row (o := ⟨some 27, _, _, _, _, _⟩) ?hgd 46 (.tmp 8) ?ho wr.heap.size ?hx 46 CS (0, 0) _ G1.out Try.underlying46 ?hd i1.out ?_); (case hgd => rfl); (case ho => rfl); (case hx => rfl); (case hd => rfl))
              | ((with_reducible refine wpList_load_row (o := ⟨some 28, _, _, _, _, _⟩) ?hgd 46 (.tmp 9) ?ho (wr.heap.size + 1) ?hx 46 DS (0, 0) _ G2.out Try.underlying46 ?hd i2.out ?_); (case hgd => rfl); (case ho => rfl); (case hx => rfl); (case hd => rfl))
              | (go_at_call 37; (with_reducible refine HCL.out.mono ?_); rintro e w3 ⟨rfl, h3⟩; have H3 := hid h3; clear h3))
            go_roundg k1
            case measure => omega
            case rel => exact ⟨i + 1, congrArg (Value.int .i64) HW1.out, hid ⟨by have := HK.out; omega, HCI.out⟩, hid (fun j a b hj ha hb => by
              rcases Nat.lt_or_ge j i with h | h
              · exact HE.out j a b h ha hb
              · obtain rfl : j = i := by omega
                rw [HXY.out.1] at ha
                rw [HXY.out.2] at hb
                obtain rfl := Option.some.inj ha
                obtain rfl := Option.some.inj hb
                exact HC.out), hid (L.bel HW.out (L.bel HB2.out H3.out))⟩
        · have b1 : decide (II < (n : Int)) = false := decide_eq_false (by omega)
          have HC : Hid (eqs c46 l k = true) := hid (eqs_all (by have := HN.out; omega) (fun j x y hx hy => HE.out j x y (by have := (List.getElem?_eq_some_iff.1 hx).1; have := HN.out; have := HK.out; omega) hx hy))
          clear hII ci
          go_wp2
          go_ret
          exact ⟨by rw [HC.out]; rfl, HW.out⟩
  · have HE := hid (eqs_ne (c := c46) hne)
    obtain ⟨n, hn⟩ : ∃ n, l.length = n := ⟨_, rfl⟩
    obtain ⟨m, hm⟩ : ∃ m, k.length = m := ⟨_, rfl⟩
    rw [hn, hm] at hne ⊢
    have b1 : ((n : Int) != (m : Int)) = true := by simp; omega
    have b2 : (n != m) = true := by simp; omega
    have b3 : ¬ n = m := hne
    clear hA hB hl hn hm hne hlb
    go_enter Try.func36, Try.ntmps36
    go_wp2
    go_ret
    exact ⟨by rw [HE.out]; rfl, Below.refl _ _⟩
end Go.Proofs.Ytnikcccobfcndaa.Sc
