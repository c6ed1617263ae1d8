/- palloc: PallocOnce's walk. -/
import Derived.Test.YtlojhiacaleokaaDoorTt
import Derived.Maps.OwnOps
import Derived.Maps.Views
namespace Go.Proofs.YtlojhiacaleokaaDoor.Pa
open Go.RowKit Go.Proofs.YtlojhiacaleokaaDoorW.PrintWords Go.Proofs.YtlojhiacaleokaaDoorW.PrintLast Go.Proofs.YtlojhiacaleokaaDoorW.PrintMore
set_option linter.unusedVariables false
set_option linter.unusedSimpArgs false
theorem law3 : Go.Maps.Keyed Tryd.prog 3 := Go.Maps.int_keyed Tryd.underlying3
theorem zero4 (w : World) : (zeroValue 4).run Tryd.prog w = .ok (.bool false) w := by kernel_rfl
/-- The map at block b holds, of each number, whether it was met. -/
def Mp (w : World) (b n : Nat) (F : Int → Bool) : Prop := ∃ D : DataW Unit, Go.Maps.IsMap D ∧ w.ownsMap Tryd.prog 3 (plainElem Tryd.prog 4) b n D ∧ ∀ x, D.atKey (.int .i64 x) (.lit (.bool false)) = .lit (.bool (F x))
theorem mp_made (w : World) : Mp (w.alloc (.map #[] 0)) w.heap.size 0 (fun _ => false) := ⟨.map [], ⟨[], rfl⟩, World.ownsMap_made _ _ _ _, fun _ => rfl⟩
theorem mp_blk {w w' : World} {b n : Nat} {F : Int → Bool} (h : Mp w b n F) (he : w'.heap[b]? = w.heap[b]?) : Mp w' b n F := by
  obtain ⟨D, h1, ⟨es, clock, hb, h2⟩, h3⟩ := h
  exact ⟨D, h1, ⟨es, clock, he.trans hb, h2⟩, h3⟩
theorem mp_lt {w : World} {b n : Nat} {F : Int → Bool} (h : Mp w b n F) : b < w.heap.size := by
  obtain ⟨D, h1, ⟨es, clock, hb, h2⟩, h3⟩ := h
  rcases Nat.lt_or_ge b w.heap.size with h1 | h1
  · exact h1
  · rw [Array.getElem?_eq_none h1] at hb; cases hb
theorem mp_look {w : World} {b n : Nat} {F : Int → Bool} (h : Mp w b n F) {x : Int} (hx : (Lit.int .i64 x).wf = true) :
    (Instr.lookup 27 (.map (some b)) (.int .i64 x) false).run Tryd.prog w = .ok (.bool (F x)) w := by
  obtain ⟨D, h1, h2, h3⟩ := h
  obtain ⟨v, ps, hr, hv⟩ := h2.lookup law3 Tryd.underlying27 (zero4 w) (zd := .lit (.bool false)) (zp := []) (plainElem_bool Tryd.underlying4 false) (Go.Maps.keyOf_int_mk Tryd.underlying3 hx)
  rw [h3] at hv
  unfold plainElem at hv
  rw [Tryd.underlying4] at hv
  cases v <;> simp at hv
  rw [hr, hv.1]
theorem upd {W : World} {ops : Array Oper} {rest : List Oper} {o : Oper} {a : Act} {Q : Exit → Act → World → Prop} (hg : o.guard = none) (m x v : Operand) (hop : o.op = Op.mapUpdate 27 m x v)
    (b n : Nat) (F : Int → Bool) (hm : a.eval m = .map (some b)) (HM : Mp W b n F) (hn : n < 1000000) (X : Int) (hx : a.eval x = .int .i64 X) (hv : a.eval v = .bool true) (wX : (Lit.int .i64 X).wf = true)
    (hK : ∀ w', Mp w' b (n + 1) (fun y => if y = X then true else F y) → W.grownBy w' (some b) → wpList Tryd.prog ops Q rest (a.put o.dst undef) w') : wpList Tryd.prog ops Q (o :: rest) a W := by
  obtain ⟨D, h1, h2, h3⟩ := HM
  refine wpList_mapUpdate_own _ hg m x v 27 hop 3 4 law3 Tryd.underlying27 _ b n D hm h2 (by unfold maxLen; omega) _ _ _ hx hv (Go.Maps.keyOf_int_mk Tryd.underlying3 wX) _ [] (plainElem_bool Tryd.underlying4 true) ?_
  intro w' h4 h5
  refine hK w' ⟨_, ?_, h4, fun y => ?_⟩ h5
  · obtain ⟨es, rfl⟩ := h1; exact ⟨_, rfl⟩
  · show _ = DataW.lit (Lit.bool (if y = X then true else F y))
    by_cases e : y = X
    · subst e; rw [if_pos rfl]; exact Go.Maps.atKey_put_same h1 (by trivial) _ _
    · rw [if_neg e, Go.Maps.atKey_put_other (fun q => e (by injection q))]; exact h3 y
/-- The round's state: the object, the map of what was met. -/
structure Os (w W : World) (b g m N j : Nat) (L : List Nat) : Prop where
  ps : PS W b g N L
  mp : ∃ F, Mp W m j F ∧ ∀ x : Int, F x = true → x.toNat ∈ L
  mb : m ≠ b
  mg : m ≠ g
  bel : Below w.heap.size w W
  low : w.heap.size ≤ b ∧ w.heap.size ≤ g ∧ w.heap.size ≤ m
theorem TakeIs.free {n : Nat} {L : List Nat} {v : Value} {L' : List Nat} (h : TakeIs n L v L') (hl : L.length < n) : ∃ m : Nat, Mex L m ∧ m ≤ n ∧ v = .tuple #[.int .i64 m, .bool true] ∧ L' = insL L m := by
  rcases h with ⟨h1, _⟩ | ⟨_, m, h1, h2, h3, h4⟩
  · omega
  · exact ⟨m, h1, h2, h3, h4⟩
theorem TakeIs.full {n : Nat} {L : List Nat} {v : Value} {L' : List Nat} (h : TakeIs n L v L') (hl : L.length = n) : v = .tuple #[.int .i64 0, .bool false] ∧ L' = L := by
  rcases h with ⟨_, h1, h2⟩ | ⟨h0, _⟩
  · exact ⟨h1, h2⟩
  · omega
theorem wf_small (m : Nat) (h : m ≤ 1048576) : (Lit.int .i64 (m : Int)).wf = true := by
  have h1 := wrap64_wf (m : Int)
  rwa [wrap_small _ (by omega) (by omega)] at h1
theorem Os.step {w W W2 W3 : World} {b g m N j : Nat} {L : List Nat} (h : Os w W b g m N j L) (x : Nat) (hP : PS W2 b g N (insL L x)) (hF : Fr b g W W2) {F : Int → Bool} (hM : Mp W3 m (j + 1) (fun y => if y = (x : Int) then true else F y)) (hFL : ∀ y : Int, F y = true → y.toNat ∈ L) (hg : W2.grownBy W3 (some m)) : Os w W3 b g m N (j + 1) (insL L x) := by
  refine ⟨hP.move (hg.block b hP.lt.1 (by simp [Ne.symm h.mb])) (hg.block g hP.lt.2 (by simp [Ne.symm h.mg])), ⟨_, hM, ?_⟩, h.mb, h.mg, ?_, h.low⟩
  · intro y hy
    rw [mem_insL]
    by_cases e : y = (x : Int)
    · left; omega
    · rw [if_neg e] at hy; exact Or.inr (hFL y hy)
  · have h2 := hF.low h.bel (Nat.le_refl _) h.low.1 h.low.2.1
    refine h2.trans ⟨hg.os, hg.tape, hg.output, hg.size, fun k hk => hg.block k (by have := h2.size; omega) (by have := h.low.2.2; simp; omega)⟩
theorem mex_del {N : Nat} {L : List Nat} {i x : Nat} (hs : L.Pairwise (· < ·)) (hin : In N L) (hl : L.length = N) (hx : x ∈ L) (h : Mex (delL L x) i) (hi : i ≤ N) : i = x := by
  apply Decidable.byContradiction
  intro hn
  refine h.out ?_
  rw [delL, List.mem_filter, decide_eq_true_iff]
  exact ⟨full N L hs hin hl i h.pos hi, hn⟩
set_option maxHeartbeats 4000000 in
set_option maxRecDepth 100000 in
theorem walkPallocOnce (a0 : Int) (A1 : Option Addr) (c1 : Nat) (l1 : (List Int)) (a2 : Int) (w : World) (w0 : (Lit.int .i64 a0).wf = true) (hl1 : l1.length ≤ c1) (hr1 : Kd.C (Kd.int .i64) w A1 l1.length l1) (g1 : (l1.length ≤ maxLen ∧ ∀ y1 ∈ l1, (Lit.int .i64 y1).wf = true)) (y1 : l1.length * 8 ≤ 140737488351232) (w2 : (Lit.int .i64 a2).wf = true) (hT : Tz.Tb w) :
    Calls Tryd.prog 3 #[.int .i64 a0, .slice A1 l1.length c1, .int .i64 a2] w fun e w' => e = .returned (.bool true) ∧ Below w.heap.size w w' := by
  have haw := awake w hT
  have HT := hid hT
  have HR := hid hr1
  clear w0 g1 y1 w2 hT hr1 hl1
  by_cases c1' : a0 < 0
  · have b1 : decide (a0 < 0) = true := decide_eq_true c1'
    go_enter Tryd.func3, Tryd.ntmps3
    go_wp2_with (first | (go_at_call 7; (with_reducible refine haw.mono ?_); rintro e w1 ⟨rfl, hB⟩; have HB := hid hB; clear hB))
    go_ret
    exact ⟨rfl, HB.out⟩
  · have b1 : decide (a0 < 0) = false := decide_eq_false c1'
    by_cases c2 : 200 < a0
    · have b2 : decide (200 < a0) = true := decide_eq_true c2
      go_enter Tryd.func3, Tryd.ntmps3
      go_wp2_with (first | (go_at_call 7; (with_reducible refine haw.mono ?_); rintro e w1 ⟨rfl, hB⟩; have HB := hid hB; clear hB))
      go_ret
      exact ⟨rfl, HB.out⟩
    · have b2 : decide (200 < a0) = false := decide_eq_false c2
      by_cases c3 : 60 < l1.length
      · have b3 : decide (60 < (l1.length : Int)) = true := decide_eq_true (by omega)
        go_enter Tryd.func3, Tryd.ntmps3
        go_wp2_with (first | (go_at_call 7; (with_reducible refine haw.mono ?_); rintro e w1 ⟨rfl, hB⟩; have HB := hid hB; clear hB))
        go_ret
        exact ⟨rfl, HB.out⟩
      · have b3 : decide (60 < (l1.length : Int)) = false := decide_eq_false (by omega)
        have hcl : (cl a0 : Int) = a0 := by unfold cl; omega
        obtain ⟨N, hN⟩ : ∃ N, cl a0 = N := ⟨_, rfl⟩
        rw [hN] at hcl
        have HLs := hid (show l1.length ≤ 1000 by omega)
        have HN := hid hN
        have HN2 : Hid (N ≤ 200) := hid (by omega)
        have HCL := hid hcl
        have hmm := @run_makeMap Tryd.prog
        clear c1' c2 c3 hN hcl
        go_enter Tryd.func3, Tryd.ntmps3
        go_wp2_with (first
          | (go_at_call 7; (with_reducible refine haw.mono ?_); rintro e w1 ⟨rfl, hB⟩; have HB := hid hB; clear hB)
          | (go_at_call 8; (with_reducible refine (new_ A1 c1 l1 w1 (Kd.C_below HR.out HB.out) HLs.out a0).mono ?_); rw [HN.out]; rintro e w2 ⟨rfl, hP, hB⟩; obtain ⟨L0, hL⟩ : ∃ L, newL N l1 = L := ⟨_, rfl⟩; rw [hL] at hP; have HP := hid hP; have HB2 := hid (Go.Proofs.YtlojhiacaleokaaDoor.L.bel HB.out hB); clear hP hB hL)
          | (go_at_call 9; (with_reducible refine (HP.out.free).mono ?_); rintro e w9 ⟨rfl, hw9⟩; subst w9; obtain ⟨FR, hFR⟩ : ∃ FR : Nat, N - L0.length = FR := ⟨_, rfl⟩; have hFI : (N : Int) - (L0.length : Int) = (FR : Int) := (by have := HP.out.len; omega); rw [hFI]; have HFR := hid hFR; clear hFR hFI))
        obtain ⟨b, hbe⟩ : ∃ b, w1.heap.size + 1 = b := ⟨_, rfl⟩
        obtain ⟨g, hge⟩ : ∃ g, w1.heap.size = g := ⟨_, rfl⟩
        obtain ⟨m, hme⟩ : ∃ m, w2.heap.size = m := ⟨_, rfl⟩
        have HO : Hid (Os w (w2.alloc (.map #[] 0)) b g m N 0 L0) := hid (by
          have h1 := HP.out
          rw [hbe, hge] at h1
          have h2 := mp_made w2
          rw [hme] at h2
          exact ⟨h1.below (below_alloc (Below.refl _ _) _), ⟨_, h2, fun x hx => by cases hx⟩, by have := h1.lt.1; omega, by have := h1.lt.2; omega, below_alloc HB2.out _, ⟨by have := HB.out.size; omega, by have := HB.out.size; omega, by have := HB2.out.size; omega⟩⟩)
        have HL0 := hid HP.out.len
        rw [hbe, hme]
        clear hbe hge hme HB HB2 HP haw hmm
        subst a0
        go_loopg [36] (FR + 1) (fun kq v36 w' => ∃ j : Nat, v36 = .int .i64 (j : Int) ∧ Hid (j + kq = FR + 1 ∧ j ≤ FR) ∧ Hid (∃ L, Os w w' b g m N j L ∧ L.length = L0.length + j))
        case atStart => exact ⟨0, rfl, hid ⟨by omega, by omega⟩, hid ⟨L0, HO.out, rfl⟩⟩
        case round =>
          clear HO
          obtain ⟨j, rfl, HK, HO⟩ := hrel
          have hj := HK.out.2
          obtain ⟨L, hO, hlen⟩ := HO.out
          obtain ⟨F, hM, hFL⟩ := hO.mp
          have HO := hid hO
          have HM := hid hM
          have HFL := hid hFL
          have HLEN := hid hlen
          clear hO hM hFL hlen
          cases gk with
          | zero => exact absurd HK.out.1 (by omega)
          | succ k1 =>
            by_cases cj : j < FR
            · have c4b0 : decide (j < FR) = true := decide_eq_true cj
              have HLT : Hid (L.length < N) := hid (by have := HLEN.out; have := HFR.out; have := HL0.out; omega)
              have HW : Hid (wrap64 ((j : Int) + 1) = ((j + 1 : Nat) : Int)) := by
                have := HFR.out
                have := HN2.out
                refine hid ?_
                rw [wrap_small _ (by omega) (by omega)]; rfl
              go_wp2_with (first
                | (go_at_call 10; (with_reducible refine (HO.out.ps.take (Tz.Tb_below HT.out HO.out.bel)).mono ?_); rintro e w4 ⟨v, L', rfl, hTk, hP, hF⟩; obtain ⟨x, hx, hxN, rfl, rfl⟩ := hTk.free HLT.out; have HX := hid hx; have hMM : Mp w4 m j F := mp_blk HM.out (hF.rest m (mp_lt HM.out) HO.out.mb HO.out.mg); have hFx : F (x : Int) = false := (by cases hc : F (x : Int) with | false => rfl | true => exact absurd (by have := HFL.out _ hc; rwa [Int.toNat_natCast] at this) HX.out.out); have hlk := mp_look hMM (wf_small x (Nat.le_trans hxN (Nat.le_trans HN2.out (by decide)))); rw [hFx] at hlk; have hb4 : decide ((x : Int) < 1) = false := decide_eq_false (by have := HX.out.pos; omega); have hb5 : decide ((N : Int) < (x : Int)) = false := decide_eq_false (by omega); have hb6 : decide (N < x) = false := decide_eq_false (by omega); have HP4 := hid hP; have HF4 := hid hF; have HMM := hid hMM; have HXN := hid hxN; clear hTk hP hF hx hMM hFx hxN)
                | (refine upd rfl (.tmp 59) (.tmp 60) _ rfl m j F rfl HMM.out (by have := HN2.out; have := HFR.out; omega) (x : Int) rfl rfl (wf_small x (by have := HXN.out; have := HN2.out; omega)) ?_; intro w5 hM5 hg5; have HO5 := hid (HO.out.step x HP4.out HF4.out hM5 HFL.out hg5); clear hM5 hg5))
              go_roundg k1
              case measure => omega
              case rel =>
                refine ⟨j + 1, congrArg (Value.int .i64) HW.out, hid ⟨by have := HK.out.1; omega, by omega⟩, hid ⟨_, HO5.out, ?_⟩⟩
                rw [insL_len _ _ HX.out.out, HLEN.out]; omega
            · have c4b0 : decide (j < FR) = false := decide_eq_false cj
              have HFU : Hid (L.length = N) := hid (by have := HLEN.out; have := HFR.out; have := HL0.out; omega)
              have hz : (N : Int) - (L.length : Int) = 0 := by have := HFU.out; omega
              cases hh : hasL L a2 with
              | false =>
                have hout : a2 < 1 ∨ (N : Int) < a2 := by
                  apply Decidable.byContradiction
                  intro hc
                  unfold hasL at hh
                  rw [decide_eq_false_iff_not] at hh
                  exact hh (full N L HO.out.ps.sorted HO.out.ps.inn HFU.out a2.toNat (by omega) (by omega))
                have HOUT := hid hout
                have hor : decide (a2 < 1) = true ∨ (decide (a2 < 1) = false ∧ decide ((N : Int) < a2) = true) := by
                  by_cases h : a2 < 1
                  · exact Or.inl (decide_eq_true h)
                  · exact Or.inr ⟨decide_eq_false h, decide_eq_true (by omega)⟩
                clear hout
                rcases hor with h1 | ⟨h1, h2⟩
                all_goals
                  go_wp2_with (first
                    | (go_at_call 10; (with_reducible refine (HO.out.ps.take (Tz.Tb_below HT.out HO.out.bel)).mono ?_); rintro e w4 ⟨v, L', rfl, hTk, hP, hF⟩; obtain ⟨rfl, rfl⟩ := hTk.full HFU.out; have HP4 := hid hP; have HB4 := hid (hF.low HO.out.bel (Nat.le_refl _) HO.out.low.1 HO.out.low.2.1); clear hTk hP hF)
                    | (go_at_call 9; (with_reducible refine (HP4.out.free).mono ?_); rw [hz]; rintro e w9 ⟨rfl, hw9⟩; subst w9)
                    | (go_at_call 11; (with_reducible refine (HP4.out.give a2).mono ?_); rw [hh]; rintro e w5 ⟨rfl, hP, hF⟩; have HB5 := hid (hF.low HB4.out (Nat.le_refl _) HO.out.low.1 HO.out.low.2.1); clear hP hF))
                  go_ret
                  exact ⟨rfl, HB5.out⟩
              | true =>
                have hmem : a2.toNat ∈ L := by unfold hasL at hh; simpa using hh
                have hpos := HO.out.ps.inn _ hmem
                have HMEM := hid hmem
                have HA2 : Hid ((a2.toNat : Int) = a2) := hid (by omega)
                have hdl := delL_len L a2.toNat HO.out.ps.sorted hmem
                have HDL : Hid ((giveL L a2).length < N) := hid (by unfold giveL; have := HFU.out; omega)
                clear hmem hpos hdl
                go_wp2_with (first
                  | (go_at_call 10; (with_reducible refine (HO.out.ps.take (Tz.Tb_below HT.out HO.out.bel)).mono ?_); rintro e w4 ⟨v, L', rfl, hTk, hP, hF⟩; obtain ⟨rfl, rfl⟩ := hTk.full HFU.out; have HP4 := hid hP; have HB4 := hid (hF.low HO.out.bel (Nat.le_refl _) HO.out.low.1 HO.out.low.2.1); clear hTk hP hF)
                  | (go_at_call 9; (with_reducible refine (HP4.out.free).mono ?_); rw [hz]; rintro e w9 ⟨rfl, hw9⟩; subst w9)
                  | (go_at_call 11; (with_reducible refine (HP4.out.give a2).mono ?_); rw [hh]; rintro e w5 ⟨rfl, hP, hF⟩; have HP5 := hid hP; have HB5 := hid (hF.low HB4.out (Nat.le_refl _) HO.out.low.1 HO.out.low.2.1); clear hP hF)
                  | (go_at_call 10; (with_reducible refine (HP5.out.take (Tz.Tb_below HT.out HB5.out)).mono ?_); rintro e w6 ⟨v, L'', rfl, hTk, hP, hF⟩; obtain ⟨x, hx, hxN, rfl, rfl⟩ := hTk.free HDL.out; obtain rfl := mex_del HO.out.ps.sorted HO.out.ps.inn HFU.out HMEM.out hx hxN; rw [HA2.out]; have HB6 := hid (hF.low HB5.out (Nat.le_refl _) HO.out.low.1 HO.out.low.2.1); clear hTk hP hF hx hxN))
                go_ret
                exact ⟨rfl, HB6.out⟩
end Go.Proofs.YtlojhiacaleokaaDoor.Pa
