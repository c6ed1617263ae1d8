/- sorting floats: the reference's Sorted. -/
import Derived.Test.YtebfnmhpmgjoiaaTd
namespace Go.Proofs.Ytebfnmhpmgjoiaa.Fl
open Go.RowKit FT SM Go.Proofs.YtebfnmhpmgjoiaaW.PrintWords Go.Proofs.YtebfnmhpmgjoiaaW.PrintMore
set_option linter.unusedVariables false
set_option linter.unusedSimpArgs false
/-- An append whose run is known, at a step of a region that draws its order. -/
theorem step_append_run {P : Program} {w : World} {ops : Array Oper} {o : Oper} {a : Act} {K : Act → World → Prop} {Q : Exit → Act → World → Prop} {E : Prop} (hgd : o.guard = none) (s x : Operand) (t tn : TypeId)
    (ho : o.op = .call { callee := .builtin .append, args := #[s, x], argTypes := #[t, tn] }) (vs vx : Value) (hs : a.eval s = vs) (hx : a.eval x = vx)
    (v' : Value) (w' : World) (hr : (Builtin.append_ #[t, tn] o.type #[vs, vx]).run P w = .ok v' w') (h : K (a.put o.dst v') w') :
    if Region.wanted o (yielded ops a.tmps) = true then Oper.wp P o a w K Q else E := by
  have hw : Region.wanted o (yielded ops a.tmps) = true := by simp [Region.wanted, hgd]
  rw [if_pos hw]
  exact Lib.wp_append_run w s x t tn ho vs vx hs hx v' w' hr h
theorem put_sorted {L : List Nat} (v k : Nat) (hk : k ≤ L.length) (hs : Sd less L) (h1 : k = 0 ∨ ∃ y, L[k - 1]? = some y ∧ less v y = false) (h2 : ∀ (j y : Nat), k ≤ j → L[j]? = some y → less v y = true) : Sd less (L.take k ++ v :: L.drop k) := by
  refine one_in less_SW (by rw [List.take_append_drop]; exact hs) ?_ ?_
  · intro y hy
    rcases h1 with rfl | ⟨z, hz, hl⟩
    · simp at hy
    · by_cases h0 : k = 0
      · subst h0; simp at hy
      · rw [List.getLast?_take, if_neg h0, hz] at hy
        have : z = y := by simpa using hy
        rw [← this]; exact hl
  · intro y hy
    rw [List.head?_drop] at hy
    exact less_asymm (h2 k y (Nat.le_refl _) hy)
theorem put_perm {L l : List Nat} (v k i : Nat) (hp : L.Perm (l.take i)) (hv : l[i]? = some v) : (L.take k ++ v :: L.drop k).Perm (l.take (i + 1)) := by
  have e : l.take (i + 1) = l.take i ++ [v] := by rw [List.take_add_one, hv]; rfl
  rw [e]
  refine List.perm_middle.trans ?_
  rw [List.take_append_drop]
  exact (hp.cons v).trans (List.perm_append_singleton v _).symm
/-- What the round holds. -/
structure So (w w' : World) (ad : Addr) (l : List Nat) (A : Option Addr) (c : Nat) (L : List Nat) : Prop where
  ow : Ow w' A c L
  at' : At w' ad l
  bel : Below w.heap.size w w'
theorem So.drewN {w w' : World} {ad : Addr} {l : List Nat} {A : Option Addr} {c : Nat} {L : List Nat} (h : So w w' ad l A c L) (m : Nat) : So w (w'.drewN m) ad l A c L := ⟨h.ow.drewN m, h.at', ⟨h.bel.os, h.bel.tape, h.bel.output, h.bel.size, h.bel.block⟩⟩
set_option maxHeartbeats 4000000 in
theorem sorted_calls (ad : Addr) (l : List Nat) (c0 : Nat) (w : World) (hv : At w ad l) (hl : l.length ≤ 1000) : Calls Try.prog 22 #[.slice (some ad) l.length c0] w fun e w' => ∃ A c L, e = .returned (.slice A L.length c) ∧ Ow w' A c L ∧ L.Perm l ∧ Sd less L ∧ Below w.heap.size w w' := by
  obtain ⟨n, hn⟩ : ∃ n, l.length = n := ⟨_, rfl⟩
  have HN := hid (show l.length = n ∧ n ≤ 1000 from ⟨hn, by omega⟩)
  have HV := hid hv
  rw [hn]
  clear hv hl hn
  go_enter Try.func22, Try.ntmps22
  go_wp2
  go_loopg [3, 9] (n + 1) (fun kq v3 v9 w' => ∃ (i : Nat) (A : Option Addr) (c : Nat) (L : List Nat), v3 = .slice A L.length c ∧ v9 = .int .i64 (i : Int) ∧ Hid (i + kq = n + 1 ∧ i ≤ n) ∧ Hid (L.Perm (l.take i) ∧ Sd less L) ∧ Hid (So w w' ad l A c L))
  case atStart => exact ⟨0, none, 0, [], rfl, rfl, hid ⟨by omega, by omega⟩, hid ⟨by simp, Sd_nil _⟩, hid ⟨⟨Nat.le_refl _, fun _ h => (by cases h), fun _ => ⟨rfl, rfl⟩⟩, HV.out, Below.refl _ _⟩⟩
  case round =>
    obtain ⟨i, A, c, L, rfl, rfl, HK, HL, HW⟩ := hrel
    cases gk with
    | zero => exact absurd HK.out.1 (by have := HK.out; omega)
    | succ k1 =>
      obtain ⟨II, hII⟩ : ∃ II : Int, (i : Int) = II := ⟨_, rfl⟩
      rw [hII]
      by_cases ci : i < n
      · have b1 : decide (II < (n : Int)) = true := decide_eq_true (by omega)
        obtain ⟨v, hv⟩ : ∃ v, l[i]? = some v := ⟨_, List.getElem?_eq_getElem (by have := HN.out; omega)⟩
        have c1 := HW.out.at' i v hv
        have t1 : II.toNat = i := by omega
        have p1 : 0 ≤ II := by omega
        have p2 : II < (n : Int) := by omega
        have HCI : Hid (i + 1 ≤ n) := hid ci
        have HVI := hid hv
        have HW1 : Hid (wrap64 (II + 1) = ((i + 1 : Nat) : Int)) := hid (by have := HN.out; rw [wrap_small _ (by omega) (by omega)]; omega)
        have HLL : Hid (L.length ≤ 1000) := hid (by have h1 := HL.out.1.length_eq; rw [List.length_take] at h1; have := HN.out; omega)
        clear hv hII ci
        go_wp2
        go_loopg [6] (L.length + 1) (fun kq v6 w' => ∃ k : Nat, v6 = .int .i64 (k : Int) ∧ Hid (k < kq ∧ k ≤ L.length) ∧ Hid (∀ (j y : Nat), k ≤ j → L[j]? = some y → less v y = true) ∧ Hid (So w w' ad l A c L))
        case atStart => exact ⟨L.length, rfl, hid ⟨by omega, by omega⟩, hid (fun j y hj hy => absurd (List.getElem?_eq_some_iff.1 hy).1 (by omega)), HW⟩
        case round =>
          clear c1
          obtain ⟨k, rfl, HKk, HB, HX⟩ := hrel
          cases gk with
          | zero => exact absurd HKk.out.1 (by omega)
          | succ k2 =>
            obtain ⟨KI, hKI⟩ : ∃ KI : Int, (k : Int) = KI := ⟨_, rfl⟩
            rw [hKI]
            obtain ⟨ad3, cap, W2, cap3, Z, r1, r2, r3, r4⟩ := put_mem HX.out.ow v k HKk.out.2 (by have := HLL.out; omega)
            have R3 := hid r3
            have R4 := hid r4
            have s31 := cutmid A L.length c k (Nat.le_trans HKk.out.2 HX.out.ow.len)
            have s36 := cutlow A L.length c k HKk.out.2
            rw [hKI] at s31 s36
            obtain ⟨A5, hA5⟩ : ∃ A5, (if c = k then A else A.map (·.add k)) = A5 := ⟨_, rfl⟩
            rw [hA5] at s36 r1
            have R1 := hid r1
            have R2 := hid r2
            have HPM := hid (put_perm v k i HL.out.1 HVI.out)
            have HFIN : Hid ((k = 0 ∨ ∃ y, L[k - 1]? = some y ∧ less v y = false) → Sd less (L.take k ++ v :: L.drop k)) := hid fun h => put_sorted v k HKk.out.2 HL.out.2 h HB.out
            have HPL : Hid ((L.take k ++ v :: L.drop k).length = L.length + 1) := hid (by rw [List.length_append, List.length_cons, List.length_take, List.length_drop]; have := HKk.out; omega)
            have HSO : Hid (So w (W2.drew.alloc (.cells (((L.take k ++ v :: L.drop k) ++ Z).map F).toArray 22)) ad l (some ⟨W2.heap.size, 0, none⟩) cap3 (L.take k ++ v :: L.drop k)) := hid (by
              have hb : Below wr.heap.size wr (W2.drew.alloc (.cells (((L.take k ++ v :: L.drop k) ++ Z).map F).toArray 22)) := below_alloc (below_drew r4) _
              refine ⟨⟨by rw [HPL.out]; exact r3, fun a ha => ?_, fun h => by cases h⟩, HX.out.at'.below hb, HX.out.bel.trans (hb.mono HX.out.bel.size)⟩
              injection ha with ha
              rw [← ha]
              exact At.of_cells (Z := Z) (blk_new W2.drew _))
            have e8 : (((L.take k ++ v :: L.drop k) ++ Z).map F) = List.take k (List.map F L) ++ F v :: (List.drop k (List.map F L) ++ List.map F Z) := by simp [List.map_take, List.map_drop]
            have HSO2 : Hid (So w (W2.alloc (.cells (List.take k (List.map F L) ++ F v :: (List.drop k (List.map F L) ++ List.map F Z)).toArray 22)).drew ad l (some ⟨W2.heap.size, 0, none⟩) cap3 (L.take k ++ v :: L.drop k)) := hid (by have h := HSO.out; rw [e8] at h; exact h)
            clear r1 r2 r3 r4 e8
            by_cases k0 : k = 0
            · have b2 : decide (0 < KI) = false := decide_eq_false (by omega)
              have HSD := hid (HFIN.out (Or.inl k0))
              clear hKI k0 hA5
              go_wp2
              go_upto_region 8 with fail
              go_region_law (first | (refine step_append_run rfl (.tmp 33) (.tmp 36) 31 31 rfl _ _ rfl rfl _ _ R1.out ?_) | (refine step_append_run rfl (.tmp 31) (.tmp 37) 31 31 rfl _ _ rfl rfl _ _ R2.out ?_))
              all_goals go_wp2
              all_goals
                go_roundg k1
                case measure => omega
                case rel => exact ⟨i + 1, some ⟨W2.heap.size, 0, none⟩, cap3, L.take k ++ v :: L.drop k, congrArg (fun nn => Value.slice (some ⟨W2.heap.size, 0, none⟩) nn cap3) HPL.out.symm, congrArg (Value.int .i64) HW1.out, hid ⟨by have := HK.out; omega, HCI.out⟩, hid ⟨HPM.out, HSD.out⟩, HSO2⟩
            · obtain ⟨t, ht⟩ : ∃ t, k = t + 1 := ⟨k - 1, by omega⟩
              cases A with
              | none => exact absurd (HX.out.ow.nil rfl).1 (by rintro rfl; have := HKk.out; simp at this; omega)
              | some a =>
                obtain ⟨q, hq⟩ : ∃ q, L[t]? = some q := ⟨_, List.getElem?_eq_getElem (by have := HKk.out; omega)⟩
                have cq := HX.out.ow.cells a rfl t q hq
                obtain ⟨TI, hTI⟩ : ∃ TI : Int, (t : Int) = TI := ⟨_, rfl⟩
                have b2 : decide (0 < KI) = true := decide_eq_true (by omega)
                have w1 : wrap64 (KI - 1) = TI := by have := HLL.out; have := HKk.out; rw [wrap_small _ (by omega) (by omega)]; omega
                have w2 : IntKind.i64.wrap (KI - 1) = TI := (wrap_i64_is _).trans w1
                have t3 : TI.toNat = t := by omega
                have p3 : 0 ≤ TI := by omega
                have p4 : TI < (L.length : Int) := by have := HKk.out; omega
                have HTI := hid hTI
                have HT := hid ht
                have HQ := hid hq
                clear hKI k0 hA5 ht hq hTI
                cases hc : less v q with
                | false =>
                  have HC := hid hc
                  have HSD := hid (HFIN.out (Or.inr ⟨q, by rw [HT.out, Nat.add_sub_cancel]; exact HQ.out, hc⟩))
                  clear hc
                  go_wp2_with (first | (go_at_call 15; with_reducible refine (rless_calls v q _ _ HC.out).mono ?_; rintro e w1 ⟨rfl, rfl⟩))
                  go_upto_region 8 with fail
                  go_region_law (first | (refine step_append_run rfl (.tmp 33) (.tmp 36) 31 31 rfl _ _ rfl rfl _ _ R1.out ?_) | (refine step_append_run rfl (.tmp 31) (.tmp 37) 31 31 rfl _ _ rfl rfl _ _ R2.out ?_))
                  all_goals go_wp2
                  all_goals
                    go_roundg k1
                    case measure => omega
                    case rel => exact ⟨i + 1, some ⟨W2.heap.size, 0, none⟩, cap3, L.take k ++ v :: L.drop k, congrArg (fun nn => Value.slice (some ⟨W2.heap.size, 0, none⟩) nn cap3) HPL.out.symm, congrArg (Value.int .i64) HW1.out, hid ⟨by have := HK.out; omega, HCI.out⟩, hid ⟨HPM.out, HSD.out⟩, HSO2⟩

                | true =>
                  have HC := hid hc
                  clear hc
                  go_wp2_with (first | (go_at_call 15; with_reducible refine (rless_calls v q _ _ HC.out).mono ?_; rintro e w1 ⟨rfl, rfl⟩))
                  go_roundg k2
                  case measure => omega
                  case rel => exact ⟨t, congrArg (Value.int .i64) HTI.out.symm, hid ⟨by have := HT.out; have := HKk.out; omega, by have := HT.out; have := HKk.out; omega⟩, hid (fun j y hj hy => by
                    rcases Nat.lt_or_ge j k with h | h
                    · obtain rfl : j = t := by have := HT.out; omega
                      rw [HQ.out] at hy
                      obtain rfl := Option.some.inj hy
                      exact HC.out
                    · exact HB.out j y h hy), HX⟩
      · have b1 : decide (II < (n : Int)) = false := decide_eq_false (by omega)
        have HI : Hid (i = n) := hid (by have := HK.out; omega)
        clear hII ci
        go_wp2
        go_ret
        exact ⟨A, c, L, rfl, HW.out.ow, by have h := HL.out.1; rw [HI.out, List.take_of_length_le (by have := HN.out; omega)] at h; exact h, HL.out.2, HW.out.bel⟩
end Go.Proofs.Ytebfnmhpmgjoiaa.Fl
