/- palloc: slices.Clone of words; Copy; Used of a copy. -/
import Derived.Test.YtlojhiacaleokaaDoorTt
namespace Go.Proofs.YtlojhiacaleokaaDoor.Pa
open Go.RowKit Go.Proofs.YtlojhiacaleokaaDoorW.PrintWords Go.Proofs.YtlojhiacaleokaaDoorW.PrintLast Go.Proofs.YtlojhiacaleokaaDoorW.PrintMore
set_option linter.unusedVariables false
set_option linter.unusedSimpArgs false
def slices_Clone.f (l0 : List Int) : Option (List Int) := if l0.length < 17592186044416 then some l0 else none
theorem slices_Clone.info : (Tryd.prog.info? 50).map (fun i => (i.zero, i.size, i.bytes)) = some (some (.int .u64 0), 1, 8) := by kernel_rfl
set_option maxHeartbeats 1000000 in
theorem slices_Clone.calls (A0 : Option Addr) (c0 : Nat) (l0 : List Int) (r : List Int) (w : World) (hr0 : Kd.C (Kd.int .u64) w A0 l0.length l0) (hc0 : l0.length ≤ c0) (h : slices_Clone.f l0 = some r) :
    Calls Tryd.prog 25 #[.slice A0 l0.length c0] w fun e w' => ∃ v0_ : Value, e = .returned (v0_) ∧ Kd.R (Kd.int .u64) 50 w' w.heap.size (fun _ => True) v0_ r ∧ Below w.heap.size w w' := by
  unfold slices_Clone.f at h
  by_cases hl : l0.length < 17592186044416
  · rw [if_pos hl] at h
    obtain rfl := Option.some.inj h
    clear h
    cases A0 with
    | none =>
      have h0 : l0 = [] := by
        cases l0 with
        | nil => rfl
        | cons x t => obtain ⟨ad, e, _⟩ := hr0.2.2 (by simp); exact absurd e (by simp)
      subst h0
      have hq := fun W => Lib.run_eql_slice_nil (P := Tryd.prog) W 46 50 none 0 c0 0 0 Tryd.underlying46
      simp only [List.length_nil]
      clear hr0 hc0 hl
      go_enter Tryd.func25, Tryd.ntmps25
      go_wp2
      go_ret
      exact ⟨_, rfl, Kd.R_nil _ _ _ _ _, Below.refl _ _⟩
    | some ad =>
      have hq := fun W => Lib.run_eql_slice_nil (P := Tryd.prog) W 46 50 (some ad) l0.length c0 0 0 Tryd.underlying46
      have HR := Aside0.mk hr0
      have HC := Aside0.mk hc0
      have HL := Aside0.mk hl
      have HB := Aside0.mk (Below.refl w.heap.size w)
      clear hr0 hc0 hl
      go_enter Tryd.func25, Tryd.ntmps25
      go_wp2_with (first | ((with_reducible refine gate_dst (N := 5) rfl ?_); refine Kd.R_lit (Kd.int .u64) w.heap.size 50 ?hg (N := 5) ?hd (xs := ([] : List Int)) (inner := []) (ok := fun _ => True) (okp := fun _ => True) ?hr (Reps.none _ _) (fun _ hk => hk) trivial (Below.refl w.heap.size w) (Nat.le_refl _) (by simp) ?_; (case hd => rfl); (case hg => rfl); (case hr => first | (go_simp; done) | (go_simp; rfl)); intro v1 w1 ho hb hg_ hnew_; clear hg_ hnew_; have HO := Aside0.mk ho; clear HB; have HB := Aside0.mk hb; clear ho hb) | ((with_reducible refine gate_builtin (b := .append) (xs := #[.tmp 5, .tmp 6]) rfl ?_); at_builtin; refine Kd.R_append_rows (Kd.int .u64) (w0 := w) w.heap.size rfl (.tmp 5) (.tmp 6) 46 50 (.int .u64 0) 8 rfl Tryd.underlying46 slices_Clone.info rfl (by decide) (by omega) v1 ([] : List Int) l0 _ _ _ (fun _ => True) (fun _ => False) rfl rfl ?aO ?aR (fun _ _ h => h) (fun _ h => h.elim) ?aF ?aB ?aS ?aL ?_; (case aO => exact HO.out); (case aR => exact Kd.C_below HR.out HB.out); (case aF => exact fun _ _ => trivial); (case aB => exact HB.out); (case aS => exact HB.out.size); (case aL => have := HL.out; simp only [List.length_nil]; omega); intro v2 w2 ho hb hg_ hat_; clear hg_ hat_; clear HO HB; have HO := Aside0.mk ho; have HB := Aside0.mk hb; clear ho hb))
      go_ret
      exact ⟨_, rfl, HO.out, HB.out⟩
  · rw [if_neg hl] at h
    exact absurd h (by simp)
theorem add_block (ad : Addr) (j : Nat) : (ad.add j).block = ad.block := by unfold Addr.add; split <;> rfl
theorem C_words {w : World} {ad : Addr} {xs : List Nat} (hl : xs.length ≤ 20000) (h : ∀ j (hj : j < xs.length), w.cell? (ad.add j) = some (.int .u64 (xs[j] : Int))) : Kd.C (Kd.int .u64) w (some ad) (vals xs).length (vals xs) := by
  refine Kd.C_of_reads (d := (0 : Int)) ⟨rfl, by rw [vals_len]; omega, fun _ => ⟨ad, rfl, fun j hj => ?_⟩⟩
  rw [vals_len] at hj
  rw [h j hj]
  congr 1
  simp [vals, List.getD_eq_getElem?_getD, hj]
/-- A copy: its blocks are from base on. -/
structure CV (w : World) (base b : Nat) (L : List Nat) : Prop where
  ex : ∃ (n free : Int) (ad : Addr) (c : Nat) (xs : List Nat), w.heap[b]? = some (.cells #[.int .i64 n, .int .i64 free, .slice (some ad) xs.length c] 48 (0, 0)) ∧ (∀ j (hj : j < xs.length), w.cell? (ad.add j) = some (.int .u64 (xs[j] : Int))) ∧ base ≤ ad.block ∧ ad.block < w.heap.size ∧ ul xs = L ∧ (∀ x ∈ xs, x < 18446744073709551616) ∧ xs.length ≤ 20000
  low : base ≤ b
theorem CV.lt {w : World} {base b : Nat} {L : List Nat} (h : CV w base b L) : b < w.heap.size := by
  obtain ⟨n, free, ad, c, xs, h1, _⟩ := h.ex
  exact blk_lt h1
theorem CV.move {w w' : World} {base b : Nat} {L : List Nat} (h : CV w base b L) (hs : w.heap.size ≤ w'.heap.size) (hk : ∀ k, base ≤ k → k < w.heap.size → w'.heap[k]? = w.heap[k]?) : CV w' base b L := by
  have hlt := h.lt
  obtain ⟨n, free, ad, c, xs, h1, h2, h3, h4, h5⟩ := h.ex
  exact ⟨⟨n, free, ad, c, xs, (hk b h.low hlt).trans h1, fun j hj => (World.cell?_of_block (w := w) (a := ad.add j) (by rw [add_block]; exact hk ad.block h3 h4)).trans (h2 j hj), h3, Nat.lt_of_lt_of_le h4 hs, h5⟩, h.low⟩
theorem CV.below {w w' : World} {base b : Nat} {L : List Nat} (h : CV w base b L) (hb : Below w.heap.size w w') : CV w' base b L := h.move hb.size fun k _ hk => hb.block k hk
theorem CV.fr {w w' : World} {base b x y : Nat} {L : List Nat} (h : CV w base b L) (hf : Fr x y w w') (hx : x < base) (hy : y < base) : CV w' base b L := h.move hf.size fun k h1 hk => hf.rest k hk (by omega) (by omega)
theorem copy_nil (w : World) : Calls Tryd.prog 19 #[.pointer none] w fun e w' => e = .returned (.pointer none) ∧ w' = w := by
  go_enter Tryd.func19, Tryd.ntmps19
  go_wp2
  go_ret
  exact ⟨rfl, rfl⟩
set_option maxHeartbeats 2000000 in
theorem PS.copy {w : World} {b g n : Nat} {L : List Nat} (h : PS w b g n L) :
    Calls Tryd.prog 19 #[.pointer (some ⟨b, 0, none⟩)] w fun e w' => ∃ b2, e = .returned (.pointer (some ⟨b2, 0, none⟩)) ∧ CV w' w.heap.size b2 L ∧ Below w.heap.size w w' := by
  obtain ⟨xs, hp, hul⟩ := h.ex
  obtain ⟨FI, hFI⟩ : ∃ FI : Int, (n : Int) - (L.length : Int) = FI := ⟨_, rfl⟩
  rw [hFI] at hp
  have hb0 := hp.c0
  have hb1 := hp.c1
  have hb2 := hp.c2
  have HP := hid hp
  have HU := hid hul
  have HN1 : Hid (xs.length ≤ 20000) := hid (by have := hp.len; have := hp.n1; omega)
  have HLT := hid h.lt
  clear h hp hul hFI
  obtain ⟨W0, hW0⟩ : ∃ W0, (w.alloc (.cells #[.int .i64 (n : Int), .int .i64 FI, .slice (some ⟨g, 0, none⟩) xs.length xs.length] 48)) = W0 := ⟨_, rfl⟩
  have hB0 : Below w.heap.size w W0 := by rw [← hW0]; exact below_alloc (Below.refl _ _) _
  have hnew : W0.heap[w.heap.size]? = some (.cells #[.int .i64 (n : Int), .int .i64 FI, .slice (some ⟨g, 0, none⟩) xs.length xs.length] 48 (0, 0)) := by rw [← hW0]; exact blk_new w _
  have hb2' : W0.cell? ⟨b, 2, none⟩ = some (.slice (some ⟨g, 0, none⟩) xs.length xs.length) := (hB0.cell HLT.out.1).trans hb2
  have hr0 := C_words (w := W0) (ad := ⟨g, 0, none⟩) HN1.out (fun j hj => by
    have h1 := (hB0.cell (p := ⟨g, j, none⟩) HLT.out.2).trans (HP.out.cell j hj)
    rw [show (⟨g, 0, none⟩ : Addr).add j = ⟨g, j, none⟩ by simp [Addr.add]; intro h0; omega]
    exact h1)
  have hcl := slices_Clone.calls (some ⟨g, 0, none⟩) xs.length (vals xs) (vals xs) W0 hr0 (by rw [vals_len]; exact Nat.le_refl _) (by unfold slices_Clone.f; rw [if_pos (by rw [vals_len]; have := HN1.out; omega)])
  rw [vals_len] at hcl
  have HB0 := hid hB0
  have HNW := hid hnew
  clear hB0 hnew hr0
  go_enter Tryd.func19, Tryd.ntmps19
  go_wp2_with (first
    | (go_at_call 25; (with_reducible refine hcl.mono ?_); rintro e w2 ⟨v, rfl, hR, hB⟩; obtain ⟨g2, cap, rfl, hg2, hg3, _⟩ := Kd.R_form hR (by rw [vals_len]; have := HP.out.len; have := HP.out.n0; omega); have hn2 := blk_below HNW.out hB; have HN2 := hid hn2; have hc2 : w2.cell? ⟨w.heap.size, 2, none⟩ = some (.slice (some ⟨g, 0, none⟩) xs.length xs.length) := blk_cell hn2 2; have hf2 : w2.frozen? ⟨w.heap.size, 2, none⟩ = false := blk_frozen hn2 2; have HR := Aside0.mk hR; have HB2 := hid (Go.Proofs.YtlojhiacaleokaaDoor.L.bel HB0.out hB); have HG := hid (show W0.heap.size ≤ g2 ∧ g2 < w2.heap.size from ⟨hg2, hg3⟩); clear hR hB hn2 hg2 hg3))
  go_ret
  have hne : g2 ≠ w.heap.size := by have := HG.out.1; have := blk_lt HNW.out; omega
  refine ⟨w.heap.size, rfl, ⟨⟨n, FI, ⟨g2, 0, none⟩, cap, xs, ?_, ?_, ?_, ?_, HU.out, HP.out.lt, HN1.out⟩, Nat.le_refl _⟩, HB2.out.setCell (Nat.le_refl _) _⟩
  · rw [heap_set HN2.out, vals_len]
    rfl
  · intro j hj
    have h1 := Kd.R_cell (d := (0 : Int)) HR.out (j : Int) (by omega) (by rw [vals_len]; omega)
    have h2 := (World.cell?_of_block (w := w2) (a := ⟨g2, j, none⟩) (Below.heap_setCell w2 ⟨w.heap.size, 2, none⟩ (.slice (some ⟨g2, 0, none⟩) (vals xs).length cap) g2 hne)).trans h1.1
    rw [show (⟨g2, 0, none⟩ : Addr).add j = ⟨g2, j, none⟩ by simp [Addr.add]; intro h0; omega]
    refine h2.trans ?_
    congr 1
    simp [rdOf, vals, List.getD_eq_getElem?_getD, hj]
  · have := HG.out.1; have := blk_lt HNW.out; show w.heap.size ≤ g2; omega
  · show g2 < _
    simpa using HG.out.2
set_option maxHeartbeats 4000000 in
theorem CV.used {w : World} {base b : Nat} {L : List Nat} (h : CV w base b L) (hT : Tz.Tb w) :
    Calls Tryd.prog 18 #[.pointer (some ⟨b, 0, none⟩)] w fun e w' => ∃ v, e = .returned v ∧ Kd.R (Kd.int .i64) 3 w' w.heap.size (fun _ => True) v (vals L) ∧ Below w.heap.size w w' := by
  obtain ⟨n, free, cad, cc, xs, h1, h2c, h3, h4, hul, hlt, hn⟩ := h.ex
  have HC := hid h2c
  have HL := hid hlt
  have HU := hid hul
  have HT := hid hT
  have HN1 : Hid (xs.length ≤ 20000) := hid hn
  have HCB := hid h4
  have h2 : w.cell? ⟨b, 2, none⟩ = some (.slice (some cad) xs.length cc) := blk_cell h1 2
  clear h h1 h2c h3 h4 hul hlt hn hT
  go_enter Tryd.func18, Tryd.ntmps18
  go_wp2
  go_loopg [3, 14] (xs.length + 1) (fun kq v3 v14 w' => ∃ k : Nat, v14 = .int .i64 (k : Int) ∧ Hid (k + kq = xs.length + 1 ∧ k ≤ xs.length) ∧ Aside0 (Kd.R (Kd.int .i64) 3 w' w.heap.size (fun _ => True) v3 (vals (upto xs k))) ∧ Aside0 (Below w.heap.size w w'))
  case atStart => exact ⟨0, rfl, hid ⟨by omega, by omega⟩, ⟨Kd.R_nil _ _ _ _ _⟩, ⟨Below.refl _ _⟩⟩
  case round =>
    obtain ⟨k, rfl, HJ, HR, HB⟩ := hrel
    have hk := HJ.out.2
    cases gk with
    | zero => exact absurd HJ.out.1 (by omega)
    | succ k1 =>
      by_cases cj : k < xs.length
      · have c4b0 : decide (k < xs.length) = true := decide_eq_true cj
        have hx0 := HC.out k cj
        have hx : wr.cell? (cad.add k) = some (.int .u64 (xs[k] : Int)) := (HB.out.cell (by rw [add_block]; exact HCB.out)).trans hx0
        have p0 : (0 ≤ (k : Int)) = True := eq_true (by omega)
        have q0 : ((k : Int) < (xs.length : Int)) = True := eq_true (by omega)
        have HW : Hid (wrap64 ((k : Int) + 1) = ((k + 1 : Nat) : Int)) := by
          have := HN1.out
          refine hid ?_
          rw [wrap_small _ (by omega) (by omega)]; rfl
        have hgd : xs.getD k 0 = xs[k] := by rw [List.getD_eq_getElem?_getD, List.getElem?_eq_getElem cj]; rfl
        have HUS : Hid (Us xs k 0 (upto xs k) xs[k]) := hid (by
          have := Us.start xs k (by rw [hgd]; exact HL.out _ (List.getElem_mem cj))
          rw [hgd] at this; exact this)
        obtain ⟨x0, hx0e⟩ : ∃ x0, xs[k] = x0 := ⟨_, rfl⟩
        rw [hx0e] at hx HUS
        have hmul : wrap64 ((k : Int) * 64) = (k : Int) * 64 := by have := HN1.out; exact wrap_small _ (by omega) (by omega)
        clear hx0 hgd hx0e
        go_wp2
        go_loopg [3, 5] 65 (fun kq v3 v5 w' => ∃ (r : Nat) (out : List Nat) (x : Nat), v5 = .int .u64 (x : Int) ∧ Hid (65 ≤ r + kq) ∧ Hid (Us xs k r out x) ∧ Aside0 (Kd.R (Kd.int .i64) 3 w' w.heap.size (fun _ => True) v3 (vals out)) ∧ Aside0 (Below w.heap.size w w'))
        case atStart => exact ⟨0, _, x0, rfl, hid (by omega), HUS, HR, HB⟩
        case round =>
          obtain ⟨r, out, x, rfl, HRK, HU2, HR2, HB2⟩ := hrel
          cases gk with
          | zero => exact absurd HRK.out (by have := HU2.out.r64; omega)
          | succ k2 =>
            by_cases cx : x = 0
            · have cb : ((x : Int) != 0) = false := by rw [cx]; rfl
              have HD : Hid (out = upto xs (k + 1)) := hid (by have h := HU2.out; rw [cx] at h; exact h.done)
              clear cx
              go_wp2
              go_roundg k1
              case measure => omega
              case rel => exact ⟨k + 1, congrArg (Value.int .i64) HW.out, hid ⟨by have := HJ.out.1; omega, by omega⟩, ⟨by rw [← HD.out]; exact HR2.out⟩, HB2⟩
            · have cb : ((x : Int) != 0) = true := by simp; omega
              have HX0 := hid cx
              have htz := Tz.tz x HU2.out.lt wr (Tz.Tb_below HT.out HB2.out)
              obtain ⟨hst, ht64, hrt⟩ := HU2.out.step cx
              have hlen : out.length ≤ 64 * 20000 + 64 := by
                rw [HU2.out.out]
                have := HN1.out
                have := HU2.out.r64
                exact Nat.le_trans (len_filter _ _) (by omega)
              have hand := and_dec x cx HU2.out.lt
              obtain ⟨t, hte⟩ : ∃ t, Lib.ctz 64 x = t := ⟨_, rfl⟩
              rw [hte] at htz hst ht64 hrt
              obtain ⟨y, hy⟩ : ∃ y, x &&& (x - 1) = y := ⟨_, rfl⟩
              rw [hy] at hand hst
              obtain ⟨M, hM⟩ : ∃ M, 64 * k + t = M := ⟨_, rfl⟩
              rw [hM] at hst
              have hadd : wrap64 ((k : Int) * 64 + (t : Int)) = (M : Int) := by
                have := HN1.out
                rw [wrap_small _ (by omega) (by omega)]; omega
              have HST := hid hst
              have HLEN := hid hlen
              have HRT := hid hrt
              have HS : Aside0 (w.heap.size ≤ wr.heap.size) := ⟨HB2.out.size⟩
              clear hst hlen cx hrt hy hM hte ht64
              go_wp2_with (first | (go_at_call 22; (with_reducible refine htz.mono ?_); rintro e w2 ⟨rfl, hw2⟩; subst w2) | ((with_reducible refine gate_builtin (b := .append) (xs := #[.tmp 21, .tmp 27]) rfl ?_); at_builtin; refine Kd.R_append (Kd.int .i64) (w0 := w) w.heap.size rfl (.tmp 21) (.tmp 27) 22 3 (.int .i64 0) 8 rfl Tryd.underlying22 info3 rfl (by decide) (by omega) _ (vals out) (M : Int) [.int .i64 (M : Int)] (fun _ => True) (fun _ => False) rfl rfl ?aP (fun _ hk => hk.elim) ?aF ?aO ?aB ?aS ?aL ?_; (case aP => exact rfl); (case aF => exact (fun _ _ => trivial)); (case aO => exact HR2.out); (case aB => exact HB2.out); (case aS => exact HS.out); (case aL => have := HLEN.out; rw [vals_len]; omega); intro v1 w1 ho hb1 hg1 hat1; have HO1 := Aside0.mk ho; have HB1 := Aside0.mk hb1; clear ho hb1 hg1 hat1))
              go_roundg k2
              case measure => omega
              case rel =>
                refine ⟨t + 1, out ++ [M], y, ?_, hid (by have := HRK.out; have := HRT.out; omega), HST, ⟨?_⟩, HB1⟩
                · first | rfl | exact congrArg (Value.int .u64) hand
                · rw [vals_append]; exact HO1.out
      · have c4b0 : decide (k < xs.length) = false := decide_eq_false cj
        have HE : Hid (upto xs k = L) := hid (by rw [show k = xs.length by omega]; exact HU.out)
        go_wp2
        go_ret
        exact ⟨_, rfl, by rw [← HE.out]; exact HR.out, HB.out⟩
theorem CV.used' {w : World} {base b : Nat} {L : List Nat} (h : CV w base b L) (hT : Tz.Tb w) :
    Calls Tryd.prog 18 #[.pointer (some ⟨b, 0, none⟩)] w fun e w' => ∃ A c, e = .returned (.slice A L.length c) ∧ L.length ≤ c ∧ Kd.C (Kd.int .i64) w' A L.length (vals L) ∧ Below w.heap.size w w' := by
  refine (h.used hT).mono ?_
  rintro e w' ⟨v, rfl, hR, hB⟩
  obtain ⟨A, c, rfl, h1, h2⟩ := Kd.R_reads hR
  rw [vals_len] at h1 h2 ⊢
  exact ⟨A, c, rfl, h1, h2, hB⟩
end Go.Proofs.YtlojhiacaleokaaDoor.Pa
