/- dirs: the closures' contracts, slices.IndexFunc at Entry. -/
import Derived.Test.YteoklaofbdfjlaaPDirsx0
import Derived.Test.YteoklaofbdfjlaaFC
namespace Go.Proofs.Yteoklaofbdfjlaa.Dc
open Go.RowKit Go.Proofs.YteoklaofbdfjlaaW.PrintWords Go.Proofs.Yteoklaofbdfjlaa.PDirs
set_option linter.unusedVariables false
/- ATTR -/
def clone.f (l0 : List S49) : Option (List S49) := if l0.length < 5864062014805 then some l0 else none
theorem clone.info : (Try.prog.info? 49).map (fun i => (i.zero, i.size, i.bytes)) = some (some (.agg #[.string ⟨#[]⟩, .int .i64 0]), 2, 24) := by kernel_rfl
theorem clone.km {W : World} {base : Nat} {ok : Nat → Prop} {x : S49} {cs : List Value} (h : k49.K W x cs) : k49.M W base ok x cs := by
  rw [k49_open h]; exact k49_mkM _ _ _ x
set_option maxHeartbeats 1000000 in
theorem clone.calls (A0 : Option Addr) (c0 : Nat) (l0 : List S49) (r : List S49) (w : World) (hr0 : Kd.C k49 w A0 l0.length l0) (hc0 : l0.length ≤ c0) (h : clone.f l0 = some r) :
    Calls Try.prog 59 #[.slice A0 l0.length c0] w fun e w' => ∃ v0_ : Value, e = .returned (v0_) ∧ Kd.R k49 49 w' w.heap.size (fun _ => True) v0_ r ∧ Below w.heap.size w w' := by
  unfold clone.f at h
  by_cases hl : l0.length < 5864062014805
  · rw [if_pos hl] at h
    obtain rfl := Option.some.inj h
    clear h
    cases A0 with
    | none =>
      have h0 : l0 = [] := by
        cases l0 with
        | nil => rfl
        | cons x t => obtain ⟨ad, e, _⟩ := hr0.2.2 (by simp); exact absurd e (by simp)
      subst h0
      have hq := fun W => Lib.run_eql_slice_nil (P := Try.prog) W 40 49 none 0 c0 0 0 Try.underlying40
      simp only [List.length_nil]
      clear hr0 hc0 hl
      go_enter Try.func59, Try.ntmps59
      go_wp2
      go_ret
      exact ⟨_, rfl, Kd.R_nil _ _ _ _ _, Below.refl _ _⟩
    | some ad =>
      have hq := fun W => Lib.run_eql_slice_nil (P := Try.prog) W 40 49 (some ad) l0.length c0 0 0 Try.underlying40
      have HR := Aside0.mk hr0
      have HC := Aside0.mk hc0
      have HL := Aside0.mk hl
      have HB := Aside0.mk (Below.refl w.heap.size w)
      clear hr0 hc0 hl
      go_enter Try.func59, Try.ntmps59
      go_wp2_with (first | ((with_reducible refine gate_dst (N := 5) rfl ?_); refine Kd.R_lit k49 w.heap.size 49 ?hg (N := 5) ?hd (xs := ([] : List S49)) (inner := []) (ok := fun _ => True) (okp := fun _ => True) ?hr (Reps.none _ _) (fun _ hk => hk) trivial (Below.refl w.heap.size w) (Nat.le_refl _) (by simp) ?_; (case hd => rfl); (case hg => rfl); (case hr => first | (go_simp; done) | (go_simp; rfl)); intro v1 w1 ho hb hg_ hnew_; clear hg_ hnew_; have HO := Aside0.mk ho; clear HB; have HB := Aside0.mk hb; clear ho hb) | ((with_reducible refine gate_builtin (b := .append) (xs := #[.tmp 5, .tmp 6]) rfl ?_); at_builtin; refine Kd.R_append_rows k49 (w0 := w) w.heap.size rfl (.tmp 5) (.tmp 6) 40 49 (.agg #[.string ⟨#[]⟩, .int .i64 0]) 24 rfl Try.underlying40 clone.info rfl (by decide) (by omega) v1 ([] : List S49) l0 _ _ _ (fun _ => True) (fun _ => False) rfl rfl ?aO ?aR (fun _ _ h => clone.km h) (fun _ h => h.elim) ?aF ?aB ?aS ?aL ?_; (case aO => exact HO.out); (case aR => exact Kd.C_below HR.out HB.out); (case aF => exact fun _ _ => trivial); (case aB => exact HB.out); (case aS => exact HB.out.size); (case aL => have := HL.out; simp only [List.length_nil]; omega); intro v2 w2 ho hb hg_ hat_; clear hg_ hat_; clear HO HB; have HO := Aside0.mk ho; have HB := Aside0.mk hb; clear ho hb))
      go_ret
      exact ⟨_, rfl, HO.out, HB.out⟩
  · rw [if_neg hl] at h
    exact absurd h (by simp)

def enc (x : S49) : List Value := [.string x.f0, .int .i64 x.f1]
/-- dirs.Drop's closure: whether the entry's name is s, which lies in block B. -/
theorem drop1 (s : ByteArray) (B : Nat) (x : S49) (W : World) (hB : B < W.heap.size) (hc : W.cell? ⟨B, 0, none⟩ = some (.string s)) :
    Calls Try.prog 60 #[.agg #[.string x.f0, .int .i64 x.f1], .pointer (some ⟨B, 0, none⟩)] W fun e w' => e = .returned (.bool (x.f0.toList == s.toList)) ∧ ∃ n, w' = (W.alloc (.cells #[.string x.f0, .int .i64 x.f1] 49)).drewN n := by
  have hne : B ≠ W.heap.size := by omega
  go_enter Try.func60, Try.ntmps60
  go_wp2
  go_ret
  exact ⟨by simp_all, 0, rfl⟩
/-- What a closure over entries does, in whatever later world. -/
def Pred (g : Nat) (cap : Array Value) (p : S49 → Bool) (w : World) : Prop := ∀ (W : World) (x : S49), Below w.heap.size w W → Calls Try.prog g (#[.agg #[.string x.f0, .int .i64 x.f1]] ++ cap) W fun e w' => e = .returned (.bool (p x)) ∧ Below w.heap.size w w'
set_option maxHeartbeats 2000000 in
theorem indexFunc (g : Nat) (cap : Array Value) (p : S49 → Bool) (A : Option Addr) (c : Nat) (l : List S49) (w : World) (eg : ∀ args w, (callFunc g args).run Try.prog w = .ok (.enter g args) w)
    (hp : Pred g cap p w) (hl : l.length ≤ 1000) (hr : Kd.C k49 w A l.length l) :
    Calls Try.prog 62 #[.slice A l.length c, .func (.func g) #[] cap] w fun e w' => (∃ i : Int, e = .returned (.int .i64 i) ∧ ((∃ k : Nat, ∃ h : k < l.length, i = k ∧ p l[k] = true ∧ ∀ j, ∀ h : j < k, p (l[j]'(by omega)) = false) ∨ (i = -1 ∧ ∀ x ∈ l, p x = false))) ∧ Below w.heap.size w w' := by
  go_enter Try.func62, Try.ntmps62
  go_wp2
  go_loopg [5, 8] l.length (fun gg _ s8 wr => ∃ kk : Nat, kk ≤ l.length ∧ l.length - kk ≤ gg ∧ s8 = .int .i64 kk ∧ Aside (Below w.heap.size w wr) ∧ Aside (∀ j, ∀ h : j < l.length, j < kk → p l[j] = false))
  case atStart => exact ⟨0, Nat.zero_le _, by omega, rfl, Below.refl _ w, fun j _ hj => absurd hj (Nat.not_lt_zero _)⟩
  case round =>
    obtain ⟨kk, hkk, hg, rfl, BW, F⟩ := hrel
    by_cases hlt : kk < l.length
    · obtain ⟨ad, e, h0, h1⟩ := at_T49 hr (kk : Int) (by omega) (by omega)
      subst e
      replace h0 := (BW.out.cell (World.block_lt_of_cell? w _ h0)).trans h0
      replace h1 := (BW.out.cell (World.block_lt_of_cell? w _ h1)).trans h1
      have hcall := hp wr l[kk] BW.out
      have hrd : rd_T49 l (kk : Int) = l[kk] := by
        unfold rd_T49
        rw [Int.toNat_natCast, List.getD_eq_getElem?_getD, List.getElem?_eq_getElem hlt]; rfl
      rw [hrd, Int.toNat_natCast] at h0 h1
      have hltz : (kk : Int) < (l.length : Int) := by omega
      have h0z : (0 : Int) ≤ (kk : Int) := by omega
      have Hr := Aside0.mk hr
      have Hp := Aside0.mk hp
      clear hr hp hrd
      cases hq : p l[kk] with
      | true =>
        rw [hq] at hcall
        go_wp2_with (go_at_fn g; refine hcall.mono ?_; rintro e w' ⟨rfl, hb'⟩)
        go_ret
        exact ⟨⟨_, rfl, Or.inl ⟨kk, hlt, rfl, hq, fun j hj => F.out j (by omega) hj⟩⟩, hb'⟩
      | false =>
        rw [hq] at hcall
        go_wp2_with (go_at_fn g; refine hcall.mono ?_; rintro e w' ⟨rfl, hb'⟩)
        go_roundg (l.length - (kk + 1))
        case measure => omega
        case rel =>
          refine ⟨kk + 1, by omega, by omega, by go_num, hb', (show Aside _ from fun j hl hj => ?_)⟩
          by_cases e : j = kk
          · subst e; exact hq
          · exact F.out j hl (by omega)
    · have hltz : ¬ (kk : Int) < (l.length : Int) := by omega
      go_wp2
      go_ret
      refine ⟨⟨_, rfl, Or.inr ⟨rfl, fun x hx => ?_⟩⟩, BW.out⟩
      obtain ⟨j, hj, rfl⟩ := List.getElem_of_mem hx
      exact F.out j hj (by omega)
end Go.Proofs.Yteoklaofbdfjlaa.Dc
