/- sorting floats: Clone, Sort. -/
import Derived.Test.YtebfnmhpmgjoiaaTb
import Derived.Laws.Append
import Derived.Test.YtebfnmhpmgjoiaaWMore
namespace Go.Proofs.Ytebfnmhpmgjoiaa.Fl
open Go.RowKit FT SM Go.Proofs.YtebfnmhpmgjoiaaW.PrintWords Go.Proofs.YtebfnmhpmgjoiaaW.PrintMore
set_option linter.unusedVariables false
set_option linter.unusedSimpArgs false
theorem info22 : (Try.prog.info? 22).map (fun i => (i.zero, i.size, i.bytes)) = some (some (.float .f64 0), 1, 8) := by kernel_rfl
theorem inf22 : ∃ i : TypeInfo, Try.prog.info? 22 = some i ∧ i.zero = some (.float .f64 0) ∧ i.size = 1 ∧ i.bytes = 8 := by
  obtain ⟨i, hi, hz⟩ := Option.map_eq_some_iff.1 info22
  simp only [Prod.mk.injEq] at hz
  exact ⟨i, hi, hz.1, hz.2.1, hz.2.2⟩
theorem At.news {w : World} {ad : Addr} {l : List Nat} (h : At w ad l) : ∀ j v, (l.map F)[j]? = some v → w.cell? (ad.add j) = some v := by
  intro j u hu
  rw [List.getElem?_map] at hu
  cases hj : l[j]? with
  | none => rw [hj] at hu; cases hu
  | some x => rw [hj] at hu; rw [h j x hj]; simpa [F] using hu
theorem cell_lt {w : World} {p : Addr} {v : Value} (h : w.cell? p = some v) : p.block < w.heap.size := by
  rcases Nat.lt_or_ge p.block w.heap.size with h1 | h1
  · exact h1
  · have h2 : w.heap[p.block]? = none := Array.getElem?_eq_none h1
    exfalso
    unfold World.cell? at h
    rw [h2] at h
    simp at h
theorem At.below {w w' : World} {ad : Addr} {l : List Nat} (h : At w ad l) (hb : Below w.heap.size w w') : At w' ad l := fun j x hj => by
  have h1 := h j x hj
  rw [← h1]
  exact hb.cell (cell_lt h1)
theorem zeros (n : Nat) : Builtin.zeroCells (Value.float .f64 0).cells n = (List.replicate n (F 0)).toArray := by
  have e : (Value.float .f64 0).cells = #[Value.float .f64 0] := rfl
  rw [e]
  apply Array.ext
  · simp [Builtin.zeroCells]
  · intro i h1 h2
    simp [Builtin.zeroCells, F, Nat.mod_one]
theorem blk_new (W : World) (o : Obj) : (W.alloc o).heap[W.heap.size]? = some o := by
  simp only [World.alloc]
  exact Array.getElem?_push_size
theorem sz_new (W : World) (o : Obj) : (W.alloc o).heap.size = W.heap.size + 1 := by simp
theorem app_grow (W : World) (b ad : Addr) (l : List Nat) (c : Nat) (hv : At W ad l) (h0 : 0 < l.length) (hl : l.length ≤ 1000000) :
    ∃ cap Z, (Builtin.append_ #[31, 31] 31 #[.slice (some b) 0 0, .slice (some ad) l.length c]).run Try.prog W = .ok (.slice (some ⟨W.heap.size, 0, none⟩) l.length cap) (W.drew.alloc (.cells ((l ++ Z).map F).toArray 22)) := by
  obtain ⟨t, hi, hz, hs, hby⟩ := inf22
  have h := run_append_grow (P := Try.prog) W 31 31 22 t (.float .f64 0) Try.underlying31 hi hz b 0 0 [] (by simp) (by simp) ad l.length c (l.map F) (by simp [hs]) hv.news (by omega) (by omega) (by rw [hby]; exact growslice_fits (by omega) (by omega))
  rw [Nat.zero_add] at h
  rw [zeros] at h
  refine ⟨grownCap W l.length 0 22, List.replicate (grownCap W l.length 0 22 - l.length) 0, ?_⟩
  rw [h]
  congr 3
  simp
set_option maxHeartbeats 2000000 in
theorem clone_some (ad : Addr) (l : List Nat) (c : Nat) (w : World) (hv : At w ad l) (h0 : 0 < l.length) (hl : l.length ≤ 1000000) : Calls Try.prog 41 #[.slice (some ad) l.length c] w fun e w' => ∃ g cap Z, e = .returned (.slice (some ⟨g, 0, none⟩) l.length cap) ∧ w.heap.size ≤ g ∧ Rw w' g (l ++ Z) ∧ Below w.heap.size w w' := by
  have hq := fun W => Lib.run_eql_slice_nil (P := Try.prog) W 31 22 (some ad) l.length c 0 0 Try.underlying31
  have hb : Below w.heap.size w (w.alloc (.cells #[] 22)) := below_alloc (Below.refl _ _) _
  obtain ⟨cap, Z, happ⟩ := app_grow (w.alloc (.cells #[] 22)) ⟨w.heap.size, 0, none⟩ ad l c (hv.below hb) h0 hl
  have HAPP := hid happ
  have HRW : Hid (Rw ((w.alloc (.cells #[] 22)).drew.alloc (.cells ((l ++ Z).map F).toArray 22)) (w.heap.size + 1) (l ++ Z)) := hid (by
    have h1 := blk_new (w.alloc (.cells #[] 22)).drew (.cells ((l ++ Z).map F).toArray 22)
    rw [show (w.alloc (.cells #[] 22)).drew.heap.size = w.heap.size + 1 from sz_new w _] at h1
    exact h1)
  clear happ hv h0 hl
  go_enter Try.func41, Try.ntmps41
  go_wp2_with (first | ((with_reducible refine gate_builtin (b := .append) (xs := #[.tmp 5, .tmp 6]) rfl ?_); refine Lib.wpList_append_run _ rfl (.tmp 5) (.tmp 6) 31 31 rfl (.slice (some ⟨w.heap.size, 0, none⟩) 0 0) (.slice (some ad) l.length c) rfl rfl _ _ HAPP.out ?_))
  go_ret
  exact ⟨w.heap.size + 1, cap, Z, by simp [World.alloc], by omega, (by have h := HRW.out; rw [List.map_append] at h; exact h), below_alloc (below_drew hb) _⟩
theorem clone_nil (A : Option Addr) (c : Nat) (w : World) : Calls Try.prog 41 #[.slice A 0 c] w fun e w' => ∃ A' c', e = .returned (.slice A' 0 c') ∧ Below w.heap.size w w' := by
  have hq := fun W => Lib.run_eql_slice_nil (P := Try.prog) W 31 22 A 0 c 0 0 Try.underlying31
  cases A with
  | none =>
    go_enter Try.func41, Try.ntmps41
    go_wp2
    go_ret
    exact ⟨_, _, rfl, Below.refl _ _⟩
  | some ad =>
    go_enter Try.func41, Try.ntmps41
    go_wp2
    go_ret
    exact ⟨_, _, rfl, below_alloc (Below.refl _ _) _⟩
/-- Sort: a row of the same floats, sorted. -/
theorem ssf (l Z : List Nat) (c g : Nat) (w : World) (hw : Rw w g (l ++ Z)) (hl : l.length ≤ 40) : Calls Try.prog 42 #[.slice (some ⟨g, 0, none⟩) l.length c, .func (.func 43) #[] #[]] w fun e w' => e = .returned (.tuple #[]) ∧ Srt w w' g [] l Z := by
  have HS := hid (stable l Z c g w hw hl (l.length : Nat) rfl)
  clear hw hl
  go_enter Try.func42, Try.ntmps42
  go_wp2_with (first | (go_at_call 45; (with_reducible refine HS.out.mono ?_); rintro e1 wA ⟨rfl, hD⟩; have S1 := hid hD; clear hD))
  exact ⟨rfl, .tuple #[], by simp [results, Try.results42], rfl, S1.out⟩
theorem sort_some (ad : Addr) (l : List Nat) (c : Nat) (w : World) (hv : At w ad l) (h0 : 0 < l.length) (hl : l.length ≤ 40) : Calls Try.prog 26 #[.slice (some ad) l.length c] w fun e w' => ∃ g cap Z M, e = .returned (.slice (some ⟨g, 0, none⟩) l.length cap) ∧ Rw w' g (M ++ Z) ∧ M.Perm l ∧ Sd less M ∧ Below w.heap.size w w' := by
  have HC := hid (clone_some ad l c w hv h0 (by omega))
  have HL := hid hl
  clear hv h0 hl
  go_enter Try.func26, Try.ntmps26
  go_wp2_with (first
    | (go_at_call 41; (with_reducible refine HC.out.mono ?_); rintro e1 wA ⟨g, cap, Z, rfl, h1, h2, h3⟩; have H1 := hid h1; have H2 := hid h2; have H3 := hid h3; clear h1 h2 h3)
    | (go_at_call 42; (with_reducible refine (ssf l Z cap g wA H2.out HL.out).mono ?_); rintro e1 wB ⟨rfl, hD⟩; have S1 := hid hD; clear hD))
  go_ret
  obtain ⟨M, k1, k2, k3⟩ := S1.out.ex
  exact ⟨g, cap, Z, M, rfl, k1, k2, k3, H3.out.trans (S1.out.bt.below H3.out.size H1.out)⟩
theorem ins_nil (A : Option Addr) (c : Nat) (w : World) : Calls Try.prog 46 #[.slice A 0 c, .int .i64 0, .int .i64 0, .func (.func 43) #[] #[]] w fun e w' => e = .returned (.tuple #[]) ∧ w' = w := by
  go_enter Try.func46, Try.ntmps46
  go_wp2
  go_loopg [8] 1 (fun kq v8 w' => v8 = .int .i64 1 ∧ w' = w)
  case atStart => exact ⟨rfl, rfl⟩
  case round =>
    obtain ⟨rfl, rfl⟩ := hrel
    go_wp2
    exact ⟨rfl, .tuple #[], by simp [results, Try.results46], rfl, rfl⟩
theorem stable_nil (A : Option Addr) (c : Nat) (w : World) : Calls Try.prog 45 #[.slice A 0 c, .int .i64 0, .func (.func 43) #[] #[]] w fun e w' => e = .returned (.tuple #[]) ∧ w' = w := by
  go_enter Try.func45, Try.ntmps45
  go_wp2
  go_loopg [7, 8] 1 (fun kq v7 v8 w' => v7 = .int .i64 0 ∧ v8 = .int .i64 20 ∧ w' = w)
  case atStart => exact ⟨rfl, rfl, rfl⟩
  case round =>
    obtain ⟨rfl, rfl, rfl⟩ := hrel
    go_wp2_with (first | (go_at_call 46; (with_reducible refine (ins_nil A c _).mono ?_); rintro e1 wA ⟨rfl, hD⟩; have S1 := hid hD; clear hD))
    go_loopg [6] 1 (fun kq v6 w' => v6 = .int .i64 20 ∧ w' = wA)
    case atStart => exact ⟨rfl, rfl⟩
    case round =>
      obtain ⟨rfl, hw⟩ := hrel
      go_wp2
      exact ⟨rfl, .tuple #[], by simp [results, Try.results45], rfl, S1.out⟩
theorem ssf_nil (A : Option Addr) (c : Nat) (w : World) : Calls Try.prog 42 #[.slice A 0 c, .func (.func 43) #[] #[]] w fun e w' => e = .returned (.tuple #[]) ∧ w' = w := by
  go_enter Try.func42, Try.ntmps42
  go_wp2_with (first | (go_at_call 45; (with_reducible refine (stable_nil A c _).mono ?_); rintro e1 wA ⟨rfl, hD⟩; have S1 := hid hD; clear hD))
  exact ⟨rfl, .tuple #[], by simp [results, Try.results42], rfl, S1.out⟩
theorem sort_nil (A : Option Addr) (c : Nat) (w : World) : Calls Try.prog 26 #[.slice A 0 c] w fun e w' => ∃ A' c', e = .returned (.slice A' 0 c') ∧ Below w.heap.size w w' := by
  have HC := hid (clone_nil A c w)
  go_enter Try.func26, Try.ntmps26
  go_wp2_with (first
    | (go_at_call 41; (with_reducible refine HC.out.mono ?_); rintro e1 wA ⟨A', c', rfl, h3⟩; have H3 := hid h3; clear h3)
    | (go_at_call 42; (with_reducible refine (ssf_nil A' c' wA).mono ?_); rintro e1 wB ⟨rfl, hD⟩; have S1 := hid hD; clear hD))
  go_ret
  refine ⟨A', c', rfl, ?_⟩
  rw [S1.out]
  exact H3.out
end Go.Proofs.Ytebfnmhpmgjoiaa.Fl
