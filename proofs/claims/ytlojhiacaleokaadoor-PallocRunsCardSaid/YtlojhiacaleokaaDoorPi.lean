/- palloc: SameInts at two rows with the same pages. -/
import Derived.Test.YtlojhiacaleokaaDoorTt
namespace Go.Proofs.YtlojhiacaleokaaDoor.Pa
open Go.RowKit Go.Proofs.YtlojhiacaleokaaDoorW.PrintWords Go.Proofs.YtlojhiacaleokaaDoorW.PrintLast Go.Proofs.YtlojhiacaleokaaDoorW.PrintMore Go.Proofs.YtlojhiacaleokaaDoor.PPallocRuns
set_option linter.unusedVariables false
set_option linter.unusedSimpArgs false
theorem same_l0 (l : List Int) (hl : l.length ≤ 1048576) : ∀ d i : Nat, i + d = l.length → sumpref01_SameInts.l0 (d + 1) l l (l.length : Int) (i : Int) = some true
  | 0, i, h => by
    rw [sumpref01_SameInts.l0, if_neg (by omega)]
  | d + 1, i, h => by
    rw [sumpref01_SameInts.l0, if_pos (by omega), if_pos (by omega), if_pos (by omega), if_pos (by omega), if_pos rfl]
    have e : wrap64 ((i : Int) + 1) = ((i + 1 : Nat) : Int) := by rw [wrap_small _ (by omega) (by omega)]; rfl
    rw [e]
    exact same_l0 l hl d (i + 1) (by omega)
theorem same_f (l : List Int) (hl : l.length ≤ 1048576) : sumpref01_SameInts.f (l.length + 1) l l = some true := by
  rw [sumpref01_SameInts.f, if_pos rfl]
  exact same_l0 l hl l.length 0 (by omega)
theorem same (A : Option Addr) (c : Nat) (B : Option Addr) (d : Nat) (L : List Nat) (w : World) (hA : Kd.C (Kd.int .i64) w A L.length (vals L)) (hc : L.length ≤ c) (hB : Kd.C (Kd.int .i64) w B L.length (vals L)) (hd : L.length ≤ d) (hl : L.length ≤ 1048576) :
    Calls Tryd.prog 17 #[.slice A L.length c, .slice B L.length d] w fun e w' => e = .returned (.bool true) ∧ Drawn0 w w' := by
  have h := sumpref01_SameInts.calls ((vals L).length + 1) A c (vals L) B d (vals L) true w (by rw [vals_len]; exact hA) (by rw [vals_len]; exact hc) (by rw [vals_len]; exact hB) (by rw [vals_len]; exact hd) (same_f _ (by rw [vals_len]; exact hl))
  rw [vals_len] at h
  exact h
end Go.Proofs.YtlojhiacaleokaaDoor.Pa
