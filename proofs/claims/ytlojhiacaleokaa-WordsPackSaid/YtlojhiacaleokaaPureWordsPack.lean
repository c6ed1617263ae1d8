/- WordsPack: the pure part: the words of bytes, and the bytes of words, are the reference's. -/
import Derived.Test.YtlojhiacaleokaaPWordsPackx1
import Derived.Test.YtlojhiacaleokaaPu2
namespace Go.Proofs.Ytlojhiacaleokaa.Pure
open Go.RowKit Go.Proofs.Ytlojhiacaleokaa.PWordsPack Go.Proofs.YtlojhiacaleokaaW.PrintWords Go.Proofs.YtlojhiacaleokaaW.PrintLast Go.Proofs.Ytlojhiacaleokaa.PWD
theorem WordsPack : sumplaw05_WordsPack.Pure := by
  intro b l n _ _ hb _ _ hl hn
  have hn := Q.wf_i64 hn
  have haw : sumplaw05_awake.f = some true := rfl
  have ht : ∀ k, sumplaw05_WordsPack.j0 (k + 1) b l n true = some true := fun k => by rw [sumplaw05_WordsPack.j0, if_pos rfl]
  unfold sumplaw05_WordsPack.f
  rw [haw]
  simp only [Option.bind_some, if_true]
  by_cases c1 : (b.length : Int) > 300
  · exact ⟨1, by rw [if_pos c1]; exact ht 0⟩
  by_cases c2 : (l.length : Int) > 60
  · exact ⟨1, by rw [if_neg c1, if_pos c2]; exact ht 0⟩
  by_cases c3 : n > 500
  · exact ⟨1, by rw [if_neg c1, if_neg c2, decide_eq_true c3]; exact ht 0⟩
  have hU : PWD.U l := fun i => Q.rd_all (p := fun x => 0 ≤ x ∧ x < 18446744073709551616) (fun x hx => Q.wf_u64 (hl x hx)) (by omega) i
  have hB : PWD.B b := fun i => Q.rd_all (p := fun x => 0 ≤ x ∧ x < 256) (fun x hx => Q.wf_u8 (hb x hx)) (by omega) i
  obtain ⟨K1, h1⟩ := runpack_ev l n hU (by omega) (by omega) hn.1
  obtain ⟨K2, h2⟩ := rpack_ev b hB (by omega)
  simp only at h1 h2
  refine ⟨K1 + K2 + 1000 + 1 + 1, ?_⟩
  rw [if_neg c1, if_neg c2, decide_eq_false c3, sumplaw05_WordsPack.j0, if_neg (by decide), unpack_ev l n (by omega) _ (by omega), Option.bind_some, h1 _ (by omega), Option.bind_some]
  have key : ∀ x11 : Int, words_Need.f n = some x11 → sumplaw05_WordsPack.j1 (K1 + K2 + 1000 + 1) b n (unv l n).1 (unv l n).2 (unv l n).1 (unv l n).2 x11 = some true := by
    intro x11 hx
    rw [sumplaw05_WordsPack.j1, pack_ev b hB (by omega) _ (by omega), Option.bind_some, h2 _ (by omega), Option.bind_some, same_ev _ _ (by rw [packv_len]; omega) _ (by rw [packv_len]; omega), Option.bind_some, if_pos (by simp)]
    unfold sumpref01_SameBytes.f
    rw [Option.bind_some, if_pos (by simp), if_pos (by simp), hx, Option.bind_some]
    simp
  by_cases c4 : n > 0
  · rw [if_pos c4]
    refine key _ ?_
    obtain ⟨m, rfl⟩ := Int.eq_ofNat_of_zero_le (show 0 ≤ n by omega)
    have e1 : wrap64 ((m : Int) + 7) = m + 7 := wrap64_in (by omega) (by omega)
    rw [need_nat _ (by omega), e1, Int.tdiv_eq_ediv_of_nonneg (by omega), wrap64_in (by omega) (by omega)]
    congr 1
  · rw [if_neg c4]
    exact key _ (need_neg n (by omega))
end Go.Proofs.Ytlojhiacaleokaa.Pure
