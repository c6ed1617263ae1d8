/- Words: what was packed is unpacked so. -/
import Derived.Test.YtlojhiacaleokaaRdr3
namespace Go.Proofs.Ytlojhiacaleokaa.PWD
open Go.RowKit Go.Proofs.YtlojhiacaleokaaW.PrintWords Go.Proofs.YtlojhiacaleokaaW.PrintLast Go.Proofs.YtlojhiacaleokaaW.PrintMore
set_option linter.unusedVariables false
theorem Wv_digit (l : List Int) (h : B l) : ∀ (i j m : Nat), m < 8 → 8 * j + m < i → Wv l i j / 256 ^ m % 256 = rd l ((8 * j + m : Nat) : Int)
  | 0, j, m, _, h2 => by omega
  | i + 1, j, m, h1, h2 => by
    obtain ⟨b1, b2⟩ := h i
    obtain ⟨w1, w2⟩ := Wv_bound l h i j
    unfold Wv
    by_cases k : i / 8 = j
    · rw [if_pos k]
      by_cases e : 8 * j + m = i
      · have em : i % 8 = m := by omega
        have e1 : min 8 (i - 8 * j) = m := by omega
        rw [e1] at w2
        have p : (0 : Int) < 256 ^ m := Int.pow_pos (by decide)
        rw [em, Int.add_mul_ediv_right _ _ (by omega), Int.ediv_eq_zero_of_lt w1 w2, Int.zero_add, e]
        omega
      · have ih := Wv_digit l h i j m h1 (by omega)
        have p : (0 : Int) < 256 ^ m := Int.pow_pos (by decide)
        have e2 : (256 : Int) ^ (i % 8) = 256 ^ (i % 8 - m - 1) * 256 * 256 ^ m := by
          rw [← Int.pow_succ, ← Int.pow_add]; congr 1; omega
        rw [e2, ← Int.mul_assoc, Int.add_mul_ediv_right _ _ (by omega), ← Int.mul_assoc, Int.add_mul_emod_self_right]
        exact ih
    · rw [if_neg k, Int.add_zero]
      exact Wv_digit l h i j m h1 (by omega)
theorem outs_packv (b : List Int) (h : B b) : outs (packv b) b.length b.length = b := by
  unfold outs
  rw [Nat.sub_self, List.replicate_zero, List.append_nil]
  apply List.ext_getElem
  · simp
  · intro i h1 h2
    rw [List.getElem_map, List.getElem_range]
    unfold ub packv
    have e : ((i : Int) / 8) = ((i / 8 : Nat) : Int) := by omega
    rw [e, pk_rd _ _ _ _ (by omega), ← pow256, Wv_digit b h _ _ _ (by omega) (by omega), show 8 * (i / 8) + i % 8 = i by omega]
    simp [rd, List.getD_eq_getElem?_getD, h2]
theorem unv_packv (b : List Int) (h : B b) : unv (packv b) (b.length : Int) = (b, true) := by
  unfold unv
  rw [Int.toNat_natCast, outs_packv b h, if_neg (by rw [packv_len]; omega), if_pos rfl]
/-- A text's words. -/
def enc (s : ByteArray) : List Int := (s.size : Int) :: packv (bytesOf s)
theorem tt_enc (s : ByteArray) (rest : List Int) (hs : s.size ≤ 100) (hl : (bytesOf s).length = s.size) (hB : B (bytesOf s)) (hst : strOfNums (bytesOf s) = s) : tt (enc s ++ rest) false 100 = (s, rest, false) := by
  have e1 : nv (enc s ++ rest) false = (s.size : Int) := by simp [nv, enc]; omega
  have e2 : nl (enc s ++ rest) false = packv (bytesOf s) ++ rest := by simp [nl, enc]
  have e3 : nb (enc s ++ rest) false = false := by simp [nb, enc]; omega
  have e4 : (packv (bytesOf s)).length = (s.size + 7) / 8 := by rw [packv_len, hl]
  have e5 : unv (packv (bytesOf s)) (s.size : Int) = (bytesOf s, true) := by rw [← hl]; exact unv_packv _ hB
  unfold tt
  rw [e1, e2, e3, Int.toNat_natCast, if_neg (by rintro (h | h); omega; cases h), if_neg (by rw [List.length_append, e4]; omega)]
  have e6 : (packv (bytesOf s) ++ rest).take ((s.size + 7) / 8) = packv (bytesOf s) := by rw [← e4]; exact List.take_left'  rfl
  have e7 : (packv (bytesOf s) ++ rest).drop ((s.size + 7) / 8) = rest := by rw [← e4]; exact List.drop_left' rfl
  rw [e6, e7, e5]
  simp [hst]
theorem bytes_B (s : ByteArray) : B (bytesOf s) := by
  intro i
  refine Q.rd_all (p := fun x => 0 ≤ x ∧ x < 256) ?_ (by omega) i
  intro x hx
  unfold bytesOf at hx
  obtain ⟨b, _, rfl⟩ := List.mem_map.1 hx
  have := UInt8.toNat_lt b
  exact ⟨by omega, by omega⟩
theorem str_bytes (s : ByteArray) : strOfNums (bytesOf s) = s := by
  unfold strOfNums bytesOf
  rcases s with ⟨⟨l⟩⟩
  simp
  have e : ((fun n : Int => UInt8.ofNat n.toNat) ∘ fun b : UInt8 => ((b.toNat : Nat) : Int)) = id := by
    funext b; simp
  rw [e, List.map_id]
theorem tt_text (s : ByteArray) (rest : List Int) (hs : s.size ≤ 100) : tt (enc s ++ rest) false 100 = (s, rest, false) := tt_enc s rest hs (bytesOf_length s) (bytes_B s) (str_bytes s)
end Go.Proofs.Ytlojhiacaleokaa.PWD
