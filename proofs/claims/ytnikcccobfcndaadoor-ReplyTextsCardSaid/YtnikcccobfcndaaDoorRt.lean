/- ReplyTexts: the pure part. -/
import Derived.Test.YtnikcccobfcndaaDoorPReplyTextsx5d
import Derived.Test.YtnikcccobfcndaaDoorQ
import Derived.Lib.ItoaLen
import Derived.Lib.Join
namespace Go.Proofs.YtnikcccobfcndaaDoor.PReplyTexts
open Go.RowKit Go.Proofs.YtnikcccobfcndaaDoorW.PrintWords Go.Proofs.YtnikcccobfcndaaDoor.Q
set_option linter.unusedVariables false
/-- A text's bytes. -/
def tl (a : ByteArray) : List UInt8 := a.data.toList
theorem tl_append (a b : ByteArray) : tl (a ++ b) = tl a ++ tl b := by unfold tl; rw [ByteArray.data_append, Array.toList_append]
theorem tl_size (a : ByteArray) : (tl a).length = a.size := by unfold tl; rw [Array.length_toList]; rfl
theorem tl_toList (a : ByteArray) : a.toList = tl a := by unfold tl; rw [ByteArray.toList_eq]
theorem tl_nums (l : List Int) : tl (strOfNums l) = l.map fun n => UInt8.ofNat n.toNat := strOfNums_data l
theorem tl_mk (l : List UInt8) : tl ⟨l.toArray⟩ = l := rfl
theorem tl_inj {a b : ByteArray} (h : tl a = tl b) : a = b := by
  rcases a with ⟨⟨a⟩⟩; rcases b with ⟨⟨b⟩⟩
  have : a = b := h
  rw [this]
theorem rdt (l : List ByteArray) (i : Nat) (h : i < l.length) : rdOf ByteArray.empty l (i : Int) = l[i] := by
  unfold rdOf
  rw [Int.toNat_natCast, List.getD_eq_getElem?_getD, List.getElem?_eq_getElem h]; rfl
/-! ### the numbers -/
theorem dec_len {n : Nat} (h : n < 9223372036854775808) : (Lib.decDigits n).length ≤ 20 := by
  rw [Lib.decDigits_length]; exact Lib.nDigits_le20 n (by omega)
theorem digit_byte (x : Nat) : tl (strOfNums [(wrap64 (48 + (Int.tmod (x : Int) 10))) % 256]) = [UInt8.ofNat (48 + x % 10)] := by
  have h1 : Int.tmod (x : Int) 10 = ((x % 10 : Nat) : Int) := by rw [Int.tmod_eq_emod_of_nonneg (by omega)]; rfl
  rw [tl_nums, h1, wrap64_in (by omega) (by omega)]
  simp only [List.map_cons, List.map_nil]
  congr 2
  omega
theorem decimal_loop : ∀ (k x : Nat) (s : ByteArray) (f : List UInt8), x < 10 ^ k → x < 9223372036854775808 → Lib.decDigits x ++ tl s = f → f.length ≤ 100 → ∃ z, sumplaw26_decimal.l0 (k + 1) (x : Int) s = some z ∧ tl z = f := by
  intro k
  induction k with
  | zero =>
    intro x s f h1 h2 h3 h4
    obtain rfl : x = 0 := by simpa using h1
    have hs := tl_size s
    have hl : (tl s).length ≤ 100 := by rw [← h3] at h4; rw [List.length_append] at h4; omega
    have hd := digit_byte 0
    refine ⟨strOfNums [(wrap64 (48 + (Int.tmod ((0 : Nat) : Int) 10))) % 256] ++ s, ?_, ?_⟩
    · rw [sumplaw26_decimal.l0, Option.bind_some, if_pos (by rw [strOfNums_size]; simp only [List.length_cons, List.length_nil]; omega), if_pos (show wrap64 (Int.tdiv ((0 : Nat) : Int) 10) = 0 by rw [show Int.tdiv ((0 : Nat) : Int) 10 = 0 from rfl]; exact wrap64_in (by decide) (by decide))]
    · rw [tl_append, hd, ← h3, Lib.decDigits, dif_pos (by omega)]
  | succ k ih =>
    intro x s f h1 h2 h3 h4
    have hs := tl_size s
    have hl : (tl s).length ≤ 100 := by rw [← h3] at h4; rw [List.length_append] at h4; omega
    have hd := digit_byte x
    have hq : wrap64 (Int.tdiv (x : Int) 10) = ((x / 10 : Nat) : Int) := by
      rw [show Int.tdiv (x : Int) 10 = ((x / 10 : Nat) : Int) by rw [Int.tdiv_eq_ediv_of_nonneg (by omega)]; rfl, wrap64_in (by omega) (by omega)]
    rw [sumplaw26_decimal.l0, Option.bind_some, if_pos (by rw [strOfNums_size]; simp only [List.length_cons, List.length_nil]; omega), hq]
    by_cases c : x < 10
    · rw [if_pos (by omega)]
      refine ⟨_, rfl, ?_⟩
      rw [tl_append, hd, ← h3, Lib.decDigits, dif_pos c, Nat.mod_eq_of_lt c]
    · rw [if_neg (by omega)]
      refine ih (x / 10) _ f ?_ (by omega) ?_ h4
      · rw [Nat.pow_succ] at h1; omega
      · rw [tl_append, hd, ← h3, Lib.decDigits.eq_def x, dif_neg c, List.append_assoc]
theorem decimal_ev (n : Int) (h0 : 0 ≤ n) (h1 : n < 9223372036854775808) (k : Nat) (hk : 30 < k) : ∃ z, sumplaw26_decimal.f k n = some z ∧ tl z = Lib.itoa n ∧ z.size ≤ 20 := by
  obtain ⟨x, rfl⟩ : ∃ x : Nat, n = (x : Int) := ⟨n.toNat, by omega⟩
  obtain ⟨k, rfl⟩ : ∃ m, k = m + 1 := ⟨k - 1, by omega⟩
  have hx : x < 9223372036854775808 := by omega
  have hp : x < 10 ^ k := Nat.lt_of_lt_of_le (show x < 10 ^ 20 by omega) (Nat.pow_le_pow_right (by decide) (by omega))
  have hl := dec_len hx
  have he : tl (⟨#[]⟩ : ByteArray) = [] := rfl
  obtain ⟨z, hz, hz2⟩ := decimal_loop k x ⟨#[]⟩ (Lib.decDigits x) hp hx (by rw [he, List.append_nil]) (by omega)
  refine ⟨z, hz, ?_, ?_⟩
  · rw [hz2]; unfold Lib.itoa; rw [if_neg (by omega), Int.toNat_natCast]
  · rw [← tl_size, hz2]; exact hl
theorem itoa_ev (n : Int) (h0 : 0 ≤ n) (h1 : n < 9223372036854775808) : strconv_Itoa_17.f n = some ⟨(Lib.itoa n).toArray⟩ := by
  unfold strconv_Itoa_17.f; rw [if_pos ⟨by omega, by omega⟩]
theorem itoa_len (n : Int) (h0 : 0 ≤ n) (h1 : n < 9223372036854775808) : (Lib.itoa n).length ≤ 20 := by
  unfold Lib.itoa; rw [if_neg (by omega)]; exact dec_len (by omega)
/-! ### the words -/
theorem errno_ev (e : Int) : sumpref27_Errno.f e = some (reply_Word.w16 e) := by
  by_cases h0 : e = 0
  · subst h0; rfl
  by_cases h2 : e = 2
  · subst h2; rfl
  by_cases h5 : e = 5
  · subst h5; rfl
  by_cases h9 : e = 9
  · subst h9; rfl
  by_cases h16 : e = 16
  · subst h16; rfl
  by_cases h17 : e = 17
  · subst h17; rfl
  by_cases h20 : e = 20
  · subst h20; rfl
  by_cases h21 : e = 21
  · subst h21; rfl
  by_cases h22 : e = 22
  · subst h22; rfl
  by_cases h24 : e = 24
  · subst h24; rfl
  by_cases h27 : e = 27
  · subst h27; rfl
  by_cases h28 : e = 28
  · subst h28; rfl
  by_cases h31 : e = 31
  · subst h31; rfl
  by_cases h36 : e = 36
  · subst h36; rfl
  by_cases h39 : e = 39
  · subst h39; rfl
  by_cases h74 : e = 74
  · subst h74; rfl
  unfold sumpref27_Errno.f
  rw [if_neg h0, if_neg h2, if_neg h5, if_neg h9, if_neg h16, if_neg h17, if_neg h20, if_neg h21, if_neg h22, if_neg h24, if_neg h27, if_neg h28, if_neg h31, if_neg h36, if_neg h39, if_neg h74]
  unfold reply_Word.w16 reply_Word.w15 reply_Word.w14 reply_Word.w13 reply_Word.w12 reply_Word.w11 reply_Word.w10 reply_Word.w9 reply_Word.w8 reply_Word.w7 reply_Word.w6 reply_Word.w5 reply_Word.w4 reply_Word.w3 reply_Word.w2 reply_Word.w1 reply_Word.w0
  simp only [if_neg h0, if_neg h2, if_neg h5, if_neg h9, if_neg h16, if_neg h17, if_neg h20, if_neg h21, if_neg h22, if_neg h24, if_neg h27, if_neg h28, if_neg h31, if_neg h36, if_neg h39, if_neg h74]
theorem word_ev (e : Int) (h : (Lit.int .i64 e).wf = true) : reply_Word.f e = some (reply_Word.w16 e) := by unfold reply_Word.f; rw [if_pos h]
theorem w16_zero : reply_Word.w16 0 = ⟨#[111, 107]⟩ := by rfl
/-! ### sameness -/
theorem slices_is_texts (a b : List ByteArray) (n : Int) : ∀ (k : Nat) (i : Int), slices_Equal_string_string.l0 k a b n i = sumpref01_SameTexts.l0 k a b n i
  | 0, i => rfl
  | k + 1, i => by rw [slices_Equal_string_string.l0, sumpref01_SameTexts.l0, slices_is_texts a b n k]
theorem texts_some (a b : List ByteArray) (hl : a.length = b.length) (hb : a.length ≤ 1000) : ∀ (d i k : Nat), a.length - i = d → i ≤ a.length → d < k → ∃ r, sumpref01_SameTexts.l0 k a b (a.length : Int) (i : Int) = some r := by
  intro d
  induction d with
  | zero =>
    intro i k h1 h2 h3
    obtain ⟨k, rfl⟩ : ∃ m, k = m + 1 := ⟨k - 1, by omega⟩
    exact ⟨true, by rw [sumpref01_SameTexts.l0, if_neg (by omega)]⟩
  | succ d ih =>
    intro i k h1 h2 h3
    obtain ⟨k, rfl⟩ : ∃ m, k = m + 1 := ⟨k - 1, by omega⟩
    rw [sumpref01_SameTexts.l0, if_pos (by omega), if_pos (by omega), if_pos (by omega), if_pos (by omega)]
    split
    · rw [wrap64_in (by omega) (by omega)]
      exact ih (i + 1) k (by omega) (by omega) (by omega)
    · exact ⟨false, rfl⟩
theorem same_ev (a0 a1 a2 a3 a4 : Int) (x : List Int) (y : List ByteArray) (b0 b1 b2 b3 b4 : Int) (x' : List Int) (y' : List ByteArray) (hy : y.length ≤ 20) (k : Nat) (hk : 20 < k) :
    ∃ r, reply_Same.f k a0 a1 a2 a3 a4 x y b0 b1 b2 b3 b4 x' y' = some r ∧ sumpref27_SameReply.f k a0 a1 a2 a3 a4 x y b0 b1 b2 b3 b4 x' y' = some r := by
  unfold reply_Same.f reply_plain.f sumpref27_SameReply.f bytes_Equal.f
  by_cases h0 : a0 = b0
  · rw [if_pos h0, if_pos h0]
    by_cases h1 : a1 = b1
    · rw [if_pos h1, if_pos h1]
      by_cases h2 : a2 = b2
      · rw [if_pos h2, if_pos h2]
        by_cases h3 : a3 = b3
        · rw [if_pos h3, if_pos h3, Option.bind_some]
          by_cases h4 : a4 = b4
          · rw [if_pos h4, if_pos (by rw [h4]; exact beq_self_eq_true _), Option.bind_some]
            by_cases h5 : (strOfNums x).toList = (strOfNums x').toList
            · rw [if_pos h5, if_pos (by rw [h5]; exact beq_self_eq_true _)]
              unfold slices_Equal_string_string.f sumpref01_SameTexts.f
              by_cases h6 : (y.length : Int) = (y'.length : Int)
              · rw [if_pos h6, if_pos h6, slices_is_texts]
                obtain ⟨r, hr⟩ := texts_some y y' (by omega) (by omega) y.length 0 k (by omega) (by omega) (by omega)
                rw [show ((0 : Nat) : Int) = 0 from rfl] at hr
                rw [hr]; exact ⟨r, rfl, rfl⟩
              · rw [if_neg h6, if_neg h6]; exact ⟨false, rfl, rfl⟩
            · rw [if_neg h5, if_neg (by rw [beq_iff_eq]; exact h5)]; exact ⟨false, rfl, rfl⟩
          · rw [if_neg h4, if_neg (by rw [beq_iff_eq]; exact h4)]; exact ⟨false, rfl, rfl⟩
        · rw [if_neg h3, if_neg h3]; exact ⟨false, rfl, rfl⟩
      · rw [if_neg h2, if_neg h2]; exact ⟨false, rfl, rfl⟩
    · rw [if_neg h1, if_neg h1]; exact ⟨false, rfl, rfl⟩
  · rw [if_neg h0, if_neg h0]; exact ⟨false, rfl, rfl⟩
/-! ### few -/
theorem few_loop (a b c d e : Int) (x : List Int) (y : List ByteArray) (hb : y.length ≤ 9223372036854775807) : ∀ (m i k : Nat), y.length - i = m → i ≤ y.length → m < k → ∃ r, sumplaw26_Few.l0 k y (y.length : Int) (i : Int) a b c d e x y = some r ∧ (r = true → (∀ s ∈ y.drop i, s.size ≤ 60) ∧ x.length ≤ 300 ∧ y.length ≤ 20 ∧ 0 ≤ b ∧ 0 ≤ d ∧ 0 ≤ e) := by
  intro m
  induction m with
  | zero =>
    intro i k h1 h2 h3
    obtain ⟨k, rfl⟩ : ∃ m, k = m + 1 := ⟨k - 1, by omega⟩
    rw [sumplaw26_Few.l0, if_neg (by omega)]
    have hd : y.drop i = [] := List.drop_eq_nil_of_le (by omega)
    rw [hd]
    by_cases c1 : (x.length : Int) ≤ 300
    · rw [if_pos c1]
      by_cases c2 : (y.length : Int) ≤ 20
      · rw [if_pos c2]
        by_cases c3 : b ≥ 0
        · rw [if_pos c3]
          by_cases c4 : d ≥ 0
          · rw [if_pos c4]; exact ⟨_, rfl, fun h => ⟨fun s hs => (by cases hs), by omega, by omega, c3, c4, of_decide_eq_true h⟩⟩
          · rw [if_neg c4]; exact ⟨_, rfl, fun h => by cases h⟩
        · rw [if_neg c3]; exact ⟨_, rfl, fun h => by cases h⟩
      · rw [if_neg c2]; exact ⟨_, rfl, fun h => by cases h⟩
    · rw [if_neg c1]; exact ⟨_, rfl, fun h => by cases h⟩
  | succ m ih =>
    intro i k h1 h2 h3
    obtain ⟨k, rfl⟩ : ∃ m, k = m + 1 := ⟨k - 1, by omega⟩
    have hi : i < y.length := by omega
    rw [sumplaw26_Few.l0, if_pos (by omega), if_pos (by omega), if_pos (by omega), rdt y i hi]
    by_cases c1 : (y[i].size : Int) > 60
    · rw [if_pos c1]; exact ⟨_, rfl, fun h => by cases h⟩
    · rw [if_neg c1, wrap64_in (by omega) (by omega)]
      obtain ⟨r, hr, hr2⟩ := ih (i + 1) k (by omega) (by omega) (by omega)
      refine ⟨r, hr, fun h => ?_⟩
      obtain ⟨g, g'⟩ := hr2 h
      refine ⟨fun s hs => ?_, g'⟩
      rw [List.drop_eq_getElem_cons hi, List.mem_cons] at hs
      rcases hs with rfl | hs
      · omega
      · exact g s hs
theorem few_ev (a b c d e : Int) (x : List Int) (y : List ByteArray) (hb : y.length ≤ 9223372036854775807) (k : Nat) (hk : y.length < k) : ∃ r, sumplaw26_Few.f k a b c d e x y = some r ∧ (r = true → (∀ s ∈ y, s.size ≤ 60) ∧ x.length ≤ 300 ∧ y.length ≤ 20 ∧ 0 ≤ b ∧ 0 ≤ d ∧ 0 ≤ e) :=
  few_loop a b c d e x y hb y.length 0 k (by omega) (by omega) hk
end Go.Proofs.YtnikcccobfcndaaDoor.PReplyTexts
