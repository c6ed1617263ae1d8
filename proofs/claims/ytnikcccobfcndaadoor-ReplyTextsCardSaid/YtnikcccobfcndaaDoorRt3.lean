/- ReplyTexts: the pure part, third text: the law. -/
import Derived.Test.YtnikcccobfcndaaDoorRt2
namespace Go.Proofs.YtnikcccobfcndaaDoor.PReplyTexts
open Go.RowKit Go.Proofs.YtnikcccobfcndaaDoorW.PrintWords Go.Proofs.YtnikcccobfcndaaDoor.Q
set_option linter.unusedVariables false
section
variable (e a0 a1 a2 a3 a4 : Int) (D : List Int) (S : List ByteArray) (b0 b1 b2 b3 b4 : Int) (D' : List Int) (S' : List ByteArray)
theorem j6_ev (t z : ByteArray) (he : (Lit.int .i64 e).wf = true) (hS : S.length ≤ 20) (k : Nat) (hk : 400 < k) (ht : reply_Text.f (k - 1) a0 a1 a2 a3 a4 D S = some t) (h : tl t = tl z) :
    sumplaw26_ReplyTexts.j6 k e z a0 a1 a2 a3 a4 D S b0 b1 b2 b3 b4 D' S' = some true := by
  obtain ⟨k, rfl⟩ : ∃ m, k = m + 1 := ⟨k - 1, by omega⟩
  obtain ⟨r, r1, r2⟩ := same_ev a0 a1 a2 a3 a4 D S b0 b1 b2 b3 b4 D' S' hS k (by omega)
  rw [Nat.add_sub_cancel] at ht
  rw [sumplaw26_ReplyTexts.j6, ht, Option.bind_some, if_pos (by rw [tl_toList, tl_toList, h]), word_ev e he, Option.bind_some, errno_ev, Option.bind_some, if_pos rfl, r1, Option.bind_some, r2, Option.bind_some, beq_self_eq_true]
theorem names_loop (full : List UInt8) (H : ∀ k z, 400 < k → tl z = full → sumplaw26_ReplyTexts.j6 k e z a0 a1 a2 a3 a4 D S b0 b1 b2 b3 b4 D' S' = some true) (hf : full.length ≤ 100000) (hS : S.length ≤ 20) : ∀ (d i k : Nat) (z : ByteArray), S.length - i = d → i ≤ S.length → d + 401 < k → tl z ++ Lib.joinTail [32] ((S.drop i).map tl) = full →
    sumplaw26_ReplyTexts.l1 k e z S (S.length : Int) (i : Int) a0 a1 a2 a3 a4 D S b0 b1 b2 b3 b4 D' S' = some true := by
  intro d
  induction d with
  | zero =>
    intro i k z h1 h2 h3 h4
    obtain ⟨k, rfl⟩ : ∃ m, k = m + 1 := ⟨k - 1, by omega⟩
    rw [sumplaw26_ReplyTexts.l1, if_neg (by omega)]
    refine H k z (by omega) ?_
    rw [List.drop_eq_nil_of_le (by omega)] at h4
    rw [← h4]; simp [Lib.joinTail]
  | succ d ih =>
    intro i k z h1 h2 h3 h4
    obtain ⟨k, rfl⟩ : ∃ m, k = m + 1 := ⟨k - 1, by omega⟩
    have hi : i < S.length := by omega
    have hl := congrArg List.length h4
    rw [List.drop_eq_getElem_cons hi, List.map_cons, jt_cons] at h4 hl
    rw [List.length_append, List.length_cons, List.length_append, tl_size, tl_size] at hl
    have hz : (⟨#[32]⟩ : ByteArray).size = 1 := rfl
    rw [sumplaw26_ReplyTexts.l1, if_pos (by omega), if_pos (by omega), if_pos (by omega), rdt S i hi, if_pos (by omega), if_pos (by rw [ByteArray.size_append]; omega), wrap64_in (by omega) (by omega)]
    refine ih (i + 1) k _ (by omega) (by omega) (by omega) ?_
    rw [← h4, tl_append, tl_append, List.append_assoc, List.append_assoc]
    rfl
theorem hex_loop (full : List UInt8) (H : ∀ k z, 400 < k → tl z = full → sumplaw26_ReplyTexts.j6 k e z a0 a1 a2 a3 a4 D S b0 b1 b2 b3 b4 D' S' = some true) (hf : full.length ≤ 100000) (hS : S.length ≤ 20)
    (hD : ∀ x ∈ D, 0 ≤ x ∧ x < 256) (lD : D.length ≤ 300) : ∀ (d i k : Nat) (z : ByteArray), D.length - i = d → 0 < i → i ≤ D.length → d + 430 < k → tl z ++ (tl (strOfNums (hexN (D.drop i))) ++ Lib.joinTail [32] (S.map tl)) = full →
    sumplaw26_ReplyTexts.l0 k e z D (D.length : Int) (i : Int) a0 a1 a2 a3 a4 D S b0 b1 b2 b3 b4 D' S' = some true := by
  intro d
  induction d with
  | zero =>
    intro i k z h1 h0 h2 h3 h4
    obtain ⟨k, rfl⟩ : ∃ m, k = m + 1 := ⟨k - 1, by omega⟩
    rw [sumplaw26_ReplyTexts.l0, if_neg (by omega)]
    refine names_loop e a0 a1 a2 a3 a4 D S b0 b1 b2 b3 b4 D' S' full H hf hS S.length 0 k z (by omega) (by omega) (by omega) ?_
    rw [List.drop_eq_nil_of_le (by omega)] at h4
    rw [← h4, List.drop_zero]; rfl
  | succ d ih =>
    intro i k z h1 h0 h2 h3 h4
    obtain ⟨k, rfl⟩ : ∃ m, k = m + 1 := ⟨k - 1, by omega⟩
    have hi : i < D.length := by omega
    obtain ⟨n1, n2, n3, n4⟩ := nib D[i] (hD _ (List.getElem_mem hi)).1 (hD _ (List.getElem_mem hi)).2
    have hl := congrArg List.length h4
    rw [List.length_append, List.length_append, tl_size, tl_size, strOfNums_size, hexN_len, List.length_drop] at hl
    rw [hexN_drop D i hi, tl_nums, List.map_append, ← tl_nums, ← tl_nums] at h4
    rw [sumplaw26_ReplyTexts.l0, if_pos (by omega), if_pos (by omega), if_pos (by omega), rd_get D i hi, if_neg (by omega), if_pos n1, if_pos n2, if_pos n3, if_pos n4, Option.bind_some]
    show (if z.size + (strOfNums (hx D[i])).size ≤ 9223372036854775807 then sumplaw26_ReplyTexts.l0 k e (z ++ strOfNums (hx D[i])) D (D.length : Int) (wrap64 ((i : Int) + 1)) a0 a1 a2 a3 a4 D S b0 b1 b2 b3 b4 D' S' else none) = _
    rw [if_pos (by rw [strOfNums_size, hx_len]; omega), wrap64_in (by omega) (by omega)]
    refine ih (i + 1) k _ (by omega) (by omega) (by omega) (by omega) ?_
    rw [← h4, tl_append]
    simp only [List.append_assoc]
theorem j3_ev (full : List UInt8) (H : ∀ k z, 400 < k → tl z = full → sumplaw26_ReplyTexts.j6 k e z a0 a1 a2 a3 a4 D S b0 b1 b2 b3 b4 D' S' = some true) (hf : full.length ≤ 100000) (hS : S.length ≤ 20)
    (hD : ∀ x ∈ D, 0 ≤ x ∧ x < 256) (lD : D.length ≤ 300) (k : Nat) (hk : 800 < k) (z : ByteArray) (h : tl z ++ Lib.joinTail [32] ((hexP D ++ S).map tl) = full) :
    sumplaw26_ReplyTexts.j3 k e z a0 a1 a2 a3 a4 D S b0 b1 b2 b3 b4 D' S' = some true := by
  obtain ⟨k, rfl⟩ : ∃ m, k = m + 2 := ⟨k - 2, by omega⟩
  rw [sumplaw26_ReplyTexts.j3, sumplaw26_ReplyTexts.l0]
  unfold hexP at h
  by_cases c : D.length = 0
  · rw [if_neg (by omega)]
    rw [if_pos c, List.nil_append] at h
    exact names_loop e a0 a1 a2 a3 a4 D S b0 b1 b2 b3 b4 D' S' full H hf hS S.length 0 k z (by omega) (by omega) (by omega) (by rw [List.drop_zero]; exact h)
  · have hi : 0 < D.length := by omega
    rw [if_neg c, List.cons_append, List.nil_append, List.map_cons, jt_cons] at h
    have hl := congrArg List.length h
    rw [List.length_append, List.length_cons, List.length_append, tl_size, tl_size, strOfNums_size, hexN_len] at hl
    have hz : (⟨#[32]⟩ : ByteArray).size = 1 := rfl
    obtain ⟨n1, n2, n3, n4⟩ := nib D[0] (hD _ (List.getElem_mem hi)).1 (hD _ (List.getElem_mem hi)).2
    have hr : rd D 0 = D[0] := rd_get D 0 hi
    rw [if_pos (by omega), if_pos (by omega), if_pos (by omega), hr, if_pos rfl, if_pos (by omega), if_pos n1, if_pos n2, if_pos n3, if_pos n4, Option.bind_some]
    show (if (z ++ (⟨#[32]⟩ : ByteArray)).size + (strOfNums (hx D[0])).size ≤ 9223372036854775807 then sumplaw26_ReplyTexts.l0 k e ((z ++ (⟨#[32]⟩ : ByteArray)) ++ strOfNums (hx D[0])) D (D.length : Int) (wrap64 ((0 : Int) + 1)) a0 a1 a2 a3 a4 D S b0 b1 b2 b3 b4 D' S' else none) = _
    rw [if_pos (by rw [ByteArray.size_append, strOfNums_size, hx_len]; omega), wrap64_in (by omega) (by omega)]
    refine hex_loop e a0 a1 a2 a3 a4 D S b0 b1 b2 b3 b4 D' S' full H hf hS hD lD (D.length - 1) 1 k _ rfl (by omega) (by omega) (by omega) ?_
    have h5 := hexN_drop D 0 hi
    rw [List.drop_zero] at h5
    rw [h5, tl_nums, List.map_append, ← tl_nums, ← tl_nums] at h
    rw [← h, tl_append, tl_append]
    simp only [List.append_assoc]
    rfl
theorem j2_ev (full : List UInt8) (H : ∀ k z, 400 < k → tl z = full → sumplaw26_ReplyTexts.j6 k e z a0 a1 a2 a3 a4 D S b0 b1 b2 b3 b4 D' S' = some true) (hf : full.length ≤ 100000)
    (g : Good a1 a2 a3 a4 D S) (k : Nat) (hk : 900 < k) (z wd : ByteArray) (hz : z.size ≤ 100) (hw : (if a2 = 2 then (⟨#[100, 105, 114]⟩ : ByteArray) else wd) = kindB a2)
    (h : tl z ++ Lib.joinTail [32] (([kindB a2, numB a3, numB a4] ++ (hexP D ++ S)).map tl) = full) :
    sumplaw26_ReplyTexts.j2 k e z wd a0 a1 a2 a3 a4 D S b0 b1 b2 b3 b4 D' S' = some true := by
  obtain ⟨k, rfl⟩ : ∃ m, k = m + 1 := ⟨k - 1, by omega⟩
  obtain ⟨p, p1, p2, p3⟩ := decimal_ev a3 g.h3.1 g.h3.2 k (by omega)
  obtain ⟨q, q1, q2, q3⟩ := decimal_ev a4 g.h4.1 g.h4.2 k (by omega)
  have s1 : (⟨#[32]⟩ : ByteArray).size = 1 := rfl
  have s3 : (⟨#[100, 105, 114]⟩ : ByteArray).size = 3 := rfl
  have hkb : (kindB a2).size ≤ 100 := by unfold kindB; split; exact (by decide); split <;> exact (by decide)
  have hfin : ∀ u : ByteArray, u = kindB a2 → tl (z ++ ((((((⟨#[32]⟩ : ByteArray) ++ u) ++ (⟨#[32]⟩ : ByteArray)) ++ p) ++ (⟨#[32]⟩ : ByteArray)) ++ q)) ++ Lib.joinTail [32] ((hexP D ++ S).map tl) = full := by
    intro u hu
    rw [← h, hu]
    simp only [tl_append, p2, q2, List.cons_append, List.nil_append, List.map_cons, jt_cons, List.append_assoc]
    rfl
  rw [sumplaw26_ReplyTexts.j2]
  by_cases c : a2 = 2
  · rw [if_pos c] at hw
    rw [if_pos c, if_pos (by omega), if_pos (by omega), p1, Option.bind_some]
    rw [if_pos (by simp only [ByteArray.size_append]; omega), if_pos (by simp only [ByteArray.size_append]; omega), q1, Option.bind_some, if_pos (by simp only [ByteArray.size_append]; omega), if_pos (by simp only [ByteArray.size_append]; omega)]
    exact j3_ev e a0 a1 a2 a3 a4 D S b0 b1 b2 b3 b4 D' S' full H hf g.lS g.hD g.lD k (by omega) _ (hfin _ hw)
  · rw [if_neg c] at hw
    have hwd : wd.size ≤ 100 := by rw [hw]; exact hkb
    rw [if_neg c, if_pos (by omega), if_pos (by simp only [ByteArray.size_append]; omega), p1, Option.bind_some]
    rw [if_pos (by simp only [ByteArray.size_append]; omega), if_pos (by simp only [ByteArray.size_append]; omega), q1, Option.bind_some, if_pos (by simp only [ByteArray.size_append]; omega), if_pos (by simp only [ByteArray.size_append]; omega)]
    exact j3_ev e a0 a1 a2 a3 a4 D S b0 b1 b2 b3 b4 D' S' full H hf g.lS g.hD g.lD k (by omega) _ (hfin _ hw)
theorem j1_ev (z : ByteArray) (he : (Lit.int .i64 e).wf = true) (ha : (Lit.int .i64 a0).wf = true) (g : Good a1 a2 a3 a4 D S) (k : Nat) (hk : 1000 < k)
    (hz : z = if (reply_Word.w16 a0).toList = [] then (⟨#[63]⟩ : ByteArray) else reply_Word.w16 a0) : sumplaw26_ReplyTexts.j1 k e z a0 a1 a2 a3 a4 D S b0 b1 b2 b3 b4 D' S' = some true := by
  obtain ⟨k, rfl⟩ : ∃ m, k = m + 1 := ⟨k - 1, by omega⟩
  rw [sumplaw26_ReplyTexts.j1]
  by_cases c : a0 = 0
  · subst c
    have hz2 : z = ⟨#[111, 107]⟩ := by rw [hz, w16_zero, if_neg (by decide +kernel)]
    subst hz2
    obtain ⟨r1, r2⟩ := rest_small g
    obtain ⟨p, p1, p2, p3⟩ := decimal_ev a1 g.h1.1 g.h1.2 k (by omega)
    have s1 : (⟨#[32]⟩ : ByteArray).size = 1 := rfl
    have s2 : (⟨#[111, 107]⟩ : ByteArray).size = 2 := rfl
    obtain ⟨full, hfull⟩ : ∃ f, f = [111, 107] ++ Lib.joinTail [32] ((rest a1 a2 a3 a4 D S).map tl) := ⟨_, rfl⟩
    have hf : full.length ≤ 100000 := by
      have := jt_len ((rest a1 a2 a3 a4 D S).map tl) (fun s hs => by
        obtain ⟨b, hb, rfl⟩ := List.mem_map.1 hs
        rw [tl_size]; exact r2 b hb)
      rw [List.length_map] at this
      rw [hfull, List.length_append, List.length_cons, List.length_cons, List.length_nil]; omega
    have H : ∀ k z, 400 < k → tl z = full → sumplaw26_ReplyTexts.j6 k e z 0 a1 a2 a3 a4 D S b0 b1 b2 b3 b4 D' S' = some true := by
      intro k z hk hz
      obtain ⟨t, ht, ht2⟩ := text_ok a1 a2 a3 a4 D S g (k - 1) (by omega)
      exact j6_ev e 0 a1 a2 a3 a4 D S b0 b1 b2 b3 b4 D' S' t z he g.lS k hk ht (by rw [ht2, hz, hfull])
    have hb : ∀ R : List ByteArray, rest a1 a2 a3 a4 D S = numB a1 :: R → tl ((⟨#[111, 107]⟩ : ByteArray) ++ ((⟨#[32]⟩ : ByteArray) ++ p)) ++ Lib.joinTail [32] (R.map tl) = full := by
      intro R hR
      rw [hfull, hR, List.map_cons, jt_cons]
      simp only [tl_append, p2, List.append_assoc]
      rfl
    rw [if_pos rfl, p1, Option.bind_some, if_pos (by omega), if_pos (by simp only [ByteArray.size_append]; omega)]
    have hzz : ((⟨#[111, 107]⟩ : ByteArray) ++ ((⟨#[32]⟩ : ByteArray) ++ p)).size ≤ 100 := by simp only [ByteArray.size_append]; omega
    by_cases c2 : a2 = 0
    · rw [if_pos c2]
      exact j3_ev e 0 a1 a2 a3 a4 D S b0 b1 b2 b3 b4 D' S' full H hf g.lS g.hD g.lD k (by omega) _ (hb _ (by unfold rest kindP; rw [if_pos c2]; rfl))
    · rw [if_neg c2]
      have hb2 := hb ([kindB a2, numB a3, numB a4] ++ (hexP D ++ S)) (by unfold rest kindP; rw [if_neg c2])
      by_cases c3 : a2 = 1
      · rw [if_pos c3]
        exact j2_ev e 0 a1 a2 a3 a4 D S b0 b1 b2 b3 b4 D' S' full H hf g k (by omega) _ _ hzz (by unfold kindB; rw [if_neg (by omega), if_pos c3]) hb2
      · rw [if_neg c3]
        exact j2_ev e 0 a1 a2 a3 a4 D S b0 b1 b2 b3 b4 D' S' full H hf g k (by omega) _ _ hzz (by unfold kindB; rw [if_neg c3]) hb2
  · rw [if_neg c]
    exact j6_ev e a0 a1 a2 a3 a4 D S b0 b1 b2 b3 b4 D' S' _ z he g.lS k (by omega) (text_bad a0 a1 a2 a3 a4 D S ha c (k - 1)) (by rw [hz])
theorem awake_ev (k : Nat) (hk : 400 < k) : sumplaw26_awake.f k = some true := by
  have g : Good 0 0 0 0 [] [] := ⟨by decide, by decide, by decide, (fun x hx => by cases hx), by simp, (fun x hx => by cases hx), by simp⟩
  obtain ⟨t, ht, ht2⟩ := text_ok 0 0 0 0 [] [] g k (by omega)
  have h0 : Lib.joinTail [32] ((rest 0 0 0 0 [] []).map tl) = [32, 48] := by
    have : Lib.itoa 0 = [48] := by unfold Lib.itoa; rw [if_neg (by decide), Lib.decDigits, dif_pos (by decide)]; rfl
    unfold rest kindP hexP numB
    rw [this]; rfl
  unfold sumplaw26_awake.f
  rw [ht, Option.bind_some, if_pos (by rw [tl_toList, ht2, h0]; rfl), word_ev 28 (by decide), Option.bind_some]
  rw [show (reply_Word.w16 28).toList = [101, 110, 111, 115, 112, 99] by rw [tl_toList]; rfl]
  rfl
theorem law (he : (Lit.int .i64 e).wf = true) (ha : (Lit.int .i64 a0).wf = true) (h1 : (Lit.int .i64 a1).wf = true) (h3 : (Lit.int .i64 a3).wf = true) (h4 : (Lit.int .i64 a4).wf = true) (hD : ∀ x ∈ D, (Lit.int .u8 x).wf = true)
    (lS : S.length ≤ 9223372036854775807) (lS' : S'.length ≤ 9223372036854775807) : ∃ k, sumplaw26_ReplyTexts.f k a0 a1 a2 a3 a4 D S b0 b1 b2 b3 b4 D' S' e = some true := by
  obtain ⟨K, hK⟩ : ∃ K, K = S.length + S'.length + 2000 := ⟨_, rfl⟩
  refine ⟨K, ?_⟩
  have w1 := wf_i64 h1
  have w3 := wf_i64 h3
  have w4 := wf_i64 h4
  obtain ⟨r, hr, hr2⟩ := few_ev a0 a1 a2 a3 a4 D S lS K (by omega)
  obtain ⟨q, hq, hq2⟩ := few_ev b0 b1 b2 b3 b4 D' S' lS' K (by omega)
  obtain ⟨k, hk⟩ : ∃ m, K = m + 1 := ⟨K - 1, by omega⟩
  unfold sumplaw26_ReplyTexts.f
  rw [awake_ev K (by omega), Option.bind_some, if_pos rfl, hr, Option.bind_some]
  cases r with
  | false => rw [if_neg Bool.false_ne_true, hk, sumplaw26_ReplyTexts.j0, if_pos rfl]
  | true =>
    obtain ⟨g1, g2, g3, g4, g5, g6⟩ := hr2 rfl
    have g : Good a1 a2 a3 a4 D S := ⟨⟨g4, w1.2⟩, ⟨g5, w3.2⟩, ⟨g6, w4.2⟩, fun x hx => wf_u8 (hD x hx), g2, g1, g3⟩
    rw [if_pos rfl, hq, Option.bind_some, hk, sumplaw26_ReplyTexts.j0]
    cases q with
    | false => rw [if_pos (show (!false) = true from rfl)]
    | true =>
      rw [if_neg (by decide), errno_ev, Option.bind_some]
      by_cases c : (reply_Word.w16 a0).toList = []
      · rw [if_pos c]; exact j1_ev e a0 a1 a2 a3 a4 D S b0 b1 b2 b3 b4 D' S' _ he ha g k (by omega) (by rw [if_pos c])
      · rw [if_neg c]; exact j1_ev e a0 a1 a2 a3 a4 D S b0 b1 b2 b3 b4 D' S' _ he ha g k (by omega) (by rw [if_neg c])
end
end Go.Proofs.YtnikcccobfcndaaDoor.PReplyTexts
