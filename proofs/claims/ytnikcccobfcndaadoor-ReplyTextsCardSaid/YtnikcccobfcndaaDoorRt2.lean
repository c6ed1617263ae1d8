/- ReplyTexts: the pure part, second text: what the text holds, and the law. -/
import Derived.Test.YtnikcccobfcndaaDoorRt
namespace Go.Proofs.YtnikcccobfcndaaDoor.PReplyTexts
open Go.RowKit Go.Proofs.YtnikcccobfcndaaDoorW.PrintWords Go.Proofs.YtnikcccobfcndaaDoor.Q
set_option linter.unusedVariables false
/-- The two digits of a byte, as the program writes them. -/
def hx (x : Int) : List Int := [bt (⟨#[48, 49, 50, 51, 52, 53, 54, 55, 56, 57, 97, 98, 99, 100, 101, 102]⟩ : ByteArray) ((Int.tdiv x 16) % 256), bt (⟨#[48, 49, 50, 51, 52, 53, 54, 55, 56, 57, 97, 98, 99, 100, 101, 102]⟩ : ByteArray) (Int.tmod x 16)]
def hexN (l : List Int) : List Int := l.flatMap hx
theorem hx_len (x : Int) : (hx x).length = 2 := rfl
theorem hexN_len (l : List Int) : (hexN l).length = 2 * l.length := by
  induction l with
  | nil => rfl
  | cons x l ih => unfold hexN at *; rw [List.flatMap_cons, List.length_append, ih, hx_len, List.length_cons]; omega
theorem hexN_take (l : List Int) (i : Nat) (h : i < l.length) : hexN (l.take (i + 1)) = hexN (l.take i) ++ hx l[i] := by
  unfold hexN
  rw [List.take_add_one, List.getElem?_eq_getElem h, List.flatMap_append]
  simp
theorem hexN_drop (l : List Int) (i : Nat) (h : i < l.length) : hexN (l.drop i) = hx l[i] ++ hexN (l.drop (i + 1)) := by
  unfold hexN
  rw [List.drop_eq_getElem_cons h, List.flatMap_cons]
theorem nib (x : Int) (h0 : 0 ≤ x) (h1 : x < 256) : 0 ≤ (Int.tdiv x 16) % 256 ∧ (Int.tdiv x 16) % 256 < 16 ∧ 0 ≤ Int.tmod x 16 ∧ Int.tmod x 16 < 16 := by
  rw [Int.tdiv_eq_ediv_of_nonneg h0, Int.tmod_eq_emod_of_nonneg h0]; omega
/-- The words that follow a reply's first. -/
def hexP (l : List Int) : List ByteArray := if l.length = 0 then [] else [strOfNums (hexN l)]
theorem jt_cons (x : List UInt8) (r : List (List UInt8)) : Lib.joinTail [32] (x :: r) = 32 :: (x ++ Lib.joinTail [32] r) := by simp [Lib.joinTail]
theorem jt_append (p q : List (List UInt8)) : Lib.joinTail [32] (p ++ q) = Lib.joinTail [32] p ++ Lib.joinTail [32] q := by simp [Lib.joinTail]
theorem jt_len (p : List (List UInt8)) (h : ∀ s ∈ p, s.length ≤ 600) : (Lib.joinTail [32] p).length ≤ 601 * p.length := by
  induction p with
  | nil => simp [Lib.joinTail]
  | cons x p ih =>
    have h1 := ih (fun s hs => h s (List.mem_cons_of_mem _ hs))
    have h2 := h x (List.mem_cons_self ..)
    rw [jt_cons, List.length_cons, List.length_append, List.length_cons]; omega
theorem join_ev (w : ByteArray) (R : List ByteArray) (hR : R.length ≤ 100) (hw : w.size ≤ 100) (h : ∀ s ∈ R, s.size ≤ 600) :
    ∃ t, strings_Join.f (w :: R) (⟨#[32]⟩ : ByteArray) = some t ∧ tl t = tl w ++ Lib.joinTail [32] (R.map tl) := by
  have e : Lib.join ((w :: R).map (·.data.toList)) (⟨#[32]⟩ : ByteArray).data.toList = tl w ++ Lib.joinTail [32] (R.map tl) := by
    rw [List.map_cons, Lib.join_cons]; rfl
  have hl := jt_len (R.map tl) (fun s hs => by
    obtain ⟨b, hb, rfl⟩ := List.mem_map.1 hs
    rw [tl_size]; exact h b hb)
  rw [List.length_map] at hl
  refine ⟨⟨(tl w ++ Lib.joinTail [32] (R.map tl)).toArray⟩, ?_, rfl⟩
  unfold strings_Join.f
  rw [e, if_pos ⟨by rw [List.length_cons]; omega, by rw [List.length_append, tl_size]; omega⟩]
/-! ### the text -/
theorem text_hex (a0 a1 a2 a3 a4 : Int) (D : List Int) (S W : List ByteArray) (hD : ∀ x ∈ D, 0 ≤ x ∧ x < 256) (hl : D.length ≤ 300) (hS : S.length ≤ 20) (hW : W.length ≤ 20) : ∀ (d i k : Nat), D.length - i = d → i ≤ D.length → d < k →
    reply_Text.l0 k W (hexN (D.take i)) D (D.length : Int) (i : Int) a0 a1 a2 a3 a4 D S = strings_Join.f ((W ++ [strOfNums (hexN D)]) ++ S) (⟨#[32]⟩ : ByteArray) := by
  intro d
  induction d with
  | zero =>
    intro i k h1 h2 h3
    obtain ⟨k, rfl⟩ : ∃ m, k = m + 1 := ⟨k - 1, by omega⟩
    have hi : i = D.length := by omega
    rw [reply_Text.l0, if_neg (by omega), if_pos (by omega), Option.bind_some, if_pos (by rw [List.length_append, List.length_cons, List.length_nil]; omega), hi, List.take_length]
    cases strings_Join.f ((W ++ [strOfNums (hexN D)]) ++ S) (⟨#[32]⟩ : ByteArray) <;> rfl
  | succ d ih =>
    intro i k h1 h2 h3
    obtain ⟨k, rfl⟩ : ∃ m, k = m + 1 := ⟨k - 1, by omega⟩
    have hi : i < D.length := by omega
    obtain ⟨n1, n2, n3, n4⟩ := nib D[i] (hD _ (List.getElem_mem hi)).1 (hD _ (List.getElem_mem hi)).2
    have hlen := hexN_len (D.take i)
    rw [List.length_take] at hlen
    rw [reply_Text.l0, if_pos (by omega), if_pos (by omega), if_pos (by omega), rd_get D i hi, if_pos n1, if_pos n2, if_pos n3, if_pos n4, Option.bind_some]
    show (if (hexN (D.take i)).length + (hx D[i]).length < 140737488355328 then reply_Text.l0 k W (hexN (D.take i) ++ hx D[i]) D (D.length : Int) (wrap64 ((i : Int) + 1)) a0 a1 a2 a3 a4 D S else none) = _
    rw [if_pos (by rw [hx_len]; omega), ← hexN_take D i hi, wrap64_in (by omega) (by omega)]
    exact ih (i + 1) k (by omega) (by omega) (by omega)
theorem text_j0 (a0 a1 a2 a3 a4 : Int) (D : List Int) (S W : List ByteArray) (hD : ∀ x ∈ D, 0 ≤ x ∧ x < 256) (hl : D.length ≤ 300) (hS : S.length ≤ 20) (hW : W.length ≤ 20) (k : Nat) (hk : 310 < k) :
    reply_Text.j0 k W a0 a1 a2 a3 a4 D S = strings_Join.f (W ++ (hexP D ++ S)) (⟨#[32]⟩ : ByteArray) := by
  obtain ⟨k, rfl⟩ : ∃ m, k = m + 1 := ⟨k - 1, by omega⟩
  rw [reply_Text.j0]
  unfold hexP
  by_cases c : D.length = 0
  · rw [if_neg (by omega), if_pos (by omega), if_pos c, List.nil_append]
    cases strings_Join.f (W ++ S) (⟨#[32]⟩ : ByteArray) <;> rfl
  · rw [if_pos (by omega), if_neg c]
    have := text_hex a0 a1 a2 a3 a4 D S W hD hl hS hW D.length 0 k (by omega) (by omega) (by omega)
    rw [show ((0 : Nat) : Int) = 0 from rfl, List.take_zero] at this
    rw [show ([] : List Int) = hexN [] from rfl, this, List.append_assoc]
def kindB (n : Int) : ByteArray := if n = 1 then ⟨#[102, 105, 108, 101]⟩ else if n = 2 then ⟨#[100, 105, 114]⟩ else ⟨#[63]⟩
def numB (n : Int) : ByteArray := ⟨(Lib.itoa n).toArray⟩
def kindP (a2 a3 a4 : Int) : List ByteArray := if a2 = 0 then [] else [kindB a2, numB a3, numB a4]
/-- All the words of a good reply behind its first. -/
def rest (a1 a2 a3 a4 : Int) (D : List Int) (S : List ByteArray) : List ByteArray := numB a1 :: (kindP a2 a3 a4 ++ (hexP D ++ S))
theorem kind_ev (n : Int) : reply_kind.f n = some (kindB n) := by
  unfold reply_kind.f kindB
  split
  · rfl
  · split <;> rfl
structure Good (a1 a2 a3 a4 : Int) (D : List Int) (S : List ByteArray) : Prop where
  h1 : 0 ≤ a1 ∧ a1 < 9223372036854775808
  h3 : 0 ≤ a3 ∧ a3 < 9223372036854775808
  h4 : 0 ≤ a4 ∧ a4 < 9223372036854775808
  hD : ∀ x ∈ D, 0 ≤ x ∧ x < 256
  lD : D.length ≤ 300
  hS : ∀ s ∈ S, s.size ≤ 60
  lS : S.length ≤ 20
theorem rest_small {a1 a2 a3 a4 : Int} {D : List Int} {S : List ByteArray} (g : Good a1 a2 a3 a4 D S) : (rest a1 a2 a3 a4 D S).length ≤ 30 ∧ ∀ s ∈ rest a1 a2 a3 a4 D S, s.size ≤ 600 := by
  have n1 := itoa_len a1 g.h1.1 g.h1.2
  have n3 := itoa_len a3 g.h3.1 g.h3.2
  have n4 := itoa_len a4 g.h4.1 g.h4.2
  have hn : ∀ n, (numB n).size = (Lib.itoa n).length := fun n => by rw [← tl_size]; rfl
  have hk : (kindB a2).size ≤ 600 := by unfold kindB; split; exact (by decide); split <;> exact (by decide)
  have hkp : (kindP a2 a3 a4).length ≤ 3 ∧ ∀ s ∈ kindP a2 a3 a4, s.size ≤ 600 := by
    unfold kindP
    split
    · exact ⟨by simp, fun s hs => by cases hs⟩
    · refine ⟨by simp, fun s hs => ?_⟩
      simp only [List.mem_cons, List.not_mem_nil, or_false] at hs
      rcases hs with rfl | rfl | rfl
      · exact hk
      · rw [hn]; omega
      · rw [hn]; omega
  have hhp : (hexP D).length ≤ 1 ∧ ∀ s ∈ hexP D, s.size ≤ 600 := by
    unfold hexP
    split
    · exact ⟨by simp, fun s hs => by cases hs⟩
    · refine ⟨by simp, fun s hs => ?_⟩
      simp only [List.mem_cons, List.not_mem_nil, or_false] at hs
      rw [hs, strOfNums_size, hexN_len]
      have := g.lD
      omega
  have hS := g.lS
  unfold rest
  refine ⟨by rw [List.length_cons, List.length_append, List.length_append]; omega, fun s hs => ?_⟩
  rw [List.mem_cons, List.mem_append, List.mem_append] at hs
  rcases hs with rfl | hs | hs | hs
  · rw [hn]; omega
  · exact hkp.2 s hs
  · exact hhp.2 s hs
  · have := g.hS s hs; omega
theorem text_ok (a1 a2 a3 a4 : Int) (D : List Int) (S : List ByteArray) (g : Good a1 a2 a3 a4 D S) (k : Nat) (hk : 310 < k) :
    ∃ t, reply_Text.f k 0 a1 a2 a3 a4 D S = some t ∧ tl t = [111, 107] ++ Lib.joinTail [32] ((rest a1 a2 a3 a4 D S).map tl) := by
  obtain ⟨r1, r2⟩ := rest_small g
  obtain ⟨t, ht, ht2⟩ := join_ev ⟨#[111, 107]⟩ (rest a1 a2 a3 a4 D S) (by omega) (by decide) r2
  refine ⟨t, ?_, ht2⟩
  rw [← ht]
  unfold reply_Text.f
  rw [word_ev 0 (by decide), Option.bind_some, w16_zero]
  rw [show reply_or.f ⟨#[111, 107]⟩ = some ⟨#[111, 107]⟩ by unfold reply_or.f; rw [if_neg (by decide +kernel)], Option.bind_some, Option.bind_some, if_pos rfl, itoa_ev a1 g.h1.1 g.h1.2, Option.bind_some, if_pos (by rw [List.length_cons, List.length_nil]; omega), Option.bind_some]
  unfold rest kindP
  by_cases c : a2 = 0
  · rw [if_pos c, if_pos c, text_j0 0 a1 a2 a3 a4 D S _ g.hD g.lD g.lS (by simp) k hk]; rfl
  · rw [if_neg c, if_neg c, kind_ev, Option.bind_some, itoa_ev a3 g.h3.1 g.h3.2, Option.bind_some, itoa_ev a4 g.h4.1 g.h4.2, Option.bind_some, Option.bind_some, if_pos (by simp), text_j0 0 a1 a2 a3 a4 D S _ g.hD g.lD g.lS (by simp) k hk]; rfl
theorem or_ev (t : ByteArray) : reply_or.f t = some (if t.toList = [] then ⟨#[63]⟩ else t) := by unfold reply_or.f; split <;> rfl
theorem text_bad (a0 a1 a2 a3 a4 : Int) (D : List Int) (S : List ByteArray) (h : (Lit.int .i64 a0).wf = true) (h0 : a0 ≠ 0) (k : Nat) :
    reply_Text.f k a0 a1 a2 a3 a4 D S = some (if (reply_Word.w16 a0).toList = [] then ⟨#[63]⟩ else reply_Word.w16 a0) := by
  unfold reply_Text.f
  rw [word_ev a0 h, Option.bind_some, or_ev, Option.bind_some, Option.bind_some, if_neg h0, if_pos (by simp)]
  rfl
end Go.Proofs.YtnikcccobfcndaaDoor.PReplyTexts
