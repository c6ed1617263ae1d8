-- Written by a program of this session: the printer, with contracts put in that were proved by hand. Lean checks it.
import Derived.Test.YtnikcccobfcndaaDoorPReplyTextsx0
import Derived.Lib.AppendIntMem
namespace Go.Proofs.YtnikcccobfcndaaDoor.PReplyTexts
open Go.RowKit Go.Proofs.YtnikcccobfcndaaDoorW.PrintWords Go.Proofs.YtnikcccobfcndaaDoorW.PrintLast Go.Proofs.YtnikcccobfcndaaDoorW.PrintMore
attribute [local go_sem] L.setCell_drewN max2_int min2_int max_two min_two max_three min_three max_four min_four   -- for this text's walks alone
set_option linter.unusedVariables false
set_option linter.unusedSimpArgs false

-- NOT PRINTED: function 20 (reply_words)

/-! ### reply_Word: function 10 -/
theorem reply_Word.law : Go.Maps.Keyed Tryd.prog 22 := Go.Maps.int_keyed Tryd.underlying22
theorem reply_Word.zero (w : World) : (zeroValue 9).run Tryd.prog w = .ok (.string ⟨#[]⟩) w := by kernel_rfl
def reply_Word.Sp (w : World) (b n : Nat) (F : Int → ByteArray) : Prop := ∃ D : DataW Unit, Go.Maps.IsMap D ∧ w.ownsMap Tryd.prog 22 (plainElem Tryd.prog 9) b n D ∧ ∀ x, D.atKey (.int .i64 x) (.lit (.string [])) = .lit (.string (F x).data.toList)
theorem reply_Word.sp_made (w : World) : reply_Word.Sp (w.alloc (.map #[] 0)) w.heap.size 0 (fun _ => ⟨#[]⟩) :=
  ⟨.map [], ⟨[], rfl⟩, World.ownsMap_made _ _ _ _, fun _ => rfl⟩
theorem reply_Word.sp_look {w : World} {b n : Nat} {F : Int → ByteArray} (h : reply_Word.Sp w b n F) {x : Int} (hx : (Lit.int .i64 x).wf = true) :
    (Instr.lookup 39 (.map (some b)) (.int .i64 x) false).run Tryd.prog w = .ok (.string (F x)) w := by
  obtain ⟨D, h1, h2, h3⟩ := h
  obtain ⟨v, ps, hr, hv⟩ := h2.lookup reply_Word.law Tryd.underlying39 (reply_Word.zero w) (zd := .lit (.string [])) (zp := []) (by simp [plainElem, Tryd.underlying9]; exact Nat.zero_le _) (Go.Maps.keyOf_int_mk Tryd.underlying22 hx)
  rw [h3] at hv
  obtain ⟨s, rfl, e, _⟩ := plainElem_string_inv Tryd.underlying9 hv
  have : F x = s := by
    injection e with e1 e2
    injection e1 with e1
    injection e1 with e1
    rcases hF : F x with ⟨⟨l⟩⟩
    rcases s with ⟨⟨m⟩⟩
    rw [hF] at e1
    have e1 : l = m := e1
    rw [e1]
  rw [this]; exact hr
theorem reply_Word.ins {W : World} {ops : Array Oper} {rest : List Oper} {o : Oper} {a : Act} {Q : Exit → Act → World → Prop} (hg : o.guard = none) (m x v : Operand) (hop : o.op = Op.insert 39 m x v)
    (b n : Nat) (F : Int → ByteArray) (hm : a.eval m = .map (some b)) (HM : reply_Word.Sp W b n F) (hn : n < 1000000) (X : Int) (c : ByteArray) (hx : a.eval x = .int .i64 X) (hv : a.eval v = .string c) (wX : (Lit.int .i64 X).wf = true) (wc : c.size ≤ maxLen)
    (hK : ∀ w', reply_Word.Sp w' b (n + 1) (fun y => if y = X then c else F y) → W.grownBy w' (some b) → wpList Tryd.prog ops Q rest (a.put o.dst undef) w') : wpList Tryd.prog ops Q (o :: rest) a W := by
  obtain ⟨D, h1, h2, h3⟩ := HM
  refine wpList_plain hg fun K' hK' => ?_
  obtain ⟨w', hrun, r1, r2⟩ := h2.update reply_Word.law Tryd.underlying39 (by unfold maxLen; omega) (Go.Maps.keyOf_int_mk Tryd.underlying22 wX) (d := .lit (.string c.data.toList)) (ps := []) (val := .string c) (by simp [plainElem, Tryd.underlying9, wc])
  unfold Oper.wp
  simp [execOp, hop, hm, hx, hv, hrun, Result.andThen]
  refine hK' _ _ (hK w' ⟨_, ?_, r1, fun y => ?_⟩ r2)
  · obtain ⟨es, rfl⟩ := h1; exact ⟨_, rfl⟩
  · show _ = DataW.lit (Lit.string (if y = X then c else F y).data.toList)
    by_cases e : y = X
    · subst e; rw [if_pos rfl]; exact Go.Maps.atKey_put_same h1 (by trivial) _ _
    · rw [if_neg e, Go.Maps.atKey_put_other (fun q => e (by injection q))]; exact h3 y
def reply_Word.w0 : Int → ByteArray := fun _ => ⟨#[]⟩
def reply_Word.w1 : Int → ByteArray := fun y => if y = 0 then ⟨#[111, 107]⟩ else reply_Word.w0 y
def reply_Word.w2 : Int → ByteArray := fun y => if y = 2 then ⟨#[101, 110, 111, 101, 110, 116]⟩ else reply_Word.w1 y
def reply_Word.w3 : Int → ByteArray := fun y => if y = 5 then ⟨#[101, 105, 111]⟩ else reply_Word.w2 y
def reply_Word.w4 : Int → ByteArray := fun y => if y = 9 then ⟨#[101, 98, 97, 100, 102]⟩ else reply_Word.w3 y
def reply_Word.w5 : Int → ByteArray := fun y => if y = 16 then ⟨#[101, 98, 117, 115, 121]⟩ else reply_Word.w4 y
def reply_Word.w6 : Int → ByteArray := fun y => if y = 17 then ⟨#[101, 101, 120, 105, 115, 116]⟩ else reply_Word.w5 y
def reply_Word.w7 : Int → ByteArray := fun y => if y = 20 then ⟨#[101, 110, 111, 116, 100, 105, 114]⟩ else reply_Word.w6 y
def reply_Word.w8 : Int → ByteArray := fun y => if y = 21 then ⟨#[101, 105, 115, 100, 105, 114]⟩ else reply_Word.w7 y
def reply_Word.w9 : Int → ByteArray := fun y => if y = 22 then ⟨#[101, 105, 110, 118, 97, 108]⟩ else reply_Word.w8 y
def reply_Word.w10 : Int → ByteArray := fun y => if y = 24 then ⟨#[101, 109, 102, 105, 108, 101]⟩ else reply_Word.w9 y
def reply_Word.w11 : Int → ByteArray := fun y => if y = 27 then ⟨#[101, 102, 98, 105, 103]⟩ else reply_Word.w10 y
def reply_Word.w12 : Int → ByteArray := fun y => if y = 28 then ⟨#[101, 110, 111, 115, 112, 99]⟩ else reply_Word.w11 y
def reply_Word.w13 : Int → ByteArray := fun y => if y = 31 then ⟨#[101, 109, 108, 105, 110, 107]⟩ else reply_Word.w12 y
def reply_Word.w14 : Int → ByteArray := fun y => if y = 36 then ⟨#[101, 110, 97, 109, 101, 116, 111, 111, 108, 111, 110, 103]⟩ else reply_Word.w13 y
def reply_Word.w15 : Int → ByteArray := fun y => if y = 39 then ⟨#[101, 110, 111, 116, 101, 109, 112, 116, 121]⟩ else reply_Word.w14 y
def reply_Word.w16 : Int → ByteArray := fun y => if y = 74 then ⟨#[101, 99, 111, 114, 114, 117, 112, 116]⟩ else reply_Word.w15 y
def reply_Word.f (a0 : Int) : Option (ByteArray) := if (Lit.int .i64 a0).wf = true then some (reply_Word.w16 a0) else none
set_option maxHeartbeats 4000000 in
theorem reply_Word.words (w : World) : Calls Tryd.prog 20 #[] w fun e w' => ∃ b, e = .returned (.map (some b)) ∧ reply_Word.Sp w' b 16 reply_Word.w16 ∧ Below w.heap.size w w' := by
  have hmm := @run_makeMap Tryd.prog
  go_enter Tryd.func20, Tryd.ntmps20
  have HF : Aside0 (reply_Word.Sp (w.alloc (.map #[] 0)) w.heap.size 0 reply_Word.w0) := ⟨reply_Word.sp_made w⟩
  have HB := Aside0.mk (show Below w.heap.size w (w.alloc (.map #[] 0)) from (Below.refl _ _).alloc (Nat.le_refl _) _)
  go_wp2_with (first | ((with_reducible refine reply_Word.ins rfl (.tmp 1) (.const (.int .i64 0)) (.const (.string ⟨#[111, 107]⟩)) rfl w.heap.size 0 reply_Word.w0 rfl HF.out (by omega) 0 ⟨#[111, 107]⟩ rfl rfl (by decide) (by decide) ?_); intro w0 hs0 hg0; have HF : Aside0 (reply_Word.Sp w0 w.heap.size 1 reply_Word.w1) := ⟨hs0⟩; have HB := Aside0.mk (Below.grown HB.out hg0 HB.out.size (fun k hk => by cases hk; exact Nat.le_refl _)); clear hs0 hg0) | ((with_reducible refine reply_Word.ins rfl (.tmp 1) (.const (.int .i64 2)) (.const (.string ⟨#[101, 110, 111, 101, 110, 116]⟩)) rfl w.heap.size 1 reply_Word.w1 rfl HF.out (by omega) 2 ⟨#[101, 110, 111, 101, 110, 116]⟩ rfl rfl (by decide) (by decide) ?_); intro w1 hs1 hg1; have HF : Aside0 (reply_Word.Sp w1 w.heap.size 2 reply_Word.w2) := ⟨hs1⟩; have HB := Aside0.mk (Below.grown HB.out hg1 HB.out.size (fun k hk => by cases hk; exact Nat.le_refl _)); clear hs1 hg1) | ((with_reducible refine reply_Word.ins rfl (.tmp 1) (.const (.int .i64 5)) (.const (.string ⟨#[101, 105, 111]⟩)) rfl w.heap.size 2 reply_Word.w2 rfl HF.out (by omega) 5 ⟨#[101, 105, 111]⟩ rfl rfl (by decide) (by decide) ?_); intro w2 hs2 hg2; have HF : Aside0 (reply_Word.Sp w2 w.heap.size 3 reply_Word.w3) := ⟨hs2⟩; have HB := Aside0.mk (Below.grown HB.out hg2 HB.out.size (fun k hk => by cases hk; exact Nat.le_refl _)); clear hs2 hg2) | ((with_reducible refine reply_Word.ins rfl (.tmp 1) (.const (.int .i64 9)) (.const (.string ⟨#[101, 98, 97, 100, 102]⟩)) rfl w.heap.size 3 reply_Word.w3 rfl HF.out (by omega) 9 ⟨#[101, 98, 97, 100, 102]⟩ rfl rfl (by decide) (by decide) ?_); intro w3 hs3 hg3; have HF : Aside0 (reply_Word.Sp w3 w.heap.size 4 reply_Word.w4) := ⟨hs3⟩; have HB := Aside0.mk (Below.grown HB.out hg3 HB.out.size (fun k hk => by cases hk; exact Nat.le_refl _)); clear hs3 hg3) | ((with_reducible refine reply_Word.ins rfl (.tmp 1) (.const (.int .i64 16)) (.const (.string ⟨#[101, 98, 117, 115, 121]⟩)) rfl w.heap.size 4 reply_Word.w4 rfl HF.out (by omega) 16 ⟨#[101, 98, 117, 115, 121]⟩ rfl rfl (by decide) (by decide) ?_); intro w4 hs4 hg4; have HF : Aside0 (reply_Word.Sp w4 w.heap.size 5 reply_Word.w5) := ⟨hs4⟩; have HB := Aside0.mk (Below.grown HB.out hg4 HB.out.size (fun k hk => by cases hk; exact Nat.le_refl _)); clear hs4 hg4) | ((with_reducible refine reply_Word.ins rfl (.tmp 1) (.const (.int .i64 17)) (.const (.string ⟨#[101, 101, 120, 105, 115, 116]⟩)) rfl w.heap.size 5 reply_Word.w5 rfl HF.out (by omega) 17 ⟨#[101, 101, 120, 105, 115, 116]⟩ rfl rfl (by decide) (by decide) ?_); intro w5 hs5 hg5; have HF : Aside0 (reply_Word.Sp w5 w.heap.size 6 reply_Word.w6) := ⟨hs5⟩; have HB := Aside0.mk (Below.grown HB.out hg5 HB.out.size (fun k hk => by cases hk; exact Nat.le_refl _)); clear hs5 hg5) | ((with_reducible refine reply_Word.ins rfl (.tmp 1) (.const (.int .i64 20)) (.const (.string ⟨#[101, 110, 111, 116, 100, 105, 114]⟩)) rfl w.heap.size 6 reply_Word.w6 rfl HF.out (by omega) 20 ⟨#[101, 110, 111, 116, 100, 105, 114]⟩ rfl rfl (by decide) (by decide) ?_); intro w6 hs6 hg6; have HF : Aside0 (reply_Word.Sp w6 w.heap.size 7 reply_Word.w7) := ⟨hs6⟩; have HB := Aside0.mk (Below.grown HB.out hg6 HB.out.size (fun k hk => by cases hk; exact Nat.le_refl _)); clear hs6 hg6) | ((with_reducible refine reply_Word.ins rfl (.tmp 1) (.const (.int .i64 21)) (.const (.string ⟨#[101, 105, 115, 100, 105, 114]⟩)) rfl w.heap.size 7 reply_Word.w7 rfl HF.out (by omega) 21 ⟨#[101, 105, 115, 100, 105, 114]⟩ rfl rfl (by decide) (by decide) ?_); intro w7 hs7 hg7; have HF : Aside0 (reply_Word.Sp w7 w.heap.size 8 reply_Word.w8) := ⟨hs7⟩; have HB := Aside0.mk (Below.grown HB.out hg7 HB.out.size (fun k hk => by cases hk; exact Nat.le_refl _)); clear hs7 hg7) | ((with_reducible refine reply_Word.ins rfl (.tmp 1) (.const (.int .i64 22)) (.const (.string ⟨#[101, 105, 110, 118, 97, 108]⟩)) rfl w.heap.size 8 reply_Word.w8 rfl HF.out (by omega) 22 ⟨#[101, 105, 110, 118, 97, 108]⟩ rfl rfl (by decide) (by decide) ?_); intro w8 hs8 hg8; have HF : Aside0 (reply_Word.Sp w8 w.heap.size 9 reply_Word.w9) := ⟨hs8⟩; have HB := Aside0.mk (Below.grown HB.out hg8 HB.out.size (fun k hk => by cases hk; exact Nat.le_refl _)); clear hs8 hg8) | ((with_reducible refine reply_Word.ins rfl (.tmp 1) (.const (.int .i64 24)) (.const (.string ⟨#[101, 109, 102, 105, 108, 101]⟩)) rfl w.heap.size 9 reply_Word.w9 rfl HF.out (by omega) 24 ⟨#[101, 109, 102, 105, 108, 101]⟩ rfl rfl (by decide) (by decide) ?_); intro w9 hs9 hg9; have HF : Aside0 (reply_Word.Sp w9 w.heap.size 10 reply_Word.w10) := ⟨hs9⟩; have HB := Aside0.mk (Below.grown HB.out hg9 HB.out.size (fun k hk => by cases hk; exact Nat.le_refl _)); clear hs9 hg9) | ((with_reducible refine reply_Word.ins rfl (.tmp 1) (.const (.int .i64 27)) (.const (.string ⟨#[101, 102, 98, 105, 103]⟩)) rfl w.heap.size 10 reply_Word.w10 rfl HF.out (by omega) 27 ⟨#[101, 102, 98, 105, 103]⟩ rfl rfl (by decide) (by decide) ?_); intro w10 hs10 hg10; have HF : Aside0 (reply_Word.Sp w10 w.heap.size 11 reply_Word.w11) := ⟨hs10⟩; have HB := Aside0.mk (Below.grown HB.out hg10 HB.out.size (fun k hk => by cases hk; exact Nat.le_refl _)); clear hs10 hg10) | ((with_reducible refine reply_Word.ins rfl (.tmp 1) (.const (.int .i64 28)) (.const (.string ⟨#[101, 110, 111, 115, 112, 99]⟩)) rfl w.heap.size 11 reply_Word.w11 rfl HF.out (by omega) 28 ⟨#[101, 110, 111, 115, 112, 99]⟩ rfl rfl (by decide) (by decide) ?_); intro w11 hs11 hg11; have HF : Aside0 (reply_Word.Sp w11 w.heap.size 12 reply_Word.w12) := ⟨hs11⟩; have HB := Aside0.mk (Below.grown HB.out hg11 HB.out.size (fun k hk => by cases hk; exact Nat.le_refl _)); clear hs11 hg11) | ((with_reducible refine reply_Word.ins rfl (.tmp 1) (.const (.int .i64 31)) (.const (.string ⟨#[101, 109, 108, 105, 110, 107]⟩)) rfl w.heap.size 12 reply_Word.w12 rfl HF.out (by omega) 31 ⟨#[101, 109, 108, 105, 110, 107]⟩ rfl rfl (by decide) (by decide) ?_); intro w12 hs12 hg12; have HF : Aside0 (reply_Word.Sp w12 w.heap.size 13 reply_Word.w13) := ⟨hs12⟩; have HB := Aside0.mk (Below.grown HB.out hg12 HB.out.size (fun k hk => by cases hk; exact Nat.le_refl _)); clear hs12 hg12) | ((with_reducible refine reply_Word.ins rfl (.tmp 1) (.const (.int .i64 36)) (.const (.string ⟨#[101, 110, 97, 109, 101, 116, 111, 111, 108, 111, 110, 103]⟩)) rfl w.heap.size 13 reply_Word.w13 rfl HF.out (by omega) 36 ⟨#[101, 110, 97, 109, 101, 116, 111, 111, 108, 111, 110, 103]⟩ rfl rfl (by decide) (by decide) ?_); intro w13 hs13 hg13; have HF : Aside0 (reply_Word.Sp w13 w.heap.size 14 reply_Word.w14) := ⟨hs13⟩; have HB := Aside0.mk (Below.grown HB.out hg13 HB.out.size (fun k hk => by cases hk; exact Nat.le_refl _)); clear hs13 hg13) | ((with_reducible refine reply_Word.ins rfl (.tmp 1) (.const (.int .i64 39)) (.const (.string ⟨#[101, 110, 111, 116, 101, 109, 112, 116, 121]⟩)) rfl w.heap.size 14 reply_Word.w14 rfl HF.out (by omega) 39 ⟨#[101, 110, 111, 116, 101, 109, 112, 116, 121]⟩ rfl rfl (by decide) (by decide) ?_); intro w14 hs14 hg14; have HF : Aside0 (reply_Word.Sp w14 w.heap.size 15 reply_Word.w15) := ⟨hs14⟩; have HB := Aside0.mk (Below.grown HB.out hg14 HB.out.size (fun k hk => by cases hk; exact Nat.le_refl _)); clear hs14 hg14) | ((with_reducible refine reply_Word.ins rfl (.tmp 1) (.const (.int .i64 74)) (.const (.string ⟨#[101, 99, 111, 114, 114, 117, 112, 116]⟩)) rfl w.heap.size 15 reply_Word.w15 rfl HF.out (by omega) 74 ⟨#[101, 99, 111, 114, 114, 117, 112, 116]⟩ rfl rfl (by decide) (by decide) ?_); intro w15 hs15 hg15; have HF : Aside0 (reply_Word.Sp w15 w.heap.size 16 reply_Word.w16) := ⟨hs15⟩; have HB := Aside0.mk (Below.grown HB.out hg15 HB.out.size (fun k hk => by cases hk; exact Nat.le_refl _)); clear hs15 hg15))
  go_ret
  exact ⟨_, rfl, HF.out, HB.out⟩
set_option maxHeartbeats 1000000 in
theorem reply_Word.calls (a0 : Int) (r : ByteArray) (w : World) (h : reply_Word.f a0 = some r) :
    Calls Tryd.prog 10 #[.int .i64 a0] w fun e w' => e = .returned (.string r) ∧ Below w.heap.size w w' := by
  unfold reply_Word.f at h
  by_cases h1 : (Lit.int .i64 a0).wf = true
  · rw [if_pos h1] at h
    have hE := Aside0.mk (Option.some.inj h)
    have hw := Aside0.mk (reply_Word.words w)
    have hx := Aside0.mk h1
    clear h h1
    go_enter Tryd.func10, Tryd.ntmps10
    go_wp2_with (first | (go_at_call 20; (with_reducible refine hw.out.mono ?_); rintro e w1 ⟨b, rfl, hs, hb⟩; have hl := reply_Word.sp_look hs hx.out; have HB := Aside0.mk hb; clear hs hb))
    go_ret
    exact ⟨by rw [← hE.out]; rfl, HB.out⟩
  · rw [if_neg h1] at h
    exact absurd h (by simp)

/-! ### reply_or: function 16 -/
def reply_or.f (a0 : ByteArray) : Option (ByteArray) := if a0.toList = ([] : List UInt8) then (some (⟨#[63]⟩ : ByteArray)) else (some a0)
set_option maxHeartbeats 8000000 in
set_option maxRecDepth 100000 in
theorem reply_or.calls (a0 : ByteArray) (r : ByteArray) (w : World) (h : reply_or.f a0 = some r) :
    Calls Tryd.prog 16 #[.string a0] w fun e w' => e = .returned (.string r) ∧ Drawn0 w w' := by
  have H : (if a0.toList = ([] : List UInt8) then (some (⟨#[63]⟩ : ByteArray)) else (some a0)) = some r := h
  clear h
  by_cases c2 : a0.toList = ([] : List UInt8)
  · rw [if_pos c2] at H
    have c2b0 : (a0.toList == ([] : List UInt8)) = true := beq_iff_eq.mpr c2
    have c2b1 : (a0.toList != ([] : List UInt8)) = false := bne_eq_false_iff_eq.mpr c2
    clear c2
    obtain rfl := Option.some.inj H
    go_enter Tryd.func16, Tryd.ntmps16
    go_wp2
    go_ret
    exact ⟨by first | rfl | (simp; done) | (simp [*]; done), by repeat (first | exact Drawn0.refl _ | apply Drawn0.step)⟩
  · rw [if_neg c2] at H
    have c2b0 : (a0.toList == ([] : List UInt8)) = false := beq_eq_false_iff_ne.mpr c2
    have c2b1 : (a0.toList != ([] : List UInt8)) = true := bne_iff_ne.mpr c2
    obtain rfl := Option.some.inj H
    go_enter Tryd.func16, Tryd.ntmps16
    go_wp2
    go_ret
    exact ⟨by first | rfl | (simp; done) | (simp [*]; done), by repeat (first | exact Drawn0.refl _ | apply Drawn0.step)⟩

-- NOT PRINTED: function 31 (strconv_small)

-- NOT PRINTED: function 37 (strconv_log10Pow2)

-- NOT PRINTED: function 38 (bits_Len64)

-- NOT PRINTED: function 39 (strconv_bool2_int)

-- NOT PRINTED: function 32 (strconv_numDigits)

-- NOT PRINTED: function 33 (strconv_formatBase10)

-- NOT PRINTED: function 40 (strconv_isPowerOfTwo)

-- NOT PRINTED: function 42 (bits_TrailingZeros32)

-- NOT PRINTED: function 43 (bits_TrailingZeros64)

-- NOT PRINTED: function 41 (bits_TrailingZeros)

-- NOT PRINTED: function 34 (strconv_formatBits)

-- NOT PRINTED: function 28 (strconv_FormatInt)

-- NOT PRINTED: function 24 (strconv_Itoa_24)

/-! ### strconv_Itoa_17: function 17 -/
/-- The table that Itoa reads, as the row's laid datum gives it. -/
def Tb (w : World) : Prop := Lib.TabIs Tryd.prog w "internal/strconv.uint64pow10" .u64 Lib.pow10Tab
theorem Tb_below {w w' : World} (h : Tb w) (hb : Below w.heap.size w w') : Tb w' := (Lib.tabBelow_of_tabIs h) w' hb
def strconv_Itoa_17.f (a0 : Int) : Option (ByteArray) := if -9223372036854775808 ≤ a0 ∧ a0 ≤ 9223372036854775807 then some ⟨(Lib.itoa a0).toArray⟩ else none
theorem strconv_Itoa_17.calls (a0 : Int) (r : ByteArray) (w : World) (h : strconv_Itoa_17.f a0 = some r) (hT : Tb w) :
    Calls Tryd.prog 17 #[.int .i64 a0] w fun e w' => e = .returned (.string r) ∧ Below w.heap.size w w' := by
  unfold strconv_Itoa_17.f at h
  split at h
  · rename_i h0
    obtain rfl := Option.some.inj h
    refine (Tryd.strconv_Itoa a0 h0.1 h0.2 w hT).mono ?_
    rintro e w' ⟨he, k, os, rfl⟩
    exact ⟨he, Lib.below_grow _ _ (Nat.le_refl _) _ _⟩
  · cases h

/-! ### reply_kind: function 18 -/
def reply_kind.f (a0 : Int) : Option (ByteArray) := if a0 = 1 then (some (⟨#[102, 105, 108, 101]⟩ : ByteArray)) else (if a0 = 2 then (some (⟨#[100, 105, 114]⟩ : ByteArray)) else (some (⟨#[63]⟩ : ByteArray)))
set_option maxHeartbeats 8000000 in
set_option maxRecDepth 100000 in
theorem reply_kind.calls (a0 : Int) (r : ByteArray) (w : World) (h : reply_kind.f a0 = some r) :
    Calls Tryd.prog 18 #[.int .i64 a0] w fun e w' => e = .returned (.string r) ∧ Drawn0 w w' := by
  have H : (if a0 = 1 then (some (⟨#[102, 105, 108, 101]⟩ : ByteArray)) else (if a0 = 2 then (some (⟨#[100, 105, 114]⟩ : ByteArray)) else (some (⟨#[63]⟩ : ByteArray)))) = some r := h
  clear h
  by_cases c2 : a0 = 1
  · rw [if_pos c2] at H
    have c2b0 : (a0 == 1) = true := beq_iff_eq.mpr c2
    have c2b1 : (a0 != 1) = false := bne_eq_false_iff_eq.mpr c2
    clear c2
    obtain rfl := Option.some.inj H
    go_enter Tryd.func18, Tryd.ntmps18
    go_wp2
    go_ret
    exact ⟨by first | rfl | (simp; done) | (simp [*]; done), by repeat (first | exact Drawn0.refl _ | apply Drawn0.step)⟩
  · rw [if_neg c2] at H
    have c2b0 : (a0 == 1) = false := beq_eq_false_iff_ne.mpr c2
    have c2b1 : (a0 != 1) = true := bne_iff_ne.mpr c2
    by_cases c3 : a0 = 2
    · rw [if_pos c3] at H
      have c3b0 : (a0 == 2) = true := beq_iff_eq.mpr c3
      have c3b1 : (a0 != 2) = false := bne_eq_false_iff_eq.mpr c3
      clear c3
      obtain rfl := Option.some.inj H
      go_enter Tryd.func18, Tryd.ntmps18
      go_wp2
      go_ret
      exact ⟨by first | rfl | (simp; done) | (simp [*]; done), by repeat (first | exact Drawn0.refl _ | apply Drawn0.step)⟩
    · rw [if_neg c3] at H
      have c3b0 : (a0 == 2) = false := beq_eq_false_iff_ne.mpr c3
      have c3b1 : (a0 != 2) = true := bne_iff_ne.mpr c3
      obtain rfl := Option.some.inj H
      go_enter Tryd.func18, Tryd.ntmps18
      go_wp2
      go_ret
      exact ⟨by first | rfl | (simp; done) | (simp [*]; done), by repeat (first | exact Drawn0.refl _ | apply Drawn0.step)⟩

-- NOT PRINTED: function 35 (abi_NoEscape)

-- NOT PRINTED: function 29 (strings_Builder_copyCheck)

-- NOT PRINTED: function 36 (bytealg_MakeNoZero)

-- NOT PRINTED: function 30 (strings_Builder_grow)

-- NOT PRINTED: function 25 (strings_Builder_Grow)

-- NOT PRINTED: function 26 (strings_Builder_WriteString)

-- NOT PRINTED: function 27 (strings_Builder_String)

/-! ### strings_Join: function 19 -/
def strings_Join.f (l0 : List ByteArray) (a1 : ByteArray) : Option (ByteArray) := if l0.length ≤ 140737488355328 ∧ (Lib.join (l0.map (·.data.toList)) a1.data.toList).length ≤ 140737488355328 then some ⟨(Lib.join (l0.map (·.data.toList)) a1.data.toList).toArray⟩ else none
theorem strings_Join.calls (A0 : Option Addr) (c0 : Nat) (l0 : List ByteArray) (a1 : ByteArray) (r : ByteArray) (w : World) (hr0 : Kd.C Kd.string w A0 l0.length l0) (hc0 : l0.length ≤ c0) (h : strings_Join.f l0 a1 = some r) :
    Calls Tryd.prog 19 #[.slice A0 l0.length c0, .string a1] w fun e w' => e = .returned (.string r) ∧ Below w.heap.size w w' := by
  unfold strings_Join.f at h
  by_cases h1 : l0.length ≤ 140737488355328 ∧ (Lib.join (l0.map (·.data.toList)) a1.data.toList).length ≤ 140737488355328
  · rw [if_pos h1] at h
    obtain rfl := Option.some.inj h
    cases l0 with
    | nil =>
      refine (Tryd.strings_Join_none A0 c0 a1 w).mono ?_
      rintro e w' ⟨rfl, rfl⟩
      exact ⟨rfl, Below.refl _ _⟩
    | cons x t =>
      obtain ⟨ad, hA, hx0⟩ := Kd.at_string hr0 0 (by omega) (by simp)
      subst hA
      have hcs : ∀ (j : Nat) y, (x :: t)[j]? = some y → w.cell? (ad.add j) = some (.string y) := by
        intro j y hj
        obtain ⟨hjl, hj2⟩ := List.getElem?_eq_some_iff.1 hj
        obtain ⟨ad2, e2, hy⟩ := Kd.at_string hr0 (j : Int) (by omega) (by omega)
        cases e2
        rw [Int.toNat_natCast] at hy
        rw [hy]
        congr 2
        rw [← hj2]
        simp only [rdOf, List.getD_eq_getElem?_getD, Int.toNat_natCast]
        rw [List.getElem?_eq_getElem hjl, Option.getD_some]
      have h00 := hcs 0 x rfl
      obtain ⟨bk, o, sp⟩ := ad
      obtain rfl : sp = none := by
        cases sp with
        | none => rfl
        | some q => exact absurd h00 (by simp [Addr.add, World.cell?]; cases w.heap[bk]? with | none => simp | some ob => cases ob <;> simp)
      refine Tryd.strings_Join bk o c0 (x :: t) a1 w (fun j y hj => ?_) (World.block_lt_of_cell? w _ h00) h1.1 hc0 h1.2
      have := hcs j y hj
      unfold Addr.add at this
      by_cases hj0 : j = 0
      · subst hj0; exact this
      · rw [if_neg hj0] at this; exact this
  · rw [if_neg h1] at h
    exact absurd h (by simp)

end Go.Proofs.YtnikcccobfcndaaDoor.PReplyTexts
