/- The plain law of UtfChar: a number is a character just if it has a text of its own, of one to four bytes; for all inputs. No condition of our own. -/
import Derived.Test.YtbbgmokpniigfaaDoorPUtfCharx3
namespace Go.Proofs.YtbbgmokpniigfaaDoor.Pure
set_option linter.unusedVariables false
open Go.RowKit Go.Proofs.YtbbgmokpniigfaaDoor.PUtfChar Go.Proofs.YtbbgmokpniigfaaDoorW.PrintWords Go.Proofs.YtbbgmokpniigfaaDoorW.PrintLast Go.Proofs.YtbbgmokpniigfaaDoorW.PrintMore

theorem wf32 {a : Int} (h : (Lit.int .u32 a).wf = true) : 0 ≤ a ∧ a < 4294967296 := by
  simp [Lit.wf, IntKind.min, IntKind.max, IntKind.bits, IntKind.signed] at h
  omega
theorem wf8 {a : Int} (h : (Lit.int .u8 a).wf = true) : 0 ≤ a ∧ a < 256 := by
  simp [Lit.wf, IntKind.min, IntKind.max, IntKind.bits, IntKind.signed] at h
  omega
theorem wf16 {a : Int} (h : (Lit.int .u16 a).wf = true) : 0 ≤ a ∧ a < 65536 := by
  simp [Lit.wf, IntKind.min, IntKind.max, IntKind.bits, IntKind.signed] at h
  omega
theorem wf64 {a : Int} (h : (Lit.int .u64 a).wf = true) : 0 ≤ a ∧ a < 18446744073709551616 := by
  simp [Lit.wf, IntKind.min, IntKind.max, IntKind.bits, IntKind.signed] at h
  omega
theorem w64 (n : Int) (h0 : 0 ≤ n) (h1 : n < 9223372036854775808) : wrap64 n = n := by unfold wrap64; omega
theorem u64w (n : Int) (h0 : 0 ≤ n) (h1 : n < 18446744073709551616) : IntKind.u64.wrap n = n := by
  simp [IntKind.wrap, IntKind.bits, IntKind.signed]
  omega
theorem rd_zero (x : Int) (l : List Int) : rd (x :: l) 0 = x := rfl
theorem rd_nat (l : List Int) (i : Nat) (h : i < l.length) : rd l (i : Int) = l[i] := by simp [rd, h]
/-- A character's number. -/
def isC (c : Int) : Prop := 0 ≤ c ∧ c ≤ 1114111 ∧ (c < 55296 ∨ 57343 < c)
instance (c : Int) : Decidable (isC c) := inferInstanceAs (Decidable (_ ∧ _ ∧ (_ ∨ _)))
/-- The bytes of a character. -/
def enc (c : Int) : List Int :=
  if c < 128 then [c] else if c < 2048 then [192 + c / 64, 128 + c % 64] else if c < 65536 then [224 + c / 4096, 128 + c / 64 % 64, 128 + c % 64] else [240 + c / 262144, 128 + c / 4096 % 64, 128 + c / 64 % 64, 128 + c % 64]
def txt (l : List Int) : List Int := l.flatMap enc
def okL (l : List Int) : Prop := ∀ c ∈ l, isC c
instance (l : List Int) : Decidable (okL l) := inferInstanceAs (Decidable (∀ c ∈ l, isC c))
theorem txt_nil : txt [] = [] := rfl
theorem txt_cons (c : Int) (l : List Int) : txt (c :: l) = enc c ++ txt l := by simp [txt]
theorem txt_append (a b : List Int) : txt (a ++ b) = txt a ++ txt b := by simp [txt]
theorem okL_nil : okL [] := fun _ h => by cases h
theorem okL_cons (c : Int) (l : List Int) : okL (c :: l) ↔ isC c ∧ okL l := by simp [okL]
theorem okL_append (a b : List Int) : okL (a ++ b) ↔ okL a ∧ okL b := by
  unfold okL
  constructor
  · intro h; exact ⟨fun c hc => h c (List.mem_append_left _ hc), fun c hc => h c (List.mem_append_right _ hc)⟩
  · rintro ⟨h1, h2⟩ c hc
    rcases List.mem_append.1 hc with h | h
    · exact h1 c h
    · exact h2 c h
theorem enc_length (c : Int) : 1 ≤ (enc c).length ∧ (enc c).length ≤ 4 := by
  unfold enc
  repeat' split
  all_goals simp
theorem enc_inj {c d : Int} {r s : List Int} (hc : isC c) (hd : isC d) (h : enc c ++ r = enc d ++ s) : c = d ∧ r = s := by
  unfold isC at hc hd
  unfold enc at h
  repeat' split at h
  all_goals simp only [List.cons_append, List.nil_append, List.cons.injEq] at h
  all_goals first
    | (exfalso; omega)
    | (obtain ⟨h1, h2⟩ := h; exact ⟨by omega, h2⟩)
    | (obtain ⟨h1, h2, h3⟩ := h; exact ⟨by omega, h3⟩)
    | (obtain ⟨h1, h2, h3, h4⟩ := h; exact ⟨by omega, h4⟩)
    | (obtain ⟨h1, h2, h3, h4, h5⟩ := h; exact ⟨by omega, h5⟩)
theorem txt_cancel : ∀ {l n r : List Int}, okL l → okL n → txt l ++ r = txt n → ∃ m, n = l ++ m ∧ r = txt m
  | [], n, r, _, _, h => ⟨n, rfl, by simpa [txt_nil] using h⟩
  | c :: l, [], r, hl, _, h => by
    have := enc_length c
    have h2 := congrArg List.length h
    simp only [txt_cons, txt_nil, List.length_append, List.length_nil] at h2
    omega
  | c :: l, d :: n, r, hl, hn, h => by
    rw [okL_cons] at hl hn
    rw [txt_cons, txt_cons, List.append_assoc] at h
    obtain ⟨rfl, h2⟩ := enc_inj hl.1 hn.1 h
    obtain ⟨m, rfl, hr⟩ := txt_cancel hl.2 hn.2 h2
    exact ⟨m, rfl, hr⟩
theorem txt_eq_nil {l : List Int} (h : txt l = []) : l = [] := by
  cases l with
  | nil => rfl
  | cons c l =>
    have := enc_length c
    have h2 := congrArg List.length h
    simp only [txt_cons, List.length_append, List.length_nil] at h2
    omega
theorem txt_inj {l m : List Int} (hl : okL l) (hm : okL m) (h : txt l = txt m) : l = m := by
  obtain ⟨q, rfl, hq⟩ := txt_cancel hl hm (show txt l ++ [] = txt m by simpa using h)
  rw [txt_eq_nil hq.symm]; simp
theorem txt_length (l : List Int) : l.length ≤ (txt l).length ∧ (txt l).length ≤ 4 * l.length := by
  induction l with
  | nil => simp [txt_nil]
  | cons c l ih =>
    have := enc_length c
    rw [txt_cons]
    simp only [List.length_append, List.length_cons]
    omega
theorem enc_byte {c x : Int} (h : isC c) (hx : x ∈ enc c) : 0 ≤ x ∧ x < 256 := by
  unfold isC at h
  unfold enc at hx
  repeat' split at hx
  all_goals simp only [List.mem_cons, List.not_mem_nil, or_false] at hx
  all_goals omega
theorem txt_byte {l : List Int} (h : okL l) : ∀ x ∈ txt l, 0 ≤ x ∧ x < 256 := by
  intro x hx
  obtain ⟨c, hc, hx⟩ := List.mem_flatMap.1 hx
  exact enc_byte (h c hc) hx
/-! ### what the walks' functions tell -/
theorem char_eq (a : Int) (h : 0 ≤ a) : utf_Char.f a = some (decide (isC a)) := by
  unfold utf_Char.f
  split
  · split
    · rw [decide_eq_true (by unfold isC; omega)]
    · congr 1; rw [decide_eq_decide]; unfold isC; omega
  · rw [decide_eq_false (by unfold isC; omega)]
theorem encP_eq (c : Int) (h : isC c) : encP c = enc c := by
  unfold isC at h
  unfold encP enc
  by_cases h1 : c ≤ 127
  · rw [if_pos h1, if_pos (by omega)]; simp only [head, conts]; rw [show c % 256 = c by omega]
  by_cases h2 : c ≤ 2047
  · rw [if_neg h1, if_pos h2, if_neg (by omega), if_pos (by omega)]; simp [head, conts]
  by_cases h3 : c ≤ 65535
  · rw [if_neg h1, if_neg h2, if_pos h3, if_neg (by omega), if_neg (by omega), if_pos (by omega)]; simp [head, conts]
  · rw [if_neg h1, if_neg h2, if_neg h3, if_neg (by omega), if_neg (by omega), if_neg (by omega)]; simp [head, conts]
theorem text_l0 (x0 : List Int) (hx : ∀ c ∈ x0, 0 ≤ c ∧ c < 4294967296) (hn : x0.length ≤ 1000000) : ∀ (d i : Nat) (acc : List Int), i + d = x0.length → acc.length ≤ 4 * i → ∀ k, d < k →
    utf_Text.l0 k x0 acc (i : Int) = some (if okL (x0.drop i) then (acc ++ txt (x0.drop i), true) else ([], false))
  | 0, i, acc, h, ha, k + 1, hk => by
    rw [List.drop_eq_nil_of_le (by omega), if_pos okL_nil]
    simp only [utf_Text.l0]
    rw [if_neg (by omega)]; simp [txt_nil]
  | d + 1, i, acc, h, ha, k + 1, hk => by
    have hi : i < x0.length := by omega
    have hc := hx _ (List.getElem_mem hi)
    rw [List.drop_eq_getElem_cons hi]
    simp only [utf_Text.l0]
    rw [if_pos (by omega), if_pos (by omega), rd_nat _ _ hi, u64w _ (by omega) (by omega), char_eq _ hc.1]
    simp only [Option.bind_some, decide_eq_true_eq]
    by_cases c : isC x0[i]
    · have c' := c
      unfold isC at c'
      rw [if_pos c, if_pos ⟨c'.1, c'.2.1⟩, if_pos (by omega), w64 _ (by omega) (by omega)]
      have hl := (enc_length x0[i]).2
      rw [encP_eq _ c]
      have := text_l0 x0 hx hn d (i + 1) (acc ++ enc x0[i]) (by omega) (by rw [List.length_append]; omega) k (by omega)
      rw [show ((i : Int) + 1) = ((i + 1 : Nat) : Int) by omega, this]
      simp only [okL_cons, c, true_and, txt_cons, List.append_assoc]
    · rw [if_neg c, if_neg (by rw [okL_cons]; exact fun h => c h.1)]
theorem text_eq (l : List Int) (hx : ∀ c ∈ l, 0 ≤ c ∧ c < 4294967296) (hn : l.length ≤ 1000000) (k : Nat) (hk : l.length < k) : utf_Text.f k l = some (if okL l then (txt l, true) else ([], false)) := by
  have := text_l0 l hx hn l.length 0 [] (by omega) (by simp) k hk
  simpa [utf_Text.f] using this
theorem mono_ge {α : Type} {f : Nat → Option α} (h : ∀ k, LeO (f k) (f (k + 1))) {r : α} {k : Nat} (hk : f k = some r) : ∀ n, f (k + n) = some r
  | 0 => hk
  | n + 1 => h _ _ (mono_ge h hk n)
theorem works40 : lw02_works.f 40 = some true := by decide +kernel
theorem works_eq (k : Nat) (h : 40 ≤ k) : lw02_works.f k = some true := by
  obtain ⟨n, rfl⟩ := Nat.exists_eq_add_of_le h
  exact mono_ge (fun q => lw02_works.mono q) works40 n
theorem ascii_l0 (l : List Int) (hn : l.length ≤ 1000000) : ∀ (d i : Nat), i + d = l.length → ∀ k, d < k → utf_Ascii.l0 k l (l.length : Int) (i : Int) = some (decide (∀ x ∈ l.drop i, x < 128))
  | 0, i, h, k + 1, hk => by
    rw [List.drop_eq_nil_of_le (by omega)]
    simp only [utf_Ascii.l0]
    rw [if_neg (by omega)]; simp
  | d + 1, i, h, k + 1, hk => by
    have hi : i < l.length := by omega
    simp only [utf_Ascii.l0]
    rw [if_pos (by omega), if_pos (by omega), if_pos (by omega), rd_nat _ _ hi, w64 _ (by omega) (by omega), List.drop_eq_getElem_cons hi]
    by_cases c : l[i] ≥ 128
    · rw [if_pos c, decide_eq_false (fun e => by have := e l[i] List.mem_cons_self; omega)]
    · rw [if_neg c, show ((i : Int) + 1) = ((i + 1 : Nat) : Int) by omega, ascii_l0 l hn d (i + 1) (by omega) k (by omega)]
      congr 1; rw [decide_eq_decide, List.forall_mem_cons]
      exact ⟨fun e => ⟨by omega, e⟩, fun e => e.2⟩
theorem ascii_eq (l : List Int) (hn : l.length ≤ 1000000) (k : Nat) (hk : l.length < k) : utf_Ascii.f k l = some (decide (∀ x ∈ l, x < 128)) := by
  have := ascii_l0 l hn l.length 0 (by omega) k hk
  simpa [utf_Ascii.f] using this
theorem ascii_enc (c : Int) (h : isC c) : decide (∀ x ∈ enc c, x < 128) = decide (c < 128) := by
  rw [decide_eq_decide]
  unfold isC at h
  unfold enc
  repeat' split
  all_goals simp only [List.forall_mem_cons, List.not_mem_nil, false_imp_iff, implies_true, and_true]
  all_goals omega
theorem UtfChar : lw02_UtfChar.Pure := by
  intro a ha
  replace ha := wf32 ha
  refine ⟨50, ?_⟩
  unfold lw02_UtfChar.f
  rw [text_eq [a] (by simpa using ha) (by simp) 50 (by simp), u64w a (by omega) (by omega), u64w _ (by omega) (by omega), char_eq _ ha.1, char_eq _ (by omega)]
  simp only [Option.bind_some]
  have n1 : ¬ isC (a + 4294967296) := by unfold isC; omega
  rw [decide_eq_false n1]
  by_cases c : isC a
  · have hok : okL [a] := by rw [okL_cons]; exact ⟨c, okL_nil⟩
    have e : txt [a] = enc a := by simp [txt]
    have hl := enc_length a
    have j : lw02_UtfChar.j0 50 a (enc a) true false = some true := by
      simp only [lw02_UtfChar.j0]
      rw [ascii_eq _ (by omega) 49 (by omega), ascii_enc a c, works_eq 49 (by omega)]
      simp only [Option.bind_some, Bool.false_eq_true, if_false, if_true, beq_self_eq_true]
      have c' := c
      unfold isC at c'
      unfold enc
      repeat' split
      all_goals first | rfl | (exfalso; simp_all; done) | (exfalso; simp at *; omega)
    rw [if_pos hok, e, decide_eq_true c]
    simp only [bne_self_eq_false, Bool.false_eq_true, if_false]
    unfold isC at c
    by_cases h1 : a < 55296
    · rw [if_pos h1]; exact j
    · rw [if_neg h1, if_pos (by omega), decide_eq_true (by omega)]; exact j
  · have hok : ¬ okL [a] := by rw [okL_cons]; exact fun h => c h.1
    have j : lw02_UtfChar.j0 50 a [] false false = some true := by
      simp only [lw02_UtfChar.j0]
      rw [works_eq 49 (by omega)]; simp
    rw [if_neg hok, decide_eq_false c]
    simp only [bne_self_eq_false, Bool.false_eq_true, if_false]
    unfold isC at c
    by_cases h1 : a < 55296
    · omega
    · rw [if_neg h1]
      by_cases h2 : a ≥ 57344
      · rw [if_pos h2, decide_eq_false (by omega)]; exact j
      · rw [if_neg h2]; exact j

end Go.Proofs.YtbbgmokpniigfaaDoor.Pure
