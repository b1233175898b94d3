/- The plain law of UtfTexts: Text answers the text of any numbers, or that one is no character, as the reference does; for all inputs of at most 8192 numbers, and where there are more, that the anchor holds. No condition of our own. -/
import Derived.Test.YtbbgmokpniigfaaDoorPUtfTextsx3
namespace Go.Proofs.YtbbgmokpniigfaaDoor.Pure
set_option linter.unusedVariables false
open Go.RowKit Go.Proofs.YtbbgmokpniigfaaDoor.PUtfTexts Go.Proofs.YtbbgmokpniigfaaDoorW.PrintWords Go.Proofs.YtbbgmokpniigfaaDoorW.PrintLast Go.Proofs.YtbbgmokpniigfaaDoorW.PrintMore

theorem wf32 {a : Int} (h : (Lit.int .u32 a).wf = true) : 0 ≤ a ∧ a < 4294967296 := by
  simp [Lit.wf, IntKind.min, IntKind.max, IntKind.bits, IntKind.signed] at h
  omega
theorem wf8 {a : Int} (h : (Lit.int .u8 a).wf = true) : 0 ≤ a ∧ a < 256 := by
  simp [Lit.wf, IntKind.min, IntKind.max, IntKind.bits, IntKind.signed] at h
  omega
theorem wf16 {a : Int} (h : (Lit.int .u16 a).wf = true) : 0 ≤ a ∧ a < 65536 := by
  simp [Lit.wf, IntKind.min, IntKind.max, IntKind.bits, IntKind.signed] at h
  omega
theorem wf64 {a : Int} (h : (Lit.int .u64 a).wf = true) : 0 ≤ a ∧ a < 18446744073709551616 := by
  simp [Lit.wf, IntKind.min, IntKind.max, IntKind.bits, IntKind.signed] at h
  omega
theorem w64 (n : Int) (h0 : 0 ≤ n) (h1 : n < 9223372036854775808) : wrap64 n = n := by unfold wrap64; omega
theorem u64w (n : Int) (h0 : 0 ≤ n) (h1 : n < 18446744073709551616) : IntKind.u64.wrap n = n := by
  simp [IntKind.wrap, IntKind.bits, IntKind.signed]
  omega
theorem rd_zero (x : Int) (l : List Int) : rd (x :: l) 0 = x := rfl
theorem rd_nat (l : List Int) (i : Nat) (h : i < l.length) : rd l (i : Int) = l[i] := by simp [rd, h]
/-- A character's number. -/
def isC (c : Int) : Prop := 0 ≤ c ∧ c ≤ 1114111 ∧ (c < 55296 ∨ 57343 < c)
instance (c : Int) : Decidable (isC c) := inferInstanceAs (Decidable (_ ∧ _ ∧ (_ ∨ _)))
/-- The bytes of a character. -/
def enc (c : Int) : List Int :=
  if c < 128 then [c] else if c < 2048 then [192 + c / 64, 128 + c % 64] else if c < 65536 then [224 + c / 4096, 128 + c / 64 % 64, 128 + c % 64] else [240 + c / 262144, 128 + c / 4096 % 64, 128 + c / 64 % 64, 128 + c % 64]
def txt (l : List Int) : List Int := l.flatMap enc
def okL (l : List Int) : Prop := ∀ c ∈ l, isC c
instance (l : List Int) : Decidable (okL l) := inferInstanceAs (Decidable (∀ c ∈ l, isC c))
theorem txt_nil : txt [] = [] := rfl
theorem txt_cons (c : Int) (l : List Int) : txt (c :: l) = enc c ++ txt l := by simp [txt]
theorem txt_append (a b : List Int) : txt (a ++ b) = txt a ++ txt b := by simp [txt]
theorem okL_nil : okL [] := fun _ h => by cases h
theorem okL_cons (c : Int) (l : List Int) : okL (c :: l) ↔ isC c ∧ okL l := by simp [okL]
theorem okL_append (a b : List Int) : okL (a ++ b) ↔ okL a ∧ okL b := by
  unfold okL
  constructor
  · intro h; exact ⟨fun c hc => h c (List.mem_append_left _ hc), fun c hc => h c (List.mem_append_right _ hc)⟩
  · rintro ⟨h1, h2⟩ c hc
    rcases List.mem_append.1 hc with h | h
    · exact h1 c h
    · exact h2 c h
theorem enc_length (c : Int) : 1 ≤ (enc c).length ∧ (enc c).length ≤ 4 := by
  unfold enc
  repeat' split
  all_goals simp
theorem enc_inj {c d : Int} {r s : List Int} (hc : isC c) (hd : isC d) (h : enc c ++ r = enc d ++ s) : c = d ∧ r = s := by
  unfold isC at hc hd
  unfold enc at h
  repeat' split at h
  all_goals simp only [List.cons_append, List.nil_append, List.cons.injEq] at h
  all_goals first
    | (exfalso; omega)
    | (obtain ⟨h1, h2⟩ := h; exact ⟨by omega, h2⟩)
    | (obtain ⟨h1, h2, h3⟩ := h; exact ⟨by omega, h3⟩)
    | (obtain ⟨h1, h2, h3, h4⟩ := h; exact ⟨by omega, h4⟩)
    | (obtain ⟨h1, h2, h3, h4, h5⟩ := h; exact ⟨by omega, h5⟩)
theorem txt_cancel : ∀ {l n r : List Int}, okL l → okL n → txt l ++ r = txt n → ∃ m, n = l ++ m ∧ r = txt m
  | [], n, r, _, _, h => ⟨n, rfl, by simpa [txt_nil] using h⟩
  | c :: l, [], r, hl, _, h => by
    have := enc_length c
    have h2 := congrArg List.length h
    simp only [txt_cons, txt_nil, List.length_append, List.length_nil] at h2
    omega
  | c :: l, d :: n, r, hl, hn, h => by
    rw [okL_cons] at hl hn
    rw [txt_cons, txt_cons, List.append_assoc] at h
    obtain ⟨rfl, h2⟩ := enc_inj hl.1 hn.1 h
    obtain ⟨m, rfl, hr⟩ := txt_cancel hl.2 hn.2 h2
    exact ⟨m, rfl, hr⟩
theorem txt_eq_nil {l : List Int} (h : txt l = []) : l = [] := by
  cases l with
  | nil => rfl
  | cons c l =>
    have := enc_length c
    have h2 := congrArg List.length h
    simp only [txt_cons, List.length_append, List.length_nil] at h2
    omega
theorem txt_inj {l m : List Int} (hl : okL l) (hm : okL m) (h : txt l = txt m) : l = m := by
  obtain ⟨q, rfl, hq⟩ := txt_cancel hl hm (show txt l ++ [] = txt m by simpa using h)
  rw [txt_eq_nil hq.symm]; simp
theorem txt_length (l : List Int) : l.length ≤ (txt l).length ∧ (txt l).length ≤ 4 * l.length := by
  induction l with
  | nil => simp [txt_nil]
  | cons c l ih =>
    have := enc_length c
    rw [txt_cons]
    simp only [List.length_append, List.length_cons]
    omega
theorem enc_byte {c x : Int} (h : isC c) (hx : x ∈ enc c) : 0 ≤ x ∧ x < 256 := by
  unfold isC at h
  unfold enc at hx
  repeat' split at hx
  all_goals simp only [List.mem_cons, List.not_mem_nil, or_false] at hx
  all_goals omega
theorem txt_byte {l : List Int} (h : okL l) : ∀ x ∈ txt l, 0 ≤ x ∧ x < 256 := by
  intro x hx
  obtain ⟨c, hc, hx⟩ := List.mem_flatMap.1 hx
  exact enc_byte (h c hc) hx
/-! ### what the walks' functions tell -/
theorem char_eq (a : Int) (h : 0 ≤ a) : utf_Char.f a = some (decide (isC a)) := by
  unfold utf_Char.f
  split
  · split
    · rw [decide_eq_true (by unfold isC; omega)]
    · congr 1; rw [decide_eq_decide]; unfold isC; omega
  · rw [decide_eq_false (by unfold isC; omega)]
theorem encP_eq (c : Int) (h : isC c) : encP c = enc c := by
  unfold isC at h
  unfold encP enc
  by_cases h1 : c ≤ 127
  · rw [if_pos h1, if_pos (by omega)]; simp only [head, conts]; rw [show c % 256 = c by omega]
  by_cases h2 : c ≤ 2047
  · rw [if_neg h1, if_pos h2, if_neg (by omega), if_pos (by omega)]; simp [head, conts]
  by_cases h3 : c ≤ 65535
  · rw [if_neg h1, if_neg h2, if_pos h3, if_neg (by omega), if_neg (by omega), if_pos (by omega)]; simp [head, conts]
  · rw [if_neg h1, if_neg h2, if_neg h3, if_neg (by omega), if_neg (by omega), if_neg (by omega)]; simp [head, conts]
theorem text_l0 (x0 : List Int) (hx : ∀ c ∈ x0, 0 ≤ c ∧ c < 4294967296) (hn : x0.length ≤ 1000000) : ∀ (d i : Nat) (acc : List Int), i + d = x0.length → acc.length ≤ 4 * i → ∀ k, d < k →
    utf_Text.l0 k x0 acc (i : Int) = some (if okL (x0.drop i) then (acc ++ txt (x0.drop i), true) else ([], false))
  | 0, i, acc, h, ha, k + 1, hk => by
    rw [List.drop_eq_nil_of_le (by omega), if_pos okL_nil]
    simp only [utf_Text.l0]
    rw [if_neg (by omega)]; simp [txt_nil]
  | d + 1, i, acc, h, ha, k + 1, hk => by
    have hi : i < x0.length := by omega
    have hc := hx _ (List.getElem_mem hi)
    rw [List.drop_eq_getElem_cons hi]
    simp only [utf_Text.l0]
    rw [if_pos (by omega), if_pos (by omega), rd_nat _ _ hi, u64w _ (by omega) (by omega), char_eq _ hc.1]
    simp only [Option.bind_some, decide_eq_true_eq]
    by_cases c : isC x0[i]
    · have c' := c
      unfold isC at c'
      rw [if_pos c, if_pos ⟨c'.1, c'.2.1⟩, if_pos (by omega), w64 _ (by omega) (by omega)]
      have hl := (enc_length x0[i]).2
      rw [encP_eq _ c]
      have := text_l0 x0 hx hn d (i + 1) (acc ++ enc x0[i]) (by omega) (by rw [List.length_append]; omega) k (by omega)
      rw [show ((i : Int) + 1) = ((i + 1 : Nat) : Int) by omega, this]
      simp only [okL_cons, c, true_and, txt_cons, List.append_assoc]
    · rw [if_neg c, if_neg (by rw [okL_cons]; exact fun h => c h.1)]
theorem text_eq (l : List Int) (hx : ∀ c ∈ l, 0 ≤ c ∧ c < 4294967296) (hn : l.length ≤ 1000000) (k : Nat) (hk : l.length < k) : utf_Text.f k l = some (if okL l then (txt l, true) else ([], false)) := by
  have := text_l0 l hx hn l.length 0 [] (by omega) (by simp) k hk
  simpa [utf_Text.f] using this
theorem mono_ge {α : Type} {f : Nat → Option α} (h : ∀ k, LeO (f k) (f (k + 1))) {r : α} {k : Nat} (hk : f k = some r) : ∀ n, f (k + n) = some r
  | 0 => hk
  | n + 1 => h _ _ (mono_ge h hk n)
theorem works40 : lw02_works.f 40 = some true := by decide +kernel
theorem works_eq (k : Nat) (h : 40 ≤ k) : lw02_works.f k = some true := by
  obtain ⟨n, rfl⟩ := Nat.exists_eq_add_of_le h
  exact mono_ge (fun q => lw02_works.mono q) works40 n
theorem same_l0 (a b : List Int) (h : a.length = b.length) (hn : a.length ≤ 1000000) : ∀ (d i : Nat), i + d = a.length → ∀ k, d < k → lw02_same.l0 k a b (i : Int) = some (decide (a.drop i = b.drop i))
  | 0, i, hi, k + 1, hk => by
    simp only [lw02_same.l0]
    rw [if_neg (by omega), List.drop_eq_nil_of_le (by omega), List.drop_eq_nil_of_le (by omega)]; simp
  | d + 1, i, hi, k + 1, hk => by
    have h1 : i < a.length := by omega
    have h2 : i < b.length := by omega
    simp only [lw02_same.l0]
    rw [if_pos (by omega), if_pos (by omega), if_pos (by omega), rd_nat _ _ h1, rd_nat _ _ h2, w64 _ (by omega) (by omega), List.drop_eq_getElem_cons h1, List.drop_eq_getElem_cons h2]
    by_cases c : a[i] = b[i]
    · rw [if_pos c, show ((i : Int) + 1) = ((i + 1 : Nat) : Int) by omega, same_l0 a b h hn d (i + 1) (by omega) k (by omega), c]
      congr 1; rw [decide_eq_decide]; simp only [List.cons.injEq, true_and]
    · rw [if_neg c, decide_eq_false (fun e => c (List.cons.inj e).1)]
theorem same_eq (a b : List Int) (hn : a.length ≤ 1000000) (k : Nat) (hk : a.length < k) : lw02_same.f k a b = some (decide (a = b)) := by
  unfold lw02_same.f
  by_cases h : a.length = b.length
  · rw [if_pos (by omega)]
    have := same_l0 a b h hn a.length 0 (by omega) k hk
    simpa using this
  · rw [if_neg (by omega), decide_eq_false (fun e => h (by rw [e]))]
theorem bytes_inj : ∀ (a b : List Int), (∀ x ∈ a, 0 ≤ x ∧ x < 256) → (∀ x ∈ b, 0 ≤ x ∧ x < 256) → a.map (fun n => UInt8.ofNat n.toNat) = b.map (fun n => UInt8.ofNat n.toNat) → a = b
  | [], [], _, _, _ => rfl
  | [], _ :: _, _, _, h => by simp at h
  | _ :: _, [], _, _, h => by simp at h
  | x :: a, y :: b, ha, hb, h => by
    simp only [List.map_cons, List.cons.injEq] at h
    have h1 := ha x List.mem_cons_self
    have h2 := hb y List.mem_cons_self
    have e : x = y := by
      have := congrArg UInt8.toNat h.1
      simp only [UInt8.toNat_ofNat'] at this
      omega
    rw [e, bytes_inj a b (fun z hz => ha z (List.mem_cons_of_mem _ hz)) (fun z hz => hb z (List.mem_cons_of_mem _ hz)) h.2]
theorem eqb_eq (a b : List Int) (ha : ∀ x ∈ a, 0 ≤ x ∧ x < 256) (hb : ∀ x ∈ b, 0 ≤ x ∧ x < 256) : rf00_EqBytes.f a b = some (decide (a = b)) := by
  unfold rf00_EqBytes.f
  congr 1
  rw [decide_eq_decide]
  constructor
  · intro h
    have e : ∀ l : List Int, (strOfNums l).toList = l.map (fun n => UInt8.ofNat n.toNat) := fun l => by simp [strOfNums, ByteArray.toList_mk]
    rw [e, e] at h
    exact bytes_inj a b ha hb h
  · intro h; rw [h]
theorem rchar_eq (a : Int) (h : 0 ≤ a) : rf02_Char.f a = some (decide (isC a)) := by
  unfold rf02_Char.f
  split
  · rw [decide_eq_true (by unfold isC; omega)]
  · split
    · congr 1; rw [decide_eq_decide]; unfold isC; omega
    · rw [decide_eq_false (by unfold isC; omega)]
theorem one_eq (c : Int) (h : isC c) : rf02_One.f c = some (enc c) := by
  unfold isC at h
  unfold rf02_One.f enc
  have t1 := Int.tdiv_eq_ediv_of_nonneg (b := 64) h.1
  have t2 := Int.tdiv_eq_ediv_of_nonneg (b := 4096) h.1
  have t3 := Int.tdiv_eq_ediv_of_nonneg (b := 262144) h.1
  have t4 := Int.tmod_eq_emod_of_nonneg (b := 64) h.1
  rw [t1, t2, t3, t4]
  by_cases h1 : c < 128
  · rw [if_pos h1, if_pos h1]; congr 2; omega
  by_cases h2 : c < 2048
  · rw [if_neg h1, if_pos h2, if_neg h1, if_pos h2]; congr 2
    · omega
    · congr 1; omega
  by_cases h3 : c < 65536
  · rw [if_neg h1, if_neg h2, if_pos h3, if_neg h1, if_neg h2, if_pos h3]; congr 2
    · omega
    · congr 1
      · omega
      · congr 1; omega
  · rw [if_neg h1, if_neg h2, if_neg h3, if_neg h1, if_neg h2, if_neg h3]; congr 2
    · omega
    · congr 1
      · omega
      · congr 1
        · omega
        · congr 1; omega
theorem rtext_l0 (x0 : List Int) (hx : ∀ c ∈ x0, 0 ≤ c ∧ c < 4294967296) (hn : x0.length ≤ 1000000) : ∀ (d i : Nat) (acc : List Int), i + d = x0.length → acc.length ≤ 4 * i → ∀ k, d < k →
    rf02_Text.l0 k x0 acc (i : Int) = some (if okL (x0.drop i) then (acc ++ txt (x0.drop i), true) else ([], false))
  | 0, i, acc, h, ha, k + 1, hk => by
    rw [List.drop_eq_nil_of_le (by omega), if_pos okL_nil]
    simp only [rf02_Text.l0]
    rw [if_neg (by omega)]; simp [txt_nil]
  | d + 1, i, acc, h, ha, k + 1, hk => by
    have hi : i < x0.length := by omega
    have hc := hx _ (List.getElem_mem hi)
    rw [List.drop_eq_getElem_cons hi]
    simp only [rf02_Text.l0]
    rw [if_pos (by omega), if_pos (by omega), rd_nat _ _ hi, u64w _ (by omega) (by omega), rchar_eq _ hc.1]
    simp only [Option.bind_some, decide_eq_true_eq]
    by_cases c : isC x0[i]
    · have hl := (enc_length x0[i]).2
      rw [if_pos c, one_eq _ c]
      simp only [Option.bind_some]
      rw [if_pos (by omega), w64 _ (by omega) (by omega)]
      have := rtext_l0 x0 hx hn d (i + 1) (acc ++ enc x0[i]) (by omega) (by rw [List.length_append]; omega) k (by omega)
      rw [show ((i : Int) + 1) = ((i + 1 : Nat) : Int) by omega, this]
      simp only [okL_cons, c, true_and, txt_cons, List.append_assoc]
    · rw [if_neg c, if_neg (by rw [okL_cons]; exact fun h => c h.1)]
theorem rtext_eq (l : List Int) (hx : ∀ c ∈ l, 0 ≤ c ∧ c < 4294967296) (hn : l.length ≤ 1000000) (k : Nat) (hk : l.length < k) : rf02_Text.f k l = some (if okL l then (txt l, true) else ([], false)) := by
  have := rtext_l0 l hx hn l.length 0 [] (by omega) (by simp) k hk
  simpa [rf02_Text.f] using this
theorem UtfTexts : lw02_UtfTexts.Pure := by
  intro l n h1 _ hw hn
  have hx : ∀ c ∈ l, 0 ≤ c ∧ c < 4294967296 := fun c hc => wf32 (hw c hc)
  have hn' := wf64 hn
  refine ⟨l.length + 50, ?_⟩
  unfold lw02_UtfTexts.f
  rw [works_eq _ (by omega)]
  by_cases c : (l.length : Int) > 8192
  · rw [if_pos c]; rfl
  rw [if_neg c, if_pos (by simp; omega)]
  simp only [Option.bind_some, List.nil_append]
  rw [text_eq l hx (by omega) _ (by omega), rtext_eq l hx (by omega) _ (by omega), same_eq _ _ (by omega) _ (by omega), char_eq _ hn'.1, rchar_eq _ hn'.1]
  simp only [Option.bind_some, beq_self_eq_true, if_true]
  by_cases o : okL l
  · rw [if_pos o, eqb_eq _ _ (txt_byte o) (txt_byte o)]; simp
  · rw [if_neg o, eqb_eq _ _ (fun _ h => by cases h) (fun _ h => by cases h)]; simp

end Go.Proofs.YtbbgmokpniigfaaDoor.Pure
