/- The plain law of UtfChars: Chars, Right and Ascii tell the characters of any bytes, or that they are no text, as the reference does; for all inputs of at most 16384 bytes, and else that the anchor holds. No condition of our own. -/
import Derived.Test.YtbbgmokpniigfaaDoorPUtfCharsx4
namespace Go.Proofs.YtbbgmokpniigfaaDoor.Pure
set_option linter.unusedVariables false
set_option linter.unusedSimpArgs false
open Go.RowKit Go.Proofs.YtbbgmokpniigfaaDoor.PUtfChars Go.Proofs.YtbbgmokpniigfaaDoorW.PrintWords Go.Proofs.YtbbgmokpniigfaaDoorW.PrintLast Go.Proofs.YtbbgmokpniigfaaDoorW.PrintMore

theorem wf32 {a : Int} (h : (Lit.int .u32 a).wf = true) : 0 ≤ a ∧ a < 4294967296 := by
  simp [Lit.wf, IntKind.min, IntKind.max, IntKind.bits, IntKind.signed] at h
  omega
theorem wf8 {a : Int} (h : (Lit.int .u8 a).wf = true) : 0 ≤ a ∧ a < 256 := by
  simp [Lit.wf, IntKind.min, IntKind.max, IntKind.bits, IntKind.signed] at h
  omega
theorem wf16 {a : Int} (h : (Lit.int .u16 a).wf = true) : 0 ≤ a ∧ a < 65536 := by
  simp [Lit.wf, IntKind.min, IntKind.max, IntKind.bits, IntKind.signed] at h
  omega
theorem wf64 {a : Int} (h : (Lit.int .u64 a).wf = true) : 0 ≤ a ∧ a < 18446744073709551616 := by
  simp [Lit.wf, IntKind.min, IntKind.max, IntKind.bits, IntKind.signed] at h
  omega
theorem w64 (n : Int) (h0 : 0 ≤ n) (h1 : n < 9223372036854775808) : wrap64 n = n := by unfold wrap64; omega
theorem u64w (n : Int) (h0 : 0 ≤ n) (h1 : n < 18446744073709551616) : IntKind.u64.wrap n = n := by
  simp [IntKind.wrap, IntKind.bits, IntKind.signed]
  omega
theorem rd_zero (x : Int) (l : List Int) : rd (x :: l) 0 = x := rfl
theorem rd_nat (l : List Int) (i : Nat) (h : i < l.length) : rd l (i : Int) = l[i] := by simp [rd, h]
/-- A character's number. -/
def isC (c : Int) : Prop := 0 ≤ c ∧ c ≤ 1114111 ∧ (c < 55296 ∨ 57343 < c)
instance (c : Int) : Decidable (isC c) := inferInstanceAs (Decidable (_ ∧ _ ∧ (_ ∨ _)))
/-- The bytes of a character. -/
def enc (c : Int) : List Int :=
  if c < 128 then [c] else if c < 2048 then [192 + c / 64, 128 + c % 64] else if c < 65536 then [224 + c / 4096, 128 + c / 64 % 64, 128 + c % 64] else [240 + c / 262144, 128 + c / 4096 % 64, 128 + c / 64 % 64, 128 + c % 64]
def txt (l : List Int) : List Int := l.flatMap enc
def okL (l : List Int) : Prop := ∀ c ∈ l, isC c
instance (l : List Int) : Decidable (okL l) := inferInstanceAs (Decidable (∀ c ∈ l, isC c))
theorem txt_nil : txt [] = [] := rfl
theorem txt_cons (c : Int) (l : List Int) : txt (c :: l) = enc c ++ txt l := by simp [txt]
theorem txt_append (a b : List Int) : txt (a ++ b) = txt a ++ txt b := by simp [txt]
theorem okL_nil : okL [] := fun _ h => by cases h
theorem okL_cons (c : Int) (l : List Int) : okL (c :: l) ↔ isC c ∧ okL l := by simp [okL]
theorem okL_append (a b : List Int) : okL (a ++ b) ↔ okL a ∧ okL b := by
  unfold okL
  constructor
  · intro h; exact ⟨fun c hc => h c (List.mem_append_left _ hc), fun c hc => h c (List.mem_append_right _ hc)⟩
  · rintro ⟨h1, h2⟩ c hc
    rcases List.mem_append.1 hc with h | h
    · exact h1 c h
    · exact h2 c h
theorem enc_length (c : Int) : 1 ≤ (enc c).length ∧ (enc c).length ≤ 4 := by
  unfold enc
  repeat' split
  all_goals simp
theorem enc_inj {c d : Int} {r s : List Int} (hc : isC c) (hd : isC d) (h : enc c ++ r = enc d ++ s) : c = d ∧ r = s := by
  unfold isC at hc hd
  unfold enc at h
  repeat' split at h
  all_goals simp only [List.cons_append, List.nil_append, List.cons.injEq] at h
  all_goals first
    | (exfalso; omega)
    | (obtain ⟨h1, h2⟩ := h; exact ⟨by omega, h2⟩)
    | (obtain ⟨h1, h2, h3⟩ := h; exact ⟨by omega, h3⟩)
    | (obtain ⟨h1, h2, h3, h4⟩ := h; exact ⟨by omega, h4⟩)
    | (obtain ⟨h1, h2, h3, h4, h5⟩ := h; exact ⟨by omega, h5⟩)
theorem txt_cancel : ∀ {l n r : List Int}, okL l → okL n → txt l ++ r = txt n → ∃ m, n = l ++ m ∧ r = txt m
  | [], n, r, _, _, h => ⟨n, rfl, by simpa [txt_nil] using h⟩
  | c :: l, [], r, hl, _, h => by
    have := enc_length c
    have h2 := congrArg List.length h
    simp only [txt_cons, txt_nil, List.length_append, List.length_nil] at h2
    omega
  | c :: l, d :: n, r, hl, hn, h => by
    rw [okL_cons] at hl hn
    rw [txt_cons, txt_cons, List.append_assoc] at h
    obtain ⟨rfl, h2⟩ := enc_inj hl.1 hn.1 h
    obtain ⟨m, rfl, hr⟩ := txt_cancel hl.2 hn.2 h2
    exact ⟨m, rfl, hr⟩
theorem txt_eq_nil {l : List Int} (h : txt l = []) : l = [] := by
  cases l with
  | nil => rfl
  | cons c l =>
    have := enc_length c
    have h2 := congrArg List.length h
    simp only [txt_cons, List.length_append, List.length_nil] at h2
    omega
theorem txt_inj {l m : List Int} (hl : okL l) (hm : okL m) (h : txt l = txt m) : l = m := by
  obtain ⟨q, rfl, hq⟩ := txt_cancel hl hm (show txt l ++ [] = txt m by simpa using h)
  rw [txt_eq_nil hq.symm]; simp
theorem txt_length (l : List Int) : l.length ≤ (txt l).length ∧ (txt l).length ≤ 4 * l.length := by
  induction l with
  | nil => simp [txt_nil]
  | cons c l ih =>
    have := enc_length c
    rw [txt_cons]
    simp only [List.length_append, List.length_cons]
    omega
theorem enc_byte {c x : Int} (h : isC c) (hx : x ∈ enc c) : 0 ≤ x ∧ x < 256 := by
  unfold isC at h
  unfold enc at hx
  repeat' split at hx
  all_goals simp only [List.mem_cons, List.not_mem_nil, or_false] at hx
  all_goals omega
theorem txt_byte {l : List Int} (h : okL l) : ∀ x ∈ txt l, 0 ≤ x ∧ x < 256 := by
  intro x hx
  obtain ⟨c, hc, hx⟩ := List.mem_flatMap.1 hx
  exact enc_byte (h c hc) hx
/-! ### what the walks' functions tell -/
theorem char_eq (a : Int) (h : 0 ≤ a) : utf_Char.f a = some (decide (isC a)) := by
  unfold utf_Char.f
  split
  · split
    · rw [decide_eq_true (by unfold isC; omega)]
    · congr 1; rw [decide_eq_decide]; unfold isC; omega
  · rw [decide_eq_false (by unfold isC; omega)]
theorem encP_eq (c : Int) (h : isC c) : encP c = enc c := by
  unfold isC at h
  unfold encP enc
  by_cases h1 : c ≤ 127
  · rw [if_pos h1, if_pos (by omega)]; simp only [head, conts]; rw [show c % 256 = c by omega]
  by_cases h2 : c ≤ 2047
  · rw [if_neg h1, if_pos h2, if_neg (by omega), if_pos (by omega)]; simp [head, conts]
  by_cases h3 : c ≤ 65535
  · rw [if_neg h1, if_neg h2, if_pos h3, if_neg (by omega), if_neg (by omega), if_pos (by omega)]; simp [head, conts]
  · rw [if_neg h1, if_neg h2, if_neg h3, if_neg (by omega), if_neg (by omega), if_neg (by omega)]; simp [head, conts]
theorem text_l0 (x0 : List Int) (hx : ∀ c ∈ x0, 0 ≤ c ∧ c < 4294967296) (hn : x0.length ≤ 1000000) : ∀ (d i : Nat) (acc : List Int), i + d = x0.length → acc.length ≤ 4 * i → ∀ k, d < k →
    utf_Text.l0 k x0 acc (i : Int) = some (if okL (x0.drop i) then (acc ++ txt (x0.drop i), true) else ([], false))
  | 0, i, acc, h, ha, k + 1, hk => by
    rw [List.drop_eq_nil_of_le (by omega), if_pos okL_nil]
    simp only [utf_Text.l0]
    rw [if_neg (by omega)]; simp [txt_nil]
  | d + 1, i, acc, h, ha, k + 1, hk => by
    have hi : i < x0.length := by omega
    have hc := hx _ (List.getElem_mem hi)
    rw [List.drop_eq_getElem_cons hi]
    simp only [utf_Text.l0]
    rw [if_pos (by omega), if_pos (by omega), rd_nat _ _ hi, u64w _ (by omega) (by omega), char_eq _ hc.1]
    simp only [Option.bind_some, decide_eq_true_eq]
    by_cases c : isC x0[i]
    · have c' := c
      unfold isC at c'
      rw [if_pos c, if_pos ⟨c'.1, c'.2.1⟩, if_pos (by omega), w64 _ (by omega) (by omega)]
      have hl := (enc_length x0[i]).2
      rw [encP_eq _ c]
      have := text_l0 x0 hx hn d (i + 1) (acc ++ enc x0[i]) (by omega) (by rw [List.length_append]; omega) k (by omega)
      rw [show ((i : Int) + 1) = ((i + 1 : Nat) : Int) by omega, this]
      simp only [okL_cons, c, true_and, txt_cons, List.append_assoc]
    · rw [if_neg c, if_neg (by rw [okL_cons]; exact fun h => c h.1)]
theorem text_eq (l : List Int) (hx : ∀ c ∈ l, 0 ≤ c ∧ c < 4294967296) (hn : l.length ≤ 1000000) (k : Nat) (hk : l.length < k) : utf_Text.f k l = some (if okL l then (txt l, true) else ([], false)) := by
  have := text_l0 l hx hn l.length 0 [] (by omega) (by simp) k hk
  simpa [utf_Text.f] using this
theorem mono_ge {α : Type} {f : Nat → Option α} (h : ∀ k, LeO (f k) (f (k + 1))) {r : α} {k : Nat} (hk : f k = some r) : ∀ n, f (k + n) = some r
  | 0 => hk
  | n + 1 => h _ _ (mono_ge h hk n)
theorem works40 : lw02_works.f 40 = some true := by decide +kernel
theorem works_eq (k : Nat) (h : 40 ≤ k) : lw02_works.f k = some true := by
  obtain ⟨n, rfl⟩ := Nat.exists_eq_add_of_le h
  exact mono_ge (fun q => lw02_works.mono q) works40 n
theorem same_l0 (a b : List Int) (h : a.length = b.length) (hn : a.length ≤ 1000000) : ∀ (d i : Nat), i + d = a.length → ∀ k, d < k → lw02_same.l0 k a b (i : Int) = some (decide (a.drop i = b.drop i))
  | 0, i, hi, k + 1, hk => by
    simp only [lw02_same.l0]
    rw [if_neg (by omega), List.drop_eq_nil_of_le (by omega), List.drop_eq_nil_of_le (by omega)]; simp
  | d + 1, i, hi, k + 1, hk => by
    have h1 : i < a.length := by omega
    have h2 : i < b.length := by omega
    simp only [lw02_same.l0]
    rw [if_pos (by omega), if_pos (by omega), if_pos (by omega), rd_nat _ _ h1, rd_nat _ _ h2, w64 _ (by omega) (by omega), List.drop_eq_getElem_cons h1, List.drop_eq_getElem_cons h2]
    by_cases c : a[i] = b[i]
    · rw [if_pos c, show ((i : Int) + 1) = ((i + 1 : Nat) : Int) by omega, same_l0 a b h hn d (i + 1) (by omega) k (by omega), c]
      congr 1; rw [decide_eq_decide]; simp only [List.cons.injEq, true_and]
    · rw [if_neg c, decide_eq_false (fun e => c (List.cons.inj e).1)]
theorem same_eq (a b : List Int) (hn : a.length ≤ 1000000) (k : Nat) (hk : a.length < k) : lw02_same.f k a b = some (decide (a = b)) := by
  unfold lw02_same.f
  by_cases h : a.length = b.length
  · rw [if_pos (by omega)]
    have := same_l0 a b h hn a.length 0 (by omega) k hk
    simpa using this
  · rw [if_neg (by omega), decide_eq_false (fun e => h (by rw [e]))]
theorem bytes_inj : ∀ (a b : List Int), (∀ x ∈ a, 0 ≤ x ∧ x < 256) → (∀ x ∈ b, 0 ≤ x ∧ x < 256) → a.map (fun n => UInt8.ofNat n.toNat) = b.map (fun n => UInt8.ofNat n.toNat) → a = b
  | [], [], _, _, _ => rfl
  | [], _ :: _, _, _, h => by simp at h
  | _ :: _, [], _, _, h => by simp at h
  | x :: a, y :: b, ha, hb, h => by
    simp only [List.map_cons, List.cons.injEq] at h
    have h1 := ha x List.mem_cons_self
    have h2 := hb y List.mem_cons_self
    have e : x = y := by
      have := congrArg UInt8.toNat h.1
      simp only [UInt8.toNat_ofNat'] at this
      omega
    rw [e, bytes_inj a b (fun z hz => ha z (List.mem_cons_of_mem _ hz)) (fun z hz => hb z (List.mem_cons_of_mem _ hz)) h.2]
theorem eqb_eq (a b : List Int) (ha : ∀ x ∈ a, 0 ≤ x ∧ x < 256) (hb : ∀ x ∈ b, 0 ≤ x ∧ x < 256) : rf00_EqBytes.f a b = some (decide (a = b)) := by
  unfold rf00_EqBytes.f
  congr 1
  rw [decide_eq_decide]
  constructor
  · intro h
    have e : ∀ l : List Int, (strOfNums l).toList = l.map (fun n => UInt8.ofNat n.toNat) := fun l => by simp [strOfNums, ByteArray.toList_mk]
    rw [e, e] at h
    exact bytes_inj a b ha hb h
  · intro h; rw [h]
theorem rchar_eq (a : Int) (h : 0 ≤ a) : rf02_Char.f a = some (decide (isC a)) := by
  unfold rf02_Char.f
  split
  · rw [decide_eq_true (by unfold isC; omega)]
  · split
    · congr 1; rw [decide_eq_decide]; unfold isC; omega
    · rw [decide_eq_false (by unfold isC; omega)]
theorem one_eq (c : Int) (h : isC c) : rf02_One.f c = some (enc c) := by
  unfold isC at h
  unfold rf02_One.f enc
  have t1 := Int.tdiv_eq_ediv_of_nonneg (b := 64) h.1
  have t2 := Int.tdiv_eq_ediv_of_nonneg (b := 4096) h.1
  have t3 := Int.tdiv_eq_ediv_of_nonneg (b := 262144) h.1
  have t4 := Int.tmod_eq_emod_of_nonneg (b := 64) h.1
  rw [t1, t2, t3, t4]
  by_cases h1 : c < 128
  · rw [if_pos h1, if_pos h1]; congr 2; omega
  by_cases h2 : c < 2048
  · rw [if_neg h1, if_pos h2, if_neg h1, if_pos h2]; congr 2
    · omega
    · congr 1; omega
  by_cases h3 : c < 65536
  · rw [if_neg h1, if_neg h2, if_pos h3, if_neg h1, if_neg h2, if_pos h3]; congr 2
    · omega
    · congr 1
      · omega
      · congr 1; omega
  · rw [if_neg h1, if_neg h2, if_neg h3, if_neg h1, if_neg h2, if_neg h3]; congr 2
    · omega
    · congr 1
      · omega
      · congr 1
        · omega
        · congr 1; omega
theorem rtext_l0 (x0 : List Int) (hx : ∀ c ∈ x0, 0 ≤ c ∧ c < 4294967296) (hn : x0.length ≤ 1000000) : ∀ (d i : Nat) (acc : List Int), i + d = x0.length → acc.length ≤ 4 * i → ∀ k, d < k →
    rf02_Text.l0 k x0 acc (i : Int) = some (if okL (x0.drop i) then (acc ++ txt (x0.drop i), true) else ([], false))
  | 0, i, acc, h, ha, k + 1, hk => by
    rw [List.drop_eq_nil_of_le (by omega), if_pos okL_nil]
    simp only [rf02_Text.l0]
    rw [if_neg (by omega)]; simp [txt_nil]
  | d + 1, i, acc, h, ha, k + 1, hk => by
    have hi : i < x0.length := by omega
    have hc := hx _ (List.getElem_mem hi)
    rw [List.drop_eq_getElem_cons hi]
    simp only [rf02_Text.l0]
    rw [if_pos (by omega), if_pos (by omega), rd_nat _ _ hi, u64w _ (by omega) (by omega), rchar_eq _ hc.1]
    simp only [Option.bind_some, decide_eq_true_eq]
    by_cases c : isC x0[i]
    · have hl := (enc_length x0[i]).2
      rw [if_pos c, one_eq _ c]
      simp only [Option.bind_some]
      rw [if_pos (by omega), w64 _ (by omega) (by omega)]
      have := rtext_l0 x0 hx hn d (i + 1) (acc ++ enc x0[i]) (by omega) (by rw [List.length_append]; omega) k (by omega)
      rw [show ((i : Int) + 1) = ((i + 1 : Nat) : Int) by omega, this]
      simp only [okL_cons, c, true_and, txt_cons, List.append_assoc]
    · rw [if_neg c, if_neg (by rw [okL_cons]; exact fun h => c h.1)]
theorem rtext_eq (l : List Int) (hx : ∀ c ∈ l, 0 ≤ c ∧ c < 4294967296) (hn : l.length ≤ 1000000) (k : Nat) (hk : l.length < k) : rf02_Text.f k l = some (if okL l then (txt l, true) else ([], false)) := by
  have := rtext_l0 l hx hn l.length 0 [] (by omega) (by simp) k hk
  simpa [rf02_Text.f] using this
theorem or32 (x y : Int) (h0 : 0 ≤ x) (h1 : x < 4194304) (y0 : 0 ≤ y) (y1 : y < 64) : Go.bits .or .u32 (x * 64 % 4294967296) y = x * 64 + y := by
  rw [show x * 64 % 4294967296 = x * 64 by omega]
  exact bits_join .u32 32 (by decide) (fun n a b => by rw [IntKind.wrap_u32]; omega) 6 (x * 64) y (by omega) (by omega) (by omega) y0 (by omega) (by omega)
theorem first_eq (k : Nat) (a : Int) (h0 : 0 ≤ a) (h1 : a < 256) : utf_first.f (k + 1) a = some (if a < 128 then (a, 0, true) else if a ≥ 248 ∨ a < 192 then (0, 0, false) else if a ≥ 240 then (a % 8, 3, true) else if a ≥ 224 then (a % 16, 2, true) else (a % 32, 1, true)) := by
  unfold utf_first.f
  simp only [utf_first.j0]
  rw [u8_and7 a h0 h1, u8_and15 a h0 h1, u8_and31 a h0 h1]
  rw [show a % 8 % 4294967296 = a % 8 by omega, show a % 16 % 4294967296 = a % 16 by omega, show a % 32 % 4294967296 = a % 32 by omega]
  by_cases c1 : a < 128
  · rw [if_pos c1, if_pos c1, show a % 4294967296 = a by omega]
  rw [if_neg c1, if_neg c1]
  by_cases c2 : a ≥ 248
  · simp only [c2, true_or, if_true]
  by_cases c3 : a < 192
  · simp only [c2, c3, decide_true, or_true, if_true, if_false]
  by_cases c4 : a ≥ 240
  · simp only [c2, c3, c4, decide_false, or_self, if_true, if_false, Bool.false_eq_true]
  by_cases c5 : a ≥ 224
  · simp only [c2, c3, c4, c5, decide_false, or_self, if_true, if_false, Bool.false_eq_true]
  · simp only [c2, c3, c4, c5, decide_false, or_self, if_false, Bool.false_eq_true]
theorem more_eq (c : Int) (h : isC c) : utf_more.f c = some ((enc c).length - 1 : Int) := by
  unfold utf_more.f enc
  unfold isC at h
  repeat' split
  all_goals first | rfl | (exfalso; omega)
theorem charE (c n : Int) (h0 : 0 ≤ c) (h1 : c < 4294967296) : utf_char.e c n = some (if isC c ∧ ((enc c).length : Int) = n + 1 then (c, n + 1) else (0, 0)) := by
  unfold utf_char.e
  rw [u64w c h0 (by omega), char_eq c h0]
  simp only [Option.bind_some, decide_eq_true_eq]
  by_cases h : isC c
  · rw [if_pos h, more_eq c h]
    simp only [Option.bind_some]
    by_cases e : ((enc c).length : Int) = n + 1
    · rw [if_pos (by omega), if_pos ⟨h, e⟩]
    · rw [if_neg (by omega), if_neg (fun z => e z.2)]
  · rw [if_neg h, if_neg (fun z => h z.1)]
/-- What char tells: the first character's bytes, read off by its head. -/
def charS : List Int → Int × Int
  | [] => (0, 0)
  | x :: r =>
    if x < 128 then (x, 1) else if x ≥ 248 ∨ x < 192 then (0, 0) else if x ≥ 240 then
      (match r with
      | y :: z :: t :: _ => if y / 64 = 2 ∧ z / 64 = 2 ∧ t / 64 = 2 then (let c := ((x % 8 * 64 + y % 64) * 64 + z % 64) * 64 + t % 64; if isC c ∧ ((enc c).length : Int) = 4 then (c, 4) else (0, 0)) else (0, 0)
      | _ => (0, 0))
    else if x ≥ 224 then
      (match r with
      | y :: z :: _ => if y / 64 = 2 ∧ z / 64 = 2 then (let c := (x % 16 * 64 + y % 64) * 64 + z % 64; if isC c ∧ ((enc c).length : Int) = 3 then (c, 3) else (0, 0)) else (0, 0)
      | _ => (0, 0))
    else
      (match r with
      | y :: _ => if y / 64 = 2 then (let c := x % 32 * 64 + y % 64; if isC c ∧ ((enc c).length : Int) = 2 then (c, 2) else (0, 0)) else (0, 0)
      | _ => (0, 0))
theorem rd1 (x y : Int) (l : List Int) : rd (x :: y :: l) 1 = y := rfl
theorem rd2 (x y z : Int) (l : List Int) : rd (x :: y :: z :: l) 2 = z := rfl
theorem rd3 (x y z t : Int) (l : List Int) : rd (x :: y :: z :: t :: l) 3 = t := rfl
theorem wr2 : wrap64 (1 + 1) = 2 := by unfold wrap64; omega
theorem wr3 : wrap64 (2 + 1) = 3 := by unfold wrap64; omega
theorem wr4 : wrap64 (3 + 1) = 4 := by unfold wrap64; omega
theorem l0_step (k : Nat) (l : List Int) (n i c : Int) : utf_char.l0 (k + 1) l n i c = if i ≤ n then (if 0 ≤ i then (if i < (l.length : Int) then (if rd l i / 64 = 2 then utf_char.l0 k l n (wrap64 (i + 1)) (Go.bits .or .u32 ((c * 64) % 4294967296) (rd l i % 64)) else some (0, 0)) else none) else none) else utf_char.e c n := rfl
theorem char_spec (k : Nat) (x : Int) (r : List Int) (hx : 0 ≤ x ∧ x < 256) (hr : ∀ y ∈ r, 0 ≤ y ∧ y < 256) : utf_char.f (k + 6) (x :: r) = some (charS (x :: r)) := by
  unfold utf_char.f
  rw [if_pos (by simp only [List.length_cons]; omega), rd_zero, first_eq _ x hx.1 hx.2]
  simp only [Option.bind_some]
  by_cases c1 : x < 128
  · have h : isC x := by unfold isC; omega
    have e : (enc x).length = 1 := by unfold enc; rw [if_pos c1]; rfl
    simp only [c1, if_true, charS]
    rw [if_neg (by simp only [List.length_cons]; omega)]
    rw [l0_step, if_neg (by decide), charE _ _ hx.1 (by omega), if_pos ⟨h, by rw [e]; rfl⟩]; rfl
  by_cases c2 : x ≥ 248 ∨ x < 192
  · simp only [c1, c2, if_true, if_false, charS, Bool.false_eq_true]
  by_cases c3 : x ≥ 240
  · simp only [c1, c2, c3, if_true, if_false, charS]
    match r, hr with
    | [], _ => rw [if_pos (by simp)]
    | [y], _ => rw [if_pos (by simp)]
    | [y, z], _ => rw [if_pos (by simp)]
    | y :: z :: t :: q, hr =>
      have hy := hr y (by simp)
      have hz := hr z (by simp)
      have ht := hr t (by simp)
      rw [if_neg (by simp only [List.length_cons]; omega)]
      rw [l0_step, if_pos (by decide), if_pos (by decide), if_pos (by simp only [List.length_cons]; omega), rd1]
      by_cases d1 : y / 64 = 2
      · rw [if_pos d1, wr2, or32 _ _ (by omega) (by omega) (by omega) (by omega), l0_step, if_pos (by decide), if_pos (by decide), if_pos (by simp only [List.length_cons]; omega), rd2]
        by_cases d2 : z / 64 = 2
        · rw [if_pos d2, wr3, or32 _ _ (by omega) (by omega) (by omega) (by omega), l0_step, if_pos (by decide), if_pos (by decide), if_pos (by simp only [List.length_cons]; omega), rd3]
          by_cases d3 : t / 64 = 2
          · rw [if_pos d3, wr4, or32 _ _ (by omega) (by omega) (by omega) (by omega), l0_step, if_neg (by decide), charE _ _ (by omega) (by omega)]
            simp only [d1, d2, d3, and_self, if_true]; rfl
          · rw [if_neg d3]; simp only [d3, false_and, and_false, if_false]
        · rw [if_neg d2]; simp only [d2, false_and, and_false, if_false]
      · rw [if_neg d1]; simp only [d1, false_and, and_false, if_false]
  by_cases c4 : x ≥ 224
  · simp only [c1, c2, c3, c4, if_true, if_false, charS]
    match r, hr with
    | [], _ => rw [if_pos (by simp)]
    | [y], _ => rw [if_pos (by simp)]
    | y :: z :: q, hr =>
      have hy := hr y (by simp)
      have hz := hr z (by simp)
      rw [if_neg (by simp only [List.length_cons]; omega)]
      rw [l0_step, if_pos (by decide), if_pos (by decide), if_pos (by simp only [List.length_cons]; omega), rd1]
      by_cases d1 : y / 64 = 2
      · rw [if_pos d1, wr2, or32 _ _ (by omega) (by omega) (by omega) (by omega), l0_step, if_pos (by decide), if_pos (by decide), if_pos (by simp only [List.length_cons]; omega), rd2]
        by_cases d2 : z / 64 = 2
        · rw [if_pos d2, wr3, or32 _ _ (by omega) (by omega) (by omega) (by omega), l0_step, if_neg (by decide), charE _ _ (by omega) (by omega)]
          simp only [d1, d2, and_self, if_true]; rfl
        · rw [if_neg d2]; simp only [d2, false_and, and_false, if_false]
      · rw [if_neg d1]; simp only [d1, false_and, and_false, if_false]
  · simp only [c1, c2, c3, c4, if_true, if_false, charS]
    match r, hr with
    | [], _ => rw [if_pos (by simp)]
    | y :: q, hr =>
      have hy := hr y (by simp)
      rw [if_neg (by simp only [List.length_cons]; omega)]
      rw [l0_step, if_pos (by decide), if_pos (by decide), if_pos (by simp only [List.length_cons]; omega), rd1]
      by_cases d1 : y / 64 = 2
      · rw [if_pos d1, wr2, or32 _ _ (by omega) (by omega) (by omega) (by omega), l0_step, if_neg (by decide), charE _ _ (by omega) (by omega)]
        simp only [d1, if_true]; rfl
      · rw [if_neg d1]; simp only [d1, if_false]
theorem enc_len (c : Int) : (enc c).length = if c < 128 then 1 else if c < 2048 then 2 else if c < 65536 then 3 else 4 := by
  unfold enc
  repeat' split
  all_goals rfl
/-- Of a character's bytes charS tells the character. -/
theorem charS_enc (c : Int) (r : List Int) (h : isC c) : charS (enc c ++ r) = (c, ((enc c).length : Int)) := by
  have hh := h
  unfold isC at hh
  rw [enc_len]
  unfold enc
  by_cases h1 : c < 128
  · simp only [h1, if_true, List.cons_append, List.nil_append, charS]; rfl
  by_cases h2 : c < 2048
  · simp only [h1, h2, if_true, if_false, List.cons_append, List.nil_append, charS]
    have e : (192 + c / 64) % 32 * 64 + (128 + c % 64) % 64 = c := by omega
    rw [if_neg (by omega), if_neg (by omega), if_neg (by omega), if_neg (by omega), if_pos (by omega)]
    simp only [e]
    rw [if_pos ⟨h, by rw [enc_len, if_neg h1, if_pos h2]; rfl⟩]; rfl
  by_cases h3 : c < 65536
  · simp only [h1, h2, h3, if_true, if_false, List.cons_append, List.nil_append, charS]
    have e : ((224 + c / 4096) % 16 * 64 + (128 + c / 64 % 64) % 64) * 64 + (128 + c % 64) % 64 = c := by omega
    rw [if_neg (by omega), if_neg (by omega), if_neg (by omega), if_pos (by omega), if_pos (by omega)]
    simp only [e]
    rw [if_pos ⟨h, by rw [enc_len, if_neg h1, if_neg h2, if_pos h3]; rfl⟩]; rfl
  · simp only [h1, h2, h3, if_false, List.cons_append, List.nil_append, charS]
    have e : (((240 + c / 262144) % 8 * 64 + (128 + c / 4096 % 64) % 64) * 64 + (128 + c / 64 % 64) % 64) * 64 + (128 + c % 64) % 64 = c := by omega
    rw [if_neg (by omega), if_neg (by omega), if_pos (by omega), if_pos (by omega)]
    simp only [e]
    rw [if_pos ⟨h, by rw [enc_len, if_neg h1, if_neg h2, if_neg h3]; rfl⟩]; rfl
/-- What charS tells is a character with its bytes, or nothing. -/
theorem charS_spec (x : Int) (r : List Int) (hx : 0 ≤ x ∧ x < 256) (hr : ∀ y ∈ r, 0 ≤ y ∧ y < 256) :
    charS (x :: r) = (0, 0) ∨ ∃ c q, isC c ∧ x :: r = enc c ++ q ∧ charS (x :: r) = (c, ((enc c).length : Int)) := by
  have go : ∀ c q, isC c → x :: r = enc c ++ q → ∃ c q, isC c ∧ x :: r = enc c ++ q ∧ charS (x :: r) = (c, ((enc c).length : Int)) := by
    intro c q hc he
    exact ⟨c, q, hc, he, by rw [he]; exact charS_enc c q hc⟩
  by_cases c1 : x < 128
  · right
    exact go x r (by unfold isC; omega) (by unfold enc; rw [if_pos c1]; rfl)
  by_cases c2 : x ≥ 248 ∨ x < 192
  · left; simp only [c1, c2, if_true, if_false, charS]
  by_cases c3 : x ≥ 240
  · match r, hr with
    | [], _ => left; simp only [c1, c2, c3, if_true, if_false, charS]
    | [y], _ => left; simp only [c1, c2, c3, if_true, if_false, charS]
    | [y, z], _ => left; simp only [c1, c2, c3, if_true, if_false, charS]
    | y :: z :: t :: q, hr =>
      have hy := hr y (by simp)
      have hz := hr z (by simp)
      have ht := hr t (by simp)
      by_cases d : y / 64 = 2 ∧ z / 64 = 2 ∧ t / 64 = 2
      · by_cases h : isC (((x % 8 * 64 + y % 64) * 64 + z % 64) * 64 + t % 64) ∧ ((enc (((x % 8 * 64 + y % 64) * 64 + z % 64) * 64 + t % 64)).length : Int) = 4
        · right
          refine go _ q h.1 ?_
          have h2 := h.2
          rw [enc_len] at h2
          have h3 : ¬ (((x % 8 * 64 + y % 64) * 64 + z % 64) * 64 + t % 64 < 65536) := by
            intro h4
            split at h2
            · simp at h2
            · split at h2
              · simp at h2
              · simp [h4] at h2
          unfold enc
          rw [if_neg (by omega), if_neg (by omega), if_neg h3]
          simp only [List.cons_append, List.nil_append, List.cons.injEq, and_true]
          omega
        · left; simp only [c1, c2, c3, d, h, and_self, if_true, if_false, charS]
      · left; simp only [c1, c2, c3, d, if_true, if_false, charS]
  by_cases c4 : x ≥ 224
  · match r, hr with
    | [], _ => left; simp only [c1, c2, c3, c4, if_true, if_false, charS]
    | [y], _ => left; simp only [c1, c2, c3, c4, if_true, if_false, charS]
    | y :: z :: q, hr =>
      have hy := hr y (by simp)
      have hz := hr z (by simp)
      by_cases d : y / 64 = 2 ∧ z / 64 = 2
      · by_cases h : isC ((x % 16 * 64 + y % 64) * 64 + z % 64) ∧ ((enc ((x % 16 * 64 + y % 64) * 64 + z % 64)).length : Int) = 3
        · right
          refine go _ q h.1 ?_
          have h2 := h.2
          rw [enc_len] at h2
          have h3 : ¬ ((x % 16 * 64 + y % 64) * 64 + z % 64 < 2048) := by
            intro h4
            split at h2
            · simp at h2
            · simp [h4] at h2
          unfold enc
          rw [if_neg (by omega), if_neg h3, if_pos (by omega)]
          simp only [List.cons_append, List.nil_append, List.cons.injEq, and_true]
          omega
        · left; simp only [c1, c2, c3, c4, d, h, and_self, if_true, if_false, charS]
      · left; simp only [c1, c2, c3, c4, d, if_true, if_false, charS]
  · match r, hr with
    | [], _ => left; simp only [c1, c2, c3, c4, if_true, if_false, charS]
    | y :: q, hr =>
      have hy := hr y (by simp)
      by_cases d : y / 64 = 2
      · by_cases h : isC (x % 32 * 64 + y % 64) ∧ ((enc (x % 32 * 64 + y % 64)).length : Int) = 2
        · right
          refine go _ q h.1 ?_
          have h2 := h.2
          rw [enc_len] at h2
          have h3 : ¬ (x % 32 * 64 + y % 64 < 128) := by
            intro h4
            simp [h4] at h2
          unfold enc
          rw [if_neg h3, if_pos (by omega)]
          simp only [List.cons_append, List.nil_append, List.cons.injEq, and_true]
          omega
        · left; simp only [c1, c2, c3, c4, d, h, if_true, if_false, charS]
      · left; simp only [c1, c2, c3, c4, d, if_true, if_false, charS]
/-- The characters of a text. -/
theorem chars_ok : ∀ (cs acc : List Int) (k : Nat), okL cs → acc.length + cs.length ≤ 1000000 → cs.length + 6 < k → utf_Chars.l0 k (txt cs) acc = some (acc ++ cs, true)
  | [], acc, k + 1, _, _, _ => by
    show utf_Chars.l0 (k + 1) [] acc = _
    simp [utf_Chars.l0]
  | c :: cs, acc, k + 1, h, hn, hk => by
    rw [okL_cons] at h
    have hl := enc_length c
    simp only [List.length_cons] at hn hk
    rw [txt_cons]
    simp only [utf_Chars.l0]
    rw [if_pos (by rw [List.length_append]; omega)]
    obtain ⟨k', rfl⟩ : ∃ k', k = k' + 6 := ⟨k - 6, by omega⟩
    have hb := txt_byte (show okL (c :: cs) by rw [okL_cons]; exact h)
    rw [txt_cons] at hb
    have e : utf_char.f (k' + 6) (enc c ++ txt cs) = some (c, ((enc c).length : Int)) := by
      rw [← charS_enc c (txt cs) h.1]
      cases hc : enc c with
      | nil => rw [hc] at hl; simp at hl
      | cons x r =>
        rw [hc] at hb
        exact char_spec k' x (r ++ txt cs) (hb x (by simp)) (fun y hy => hb y (List.mem_cons_of_mem _ hy))
    rw [e]
    simp only [Option.bind_some]
    rw [if_neg (by omega), if_pos (by omega), if_pos (by omega), if_pos (by rw [List.length_append]; omega), Int.toNat_natCast, List.drop_left, chars_ok cs (acc ++ [c]) (k' + 6) h.2 (by simp only [List.length_append, List.length_cons, List.length_nil]; omega) (by omega)]
    simp
/-- Bytes that are no text. -/
theorem chars_bad : ∀ (n : Nat) (l acc : List Int) (k : Nat), l.length ≤ n → (∀ x ∈ l, 0 ≤ x ∧ x < 256) → (∀ cs, okL cs → l ≠ txt cs) → acc.length + l.length ≤ 1000000 → n + 6 < k → utf_Chars.l0 k l acc = some ([], false)
  | _, [], _, _, _, _, hb, _, _ => absurd txt_nil.symm (hb [] okL_nil)
  | 0, _ :: _, _, _, h, _, _, _, _ => by simp at h
  | n + 1, x :: r, acc, k + 1, h, hb, hbad, hn, hk => by
    simp only [List.length_cons] at h hn
    simp only [utf_Chars.l0]
    rw [if_pos (by simp only [List.length_cons]; omega)]
    obtain ⟨k', rfl⟩ : ∃ k', k = k' + 6 := ⟨k - 6, by omega⟩
    have hx := hb x (by simp)
    have hr : ∀ y ∈ r, 0 ≤ y ∧ y < 256 := fun y hy => hb y (List.mem_cons_of_mem _ hy)
    rw [char_spec k' x r hx hr]
    rcases charS_spec x r hx hr with e | ⟨c, q, hc, he, e⟩
    · rw [e]; rfl
    · rw [e]
      simp only [Option.bind_some]
      have hl := enc_length c
      have hlen := congrArg List.length he
      simp only [List.length_cons, List.length_append] at hlen
      rw [if_neg (by omega), if_pos (by omega), if_pos (by omega), if_pos (by simp only [List.length_cons]; omega), Int.toNat_natCast, he, List.drop_left]
      refine chars_bad n q (acc ++ [c]) (k' + 6) (by omega) ?_ ?_ (by simp only [List.length_append, List.length_cons, List.length_nil]; omega) (by omega)
      · intro y hy; exact hb y (by rw [he]; exact List.mem_append_right _ hy)
      · intro cs hcs hq
        exact hbad (c :: cs) (by rw [okL_cons]; exact ⟨hc, hcs⟩) (by rw [txt_cons, he, hq])
theorem chars_txt (cs : List Int) (h : okL cs) (hn : cs.length ≤ 1000000) (k : Nat) (hk : cs.length + 6 < k) : utf_Chars.f k (txt cs) = some (cs, true) := by
  have := chars_ok cs [] k h (by simpa using hn) hk
  simpa [utf_Chars.f] using this
theorem chars_no (l : List Int) (hb : ∀ x ∈ l, 0 ≤ x ∧ x < 256) (h : ∀ cs, okL cs → l ≠ txt cs) (hn : l.length ≤ 1000000) (k : Nat) (hk : l.length + 6 < k) : utf_Chars.f k l = some ([], false) :=
  chars_bad l.length l [] k (Nat.le_refl _) hb h (by simpa using hn) hk
/-- Bytes are a text of characters, or of none. -/
theorem chars_eq (l : List Int) (hb : ∀ x ∈ l, 0 ≤ x ∧ x < 256) (hn : l.length ≤ 1000000) : (∃ cs, okL cs ∧ l = txt cs ∧ cs.length ≤ l.length ∧ ∀ k, l.length + 6 < k → utf_Chars.f k l = some (cs, true)) ∨ ((∀ cs, okL cs → l ≠ txt cs) ∧ ∀ k, l.length + 6 < k → utf_Chars.f k l = some ([], false)) := by
  by_cases h : ∃ cs, okL cs ∧ l = txt cs
  · left
    obtain ⟨cs, h1, rfl⟩ := h
    have hl := txt_length cs
    exact ⟨cs, h1, rfl, hl.1, fun k hk => chars_txt cs h1 (by omega) k (by omega)⟩
  · right
    have h2 : ∀ cs, okL cs → l ≠ txt cs := fun cs h1 e => h ⟨cs, h1, e⟩
    exact ⟨h2, fun k hk => chars_no l hb h2 hn k hk⟩
theorem right_txt (cs : List Int) (h : okL cs) (hn : cs.length ≤ 1000000) (k : Nat) (hk : cs.length + 6 < k) : utf_Right.f k (txt cs) = some true := by
  unfold utf_Right.f; rw [chars_txt cs h hn k hk]; rfl
theorem right_no (l : List Int) (hb : ∀ x ∈ l, 0 ≤ x ∧ x < 256) (h : ∀ cs, okL cs → l ≠ txt cs) (hn : l.length ≤ 1000000) (k : Nat) (hk : l.length + 6 < k) : utf_Right.f k l = some false := by
  unfold utf_Right.f; rw [chars_no l hb h hn k hk]; rfl
/-! ### the reference's own reading: leniently, and then held against the text -/
def lxl : Nat → List Int → Int → Int
  | 0, _, x => x
  | _ + 1, [], x => x
  | d + 1, y :: r, x => lxl d r ((64 * x + y % 64) % 4294967296)
def hn (x : Int) : Nat := if x ≥ 240 then 4 else if x ≥ 224 then 3 else if x ≥ 192 then 2 else 1
def hx (x : Int) : Int := if x ≥ 240 then x % 8 else if x ≥ 224 then x % 16 else if x ≥ 192 then x % 32 else x
theorem lxl_range : ∀ (d : Nat) (r : List Int) (x : Int), 0 ≤ x ∧ x < 4294967296 → 0 ≤ lxl d r x ∧ lxl d r x < 4294967296
  | 0, _, _, h => h
  | _ + 1, [], _, h => h
  | d + 1, y :: r, x, _ => lxl_range d r _ (by omega)
theorem rl1_step (b acc : List Int) (hb : ∀ y ∈ b, 0 ≤ y ∧ y < 256) (hl : b.length ≤ 100000) (ha : acc.length ≤ 100000) (at_ n : Nat) (hat : at_ < b.length) (hn4 : n ≤ 4) : ∀ (d j k : Nat) (x : Int), j + d = n → 1 ≤ j → d + 1 < k →
    ∃ k', k ≤ k' + d + 1 ∧ rf02_Chars.l1 k b acc (at_ : Int) (n : Int) x (j : Int) = rf02_Chars.l0 k' b (acc ++ [lxl d (b.drop (at_ + j)) x]) ((at_ + n : Nat) : Int)
  | 0, j, k + 1, x, hj, h1, hk => by
    refine ⟨k, by omega, ?_⟩
    simp only [rf02_Chars.l1, lxl]
    rw [if_neg (by omega), if_pos (by omega), w64 _ (by omega) (by omega)]; rfl
  | d + 1, j, k + 1, x, hj, h1, hk => by
    simp only [rf02_Chars.l1]
    rw [if_pos (by omega), w64 ((at_ : Int) + (j : Int)) (by omega) (by omega), w64 ((at_ : Int) + (n : Int)) (by omega) (by omega), w64 ((j : Int) + 1) (by omega) (by omega)]
    by_cases c : at_ + j < b.length
    · have hy := hb _ (List.getElem_mem c)
      rw [if_pos (by omega), if_pos (by omega), show ((at_ : Int) + (j : Int)) = ((at_ + j : Nat) : Int) by omega, rd_nat _ _ c, List.drop_eq_getElem_cons c]
      obtain ⟨k', e1, e2⟩ := rl1_step b acc hb hl ha at_ n hat hn4 d (j + 1) k ((64 * x + b[at_ + j] % 64) % 4294967296) (by omega) (by omega) (by omega)
      refine ⟨k', by omega, ?_⟩
      rw [show b[at_ + j] % 4294967296 = b[at_ + j] by omega, show ((j : Int) + 1) = ((j + 1 : Nat) : Int) by omega, e2]
      simp only [lxl]
      rw [show at_ + (j + 1) = at_ + j + 1 by omega]
    · rw [if_neg (by omega), if_pos (by omega), List.drop_eq_nil_of_le (by omega)]
      exact ⟨k, by omega, rfl⟩
theorem rl0_step (b acc : List Int) (hb : ∀ y ∈ b, 0 ≤ y ∧ y < 256) (hl : b.length ≤ 100000) (ha : acc.length ≤ 100000) (i : Nat) (x : Int) (r : List Int) (hd : b.drop i = x :: r) (k : Nat) (hk : 8 < k) :
    ∃ k', k ≤ k' + 8 ∧ rf02_Chars.l0 k b acc (i : Int) = rf02_Chars.l0 k' b (acc ++ [lxl (hn x - 1) r (hx x)]) ((i + hn x : Nat) : Int) := by
  have hi : i < b.length := by
    rcases Nat.lt_or_ge i b.length with h | h
    · exact h
    · rw [List.drop_eq_nil_of_le h] at hd; cases hd
  rw [List.drop_eq_getElem_cons hi] at hd
  obtain ⟨rfl, rfl⟩ := List.cons.inj hd
  have hy := hb _ (List.getElem_mem hi)
  obtain ⟨k, rfl⟩ : ∃ q, k = q + 2 := ⟨k - 2, by omega⟩
  simp only [rf02_Chars.l0, rf02_Chars.j1]
  rw [if_pos (by omega), if_pos (by omega), rd_nat _ _ hi, show b[i] % 4294967296 = b[i] by omega]
  unfold hn hx
  repeat' split
  · obtain ⟨k', e1, e2⟩ := rl1_step b acc hb hl ha i 4 hi (by omega) 3 1 k (b[i] % 8) (by omega) (by omega) (by omega)
    exact ⟨k', by omega, e2⟩
  · obtain ⟨k', e1, e2⟩ := rl1_step b acc hb hl ha i 3 hi (by omega) 2 1 k (b[i] % 16) (by omega) (by omega) (by omega)
    exact ⟨k', by omega, e2⟩
  · obtain ⟨k', e1, e2⟩ := rl1_step b acc hb hl ha i 2 hi (by omega) 1 1 k (b[i] % 32) (by omega) (by omega) (by omega)
    exact ⟨k', by omega, e2⟩
  · obtain ⟨k', e1, e2⟩ := rl1_step b acc hb hl ha i 1 hi (by omega) 0 1 k (b[i]) (by omega) (by omega) (by omega)
    exact ⟨k', by omega, e2⟩
theorem hn_pos (x : Int) : 1 ≤ hn x := by
  unfold hn
  repeat' split
  all_goals omega
theorem hx_range (x : Int) (h : 0 ≤ x ∧ x < 256) : 0 ≤ hx x ∧ hx x < 4294967296 := by
  unfold hx
  repeat' split
  all_goals omega
/-- The end of the reference's reading. -/
theorem rl0_end (b l : List Int) (hb : ∀ y ∈ b, 0 ≤ y ∧ y < 256) (hr : ∀ c ∈ l, 0 ≤ c ∧ c < 4294967296) (hl : l.length ≤ 100000) (i : Nat) (hi : b.length ≤ i) (k : Nat) (hk : l.length + 1 < k) :
    rf02_Chars.l0 k b l (i : Int) = some (if okL l ∧ txt l = b then (l, true) else ([], false)) := by
  obtain ⟨k, rfl⟩ : ∃ q, k = q + 1 := ⟨k - 1, by omega⟩
  simp only [rf02_Chars.l0]
  rw [if_neg (by omega), rtext_eq l hr (by omega) k (by omega)]
  simp only [Option.bind_some]
  by_cases o : okL l
  · rw [if_pos o]
    simp only [if_true]
    rw [eqb_eq _ _ (txt_byte o) hb]
    simp only [Option.bind_some, decide_eq_true_eq, o, true_and]
    split <;> rfl
  · rw [if_neg o, if_neg (show ¬ (okL l ∧ txt l = b) from fun h => o h.1)]; rfl
/-- Whatever the bytes are, the reading comes to an end. -/
theorem rl0_some (b : List Int) (hb : ∀ y ∈ b, 0 ≤ y ∧ y < 256) (hl : b.length ≤ 20000) : ∀ (n i : Nat) (acc : List Int) (k : Nat), b.length ≤ i + n → acc.length ≤ i → acc.length ≤ b.length → (∀ c ∈ acc, 0 ≤ c ∧ c < 4294967296) → 30000 + 9 * n < k →
    ∃ l, rf02_Chars.l0 k b acc (i : Int) = some (if okL l ∧ txt l = b then (l, true) else ([], false))
  | 0, i, acc, k, h, h1, h2, h3, hk => ⟨acc, rl0_end b acc hb h3 (by omega) i (by omega) k (by omega)⟩
  | n + 1, i, acc, k, h, h1, h2, h3, hk => by
    rcases Nat.lt_or_ge i b.length with hi | hi
    · have hd := List.drop_eq_getElem_cons hi
      have hy := hb _ (List.getElem_mem hi)
      obtain ⟨k', e1, e2⟩ := rl0_step b acc hb (by omega) (by omega) i _ _ hd k (by omega)
      have hp := hn_pos b[i]
      rw [e2]
      exact rl0_some b hb hl n (i + hn b[i]) _ k' (by omega) (by simp only [List.length_append, List.length_cons, List.length_nil]; omega) (by simp only [List.length_append, List.length_cons, List.length_nil]; omega)
        (by
          intro c hc
          rcases List.mem_append.1 hc with z | z
          · exact h3 c z
          · rw [List.mem_singleton.1 z]; exact lxl_range _ _ _ (hx_range _ hy)) (by omega)
    · exact ⟨acc, rl0_end b acc hb h3 (by omega) i hi k (by omega)⟩
/-- A character's bytes are read as that character. -/
theorem dec_enc (c x : Int) (r q : List Int) (hc : isC c) (h : enc c ++ q = x :: r) : hn x = (enc c).length ∧ lxl (hn x - 1) r (hx x) = c := by
  unfold isC at hc
  rw [enc_len]
  unfold enc at h
  unfold hn hx
  by_cases h1 : c < 128
  · rw [if_pos h1] at h ⊢
    obtain ⟨rfl, rfl⟩ := List.cons.inj h
    rw [if_neg (by omega), if_neg (by omega), if_neg (by omega), if_neg (by omega), if_neg (by omega), if_neg (by omega)]
    exact ⟨rfl, rfl⟩
  by_cases h2 : c < 2048
  · rw [if_neg h1, if_pos h2] at h ⊢
    obtain ⟨rfl, rfl⟩ := List.cons.inj h
    rw [if_neg (by omega), if_neg (by omega), if_pos (by omega), if_neg (by omega), if_neg (by omega), if_pos (by omega)]
    refine ⟨rfl, ?_⟩
    simp only [Nat.add_one_sub_one, List.append_eq, List.cons_append, List.nil_append, lxl]
    omega
  by_cases h3 : c < 65536
  · rw [if_neg h1, if_neg h2, if_pos h3] at h ⊢
    obtain ⟨rfl, rfl⟩ := List.cons.inj h
    rw [if_neg (by omega), if_pos (by omega), if_neg (by omega), if_pos (by omega)]
    refine ⟨rfl, ?_⟩
    simp only [Nat.add_one_sub_one, List.append_eq, List.cons_append, List.nil_append, lxl]
    omega
  · rw [if_neg h1, if_neg h2, if_neg h3] at h ⊢
    obtain ⟨rfl, rfl⟩ := List.cons.inj h
    rw [if_pos (by omega), if_pos (by omega)]
    refine ⟨rfl, ?_⟩
    simp only [Nat.add_one_sub_one, List.append_eq, List.cons_append, List.nil_append, lxl]
    omega
theorem rl0_txt (b : List Int) (hb : ∀ y ∈ b, 0 ≤ y ∧ y < 256) (hl : b.length ≤ 20000) : ∀ (cs pre : List Int) (i : Nat) (k : Nat), okL (pre ++ cs) → b = txt (pre ++ cs) → i = (txt pre).length → 30000 + 9 * cs.length < k → rf02_Chars.l0 k b pre (i : Int) = some (pre ++ cs, true)
  | [], pre, i, k, ho, he, hi, hk => by
    rw [List.append_nil] at he ho ⊢
    have hp := txt_length pre
    rw [← he] at hp hi
    rw [rl0_end b pre hb (fun c hc => by have := ho c hc; unfold isC at this; omega) (by omega) i (by omega) k (by omega), if_pos ⟨ho, he.symm⟩]
  | c :: cs, pre, i, k, ho, he, hi, hk => by
    have hp := txt_length (pre ++ c :: cs)
    rw [← he, List.length_append, List.length_cons] at hp
    have hd : b.drop i = enc c ++ txt cs := by
      rw [he, txt_append, hi, List.drop_left, txt_cons]
    have hc : isC c := ho c (by simp)
    have hcl := enc_length c
    cases hz : b.drop i with
    | nil =>
      rw [hz] at hd
      have := congrArg List.length hd
      simp only [List.length_nil, List.length_append] at this
      omega
    | cons x r =>
      rw [hz] at hd
      obtain ⟨d1, d2⟩ := dec_enc c x r _ hc hd.symm
      obtain ⟨k', e1, e2⟩ := rl0_step b pre hb (by omega) (by omega) i x r hz k (by omega)
      rw [e2, d2]
      have := rl0_txt b hb hl cs (pre ++ [c]) (i + hn x) k' (by simpa using ho) (by simpa using he) (by rw [d1, hi, txt_append, List.length_append]; simp [txt]) (by simp only [List.length_cons] at hk; omega)
      simpa using this
theorem rchars_txt (cs : List Int) (h : okL cs) (hl : (txt cs).length ≤ 20000) (k : Nat) (hk : 300000 < k) : rf02_Chars.f k (txt cs) = some (cs, true) := by
  have hp := txt_length cs
  exact rl0_txt (txt cs) (txt_byte h) hl cs [] 0 k h rfl rfl (by omega)
theorem rchars_no (b : List Int) (hb : ∀ y ∈ b, 0 ≤ y ∧ y < 256) (hl : b.length ≤ 20000) (h : ∀ cs, okL cs → b ≠ txt cs) (k : Nat) (hk : 300000 < k) : rf02_Chars.f k b = some ([], false) := by
  obtain ⟨l, e⟩ := rl0_some b hb hl b.length 0 [] k (by omega) (by simp) (by simp) (fun _ h => by cases h) (by omega)
  rw [if_neg (fun z => h l z.1 z.2.symm)] at e
  exact e
theorem roomy_l0 (b : List Int) (hl : b.length ≤ 20000) : ∀ (d i : Nat) (x : List Int) (k : Nat), i + d = b.length + 11 → x.length = b.length + 11 → (∀ j, j < i → x[j]? = (b ++ tailR b.length)[j]?) → d < k → rf00_Roomy.l0 k b (b.length : Int) x (i : Int) = some (b ++ tailR b.length)
  | 0, i, x, k + 1, h, hx, he, hk => by
    simp only [rf00_Roomy.l0]
    rw [if_neg (by omega)]
    congr 1
    apply List.ext_getElem?
    intro j
    rcases Nat.lt_or_ge j i with c | c
    · exact he j c
    · rw [List.getElem?_eq_none (by omega), List.getElem?_eq_none (by simp [tailR]; omega)]
  | d + 1, i, x, k + 1, h, hx, he, hk => by
    have step : ∀ v : Int, (b ++ tailR b.length)[i]? = some v → ∀ j, j < i + 1 → (x.set i v)[j]? = (b ++ tailR b.length)[j]? := by
      intro v hv j hj
      by_cases c : j = i
      · subst c; rw [List.getElem?_set_self (by omega), hv]
      · rw [List.getElem?_set_ne (by omega)]; exact he j (by omega)
    simp only [rf00_Roomy.l0]
    rw [if_pos (by omega), if_pos (by omega), Int.toNat_natCast, w64 ((i : Int) + 1) (by omega) (by omega), show ((i : Int) + 1) = ((i + 1 : Nat) : Int) by omega]
    simp only [Option.bind_some]
    by_cases c : i < b.length
    · rw [if_pos (by omega), if_pos (by omega), rd_nat _ _ c, List.set_set]
      exact roomy_l0 b hl d (i + 1) _ k (by omega) (by simp; omega) (step _ (by rw [List.getElem?_append_left c, List.getElem?_eq_getElem c])) (by omega)
    · rw [if_neg (by omega)]
      exact roomy_l0 b hl d (i + 1) _ k (by omega) (by simp; omega) (step _ (by rw [List.getElem?_append_right (by omega), tailR_get _ _ (by omega) (by omega)])) (by omega)
theorem roomy_eq (b : List Int) (hl : b.length ≤ 20000) (k : Nat) (hk : 30000 < k) : rf00_Roomy.f k b = some (b ++ tailR b.length) := by
  unfold rf00_Roomy.f
  rw [w64 _ (by omega) (by omega), if_pos (by omega), if_pos (by omega)]
  exact roomy_l0 b hl (b.length + 11) 0 _ k (by omega) (by simp; omega) (fun j h => by omega) (by omega)
theorem ascii_l0 (l : List Int) (hn : l.length ≤ 1000000) : ∀ (d i : Nat), i + d = l.length → ∀ k, d < k → utf_Ascii.l0 k l (l.length : Int) (i : Int) = some (decide (∀ x ∈ l.drop i, x < 128))
  | 0, i, h, k + 1, hk => by
    rw [List.drop_eq_nil_of_le (by omega)]
    simp only [utf_Ascii.l0]
    rw [if_neg (by omega)]; simp
  | d + 1, i, h, k + 1, hk => by
    have hi : i < l.length := by omega
    simp only [utf_Ascii.l0]
    rw [if_pos (by omega), if_pos (by omega), if_pos (by omega), rd_nat _ _ hi, w64 _ (by omega) (by omega), List.drop_eq_getElem_cons hi]
    by_cases c : l[i] ≥ 128
    · rw [if_pos c, decide_eq_false (fun e => by have := e l[i] List.mem_cons_self; omega)]
    · rw [if_neg c, show ((i : Int) + 1) = ((i + 1 : Nat) : Int) by omega, ascii_l0 l hn d (i + 1) (by omega) k (by omega)]
      congr 1; rw [decide_eq_decide, List.forall_mem_cons]
      exact ⟨fun e => ⟨by omega, e⟩, fun e => e.2⟩
theorem ascii_eq (l : List Int) (hn : l.length ≤ 1000000) (k : Nat) (hk : l.length < k) : utf_Ascii.f k l = some (decide (∀ x ∈ l, x < 128)) := by
  have := ascii_l0 l hn l.length 0 (by omega) k hk
  simpa [utf_Ascii.f] using this
theorem rascii_l0 (l : List Int) (hn : l.length ≤ 1000000) : ∀ (d i : Nat), i + d = l.length → ∀ k, d < k → rf02_Ascii.l0 k l (i : Int) = some (decide (∀ x ∈ l.drop i, x < 128))
  | 0, i, h, k + 1, hk => by
    rw [List.drop_eq_nil_of_le (by omega)]
    simp only [rf02_Ascii.l0]
    rw [if_neg (by omega)]; simp
  | d + 1, i, h, k + 1, hk => by
    have hi : i < l.length := by omega
    simp only [rf02_Ascii.l0]
    rw [if_pos (by omega), if_pos (by omega), rd_nat _ _ hi, w64 _ (by omega) (by omega), List.drop_eq_getElem_cons hi]
    by_cases c : l[i] > 127
    · rw [if_pos c, decide_eq_false (fun e => by have := e l[i] List.mem_cons_self; omega)]
    · rw [if_neg c, show ((i : Int) + 1) = ((i + 1 : Nat) : Int) by omega, rascii_l0 l hn d (i + 1) (by omega) k (by omega)]
      congr 1; rw [decide_eq_decide, List.forall_mem_cons]
      exact ⟨fun e => ⟨by omega, e⟩, fun e => e.2⟩
theorem rascii_eq (l : List Int) (hn : l.length ≤ 1000000) (k : Nat) (hk : l.length < k) : rf02_Ascii.f k l = some (decide (∀ x ∈ l, x < 128)) := by
  have := rascii_l0 l hn l.length 0 (by omega) k hk
  simpa [rf02_Ascii.f] using this
theorem UtfChars : lw02_UtfChars.Pure := by
  intro b _ hw
  have hb : ∀ c ∈ b, 0 ≤ c ∧ c < 256 := fun c hc => wf8 (hw c hc)
  refine ⟨400000, ?_⟩
  unfold lw02_UtfChars.f
  by_cases c : (b.length : Int) > 16384
  · rw [if_pos c]; exact works_eq 400000 (by omega)
  rw [if_neg c, if_pos]
  rcases chars_eq b hb (by omega) with ⟨cs, h1, h2, h3, h4⟩ | ⟨h1, h2⟩
  · refine ⟨cs, true, _, roomy_eq b (by omega) _ (by omega), h4 _ (by omega), ?_, by rw [same_eq _ _ (by omega) _ (by omega), decide_eq_true rfl], ?_, ascii_eq b (by omega) _ (by omega), rascii_eq b (by omega) _ (by omega), works_eq _ (by omega)⟩
    · rw [h2]; exact rchars_txt cs h1 (by rw [← h2]; omega) _ (by omega)
    · rw [h2]; exact right_txt cs h1 (by omega) _ (by omega)
  · exact ⟨[], false, _, roomy_eq b (by omega) _ (by omega), h2 _ (by omega), rchars_no b hb (by omega) h1 _ (by omega), by rw [same_eq _ _ (by simp) _ (by simp), decide_eq_true rfl], right_no b hb h1 (by omega) _ (by omega), ascii_eq b (by omega) _ (by omega), rascii_eq b (by omega) _ (by omega), works_eq _ (by omega)⟩

end Go.Proofs.YtbbgmokpniigfaaDoor.Pure
