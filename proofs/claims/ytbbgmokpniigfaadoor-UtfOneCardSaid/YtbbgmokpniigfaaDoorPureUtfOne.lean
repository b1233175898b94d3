/- The plain law of UtfOne: of up to four bytes just those are a text that characters have, told bit by bit or by Right; for all inputs. No condition of our own. -/
import Derived.Test.YtbbgmokpniigfaaDoorPUtfOneW
namespace Go.Proofs.YtbbgmokpniigfaaDoor.Pure
set_option linter.unusedVariables false
set_option linter.unusedSimpArgs false
open Go.RowKit Go.Proofs.YtbbgmokpniigfaaDoor.PUtfOne Go.Proofs.YtbbgmokpniigfaaDoorW.PrintWords Go.Proofs.YtbbgmokpniigfaaDoorW.PrintLast Go.Proofs.YtbbgmokpniigfaaDoorW.PrintMore

theorem wf32 {a : Int} (h : (Lit.int .u32 a).wf = true) : 0 ≤ a ∧ a < 4294967296 := by
  simp [Lit.wf, IntKind.min, IntKind.max, IntKind.bits, IntKind.signed] at h
  omega
theorem wf8 {a : Int} (h : (Lit.int .u8 a).wf = true) : 0 ≤ a ∧ a < 256 := by
  simp [Lit.wf, IntKind.min, IntKind.max, IntKind.bits, IntKind.signed] at h
  omega
theorem wf16 {a : Int} (h : (Lit.int .u16 a).wf = true) : 0 ≤ a ∧ a < 65536 := by
  simp [Lit.wf, IntKind.min, IntKind.max, IntKind.bits, IntKind.signed] at h
  omega
theorem wf64 {a : Int} (h : (Lit.int .u64 a).wf = true) : 0 ≤ a ∧ a < 18446744073709551616 := by
  simp [Lit.wf, IntKind.min, IntKind.max, IntKind.bits, IntKind.signed] at h
  omega
theorem w64 (n : Int) (h0 : 0 ≤ n) (h1 : n < 9223372036854775808) : wrap64 n = n := by unfold wrap64; omega
theorem u64w (n : Int) (h0 : 0 ≤ n) (h1 : n < 18446744073709551616) : IntKind.u64.wrap n = n := by
  simp [IntKind.wrap, IntKind.bits, IntKind.signed]
  omega
theorem rd_zero (x : Int) (l : List Int) : rd (x :: l) 0 = x := rfl
theorem rd_nat (l : List Int) (i : Nat) (h : i < l.length) : rd l (i : Int) = l[i] := by simp [rd, h]
/-- A character's number. -/
def isC (c : Int) : Prop := 0 ≤ c ∧ c ≤ 1114111 ∧ (c < 55296 ∨ 57343 < c)
instance (c : Int) : Decidable (isC c) := inferInstanceAs (Decidable (_ ∧ _ ∧ (_ ∨ _)))
/-- The bytes of a character. -/
def enc (c : Int) : List Int :=
  if c < 128 then [c] else if c < 2048 then [192 + c / 64, 128 + c % 64] else if c < 65536 then [224 + c / 4096, 128 + c / 64 % 64, 128 + c % 64] else [240 + c / 262144, 128 + c / 4096 % 64, 128 + c / 64 % 64, 128 + c % 64]
def txt (l : List Int) : List Int := l.flatMap enc
def okL (l : List Int) : Prop := ∀ c ∈ l, isC c
instance (l : List Int) : Decidable (okL l) := inferInstanceAs (Decidable (∀ c ∈ l, isC c))
theorem txt_nil : txt [] = [] := rfl
theorem txt_cons (c : Int) (l : List Int) : txt (c :: l) = enc c ++ txt l := by simp [txt]
theorem txt_append (a b : List Int) : txt (a ++ b) = txt a ++ txt b := by simp [txt]
theorem okL_nil : okL [] := fun _ h => by cases h
theorem okL_cons (c : Int) (l : List Int) : okL (c :: l) ↔ isC c ∧ okL l := by simp [okL]
theorem okL_append (a b : List Int) : okL (a ++ b) ↔ okL a ∧ okL b := by
  unfold okL
  constructor
  · intro h; exact ⟨fun c hc => h c (List.mem_append_left _ hc), fun c hc => h c (List.mem_append_right _ hc)⟩
  · rintro ⟨h1, h2⟩ c hc
    rcases List.mem_append.1 hc with h | h
    · exact h1 c h
    · exact h2 c h
theorem enc_length (c : Int) : 1 ≤ (enc c).length ∧ (enc c).length ≤ 4 := by
  unfold enc
  repeat' split
  all_goals simp
theorem enc_inj {c d : Int} {r s : List Int} (hc : isC c) (hd : isC d) (h : enc c ++ r = enc d ++ s) : c = d ∧ r = s := by
  unfold isC at hc hd
  unfold enc at h
  repeat' split at h
  all_goals simp only [List.cons_append, List.nil_append, List.cons.injEq] at h
  all_goals first
    | (exfalso; omega)
    | (obtain ⟨h1, h2⟩ := h; exact ⟨by omega, h2⟩)
    | (obtain ⟨h1, h2, h3⟩ := h; exact ⟨by omega, h3⟩)
    | (obtain ⟨h1, h2, h3, h4⟩ := h; exact ⟨by omega, h4⟩)
    | (obtain ⟨h1, h2, h3, h4, h5⟩ := h; exact ⟨by omega, h5⟩)
theorem txt_cancel : ∀ {l n r : List Int}, okL l → okL n → txt l ++ r = txt n → ∃ m, n = l ++ m ∧ r = txt m
  | [], n, r, _, _, h => ⟨n, rfl, by simpa [txt_nil] using h⟩
  | c :: l, [], r, hl, _, h => by
    have := enc_length c
    have h2 := congrArg List.length h
    simp only [txt_cons, txt_nil, List.length_append, List.length_nil] at h2
    omega
  | c :: l, d :: n, r, hl, hn, h => by
    rw [okL_cons] at hl hn
    rw [txt_cons, txt_cons, List.append_assoc] at h
    obtain ⟨rfl, h2⟩ := enc_inj hl.1 hn.1 h
    obtain ⟨m, rfl, hr⟩ := txt_cancel hl.2 hn.2 h2
    exact ⟨m, rfl, hr⟩
theorem txt_eq_nil {l : List Int} (h : txt l = []) : l = [] := by
  cases l with
  | nil => rfl
  | cons c l =>
    have := enc_length c
    have h2 := congrArg List.length h
    simp only [txt_cons, List.length_append, List.length_nil] at h2
    omega
theorem txt_inj {l m : List Int} (hl : okL l) (hm : okL m) (h : txt l = txt m) : l = m := by
  obtain ⟨q, rfl, hq⟩ := txt_cancel hl hm (show txt l ++ [] = txt m by simpa using h)
  rw [txt_eq_nil hq.symm]; simp
theorem txt_length (l : List Int) : l.length ≤ (txt l).length ∧ (txt l).length ≤ 4 * l.length := by
  induction l with
  | nil => simp [txt_nil]
  | cons c l ih =>
    have := enc_length c
    rw [txt_cons]
    simp only [List.length_append, List.length_cons]
    omega
theorem enc_byte {c x : Int} (h : isC c) (hx : x ∈ enc c) : 0 ≤ x ∧ x < 256 := by
  unfold isC at h
  unfold enc at hx
  repeat' split at hx
  all_goals simp only [List.mem_cons, List.not_mem_nil, or_false] at hx
  all_goals omega
theorem txt_byte {l : List Int} (h : okL l) : ∀ x ∈ txt l, 0 ≤ x ∧ x < 256 := by
  intro x hx
  obtain ⟨c, hc, hx⟩ := List.mem_flatMap.1 hx
  exact enc_byte (h c hc) hx
/-! ### what the walks' functions tell -/
theorem char_eq (a : Int) (h : 0 ≤ a) : utf_Char.f a = some (decide (isC a)) := by
  unfold utf_Char.f
  split
  · split
    · rw [decide_eq_true (by unfold isC; omega)]
    · congr 1; rw [decide_eq_decide]; unfold isC; omega
  · rw [decide_eq_false (by unfold isC; omega)]
theorem encP_eq (c : Int) (h : isC c) : encP c = enc c := by
  unfold isC at h
  unfold encP enc
  by_cases h1 : c ≤ 127
  · rw [if_pos h1, if_pos (by omega)]; simp only [head, conts]; rw [show c % 256 = c by omega]
  by_cases h2 : c ≤ 2047
  · rw [if_neg h1, if_pos h2, if_neg (by omega), if_pos (by omega)]; simp [head, conts]
  by_cases h3 : c ≤ 65535
  · rw [if_neg h1, if_neg h2, if_pos h3, if_neg (by omega), if_neg (by omega), if_pos (by omega)]; simp [head, conts]
  · rw [if_neg h1, if_neg h2, if_neg h3, if_neg (by omega), if_neg (by omega), if_neg (by omega)]; simp [head, conts]
theorem text_l0 (x0 : List Int) (hx : ∀ c ∈ x0, 0 ≤ c ∧ c < 4294967296) (hn : x0.length ≤ 1000000) : ∀ (d i : Nat) (acc : List Int), i + d = x0.length → acc.length ≤ 4 * i → ∀ k, d < k →
    utf_Text.l0 k x0 acc (i : Int) = some (if okL (x0.drop i) then (acc ++ txt (x0.drop i), true) else ([], false))
  | 0, i, acc, h, ha, k + 1, hk => by
    rw [List.drop_eq_nil_of_le (by omega), if_pos okL_nil]
    simp only [utf_Text.l0]
    rw [if_neg (by omega)]; simp [txt_nil]
  | d + 1, i, acc, h, ha, k + 1, hk => by
    have hi : i < x0.length := by omega
    have hc := hx _ (List.getElem_mem hi)
    rw [List.drop_eq_getElem_cons hi]
    simp only [utf_Text.l0]
    rw [if_pos (by omega), if_pos (by omega), rd_nat _ _ hi, u64w _ (by omega) (by omega), char_eq _ hc.1]
    simp only [Option.bind_some, decide_eq_true_eq]
    by_cases c : isC x0[i]
    · have c' := c
      unfold isC at c'
      rw [if_pos c, if_pos ⟨c'.1, c'.2.1⟩, if_pos (by omega), w64 _ (by omega) (by omega)]
      have hl := (enc_length x0[i]).2
      rw [encP_eq _ c]
      have := text_l0 x0 hx hn d (i + 1) (acc ++ enc x0[i]) (by omega) (by rw [List.length_append]; omega) k (by omega)
      rw [show ((i : Int) + 1) = ((i + 1 : Nat) : Int) by omega, this]
      simp only [okL_cons, c, true_and, txt_cons, List.append_assoc]
    · rw [if_neg c, if_neg (by rw [okL_cons]; exact fun h => c h.1)]
theorem text_eq (l : List Int) (hx : ∀ c ∈ l, 0 ≤ c ∧ c < 4294967296) (hn : l.length ≤ 1000000) (k : Nat) (hk : l.length < k) : utf_Text.f k l = some (if okL l then (txt l, true) else ([], false)) := by
  have := text_l0 l hx hn l.length 0 [] (by omega) (by simp) k hk
  simpa [utf_Text.f] using this
theorem mono_ge {α : Type} {f : Nat → Option α} (h : ∀ k, LeO (f k) (f (k + 1))) {r : α} {k : Nat} (hk : f k = some r) : ∀ n, f (k + n) = some r
  | 0 => hk
  | n + 1 => h _ _ (mono_ge h hk n)
theorem works40 : lw02_works.f 40 = some true := by decide +kernel
theorem works_eq (k : Nat) (h : 40 ≤ k) : lw02_works.f k = some true := by
  obtain ⟨n, rfl⟩ := Nat.exists_eq_add_of_le h
  exact mono_ge (fun q => lw02_works.mono q) works40 n
theorem or32 (x y : Int) (h0 : 0 ≤ x) (h1 : x < 4194304) (y0 : 0 ≤ y) (y1 : y < 64) : Go.bits .or .u32 (x * 64 % 4294967296) y = x * 64 + y := by
  rw [show x * 64 % 4294967296 = x * 64 by omega]
  exact bits_join .u32 32 (by decide) (fun n a b => by rw [IntKind.wrap_u32]; omega) 6 (x * 64) y (by omega) (by omega) (by omega) y0 (by omega) (by omega)
theorem first_eq (k : Nat) (a : Int) (h0 : 0 ≤ a) (h1 : a < 256) : utf_first.f (k + 1) a = some (if a < 128 then (a, 0, true) else if a ≥ 248 ∨ a < 192 then (0, 0, false) else if a ≥ 240 then (a % 8, 3, true) else if a ≥ 224 then (a % 16, 2, true) else (a % 32, 1, true)) := by
  unfold utf_first.f
  simp only [utf_first.j0]
  rw [u8_and7 a h0 h1, u8_and15 a h0 h1, u8_and31 a h0 h1]
  rw [show a % 8 % 4294967296 = a % 8 by omega, show a % 16 % 4294967296 = a % 16 by omega, show a % 32 % 4294967296 = a % 32 by omega]
  by_cases c1 : a < 128
  · rw [if_pos c1, if_pos c1, show a % 4294967296 = a by omega]
  rw [if_neg c1, if_neg c1]
  by_cases c2 : a ≥ 248
  · simp only [c2, true_or, if_true]
  by_cases c3 : a < 192
  · simp only [c2, c3, decide_true, or_true, if_true, if_false]
  by_cases c4 : a ≥ 240
  · simp only [c2, c3, c4, decide_false, or_self, if_true, if_false, Bool.false_eq_true]
  by_cases c5 : a ≥ 224
  · simp only [c2, c3, c4, c5, decide_false, or_self, if_true, if_false, Bool.false_eq_true]
  · simp only [c2, c3, c4, c5, decide_false, or_self, if_false, Bool.false_eq_true]
theorem more_eq (c : Int) (h : isC c) : utf_more.f c = some ((enc c).length - 1 : Int) := by
  unfold utf_more.f enc
  unfold isC at h
  repeat' split
  all_goals first | rfl | (exfalso; omega)
theorem charE (c n : Int) (h0 : 0 ≤ c) (h1 : c < 4294967296) : utf_char.e c n = some (if isC c ∧ ((enc c).length : Int) = n + 1 then (c, n + 1) else (0, 0)) := by
  unfold utf_char.e
  rw [u64w c h0 (by omega), char_eq c h0]
  simp only [Option.bind_some, decide_eq_true_eq]
  by_cases h : isC c
  · rw [if_pos h, more_eq c h]
    simp only [Option.bind_some]
    by_cases e : ((enc c).length : Int) = n + 1
    · rw [if_pos (by omega), if_pos ⟨h, e⟩]
    · rw [if_neg (by omega), if_neg (fun z => e z.2)]
  · rw [if_neg h, if_neg (fun z => h z.1)]
/-- What char tells: the first character's bytes, read off by its head. -/
def charS : List Int → Int × Int
  | [] => (0, 0)
  | x :: r =>
    if x < 128 then (x, 1) else if x ≥ 248 ∨ x < 192 then (0, 0) else if x ≥ 240 then
      (match r with
      | y :: z :: t :: _ => if y / 64 = 2 ∧ z / 64 = 2 ∧ t / 64 = 2 then (let c := ((x % 8 * 64 + y % 64) * 64 + z % 64) * 64 + t % 64; if isC c ∧ ((enc c).length : Int) = 4 then (c, 4) else (0, 0)) else (0, 0)
      | _ => (0, 0))
    else if x ≥ 224 then
      (match r with
      | y :: z :: _ => if y / 64 = 2 ∧ z / 64 = 2 then (let c := (x % 16 * 64 + y % 64) * 64 + z % 64; if isC c ∧ ((enc c).length : Int) = 3 then (c, 3) else (0, 0)) else (0, 0)
      | _ => (0, 0))
    else
      (match r with
      | y :: _ => if y / 64 = 2 then (let c := x % 32 * 64 + y % 64; if isC c ∧ ((enc c).length : Int) = 2 then (c, 2) else (0, 0)) else (0, 0)
      | _ => (0, 0))
theorem rd1 (x y : Int) (l : List Int) : rd (x :: y :: l) 1 = y := rfl
theorem rd2 (x y z : Int) (l : List Int) : rd (x :: y :: z :: l) 2 = z := rfl
theorem rd3 (x y z t : Int) (l : List Int) : rd (x :: y :: z :: t :: l) 3 = t := rfl
theorem wr2 : wrap64 (1 + 1) = 2 := by unfold wrap64; omega
theorem wr3 : wrap64 (2 + 1) = 3 := by unfold wrap64; omega
theorem wr4 : wrap64 (3 + 1) = 4 := by unfold wrap64; omega
theorem l0_step (k : Nat) (l : List Int) (n i c : Int) : utf_char.l0 (k + 1) l n i c = if i ≤ n then (if 0 ≤ i then (if i < (l.length : Int) then (if rd l i / 64 = 2 then utf_char.l0 k l n (wrap64 (i + 1)) (Go.bits .or .u32 ((c * 64) % 4294967296) (rd l i % 64)) else some (0, 0)) else none) else none) else utf_char.e c n := rfl
theorem char_spec (k : Nat) (x : Int) (r : List Int) (hx : 0 ≤ x ∧ x < 256) (hr : ∀ y ∈ r, 0 ≤ y ∧ y < 256) : utf_char.f (k + 6) (x :: r) = some (charS (x :: r)) := by
  unfold utf_char.f
  rw [if_pos (by simp only [List.length_cons]; omega), rd_zero, first_eq _ x hx.1 hx.2]
  simp only [Option.bind_some]
  by_cases c1 : x < 128
  · have h : isC x := by unfold isC; omega
    have e : (enc x).length = 1 := by unfold enc; rw [if_pos c1]; rfl
    simp only [c1, if_true, charS]
    rw [if_neg (by simp only [List.length_cons]; omega)]
    rw [l0_step, if_neg (by decide), charE _ _ hx.1 (by omega), if_pos ⟨h, by rw [e]; rfl⟩]; rfl
  by_cases c2 : x ≥ 248 ∨ x < 192
  · simp only [c1, c2, if_true, if_false, charS, Bool.false_eq_true]
  by_cases c3 : x ≥ 240
  · simp only [c1, c2, c3, if_true, if_false, charS]
    match r, hr with
    | [], _ => rw [if_pos (by simp)]
    | [y], _ => rw [if_pos (by simp)]
    | [y, z], _ => rw [if_pos (by simp)]
    | y :: z :: t :: q, hr =>
      have hy := hr y (by simp)
      have hz := hr z (by simp)
      have ht := hr t (by simp)
      rw [if_neg (by simp only [List.length_cons]; omega)]
      rw [l0_step, if_pos (by decide), if_pos (by decide), if_pos (by simp only [List.length_cons]; omega), rd1]
      by_cases d1 : y / 64 = 2
      · rw [if_pos d1, wr2, or32 _ _ (by omega) (by omega) (by omega) (by omega), l0_step, if_pos (by decide), if_pos (by decide), if_pos (by simp only [List.length_cons]; omega), rd2]
        by_cases d2 : z / 64 = 2
        · rw [if_pos d2, wr3, or32 _ _ (by omega) (by omega) (by omega) (by omega), l0_step, if_pos (by decide), if_pos (by decide), if_pos (by simp only [List.length_cons]; omega), rd3]
          by_cases d3 : t / 64 = 2
          · rw [if_pos d3, wr4, or32 _ _ (by omega) (by omega) (by omega) (by omega), l0_step, if_neg (by decide), charE _ _ (by omega) (by omega)]
            simp only [d1, d2, d3, and_self, if_true]; rfl
          · rw [if_neg d3]; simp only [d3, false_and, and_false, if_false]
        · rw [if_neg d2]; simp only [d2, false_and, and_false, if_false]
      · rw [if_neg d1]; simp only [d1, false_and, and_false, if_false]
  by_cases c4 : x ≥ 224
  · simp only [c1, c2, c3, c4, if_true, if_false, charS]
    match r, hr with
    | [], _ => rw [if_pos (by simp)]
    | [y], _ => rw [if_pos (by simp)]
    | y :: z :: q, hr =>
      have hy := hr y (by simp)
      have hz := hr z (by simp)
      rw [if_neg (by simp only [List.length_cons]; omega)]
      rw [l0_step, if_pos (by decide), if_pos (by decide), if_pos (by simp only [List.length_cons]; omega), rd1]
      by_cases d1 : y / 64 = 2
      · rw [if_pos d1, wr2, or32 _ _ (by omega) (by omega) (by omega) (by omega), l0_step, if_pos (by decide), if_pos (by decide), if_pos (by simp only [List.length_cons]; omega), rd2]
        by_cases d2 : z / 64 = 2
        · rw [if_pos d2, wr3, or32 _ _ (by omega) (by omega) (by omega) (by omega), l0_step, if_neg (by decide), charE _ _ (by omega) (by omega)]
          simp only [d1, d2, and_self, if_true]; rfl
        · rw [if_neg d2]; simp only [d2, false_and, and_false, if_false]
      · rw [if_neg d1]; simp only [d1, false_and, and_false, if_false]
  · simp only [c1, c2, c3, c4, if_true, if_false, charS]
    match r, hr with
    | [], _ => rw [if_pos (by simp)]
    | y :: q, hr =>
      have hy := hr y (by simp)
      rw [if_neg (by simp only [List.length_cons]; omega)]
      rw [l0_step, if_pos (by decide), if_pos (by decide), if_pos (by simp only [List.length_cons]; omega), rd1]
      by_cases d1 : y / 64 = 2
      · rw [if_pos d1, wr2, or32 _ _ (by omega) (by omega) (by omega) (by omega), l0_step, if_neg (by decide), charE _ _ (by omega) (by omega)]
        simp only [d1, if_true]; rfl
      · rw [if_neg d1]; simp only [d1, if_false]
theorem enc_len (c : Int) : (enc c).length = if c < 128 then 1 else if c < 2048 then 2 else if c < 65536 then 3 else 4 := by
  unfold enc
  repeat' split
  all_goals rfl
/-- Of a character's bytes charS tells the character. -/
theorem charS_enc (c : Int) (r : List Int) (h : isC c) : charS (enc c ++ r) = (c, ((enc c).length : Int)) := by
  have hh := h
  unfold isC at hh
  rw [enc_len]
  unfold enc
  by_cases h1 : c < 128
  · simp only [h1, if_true, List.cons_append, List.nil_append, charS]; rfl
  by_cases h2 : c < 2048
  · simp only [h1, h2, if_true, if_false, List.cons_append, List.nil_append, charS]
    have e : (192 + c / 64) % 32 * 64 + (128 + c % 64) % 64 = c := by omega
    rw [if_neg (by omega), if_neg (by omega), if_neg (by omega), if_neg (by omega), if_pos (by omega)]
    simp only [e]
    rw [if_pos ⟨h, by rw [enc_len, if_neg h1, if_pos h2]; rfl⟩]; rfl
  by_cases h3 : c < 65536
  · simp only [h1, h2, h3, if_true, if_false, List.cons_append, List.nil_append, charS]
    have e : ((224 + c / 4096) % 16 * 64 + (128 + c / 64 % 64) % 64) * 64 + (128 + c % 64) % 64 = c := by omega
    rw [if_neg (by omega), if_neg (by omega), if_neg (by omega), if_pos (by omega), if_pos (by omega)]
    simp only [e]
    rw [if_pos ⟨h, by rw [enc_len, if_neg h1, if_neg h2, if_pos h3]; rfl⟩]; rfl
  · simp only [h1, h2, h3, if_false, List.cons_append, List.nil_append, charS]
    have e : (((240 + c / 262144) % 8 * 64 + (128 + c / 4096 % 64) % 64) * 64 + (128 + c / 64 % 64) % 64) * 64 + (128 + c % 64) % 64 = c := by omega
    rw [if_neg (by omega), if_neg (by omega), if_pos (by omega), if_pos (by omega)]
    simp only [e]
    rw [if_pos ⟨h, by rw [enc_len, if_neg h1, if_neg h2, if_neg h3]; rfl⟩]; rfl
/-- What charS tells is a character with its bytes, or nothing. -/
theorem charS_spec (x : Int) (r : List Int) (hx : 0 ≤ x ∧ x < 256) (hr : ∀ y ∈ r, 0 ≤ y ∧ y < 256) :
    charS (x :: r) = (0, 0) ∨ ∃ c q, isC c ∧ x :: r = enc c ++ q ∧ charS (x :: r) = (c, ((enc c).length : Int)) := by
  have go : ∀ c q, isC c → x :: r = enc c ++ q → ∃ c q, isC c ∧ x :: r = enc c ++ q ∧ charS (x :: r) = (c, ((enc c).length : Int)) := by
    intro c q hc he
    exact ⟨c, q, hc, he, by rw [he]; exact charS_enc c q hc⟩
  by_cases c1 : x < 128
  · right
    exact go x r (by unfold isC; omega) (by unfold enc; rw [if_pos c1]; rfl)
  by_cases c2 : x ≥ 248 ∨ x < 192
  · left; simp only [c1, c2, if_true, if_false, charS]
  by_cases c3 : x ≥ 240
  · match r, hr with
    | [], _ => left; simp only [c1, c2, c3, if_true, if_false, charS]
    | [y], _ => left; simp only [c1, c2, c3, if_true, if_false, charS]
    | [y, z], _ => left; simp only [c1, c2, c3, if_true, if_false, charS]
    | y :: z :: t :: q, hr =>
      have hy := hr y (by simp)
      have hz := hr z (by simp)
      have ht := hr t (by simp)
      by_cases d : y / 64 = 2 ∧ z / 64 = 2 ∧ t / 64 = 2
      · by_cases h : isC (((x % 8 * 64 + y % 64) * 64 + z % 64) * 64 + t % 64) ∧ ((enc (((x % 8 * 64 + y % 64) * 64 + z % 64) * 64 + t % 64)).length : Int) = 4
        · right
          refine go _ q h.1 ?_
          have h2 := h.2
          rw [enc_len] at h2
          have h3 : ¬ (((x % 8 * 64 + y % 64) * 64 + z % 64) * 64 + t % 64 < 65536) := by
            intro h4
            split at h2
            · simp at h2
            · split at h2
              · simp at h2
              · simp [h4] at h2
          unfold enc
          rw [if_neg (by omega), if_neg (by omega), if_neg h3]
          simp only [List.cons_append, List.nil_append, List.cons.injEq, and_true]
          omega
        · left; simp only [c1, c2, c3, d, h, and_self, if_true, if_false, charS]
      · left; simp only [c1, c2, c3, d, if_true, if_false, charS]
  by_cases c4 : x ≥ 224
  · match r, hr with
    | [], _ => left; simp only [c1, c2, c3, c4, if_true, if_false, charS]
    | [y], _ => left; simp only [c1, c2, c3, c4, if_true, if_false, charS]
    | y :: z :: q, hr =>
      have hy := hr y (by simp)
      have hz := hr z (by simp)
      by_cases d : y / 64 = 2 ∧ z / 64 = 2
      · by_cases h : isC ((x % 16 * 64 + y % 64) * 64 + z % 64) ∧ ((enc ((x % 16 * 64 + y % 64) * 64 + z % 64)).length : Int) = 3
        · right
          refine go _ q h.1 ?_
          have h2 := h.2
          rw [enc_len] at h2
          have h3 : ¬ ((x % 16 * 64 + y % 64) * 64 + z % 64 < 2048) := by
            intro h4
            split at h2
            · simp at h2
            · simp [h4] at h2
          unfold enc
          rw [if_neg (by omega), if_neg h3, if_pos (by omega)]
          simp only [List.cons_append, List.nil_append, List.cons.injEq, and_true]
          omega
        · left; simp only [c1, c2, c3, c4, d, h, and_self, if_true, if_false, charS]
      · left; simp only [c1, c2, c3, c4, d, if_true, if_false, charS]
  · match r, hr with
    | [], _ => left; simp only [c1, c2, c3, c4, if_true, if_false, charS]
    | y :: q, hr =>
      have hy := hr y (by simp)
      by_cases d : y / 64 = 2
      · by_cases h : isC (x % 32 * 64 + y % 64) ∧ ((enc (x % 32 * 64 + y % 64)).length : Int) = 2
        · right
          refine go _ q h.1 ?_
          have h2 := h.2
          rw [enc_len] at h2
          have h3 : ¬ (x % 32 * 64 + y % 64 < 128) := by
            intro h4
            simp [h4] at h2
          unfold enc
          rw [if_neg h3, if_pos (by omega)]
          simp only [List.cons_append, List.nil_append, List.cons.injEq, and_true]
          omega
        · left; simp only [c1, c2, c3, c4, d, h, if_true, if_false, charS]
      · left; simp only [c1, c2, c3, c4, d, if_true, if_false, charS]
/-- The characters of a text. -/
theorem chars_ok : ∀ (cs acc : List Int) (k : Nat), okL cs → acc.length + cs.length ≤ 1000000 → cs.length + 6 < k → utf_Chars.l0 k (txt cs) acc = some (acc ++ cs, true)
  | [], acc, k + 1, _, _, _ => by
    show utf_Chars.l0 (k + 1) [] acc = _
    simp [utf_Chars.l0]
  | c :: cs, acc, k + 1, h, hn, hk => by
    rw [okL_cons] at h
    have hl := enc_length c
    simp only [List.length_cons] at hn hk
    rw [txt_cons]
    simp only [utf_Chars.l0]
    rw [if_pos (by rw [List.length_append]; omega)]
    obtain ⟨k', rfl⟩ : ∃ k', k = k' + 6 := ⟨k - 6, by omega⟩
    have hb := txt_byte (show okL (c :: cs) by rw [okL_cons]; exact h)
    rw [txt_cons] at hb
    have e : utf_char.f (k' + 6) (enc c ++ txt cs) = some (c, ((enc c).length : Int)) := by
      rw [← charS_enc c (txt cs) h.1]
      cases hc : enc c with
      | nil => rw [hc] at hl; simp at hl
      | cons x r =>
        rw [hc] at hb
        exact char_spec k' x (r ++ txt cs) (hb x (by simp)) (fun y hy => hb y (List.mem_cons_of_mem _ hy))
    rw [e]
    simp only [Option.bind_some]
    rw [if_neg (by omega), if_pos (by omega), if_pos (by omega), if_pos (by rw [List.length_append]; omega), Int.toNat_natCast, List.drop_left, chars_ok cs (acc ++ [c]) (k' + 6) h.2 (by simp only [List.length_append, List.length_cons, List.length_nil]; omega) (by omega)]
    simp
/-- Bytes that are no text. -/
theorem chars_bad : ∀ (n : Nat) (l acc : List Int) (k : Nat), l.length ≤ n → (∀ x ∈ l, 0 ≤ x ∧ x < 256) → (∀ cs, okL cs → l ≠ txt cs) → acc.length + l.length ≤ 1000000 → n + 6 < k → utf_Chars.l0 k l acc = some ([], false)
  | _, [], _, _, _, _, hb, _, _ => absurd txt_nil.symm (hb [] okL_nil)
  | 0, _ :: _, _, _, h, _, _, _, _ => by simp at h
  | n + 1, x :: r, acc, k + 1, h, hb, hbad, hn, hk => by
    simp only [List.length_cons] at h hn
    simp only [utf_Chars.l0]
    rw [if_pos (by simp only [List.length_cons]; omega)]
    obtain ⟨k', rfl⟩ : ∃ k', k = k' + 6 := ⟨k - 6, by omega⟩
    have hx := hb x (by simp)
    have hr : ∀ y ∈ r, 0 ≤ y ∧ y < 256 := fun y hy => hb y (List.mem_cons_of_mem _ hy)
    rw [char_spec k' x r hx hr]
    rcases charS_spec x r hx hr with e | ⟨c, q, hc, he, e⟩
    · rw [e]; rfl
    · rw [e]
      simp only [Option.bind_some]
      have hl := enc_length c
      have hlen := congrArg List.length he
      simp only [List.length_cons, List.length_append] at hlen
      rw [if_neg (by omega), if_pos (by omega), if_pos (by omega), if_pos (by simp only [List.length_cons]; omega), Int.toNat_natCast, he, List.drop_left]
      refine chars_bad n q (acc ++ [c]) (k' + 6) (by omega) ?_ ?_ (by simp only [List.length_append, List.length_cons, List.length_nil]; omega) (by omega)
      · intro y hy; exact hb y (by rw [he]; exact List.mem_append_right _ hy)
      · intro cs hcs hq
        exact hbad (c :: cs) (by rw [okL_cons]; exact ⟨hc, hcs⟩) (by rw [txt_cons, he, hq])
theorem chars_txt (cs : List Int) (h : okL cs) (hn : cs.length ≤ 1000000) (k : Nat) (hk : cs.length + 6 < k) : utf_Chars.f k (txt cs) = some (cs, true) := by
  have := chars_ok cs [] k h (by simpa using hn) hk
  simpa [utf_Chars.f] using this
theorem chars_no (l : List Int) (hb : ∀ x ∈ l, 0 ≤ x ∧ x < 256) (h : ∀ cs, okL cs → l ≠ txt cs) (hn : l.length ≤ 1000000) (k : Nat) (hk : l.length + 6 < k) : utf_Chars.f k l = some ([], false) :=
  chars_bad l.length l [] k (Nat.le_refl _) hb h (by simpa using hn) hk
/-- Bytes are a text of characters, or of none. -/
theorem chars_eq (l : List Int) (hb : ∀ x ∈ l, 0 ≤ x ∧ x < 256) (hn : l.length ≤ 1000000) : (∃ cs, okL cs ∧ l = txt cs ∧ cs.length ≤ l.length ∧ ∀ k, l.length + 6 < k → utf_Chars.f k l = some (cs, true)) ∨ ((∀ cs, okL cs → l ≠ txt cs) ∧ ∀ k, l.length + 6 < k → utf_Chars.f k l = some ([], false)) := by
  by_cases h : ∃ cs, okL cs ∧ l = txt cs
  · left
    obtain ⟨cs, h1, rfl⟩ := h
    have hl := txt_length cs
    exact ⟨cs, h1, rfl, hl.1, fun k hk => chars_txt cs h1 (by omega) k (by omega)⟩
  · right
    have h2 : ∀ cs, okL cs → l ≠ txt cs := fun cs h1 e => h ⟨cs, h1, e⟩
    exact ⟨h2, fun k hk => chars_no l hb h2 hn k hk⟩
theorem right_txt (cs : List Int) (h : okL cs) (hn : cs.length ≤ 1000000) (k : Nat) (hk : cs.length + 6 < k) : utf_Right.f k (txt cs) = some true := by
  unfold utf_Right.f; rw [chars_txt cs h hn k hk]; rfl
theorem right_no (l : List Int) (hb : ∀ x ∈ l, 0 ≤ x ∧ x < 256) (h : ∀ cs, okL cs → l ≠ txt cs) (hn : l.length ≤ 1000000) (k : Nat) (hk : l.length + 6 < k) : utf_Right.f k l = some false := by
  unfold utf_Right.f; rw [chars_no l hb h hn k hk]; rfl
theorem and128 : ∀ x : Fin 256, Go.bits .and .u8 (x.val : Int) 128 = if 128 ≤ x.val then 128 else 0 := by decide +kernel
theorem and128_lt (x : Int) (h0 : 0 ≤ x) (h1 : x < 128) : Go.bits .and .u8 x 128 = 0 := by
  have := and128 ⟨x.toNat, by omega⟩
  rw [show ((⟨x.toNat, by omega⟩ : Fin 256).val : Int) = x from Int.toNat_of_nonneg h0] at this
  rw [this, if_neg (by simp; omega)]
theorem and128_ge (x : Int) (h0 : 128 ≤ x) (h1 : x < 256) : ¬ Go.bits .and .u8 x 128 = 0 := by
  have := and128 ⟨x.toNat, by omega⟩
  rw [show ((⟨x.toNat, by omega⟩ : Fin 256).val : Int) = x from Int.toNat_of_nonneg (by omega)] at this
  rw [this, if_pos (by simp; omega)]; decide
theorem and63w (y : Int) (h0 : 0 ≤ y) (h1 : y < 256) : Go.bits .and .u8 y 63 % 4294967296 = y % 64 := by
  rw [u8_and63 y h0 h1]; omega
theorem l1_lt (k : Nat) (l : List Int) (x n : Int) (h0 : 0 ≤ x) (h1 : x < 128) : lw02_whole.l1 (k + 1) l x n = if n = 1 then lw02_whole.j2 k l x n true else (if n > 4 then lw02_whole.j2 k l x n true else lw02_whole.j2 k l x n (decide ((l.length : Int) < mx n 1))) := by
  have e : lw02_whole.l1 (k + 1) l x n = (if (Go.bits .and .u8 x 128) = 0 then (if n = 1 then (lw02_whole.j2 k l x n true) else (if n > 4 then (lw02_whole.j2 k l x n true) else (lw02_whole.j2 k l x n (decide ((l.length : Int) < (mx n 1)))))) else (lw02_whole.l1 k l ((x * 2) % 256) (wrap64 (n + 1)))) := rfl
  rw [e, if_pos (and128_lt x h0 h1)]
theorem l1_ge (k : Nat) (l : List Int) (x n : Int) (h0 : 128 ≤ x) (h1 : x < 256) : lw02_whole.l1 (k + 1) l x n = lw02_whole.l1 k l ((x * 2) % 256) (wrap64 (n + 1)) := by
  have e : lw02_whole.l1 (k + 1) l x n = (if (Go.bits .and .u8 x 128) = 0 then (if n = 1 then (lw02_whole.j2 k l x n true) else (if n > 4 then (lw02_whole.j2 k l x n true) else (lw02_whole.j2 k l x n (decide ((l.length : Int) < (mx n 1)))))) else (lw02_whole.l1 k l ((x * 2) % 256) (wrap64 (n + 1)))) := rfl
  rw [e, if_neg (and128_ge x h0 h1)]
theorem j2_t (k : Nat) (l : List Int) (x n : Int) : lw02_whole.j2 (k + 1) l x n true = some false := rfl
theorem j2_f (k : Nat) (l : List Int) (x n : Int) (h0 : 0 ≤ n) (h1 : n < 100) : lw02_whole.j2 (k + 1) l x n false = lw02_whole.l2 k l n (shr .u32 (x % 4294967296) n) 1 := by
  have e : lw02_whole.j2 (k + 1) l x n false = (if 0 ≤ (IntKind.u64.wrap n) then (lw02_whole.l2 k l n (shr .u32 (x % 4294967296) (IntKind.u64.wrap n)) 1) else none) := rfl
  rw [e, u64w n h0 (by omega), if_pos h0]
def endW (k : Nat) (l : List Int) (n c : Int) (least : Int) : Option Bool := if c < least ∨ c > 1114111 ∨ (55296 ≤ c ∧ c < 57344) then some false else lw02_whole.l0 k (l.drop (mx n 1).toNat)
theorem l2_end (k : Nat) (l : List Int) (n c j : Int) (hj : ¬ j < n) (h0 : 0 ≤ n) (h4 : n ≤ 4) (hl : mx n 1 ≤ (l.length : Int)) : lw02_whole.l2 (k + 1) l n c j = endW k l n c (rd [0, 0, 128, 2048, 65536] n) := by
  have hm : 0 ≤ mx n 1 := by unfold mx; split <;> omega
  unfold endW
  simp only [lw02_whole.l2, Option.bind_some]
  rw [if_neg hj, if_pos h0, if_pos (by simp; omega)]
  by_cases c1 : c < rd [0, 0, 128, 2048, 65536] n
  · rw [if_pos c1, if_pos (.inl c1)]
  rw [if_neg c1]
  by_cases c2 : c > 1114111
  · rw [if_pos c2, if_pos (.inr (.inl c2))]
  rw [if_neg c2]
  by_cases c3 : c ≥ 55296
  · rw [if_pos c3]
    by_cases c4 : c < 57344
    · rw [if_pos c4, if_pos (.inr (.inr ⟨c3, c4⟩))]
    · rw [if_neg c4, if_pos hm, if_pos hl, if_neg (by omega)]
  · rw [if_neg c3, if_pos hm, if_pos hl, if_neg (by omega)]
theorem l2_go (k : Nat) (l : List Int) (n c : Int) (j : Nat) (y : Int) (hj : (j : Int) < n) (hl : j < l.length) (hy : l[j] = y) (hb : 0 ≤ y ∧ y < 256) (hc : 0 ≤ c ∧ c < 4194304) (hs : j < 100) : lw02_whole.l2 (k + 1) l n c (j : Int) = if y / 64 = 2 then lw02_whole.l2 k l n (c * 64 + y % 64) ((j + 1 : Nat) : Int) else some false := by
  have e : lw02_whole.l2 (k + 1) l n c (j : Int) = (if (j : Int) < n then (if 0 ≤ (j : Int) then (if (j : Int) < (l.length : Int) then (if ((rd l (j : Int)) / 64) = 2 then (lw02_whole.l2 k l n (Go.bits .or .u32 ((c * 64) % 4294967296) ((Go.bits .and .u8 (rd l (j : Int)) 63) % 4294967296)) (wrap64 ((j : Int) + 1))) else (some false)) else (none)) else (none)) else ((some (([0, 0, 128, 2048, 65536] : List Int) : List Int)).bind fun y129 => (if 0 ≤ n then (if n < (y129.length : Int) then (if c < (rd y129 n) then (some false) else (if c > 1114111 then (some false) else (if c ≥ 55296 then (if c < 57344 then (some false) else (if 0 ≤ (mx n 1) then (if (mx n 1) ≤ (l.length : Int) then (lw02_whole.l0 k (l.drop ((mx n 1) : Int).toNat)) else (none)) else (none))) else (if 0 ≤ (mx n 1) then (if (mx n 1) ≤ (l.length : Int) then (lw02_whole.l0 k (l.drop ((mx n 1) : Int).toNat)) else (none)) else (none))))) else (none)) else (none)))) := rfl
  rw [e, if_pos hj, if_pos (by omega), if_pos (by omega), rd_nat l j hl, hy, and63w y hb.1 hb.2, or32 c _ hc.1 hc.2 (by omega) (by omega), w64 _ (by omega) (by omega)]
  rfl
theorem shr_eq (x : Int) (n : Int) (h0 : 0 ≤ x) (h1 : x < 256) : shr .u32 (x % 4294967296) 0 = x ∧ shr .u32 (x % 4294967296) 2 = x / 4 ∧ shr .u32 (x % 4294967296) 3 = x / 8 ∧ shr .u32 (x % 4294967296) 4 = x / 16 := by
  rw [show x % 4294967296 = x by omega]
  refine ⟨?_, ?_, ?_, ?_⟩
  all_goals simp [shr, IntKind.bits]
theorem mx_one : mx 0 1 = 1 ∧ mx 2 1 = 2 ∧ mx 3 1 = 3 ∧ mx 4 1 = 4 := by unfold mx; decide
theorem rds : rd [0, 0, 128, 2048, 65536] 0 = 0 ∧ rd [0, 0, 128, 2048, 65536] 2 = 128 ∧ rd [0, 0, 128, 2048, 65536] 3 = 2048 ∧ rd [0, 0, 128, 2048, 65536] 4 = 65536 := ⟨rfl, rfl, rfl, rfl⟩
theorem wr1 : wrap64 (0 + 1) = 1 := by unfold wrap64; omega
theorem wr5 : wrap64 (4 + 1) = 5 := by unfold wrap64; omega
theorem wr6 : wrap64 (5 + 1) = 6 := by unfold wrap64; omega
theorem wr7 : wrap64 (6 + 1) = 7 := by unfold wrap64; omega
theorem wr8 : wrap64 (7 + 1) = 8 := by unfold wrap64; omega
theorem l0_cons (k : Nat) (x : Int) (r : List Int) : lw02_whole.l0 (k + 1) (x :: r) = lw02_whole.l1 k (x :: r) x 0 := by
  simp only [lw02_whole.l0]
  rw [if_pos (by simp only [List.length_cons]; omega), if_pos (by simp only [List.length_cons]; omega), rd_zero]
/-- Five ones ahead, or more: no character. -/
theorem l1_five (k : Nat) (l : List Int) (x n : Int) (h0 : 0 ≤ x) (h1 : x < 128) (hn : n > 4) : lw02_whole.l1 (k + 2) l x n = some false := by
  rw [l1_lt _ _ _ _ h0 h1, if_neg (by omega), if_pos hn]; rfl
theorem whole_step (k : Nat) (x : Int) (r : List Int) (hx : 0 ≤ x ∧ x < 256) (hr : ∀ y ∈ r, 0 ≤ y ∧ y < 256) : ∃ k', k ≤ k' ∧
    lw02_whole.l0 (k + 20) (x :: r) = if (charS (x :: r)).2 = 0 then some false else lw02_whole.l0 k' ((x :: r).drop (charS (x :: r)).2.toNat) := by
  rw [l0_cons]
  by_cases c1 : x < 128
  · have e : charS (x :: r) = (x, 1) := by simp only [charS, c1, if_true]
    refine ⟨k + 16, by omega, ?_⟩
    rw [l1_lt _ _ _ _ hx.1 c1, if_neg (by decide), if_neg (by decide), mx_one.1, decide_eq_false (by simp only [List.length_cons]; omega), j2_f _ _ _ _ (by decide) (by decide), (shr_eq x 0 hx.1 hx.2).1, l2_end _ _ _ _ _ (by decide) (by decide) (by decide) (by rw [mx_one.1]; simp only [List.length_cons]; omega), rds.1]
    unfold endW
    rw [if_neg (by omega), e, if_neg (show ¬ (x, (1 : Int)).2 = 0 by simp), mx_one.1]
  rw [l1_ge _ _ _ _ (by omega) hx.2, wr1]
  by_cases c2 : x < 192
  · have e : charS (x :: r) = (0, 0) := by
      have : x ≥ 248 ∨ x < 192 := .inr c2
      simp only [charS, c1, this, if_true, if_false]
    refine ⟨k, by omega, ?_⟩
    rw [l1_lt _ _ _ _ (by omega) (by omega), if_pos rfl, e]; rfl
  rw [l1_ge _ _ _ _ (by omega) (by omega), wr2]
  by_cases c3 : x < 224
  · have d1 : ¬ (x ≥ 248 ∨ x < 192) := by omega
    have d2 : ¬ x ≥ 240 := by omega
    have d3 : ¬ x ≥ 224 := by omega
    rw [l1_lt _ _ _ _ (by omega) (by omega), if_neg (by decide), if_neg (by decide), mx_one.2.1]
    match r, hr with
    | [], _ => exact ⟨k, by omega, by rw [decide_eq_true (by simp), j2_t]; simp only [charS, c1, d1, d2, d3, if_false, if_true]⟩
    | y :: q, hr =>
      have hy := hr y (by simp)
      rw [decide_eq_false (by simp only [List.length_cons]; omega), j2_f _ _ _ _ (by decide) (by decide), (shr_eq (x * 2 % 256 * 2 % 256) 0 (by omega) (by omega)).2.1, show (1 : Int) = ((1 : Nat) : Int) from rfl, l2_go _ _ _ _ 1 y (by decide) (by simp) rfl hy (by omega) (by decide)]
      have ex : x * 2 % 256 * 2 % 256 / 4 = x % 32 := by omega
      rw [ex]
      by_cases e1 : y / 64 = 2
      · rw [if_pos e1, l2_end _ _ _ _ _ (by decide) (by decide) (by decide) (by rw [mx_one.2.1]; simp only [List.length_cons]; omega), rds.2.1]
        unfold endW
        refine ⟨k + 13, by omega, ?_⟩
        rw [mx_one.2.1]
        simp only [charS, c1, d1, d2, d3, e1, if_true, if_false]
        by_cases f : isC (x % 32 * 64 + y % 64) ∧ ((enc (x % 32 * 64 + y % 64)).length : Int) = 2
        · have f1 := f.1
          have f2 := f.2
          unfold isC at f1
          rw [enc_len] at f2
          have f3 : ¬ x % 32 * 64 + y % 64 < 128 := by intro z; rw [if_pos z] at f2; simp at f2
          rw [if_neg (by omega)]
          simp only [f, and_self, if_true]; first | done | (rw [if_neg (by decide)]; done) | (with_reducible rfl)
        · have f3 : x % 32 * 64 + y % 64 < 128 := by
            rcases Int.lt_or_le (x % 32 * 64 + y % 64) 128 with z | z
            · exact z
            · exfalso
              refine f ⟨by unfold isC; omega, ?_⟩
              rw [enc_len, if_neg (by omega), if_pos (by omega)]; rfl
          rw [if_pos (.inl f3)]
          simp only [f, if_false, if_true]
      · refine ⟨k, by omega, ?_⟩
        rw [if_neg e1]
        simp only [charS, c1, d1, d2, d3, e1, if_true, if_false]
  rw [l1_ge _ _ _ _ (by omega) (by omega), wr3]
  by_cases c4 : x < 240
  · have d1 : ¬ (x ≥ 248 ∨ x < 192) := by omega
    have d2 : ¬ x ≥ 240 := by omega
    have d3 : x ≥ 224 := by omega
    rw [l1_lt _ _ _ _ (by omega) (by omega), if_neg (by decide), if_neg (by decide), mx_one.2.2.1]
    match r, hr with
    | [], _ => exact ⟨k, by omega, by rw [decide_eq_true (by simp), j2_t]; simp only [charS, c1, d1, d2, d3, if_false, if_true]⟩
    | [y], _ => exact ⟨k, by omega, by rw [decide_eq_true (by simp), j2_t]; simp only [charS, c1, d1, d2, d3, if_false, if_true]⟩
    | y :: z :: q, hr =>
      have hy := hr y (by simp)
      have hz := hr z (by simp)
      rw [decide_eq_false (by simp only [List.length_cons]; omega), j2_f _ _ _ _ (by decide) (by decide), (shr_eq (x * 2 % 256 * 2 % 256 * 2 % 256) 0 (by omega) (by omega)).2.2.1, show (1 : Int) = ((1 : Nat) : Int) from rfl, l2_go _ _ _ _ 1 y (by decide) (by simp) rfl hy (by omega) (by decide)]
      have ex : x * 2 % 256 * 2 % 256 * 2 % 256 / 8 = x % 16 := by omega
      rw [ex]
      by_cases e1 : y / 64 = 2
      · rw [if_pos e1, l2_go _ _ _ _ (1 + 1) z (by decide) (by simp) rfl hz (by omega) (by decide)]
        by_cases e2 : z / 64 = 2
        · rw [if_pos e2, l2_end _ _ _ _ _ (by decide) (by decide) (by decide) (by rw [mx_one.2.2.1]; simp only [List.length_cons]; omega), rds.2.2.1]
          unfold endW
          refine ⟨k + 11, by omega, ?_⟩
          rw [mx_one.2.2.1]
          simp only [charS, c1, d1, d2, d3, e1, e2, and_self, if_true, if_false]
          by_cases f : isC ((x % 16 * 64 + y % 64) * 64 + z % 64) ∧ ((enc ((x % 16 * 64 + y % 64) * 64 + z % 64)).length : Int) = 3
          · have f1 := f.1
            have f2 := f.2
            unfold isC at f1
            rw [enc_len] at f2
            have f3 : ¬ (x % 16 * 64 + y % 64) * 64 + z % 64 < 2048 := by
              intro w
              split at f2
              · simp at f2
              · first | (simp at f2; done) | (rw [if_pos w] at f2; simp at f2)
            rw [if_neg (by omega)]
            simp only [f, and_self, if_true]; first | done | (rw [if_neg (by decide)]; done) | (with_reducible rfl)
          · have f3 : (x % 16 * 64 + y % 64) * 64 + z % 64 < 2048 ∨ (55296 ≤ (x % 16 * 64 + y % 64) * 64 + z % 64 ∧ (x % 16 * 64 + y % 64) * 64 + z % 64 < 57344) := by
              by_cases w : (x % 16 * 64 + y % 64) * 64 + z % 64 < 2048 ∨ (55296 ≤ (x % 16 * 64 + y % 64) * 64 + z % 64 ∧ (x % 16 * 64 + y % 64) * 64 + z % 64 < 57344)
              · exact w
              · exfalso
                refine f ⟨by unfold isC; omega, ?_⟩
                rw [enc_len, if_neg (by omega), if_neg (by omega), if_pos (by omega)]; rfl
            rw [if_pos (by omega)]
            simp only [f, if_false, if_true]
        · refine ⟨k, by omega, ?_⟩
          rw [if_neg e2]
          simp only [charS, c1, d1, d2, d3, e2, and_false, if_true, if_false]
      · refine ⟨k, by omega, ?_⟩
        rw [if_neg e1]
        simp only [charS, c1, d1, d2, d3, e1, false_and, if_true, if_false]
  rw [l1_ge _ _ _ _ (by omega) (by omega), wr4]
  by_cases c5 : x < 248
  · have d1 : ¬ (x ≥ 248 ∨ x < 192) := by omega
    have d2 : x ≥ 240 := by omega
    rw [l1_lt _ _ _ _ (by omega) (by omega), if_neg (by decide), if_neg (by decide), mx_one.2.2.2]
    match r, hr with
    | [], _ => exact ⟨k, by omega, by rw [decide_eq_true (by simp), j2_t]; simp only [charS, c1, d1, d2, if_false, if_true]⟩
    | [y], _ => exact ⟨k, by omega, by rw [decide_eq_true (by simp), j2_t]; simp only [charS, c1, d1, d2, if_false, if_true]⟩
    | [y, z], _ => exact ⟨k, by omega, by rw [decide_eq_true (by simp), j2_t]; simp only [charS, c1, d1, d2, if_false, if_true]⟩
    | y :: z :: t :: q, hr =>
      have hy := hr y (by simp)
      have hz := hr z (by simp)
      have ht := hr t (by simp)
      rw [decide_eq_false (by simp only [List.length_cons]; omega), j2_f _ _ _ _ (by decide) (by decide), (shr_eq (x * 2 % 256 * 2 % 256 * 2 % 256 * 2 % 256) 0 (by omega) (by omega)).2.2.2, show (1 : Int) = ((1 : Nat) : Int) from rfl, l2_go _ _ _ _ 1 y (by decide) (by simp) rfl hy (by omega) (by decide)]
      have ex : x * 2 % 256 * 2 % 256 * 2 % 256 * 2 % 256 / 16 = x % 8 := by omega
      rw [ex]
      by_cases e1 : y / 64 = 2
      · rw [if_pos e1, l2_go _ _ _ _ (1 + 1) z (by decide) (by simp) rfl hz (by omega) (by decide)]
        by_cases e2 : z / 64 = 2
        · rw [if_pos e2, l2_go _ _ _ _ (1 + 1 + 1) t (by decide) (by simp) rfl ht (by omega) (by decide)]
          by_cases e3 : t / 64 = 2
          · rw [if_pos e3, l2_end _ _ _ _ _ (by decide) (by decide) (by decide) (by rw [mx_one.2.2.2]; simp only [List.length_cons]; omega), rds.2.2.2]
            unfold endW
            refine ⟨k + 9, by omega, ?_⟩
            rw [mx_one.2.2.2]
            simp only [charS, c1, d1, d2, e1, e2, e3, and_self, if_true, if_false]
            by_cases f : isC (((x % 8 * 64 + y % 64) * 64 + z % 64) * 64 + t % 64) ∧ ((enc (((x % 8 * 64 + y % 64) * 64 + z % 64) * 64 + t % 64)).length : Int) = 4
            · have f1 := f.1
              have f2 := f.2
              unfold isC at f1
              rw [enc_len] at f2
              have f3 : ¬ ((x % 8 * 64 + y % 64) * 64 + z % 64) * 64 + t % 64 < 65536 := by
                intro w
                split at f2
                · simp at f2
                · split at f2
                  · simp at f2
                  · first | (simp at f2; done) | (rw [if_pos w] at f2; simp at f2)
              rw [if_neg (by omega)]
              simp only [f, and_self, if_true]; first | done | (rw [if_neg (by decide)]; done) | (with_reducible rfl)
            · have f3 : ((x % 8 * 64 + y % 64) * 64 + z % 64) * 64 + t % 64 < 65536 ∨ ((x % 8 * 64 + y % 64) * 64 + z % 64) * 64 + t % 64 > 1114111 := by
                by_cases w : ((x % 8 * 64 + y % 64) * 64 + z % 64) * 64 + t % 64 < 65536 ∨ ((x % 8 * 64 + y % 64) * 64 + z % 64) * 64 + t % 64 > 1114111
                · exact w
                · exfalso
                  refine f ⟨by unfold isC; omega, ?_⟩
                  rw [enc_len, if_neg (by omega), if_neg (by omega), if_neg (by omega)]; rfl
              rw [if_pos (by omega)]
              simp only [f, if_false, if_true]
          · refine ⟨k, by omega, ?_⟩
            rw [if_neg e3]
            simp only [charS, c1, d1, d2, e3, and_false, if_true, if_false]
        · refine ⟨k, by omega, ?_⟩
          rw [if_neg e2]
          simp only [charS, c1, d1, d2, e2, and_false, false_and, if_true, if_false]
      · refine ⟨k, by omega, ?_⟩
        rw [if_neg e1]
        simp only [charS, c1, d1, d2, e1, false_and, if_true, if_false]
  · have e : charS (x :: r) = (0, 0) := by
      have : x ≥ 248 ∨ x < 192 := .inl (by omega)
      simp only [charS, c1, this, if_true, if_false]
    refine ⟨k, by omega, ?_⟩
    rw [e]
    show _ = some false
    rw [l1_ge _ _ _ _ (by omega) (by omega), wr5]
    by_cases d5 : x * 2 % 256 * 2 % 256 * 2 % 256 * 2 % 256 * 2 % 256 < 128
    · exact l1_five _ _ _ _ (by omega) d5 (by decide)
    rw [l1_ge _ _ _ _ (by omega) (by omega), wr6]
    by_cases d6 : x * 2 % 256 * 2 % 256 * 2 % 256 * 2 % 256 * 2 % 256 * 2 % 256 < 128
    · exact l1_five _ _ _ _ (by omega) d6 (by decide)
    rw [l1_ge _ _ _ _ (by omega) (by omega), wr7]
    by_cases d7 : x * 2 % 256 * 2 % 256 * 2 % 256 * 2 % 256 * 2 % 256 * 2 % 256 * 2 % 256 < 128
    · exact l1_five _ _ _ _ (by omega) d7 (by decide)
    rw [l1_ge _ _ _ _ (by omega) (by omega), wr8]
    exact l1_five _ _ _ _ (by omega) (by omega) (by decide)
/-- Told bit by bit: a text or none. -/
theorem whole_ok : ∀ (cs : List Int) (k : Nat), okL cs → 20 * cs.length < k → lw02_whole.l0 k (txt cs) = some true
  | [], k + 1, _, _ => by
    show lw02_whole.l0 (k + 1) [] = _
    simp [lw02_whole.l0]
  | c :: cs, k, h, hk => by
    rw [okL_cons] at h
    simp only [List.length_cons] at hk
    have hl := enc_length c
    obtain ⟨k0, rfl⟩ : ∃ q, k = q + 20 := ⟨k - 20, by omega⟩
    have hb := txt_byte (show okL (c :: cs) by rw [okL_cons]; exact h)
    rw [txt_cons] at hb ⊢
    have hcs := charS_enc c (txt cs) h.1
    cases hz : enc c ++ txt cs with
    | nil =>
      have := congrArg List.length hz
      simp only [List.length_append, List.length_nil] at this
      omega
    | cons x r =>
      rw [hz] at hb hcs
      obtain ⟨k', h1, h2⟩ := whole_step k0 x r (hb x (by simp)) (fun y hy => hb y (List.mem_cons_of_mem _ hy))
      rw [h2, hcs]
      simp only []
      rw [if_neg (by omega), Int.toNat_natCast, ← hz, List.drop_left]
      exact whole_ok cs k' h.2 (by omega)
theorem whole_bad : ∀ (n : Nat) (l : List Int) (k : Nat), l.length ≤ n → (∀ x ∈ l, 0 ≤ x ∧ x < 256) → (∀ cs, okL cs → l ≠ txt cs) → 20 * n < k → lw02_whole.l0 k l = some false
  | _, [], _, _, _, hb, _ => absurd txt_nil.symm (hb [] okL_nil)
  | 0, _ :: _, _, h, _, _, _ => by simp at h
  | n + 1, x :: r, k, h, hb, hbad, hk => by
    simp only [List.length_cons] at h
    obtain ⟨k0, rfl⟩ : ∃ q, k = q + 20 := ⟨k - 20, by omega⟩
    have hx := hb x (by simp)
    have hr : ∀ y ∈ r, 0 ≤ y ∧ y < 256 := fun y hy => hb y (List.mem_cons_of_mem _ hy)
    obtain ⟨k', h1, h2⟩ := whole_step k0 x r hx hr
    rw [h2]
    rcases charS_spec x r hx hr with e | ⟨c, q, hc, he, e⟩
    · rw [e]; rfl
    · have hl := enc_length c
      have hlen := congrArg List.length he
      simp only [List.length_cons, List.length_append] at hlen
      rw [e]
      simp only []
      rw [if_neg (by omega), Int.toNat_natCast, he, List.drop_left]
      refine whole_bad n q k' (by omega) ?_ ?_ (by omega)
      · intro y hy; exact hb y (by rw [he]; exact List.mem_append_right _ hy)
      · intro cs hcs hq
        exact hbad (c :: cs) (by rw [okL_cons]; exact ⟨hc, hcs⟩) (by rw [txt_cons, he, hq])
theorem UtfOne (b0 b1 b2 b3 n : Int) (h0 : (Lit.int .u8 b0).wf = true) (h1 : (Lit.int .u8 b1).wf = true) (h2 : (Lit.int .u8 b2).wf = true) (h3 : (Lit.int .u8 b3).wf = true) (hn : (Lit.int .u8 n).wf = true) :
    ∃ (k q : Nat) (t : Bool), q < 5 ∧ Int.tmod (wrap64 n) 5 = (q : Int) ∧ utf_Right.f k (([b0, b1, b2, b3] : List Int).take q) = some t ∧ lw02_whole.f k (([b0, b1, b2, b3] : List Int).take q) = some t ∧ lw02_works.f k = some true := by
  have hn' := wf8 hn
  refine ⟨1000, n.toNat % 5, ?_⟩
  generalize hq : n.toNat % 5 = q
  have hq5 : q < 5 := by omega
  have hb : ∀ x ∈ ([b0, b1, b2, b3] : List Int).take q, 0 ≤ x ∧ x < 256 := by
    intro x hx
    have := List.mem_of_mem_take hx
    simp only [List.mem_cons, List.not_mem_nil, or_false] at this
    rcases this with rfl | rfl | rfl | rfl
    · exact wf8 h0
    · exact wf8 h1
    · exact wf8 h2
    · exact wf8 h3
  have hl : (([b0, b1, b2, b3] : List Int).take q).length ≤ 4 := by rw [List.length_take]; simp; omega
  have hm : Int.tmod (wrap64 n) 5 = (q : Int) := by
    rw [w64 n hn'.1 (by omega), Int.tmod_eq_emod_of_nonneg hn'.1]; omega
  rcases chars_eq _ hb (by omega) with ⟨cs, g1, g2, g3, g4⟩ | ⟨g1, g2⟩
  · refine ⟨true, hq5, hm, ?_, ?_, works_eq _ (by omega)⟩
    · rw [g2]; exact right_txt cs g1 (by omega) _ (by omega)
    · rw [g2]; exact whole_ok cs _ g1 (by omega)
  · exact ⟨false, hq5, hm, right_no _ hb g1 (by omega) _ (by omega), whole_bad 4 _ _ hl hb g1 (by omega), works_eq _ (by omega)⟩
end Go.Proofs.YtbbgmokpniigfaaDoor.Pure
