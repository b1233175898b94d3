/- The plain law of CreditRound: where counts are moved by one and the same, the same is left; for all inputs, at most 300 things being done (the law's own bound). No condition of our own. -/
import Derived.Test.YtadbpgljamkoeaaPCreditRoundx4
namespace Go.Proofs.Ytadbpgljamkoeaa.Pure
set_option linter.unusedVariables false
open Go.RowKit Go.Proofs.Ytadbpgljamkoeaa.PCreditRound Go.Proofs.YtadbpgljamkoeaaW.PrintWords Go.Proofs.YtadbpgljamkoeaaW.PrintLast Go.Proofs.YtadbpgljamkoeaaW.PrintMore

theorem wf32 {a : Int} (h : (Lit.int .u32 a).wf = true) : 0 ≤ a ∧ a < 4294967296 := by
  simp [Lit.wf, IntKind.min, IntKind.max, IntKind.bits, IntKind.signed] at h
  omega
theorem wf16 {a : Int} (h : (Lit.int .u16 a).wf = true) : 0 ≤ a ∧ a < 65536 := by
  simp [Lit.wf, IntKind.min, IntKind.max, IntKind.bits, IntKind.signed] at h
  omega
theorem near_eq (n : Int) : serial_near_uint32.f n = some (decide (n < 2147483648)) := by
  have e : Go.bits .xor .u32 Go.IntKind.u32.max 0 / 2 = 2147483647 := by decide +kernel
  unfold serial_near_uint32.f
  rw [e]
  congr 1
  rw [decide_eq_decide]
  omega
/-- What is left behind a flow. -/
def toldL (c a b : Int) : Int := if (a + b - c) % 4294967296 < 2147483648 then mn ((a + b - c) % 4294967296) 1000 else 0
theorem told_eq (c l : Int) (d : Bool) (a b : Int) (e : Bool) (hc : 0 ≤ c ∧ c < 4294967296) (hb : 0 ≤ b ∧ b < 4294967296) :
    cr_Told.f c l d a b e = some (c, toldL c a b, e) := by
  have hw : wrap64 b = b := by unfold wrap64; omega
  unfold cr_Told.f serial_Add.f serial_Less.f serial_steps_uint32.f toldL
  simp only [near_eq, Option.bind_some, hw, Int.emod_sub_emod]
  by_cases h : c = (a + b) % 4294967296
  · have h0 : (a + b - c) % 4294967296 = 0 := by omega
    rw [if_pos h]
    simp only [Option.bind_some, h0]
    rfl
  · rw [if_neg h]
    simp only [Option.bind_some]
    by_cases h1 : (a + b - c) % 4294967296 < 2147483648
    · simp only [h1, decide_true, if_true]
    · simp only [h1, decide_false, if_false, Bool.false_eq_true]
theorem take_eq (c l : Int) (d : Bool) (n : Int) (hn : 0 ≤ n ∧ n < 4294967296) : cr_take.f c l d n = some ((c + n) % 4294967296, (l - n) % 4294967296, d) := by
  have hw : wrap64 n = n := by unfold wrap64; omega
  unfold cr_take.f serial_Add.f
  rw [hw]
  rfl
theorem Take_eq (c l : Int) (d : Bool) (hl : 0 ≤ l ∧ l ≤ 1000) : cr_Take.f c l d = if l = 0 then some (false, c, l, d) else some (true, (c + 1) % 4294967296, l - 1, d) := by
  unfold cr_Take.f
  rw [take_eq _ _ _ 1 (by omega)]
  simp only [Option.bind_some]
  split
  · rfl
  · have : (l - 1) % 4294967296 = l - 1 := by omega
    rw [this]
theorem Dry_eq (c l : Int) (d : Bool) (hl : 0 ≤ l ∧ l ≤ 1000) : cr_Dry.f c l d = if d = true then some (l, true, (c + l) % 4294967296, 0, false) else some (0, false, c, l, d) := by
  unfold cr_Dry.f
  rw [take_eq _ _ _ l (by omega)]
  simp only [Option.bind_some]
  have : (l - l) % 4294967296 = 0 := by omega
  rw [this]
theorem Heard_eq (c l : Int) (d : Bool) (a : Int) (hc : 0 ≤ c ∧ c < 4294967296) (ha : 0 ≤ a ∧ a < 4294967296) (hl : 0 ≤ l ∧ l ≤ 1000) :
    cr_Heard.f c l d a = if (a - c) % 4294967296 > l then some (c, l, d) else some (a, l - (a - c) % 4294967296, d && decide (0 < l - (a - c) % 4294967296)) := by
  unfold cr_Heard.f
  rw [take_eq _ _ _ _ (by omega)]
  simp only [Option.bind_some]
  by_cases h : (a - c) % 4294967296 > l
  · rw [if_pos h, if_pos h]
  · rw [if_neg h, if_neg h]
    have e1 : (c + (a - c) % 4294967296) % 4294967296 = a := by omega
    have e2 : (l - (a - c) % 4294967296) % 4294967296 = l - (a - c) % 4294967296 := by omega
    rw [e1, e2]
    cases d <;> simp
theorem works_ge (k : Nat) (hk : 3 ≤ k) : lw16_works.f k = some true :=
  at_rounds (g := fun k => lw16_works.f k) (fun k => lw16_works.mono k) hk (by decide +kernel)
theorem mem_rd (xs : List S33) (i : Int) (h0 : 0 ≤ i) (h1 : i < (xs.length : Int)) : rd_T33 xs i ∈ xs := by
  unfold rd_T33
  have h : i.toNat < xs.length := by omega
  rw [List.getD_eq_getElem?_getD, List.getElem?_eq_getElem h]
  exact List.getElem_mem h
/-- One thing done: what it answers, and what is held behind it. -/
def stp (c l : Int) (d : Bool) (k a b : Int) (e : Bool) : Int × Bool × Int × Int × Bool :=
  if k = 0 then (0, false, c, toldL c a b, e)
  else if k = 1 then (if (a - c) % 4294967296 > l then (0, false, c, l, d) else (0, false, a, l - (a - c) % 4294967296, d && decide (0 < l - (a - c) % 4294967296)))
  else if k = 2 then (c, false, c, mn b 1000, e)
  else if k = 3 then (if l = 0 then (0, false, c, l, d) else (0, true, (c + 1) % 4294967296, l - 1, d))
  else if k = 4 then (if d = true then (l, true, (c + l) % 4294967296, 0, false) else (0, false, c, l, d))
  else (0, false, c, l, d)
theorem does_eq (c l : Int) (d : Bool) (k a b : Int) (e : Bool) (hc : 0 ≤ c ∧ c < 4294967296) (hl : 0 ≤ l ∧ l ≤ 1000) (ha : 0 ≤ a ∧ a < 4294967296) (hb : 0 ≤ b ∧ b < 4294967296) :
    lw16_does.f c l d k a b e = some (stp c l d k a b e) := by
  unfold lw16_does.f stp
  rw [told_eq c l d a b e hc hb, Heard_eq c l d a hc ha hl, Take_eq c l d hl, Dry_eq c l d hl]
  unfold cr_Grant.f
  by_cases h0 : k = 0
  · simp only [h0, if_true, Option.bind_some]
  rw [if_neg h0, if_neg h0]
  by_cases h1 : k = 1
  · rw [if_pos h1, if_pos h1]; split <;> rfl
  rw [if_neg h1, if_neg h1]
  by_cases h2 : k = 2
  · rw [if_pos h2, if_pos h2]; rfl
  rw [if_neg h2, if_neg h2]
  by_cases h3 : k = 3
  · rw [if_pos h3, if_pos h3]; split <;> rfl
  rw [if_neg h3, if_neg h3]
  by_cases h4 : k = 4
  · rw [if_pos h4, if_pos h4]; split <;> rfl
  rw [if_neg h4, if_neg h4]
theorem toldL_range (c a b : Int) : 0 ≤ toldL c a b ∧ toldL c a b ≤ 1000 := by
  unfold toldL mn
  split <;> (try split) <;> omega
theorem stp_inv (c l : Int) (d : Bool) (k a b : Int) (e : Bool) (hc : 0 ≤ c ∧ c < 4294967296) (hl : 0 ≤ l ∧ l ≤ 1000) (ha : 0 ≤ a ∧ a < 4294967296) (hb : 0 ≤ b ∧ b < 4294967296) :
    (0 ≤ (stp c l d k a b e).2.2.1 ∧ (stp c l d k a b e).2.2.1 < 4294967296) ∧ 0 ≤ (stp c l d k a b e).2.2.2.1 ∧ (stp c l d k a b e).2.2.2.1 ≤ 1000 := by
  have ht := toldL_range c a b
  unfold stp
  split
  · exact ⟨hc, ht⟩
  split
  · split
    · exact ⟨hc, hl⟩
    · exact ⟨ha, by simp only; omega⟩
  split
  · exact ⟨hc, by simp only [mn]; split <;> omega⟩
  split
  · split
    · exact ⟨hc, hl⟩
    · exact ⟨by simp only; omega, by simp only; omega⟩
  split
  · split
    · exact ⟨by simp only; omega, by simp only; omega⟩
    · exact ⟨hc, hl⟩
  exact ⟨hc, hl⟩
theorem stp_shift (c l : Int) (d : Bool) (k a b : Int) (e : Bool) (s : Int) (hc : 0 ≤ c ∧ c < 4294967296) (hl : 0 ≤ l ∧ l ≤ 1000) (ha : 0 ≤ a ∧ a < 4294967296) :
    stp ((c + s) % 4294967296) l d k (if k = 0 ∨ k = 1 then (a + s) % 4294967296 else a) b e =
      (if k = 2 then ((stp c l d k a b e).1 + s) % 4294967296 else (stp c l d k a b e).1, (stp c l d k a b e).2.1, ((stp c l d k a b e).2.2.1 + s) % 4294967296, (stp c l d k a b e).2.2.2.1, (stp c l d k a b e).2.2.2.2) := by
  unfold stp toldL
  by_cases h0 : k = 0
  · subst h0
    have e1 : ((a + s) % 4294967296 + b - (c + s) % 4294967296) % 4294967296 = (a + b - c) % 4294967296 := by omega
    simp [e1]
  by_cases h1 : k = 1
  · subst h1
    have e1 : ((a + s) % 4294967296 - (c + s) % 4294967296) % 4294967296 = (a - c) % 4294967296 := by omega
    simp only [if_neg h0, or_true, if_true, e1]
    simp only [show ¬ ((1 : Int) = 2) from by decide, if_false]
    split <;> rfl
  by_cases h2 : k = 2
  · subst h2; simp
  by_cases h3 : k = 3
  · subst h3
    have e1 : ((c + s) % 4294967296 + 1) % 4294967296 = ((c + 1) % 4294967296 + s) % 4294967296 := by omega
    simp only [show ¬ ((3 : Int) = 0) from by decide, show ¬ ((3 : Int) = 1) from by decide, show ¬ ((3 : Int) = 2) from by decide, if_false, if_true, e1]
    split <;> rfl
  by_cases h4 : k = 4
  · subst h4
    have e1 : ((c + s) % 4294967296 + l) % 4294967296 = ((c + l) % 4294967296 + s) % 4294967296 := by omega
    simp only [show ¬ ((4 : Int) = 0) from by decide, show ¬ ((4 : Int) = 1) from by decide, show ¬ ((4 : Int) = 2) from by decide, show ¬ ((4 : Int) = 3) from by decide, if_false, if_true, e1]
    split <;> rfl
  · simp only [if_neg h0, if_neg h1, if_neg h2, if_neg h3, if_neg h4]
theorem stp_two (c l : Int) (d : Bool) (a b : Int) (e : Bool) : (stp c l d 2 a b e).1 = c := by
  unfold stp; simp
theorem loop (s : Int) (xs : List S33) (hs : 0 ≤ s ∧ s < 4294967296) (hl : xs.length ≤ 300) (hx : ∀ x ∈ xs, (Lit.int .i64 x.f0).wf = true ∧ (Lit.int .u32 x.f1).wf = true ∧ (Lit.int .u32 x.f2).wf = true) (d : Nat) :
    ∀ (k : Nat) (i c l : Int) (dr : Bool), 0 ≤ i → i ≤ (xs.length : Int) → (xs.length : Int) - i = d → 4 * d + 4 ≤ k → (0 ≤ c ∧ c < 4294967296) → (0 ≤ l ∧ l ≤ 1000) →
      lw16_CreditRound.l0 k s xs i c l dr ((c + s) % 4294967296) l dr = some true := by
  induction d with
  | zero =>
    intro k i c l dr h0 h1 hd hk hc hl2
    obtain ⟨k, rfl⟩ : ∃ m, k = m + 1 := ⟨k - 1, by omega⟩
    simp only [lw16_CreditRound.l0]
    rw [if_neg (by omega), works_ge _ (by omega)]
    rfl
  | succ d ih =>
    intro k i c l dr h0 h1 hd hk hc hl2
    obtain ⟨k, rfl⟩ : ∃ m, k = m + 4 := ⟨k - 4, by omega⟩
    have hlt : i < (xs.length : Int) := by omega
    obtain ⟨_, ha, hb⟩ := hx _ (mem_rd xs i h0 hlt)
    replace ha := wf32 ha
    replace hb := wf32 hb
    have hw : wrap64 (i + 1) = i + 1 := by unfold wrap64; omega
    have J2 : ∀ a' : Int, a' = (if (rd_T33 xs i).f0 = 0 ∨ (rd_T33 xs i).f0 = 1 then ((rd_T33 xs i).f1 + s) % 4294967296 else (rd_T33 xs i).f1) →
        lw16_CreditRound.j2 (k + 2) s xs i c l dr ((c + s) % 4294967296) l dr (rd_T33 xs i).f0 (rd_T33 xs i).f1 (rd_T33 xs i).f2 (rd_T33 xs i).f3 (rd_T33 xs i).f0 a' (rd_T33 xs i).f2 (rd_T33 xs i).f3 = some true := by
      intro a' ha'
      have ha2 : 0 ≤ a' ∧ a' < 4294967296 := by rw [ha']; split <;> omega
      simp only [lw16_CreditRound.j2]
      rw [does_eq _ _ _ _ _ _ _ hc hl2 ha hb, does_eq _ _ _ _ _ _ _ (by omega) hl2 ha2 hb, ha', stp_shift c l dr _ _ _ _ s hc hl2 ha]
      have hi := stp_inv c l dr (rd_T33 xs i).f0 (rd_T33 xs i).f1 (rd_T33 xs i).f2 (rd_T33 xs i).f3 hc hl2 ha hb
      have h2 : (rd_T33 xs i).f0 = 2 → (stp c l dr (rd_T33 xs i).f0 (rd_T33 xs i).f1 (rd_T33 xs i).f2 (rd_T33 xs i).f3).1 = c := fun h => by rw [h]; exact stp_two _ _ _ _ _ _
      generalize stp c l dr (rd_T33 xs i).f0 (rd_T33 xs i).f1 (rd_T33 xs i).f2 (rd_T33 xs i).f3 = r at hi h2 ⊢
      obtain ⟨r1, r2, c', l', d'⟩ := r
      simp only at hi h2
      simp only [Option.bind_some]
      have J3 : ∀ y : Int, y = r1 → lw16_CreditRound.j3 (k + 1) s xs i c' l' d' ((c' + s) % 4294967296) l' d' r1 r2 y r2 = some true := by
        intro y hy
        subst hy
        simp only [lw16_CreditRound.j3, cr_Left.f, Option.bind_some, hw]
        rw [if_neg (by simp), if_pos (by omega), if_pos trivial, if_neg (by simp)]
        exact ih k (i + 1) c' l' d' (by omega) (by omega) (by omega) (by omega) hi.1 hi.2
      by_cases h : (rd_T33 xs i).f0 = 2
      · rw [if_pos h, if_pos h]
        exact J3 _ (by have := h2 h; omega)
      · rw [if_neg h, if_neg h]
        exact J3 _ rfl
    simp only [lw16_CreditRound.l0]
    rw [if_pos hlt, if_pos h0]
    by_cases hk0 : (rd_T33 xs i).f0 = 0
    · rw [if_pos hk0]
      simp only [lw16_CreditRound.j1]
      rw [if_pos trivial]
      exact J2 _ (by rw [if_pos (.inl hk0)])
    · rw [if_neg hk0]
      simp only [lw16_CreditRound.j1]
      by_cases hk1 : (rd_T33 xs i).f0 = 1
      · rw [if_pos (beq_iff_eq.mpr hk1)]
        exact J2 _ (by rw [if_pos (.inr hk1)])
      · rw [if_neg (by rw [beq_iff_eq]; exact hk1)]
        exact J2 _ (by rw [if_neg (by omega)])
theorem CreditRound : lw16_CreditRound.Pure := by
  intro a s xs ha hs hm hx
  replace ha := wf32 ha
  replace hs := wf32 hs
  refine ⟨4 * xs.length + 10, ?_⟩
  unfold lw16_CreditRound.f credit_New.f
  by_cases h : (xs.length : Int) > 300
  · rw [if_pos h, works_ge _ (by omega)]; rfl
  · rw [if_neg h]
    simp only [Option.bind_some]
    exact loop s xs hs (by omega) hx xs.length _ 0 a 0 false (by omega) (by omega) (by omega) (by omega) ha (by omega)

end Go.Proofs.Ytadbpgljamkoeaa.Pure
