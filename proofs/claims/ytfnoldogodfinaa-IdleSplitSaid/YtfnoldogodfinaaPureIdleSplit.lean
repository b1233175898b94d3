/- The plain law of IdleSplit: what was sent turns nothing of what is late, and what came nothing of what is due; for all inputs, within the law's own bounds. No condition of our own. -/
import Derived.Test.YtfnoldogodfinaaPIdleSplitx2
namespace Go.Proofs.Ytfnoldogodfinaa.Pure
set_option linter.unusedVariables false
open Go.RowKit Go.Proofs.Ytfnoldogodfinaa.PIdleSplit Go.Proofs.YtfnoldogodfinaaW.PrintWords Go.Proofs.YtfnoldogodfinaaW.PrintLast Go.Proofs.YtfnoldogodfinaaW.PrintMore

theorem wf32 {a : Int} (h : (Lit.int .u32 a).wf = true) : 0 ≤ a ∧ a < 4294967296 := by
  simp [Lit.wf, IntKind.min, IntKind.max, IntKind.bits, IntKind.signed] at h
  omega
theorem wf16 {a : Int} (h : (Lit.int .u16 a).wf = true) : 0 ≤ a ∧ a < 65536 := by
  simp [Lit.wf, IntKind.min, IntKind.max, IntKind.bits, IntKind.signed] at h
  omega
theorem wfi {a : Int} (h : (Lit.int .i64 a).wf = true) : -9223372036854775808 ≤ a ∧ a ≤ 9223372036854775807 := by
  simp [Lit.wf, IntKind.min, IntKind.max, IntKind.bits, IntKind.signed] at h
  omega
theorem tm (n m : Int) : (0 ≤ n → Int.tmod n m = n % m) ∧ (n < 0 → Int.tmod n m = -((-n) % m)) := by
  refine ⟨fun h => Int.tmod_eq_emod_of_nonneg h, fun h => ?_⟩
  have e : Int.tmod (-(-n)) m = -Int.tmod (-n) m := Int.neg_tmod ..
  rw [Int.neg_neg] at e
  rw [e, Int.tmod_eq_emod_of_nonneg (by omega)]
/-- A moment as it counts. -/
def mom (n t : Int) : Int := mn (mx n t) 2305843009213693952
theorem mom_at (n t : Int) (h : t ≤ n) (hn : n ≤ 2305843009213693952) : mom n t = n := by
  unfold mom mn mx
  by_cases e : n < t
  · omega
  · rw [if_neg e, if_neg (by omega)]
/-- How long a peer may be let wait. -/
def gap (p : Int) : Int := mx (p / 2) 1
theorem gap_le (p : Int) (h : 0 ≤ p) : 1 ≤ gap p ∧ (2 ≤ p → gap p < p) ∧ gap p ≤ p / 2 + 1 := by
  unfold gap mx
  split <;> omega
theorem got_eq (o p g s t n : Int) : idle_Idle_Got.f o p g s t n = some (o, p, mom n t, s, mom n t) := rfl
theorem sent_eq (o p g s t n : Int) : idle_Idle_Sent.f o p g s t n = some (o, p, g, mom n t, mom n t) := rfl
theorem late_eq (o p g s t n : Int) (ho : 0 ≤ o ∧ o ≤ 1048576) (hg : 0 ≤ g ∧ g ≤ 2305843009213693952) :
    idle_Idle_Late.f o p g s t n = some (decide (0 < o ∧ g + o ≤ mom n t), o, p, g, s, t) := by
  have hw : wrap64 (g + o) = g + o := by unfold wrap64; omega
  unfold idle_Idle_Late.f idle_Idle_lateAt.f idle_Idle_moment.f
  simp only [Option.bind_some, hw]
  by_cases h : 0 < o
  · rw [if_pos (decide_eq_true h)]
    congr 2
    show decide (mom n t ≥ g + o) = _
    rw [decide_eq_decide]
    exact ⟨fun q => ⟨h, q⟩, fun q => q.2⟩
  · rw [if_neg (by simpa using h)]
    congr 2
    symm
    rw [decide_eq_false_iff_not]
    exact fun q => h q.1
theorem due_eq (o p g s t n : Int) (hp : 0 ≤ p ∧ p ≤ 1048576) (hs : 0 ≤ s ∧ s ≤ 2305843009213693952) :
    idle_Idle_Due.f o p g s t n = some (decide (0 < p ∧ s + gap p ≤ mom n t), o, p, g, s, t) := by
  have hd : Int.tdiv p 2 = p / 2 := Int.tdiv_eq_ediv_of_nonneg hp.1
  have hw1 : wrap64 (p / 2) = p / 2 := by unfold wrap64; omega
  have hb := gap_le p hp.1
  have hw : wrap64 (s + gap p) = s + gap p := by unfold wrap64; omega
  unfold idle_Idle_Due.f idle_Idle_dueAt.f idle_Idle_moment.f
  simp only [Option.bind_some, hd, hw1]
  have e : mx (p / 2) 1 = gap p := rfl
  rw [e, hw]
  by_cases h : 0 < p
  · rw [if_pos (decide_eq_true h)]
    congr 2
    show decide (mom n t ≥ s + gap p) = _
    rw [decide_eq_decide]
    exact ⟨fun q => ⟨h, q⟩, fun q => q.2⟩
  · rw [if_neg (by simpa using h)]
    congr 2
    symm
    rw [decide_eq_false_iff_not]
    exact fun q => h q.1
theorem new_eq (a b n : Int) (ha : 0 ≤ a) (hb : 0 ≤ b) : idle_New.f a b n = some (mn a 1048576, mn b 1048576, mom n 0, mom n 0, mom n 0) := by
  have h1 : wrap64 (mn a 1048576) = mn a 1048576 := by unfold wrap64 mn; split <;> omega
  have h2 : wrap64 (mn b 1048576) = mn b 1048576 := by unfold wrap64 mn; split <;> omega
  have h3 : mom n (mom n 0) = mom n 0 := by
    unfold mom mn mx
    repeat' split
    all_goals omega
  unfold idle_New.f
  rw [h1, h2, got_eq]
  simp only [Option.bind_some]
  rw [sent_eq, h3]
theorem works_ge (k : Nat) (hk : 3 ≤ k) : lw14_works.f k = some true :=
  at_rounds (g := fun k => lw14_works.f k) (fun k => lw14_works.mono k) hk (by decide +kernel)
theorem rd_range (xs : List Int) (hx : ∀ x ∈ xs, (Lit.int .u16 x).wf = true) (i : Int) (h0 : 0 ≤ i) (h1 : i < (xs.length : Int)) : 0 ≤ rd xs i ∧ rd xs i < 65536 := by
  unfold rd
  have h : i.toNat < xs.length := by omega
  rw [List.getD_eq_getElem?_getD, List.getElem?_eq_getElem h]
  exact wf16 (hx _ (List.getElem_mem h))
theorem loop (o p : Int) (ho : 0 ≤ o ∧ o ≤ 1048576) (hp : 0 ≤ p ∧ p ≤ 1048576) (xs : List Int) (bs : List Bool) (hl : xs.length ≤ 200) (hb : xs.length ≤ bs.length) (hx : ∀ x ∈ xs, (Lit.int .u16 x).wf = true) (d : Nat) :
    ∀ (k : Nat) (n i g s t1 t2 t3 s2 g3 : Int), 0 ≤ i → i ≤ (xs.length : Int) → (xs.length : Int) - i = d → 2 * d + 4 ≤ k → 0 ≤ n → n ≤ 65536 * i → 0 ≤ g → g ≤ n → 0 ≤ s → s ≤ n → t1 ≤ n → t2 ≤ n → t3 ≤ n →
      lw14_IdleSplit.l0 k xs bs n i o p g s t1 o 0 g s2 t2 0 p g3 s t3 = some true := by
  induction d with
  | zero =>
    intro k n i g s t1 t2 t3 s2 g3 h0 h1 hd hk hn0 hn1 hg0 hg1 hs0 hs1 ht1 ht2 ht3
    obtain ⟨k, rfl⟩ : ∃ m, k = m + 1 := ⟨k - 1, by omega⟩
    simp only [lw14_IdleSplit.l0]
    rw [if_neg (by omega), works_ge _ (by omega)]
    rfl
  | succ d ih =>
    intro k n i g s t1 t2 t3 s2 g3 h0 h1 hd hk hn0 hn1 hg0 hg1 hs0 hs1 ht1 ht2 ht3
    obtain ⟨k, rfl⟩ : ∃ m, k = m + 2 := ⟨k - 2, by omega⟩
    have hr := rd_range xs hx i h0 (by omega)
    have hw0 : wrap64 (rd xs i) = rd xs i := by unfold wrap64; omega
    have hw : wrap64 (n + rd xs i) = n + rd xs i := by unfold wrap64; omega
    have hwi : wrap64 (i + 1) = i + 1 := by unfold wrap64; omega
    simp only [lw14_IdleSplit.l0, hw0, hw]
    generalize hm : n + rd xs i = m
    rw [if_pos (by omega), if_pos h0, late_eq _ _ _ _ _ _ ho (by omega), late_eq _ _ _ _ _ _ ho (by omega), mom_at m t1 (by omega) (by omega), mom_at m t2 (by omega) (by omega)]
    simp only [Option.bind_some]
    rw [if_neg (by simp), due_eq _ _ _ _ _ _ hp (by omega), due_eq _ _ _ _ _ _ hp (by omega), mom_at m t1 (by omega) (by omega), mom_at m t3 (by omega) (by omega)]
    simp only [Option.bind_some, bne_self_eq_false, lw14_IdleSplit.j2, got_eq, sent_eq, hwi]
    rw [if_neg (by decide), if_pos h0, if_pos (by omega), mom_at m t1 (by omega) (by omega), mom_at m t2 (by omega) (by omega), mom_at m t3 (by omega) (by omega)]
    split
    · exact ih k m (i + 1) m s m m t3 s2 g3 (by omega) (by omega) (by omega) (by omega) (by omega) (by omega) (by omega) (by omega) (by omega) (by omega) (by omega) (by omega) (by omega)
    · exact ih k m (i + 1) g m m t2 m s2 g3 (by omega) (by omega) (by omega) (by omega) (by omega) (by omega) (by omega) (by omega) (by omega) (by omega) (by omega) (by omega) (by omega)
theorem IdleSplit : lw14_IdleSplit.Pure := by
  intro o p xs bs ho hp hm hx hmb
  replace ho := wf32 ho
  replace hp := wf32 hp
  have m2 : mn 0 1048576 = 0 := by decide
  have m3 : mom 0 0 = 0 := mom_at 0 0 (by omega) (by omega)
  have m4 : ∀ a : Int, 0 ≤ a → 0 ≤ mn a 1048576 ∧ mn a 1048576 ≤ 1048576 := by intro a ha; unfold mn; split <;> omega
  refine ⟨2 * xs.length + 10, ?_⟩
  unfold lw14_IdleSplit.f
  by_cases h : (xs.length : Int) > 200
  · rw [if_pos h]
    simp only [lw14_IdleSplit.j0]
    rw [if_pos trivial, works_ge _ (by omega)]; rfl
  · rw [if_neg h]
    by_cases h2 : (bs.length : Int) < (xs.length : Int)
    · rw [decide_eq_true h2]
      simp only [lw14_IdleSplit.j0]
      rw [if_pos trivial, works_ge _ (by omega)]; rfl
    · rw [decide_eq_false h2]
      simp only [lw14_IdleSplit.j0]
      rw [if_neg (by decide), new_eq _ _ _ ho.1 hp.1, new_eq _ _ _ ho.1 (by omega), new_eq _ _ _ (by omega) hp.1, m2, m3]
      simp only [Option.bind_some]
      exact loop _ _ (m4 o ho.1) (m4 p hp.1) xs bs (by omega) (by omega) hx xs.length _ 0 0 0 0 0 0 0 0 0 (by omega) (by omega) (by omega) (by omega) (by omega) (by omega) (by omega) (by omega) (by omega) (by omega) (by omega) (by omega) (by omega)

end Go.Proofs.Ytfnoldogodfinaa.Pure
