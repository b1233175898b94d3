/- The plain law of IdleMeets: two ends of which each sends what is due at each tick are never late to one another; for all inputs, within the law's own bounds. No condition of our own. -/
import Derived.Test.YtfnoldogodfinaaPIdleMeetsx2
namespace Go.Proofs.Ytfnoldogodfinaa.Pure
set_option linter.unusedVariables false
open Go.RowKit Go.Proofs.Ytfnoldogodfinaa.PIdleMeets Go.Proofs.YtfnoldogodfinaaW.PrintWords Go.Proofs.YtfnoldogodfinaaW.PrintLast Go.Proofs.YtfnoldogodfinaaW.PrintMore

theorem wf32 {a : Int} (h : (Lit.int .u32 a).wf = true) : 0 ≤ a ∧ a < 4294967296 := by
  simp [Lit.wf, IntKind.min, IntKind.max, IntKind.bits, IntKind.signed] at h
  omega
theorem wf16 {a : Int} (h : (Lit.int .u16 a).wf = true) : 0 ≤ a ∧ a < 65536 := by
  simp [Lit.wf, IntKind.min, IntKind.max, IntKind.bits, IntKind.signed] at h
  omega
theorem wfi {a : Int} (h : (Lit.int .i64 a).wf = true) : -9223372036854775808 ≤ a ∧ a ≤ 9223372036854775807 := by
  simp [Lit.wf, IntKind.min, IntKind.max, IntKind.bits, IntKind.signed] at h
  omega
theorem tm (n m : Int) : (0 ≤ n → Int.tmod n m = n % m) ∧ (n < 0 → Int.tmod n m = -((-n) % m)) := by
  refine ⟨fun h => Int.tmod_eq_emod_of_nonneg h, fun h => ?_⟩
  have e : Int.tmod (-(-n)) m = -Int.tmod (-n) m := Int.neg_tmod ..
  rw [Int.neg_neg] at e
  rw [e, Int.tmod_eq_emod_of_nonneg (by omega)]
/-- A moment as it counts. -/
def mom (n t : Int) : Int := mn (mx n t) 2305843009213693952
theorem mom_at (n t : Int) (h : t ≤ n) (hn : n ≤ 2305843009213693952) : mom n t = n := by
  unfold mom mn mx
  by_cases e : n < t
  · omega
  · rw [if_neg e, if_neg (by omega)]
/-- How long a peer may be let wait. -/
def gap (p : Int) : Int := mx (p / 2) 1
theorem gap_le (p : Int) (h : 0 ≤ p) : 1 ≤ gap p ∧ (2 ≤ p → gap p < p) ∧ gap p ≤ p / 2 + 1 := by
  unfold gap mx
  split <;> omega
theorem got_eq (o p g s t n : Int) : idle_Idle_Got.f o p g s t n = some (o, p, mom n t, s, mom n t) := rfl
theorem sent_eq (o p g s t n : Int) : idle_Idle_Sent.f o p g s t n = some (o, p, g, mom n t, mom n t) := rfl
theorem late_eq (o p g s t n : Int) (ho : 0 ≤ o ∧ o ≤ 1048576) (hg : 0 ≤ g ∧ g ≤ 2305843009213693952) :
    idle_Idle_Late.f o p g s t n = some (decide (0 < o ∧ g + o ≤ mom n t), o, p, g, s, t) := by
  have hw : wrap64 (g + o) = g + o := by unfold wrap64; omega
  unfold idle_Idle_Late.f idle_Idle_lateAt.f idle_Idle_moment.f
  simp only [Option.bind_some, hw]
  by_cases h : 0 < o
  · rw [if_pos (decide_eq_true h)]
    congr 2
    show decide (mom n t ≥ g + o) = _
    rw [decide_eq_decide]
    exact ⟨fun q => ⟨h, q⟩, fun q => q.2⟩
  · rw [if_neg (by simpa using h)]
    congr 2
    symm
    rw [decide_eq_false_iff_not]
    exact fun q => h q.1
theorem due_eq (o p g s t n : Int) (hp : 0 ≤ p ∧ p ≤ 1048576) (hs : 0 ≤ s ∧ s ≤ 2305843009213693952) :
    idle_Idle_Due.f o p g s t n = some (decide (0 < p ∧ s + gap p ≤ mom n t), o, p, g, s, t) := by
  have hd : Int.tdiv p 2 = p / 2 := Int.tdiv_eq_ediv_of_nonneg hp.1
  have hw1 : wrap64 (p / 2) = p / 2 := by unfold wrap64; omega
  have hb := gap_le p hp.1
  have hw : wrap64 (s + gap p) = s + gap p := by unfold wrap64; omega
  unfold idle_Idle_Due.f idle_Idle_dueAt.f idle_Idle_moment.f
  simp only [Option.bind_some, hd, hw1]
  have e : mx (p / 2) 1 = gap p := rfl
  rw [e, hw]
  by_cases h : 0 < p
  · rw [if_pos (decide_eq_true h)]
    congr 2
    show decide (mom n t ≥ s + gap p) = _
    rw [decide_eq_decide]
    exact ⟨fun q => ⟨h, q⟩, fun q => q.2⟩
  · rw [if_neg (by simpa using h)]
    congr 2
    symm
    rw [decide_eq_false_iff_not]
    exact fun q => h q.1
theorem new_eq (a b n : Int) (ha : 0 ≤ a) (hb : 0 ≤ b) : idle_New.f a b n = some (mn a 1048576, mn b 1048576, mom n 0, mom n 0, mom n 0) := by
  have h1 : wrap64 (mn a 1048576) = mn a 1048576 := by unfold wrap64 mn; split <;> omega
  have h2 : wrap64 (mn b 1048576) = mn b 1048576 := by unfold wrap64 mn; split <;> omega
  have h3 : mom n (mom n 0) = mom n 0 := by
    unfold mom mn mx
    repeat' split
    all_goals omega
  unfold idle_New.f
  rw [h1, h2, got_eq]
  simp only [Option.bind_some]
  rw [sent_eq, h3]
theorem works_ge (k : Nat) (hk : 3 ≤ k) : lw14_works.f k = some true :=
  at_rounds (g := fun k => lw14_works.f k) (fun k => lw14_works.mono k) hk (by decide +kernel)
/-- One end and the other, ahead of a tick: what one sent the other got, and neither has let the other wait. -/
def Inv (p q s n gx sx tx gy sy ty : Int) : Prop :=
  gy = sx ∧ gx = sy ∧ s ≤ sx ∧ sx ≤ n ∧ s ≤ sy ∧ sy ≤ n ∧ n < sx + gap q ∧ n < sy + gap p ∧ tx ≤ n ∧ ty ≤ n
theorem loop (p q s t : Int) (hp : 2 ≤ p ∧ p ≤ 1001) (hq : 2 ≤ q ∧ q ≤ 1001) (hs : 0 ≤ s ∧ s < 1099511627776) (ht : 0 ≤ t ∧ t < 65536) (d : Nat) :
    ∀ (k : Nat) (i gx sx tx gy sy ty : Int), 1 ≤ i → i ≤ t % 500 + 1 → t % 500 + 1 - i = d → 3 * d + 4 ≤ k → Inv p q s (s + i - 1) gx sx tx gy sy ty →
      lw14_IdleMeets.l0 k t s i p q gx sx tx q p gy sy ty = some true := by
  have hwt : wrap64 (Int.tmod t 500) = t % 500 := by
    rw [Int.tmod_eq_emod_of_nonneg ht.1]
    unfold wrap64; omega
  have gp := gap_le p (by omega)
  have gq := gap_le q (by omega)
  induction d with
  | zero =>
    intro k i gx sx tx gy sy ty h0 h1 hd hk hi
    obtain ⟨k, rfl⟩ : ∃ m, k = m + 1 := ⟨k - 1, by omega⟩
    simp only [lw14_IdleMeets.l0, hwt]
    rw [if_neg (by omega), works_ge _ (by omega)]
    rfl
  | succ d ih =>
    intro k i gx sx tx gy sy ty h0 h1 hd hk hi
    obtain ⟨k, rfl⟩ : ∃ m, k = m + 3 := ⟨k - 3, by omega⟩
    have hw : wrap64 (s + i) = s + i := by unfold wrap64; omega
    have hwi : wrap64 (i + 1) = i + 1 := by unfold wrap64; omega
    obtain ⟨rfl, rfl, i1, i2, i3, i4, i5, i6, i7, i8⟩ := hi
    have J3 : ∀ sx' tx' sy' ty' : Int, s ≤ sx' → sx' ≤ s + i → s ≤ sy' → sy' ≤ s + i → s + i < sx' + gap q → s + i < sy' + gap p → tx' ≤ s + i → ty' ≤ s + i →
        lw14_IdleMeets.j3 (k + 1) t s i p q sy' sx' tx' q p sx' sy' ty' = some true := by
      intro sx' tx' sy' ty' a1 a2 a3 a4 a5 a6 a7 a8
      simp only [lw14_IdleMeets.j3, hw]
      rw [late_eq p q _ _ _ _ (by omega) (by omega)]
      simp only [Option.bind_some]
      rw [if_neg (by rw [decide_eq_true_eq, mom_at _ _ a7 (by omega)]; omega), late_eq q p _ _ _ _ (by omega) (by omega)]
      simp only [Option.bind_some]
      rw [if_neg (by rw [decide_eq_true_eq, mom_at _ _ a8 (by omega)]; omega), hwi]
      exact ih k (i + 1) sy' sx' tx' sx' sy' ty' (by omega) (by omega) (by omega) (by omega) ⟨rfl, rfl, a1, by omega, a3, by omega, by omega, by omega, by omega, by omega⟩
    have J2 : ∀ sx' tx' ty' : Int, s ≤ sx' → sx' ≤ s + i → s + i < sx' + gap q → tx' ≤ s + i → ty' ≤ s + i →
        lw14_IdleMeets.j2 (k + 2) t s i p q gx sx' tx' q p sx' gx ty' = some true := by
      intro sx' tx' ty' a1 a2 a5 a7 a8
      simp only [lw14_IdleMeets.j2, hw]
      rw [due_eq q p _ _ _ _ (by omega) (by omega), mom_at _ _ a8 (by omega)]
      simp only [Option.bind_some]
      by_cases h : 0 < p ∧ gx + gap p ≤ s + i
      · rw [if_pos (decide_eq_true h), sent_eq, got_eq, mom_at _ _ a8 (by omega), mom_at _ _ a7 (by omega)]
        simp only [Option.bind_some]
        exact J3 sx' (s + i) (s + i) (s + i) a1 a2 (by omega) (by omega) a5 (by omega) (by omega) (by omega)
      · rw [if_neg (by simpa using h)]
        exact J3 sx' tx' gx ty' a1 a2 i3 (by omega) a5 (by omega) a7 a8
    simp only [lw14_IdleMeets.l0, hwt, hw]
    rw [if_pos (by omega), due_eq p q _ _ _ _ (by omega) (by omega), mom_at _ _ (by omega) (by omega)]
    simp only [Option.bind_some]
    by_cases h : 0 < q ∧ gy + gap q ≤ s + i
    · rw [if_pos (decide_eq_true h), sent_eq, got_eq, mom_at _ _ (by omega) (by omega), mom_at _ _ (by omega) (by omega)]
      simp only [Option.bind_some]
      exact J2 (s + i) (s + i) (s + i) (by omega) (by omega) (by omega) (by omega) (by omega)
    · rw [if_neg (by simpa using h)]
      exact J2 gy tx ty i1 (by omega) (by omega) (by omega) (by omega)
theorem IdleMeets : lw14_IdleMeets.Pure := by
  intro a b n t ha hb hn ht
  replace ha := wf32 ha
  replace hb := wf32 hb
  replace ht := wf16 ht
  have e1 : (2 + Int.tmod a 1000) % 4294967296 = 2 + a % 1000 := by rw [Int.tmod_eq_emod_of_nonneg ha.1]; omega
  have e2 : (2 + Int.tmod b 1000) % 4294967296 = 2 + b % 1000 := by rw [Int.tmod_eq_emod_of_nonneg hb.1]; omega
  have gp := gap_le (2 + a % 1000) (by omega)
  have gq := gap_le (2 + b % 1000) (by omega)
  have J : ∀ s : Int, 0 ≤ s ∧ s < 1099511627776 → lw14_IdleMeets.j0 2001 t (2 + a % 1000) (2 + b % 1000) s = some true := by
    intro s hs
    have m1 : mn (2 + a % 1000) 1048576 = 2 + a % 1000 := by unfold mn; rw [if_neg (by omega)]
    have m2 : mn (2 + b % 1000) 1048576 = 2 + b % 1000 := by unfold mn; rw [if_neg (by omega)]
    simp only [lw14_IdleMeets.j0]
    rw [new_eq _ _ _ (by omega) (by omega), new_eq _ _ _ (by omega) (by omega), mom_at _ _ hs.1 (by omega), m1, m2]
    simp only [Option.bind_some]
    exact loop _ _ s t (by omega) (by omega) hs ht (t % 500).toNat 2000 1 s s s s s s (by omega) (by omega) (by omega) (by omega) ⟨rfl, rfl, by omega, by omega, by omega, by omega, by omega, by omega, by omega, by omega⟩
  refine ⟨2001, ?_⟩
  have tn := tm n 1099511627776
  unfold lw14_IdleMeets.f
  rw [e1, e2]
  by_cases h : Int.tmod n 1099511627776 < 0
  · have hw : wrap64 (-Int.tmod n 1099511627776) = -Int.tmod n 1099511627776 := by unfold wrap64; omega
    rw [if_pos h, hw]
    exact J _ (by omega)
  · rw [if_neg h]
    exact J _ (by omega)

end Go.Proofs.Ytfnoldogodfinaa.Pure
