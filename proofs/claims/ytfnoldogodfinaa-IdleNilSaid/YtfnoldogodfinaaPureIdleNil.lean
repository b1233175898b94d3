/- The plain law of IdleNil: no waits end; for all inputs, within the law's own bounds. No condition of our own. -/
import Derived.Test.YtfnoldogodfinaaPIdleNilx2
namespace Go.Proofs.Ytfnoldogodfinaa.Pure
set_option linter.unusedVariables false
open Go.RowKit Go.Proofs.Ytfnoldogodfinaa.PIdleNil Go.Proofs.YtfnoldogodfinaaW.PrintWords Go.Proofs.YtfnoldogodfinaaW.PrintLast Go.Proofs.YtfnoldogodfinaaW.PrintMore

theorem wf32 {a : Int} (h : (Lit.int .u32 a).wf = true) : 0 ≤ a ∧ a < 4294967296 := by
  simp [Lit.wf, IntKind.min, IntKind.max, IntKind.bits, IntKind.signed] at h
  omega
theorem wf16 {a : Int} (h : (Lit.int .u16 a).wf = true) : 0 ≤ a ∧ a < 65536 := by
  simp [Lit.wf, IntKind.min, IntKind.max, IntKind.bits, IntKind.signed] at h
  omega
theorem wfi {a : Int} (h : (Lit.int .i64 a).wf = true) : -9223372036854775808 ≤ a ∧ a ≤ 9223372036854775807 := by
  simp [Lit.wf, IntKind.min, IntKind.max, IntKind.bits, IntKind.signed] at h
  omega
theorem tm (n m : Int) : (0 ≤ n → Int.tmod n m = n % m) ∧ (n < 0 → Int.tmod n m = -((-n) % m)) := by
  refine ⟨fun h => Int.tmod_eq_emod_of_nonneg h, fun h => ?_⟩
  have e : Int.tmod (-(-n)) m = -Int.tmod (-n) m := Int.neg_tmod ..
  rw [Int.neg_neg] at e
  rw [e, Int.tmod_eq_emod_of_nonneg (by omega)]
/-- A moment as it counts. -/
def mom (n t : Int) : Int := mn (mx n t) 2305843009213693952
theorem mom_at (n t : Int) (h : t ≤ n) (hn : n ≤ 2305843009213693952) : mom n t = n := by
  unfold mom mn mx
  by_cases e : n < t
  · omega
  · rw [if_neg e, if_neg (by omega)]
/-- How long a peer may be let wait. -/
def gap (p : Int) : Int := mx (p / 2) 1
theorem gap_le (p : Int) (h : 0 ≤ p) : 1 ≤ gap p ∧ (2 ≤ p → gap p < p) ∧ gap p ≤ p / 2 + 1 := by
  unfold gap mx
  split <;> omega
theorem got_eq (o p g s t n : Int) : idle_Idle_Got.f o p g s t n = some (o, p, mom n t, s, mom n t) := rfl
theorem sent_eq (o p g s t n : Int) : idle_Idle_Sent.f o p g s t n = some (o, p, g, mom n t, mom n t) := rfl
theorem late_eq (o p g s t n : Int) (ho : 0 ≤ o ∧ o ≤ 1048576) (hg : 0 ≤ g ∧ g ≤ 2305843009213693952) :
    idle_Idle_Late.f o p g s t n = some (decide (0 < o ∧ g + o ≤ mom n t), o, p, g, s, t) := by
  have hw : wrap64 (g + o) = g + o := by unfold wrap64; omega
  unfold idle_Idle_Late.f idle_Idle_lateAt.f idle_Idle_moment.f
  simp only [Option.bind_some, hw]
  by_cases h : 0 < o
  · rw [if_pos (decide_eq_true h)]
    congr 2
    show decide (mom n t ≥ g + o) = _
    rw [decide_eq_decide]
    exact ⟨fun q => ⟨h, q⟩, fun q => q.2⟩
  · rw [if_neg (by simpa using h)]
    congr 2
    symm
    rw [decide_eq_false_iff_not]
    exact fun q => h q.1
theorem due_eq (o p g s t n : Int) (hp : 0 ≤ p ∧ p ≤ 1048576) (hs : 0 ≤ s ∧ s ≤ 2305843009213693952) :
    idle_Idle_Due.f o p g s t n = some (decide (0 < p ∧ s + gap p ≤ mom n t), o, p, g, s, t) := by
  have hd : Int.tdiv p 2 = p / 2 := Int.tdiv_eq_ediv_of_nonneg hp.1
  have hw1 : wrap64 (p / 2) = p / 2 := by unfold wrap64; omega
  have hb := gap_le p hp.1
  have hw : wrap64 (s + gap p) = s + gap p := by unfold wrap64; omega
  unfold idle_Idle_Due.f idle_Idle_dueAt.f idle_Idle_moment.f
  simp only [Option.bind_some, hd, hw1]
  have e : mx (p / 2) 1 = gap p := rfl
  rw [e, hw]
  by_cases h : 0 < p
  · rw [if_pos (decide_eq_true h)]
    congr 2
    show decide (mom n t ≥ s + gap p) = _
    rw [decide_eq_decide]
    exact ⟨fun q => ⟨h, q⟩, fun q => q.2⟩
  · rw [if_neg (by simpa using h)]
    congr 2
    symm
    rw [decide_eq_false_iff_not]
    exact fun q => h q.1
theorem new_eq (a b n : Int) (ha : 0 ≤ a) (hb : 0 ≤ b) : idle_New.f a b n = some (mn a 1048576, mn b 1048576, mom n 0, mom n 0, mom n 0) := by
  have h1 : wrap64 (mn a 1048576) = mn a 1048576 := by unfold wrap64 mn; split <;> omega
  have h2 : wrap64 (mn b 1048576) = mn b 1048576 := by unfold wrap64 mn; split <;> omega
  have h3 : mom n (mom n 0) = mom n 0 := by
    unfold mom mn mx
    repeat' split
    all_goals omega
  unfold idle_New.f
  rw [h1, h2, got_eq]
  simp only [Option.bind_some]
  rw [sent_eq, h3]
theorem works_ge (k : Nat) (hk : 3 ≤ k) : lw14_works.f k = some true :=
  at_rounds (g := fun k => lw14_works.f k) (fun k => lw14_works.mono k) hk (by decide +kernel)
theorem IdleNil : lw14_IdleNil.Pure := fun _ _ _ _ => ⟨3, works_ge 3 (by omega)⟩

end Go.Proofs.Ytfnoldogodfinaa.Pure
