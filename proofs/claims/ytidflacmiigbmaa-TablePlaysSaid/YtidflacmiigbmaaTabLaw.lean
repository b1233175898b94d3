/- Plain words on the numbers that are held: the lowest that is not, how many are not. No condition of our own. -/
import Derived.Test.YtidflacmiigbmaaTabW
namespace Go.Proofs.Ytidflacmiigbmaa.Tab
set_option linter.unusedVariables false
theorem low_spec (h : Int → Bool) : ∀ (d : Nat) (i : Int), i ≤ low h d i ∧ low h d i ≤ i + d ∧ (∀ y, i ≤ y → y < low h d i → h y = true) ∧ (low h d i < i + d → h (low h d i) = false)
  | 0, i => by
    simp only [low]
    exact ⟨Int.le_refl _, by omega, fun y h1 h2 => by omega, fun h1 => by omega⟩
  | d + 1, i => by
    simp only [low]
    by_cases c : h i = true
    · rw [if_pos c]
      obtain ⟨h1, h2, h3, h4⟩ := low_spec h d (i + 1)
      refine ⟨by omega, by omega, fun y g1 g2 => ?_, fun g => h4 (by omega)⟩
      by_cases e : y = i
      · rw [e]; exact c
      · exact h3 y (by omega) g2
    · rw [if_neg c]
      exact ⟨Int.le_refl _, by omega, fun y h1 h2 => by omega, fun _ => by simpa using c⟩
theorem takeL_spec (h : Int → Bool) (most : Int) (hm : 0 ≤ most) : 0 ≤ takeL h most ∧ takeL h most ≤ most + 1 ∧ (∀ y, 0 ≤ y → y < takeL h most → h y = true) ∧ (takeL h most ≤ most → h (takeL h most) = false) := by
  obtain ⟨h1, h2, h3, h4⟩ := low_spec h (most.toNat + 1) 0
  exact ⟨h1, by unfold takeL; omega, h3, fun g => h4 (by unfold takeL at g; omega)⟩
/-- So many numbers are not held. -/
def frees (h : Int → Bool) (most : Int) : Nat := (List.range (most.toNat + 1)).countP fun i : Nat => !h (i : Int)
theorem countP_one (p q : Nat → Bool) (j : Nat) (hne : ∀ i, i ≠ j → p i = q i) (hp : p j = true) (hq : q j = false) : ∀ n, (List.range n).countP p = (List.range n).countP q + (if j < n then 1 else 0)
  | 0 => by simp
  | n + 1 => by
    rw [List.range_succ, List.countP_append, List.countP_append, countP_one p q j hne hp hq n]
    by_cases c : j = n
    · subst c
      simp [hp, hq]
    · have e := hne n (fun z => c z.symm)
      simp only [List.countP_cons, List.countP_nil, e]
      by_cases z : j < n
      · rw [if_pos z, if_pos (show j < n + 1 by omega)]; omega
      · rw [if_neg z, if_neg (show ¬ j < n + 1 by omega)]; omega
theorem frees_take (h : Int → Bool) (most x : Int) (h0 : 0 ≤ x) (h1 : x ≤ most) (hx : h x = false) : frees h most = frees (put1 h x true) most + 1 := by
  unfold frees
  have := countP_one (fun i : Nat => !h (i : Int)) (fun i : Nat => !(put1 h x true) (i : Int)) x.toNat (fun i hi => by
    unfold put1
    rw [if_neg (by omega)]) (by simp only [Int.toNat_of_nonneg h0, hx]; rfl) (by simp only [Int.toNat_of_nonneg h0, put1, if_true]; rfl) (most.toNat + 1)
  rw [this, if_pos (by omega)]
theorem frees_free (h : Int → Bool) (most x : Int) (h0 : 0 ≤ x) (h1 : x ≤ most) (hx : h x = true) : frees (put1 h x false) most = frees h most + 1 := by
  unfold frees
  have := countP_one (fun i : Nat => !(put1 h x false) (i : Int)) (fun i : Nat => !h (i : Int)) x.toNat (fun i hi => by
    unfold put1
    rw [if_neg (by omega)]) (by simp only [Int.toNat_of_nonneg h0, put1, if_true]; rfl) (by simp only [Int.toNat_of_nonneg h0, hx]; rfl) (most.toNat + 1)
  rw [this, if_pos (by omega)]
theorem frees_zero (h : Int → Bool) (most : Int) (hm : 0 ≤ most) (hf : frees h most = 0) (y : Int) (h0 : 0 ≤ y) (h1 : y ≤ most) : h y = true := by
  unfold frees at hf
  rw [List.countP_eq_zero] at hf
  have := hf y.toNat (List.mem_range.2 (by omega))
  rw [Int.toNat_of_nonneg h0] at this
  simpa using this
theorem frees_all (h : Int → Bool) (most : Int) (hm : 0 ≤ most) (hh : ∀ y, 0 ≤ y → y ≤ most → h y = true) : frees h most = 0 := by
  unfold frees
  rw [List.countP_eq_zero]
  intro i hi
  rw [hh (i : Int) (by omega) (by have := List.mem_range.1 hi; omega)]; simp
theorem takeB_of (h : Int → Bool) (most : Int) (hm : 0 ≤ most) : takeB h most = decide (frees h most ≠ 0) := by
  obtain ⟨h1, h2, h3, h4⟩ := takeL_spec h most hm
  unfold takeB
  rw [decide_eq_decide]
  constructor
  · intro g e
    have := frees_zero h most hm e _ h1 g
    rw [h4 g] at this; cases this
  · intro g
    rcases Int.lt_or_le most (takeL h most) with c | c
    · exact absurd (frees_all h most hm (fun y g0 g1 => h3 y g0 (by omega))) g
    · exact c
theorem held_frees (h : Int → Bool) (most : Int) (hm : 0 ≤ most) : (heldL h most).length + frees h most = most.toNat + 1 := by
  unfold heldL frees
  rw [List.filter_map, List.length_map, ← List.countP_eq_length_filter]
  have := List.length_eq_countP_add_countP (fun i : Nat => h (i : Int)) (l := List.range (most.toNat + 1))
  rw [List.length_range] at this
  have e : ((fun x => h x) ∘ fun i : Nat => (i : Int)) = fun i : Nat => h (i : Int) := rfl
  have e2 : (List.range (most.toNat + 1)).countP (fun i : Nat => decide ¬h (i : Int) = true) = (List.range (most.toNat + 1)).countP (fun i : Nat => !h (i : Int)) := by
    apply List.countP_congr
    intro x _
    simp
  rw [e, ← e2]
  exact this.symm
end Go.Proofs.Ytidflacmiigbmaa.Tab
