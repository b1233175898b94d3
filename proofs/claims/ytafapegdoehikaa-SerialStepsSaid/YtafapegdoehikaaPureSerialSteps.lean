/- The plain law of SerialSteps: steps are added and taken back, and so many and one are those between; for all numbers and steps within the law's own bounds. No condition beyond the arguments' own kinds. -/
import Derived.Test.YtafapegdoehikaaPSerialStepsx1
namespace Go.Proofs.Ytafapegdoehikaa.Pure
open Go.RowKit Go.Proofs.Ytafapegdoehikaa.PSerialSteps Go.Proofs.YtafapegdoehikaaW.PrintWords Go.Proofs.YtafapegdoehikaaW.PrintLast

theorem wf32 {a : Int} (h : (Lit.int .u32 a).wf = true) : 0 ≤ a ∧ a < 4294967296 := by
  simp [Lit.wf, IntKind.min, IntKind.max, IntKind.bits, IntKind.signed] at h
  omega
theorem wfi {a : Int} (h : (Lit.int .i64 a).wf = true) : -9223372036854775808 ≤ a ∧ a ≤ 9223372036854775807 := by
  simp [Lit.wf, IntKind.min, IntKind.max, IntKind.bits, IntKind.signed] at h
  omega
theorem near_eq (n : Int) : serial_near_uint32.f n = some (decide (n < 2147483648)) := by
  have e : Go.bits .xor .u32 Go.IntKind.u32.max 0 / 2 = 2147483647 := by decide +kernel
  unfold serial_near_uint32.f
  rw [e]
  congr 1
  rw [decide_eq_decide]
  omega
theorem less_eq (a b : Int) (ha : 0 ≤ a ∧ a < 4294967296) (hb : 0 ≤ b ∧ b < 4294967296) :
    serial_Less.f a b = some (decide (0 < (b - a) % 4294967296 ∧ (b - a) % 4294967296 < 2147483648)) := by
  unfold serial_Less.f serial_steps_uint32.f
  simp only [near_eq, Option.bind_some]
  by_cases e : a = b
  · subst e; simp
  · rw [if_neg e]
    congr 1
    rw [decide_eq_decide]
    omega
theorem tm (n m : Int) : (0 ≤ n → Int.tmod n m = n % m) ∧ (n < 0 → Int.tmod n m = -((-n) % m)) := by
  refine ⟨fun h => Int.tmod_eq_emod_of_nonneg h, fun h => ?_⟩
  have e : Int.tmod (-(-n)) m = -Int.tmod (-n) m := Int.neg_tmod ..
  rw [Int.neg_neg] at e
  rw [e, Int.tmod_eq_emod_of_nonneg (by omega)]
theorem span_eq (a b : Int) : serial_Span.f a b =
    if (b - a) % 4294967296 < 2147483648 then some ((b - a) % 4294967296 + 1, true) else some (0, false) := by
  unfold serial_Span.f serial_steps_uint32.f
  simp only [near_eq, Option.bind_some]
  by_cases e : (b - a) % 4294967296 < 2147483648
  · simp only [e, decide_true, if_true]
    have : wrap64 (wrap64 ((b - a) % 4294967296) + 1) = (b - a) % 4294967296 + 1 := by unfold wrap64; omega
    rw [this]
  · simp [e]
theorem add_eq (a n : Int) : serial_Add.f a n = some ((a + n) % 4294967296) := by
  unfold serial_Add.f
  congr 1
  omega
theorem in_eq (x f n : Int) : serial_In.f x f n = some (decide ((x - f) % 4294967296 < n)) := by
  unfold serial_In.f serial_steps_uint32.f
  simp only [Option.bind_some]
  congr 2
  unfold wrap64
  simp only [eq_iff_iff]
  omega
theorem works_eq : bellwetherlaw03_works.f = some true := by
  unfold bellwetherlaw03_works.f
  simp only [span_eq, add_eq, in_eq, less_eq 4294967295 0 (by omega) (by omega), less_eq 0 2147483648 (by omega) (by omega)]
  decide +kernel
theorem SerialSteps : bellwetherlaw03_SerialSteps.Pure := by
  intro a n m ha hn hm
  replace ha := wf32 ha
  refine ⟨4, ?_⟩
  have j0t : ∀ k a n m, bellwetherlaw03_SerialSteps.j0 (k + 1) a n m true = some true := by
    intro k a n m; simp only [bellwetherlaw03_SerialSteps.j0, works_eq, Option.bind_some, if_true]
  have j2 : ∀ k x, 0 ≤ x → x < 2147483648 → bellwetherlaw03_SerialSteps.j2 (k + 1) a x = some true := by
    intro k x h0 h1
    have hw : wrap64 (x + 1) = x + 1 := by unfold wrap64; omega
    simp only [bellwetherlaw03_SerialSteps.j2, add_eq, Option.bind_some, span_eq, works_eq, hw]
    rw [less_eq a _ ha (by omega)]
    have e : ((a + x) % 4294967296 - a) % 4294967296 = x := by omega
    rw [e, if_pos h1]
    simp only [Option.bind_some, if_true]
    rw [if_pos]
    rw [beq_iff_eq, decide_eq_decide]
    omega
  unfold bellwetherlaw03_SerialSteps.f
  by_cases c1 : n > 2305843009213693952
  · rw [if_pos c1]; exact j0t _ _ _ _
  by_cases c2 : n < -2305843009213693952
  · rw [if_neg c1, if_pos c2]; exact j0t _ _ _ _
  by_cases c3 : m > 2305843009213693952
  · rw [if_neg c1, if_neg c2, if_pos c3]; exact j0t _ _ _ _
  by_cases c4 : m < -2305843009213693952
  · rw [if_neg c1, if_neg c2, if_neg c3, decide_eq_true c4]; exact j0t _ _ _ _
  rw [if_neg c1, if_neg c2, if_neg c3, decide_eq_false c4]
  have w1 : wrap64 (n + m) = n + m := by unfold wrap64; omega
  have w2 : wrap64 (-n) = -n := by unfold wrap64; omega
  simp only [bellwetherlaw03_SerialSteps.j0, add_eq, Option.bind_some, w1, w2]
  rw [if_neg (by decide), if_pos (by omega), if_pos (by omega), if_pos (by omega)]
  have e : ((a + 4294967296) % 4294967296 != a) = false := by rw [bne_eq_false_iff_eq]; omega
  rw [e]
  simp only [bellwetherlaw03_SerialSteps.j1]
  rw [if_neg (by decide)]
  have tn := tm n 2147483648
  by_cases d : Int.tmod n 2147483648 < 0
  · rw [if_pos d]
    have w3 : wrap64 (-Int.tmod n 2147483648) = -Int.tmod n 2147483648 := by unfold wrap64; omega
    rw [w3]
    exact j2 _ _ (by omega) (by omega)
  · rw [if_neg d]
    exact j2 _ _ (by omega) (by omega)

end Go.Proofs.Ytafapegdoehikaa.Pure
