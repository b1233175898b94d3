/- The plain law of SerialIn: just the numbers from one on are in, so many of them; for all numbers and counts. No condition beyond the arguments' own kinds. -/
import Derived.Test.YtafapegdoehikaaPSerialInx1
namespace Go.Proofs.Ytafapegdoehikaa.Pure
open Go.RowKit Go.Proofs.Ytafapegdoehikaa.PSerialIn Go.Proofs.YtafapegdoehikaaW.PrintWords Go.Proofs.YtafapegdoehikaaW.PrintLast

theorem wf32 {a : Int} (h : (Lit.int .u32 a).wf = true) : 0 ≤ a ∧ a < 4294967296 := by
  simp [Lit.wf, IntKind.min, IntKind.max, IntKind.bits, IntKind.signed] at h
  omega
theorem wfi {a : Int} (h : (Lit.int .i64 a).wf = true) : -9223372036854775808 ≤ a ∧ a ≤ 9223372036854775807 := by
  simp [Lit.wf, IntKind.min, IntKind.max, IntKind.bits, IntKind.signed] at h
  omega
theorem near_eq (n : Int) : serial_near_uint32.f n = some (decide (n < 2147483648)) := by
  have e : Go.bits .xor .u32 Go.IntKind.u32.max 0 / 2 = 2147483647 := by decide +kernel
  unfold serial_near_uint32.f
  rw [e]
  congr 1
  rw [decide_eq_decide]
  omega
theorem less_eq (a b : Int) (ha : 0 ≤ a ∧ a < 4294967296) (hb : 0 ≤ b ∧ b < 4294967296) :
    serial_Less.f a b = some (decide (0 < (b - a) % 4294967296 ∧ (b - a) % 4294967296 < 2147483648)) := by
  unfold serial_Less.f serial_steps_uint32.f
  simp only [near_eq, Option.bind_some]
  by_cases e : a = b
  · subst e; simp
  · rw [if_neg e]
    congr 1
    rw [decide_eq_decide]
    omega
theorem tm (n m : Int) : (0 ≤ n → Int.tmod n m = n % m) ∧ (n < 0 → Int.tmod n m = -((-n) % m)) := by
  refine ⟨fun h => Int.tmod_eq_emod_of_nonneg h, fun h => ?_⟩
  have e : Int.tmod (-(-n)) m = -Int.tmod (-n) m := Int.neg_tmod ..
  rw [Int.neg_neg] at e
  rw [e, Int.tmod_eq_emod_of_nonneg (by omega)]
theorem span_eq (a b : Int) : serial_Span.f a b =
    if (b - a) % 4294967296 < 2147483648 then some ((b - a) % 4294967296 + 1, true) else some (0, false) := by
  unfold serial_Span.f serial_steps_uint32.f
  simp only [near_eq, Option.bind_some]
  by_cases e : (b - a) % 4294967296 < 2147483648
  · simp only [e, decide_true, if_true]
    have : wrap64 (wrap64 ((b - a) % 4294967296) + 1) = (b - a) % 4294967296 + 1 := by unfold wrap64; omega
    rw [this]
  · simp [e]
theorem add_eq (a n : Int) : serial_Add.f a n = some ((a + n) % 4294967296) := by
  unfold serial_Add.f
  congr 1
  omega
theorem in_eq (x f n : Int) : serial_In.f x f n = some (decide ((x - f) % 4294967296 < n)) := by
  unfold serial_In.f serial_steps_uint32.f
  simp only [Option.bind_some]
  congr 2
  unfold wrap64
  simp only [eq_iff_iff]
  omega
theorem works_eq : bellwetherlaw03_works.f = some true := by
  unfold bellwetherlaw03_works.f
  simp only [span_eq, add_eq, in_eq, less_eq 4294967295 0 (by omega) (by omega), less_eq 0 2147483648 (by omega) (by omega)]
  decide +kernel
theorem SerialIn : bellwetherlaw03_SerialIn.Pure := by
  intro x f n hx hf hn
  replace hx := wf32 hx
  replace hf := wf32 hf
  replace hn := wfi hn
  refine ⟨2, ?_⟩
  unfold bellwetherlaw03_SerialIn.f
  simp only [in_eq, add_eq, Option.bind_some, works_eq]
  by_cases c1 : n < 1
  · rw [if_pos c1, if_neg (by rw [decide_eq_true_eq]; omega)]
  rw [if_neg c1]
  by_cases c2 : n ≥ 4294967296
  · rw [if_pos c2, if_pos (by rw [decide_eq_true_eq]; omega)]
  rw [if_neg c2, if_pos (by rw [decide_eq_true_eq]; omega)]
  have w1 : wrap64 (n - 1) = n - 1 := by unfold wrap64; omega
  have w2 : wrap64 (n + 1) = n + 1 := by unfold wrap64; omega
  rw [w1, if_pos (by rw [decide_eq_true_eq]; omega), decide_eq_false (by omega)]
  simp only [bellwetherlaw03_SerialIn.j0, in_eq, add_eq, Option.bind_some, w2]
  rw [if_neg (by decide)]
  have J : bellwetherlaw03_SerialIn.j1 1 x f n false = some true := by
    simp only [bellwetherlaw03_SerialIn.j1, in_eq, span_eq, works_eq, Option.bind_some]
    rw [if_neg (by decide)]
    split
    · simp only [Option.bind_some, if_true]
      rw [if_pos]
      rw [beq_iff_eq, decide_eq_decide]
      omega
    · simp
  by_cases c3 : (x - f) % 4294967296 < n
  · rw [if_pos (decide_eq_true c3), decide_eq_true (by omega : (x - f) % 4294967296 < n + 1)]; exact J
  · rw [if_neg (by simpa using c3)]
    have e : (decide ((x - f) % 4294967296 < n + 1) != (x == (f + n) % 4294967296)) = false := by
      rw [bne_eq_false_iff_eq, Bool.eq_iff_iff, decide_eq_true_eq, beq_iff_eq]
      omega
    rw [e]; exact J

end Go.Proofs.Ytafapegdoehikaa.Pure
