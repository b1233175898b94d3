/- The plain law of SerialTells: Less, Add, Span and In answer as the document's reference does, for all numbers and steps. No condition beyond the arguments' own kinds. -/
import Derived.Test.YtafapegdoehikaaPSerialTellsx1
namespace Go.Proofs.Ytafapegdoehikaa.Pure
open Go.RowKit Go.Proofs.Ytafapegdoehikaa.PSerialTells Go.Proofs.YtafapegdoehikaaW.PrintWords Go.Proofs.YtafapegdoehikaaW.PrintLast

theorem wf32 {a : Int} (h : (Lit.int .u32 a).wf = true) : 0 ≤ a ∧ a < 4294967296 := by
  simp [Lit.wf, IntKind.min, IntKind.max, IntKind.bits, IntKind.signed] at h
  omega
theorem wfi {a : Int} (h : (Lit.int .i64 a).wf = true) : -9223372036854775808 ≤ a ∧ a ≤ 9223372036854775807 := by
  simp [Lit.wf, IntKind.min, IntKind.max, IntKind.bits, IntKind.signed] at h
  omega
theorem near_eq (n : Int) : serial_near_uint32.f n = some (decide (n < 2147483648)) := by
  have e : Go.bits .xor .u32 Go.IntKind.u32.max 0 / 2 = 2147483647 := by decide +kernel
  unfold serial_near_uint32.f
  rw [e]
  congr 1
  rw [decide_eq_decide]
  omega
theorem less_eq (a b : Int) (ha : 0 ≤ a ∧ a < 4294967296) (hb : 0 ≤ b ∧ b < 4294967296) :
    serial_Less.f a b = some (decide (0 < (b - a) % 4294967296 ∧ (b - a) % 4294967296 < 2147483648)) := by
  unfold serial_Less.f serial_steps_uint32.f
  simp only [near_eq, Option.bind_some]
  by_cases e : a = b
  · subst e; simp
  · rw [if_neg e]
    congr 1
    rw [decide_eq_decide]
    omega
theorem tm (n m : Int) : (0 ≤ n → Int.tmod n m = n % m) ∧ (n < 0 → Int.tmod n m = -((-n) % m)) := by
  refine ⟨fun h => Int.tmod_eq_emod_of_nonneg h, fun h => ?_⟩
  have e : Int.tmod (-(-n)) m = -Int.tmod (-n) m := Int.neg_tmod ..
  rw [Int.neg_neg] at e
  rw [e, Int.tmod_eq_emod_of_nonneg (by omega)]
theorem span_eq (a b : Int) : serial_Span.f a b =
    if (b - a) % 4294967296 < 2147483648 then some ((b - a) % 4294967296 + 1, true) else some (0, false) := by
  unfold serial_Span.f serial_steps_uint32.f
  simp only [near_eq, Option.bind_some]
  by_cases e : (b - a) % 4294967296 < 2147483648
  · simp only [e, decide_true, if_true]
    have : wrap64 (wrap64 ((b - a) % 4294967296) + 1) = (b - a) % 4294967296 + 1 := by unfold wrap64; omega
    rw [this]
  · simp [e]
theorem add_eq (a n : Int) : serial_Add.f a n = some ((a + n) % 4294967296) := by
  unfold serial_Add.f
  congr 1
  omega
theorem in_eq (x f n : Int) : serial_In.f x f n = some (decide ((x - f) % 4294967296 < n)) := by
  unfold serial_In.f serial_steps_uint32.f
  simp only [Option.bind_some]
  congr 2
  unfold wrap64
  simp only [eq_iff_iff]
  omega
theorem works_eq : bellwetherlaw03_works.f = some true := by
  unfold bellwetherlaw03_works.f
  simp only [span_eq, add_eq, in_eq, less_eq 4294967295 0 (by omega) (by omega), less_eq 0 2147483648 (by omega) (by omega)]
  decide +kernel
theorem ahead_eq (a b : Int) (ha : 0 ≤ a ∧ a < 4294967296) (hb : 0 ≤ b ∧ b < 4294967296) : bellwetherref03_ahead.f a b = some ((b - a) % 4294967296) := by
  unfold bellwetherref03_ahead.f
  have e1 : wrap64 (wrap64 b - wrap64 a) = b - a := by unfold wrap64; omega
  have e2 : wrap64 (b - a + 4294967296) = b - a + 4294967296 := by unfold wrap64; omega
  rw [e1, e2]
  split <;> (congr 1; omega)
theorem radd_eq (a n : Int) (ha : 0 ≤ a ∧ a < 4294967296) (hn : -9223372036854775808 ≤ n ∧ n ≤ 9223372036854775807) :
    bellwetherref03_Add.f a n = some ((a + n) % 4294967296) := by
  have t1 := tm n 4294967296
  have t2 := tm (a + Int.tmod n 4294967296) 4294967296
  have e1 : wrap64 (wrap64 a + Int.tmod n 4294967296) = a + Int.tmod n 4294967296 := by unfold wrap64; omega
  have e3 : wrap64 (Int.tmod (a + Int.tmod n 4294967296) 4294967296 + 4294967296) = Int.tmod (a + Int.tmod n 4294967296) 4294967296 + 4294967296 := by unfold wrap64; omega
  unfold bellwetherref03_Add.f
  rw [e1, e3]
  split <;> (congr 1; omega)
theorem SerialTells : bellwetherlaw03_SerialTells.Pure := by
  intro a b n ha hb hn
  replace ha := wf32 ha
  replace hb := wf32 hb
  replace hn := wfi hn
  unfold bellwetherlaw03_SerialTells.f bellwetherref03_Span.f bellwetherref03_Less.f bellwetherref03_In.f
  simp only [ahead_eq a b ha hb, ahead_eq b a hb ha, radd_eq a n ha hn, span_eq, less_eq a b ha hb, add_eq, in_eq, works_eq, Option.bind_some]
  have hw : wrap64 ((b - a) % 4294967296 + 1) = (b - a) % 4294967296 + 1 := by unfold wrap64; omega
  rw [hw]
  have hl : (if a = b then some false else some (decide ((b - a) % 4294967296 < 2147483648))) = some (decide (0 < (b - a) % 4294967296 ∧ (b - a) % 4294967296 < 2147483648)) := by
    split
    · rename_i h; subst h; simp
    · congr 1; rw [decide_eq_decide]; omega
  have hi : (if n > 0 then some (decide ((a - b) % 4294967296 < n)) else some false) = some (decide ((a - b) % 4294967296 < n)) := by
    split
    · rfl
    · congr 1; symm; rw [decide_eq_false_iff_not]; omega
  rw [hl, hi]
  by_cases c : (b - a) % 4294967296 < 2147483648
  · rw [if_pos c, if_neg (by omega)]; simp
  · rw [if_neg c, if_pos (by omega)]; simp

end Go.Proofs.Ytafapegdoehikaa.Pure
