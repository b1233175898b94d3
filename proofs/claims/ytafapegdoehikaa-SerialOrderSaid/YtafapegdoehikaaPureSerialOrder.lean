/- The plain law of SerialOrder: Less is an order on numbers that stand less than half of all apart, and all is as well if each goes so many steps on; for all numbers. No condition beyond the arguments' own kinds. -/
import Derived.Test.YtafapegdoehikaaPSerialOrderx1
namespace Go.Proofs.Ytafapegdoehikaa.Pure
open Go.RowKit Go.Proofs.Ytafapegdoehikaa.PSerialOrder Go.Proofs.YtafapegdoehikaaW.PrintWords Go.Proofs.YtafapegdoehikaaW.PrintLast

theorem wf32 {a : Int} (h : (Lit.int .u32 a).wf = true) : 0 ≤ a ∧ a < 4294967296 := by
  simp [Lit.wf, IntKind.min, IntKind.max, IntKind.bits, IntKind.signed] at h
  omega
theorem wfi {a : Int} (h : (Lit.int .i64 a).wf = true) : -9223372036854775808 ≤ a ∧ a ≤ 9223372036854775807 := by
  simp [Lit.wf, IntKind.min, IntKind.max, IntKind.bits, IntKind.signed] at h
  omega
theorem near_eq (n : Int) : serial_near_uint32.f n = some (decide (n < 2147483648)) := by
  have e : Go.bits .xor .u32 Go.IntKind.u32.max 0 / 2 = 2147483647 := by decide +kernel
  unfold serial_near_uint32.f
  rw [e]
  congr 1
  rw [decide_eq_decide]
  omega
theorem less_eq (a b : Int) (ha : 0 ≤ a ∧ a < 4294967296) (hb : 0 ≤ b ∧ b < 4294967296) :
    serial_Less.f a b = some (decide (0 < (b - a) % 4294967296 ∧ (b - a) % 4294967296 < 2147483648)) := by
  unfold serial_Less.f serial_steps_uint32.f
  simp only [near_eq, Option.bind_some]
  by_cases e : a = b
  · subst e; simp
  · rw [if_neg e]
    congr 1
    rw [decide_eq_decide]
    omega
theorem tm (n m : Int) : (0 ≤ n → Int.tmod n m = n % m) ∧ (n < 0 → Int.tmod n m = -((-n) % m)) := by
  refine ⟨fun h => Int.tmod_eq_emod_of_nonneg h, fun h => ?_⟩
  have e : Int.tmod (-(-n)) m = -Int.tmod (-n) m := Int.neg_tmod ..
  rw [Int.neg_neg] at e
  rw [e, Int.tmod_eq_emod_of_nonneg (by omega)]
theorem span_eq (a b : Int) : serial_Span.f a b =
    if (b - a) % 4294967296 < 2147483648 then some ((b - a) % 4294967296 + 1, true) else some (0, false) := by
  unfold serial_Span.f serial_steps_uint32.f
  simp only [near_eq, Option.bind_some]
  by_cases e : (b - a) % 4294967296 < 2147483648
  · simp only [e, decide_true, if_true]
    have : wrap64 (wrap64 ((b - a) % 4294967296) + 1) = (b - a) % 4294967296 + 1 := by unfold wrap64; omega
    rw [this]
  · simp [e]
theorem add_eq (a n : Int) : serial_Add.f a n = some ((a + n) % 4294967296) := by
  unfold serial_Add.f
  congr 1
  omega
theorem in_eq (x f n : Int) : serial_In.f x f n = some (decide ((x - f) % 4294967296 < n)) := by
  unfold serial_In.f serial_steps_uint32.f
  simp only [Option.bind_some]
  congr 2
  unfold wrap64
  simp only [eq_iff_iff]
  omega
theorem works_eq : bellwetherlaw03_works.f = some true := by
  unfold bellwetherlaw03_works.f
  simp only [span_eq, add_eq, in_eq, less_eq 4294967295 0 (by omega) (by omega), less_eq 0 2147483648 (by omega) (by omega)]
  decide +kernel
theorem SerialOrder : bellwetherlaw03_SerialOrder.Pure := by
  intro a x y z n ha hx hy hz hn
  replace ha := wf32 ha
  replace hx := wf32 hx
  replace hy := wf32 hy
  replace hz := wf32 hz
  refine ⟨1, ?_⟩
  have mx : Int.tmod x 2147483648 = x % 2147483648 := Int.tmod_eq_emod_of_nonneg hx.1
  have my : Int.tmod y 2147483648 = y % 2147483648 := Int.tmod_eq_emod_of_nonneg hy.1
  have mz : Int.tmod z 2147483648 = z % 2147483648 := Int.tmod_eq_emod_of_nonneg hz.1
  unfold bellwetherlaw03_SerialOrder.f
  rw [mx, my, mz]
  have w1 : wrap64 (x % 2147483648) = x % 2147483648 := by unfold wrap64; omega
  have w2 : wrap64 (y % 2147483648) = y % 2147483648 := by unfold wrap64; omega
  have w3 : wrap64 (z % 2147483648) = z % 2147483648 := by unfold wrap64; omega
  rw [w1, w2, w3]
  have hX : 0 ≤ x % 2147483648 ∧ x % 2147483648 < 2147483648 := by omega
  have hY : 0 ≤ y % 2147483648 ∧ y % 2147483648 < 2147483648 := by omega
  have hZ : 0 ≤ z % 2147483648 ∧ z % 2147483648 < 2147483648 := by omega
  generalize x % 2147483648 = X at *
  generalize y % 2147483648 = Y at *
  generalize z % 2147483648 = Z at *
  clear w1 w2 w3 mx my mz
  simp only [add_eq, Option.bind_some]
  have L : ∀ U V : Int, 0 ≤ U ∧ U < 2147483648 → 0 ≤ V ∧ V < 2147483648 → serial_Less.f ((a + U) % 4294967296) ((a + V) % 4294967296) = some (decide (U < V)) := by
    intro U V hU hV
    rw [less_eq _ _ (by omega) (by omega)]
    congr 1
    rw [decide_eq_decide]
    omega
  rw [L X Y hX hY, L Y Z hY hZ, L X Z hX hZ]
  have J : bellwetherlaw03_SerialOrder.j0 1 n ((a + X) % 4294967296) ((a + Y) % 4294967296) false = some true := by
    simp only [bellwetherlaw03_SerialOrder.j0, add_eq, Option.bind_some, span_eq, works_eq]
    have e : ((((a + Y) % 4294967296 + n) % 4294967296 - ((a + X) % 4294967296 + n) % 4294967296) % 4294967296) = (((a + Y) % 4294967296 - (a + X) % 4294967296) % 4294967296) := by omega
    rw [less_eq _ _ (by omega) (by omega), less_eq _ _ (by omega) (by omega), e, if_neg (by decide)]
    split <;> simp
  simp only [Option.bind_some]
  rw [if_neg (by simp)]
  by_cases c1 : X < Y
  · rw [if_pos (decide_eq_true c1)]
    by_cases c2 : Y < Z
    · rw [if_pos (decide_eq_true c2), decide_eq_true (by omega : X < Z)]; exact J
    · rw [if_neg (by simpa using c2)]; exact J
  · rw [if_neg (by simpa using c1)]; exact J

end Go.Proofs.Ytafapegdoehikaa.Pure
