/- The plain law of CreditNil: no credit lets anything through; for all inputs, at most 300 things being done (the law's own bound). No condition of our own. -/
import Derived.Test.YtadbpgljamkoeaaPCreditNilx2
namespace Go.Proofs.Ytadbpgljamkoeaa.Pure
set_option linter.unusedVariables false
open Go.RowKit Go.Proofs.Ytadbpgljamkoeaa.PCreditNil Go.Proofs.YtadbpgljamkoeaaW.PrintWords Go.Proofs.YtadbpgljamkoeaaW.PrintLast Go.Proofs.YtadbpgljamkoeaaW.PrintMore

theorem wf32 {a : Int} (h : (Lit.int .u32 a).wf = true) : 0 ≤ a ∧ a < 4294967296 := by
  simp [Lit.wf, IntKind.min, IntKind.max, IntKind.bits, IntKind.signed] at h
  omega
theorem wf16 {a : Int} (h : (Lit.int .u16 a).wf = true) : 0 ≤ a ∧ a < 65536 := by
  simp [Lit.wf, IntKind.min, IntKind.max, IntKind.bits, IntKind.signed] at h
  omega
theorem near_eq (n : Int) : serial_near_uint32.f n = some (decide (n < 2147483648)) := by
  have e : Go.bits .xor .u32 Go.IntKind.u32.max 0 / 2 = 2147483647 := by decide +kernel
  unfold serial_near_uint32.f
  rw [e]
  congr 1
  rw [decide_eq_decide]
  omega
/-- What is left behind a flow. -/
def toldL (c a b : Int) : Int := if (a + b - c) % 4294967296 < 2147483648 then mn ((a + b - c) % 4294967296) 1000 else 0
theorem told_eq (c l : Int) (d : Bool) (a b : Int) (e : Bool) (hc : 0 ≤ c ∧ c < 4294967296) (hb : 0 ≤ b ∧ b < 4294967296) :
    cr_Told.f c l d a b e = some (c, toldL c a b, e) := by
  have hw : wrap64 b = b := by unfold wrap64; omega
  unfold cr_Told.f serial_Add.f serial_Less.f serial_steps_uint32.f toldL
  simp only [near_eq, Option.bind_some, hw, Int.emod_sub_emod]
  by_cases h : c = (a + b) % 4294967296
  · have h0 : (a + b - c) % 4294967296 = 0 := by omega
    rw [if_pos h]
    simp only [Option.bind_some, h0]
    rfl
  · rw [if_neg h]
    simp only [Option.bind_some]
    by_cases h1 : (a + b - c) % 4294967296 < 2147483648
    · simp only [h1, decide_true, if_true]
    · simp only [h1, decide_false, if_false, Bool.false_eq_true]
theorem take_eq (c l : Int) (d : Bool) (n : Int) (hn : 0 ≤ n ∧ n < 4294967296) : cr_take.f c l d n = some ((c + n) % 4294967296, (l - n) % 4294967296, d) := by
  have hw : wrap64 n = n := by unfold wrap64; omega
  unfold cr_take.f serial_Add.f
  rw [hw]
  rfl
theorem Take_eq (c l : Int) (d : Bool) (hl : 0 ≤ l ∧ l ≤ 1000) : cr_Take.f c l d = if l = 0 then some (false, c, l, d) else some (true, (c + 1) % 4294967296, l - 1, d) := by
  unfold cr_Take.f
  rw [take_eq _ _ _ 1 (by omega)]
  simp only [Option.bind_some]
  split
  · rfl
  · have : (l - 1) % 4294967296 = l - 1 := by omega
    rw [this]
theorem Dry_eq (c l : Int) (d : Bool) (hl : 0 ≤ l ∧ l ≤ 1000) : cr_Dry.f c l d = if d = true then some (l, true, (c + l) % 4294967296, 0, false) else some (0, false, c, l, d) := by
  unfold cr_Dry.f
  rw [take_eq _ _ _ l (by omega)]
  simp only [Option.bind_some]
  have : (l - l) % 4294967296 = 0 := by omega
  rw [this]
theorem Heard_eq (c l : Int) (d : Bool) (a : Int) (hc : 0 ≤ c ∧ c < 4294967296) (ha : 0 ≤ a ∧ a < 4294967296) (hl : 0 ≤ l ∧ l ≤ 1000) :
    cr_Heard.f c l d a = if (a - c) % 4294967296 > l then some (c, l, d) else some (a, l - (a - c) % 4294967296, d && decide (0 < l - (a - c) % 4294967296)) := by
  unfold cr_Heard.f
  rw [take_eq _ _ _ _ (by omega)]
  simp only [Option.bind_some]
  by_cases h : (a - c) % 4294967296 > l
  · rw [if_pos h, if_pos h]
  · rw [if_neg h, if_neg h]
    have e1 : (c + (a - c) % 4294967296) % 4294967296 = a := by omega
    have e2 : (l - (a - c) % 4294967296) % 4294967296 = l - (a - c) % 4294967296 := by omega
    rw [e1, e2]
    cases d <;> simp
theorem works_ge (k : Nat) (hk : 3 ≤ k) : lw16_works.f k = some true :=
  at_rounds (g := fun k => lw16_works.f k) (fun k => lw16_works.mono k) hk (by decide +kernel)
theorem CreditNil : lw16_CreditNil.Pure := fun _ _ _ _ _ _ _ => ⟨3, works_ge 3 (by omega)⟩

end Go.Proofs.Ytadbpgljamkoeaa.Pure
