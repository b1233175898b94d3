/- The plain law of WindowNil: no window lets anything through; for all inputs, at most 300 things being done (the law's own bound). No condition of our own. -/
import Derived.Test.YtgamlcmjmlllaaaPWindowNilx3
namespace Go.Proofs.Ytgamlcmjmlllaaa.Pure
set_option linter.unusedVariables false
open Go.RowKit Go.Proofs.Ytgamlcmjmlllaaa.PWindowNil Go.Proofs.YtgamlcmjmlllaaaW.PrintWords Go.Proofs.YtgamlcmjmlllaaaW.PrintLast Go.Proofs.YtgamlcmjmlllaaaW.PrintMore

theorem wf32 {a : Int} (h : (Lit.int .u32 a).wf = true) : 0 ≤ a ∧ a < 4294967296 := by
  simp [Lit.wf, IntKind.min, IntKind.max, IntKind.bits, IntKind.signed] at h
  omega
theorem wf8 {a : Int} (h : (Lit.int .u8 a).wf = true) : 0 ≤ a ∧ a < 256 := by
  simp [Lit.wf, IntKind.min, IntKind.max, IntKind.bits, IntKind.signed] at h
  omega
theorem wfi {a : Int} (h : (Lit.int .i64 a).wf = true) : -9223372036854775808 ≤ a ∧ a ≤ 9223372036854775807 := by
  simp [Lit.wf, IntKind.min, IntKind.max, IntKind.bits, IntKind.signed] at h
  omega
theorem wf16 {a : Int} (h : (Lit.int .u16 a).wf = true) : 0 ≤ a ∧ a < 65536 := by
  simp [Lit.wf, IntKind.min, IntKind.max, IntKind.bits, IntKind.signed] at h
  omega
theorem near_eq (n : Int) : serial_near_uint32.f n = some (decide (n < 2147483648)) := by
  have e : Go.bits .xor .u32 Go.IntKind.u32.max 0 / 2 = 2147483647 := by decide +kernel
  unfold serial_near_uint32.f
  rw [e]
  congr 1
  rw [decide_eq_decide]
  omega
/-- What may be sent behind a flow. -/
def toldO (no n a : Int) : Int := if (mx n 0 + a - no) % 4294967296 < 2147483648 then mn ((mx n 0 + a - no) % 4294967296) 256 else 0
theorem toldO_range (no n a : Int) : 0 ≤ toldO no n a ∧ toldO no n a ≤ 256 := by
  unfold toldO mn
  split <;> (try split) <;> omega
theorem told_eq (g no ni : Int) (kn : Bool) (o i n a b : Int) (ha : 0 ≤ a ∧ a < 4294967296) :
    wi_Told.f g no ni kn o i n a b = some (g, no, (if kn = true then ni else b), true, toldO no n a, i) := by
  have hw : wrap64 a = a := by unfold wrap64; omega
  unfold wi_Told.f serial_Add.f serial_Less.f serial_steps_uint32.f wi_learn.f toldO
  simp only [near_eq, Option.bind_some, hw, Int.emod_sub_emod, Int.emod_add_emod]
  by_cases h : no = (mx n 0 + a) % 4294967296
  · have h0 : (mx n 0 + a - no) % 4294967296 = 0 := by omega
    rw [if_pos h]
    simp only [Option.bind_some, h0]
    cases kn <;> rfl
  · rw [if_neg h]
    simp only [Option.bind_some]
    by_cases h1 : (mx n 0 + a - no) % 4294967296 < 2147483648
    · simp only [h1, decide_true, if_true]
      cases kn <;> rfl
    · simp only [h1, decide_false, if_false, Bool.false_eq_true]
      cases kn <;> rfl
theorem sent_eq (g no ni : Int) (kn : Bool) (o i : Int) (ho : 0 ≤ o ∧ o ≤ 256) :
    wi_Sent.f g no ni kn o i = if o = 0 then some (0, false, g, no, ni, kn, o, i) else some (no, true, g, (no + 1) % 4294967296, ni, kn, o - 1, i) := by
  unfold wi_Sent.f serial_Add.f
  have : o = 0 ∨ (o - 1) % 4294967296 = o - 1 := by omega
  rcases this with h | h
  · rw [if_pos h, if_pos h]
  · rw [h]; rfl
theorem got_eq (g no ni : Int) (kn : Bool) (o i : Int) (hi : 0 ≤ i ∧ i ≤ 256) :
    wi_Got.f g no ni kn o i = if i = 0 then some (false, g, no, ni, kn, o, i) else if kn = true then some (true, g, no, (ni + 1) % 4294967296, kn, o, i - 1) else some (false, g, no, ni, kn, o, i) := by
  unfold wi_Got.f serial_Add.f
  have : i = 0 ∨ (i - 1) % 4294967296 = i - 1 := by omega
  rcases this with h | h
  · rw [if_pos h, if_pos h]
  · rw [h]; rfl
theorem begun_eq (g no ni : Int) (kn : Bool) (o i a b : Int) : wi_Begun.f g no ni kn o i a b = some (g, no, a, true, mn b 256, i) := rfl
theorem new_eq (a : Int) (ha : 0 ≤ a) : ∃ g, 1 ≤ g ∧ g ≤ 256 ∧ mn (mx a 1) 256 = g ∧ mx 1 (mn a 256) = g := by
  refine ⟨_, ?_, ?_, rfl, ?_⟩ <;> unfold mn mx <;> (repeat' split) <;> omega
theorem works_eq : lw15_works.f = some true := by decide +kernel
theorem WindowNil : lw15_WindowNil.Pure := fun _ _ _ _ _ _ _ _ => works_eq

end Go.Proofs.Ytgamlcmjmlllaaa.Pure
