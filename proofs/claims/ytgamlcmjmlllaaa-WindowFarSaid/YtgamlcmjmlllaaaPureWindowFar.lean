/- The plain law of WindowFar: a flow that tells of what was not sent leaves nothing, and one that is right just what it takes; for all inputs, at most 300 things being done (the law's own bound). No condition of our own. -/
import Derived.Test.YtgamlcmjmlllaaaPWindowFarx2
namespace Go.Proofs.Ytgamlcmjmlllaaa.Pure
set_option linter.unusedVariables false
open Go.RowKit Go.Proofs.Ytgamlcmjmlllaaa.PWindowFar Go.Proofs.YtgamlcmjmlllaaaW.PrintWords Go.Proofs.YtgamlcmjmlllaaaW.PrintLast Go.Proofs.YtgamlcmjmlllaaaW.PrintMore

theorem wf32 {a : Int} (h : (Lit.int .u32 a).wf = true) : 0 ≤ a ∧ a < 4294967296 := by
  simp [Lit.wf, IntKind.min, IntKind.max, IntKind.bits, IntKind.signed] at h
  omega
theorem wf8 {a : Int} (h : (Lit.int .u8 a).wf = true) : 0 ≤ a ∧ a < 256 := by
  simp [Lit.wf, IntKind.min, IntKind.max, IntKind.bits, IntKind.signed] at h
  omega
theorem wfi {a : Int} (h : (Lit.int .i64 a).wf = true) : -9223372036854775808 ≤ a ∧ a ≤ 9223372036854775807 := by
  simp [Lit.wf, IntKind.min, IntKind.max, IntKind.bits, IntKind.signed] at h
  omega
theorem wf16 {a : Int} (h : (Lit.int .u16 a).wf = true) : 0 ≤ a ∧ a < 65536 := by
  simp [Lit.wf, IntKind.min, IntKind.max, IntKind.bits, IntKind.signed] at h
  omega
theorem near_eq (n : Int) : serial_near_uint32.f n = some (decide (n < 2147483648)) := by
  have e : Go.bits .xor .u32 Go.IntKind.u32.max 0 / 2 = 2147483647 := by decide +kernel
  unfold serial_near_uint32.f
  rw [e]
  congr 1
  rw [decide_eq_decide]
  omega
/-- What may be sent behind a flow. -/
def toldO (no n a : Int) : Int := if (mx n 0 + a - no) % 4294967296 < 2147483648 then mn ((mx n 0 + a - no) % 4294967296) 256 else 0
theorem toldO_range (no n a : Int) : 0 ≤ toldO no n a ∧ toldO no n a ≤ 256 := by
  unfold toldO mn
  split <;> (try split) <;> omega
theorem told_eq (g no ni : Int) (kn : Bool) (o i n a b : Int) (ha : 0 ≤ a ∧ a < 4294967296) :
    wi_Told.f g no ni kn o i n a b = some (g, no, (if kn = true then ni else b), true, toldO no n a, i) := by
  have hw : wrap64 a = a := by unfold wrap64; omega
  unfold wi_Told.f serial_Add.f serial_Less.f serial_steps_uint32.f wi_learn.f toldO
  simp only [near_eq, Option.bind_some, hw, Int.emod_sub_emod, Int.emod_add_emod]
  by_cases h : no = (mx n 0 + a) % 4294967296
  · have h0 : (mx n 0 + a - no) % 4294967296 = 0 := by omega
    rw [if_pos h]
    simp only [Option.bind_some, h0]
    cases kn <;> rfl
  · rw [if_neg h]
    simp only [Option.bind_some]
    by_cases h1 : (mx n 0 + a - no) % 4294967296 < 2147483648
    · simp only [h1, decide_true, if_true]
      cases kn <;> rfl
    · simp only [h1, decide_false, if_false, Bool.false_eq_true]
      cases kn <;> rfl
theorem sent_eq (g no ni : Int) (kn : Bool) (o i : Int) (ho : 0 ≤ o ∧ o ≤ 256) :
    wi_Sent.f g no ni kn o i = if o = 0 then some (0, false, g, no, ni, kn, o, i) else some (no, true, g, (no + 1) % 4294967296, ni, kn, o - 1, i) := by
  unfold wi_Sent.f serial_Add.f
  have : o = 0 ∨ (o - 1) % 4294967296 = o - 1 := by omega
  rcases this with h | h
  · rw [if_pos h, if_pos h]
  · rw [h]; rfl
theorem got_eq (g no ni : Int) (kn : Bool) (o i : Int) (hi : 0 ≤ i ∧ i ≤ 256) :
    wi_Got.f g no ni kn o i = if i = 0 then some (false, g, no, ni, kn, o, i) else if kn = true then some (true, g, no, (ni + 1) % 4294967296, kn, o, i - 1) else some (false, g, no, ni, kn, o, i) := by
  unfold wi_Got.f serial_Add.f
  have : i = 0 ∨ (i - 1) % 4294967296 = i - 1 := by omega
  rcases this with h | h
  · rw [if_pos h, if_pos h]
  · rw [h]; rfl
theorem begun_eq (g no ni : Int) (kn : Bool) (o i a b : Int) : wi_Begun.f g no ni kn o i a b = some (g, no, a, true, mn b 256, i) := rfl
theorem new_eq (a : Int) (ha : 0 ≤ a) : ∃ g, 1 ≤ g ∧ g ≤ 256 ∧ mn (mx a 1) 256 = g ∧ mx 1 (mn a 256) = g := by
  refine ⟨_, ?_, ?_, rfl, ?_⟩ <;> unfold mn mx <;> (repeat' split) <;> omega
theorem works_eq : lw15_works.f = some true := by decide +kernel
theorem loop (t a n : Int) (ht : 0 ≤ t ∧ t < 4294967296) (ha : 0 ≤ a ∧ a < 4294967296) (hn : 0 ≤ n ∧ n < 200) (d : Nat) :
    ∀ (k : Nat) (i : Int), 0 ≤ i → i ≤ n → n - i = d → d + 1 ≤ k → lw15_WindowFar.l0 k t a n i 256 i 0 true (256 - i) 256 = some true := by
  induction d with
  | zero =>
    intro k i h0 h1 hd hk
    obtain ⟨k, rfl⟩ : ∃ m, k = m + 1 := ⟨k - 1, by omega⟩
    have hw : wrap64 t = t := by unfold wrap64; omega
    have hm : mx t 0 = t := by unfold mx; split <;> omega
    obtain rfl : i = n := by omega
    simp only [lw15_WindowFar.l0, hw]
    rw [if_neg (by omega), told_eq _ _ _ _ _ _ _ _ _ ha]
    simp only [Option.bind_some, wi_Left.f, works_eq, toldO, hm]
    by_cases h : (t + a - i) % 4294967296 < 2147483648
    · rw [if_neg (by omega), if_pos h, if_pos rfl]
    · rw [if_pos (by omega), if_neg h, if_pos rfl]
  | succ d ih =>
    intro k i h0 h1 hd hk
    obtain ⟨k, rfl⟩ : ∃ m, k = m + 1 := ⟨k - 1, by omega⟩
    simp only [lw15_WindowFar.l0]
    rw [if_pos (by omega), sent_eq _ _ _ _ _ _ (by omega), if_neg (by omega)]
    simp only [Option.bind_some, if_true]
    have e1 : (i + 1) % 4294967296 = i + 1 := by omega
    have e2 : 256 - i - 1 = 256 - (i + 1) := by omega
    rw [e1, e2]
    exact ih k (i + 1) (by omega) (by omega) (by omega) (by omega)
theorem WindowFar : lw15_WindowFar.Pure := by
  intro s t a hs ht ha
  replace hs := wf8 hs
  replace ht := wf32 ht
  replace ha := wf32 ha
  refine ⟨300, ?_⟩
  have e : s % 4294967296 % 200 = s % 200 := by omega
  unfold lw15_WindowFar.f window_New.f
  simp only [Option.bind_some, begun_eq, e]
  exact loop t a (s % 200) ht ha (by omega) (s % 200).toNat 300 0 (by omega) (by omega) (by omega) (by omega)

end Go.Proofs.Ytgamlcmjmlllaaa.Pure
