/- Written by a program of this session (a turned copy of the print; not the kit's own print): the walks of the functions that one law reaches, or that law's row; the plain law stands in the Pure text; no condition of our own. -/
import Derived.Test.YtfnoldogodfinaaRows
import Derived.Test.YtfnoldogodfinaaPIdleSplitx2
import Derived.Test.YtfnoldogodfinaaPureIdleSplit
import Derived.Test.YtfnoldogodfinaaOpen
import Derived.WalkKit
import Derived.ProofKit
import Derived.OpenShut
import Derived.ShutString
import Derived.ChangeOld
import Derived.Below
import Derived.SizedLaws
namespace Go.Proofs.Ytfnoldogodfinaa.idleSplit
open Go.ChangeShapes Go.WideShapes Go.ChangeAt Go.RowKit Go.Joins Go.Proofs.YtfnoldogodfinaaW.PrintWords Go.Proofs.YtfnoldogodfinaaOpen
set_option linter.unusedVariables false
theorem own : ownKnob Try.prog.godebug = none := by kernel_rfl
theorem laidOut : laidOutB Try.prog = true := by kernel_rfl
set_option maxRecDepth 100000 in
theorem lifted (os : Os) (started : os.Started) (H : Type) (enc : TypeId × Value → H) :
    ReturnsInHanded {} Try.checked os 6 .any (Rows.idleSplitSpec.pre6 enc Try.prog Try.f6 Rows.idleSplitRow.domain false) (Rows.idleSplitSpec.post enc Try.prog Try.f6 false true false false) := by
  refine returnsInHanded_of_change_sized (C := Try.checked) own started (by kernel_rfl) Try.func6
    (ChangeSpec.witness6 (enc := enc) (C := Try.checked) false ⟨#[], #[.int .u32 0, .int .u32 0, .slice none 0 0, .slice none 0 0], []⟩ 8 (by kernel_rfl) (by kernel_rfl) (by kernel_rfl) (by kernel_rfl)) ?_
  intro W base args ds gs before hval0 hW hcnd hsz0 _
  have hval : ∀ (j : Nat) t v, Try.f6.params[j]? = some t → args[j]? = some v → Value.okWide Try.prog W .any base t v := hval0
  have hW' := hW
  obtain ⟨p, q, hA0, hV, rfl, hfz, hnd⟩ := hW
  have hA : DataW.TrodAll enc Try.prog W 0 (fun _ => true) true Try.f6.params.toList args.toList ds p := hA0
  rw [Try.params6] at hA hval
  obtain ⟨v0, vs0, d0, ds0, p0, q0, hargs, rfl, rfl, h0, r0⟩ := trodAll_cons hA
  obtain ⟨v1, vs1, d1, ds1, p1, q1, rfl, rfl, rfl, h1, r1⟩ := trodAll_cons r0
  obtain ⟨v2, vs2, d2, ds2, p2, q2, rfl, rfl, rfl, h2, r2⟩ := trodAll_cons r1
  obtain ⟨v3, vs3, d3, ds3, p3, q3, rfl, rfl, rfl, h3, r3⟩ := trodAll_cons r2
  obtain ⟨rfl, rfl, rfl⟩ := trodAll_nil r3
  obtain rfl : args = #[v0, v1, v2, v3] := by cases args; simp_all
  obtain ⟨rfl, rfl⟩ := trodVars_none hV
  obtain ⟨a0, rfl, rfl, rfl, w0⟩ := open_int Try.underlying22 (hval 0 22 v0 rfl rfl) h0
  obtain ⟨a1, rfl, rfl, rfl, w1⟩ := open_int Try.underlying22 (hval 1 22 v1 rfl rfl) h1
  obtain ⟨a2, len2, cap2, rfl⟩ := okWide_slice Try.underlying38 (hval 2 38 v2 rfl rfl)
  have k2 := h2
  have lt2 : ∀ x ∈ p2, x.block < W.heap.size := by obtain ⟨m, hm⟩ := k2; exact DataW.trod_lt m _ _ _ hm
  have hel2 : ∀ (n : Nat) (cs : List Value) (y : DataW H × List MemPlace), DataW.trod enc Try.prog W 0 (fun _ => true) true n 23 cs = some y → cs.length = Kd.sz (Kd.int .u16) → ∃ s : Int, Kd.K (Kd.int .u16) W s cs ∧ (fun x : Int => (Lit.int .u16 x).wf = true) s := by
    intro n cs y hy hl
    obtain ⟨b, rfl, _, g⟩ := DataW.trod_int Try.underlying23 hy
    exact ⟨b, rfl, g⟩
  obtain ⟨l2, rfl, hc2, hm2, hr2, hg2⟩ : ∃ l : List (Int), len2 = l.length ∧ l.length ≤ cap2 ∧ l.length ≤ maxLen ∧ Kd.C (Kd.int .u16) W a2 l.length l ∧ ∀ s ∈ l, (fun x : Int => (Lit.int .u16 x).wf = true) s := by
    obtain ⟨fuel, hf⟩ := h2
    exact open_rows (0 : Int) (Kd.int .u16) (fun x : Int => (Lit.int .u16 x).wf = true) Try.underlying38 (by kernel_rfl) hel2 hf
  obtain ⟨a3, len3, cap3, rfl⟩ := okWide_slice Try.underlying39 (hval 3 39 v3 rfl rfl)
  have k3 := h3
  have lt3 : ∀ x ∈ p3, x.block < W.heap.size := by obtain ⟨m, hm⟩ := k3; exact DataW.trod_lt m _ _ _ hm
  have hel3 : ∀ (n : Nat) (cs : List Value) (y : DataW H × List MemPlace), DataW.trod enc Try.prog W 0 (fun _ => true) true n 4 cs = some y → cs.length = Kd.sz Kd.bool → ∃ s : Bool, Kd.K Kd.bool W s cs ∧ (fun _ : Bool => True) s := by
    intro n cs y hy hl
    obtain ⟨b, rfl, _⟩ := DataW.trod_bool Try.underlying4 hy
    exact ⟨b, rfl, trivial⟩
  obtain ⟨l3, rfl, hc3, hm3, hr3, hg3⟩ : ∃ l : List (Bool), len3 = l.length ∧ l.length ≤ cap3 ∧ l.length ≤ maxLen ∧ Kd.C Kd.bool W a3 l.length l ∧ ∀ s ∈ l, (fun _ : Bool => True) s := by
    obtain ⟨fuel, hf⟩ := h3
    exact open_rows false Kd.bool (fun _ : Bool => True) Try.underlying39 (by kernel_rfl) hel3 hf
  clear hA0 hval0 hsz0
  obtain ⟨k, hk⟩ := Pure.IdleSplit a0 a1 l2 l3 w0 w1 hm2 hg2 hm3
  refine (PIdleSplit.lw14_IdleSplit.calls k a0 a1 a2 cap2 l2 a3 cap3 l3 true W hr2 hc2 hr3 hc3 hk).mono fun e W' ⟨he, bel0⟩ => ?_
  have bel : Below W.heap.size W W' := bel0
  subst he
  exact ⟨_, rfl, _, _, _, [], _, [], hW', trodAll_mk1 (shut_bool Try.underlying4 _), (trodAll_cons_mk (shut_int Try.underlying22 w0) (trodAll_cons_mk (shut_int Try.underlying22 w1) (trodAll_cons_mk (Below.trod laidOut (by kernel_rfl) (of_decide_eq_true (by kernel_rfl)) k2 bel lt2) (trodAll_cons_mk (Below.trod laidOut (by kernel_rfl) (of_decide_eq_true (by kernel_rfl)) k3 bel lt3) trodAll_mk0)))), rfl, bel.frame _, fun h => by cases h⟩
theorem over : Rows.idleSplitRow.holds Try.pinned (OpenSpec.ofChange Rows.idleSplitSpec) :=
  OpenClaim.holds_of_wide 6 Try.f6 rfl rfl rfl rfl rfl rfl rfl ⟨rfl, rfl, rfl, rfl, rfl⟩ rfl rfl rfl rfl rfl (by kernel_rfl) Try.func6 (by kernel_rfl)
    (of_decide_eq_true (by kernel_rfl)) (by unfold Func.isWrapper; first | (rw [if_pos (by decide +kernel)]; kernel_rfl) | (rw [if_neg (by decide +kernel)]; exact ⟨rfl, rfl⟩))
    (fun os started H enc _ => lifted os started H enc)
theorem proved : Rows.IdleSplitSaid := over
#print axioms proved
end Go.Proofs.Ytfnoldogodfinaa.idleSplit
namespace Go.Proofs.Ytfnoldogodfinaa
/-- The row, under a short name, for the claim. -/
theorem idleSplit_holds : Rows.IdleSplitSaid := idleSplit.proved
end Go.Proofs.Ytfnoldogodfinaa
