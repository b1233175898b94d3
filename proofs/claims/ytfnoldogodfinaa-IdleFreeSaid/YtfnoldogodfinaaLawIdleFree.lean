/- Written by a program of this session (a turned copy of the print; not the kit's own print): the walks of the functions that one law reaches, or that law's row; the plain law stands in the Pure text; no condition of our own. -/
import Derived.Test.YtfnoldogodfinaaRows
import Derived.Test.YtfnoldogodfinaaPIdleFreex2
import Derived.Test.YtfnoldogodfinaaPureIdleFree
import Derived.Test.YtfnoldogodfinaaOpen
import Derived.WalkKit
import Derived.ProofKit
import Derived.OpenShut
import Derived.ShutString
import Derived.ChangeOld
import Derived.Below
import Derived.SizedLaws
namespace Go.Proofs.Ytfnoldogodfinaa.idleFree
open Go.ChangeShapes Go.WideShapes Go.ChangeAt Go.RowKit Go.Joins Go.Proofs.YtfnoldogodfinaaW.PrintWords Go.Proofs.YtfnoldogodfinaaOpen
set_option linter.unusedVariables false
theorem own : ownKnob Try.prog.godebug = none := by kernel_rfl
theorem laidOut : laidOutB Try.prog = true := by kernel_rfl
set_option maxRecDepth 100000 in
theorem lifted (os : Os) (started : os.Started) (H : Type) (enc : TypeId × Value → H) :
    ReturnsInHanded {} Try.checked os 5 .any (Rows.idleFreeSpec.pre6 enc Try.prog Try.f5 Rows.idleFreeRow.domain false) (Rows.idleFreeSpec.post enc Try.prog Try.f5 false true false false) := by
  refine returnsInHanded_of_change_sized (C := Try.checked) own started (by kernel_rfl) Try.func5
    (ChangeSpec.witness6 (enc := enc) (C := Try.checked) false ⟨#[], #[.int .i64 0, .slice none 0 0], []⟩ 8 (by kernel_rfl) (by kernel_rfl) (by kernel_rfl) (by kernel_rfl)) ?_
  intro W base args ds gs before hval0 hW hcnd hsz0 _
  have hval : ∀ (j : Nat) t v, Try.f5.params[j]? = some t → args[j]? = some v → Value.okWide Try.prog W .any base t v := hval0
  have hW' := hW
  obtain ⟨p, q, hA0, hV, rfl, hfz, hnd⟩ := hW
  have hA : DataW.TrodAll enc Try.prog W 0 (fun _ => true) true Try.f5.params.toList args.toList ds p := hA0
  rw [Try.params5] at hA hval
  obtain ⟨v0, vs0, d0, ds0, p0, q0, hargs, rfl, rfl, h0, r0⟩ := trodAll_cons hA
  obtain ⟨v1, vs1, d1, ds1, p1, q1, rfl, rfl, rfl, h1, r1⟩ := trodAll_cons r0
  obtain ⟨rfl, rfl, rfl⟩ := trodAll_nil r1
  obtain rfl : args = #[v0, v1] := by cases args; simp_all
  obtain ⟨rfl, rfl⟩ := trodVars_none hV
  obtain ⟨a0, rfl, rfl, rfl, w0⟩ := open_int Try.underlying2 (hval 0 2 v0 rfl rfl) h0
  obtain ⟨a1, len1, cap1, rfl⟩ := okWide_slice Try.underlying33 (hval 1 33 v1 rfl rfl)
  have k1 := h1
  have lt1 : ∀ x ∈ p1, x.block < W.heap.size := by obtain ⟨m, hm⟩ := k1; exact DataW.trod_lt m _ _ _ hm
  have hel1 : ∀ (n : Nat) (cs : List Value) (y : DataW H × List MemPlace), DataW.trod enc Try.prog W 0 (fun _ => true) true n 36 cs = some y → cs.length = Kd.sz PIdleFree.k36 → ∃ s : PIdleFree.S36, Kd.K PIdleFree.k36 W s cs ∧ (fun x : PIdleFree.S36 => (Lit.int .i64 x.f0).wf = true ∧ (Lit.int .i64 x.f1).wf = true) s := by
    intro n cs y hy hl
    have hl2 : cs.length = 2 := hl
    match cs, hl2 with
    | [c0, c1], _ =>
      obtain ⟨y0, y1, m, e0, e1⟩ := fields2 Try.underlying36 (by kernel_rfl) hy
      obtain ⟨b0, u0, x0, g0⟩ := DataW.trod_int Try.underlying3 e0
      obtain rfl := (List.cons.inj u0).1
      obtain ⟨b1, u1, x1, g1⟩ := DataW.trod_int Try.underlying2 e1
      obtain rfl := (List.cons.inj u1).1
      exact ⟨⟨b0, b1⟩, PIdleFree.k36_mk W _, g0, g1⟩
  obtain ⟨l1, rfl, hc1, hm1, hr1, hg1⟩ : ∃ l : List (PIdleFree.S36), len1 = l.length ∧ l.length ≤ cap1 ∧ l.length ≤ maxLen ∧ Kd.C PIdleFree.k36 W a1 l.length l ∧ ∀ s ∈ l, (fun x : PIdleFree.S36 => (Lit.int .i64 x.f0).wf = true ∧ (Lit.int .i64 x.f1).wf = true) s := by
    obtain ⟨fuel, hf⟩ := h1
    exact open_rows PIdleFree.z36 PIdleFree.k36 (fun x : PIdleFree.S36 => (Lit.int .i64 x.f0).wf = true ∧ (Lit.int .i64 x.f1).wf = true) Try.underlying33 (by kernel_rfl) hel1 hf
  clear hA0 hval0 hsz0
  obtain ⟨k, hk⟩ := Pure.IdleFree a0 l1 w0 hm1 hg1
  refine (PIdleFree.lw14_IdleFree.calls k a0 a1 cap1 l1 true W hr1 hc1 hk).mono fun e W' ⟨he, bel0⟩ => ?_
  have bel : Below W.heap.size W W' := bel0
  subst he
  exact ⟨_, rfl, _, _, _, [], _, [], hW', trodAll_mk1 (shut_bool Try.underlying4 _), (trodAll_cons_mk (shut_int Try.underlying2 w0) (trodAll_cons_mk (Below.trod laidOut (by kernel_rfl) (of_decide_eq_true (by kernel_rfl)) k1 bel lt1) trodAll_mk0)), rfl, bel.frame _, fun h => by cases h⟩
theorem over : Rows.idleFreeRow.holds Try.pinned (OpenSpec.ofChange Rows.idleFreeSpec) :=
  OpenClaim.holds_of_wide 5 Try.f5 rfl rfl rfl rfl rfl rfl rfl ⟨rfl, rfl, rfl, rfl, rfl⟩ rfl rfl rfl rfl rfl (by kernel_rfl) Try.func5 (by kernel_rfl)
    (of_decide_eq_true (by kernel_rfl)) (by unfold Func.isWrapper; first | (rw [if_pos (by decide +kernel)]; kernel_rfl) | (rw [if_neg (by decide +kernel)]; exact ⟨rfl, rfl⟩))
    (fun os started H enc _ => lifted os started H enc)
theorem proved : Rows.IdleFreeSaid := over
#print axioms proved
end Go.Proofs.Ytfnoldogodfinaa.idleFree
namespace Go.Proofs.Ytfnoldogodfinaa
/-- The row, under a short name, for the claim. -/
theorem idleFree_holds : Rows.IdleFreeSaid := idleFree.proved
end Go.Proofs.Ytfnoldogodfinaa
