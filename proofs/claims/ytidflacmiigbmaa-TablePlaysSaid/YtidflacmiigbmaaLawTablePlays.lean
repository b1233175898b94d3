/- The row of TablePlays, out of its walk. No condition of our own. -/
import Derived.Test.YtidflacmiigbmaaRows
import Derived.Test.YtidflacmiigbmaaWalkTablePlays
import Derived.Test.YtidflacmiigbmaaOpen
import Derived.WalkKit
import Derived.ProofKit
import Derived.OpenShut
import Derived.ShutString
import Derived.ChangeOld
import Derived.Below
import Derived.SizedLaws

namespace Go.Proofs.Ytidflacmiigbmaa.tablePlays
open Go.ChangeShapes Go.WideShapes Go.ChangeAt Go.RowKit Go.Proofs.YtidflacmiigbmaaW.PrintWords Go.Joins Go.Proofs.YtidflacmiigbmaaOpen
set_option linter.unusedVariables false
theorem own : ownKnob Try.prog.godebug = none := by kernel_rfl
theorem laidOut : laidOutB Try.prog = true := by kernel_rfl
set_option maxRecDepth 100000 in
theorem lifted (os : Os) (started : os.Started) (H : Type) (enc : TypeId × Value → H) :
    ReturnsInHanded {} Try.checked os 5 .any (Rows.tablePlaysSpec.pre6 enc Try.prog Try.f5 Rows.tablePlaysRow.domain false) (Rows.tablePlaysSpec.post enc Try.prog Try.f5 false true false false) := by
  refine returnsInHanded_of_change_sized (C := Try.checked) own started (by kernel_rfl) Try.func5
    (ChangeSpec.witness6 (enc := enc) (C := Try.checked) false ⟨#[], #[.int .i64 0, .slice none 0 0, .int .i64 0], []⟩ 8 (by kernel_rfl) (by kernel_rfl) (by kernel_rfl) (by kernel_rfl)) ?_
  intro W base args ds gs before hval0 hW hcnd hsz0 _
  have hval : ∀ (j : Nat) t v, Try.f5.params[j]? = some t → args[j]? = some v → Value.okWide Try.prog W .any base t v := hval0
  have hW' := hW
  obtain ⟨p, q, hA0, hV, rfl, hfz, hnd⟩ := hW
  have hA : DataW.TrodAll enc Try.prog W 0 (fun _ => true) true Try.f5.params.toList args.toList ds p := hA0
  rw [Try.params5] at hA hval
  obtain ⟨v0, vs0, d0, ds0, p0, q0, hargs, rfl, rfl, h0, r0⟩ := trodAll_cons hA
  obtain ⟨v1, vs1, d1, ds1, p1, q1, rfl, rfl, rfl, h1, r1⟩ := trodAll_cons r0
  obtain ⟨v2, vs2, d2, ds2, p2, q2, rfl, rfl, rfl, h2, r2⟩ := trodAll_cons r1
  obtain ⟨rfl, rfl, rfl⟩ := trodAll_nil r2
  obtain rfl : args = #[v0, v1, v2] := by cases args; simp_all
  obtain ⟨rfl, rfl⟩ := trodVars_none hV
  obtain ⟨a0, rfl, rfl, rfl, w0⟩ := open_int Try.underlying3 (hval 0 3 v0 rfl rfl) h0
  obtain ⟨a1, len1, cap1, rfl⟩ := okWide_slice Try.underlying22 (hval 1 22 v1 rfl rfl)
  have k1 := h1
  have lt1 : ∀ x ∈ p1, x.block < W.heap.size := by obtain ⟨m, hm⟩ := k1; exact DataW.trod_lt m _ _ _ hm
  have hel1 : ∀ (n : Nat) (cs : List Value) (y : DataW H × List MemPlace), DataW.trod enc Try.prog W 0 (fun _ => true) true n 31 cs = some y → cs.length = Kd.sz Tab.kStep → ∃ s : Tab.Step, Kd.K Tab.kStep W s cs ∧ (fun x : Tab.Step => (Lit.int .i64 x.k).wf = true ∧ (Lit.int .i64 x.n).wf = true) s := by
    intro n cs y hy hl
    have hl2 : cs.length = 2 := hl
    match cs, hl2 with
    | [c0, c1], _ =>
      obtain ⟨y0, y1, m, e0, e1⟩ := fields2 Try.underlying31 (by kernel_rfl) hy
      obtain ⟨b0, u0, x0, g0⟩ := DataW.trod_int Try.underlying3 e0
      obtain rfl := (List.cons.inj u0).1
      obtain ⟨b1, u1, x1, g1⟩ := DataW.trod_int Try.underlying3 e1
      obtain rfl := (List.cons.inj u1).1
      exact ⟨⟨b0, b1⟩, Tab.kStep_mk W _, g0, g1⟩
  obtain ⟨l1, rfl, hc1, hm1, hr1, hg1⟩ : ∃ l : List (Tab.Step), len1 = l.length ∧ l.length ≤ cap1 ∧ l.length ≤ maxLen ∧ Kd.C Tab.kStep W a1 l.length l ∧ ∀ s ∈ l, (fun x : Tab.Step => (Lit.int .i64 x.k).wf = true ∧ (Lit.int .i64 x.n).wf = true) s := by
    obtain ⟨fuel, hf⟩ := h1
    exact open_rows Tab.zStep Tab.kStep (fun x : Tab.Step => (Lit.int .i64 x.k).wf = true ∧ (Lit.int .i64 x.n).wf = true) Try.underlying22 (by kernel_rfl) hel1 hf
  obtain ⟨a2, rfl, rfl, rfl, w2⟩ := open_int Try.underlying3 (hval 2 3 v2 rfl rfl) h2
  clear hA0 hval0 hsz0
  refine (Tab.TablePlays_walk a0 a1 cap1 l1 a2 W w0 hm1 hr1 hc1 hg1 w2).mono fun e W' ⟨he, bel0⟩ => ?_
  have bel : Below W.heap.size W W' := bel0
  subst he
  exact ⟨_, rfl, _, _, _, [], _, [], hW', trodAll_mk1 (shut_bool Try.underlying4 _), (trodAll_cons_mk (shut_int Try.underlying3 w0) (trodAll_cons_mk (Below.trod laidOut (by kernel_rfl) (of_decide_eq_true (by kernel_rfl)) k1 bel lt1) (trodAll_cons_mk (shut_int Try.underlying3 w2) trodAll_mk0))), rfl, bel.frame _, fun h => by cases h⟩
theorem over : Rows.tablePlaysRow.holds Try.pinned (OpenSpec.ofChange Rows.tablePlaysSpec) :=
  OpenClaim.holds_of_wide 5 Try.f5 rfl rfl rfl rfl rfl rfl rfl ⟨rfl, rfl, rfl, rfl, rfl⟩ rfl rfl rfl rfl rfl (by kernel_rfl) Try.func5 (by kernel_rfl)
    (of_decide_eq_true (by kernel_rfl)) (by unfold Func.isWrapper; first | (rw [if_pos (by decide +kernel)]; kernel_rfl) | (rw [if_neg (by decide +kernel)]; exact ⟨rfl, rfl⟩))
    (fun os started H enc _ => lifted os started H enc)
theorem proved : Rows.TablePlaysSaid := over
#print axioms proved
end Go.Proofs.Ytidflacmiigbmaa.tablePlays
namespace Go.Proofs.Ytidflacmiigbmaa
/-- The row, under a short name, for the claim. -/
theorem tablePlays_holds : Rows.TablePlaysSaid := tablePlays.proved
end Go.Proofs.Ytidflacmiigbmaa
