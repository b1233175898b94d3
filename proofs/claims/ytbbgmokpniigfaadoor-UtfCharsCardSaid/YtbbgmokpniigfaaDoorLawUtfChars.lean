/- Written by a program of this session (a turned copy of the print; not the kit's own print): the walks of the functions that one law reaches, or that law's row; the plain law stands in the Pure text; no condition of our own. -/
import Derived.Test.YtbbgmokpniigfaaDoorRows
import Derived.Test.YtbbgmokpniigfaaDoorCards
import Derived.Test.YtbbgmokpniigfaaDoorTie
import Derived.Test.YtbbgmokpniigfaaDoorHeads
import Derived.SevenTiedAt
import Derived.Handed
import Derived.Test.YtbbgmokpniigfaaDoorPUtfCharsx4
import Derived.Test.YtbbgmokpniigfaaDoorPureUtfChars
import Derived.Test.YtbbgmokpniigfaaDoorOpen
import Derived.WalkKit
import Derived.ProofKit
import Derived.OpenShut
import Derived.ShutString
import Derived.ChangeOld
import Derived.Below
import Derived.SizedLaws
namespace Go.Proofs.YtbbgmokpniigfaaDoor.utfChars
open Go.ChangeShapes Go.WideShapes Go.ChangeAt Go.RowKit Go.Joins Go.Proofs.YtbbgmokpniigfaaDoorW.PrintWords Go.Proofs.YtbbgmokpniigfaaDoorOpen
set_option linter.unusedVariables false
theorem own : ownKnob Tryd.prog.godebug = none := by kernel_rfl
theorem laidOut : laidOutB Tryd.prog = true := by kernel_rfl
set_option maxRecDepth 100000 in
theorem lifted (os : Os) (started : os.Started) (H : Type) (enc : TypeId × Value → H) :
    ReturnsInHanded {} Tryd.checked os 8 .any (fun w args => (Rows.utfCharsSpec.pre enc Tryd.prog Tryd.f8 [] false w args ∧ laidMet Tryd.prog [("bellwether/utf.heads", Rows.laid_bellwether_utf_heads)] w) ∧ sizedMet enc Tryd.prog Tryd.f8 (OpenSpec.ofChange Rows.utfCharsSpec) false w args) (Rows.utfCharsSpec.post enc Tryd.prog Tryd.f8 false true false false) := by
  refine returnsInHanded_of_change_and (C := Tryd.checked) (X := fun w _ => laidMet Tryd.prog [("bellwether/utf.heads", Rows.laid_bellwether_utf_heads)] w) (fun _ _ _ hh h => h.of_heap hh) own started (by kernel_rfl) Tryd.func8
    (ChangeSpec.witness_at (enc := enc) (C := Tryd.checked) (os := os) (X := fun w _ => laidMet Tryd.prog [("bellwether/utf.heads", Rows.laid_bellwether_utf_heads)] w) false (Heads.laidWorld os) #[.slice none 0 0] 8 rfl (by kernel_rfl) (by kernel_rfl) (by kernel_rfl) (by kernel_rfl) (by kernel_rfl) (Heads.laidWorld_laid os _)) ?_
  intro W base args ds gs before hval0 hW hcnd hsz0 hL _
  have hG := Heads.heads hL
  have hval : ∀ (j : Nat) t v, Tryd.f8.params[j]? = some t → args[j]? = some v → Value.okWide Tryd.prog W .any base t v := hval0
  have hW' := hW
  obtain ⟨p, q, hA0, hV, rfl, hfz, hnd⟩ := hW
  have hA : DataW.TrodAll enc Tryd.prog W 0 (fun _ => true) true Tryd.f8.params.toList args.toList ds p := hA0
  rw [Tryd.params8] at hA hval
  obtain ⟨v0, vs0, d0, ds0, p0, q0, hargs, rfl, rfl, h0, r0⟩ := trodAll_cons hA
  obtain ⟨rfl, rfl, rfl⟩ := trodAll_nil r0
  obtain rfl : args = #[v0] := by cases args; simp_all
  obtain ⟨rfl, rfl⟩ := trodVars_none hV
  obtain ⟨a0, len0, cap0, rfl⟩ := okWide_slice Tryd.underlying25 (hval 0 25 v0 rfl rfl)
  have k0 := h0
  have lt0 : ∀ x ∈ p0, x.block < W.heap.size := by obtain ⟨m, hm⟩ := k0; exact DataW.trod_lt m _ _ _ hm
  have hel0 : ∀ (n : Nat) (cs : List Value) (y : DataW H × List MemPlace), DataW.trod enc Tryd.prog W 0 (fun _ => true) true n 5 cs = some y → cs.length = Kd.sz (Kd.int .u8) → ∃ s : Int, Kd.K (Kd.int .u8) W s cs ∧ (fun x : Int => (Lit.int .u8 x).wf = true) s := by
    intro n cs y hy hl
    obtain ⟨b, rfl, _, g⟩ := DataW.trod_int Tryd.underlying5 hy
    exact ⟨b, rfl, g⟩
  obtain ⟨l0, rfl, hc0, hm0, hr0, hg0⟩ : ∃ l : List (Int), len0 = l.length ∧ l.length ≤ cap0 ∧ l.length ≤ maxLen ∧ Kd.C (Kd.int .u8) W a0 l.length l ∧ ∀ s ∈ l, (fun x : Int => (Lit.int .u8 x).wf = true) s := by
    obtain ⟨fuel, hf⟩ := h0
    exact open_rows (0 : Int) (Kd.int .u8) (fun x : Int => (Lit.int .u8 x).wf = true) Tryd.underlying25 (by kernel_rfl) hel0 hf
  clear hA0 hval0 hsz0
  obtain ⟨k, hk⟩ := Pure.UtfChars l0 hm0 hg0
  refine (PUtfChars.lw02_UtfChars.calls k a0 cap0 l0 true W hG hr0 hc0 hk).mono fun e W' ⟨he, bel0⟩ => ?_
  have bel : Below W.heap.size W W' := bel0
  subst he
  exact ⟨_, rfl, _, _, _, [], _, [], hW', trodAll_mk1 (shut_bool Tryd.underlying4 _), (trodAll_cons_mk (Below.trod laidOut (by kernel_rfl) (of_decide_eq_true (by kernel_rfl)) k0 bel lt0) trodAll_mk0), rfl, bel.frame _, fun h => by cases h⟩
theorem over : Rows.utfCharsRow.holds Tryd.pinned (OpenSpec.ofChange Rows.utfCharsSpec) :=
  OpenClaim.holds_of_wide 8 Tryd.f8 rfl rfl rfl rfl rfl rfl rfl ⟨rfl, rfl, rfl, rfl, rfl⟩ rfl rfl rfl rfl rfl (by kernel_rfl) Tryd.func8 (by kernel_rfl)
    (of_decide_eq_true (by kernel_rfl)) (by unfold Func.isWrapper; first | (rw [if_pos (by decide +kernel)]; kernel_rfl) | (rw [if_neg (by decide +kernel)]; exact ⟨rfl, rfl⟩))
    (fun os started H enc _ => lifted os started H enc)
theorem proved : Rows.UtfCharsCardSaid :=
  Claim7.holds_tied_plain_at .later [] [.data] true (true, "c5eac881d84c7b59fac967308f8987c24e319df8c81648d98942817eb544db40") false
    over (fun _ h => by cases h) (by kernel_rfl) (fun _ h => by cases h) utfChars_row_tie rfl ⟨rfl, rfl⟩ (by kernel_rfl) rfl
    (fun f fn hf hfn => by
      obtain rfl : f = 8 := Option.some.inj ((show Tryd.prog.funcNamed "bellwether/bellwetherlaw02.UtfChars" = some 8 by kernel_rfl).symm.trans hf) |>.symm
      obtain rfl : fn = Tryd.f8 := (Option.some.inj (Tryd.func8.symm.trans hfn)).symm
      exact ⟨by kernel_rfl, fun j t ht => by
        rw [Tryd.params8] at ht
        have hm : t ∈ [25] := by simpa using Array.mem_of_getElem? ht
        have hall : ([25].all fun u => !Tryd.prog.wantsStandIn u) = true := by kernel_rfl
        exact (show Tryd.prog.wantsStandIn t = false by simpa using List.all_eq_true.1 hall t hm)⟩)
    (by kernel_rfl)
#print axioms proved
end Go.Proofs.YtbbgmokpniigfaaDoor.utfChars
namespace Go.Proofs.YtbbgmokpniigfaaDoor
/-- The row, under a short name, for the claim. -/
theorem utfChars_card_holds : Rows.UtfCharsCardSaid := utfChars.proved
end Go.Proofs.YtbbgmokpniigfaaDoor
