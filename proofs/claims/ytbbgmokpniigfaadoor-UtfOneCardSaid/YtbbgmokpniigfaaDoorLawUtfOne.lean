/- The row of UtfOne, over what its card lays of the table of first bytes, and the card. No condition of our own. -/
import Derived.Test.YtbbgmokpniigfaaDoorRows
import Derived.Test.YtbbgmokpniigfaaDoorCards
import Derived.Test.YtbbgmokpniigfaaDoorTie
import Derived.Test.YtbbgmokpniigfaaDoorHeads
import Derived.SevenTiedAt
import Derived.Handed
import Derived.Test.YtbbgmokpniigfaaDoorPUtfOneW
import Derived.Test.YtbbgmokpniigfaaDoorPureUtfOne
import Derived.WalkKit
import Derived.ProofKit
import Derived.OpenShut
import Derived.ChangeOld
import Derived.Below
import Derived.SizedLaws
namespace Go.Proofs.YtbbgmokpniigfaaDoor.utfOne
open Go.ChangeShapes Go.WideShapes Go.ChangeAt Go.RowKit Go.Proofs.YtbbgmokpniigfaaDoorW.PrintWords
set_option linter.unusedVariables false
theorem own : ownKnob Tryd.prog.godebug = none := by kernel_rfl
theorem laidOut : laidOutB Tryd.prog = true := by kernel_rfl
/-- Four bytes that came in. -/
theorem open_four {H : Type} {enc : TypeId × Value → H} {W : World} {b : Nat} {sp : Nat → Bool} {held : Bool} {base : Nat} {v : Value} {d : DataW H} {ps : List MemPlace} (hv : Value.okWide Tryd.prog W .any base 39 v) (hd : DataW.Trod enc Tryd.prog W b sp held 39 v d ps) :
    ∃ b0 b1 b2 b3 : Int, v = .agg #[.int .u8 b0, .int .u8 b1, .int .u8 b2, .int .u8 b3] ∧ (Lit.int .u8 b0).wf = true ∧ (Lit.int .u8 b1).wf = true ∧ (Lit.int .u8 b2).wf = true ∧ (Lit.int .u8 b3).wf = true := by
  simp only [Value.okWide, Tryd.underlying39] at hv
  obtain ⟨cs, rfl, h2, _⟩ := hv
  obtain ⟨fuel, hf⟩ := hd
  obtain ⟨l⟩ := cs
  simp only [Value.cells] at hf
  cases fuel with
  | zero => simp [DataW.trod] at hf
  | succ fuel =>
    simp only [DataW.trod, Tryd.underlying39, Heads.cells39, Heads.cells5] at hf
    split at hf
    · rename_i hl
      obtain ⟨c0, c1, c2, c3, rfl⟩ : ∃ c0 c1 c2 c3, l = [c0, c1, c2, c3] := by
        match l, hl with
        | [a, b, c, d], _ => exact ⟨a, b, c, d, rfl⟩
      have e : List.range 4 = [0, 1, 2, 3] := rfl
      rw [e] at hf
      simp only [Option.map_eq_some_iff, List.mapM_cons, List.mapM_nil, Option.bind_eq_bind, Option.bind_eq_some_iff, Option.pure_def, Option.some.injEq] at hf
      obtain ⟨xs, ⟨y0, h0, _, ⟨y1, h1, _, ⟨y2, h2, _, ⟨y3, h3, _, rfl, rfl⟩, rfl⟩, rfl⟩, rfl⟩, hx⟩ := hf
      obtain ⟨n0, u0, _, g0⟩ := DataW.trod_int Tryd.underlying5 h0
      obtain ⟨n1, u1, _, g1⟩ := DataW.trod_int Tryd.underlying5 h1
      obtain ⟨n2, u2, _, g2⟩ := DataW.trod_int Tryd.underlying5 h2
      obtain ⟨n3, u3, _, g3⟩ := DataW.trod_int Tryd.underlying5 h3
      obtain rfl := (List.cons.inj u0).1
      obtain rfl := (List.cons.inj u1).1
      obtain rfl := (List.cons.inj u2).1
      obtain rfl := (List.cons.inj u3).1
      exact ⟨n0, n1, n2, n3, rfl, g0, g1, g2, g3⟩
    · cases hf
set_option maxRecDepth 100000 in
theorem lifted (os : Os) (started : os.Started) (H : Type) (enc : TypeId × Value → H) :
    ReturnsInHanded {} Tryd.checked os 7 .any (fun w args => (Rows.utfOneSpec.pre enc Tryd.prog Tryd.f7 [] false w args ∧ laidMet Tryd.prog [("bellwether/utf.heads", Rows.laid_bellwether_utf_heads)] w) ∧ sizedMet enc Tryd.prog Tryd.f7 (OpenSpec.ofChange Rows.utfOneSpec) false w args) (Rows.utfOneSpec.post enc Tryd.prog Tryd.f7 false true false false) := by
  refine returnsInHanded_of_change_and (C := Tryd.checked) (X := fun w _ => laidMet Tryd.prog [("bellwether/utf.heads", Rows.laid_bellwether_utf_heads)] w) (fun _ _ _ hh h => h.of_heap hh) own started (by kernel_rfl) Tryd.func7
    (ChangeSpec.witness_at (enc := enc) (C := Tryd.checked) (os := os) (X := fun w _ => laidMet Tryd.prog [("bellwether/utf.heads", Rows.laid_bellwether_utf_heads)] w) false (Heads.laidWorld os) #[.agg #[.int .u8 0, .int .u8 0, .int .u8 0, .int .u8 0], .int .u8 0] 8 rfl (by kernel_rfl) (by kernel_rfl) (by kernel_rfl) (by kernel_rfl) (by kernel_rfl) (Heads.laidWorld_laid os _)) ?_
  intro W base args ds gs before hval0 hW hcnd hsz0 hL _
  have hG := Heads.heads hL
  have hval : ∀ (j : Nat) t v, Tryd.f7.params[j]? = some t → args[j]? = some v → Value.okWide Tryd.prog W .any base t v := hval0
  have hW' := hW
  obtain ⟨p, q, hA0, hV, rfl, hfz, hnd⟩ := hW
  have hA : DataW.TrodAll enc Tryd.prog W 0 (fun _ => true) true Tryd.f7.params.toList args.toList ds p := hA0
  rw [Tryd.params7] at hA hval
  obtain ⟨v0, vs0, d0, ds0, p0, q0, hargs, rfl, rfl, h0, r0⟩ := trodAll_cons hA
  obtain ⟨v1, vs1, d1, ds1, p1, q1, rfl, rfl, rfl, h1, r1⟩ := trodAll_cons r0
  obtain ⟨rfl, rfl, rfl⟩ := trodAll_nil r1
  obtain rfl : args = #[v0, v1] := by cases args; simp_all
  obtain ⟨rfl, rfl⟩ := trodVars_none hV
  have k0 := h0
  have lt0 : ∀ x ∈ p0, x.block < W.heap.size := by obtain ⟨m, hm⟩ := k0; exact DataW.trod_lt m _ _ _ hm
  obtain ⟨b0, b1, b2, b3, rfl, g0, g1, g2, g3⟩ := open_four (hval 0 39 v0 rfl rfl) h0
  obtain ⟨a1, rfl, rfl, rfl, w1⟩ := open_int Tryd.underlying5 (hval 1 5 v1 rfl rfl) h1
  clear hA0 hval0 hsz0
  obtain ⟨k, n, t, e1, e2, e3, e4, e5⟩ := Pure.UtfOne b0 b1 b2 b3 a1 g0 g1 g2 g3 w1
  refine (PUtfOne.one_go k b0 b1 b2 b3 a1 W hG n e1 e2 t _ rfl e3 e4 e5).mono fun e W' ⟨he, bel0⟩ => ?_
  have bel : Below W.heap.size W W' := bel0
  subst he
  exact ⟨_, rfl, _, _, _, [], _, [], hW', trodAll_mk1 (shut_bool Tryd.underlying4 _), (trodAll_cons_mk (Below.trod laidOut (by kernel_rfl) (of_decide_eq_true (by kernel_rfl)) k0 bel lt0) (trodAll_cons_mk (shut_int Tryd.underlying5 w1) trodAll_mk0)), rfl, bel.frame _, fun h => by cases h⟩
theorem over : Rows.utfOneRow.holds Tryd.pinned (OpenSpec.ofChange Rows.utfOneSpec) :=
  OpenClaim.holds_of_wide 7 Tryd.f7 rfl rfl rfl rfl rfl rfl rfl ⟨rfl, rfl, rfl, rfl, rfl⟩ rfl rfl rfl rfl rfl (by kernel_rfl) Tryd.func7 (by kernel_rfl)
    (of_decide_eq_true (by kernel_rfl)) (by unfold Func.isWrapper; first | (rw [if_pos (by decide +kernel)]; kernel_rfl) | (rw [if_neg (by decide +kernel)]; exact ⟨rfl, rfl⟩))
    (fun os started H enc _ => lifted os started H enc)
theorem proved : Rows.UtfOneCardSaid :=
  Claim7.holds_tied_plain_at .later [] [.data] true (true, "c5eac881d84c7b59fac967308f8987c24e319df8c81648d98942817eb544db40") false
    over (fun _ h => by cases h) (by kernel_rfl) (fun _ h => by cases h) utfOne_row_tie rfl ⟨rfl, rfl⟩ (by kernel_rfl) rfl
    (fun f fn hf hfn => by
      obtain rfl : f = 7 := Option.some.inj ((show Tryd.prog.funcNamed "bellwether/bellwetherlaw02.UtfOne" = some 7 by kernel_rfl).symm.trans hf) |>.symm
      obtain rfl : fn = Tryd.f7 := (Option.some.inj (Tryd.func7.symm.trans hfn)).symm
      exact ⟨by kernel_rfl, fun j t ht => by
        rw [Tryd.params7] at ht
        have hm : t ∈ [39, 5] := by simpa using Array.mem_of_getElem? ht
        have hall : ([39, 5].all fun u => !Tryd.prog.wantsStandIn u) = true := by kernel_rfl
        exact (show Tryd.prog.wantsStandIn t = false by simpa using List.all_eq_true.1 hall t hm)⟩)
    (by kernel_rfl)
#print axioms proved
end Go.Proofs.YtbbgmokpniigfaaDoor.utfOne
namespace Go.Proofs.YtbbgmokpniigfaaDoor
/-- The row, under a short name, for the claim. -/
theorem utfOne_card_holds : Rows.UtfOneCardSaid := utfOne.proved
end Go.Proofs.YtbbgmokpniigfaaDoor
