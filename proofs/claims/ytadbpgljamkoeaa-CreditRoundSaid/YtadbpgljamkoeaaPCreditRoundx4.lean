/- Written by a program of this session (a turned copy of the print; not the kit's own print): the walks of the functions that one law reaches, or that law's row; the plain law stands in the Pure text; no condition of our own. -/
import Derived.Test.YtadbpgljamkoeaaPCreditRoundx0
import Derived.Test.YtadbpgljamkoeaaPCreditRoundx1
import Derived.Test.YtadbpgljamkoeaaPCreditRoundx2
import Derived.Test.YtadbpgljamkoeaaPCreditRoundx3
namespace Go.Proofs.Ytadbpgljamkoeaa.PCreditRound
open Go.RowKit Go.Proofs.YtadbpgljamkoeaaW.PrintWords Go.Proofs.YtadbpgljamkoeaaW.PrintLast Go.Proofs.YtadbpgljamkoeaaW.PrintMore
attribute [local go_sem] max2_int min2_int max_two min_two max_three min_three max_four min_four   -- for this text's walks alone
set_option linter.unusedVariables false
set_option linter.unusedSimpArgs false

attribute [local go_sem high] eqA30
/-! ### lw16_CreditRound: function 5 -/
mutual
def lw16_CreditRound.l0 : Nat → Int → List (S33) → Int → Int → Int → Bool → Int → Int → Bool → Option (Bool)
  | 0, _, _, _, _, _, _, _, _, _ => none
  | k + 1, x1, x2, x9, x210000, x210001, x210002, x214000, x214001, x214002 => if x9 < (x2.length : Int) then (if 0 ≤ x9 then (if ((rd_T33 x2 x9).f0) = 0 then (lw16_CreditRound.j1 k x1 x2 x9 true x210000 x210001 x210002 x214000 x214001 x214002 ((rd_T33 x2 x9).f0) ((rd_T33 x2 x9).f1) ((rd_T33 x2 x9).f2) ((rd_T33 x2 x9).f3) ((rd_T33 x2 x9).f0) ((rd_T33 x2 x9).f1) ((rd_T33 x2 x9).f2) ((rd_T33 x2 x9).f3)) else (lw16_CreditRound.j1 k x1 x2 x9 (((rd_T33 x2 x9).f0) == 1) x210000 x210001 x210002 x214000 x214001 x214002 ((rd_T33 x2 x9).f0) ((rd_T33 x2 x9).f1) ((rd_T33 x2 x9).f2) ((rd_T33 x2 x9).f3) ((rd_T33 x2 x9).f0) ((rd_T33 x2 x9).f1) ((rd_T33 x2 x9).f2) ((rd_T33 x2 x9).f3))) else (none)) else ((lw16_works.f k).bind fun t214 => (some t214))
def lw16_CreditRound.j1 : Nat → Int → List (S33) → Int → Bool → Int → Int → Bool → Int → Int → Bool → Int → Int → Int → Bool → Int → Int → Int → Bool → Option (Bool)
  | 0, _, _, _, _, _, _, _, _, _, _, _, _, _, _, _, _, _, _ => none
  | k + 1, x1, x2, x9, x48, x210000, x210001, x210002, x214000, x214001, x214002, x217000, x217001, x217002, x217003, x218000, x218001, x218002, x218003 => if x48 = true then (lw16_CreditRound.j2 k x1 x2 x9 x210000 x210001 x210002 x214000 x214001 x214002 x217000 x217001 x217002 x217003 x218000 ((x217001 + x1) % 4294967296) x218002 x218003) else (lw16_CreditRound.j2 k x1 x2 x9 x210000 x210001 x210002 x214000 x214001 x214002 x217000 x217001 x217002 x217003 x218000 x218001 x218002 x218003)
def lw16_CreditRound.j2 : Nat → Int → List (S33) → Int → Int → Int → Bool → Int → Int → Bool → Int → Int → Int → Bool → Int → Int → Int → Bool → Option (Bool)
  | 0, _, _, _, _, _, _, _, _, _, _, _, _, _, _, _, _, _ => none
  | k + 1, x1, x2, x9, x210000, x210001, x210002, x214000, x214001, x214002, x217000, x217001, x217002, x217003, x218000, x218001, x218002, x218003 => (lw16_does.f x210000 x210001 x210002 x217000 x217001 x217002 x217003).bind fun bt218 => ((lw16_does.f x214000 x214001 x214002 x218000 x218001 x218002 x218003).bind fun bt224 => (if x217000 = 2 then (lw16_CreditRound.j3 k x1 x2 x9 bt218.2.2.1 bt218.2.2.2.1 bt218.2.2.2.2 bt224.2.2.1 bt224.2.2.2.1 bt224.2.2.2.2 bt218.1 bt218.2.1 ((bt224.1 - x1) % 4294967296) bt224.2.1) else (lw16_CreditRound.j3 k x1 x2 x9 bt218.2.2.1 bt218.2.2.2.1 bt218.2.2.2.2 bt224.2.2.1 bt224.2.2.2.1 bt224.2.2.2.2 bt218.1 bt218.2.1 bt224.1 bt224.2.1)))
def lw16_CreditRound.j3 : Nat → Int → List (S33) → Int → Int → Int → Bool → Int → Int → Bool → Int → Bool → Int → Bool → Option (Bool)
  | 0, _, _, _, _, _, _, _, _, _, _, _, _, _ => none
  | k + 1, x1, x2, x9, x210000, x210001, x210002, x214000, x214001, x214002, x224000, x224001, x230000, x230001 => (cr_Left.f x210000 x210001 x210002).bind fun bt230 => ((cr_Left.f x214000 x214001 x214002).bind fun bt236 => (if (!(x224000 == x230000) || (!(x224001 == x230001))) = true then (some false) else (if bt230.1 = ((bt236.1 - x1) % 4294967296) then (if bt230.2.1 = bt236.2.1 then (if (bt230.2.2.1 != bt236.2.2.1) = true then (some false) else (lw16_CreditRound.l0 k x1 x2 (wrap64 (x9 + 1)) bt230.2.2.2.1 bt230.2.2.2.2.1 bt230.2.2.2.2.2 bt236.2.2.2.1 bt236.2.2.2.2.1 bt236.2.2.2.2.2)) else (some false)) else (some false))))
end
def lw16_CreditRound.f (k : Nat) (a0 : Int) (a1 : Int) (l2 : List (S33)) : Option (Bool) := if (l2.length : Int) > 300 then ((lw16_works.f k).bind fun t205 => (some t205)) else ((credit_New.f a0).bind fun bt206 => ((credit_New.f ((a0 + a1) % 4294967296)).bind fun bt210 => (lw16_CreditRound.l0 k a1 l2 0 bt206.1 bt206.2.1 bt206.2.2 bt210.1 bt210.2.1 bt210.2.2)))
theorem lw16_CreditRound.mono_l : ∀ k, (∀ y0 y1 y2 y3 y4 y5 y6 y7 y8, LeO (lw16_CreditRound.l0 k y0 y1 y2 y3 y4 y5 y6 y7 y8) (lw16_CreditRound.l0 (k + 1) y0 y1 y2 y3 y4 y5 y6 y7 y8)) ∧ (∀ y0 y1 y2 y3 y4 y5 y6 y7 y8 y9 y10 y11 y12 y13 y14 y15 y16 y17, LeO (lw16_CreditRound.j1 k y0 y1 y2 y3 y4 y5 y6 y7 y8 y9 y10 y11 y12 y13 y14 y15 y16 y17) (lw16_CreditRound.j1 (k + 1) y0 y1 y2 y3 y4 y5 y6 y7 y8 y9 y10 y11 y12 y13 y14 y15 y16 y17)) ∧ (∀ y0 y1 y2 y3 y4 y5 y6 y7 y8 y9 y10 y11 y12 y13 y14 y15 y16, LeO (lw16_CreditRound.j2 k y0 y1 y2 y3 y4 y5 y6 y7 y8 y9 y10 y11 y12 y13 y14 y15 y16) (lw16_CreditRound.j2 (k + 1) y0 y1 y2 y3 y4 y5 y6 y7 y8 y9 y10 y11 y12 y13 y14 y15 y16)) ∧ (∀ y0 y1 y2 y3 y4 y5 y6 y7 y8 y9 y10 y11 y12, LeO (lw16_CreditRound.j3 k y0 y1 y2 y3 y4 y5 y6 y7 y8 y9 y10 y11 y12) (lw16_CreditRound.j3 (k + 1) y0 y1 y2 y3 y4 y5 y6 y7 y8 y9 y10 y11 y12))
  | 0 => ⟨fun _ _ _ _ _ _ _ _ _ r h => by simp [lw16_CreditRound.l0] at h, fun _ _ _ _ _ _ _ _ _ _ _ _ _ _ _ _ _ _ r h => by simp [lw16_CreditRound.j1] at h, fun _ _ _ _ _ _ _ _ _ _ _ _ _ _ _ _ _ r h => by simp [lw16_CreditRound.j2] at h, fun _ _ _ _ _ _ _ _ _ _ _ _ _ r h => by simp [lw16_CreditRound.j3] at h⟩
  | k + 1 => by
    obtain ⟨ih0, ih1, ih2, ih3⟩ := lw16_CreditRound.mono_l k
    refine ⟨?_, ?_, ?_, ?_⟩
    · intro y0 y1 y2 y3 y4 y5 y6 y7 y8
      unfold lw16_CreditRound.l0
      repeat' first
      | (with_reducible exact ih0 _ _ _ _ _ _ _ _ _)
      | (with_reducible exact ih1 _ _ _ _ _ _ _ _ _ _ _ _ _ _ _ _ _ _)
      | (with_reducible exact ih2 _ _ _ _ _ _ _ _ _ _ _ _ _ _ _ _ _)
      | (with_reducible exact ih3 _ _ _ _ _ _ _ _ _ _ _ _ _)
      | (with_reducible exact lw16_works.mono _)
      | (with_reducible exact LeO.refl _)
      | (with_reducible exact LeO.none _)
      | (with_reducible refine LeO.ite ?_ ?_)
      | (with_reducible refine LeO.bind ?_ (fun _ => ?_))
      | exact ih0 _ _ _ _ _ _ _ _ _
      | exact ih1 _ _ _ _ _ _ _ _ _ _ _ _ _ _ _ _ _ _
      | exact ih2 _ _ _ _ _ _ _ _ _ _ _ _ _ _ _ _ _
      | exact ih3 _ _ _ _ _ _ _ _ _ _ _ _ _
      | exact lw16_works.mono _
      | exact LeO.none _
      | refine LeO.ite ?_ ?_
      | refine LeO.bind ?_ (fun _ => ?_)
    · intro y0 y1 y2 y3 y4 y5 y6 y7 y8 y9 y10 y11 y12 y13 y14 y15 y16 y17
      unfold lw16_CreditRound.j1
      repeat' first
      | (with_reducible exact ih0 _ _ _ _ _ _ _ _ _)
      | (with_reducible exact ih1 _ _ _ _ _ _ _ _ _ _ _ _ _ _ _ _ _ _)
      | (with_reducible exact ih2 _ _ _ _ _ _ _ _ _ _ _ _ _ _ _ _ _)
      | (with_reducible exact ih3 _ _ _ _ _ _ _ _ _ _ _ _ _)
      | (with_reducible exact lw16_works.mono _)
      | (with_reducible exact LeO.refl _)
      | (with_reducible exact LeO.none _)
      | (with_reducible refine LeO.ite ?_ ?_)
      | (with_reducible refine LeO.bind ?_ (fun _ => ?_))
      | exact ih0 _ _ _ _ _ _ _ _ _
      | exact ih1 _ _ _ _ _ _ _ _ _ _ _ _ _ _ _ _ _ _
      | exact ih2 _ _ _ _ _ _ _ _ _ _ _ _ _ _ _ _ _
      | exact ih3 _ _ _ _ _ _ _ _ _ _ _ _ _
      | exact lw16_works.mono _
      | exact LeO.none _
      | refine LeO.ite ?_ ?_
      | refine LeO.bind ?_ (fun _ => ?_)
    · intro y0 y1 y2 y3 y4 y5 y6 y7 y8 y9 y10 y11 y12 y13 y14 y15 y16
      unfold lw16_CreditRound.j2
      repeat' first
      | (with_reducible exact ih0 _ _ _ _ _ _ _ _ _)
      | (with_reducible exact ih1 _ _ _ _ _ _ _ _ _ _ _ _ _ _ _ _ _ _)
      | (with_reducible exact ih2 _ _ _ _ _ _ _ _ _ _ _ _ _ _ _ _ _)
      | (with_reducible exact ih3 _ _ _ _ _ _ _ _ _ _ _ _ _)
      | (with_reducible exact lw16_works.mono _)
      | (with_reducible exact LeO.refl _)
      | (with_reducible exact LeO.none _)
      | (with_reducible refine LeO.ite ?_ ?_)
      | (with_reducible refine LeO.bind ?_ (fun _ => ?_))
      | exact ih0 _ _ _ _ _ _ _ _ _
      | exact ih1 _ _ _ _ _ _ _ _ _ _ _ _ _ _ _ _ _ _
      | exact ih2 _ _ _ _ _ _ _ _ _ _ _ _ _ _ _ _ _
      | exact ih3 _ _ _ _ _ _ _ _ _ _ _ _ _
      | exact lw16_works.mono _
      | exact LeO.none _
      | refine LeO.ite ?_ ?_
      | refine LeO.bind ?_ (fun _ => ?_)
    · intro y0 y1 y2 y3 y4 y5 y6 y7 y8 y9 y10 y11 y12
      unfold lw16_CreditRound.j3
      repeat' first
      | (with_reducible exact ih0 _ _ _ _ _ _ _ _ _)
      | (with_reducible exact ih1 _ _ _ _ _ _ _ _ _ _ _ _ _ _ _ _ _ _)
      | (with_reducible exact ih2 _ _ _ _ _ _ _ _ _ _ _ _ _ _ _ _ _)
      | (with_reducible exact ih3 _ _ _ _ _ _ _ _ _ _ _ _ _)
      | (with_reducible exact lw16_works.mono _)
      | (with_reducible exact LeO.refl _)
      | (with_reducible exact LeO.none _)
      | (with_reducible refine LeO.ite ?_ ?_)
      | (with_reducible refine LeO.bind ?_ (fun _ => ?_))
      | exact ih0 _ _ _ _ _ _ _ _ _
      | exact ih1 _ _ _ _ _ _ _ _ _ _ _ _ _ _ _ _ _ _
      | exact ih2 _ _ _ _ _ _ _ _ _ _ _ _ _ _ _ _ _
      | exact ih3 _ _ _ _ _ _ _ _ _ _ _ _ _
      | exact lw16_works.mono _
      | exact LeO.none _
      | refine LeO.ite ?_ ?_
      | refine LeO.bind ?_ (fun _ => ?_)
theorem lw16_CreditRound.mono : ∀ a0 a1 a2 k, LeO (lw16_CreditRound.f k a0 a1 a2) (lw16_CreditRound.f (k + 1) a0 a1 a2) := by
  intro a0 a1 a2 k
  obtain ⟨ih0, ih1, ih2, ih3⟩ := lw16_CreditRound.mono_l k
  unfold lw16_CreditRound.f
  repeat' first
      | (with_reducible exact ih0 _ _ _ _ _ _ _ _ _)
      | (with_reducible exact ih1 _ _ _ _ _ _ _ _ _ _ _ _ _ _ _ _ _ _)
      | (with_reducible exact ih2 _ _ _ _ _ _ _ _ _ _ _ _ _ _ _ _ _)
      | (with_reducible exact ih3 _ _ _ _ _ _ _ _ _ _ _ _ _)
      | (with_reducible exact lw16_works.mono _)
      | (with_reducible exact LeO.refl _)
      | (with_reducible exact LeO.none _)
      | (with_reducible refine LeO.ite ?_ ?_)
      | (with_reducible refine LeO.bind ?_ (fun _ => ?_))
      | exact ih0 _ _ _ _ _ _ _ _ _
      | exact ih1 _ _ _ _ _ _ _ _ _ _ _ _ _ _ _ _ _ _
      | exact ih2 _ _ _ _ _ _ _ _ _ _ _ _ _ _ _ _ _
      | exact ih3 _ _ _ _ _ _ _ _ _ _ _ _ _
      | exact lw16_works.mono _
      | exact LeO.none _
      | refine LeO.ite ?_ ?_
      | refine LeO.bind ?_ (fun _ => ?_)
set_option maxHeartbeats 8000000 in
set_option maxRecDepth 100000 in
theorem lw16_CreditRound.calls (k : Nat) (a0 : Int) (a1 : Int) (A2 : Option Addr) (c2 : Nat) (l2 : List (S33)) (r : Bool) (w : World) (hr2 : Kd.C k33 w A2 l2.length l2) (hc2 : l2.length ≤ c2) (h : lw16_CreditRound.f k a0 a1 l2 = some r) :
    Calls Try.prog 5 #[.int .u32 a0, .int .u32 a1, .slice A2 l2.length c2] w fun e w' => e = .returned (.bool r) ∧ Below w.heap.size w w' := by
  have hu33 := Try.underlying33
  have hu30 := Try.underlying30
  have HR2 := Aside0.mk hr2
  have HC2 := Aside0.mk hc2
  clear hr2 hc2
  have HB := Aside0.mk (Below.refl w.heap.size w)
  have H : (if (l2.length : Int) > 300 then ((lw16_works.f k).bind fun t205 => (some t205)) else ((credit_New.f a0).bind fun bt206 => ((credit_New.f ((a0 + a1) % 4294967296)).bind fun bt210 => (lw16_CreditRound.l0 k a1 l2 0 bt206.1 bt206.2.1 bt206.2.2 bt210.1 bt210.2.1 bt210.2.2)))) = some r := h
  clear h
  by_cases c4 : (l2.length : Int) > 300
  · rw [if_pos c4] at H
    have c4b0 : decide (300 < (l2.length : Int)) = true := decide_eq_true c4
    have c4b1 : decide (300 < l2.length) = true := decide_eq_true (by omega)
    clear c4
    replace H := Option.bind_eq_some_iff.mp H
    obtain ⟨t205, A50, H⟩ := H
    replace H : (some t205) = some r := H
    have A5 := Aside0.mk A50
    clear A50
    obtain rfl := Option.some.inj H
    go_enter Try.func5, Try.ntmps5
    go_wp2_with (first | ((with_reducible refine gate_callee (f := 9) rfl ?_); refine goesL_ (some 23) rfl rfl Try.func9 (by kernel_rfl) rfl #[] rfl (by (try simp only [List.map_toArray, List.map_cons, List.map_nil]); first | done | rfl | (simp only [List.length_drop, List.length_take]; rfl)) ?_; (with_reducible refine (lw16_works.calls k  t205 _ A5.out).mono ?_); rintro e w6 ⟨rfl, hb⟩; refine ⟨_, rfl, ?_⟩; have n0_ := Aside0.mk (below_step (by repeat (first | (with_reducible first | exact HB.out | apply below_alloc | apply pw_below_drewN | apply below_drew1) | exact HB.out)) hb); clear HB; have HB := n0_; clear n0_; (try clear hb); (try clear hb2); (try clear hk); (try clear hi); (try clear hgw)))
    go_ret
    exact ⟨by first | rfl | (simp [errW_none, errW_some] <;> rfl) | (simp [*, errW_none, errW_some] <;> rfl), by repeat (first | (with_reducible first | exact HB.out | apply below_alloc | apply pw_below_drewN | apply below_drew1) | exact HB.out)⟩
  · rw [if_neg c4] at H
    have c4b0 : decide (300 < (l2.length : Int)) = false := decide_eq_false c4
    have c4b1 : decide (300 < l2.length) = false := decide_eq_false (by omega)
    clear c4
    replace H := Option.bind_eq_some_iff.mp H
    obtain ⟨⟨t206, t207, t208⟩, A70, H⟩ := H
    replace H : ((credit_New.f ((a0 + a1) % 4294967296)).bind fun bt210 => (lw16_CreditRound.l0 k a1 l2 0 t206 t207 t208 bt210.1 bt210.2.1 bt210.2.2)) = some r := H
    have A7 := Aside0.mk A70
    clear A70
    replace H := Option.bind_eq_some_iff.mp H
    obtain ⟨⟨t210, t211, t212⟩, A80, H⟩ := H
    replace H : (lw16_CreditRound.l0 k a1 l2 0 t206 t207 t208 t210 t211 t212) = some r := H
    have A8 := Aside0.mk A80
    clear A80
    have H' := Aside0.mk H
    clear H
    go_enter Try.func5, Try.ntmps5
    go_wp2_with (first | ((with_reducible refine gate_callee (f := 10) rfl ?_); refine goesL_ (some 25) rfl rfl Try.func10 (by kernel_rfl) rfl #[.int .u32 a0] rfl (by (try simp only [List.map_toArray, List.map_cons, List.map_nil]); first | done | rfl | (simp only [List.length_drop, List.length_take]; rfl)) ?_; (with_reducible refine (credit_New.calls a0 t206 t207 t208 w _ ?side1 A7.out).mono ?_); (case side1 => repeat (first | (with_reducible first | exact HB.out | apply below_alloc | apply pw_below_drewN | apply below_drew1) | exact HB.out)); rintro e w9 ⟨g209, rfl, hi, hb, hb2, hgw⟩; refine ⟨_, rfl, ?_⟩; have n0_ := Aside0.mk (hb); have n1_ := Aside0.mk (hi); clear HB; have HB := n0_; have HI209 := n1_; clear n0_ n1_; (try clear hb); (try clear hb2); (try clear hk); (try clear hi); (try clear hgw)) | ((with_reducible refine gate_callee (f := 10) rfl ?_); refine goesL_ (some 29) rfl rfl Try.func10 (by kernel_rfl) rfl #[.int .u32 ((a0 + a1) % 4294967296)] rfl (by (try simp only [List.map_toArray, List.map_cons, List.map_nil]); first | done | rfl | (simp only [List.length_drop, List.length_take]; rfl)) ?_; (with_reducible refine (credit_New.calls ((a0 + a1) % 4294967296) t210 t211 t212 w _ ?side1 A8.out).mono ?_); (case side1 => repeat (first | (with_reducible first | exact HB.out | apply below_alloc | apply pw_below_drewN | apply below_drew1 | refine below_set ?_ (IsS54.ge HI209.out)) | exact HB.out)); rintro e w10 ⟨g213, rfl, hi, hb, hb2, hgw⟩; refine ⟨_, rfl, ?_⟩; have n0_ := Aside0.mk (IsS54.below (by repeat (first | (with_reducible first | exact HI209.out | apply IsS54.alloc | apply IsS54.drewN | apply IsS54.drew | apply IsS54.set_0 | apply IsS54.set_1 | apply IsS54.set_2) | exact HI209.out)) hb2); have n1_ := Aside0.mk (hb); have n2_ := Aside0.mk (hi); have n3_ := Aside0.mk (Nat.ne_of_lt (Nat.lt_of_lt_of_le (IsS54.lt (show IsS54 w _ g209 t206 t207 t208 from by repeat (first | (with_reducible first | exact HI209.out | apply IsS54.alloc | apply IsS54.drewN | apply IsS54.drew | apply IsS54.set_0 | apply IsS54.set_1 | apply IsS54.set_2) | exact HI209.out))) hgw)); have n4_ := Aside0.mk (Nat.ne_of_gt (Nat.lt_of_lt_of_le (IsS54.lt (show IsS54 w _ g209 t206 t207 t208 from by repeat (first | (with_reducible first | exact HI209.out | apply IsS54.alloc | apply IsS54.drewN | apply IsS54.drew | apply IsS54.set_0 | apply IsS54.set_1 | apply IsS54.set_2) | exact HI209.out))) hgw)); clear HI209; clear HB; have HI209 := n0_; have HB := n1_; have HI213 := n2_; have NS209_213 := n3_; have NS213_209 := n4_; clear n0_ n1_ n2_ n3_ n4_; (try clear hb); (try clear hb2); (try clear hk); (try clear hi); (try clear hgw)))
    go_loopg [9] k (fun kq v9 w' => ∃ (x9_1 : Int) (x210000_1 : Int) (x210001_1 : Int) (x210002_1 : Bool) (x214000_1 : Int) (x214001_1 : Int) (x214002_1 : Bool), v9 = .int .i64 x9_1 ∧ Aside0 (lw16_CreditRound.l0 kq a1 l2 x9_1 x210000_1 x210001_1 x210002_1 x214000_1 x214001_1 x214002_1 = some r) ∧ Aside0 (kq ≤ k) ∧ Aside0 (IsS54 w w' g209 x210000_1 x210001_1 x210002_1) ∧ Aside0 (IsS54 w w' g213 x214000_1 x214001_1 x214002_1) ∧ Aside0 (Below w.heap.size w w'))
    case atStart => exact ⟨(0), (t206), (t207), (t208), (t210), (t211), (t212), (by first | rfl | (simp; done) | (simp [*]; done)), H', ⟨Nat.le_refl _⟩, ⟨by repeat (first | (with_reducible first | exact HI209.out | apply IsS54.alloc | apply IsS54.drewN | apply IsS54.drew | apply IsS54.set_0 | apply IsS54.set_1 | apply IsS54.set_2) | exact HI209.out)⟩, ⟨by repeat (first | (with_reducible first | exact HI213.out | apply IsS54.alloc | apply IsS54.drewN | apply IsS54.drew | apply IsS54.set_0 | apply IsS54.set_1 | apply IsS54.set_2) | exact HI213.out)⟩, ⟨by repeat (first | (with_reducible first | exact HB.out | apply below_alloc | apply pw_below_drewN | apply below_drew1 | refine below_set ?_ (IsS54.ge HI209.out) | refine below_set ?_ (IsS54.ge HI213.out)) | exact HB.out)⟩⟩
    case round =>
      clear H'
      try clear c1
      try clear c2
      try clear p2
      try clear c4
      try clear c4b0
      try clear c4b1
      try clear c5
      try clear c9
      try clear c10
      obtain ⟨x9_1, x210000_1, x210001_1, x210002_1, x214000_1, x214001_1, x214002_1, rfl, HA, HK1, HI209, HI213, HB⟩ := hrel
      cases gk with
      | zero => exact absurd HA.out (by simp [lw16_CreditRound.l0])
      | succ k1 =>
        have H := HA.out
        clear HA
        simp only [lw16_CreditRound.l0] at H
        by_cases c11 : x9_1 < (l2.length : Int)
        · rw [if_pos c11] at H
          have c11b0 : decide (x9_1 < (l2.length : Int)) = true := decide_eq_true c11
          clear c11
          by_cases c12 : 0 ≤ x9_1
          · rw [if_pos c12] at H
            have c12b0 : decide (0 ≤ x9_1) = true := decide_eq_true c12
            clear c12
            have HC13 := Aside0.mk H
            clear H
            have p215 : 0 ≤ (x9_1 : Int) := of_decide_eq_true (by first | (with_reducible assumption) | assumption)
            have q215 : x9_1 < (l2.length : Int) := of_decide_eq_true (by first | (with_reducible assumption) | assumption)
            obtain ⟨ad215, e215, hx215_0, hx215_1, hx215_2, hx215_3⟩ := at_T33 HR2.out x9_1 p215 q215
            cases e215
            replace hx215_0 := (HB.out.cell (World.block_lt_of_cell? w _ hx215_0)).trans hx215_0
            replace hx215_1 := (HB.out.cell (World.block_lt_of_cell? w _ hx215_1)).trans hx215_1
            replace hx215_2 := (HB.out.cell (World.block_lt_of_cell? w _ hx215_2)).trans hx215_2
            replace hx215_3 := (HB.out.cell (World.block_lt_of_cell? w _ hx215_3)).trans hx215_3
            replace p215 := eq_true p215
            replace q215 := eq_true q215
            go_upto_region 10 with (first | ((with_reducible refine gate_dst (N := 10) rfl ?_); refine box_event ?hg (N := 10) ?hd (cs := #[.int .i64 0, .int .u32 0, .int .u32 0, .bool false]) (t := 33) ?hr ?_; (case hd => rfl); (case hg => rfl); (case hr => first | (go_simp; done) | (go_simp; rfl)); intro gb216 hg w14 hbox hb; have n0_ := Aside0.mk (IsS54.below (by repeat (first | (with_reducible first | exact HI209.out | apply IsS54.alloc | apply IsS54.drewN | apply IsS54.drew | apply IsS54.set_0 | apply IsS54.set_1 | apply IsS54.set_2) | exact HI209.out)) hb); have n1_ := Aside0.mk (IsS54.below (by repeat (first | (with_reducible first | exact HI213.out | apply IsS54.alloc | apply IsS54.drewN | apply IsS54.drew | apply IsS54.set_0 | apply IsS54.set_1 | apply IsS54.set_2) | exact HI213.out)) hb); have n2_ := Aside0.mk (below_step (by repeat (first | (with_reducible first | exact HB.out | apply below_alloc | apply pw_below_drewN | apply below_drew1 | refine below_set ?_ (IsS54.ge HI209.out) | refine below_set ?_ (IsS54.ge HI213.out)) | exact HB.out)) hb); have n3_ := Aside0.mk (hbox); have n4_ := Aside0.mk ((by rw [hg]; exact (below_size (by repeat (first | (with_reducible first | exact HB.out | apply below_alloc | apply pw_below_drewN | apply below_drew1 | refine below_set ?_ (IsS54.ge HI209.out) | refine below_set ?_ (IsS54.ge HI213.out)) | exact HB.out))) : w.heap.size ≤ gb216)); have n5_ := Aside0.mk ((by rw [hg]; exact (below_size (by repeat (first | (with_reducible first | exact HB.out | apply below_alloc | apply pw_below_drewN | apply below_drew1 | refine below_set ?_ (IsS54.ge HI209.out) | refine below_set ?_ (IsS54.ge HI213.out)) | exact HB.out))) : w.heap.size ≤ gb216)); have n6_ := Aside0.mk ((by rw [hg]; exact Nat.ne_of_lt (IsS54.lt (show IsS54 w _ g209 x210000_1 x210001_1 x210002_1 from by repeat (first | (with_reducible first | exact HI209.out | apply IsS54.alloc | apply IsS54.drewN | apply IsS54.drew | apply IsS54.set_0 | apply IsS54.set_1 | apply IsS54.set_2) | exact HI209.out))) : g209 ≠ gb216)); have n7_ := Aside0.mk ((by rw [hg]; exact Nat.ne_of_gt (IsS54.lt (show IsS54 w _ g209 x210000_1 x210001_1 x210002_1 from by repeat (first | (with_reducible first | exact HI209.out | apply IsS54.alloc | apply IsS54.drewN | apply IsS54.drew | apply IsS54.set_0 | apply IsS54.set_1 | apply IsS54.set_2) | exact HI209.out))) : gb216 ≠ g209)); have n8_ := Aside0.mk ((by rw [hg]; exact Nat.ne_of_lt (IsS54.lt (show IsS54 w _ g213 x214000_1 x214001_1 x214002_1 from by repeat (first | (with_reducible first | exact HI213.out | apply IsS54.alloc | apply IsS54.drewN | apply IsS54.drew | apply IsS54.set_0 | apply IsS54.set_1 | apply IsS54.set_2) | exact HI213.out))) : g213 ≠ gb216)); have n9_ := Aside0.mk ((by rw [hg]; exact Nat.ne_of_gt (IsS54.lt (show IsS54 w _ g213 x214000_1 x214001_1 x214002_1 from by repeat (first | (with_reducible first | exact HI213.out | apply IsS54.alloc | apply IsS54.drewN | apply IsS54.drew | apply IsS54.set_0 | apply IsS54.set_1 | apply IsS54.set_2) | exact HI213.out))) : gb216 ≠ g213)); clear HI209; clear HI213; clear HB; have HI209 := n0_; have HI213 := n1_; have HB := n2_; have BK216 := n3_; have GW216 := n4_; have GE216 := n5_; have NB209_216 := n6_; have NB216_209 := n7_; have NB213_216 := n8_; have NB216_213 := n9_; clear n0_ n1_ n2_ n3_ n4_ n5_ n6_ n7_ n8_ n9_; clear hb hbox hg; have hnb15 := NB216_209.out; have hnc15 := NB209_216.out; have hnb16 := NB216_213.out; have hnc16 := NB213_216.out; have hcz17_0 : w14.cell? ⟨gb216, 0, none⟩ = some (.int .i64 0) := (blk_cell BK216.out 0).trans rfl; have hcz17_1 : w14.cell? ⟨gb216, 1, none⟩ = some (.int .u32 0) := (blk_cell BK216.out 1).trans rfl; have hcz17_2 : w14.cell? ⟨gb216, 2, none⟩ = some (.int .u32 0) := (blk_cell BK216.out 2).trans rfl; have hcz17_3 : w14.cell? ⟨gb216, 3, none⟩ = some (.bool false) := (blk_cell BK216.out 3).trans rfl; have hfz17_0 := blk_frozen BK216.out 0; have hfz17_1 := blk_frozen BK216.out 1; have hfz17_2 := blk_frozen BK216.out 2; have hfz17_3 := blk_frozen BK216.out 3) | ((with_reducible refine gate_dst (N := 11) rfl ?_); refine box_event ?hg (N := 11) ?hd (cs := #[.int .i64 0, .int .u32 0, .int .u32 0, .bool false]) (t := 33) ?hr ?_; (case hd => rfl); (case hg => rfl); (case hr => first | (go_simp; done) | (go_simp; rfl)); intro gb217 hg w18 hbox hb; have n0_ := Aside0.mk (IsS54.below (show IsS54 w ((((w14.setCell ⟨gb216, 0, none⟩ (.int .i64 ((rd_T33 l2 x9_1).f0))).setCell ⟨gb216, 1, none⟩ (.int .u32 ((rd_T33 l2 x9_1).f1))).setCell ⟨gb216, 2, none⟩ (.int .u32 ((rd_T33 l2 x9_1).f2))).setCell ⟨gb216, 3, none⟩ (.bool ((rd_T33 l2 x9_1).f3))) g209 x210000_1 x210001_1 x210002_1 from by repeat (first | (with_reducible first | exact HI209.out | apply IsS54.alloc | apply IsS54.drewN | apply IsS54.drew | apply IsS54.set_0 | apply IsS54.set_1 | apply IsS54.set_2 | refine IsS54.far ?_ NB209_216.out _) | exact HI209.out)) hb); have n1_ := Aside0.mk (IsS54.below (show IsS54 w ((((w14.setCell ⟨gb216, 0, none⟩ (.int .i64 ((rd_T33 l2 x9_1).f0))).setCell ⟨gb216, 1, none⟩ (.int .u32 ((rd_T33 l2 x9_1).f1))).setCell ⟨gb216, 2, none⟩ (.int .u32 ((rd_T33 l2 x9_1).f2))).setCell ⟨gb216, 3, none⟩ (.bool ((rd_T33 l2 x9_1).f3))) g213 x214000_1 x214001_1 x214002_1 from by repeat (first | (with_reducible first | exact HI213.out | apply IsS54.alloc | apply IsS54.drewN | apply IsS54.drew | apply IsS54.set_0 | apply IsS54.set_1 | apply IsS54.set_2 | refine IsS54.far ?_ NB213_216.out _) | exact HI213.out)) hb); have n2_ := Aside0.mk (blk_below (g := gb216) (o := .cells #[.int .i64 ((rd_T33 l2 x9_1).f0), .int .u32 ((rd_T33 l2 x9_1).f1), .int .u32 ((rd_T33 l2 x9_1).f2), .bool ((rd_T33 l2 x9_1).f3)] 33 (0, 0)) (by (with_reducible repeat (first | refine blk_drewN ?_ _ | refine blk_drew ?_ | refine blk_alloc ?_ _)); refine blk_put (cs := #[.int .i64 ((rd_T33 l2 x9_1).f0), .int .u32 ((rd_T33 l2 x9_1).f1), .int .u32 ((rd_T33 l2 x9_1).f2), .bool false]) ?_ 3 _ rfl; (with_reducible repeat (first | refine blk_drewN ?_ _ | refine blk_drew ?_ | refine blk_alloc ?_ _)); refine blk_put (cs := #[.int .i64 ((rd_T33 l2 x9_1).f0), .int .u32 ((rd_T33 l2 x9_1).f1), .int .u32 0, .bool false]) ?_ 2 _ rfl; (with_reducible repeat (first | refine blk_drewN ?_ _ | refine blk_drew ?_ | refine blk_alloc ?_ _)); refine blk_put (cs := #[.int .i64 ((rd_T33 l2 x9_1).f0), .int .u32 0, .int .u32 0, .bool false]) ?_ 1 _ rfl; (with_reducible repeat (first | refine blk_drewN ?_ _ | refine blk_drew ?_ | refine blk_alloc ?_ _)); refine blk_put (cs := #[.int .i64 0, .int .u32 0, .int .u32 0, .bool false]) ?_ 0 _ rfl; (with_reducible repeat (first | refine blk_drewN ?_ _ | refine blk_drew ?_ | refine blk_alloc ?_ _)); exact BK216.out) hb); have n3_ := Aside0.mk (below_step (by repeat (first | (with_reducible first | exact HB.out | apply below_alloc | apply pw_below_drewN | apply below_drew1 | refine below_set ?_ (IsS54.ge HI209.out) | refine below_set ?_ (IsS54.ge HI213.out) | refine below_set ?_ GE216.out) | exact HB.out)) hb); have n4_ := Aside0.mk (hbox); have n5_ := Aside0.mk ((by rw [hg]; exact (below_size (by repeat (first | (with_reducible first | exact HB.out | apply below_alloc | apply pw_below_drewN | apply below_drew1 | refine below_set ?_ (IsS54.ge HI209.out) | refine below_set ?_ (IsS54.ge HI213.out) | refine below_set ?_ GE216.out) | exact HB.out))) : w.heap.size ≤ gb217)); have n6_ := Aside0.mk ((by rw [hg]; exact (below_size (by repeat (first | (with_reducible first | exact HB.out | apply below_alloc | apply pw_below_drewN | apply below_drew1 | refine below_set ?_ (IsS54.ge HI209.out) | refine below_set ?_ (IsS54.ge HI213.out) | refine below_set ?_ GE216.out) | exact HB.out))) : w.heap.size ≤ gb217)); have n7_ := Aside0.mk ((by rw [hg]; exact Nat.ne_of_lt (blk_lt (g := gb216) (o := .cells #[.int .i64 ((rd_T33 l2 x9_1).f0), .int .u32 ((rd_T33 l2 x9_1).f1), .int .u32 ((rd_T33 l2 x9_1).f2), .bool ((rd_T33 l2 x9_1).f3)] 33 (0, 0)) (by (with_reducible repeat (first | refine blk_drewN ?_ _ | refine blk_drew ?_ | refine blk_alloc ?_ _)); refine blk_put (cs := #[.int .i64 ((rd_T33 l2 x9_1).f0), .int .u32 ((rd_T33 l2 x9_1).f1), .int .u32 ((rd_T33 l2 x9_1).f2), .bool false]) ?_ 3 _ rfl; (with_reducible repeat (first | refine blk_drewN ?_ _ | refine blk_drew ?_ | refine blk_alloc ?_ _)); refine blk_put (cs := #[.int .i64 ((rd_T33 l2 x9_1).f0), .int .u32 ((rd_T33 l2 x9_1).f1), .int .u32 0, .bool false]) ?_ 2 _ rfl; (with_reducible repeat (first | refine blk_drewN ?_ _ | refine blk_drew ?_ | refine blk_alloc ?_ _)); refine blk_put (cs := #[.int .i64 ((rd_T33 l2 x9_1).f0), .int .u32 0, .int .u32 0, .bool false]) ?_ 1 _ rfl; (with_reducible repeat (first | refine blk_drewN ?_ _ | refine blk_drew ?_ | refine blk_alloc ?_ _)); refine blk_put (cs := #[.int .i64 0, .int .u32 0, .int .u32 0, .bool false]) ?_ 0 _ rfl; (with_reducible repeat (first | refine blk_drewN ?_ _ | refine blk_drew ?_ | refine blk_alloc ?_ _)); exact BK216.out)) : gb216 ≠ gb217)); have n8_ := Aside0.mk ((by rw [hg]; exact Nat.ne_of_gt (blk_lt (g := gb216) (o := .cells #[.int .i64 ((rd_T33 l2 x9_1).f0), .int .u32 ((rd_T33 l2 x9_1).f1), .int .u32 ((rd_T33 l2 x9_1).f2), .bool ((rd_T33 l2 x9_1).f3)] 33 (0, 0)) (by (with_reducible repeat (first | refine blk_drewN ?_ _ | refine blk_drew ?_ | refine blk_alloc ?_ _)); refine blk_put (cs := #[.int .i64 ((rd_T33 l2 x9_1).f0), .int .u32 ((rd_T33 l2 x9_1).f1), .int .u32 ((rd_T33 l2 x9_1).f2), .bool false]) ?_ 3 _ rfl; (with_reducible repeat (first | refine blk_drewN ?_ _ | refine blk_drew ?_ | refine blk_alloc ?_ _)); refine blk_put (cs := #[.int .i64 ((rd_T33 l2 x9_1).f0), .int .u32 ((rd_T33 l2 x9_1).f1), .int .u32 0, .bool false]) ?_ 2 _ rfl; (with_reducible repeat (first | refine blk_drewN ?_ _ | refine blk_drew ?_ | refine blk_alloc ?_ _)); refine blk_put (cs := #[.int .i64 ((rd_T33 l2 x9_1).f0), .int .u32 0, .int .u32 0, .bool false]) ?_ 1 _ rfl; (with_reducible repeat (first | refine blk_drewN ?_ _ | refine blk_drew ?_ | refine blk_alloc ?_ _)); refine blk_put (cs := #[.int .i64 0, .int .u32 0, .int .u32 0, .bool false]) ?_ 0 _ rfl; (with_reducible repeat (first | refine blk_drewN ?_ _ | refine blk_drew ?_ | refine blk_alloc ?_ _)); exact BK216.out)) : gb217 ≠ gb216)); have n9_ := Aside0.mk ((by rw [hg]; exact Nat.ne_of_lt (IsS54.lt (show IsS54 w _ g209 x210000_1 x210001_1 x210002_1 from by repeat (first | (with_reducible first | exact HI209.out | apply IsS54.alloc | apply IsS54.drewN | apply IsS54.drew | apply IsS54.set_0 | apply IsS54.set_1 | apply IsS54.set_2 | refine IsS54.far ?_ NB209_216.out _) | exact HI209.out))) : g209 ≠ gb217)); have n10_ := Aside0.mk ((by rw [hg]; exact Nat.ne_of_gt (IsS54.lt (show IsS54 w _ g209 x210000_1 x210001_1 x210002_1 from by repeat (first | (with_reducible first | exact HI209.out | apply IsS54.alloc | apply IsS54.drewN | apply IsS54.drew | apply IsS54.set_0 | apply IsS54.set_1 | apply IsS54.set_2 | refine IsS54.far ?_ NB209_216.out _) | exact HI209.out))) : gb217 ≠ g209)); have n11_ := Aside0.mk ((by rw [hg]; exact Nat.ne_of_lt (IsS54.lt (show IsS54 w _ g213 x214000_1 x214001_1 x214002_1 from by repeat (first | (with_reducible first | exact HI213.out | apply IsS54.alloc | apply IsS54.drewN | apply IsS54.drew | apply IsS54.set_0 | apply IsS54.set_1 | apply IsS54.set_2 | refine IsS54.far ?_ NB213_216.out _) | exact HI213.out))) : g213 ≠ gb217)); have n12_ := Aside0.mk ((by rw [hg]; exact Nat.ne_of_gt (IsS54.lt (show IsS54 w _ g213 x214000_1 x214001_1 x214002_1 from by repeat (first | (with_reducible first | exact HI213.out | apply IsS54.alloc | apply IsS54.drewN | apply IsS54.drew | apply IsS54.set_0 | apply IsS54.set_1 | apply IsS54.set_2 | refine IsS54.far ?_ NB213_216.out _) | exact HI213.out))) : gb217 ≠ g213)); clear HI209; clear HI213; clear BK216; clear HB; have HI209 := n0_; have HI213 := n1_; have BK216 := n2_; have HB := n3_; have BK217 := n4_; have GW217 := n5_; have GE217 := n6_; have NB216_217 := n7_; have NB217_216 := n8_; have NB209_217 := n9_; have NB217_209 := n10_; have NB213_217 := n11_; have NB217_213 := n12_; clear n0_ n1_ n2_ n3_ n4_ n5_ n6_ n7_ n8_ n9_ n10_ n11_ n12_; clear hb hbox hg; have hnb19 := NB217_216.out; have hnc19 := NB216_217.out; have hnb20 := NB217_209.out; have hnc20 := NB209_217.out; have hnb21 := NB217_213.out; have hnc21 := NB213_217.out; have hcz22_0 : w18.cell? ⟨gb217, 0, none⟩ = some (.int .i64 0) := (blk_cell BK217.out 0).trans rfl; have hcz22_1 : w18.cell? ⟨gb217, 1, none⟩ = some (.int .u32 0) := (blk_cell BK217.out 1).trans rfl; have hcz22_2 : w18.cell? ⟨gb217, 2, none⟩ = some (.int .u32 0) := (blk_cell BK217.out 2).trans rfl; have hcz22_3 : w18.cell? ⟨gb217, 3, none⟩ = some (.bool false) := (blk_cell BK217.out 3).trans rfl; have hfz22_0 := blk_frozen BK217.out 0; have hfz22_1 := blk_frozen BK217.out 1; have hfz22_2 := blk_frozen BK217.out 2; have hfz22_3 := blk_frozen BK217.out 3))
            (try simp only [Act.put, List.setIfInBounds_toArray, List.set_cons_zero, List.set_cons_succ])
            go_cut [48] (fun v48 wc => ∃ (kq : Nat) (x48_12 : Bool), v48 = .bool x48_12 ∧ Aside0 (lw16_CreditRound.j1 kq a1 l2 x9_1 x48_12 x210000_1 x210001_1 x210002_1 x214000_1 x214001_1 x214002_1 ((rd_T33 l2 x9_1).f0) ((rd_T33 l2 x9_1).f1) ((rd_T33 l2 x9_1).f2) ((rd_T33 l2 x9_1).f3) ((rd_T33 l2 x9_1).f0) ((rd_T33 l2 x9_1).f1) ((rd_T33 l2 x9_1).f2) ((rd_T33 l2 x9_1).f3) = some r) ∧ Aside0 (kq ≤ k1) ∧ Aside0 (wc.heap[gb216]? = some (.cells #[.int .i64 ((rd_T33 l2 x9_1).f0), .int .u32 ((rd_T33 l2 x9_1).f1), .int .u32 ((rd_T33 l2 x9_1).f2), .bool ((rd_T33 l2 x9_1).f3)] 33 (0, 0))) ∧ Aside0 (wc.heap[gb217]? = some (.cells #[.int .i64 ((rd_T33 l2 x9_1).f0), .int .u32 ((rd_T33 l2 x9_1).f1), .int .u32 ((rd_T33 l2 x9_1).f2), .bool ((rd_T33 l2 x9_1).f3)] 33 (0, 0))) ∧ Aside0 (IsS54 w wc g209 x210000_1 x210001_1 x210002_1) ∧ Aside0 (IsS54 w wc g213 x214000_1 x214001_1 x214002_1) ∧ Aside0 (Below w.heap.size w wc))
            case first =>
              have H := HC13.out
              clear HC13
              by_cases c23 : ((rd_T33 l2 x9_1).f0) = 0
              · rw [if_pos c23] at H
                have c23b0 : (((rd_T33 l2 x9_1).f0) == 0) = true := beq_iff_eq.mpr c23
                have c23b1 : (((rd_T33 l2 x9_1).f0) != 0) = false := bne_eq_false_iff_eq.mpr c23
                clear c23
                (first | rw [c23b0] | (simp only [i64_w, i32_w]; rw [c23b0]) | skip)
                have H' := Aside0.mk H
                clear H
                have hnb24 := NB216_217.out
                have hnc24 := NB217_216.out
                have hnb25 := NB216_209.out
                have hnc25 := NB209_216.out
                have hnb26 := NB216_213.out
                have hnc26 := NB213_216.out
                have hcz27_0 : w18.cell? ⟨gb216, 0, none⟩ = some (.int .i64 ((rd_T33 l2 x9_1).f0)) := (blk_cell BK216.out 0).trans rfl
                have hcz27_1 : w18.cell? ⟨gb216, 1, none⟩ = some (.int .u32 ((rd_T33 l2 x9_1).f1)) := (blk_cell BK216.out 1).trans rfl
                have hcz27_2 : w18.cell? ⟨gb216, 2, none⟩ = some (.int .u32 ((rd_T33 l2 x9_1).f2)) := (blk_cell BK216.out 2).trans rfl
                have hcz27_3 : w18.cell? ⟨gb216, 3, none⟩ = some (.bool ((rd_T33 l2 x9_1).f3)) := (blk_cell BK216.out 3).trans rfl
                have hfz27_0 := blk_frozen BK216.out 0
                have hfz27_1 := blk_frozen BK216.out 1
                have hfz27_2 := blk_frozen BK216.out 2
                have hfz27_3 := blk_frozen BK216.out 3
                go_wp2
                go_meet
                case rel => exact ⟨_, (true), (by first | rfl | (simp; done) | (simp [*]; done)), H', ⟨by have := HK1.out; first | omega | exact Nat.le_refl _⟩, ⟨by (with_reducible repeat (first | refine blk_drewN ?_ _ | refine blk_drew ?_ | refine blk_alloc ?_ _)); refine blk_far ?_ NB216_217.out _; (with_reducible repeat (first | refine blk_drewN ?_ _ | refine blk_drew ?_ | refine blk_alloc ?_ _)); refine blk_far ?_ NB216_217.out _; (with_reducible repeat (first | refine blk_drewN ?_ _ | refine blk_drew ?_ | refine blk_alloc ?_ _)); refine blk_far ?_ NB216_217.out _; (with_reducible repeat (first | refine blk_drewN ?_ _ | refine blk_drew ?_ | refine blk_alloc ?_ _)); refine blk_far ?_ NB216_217.out _; (with_reducible repeat (first | refine blk_drewN ?_ _ | refine blk_drew ?_ | refine blk_alloc ?_ _)); exact BK216.out⟩, ⟨by (with_reducible repeat (first | refine blk_drewN ?_ _ | refine blk_drew ?_ | refine blk_alloc ?_ _)); refine blk_put (cs := #[.int .i64 ((rd_T33 l2 x9_1).f0), .int .u32 ((rd_T33 l2 x9_1).f1), .int .u32 ((rd_T33 l2 x9_1).f2), .bool false]) ?_ 3 _ rfl; (with_reducible repeat (first | refine blk_drewN ?_ _ | refine blk_drew ?_ | refine blk_alloc ?_ _)); refine blk_put (cs := #[.int .i64 ((rd_T33 l2 x9_1).f0), .int .u32 ((rd_T33 l2 x9_1).f1), .int .u32 0, .bool false]) ?_ 2 _ rfl; (with_reducible repeat (first | refine blk_drewN ?_ _ | refine blk_drew ?_ | refine blk_alloc ?_ _)); refine blk_put (cs := #[.int .i64 ((rd_T33 l2 x9_1).f0), .int .u32 0, .int .u32 0, .bool false]) ?_ 1 _ rfl; (with_reducible repeat (first | refine blk_drewN ?_ _ | refine blk_drew ?_ | refine blk_alloc ?_ _)); refine blk_put (cs := #[.int .i64 0, .int .u32 0, .int .u32 0, .bool false]) ?_ 0 _ rfl; (with_reducible repeat (first | refine blk_drewN ?_ _ | refine blk_drew ?_ | refine blk_alloc ?_ _)); exact BK217.out⟩, ⟨by repeat (first | (with_reducible first | exact HI209.out | apply IsS54.alloc | apply IsS54.drewN | apply IsS54.drew | apply IsS54.set_0 | apply IsS54.set_1 | apply IsS54.set_2 | refine IsS54.far ?_ NB209_216.out _ | refine IsS54.far ?_ NB209_217.out _) | exact HI209.out)⟩, ⟨by repeat (first | (with_reducible first | exact HI213.out | apply IsS54.alloc | apply IsS54.drewN | apply IsS54.drew | apply IsS54.set_0 | apply IsS54.set_1 | apply IsS54.set_2 | refine IsS54.far ?_ NB213_216.out _ | refine IsS54.far ?_ NB213_217.out _) | exact HI213.out)⟩, ⟨by repeat (first | (with_reducible first | exact HB.out | apply below_alloc | apply pw_below_drewN | apply below_drew1 | refine below_set ?_ (IsS54.ge HI209.out) | refine below_set ?_ (IsS54.ge HI213.out) | refine below_set ?_ GE216.out | refine below_set ?_ GE217.out) | exact HB.out)⟩⟩
              · rw [if_neg c23] at H
                have c23b0 : (((rd_T33 l2 x9_1).f0) == 0) = false := beq_eq_false_iff_ne.mpr c23
                have c23b1 : (((rd_T33 l2 x9_1).f0) != 0) = true := bne_iff_ne.mpr c23
                (first | rw [c23b0] | (simp only [i64_w, i32_w]; rw [c23b0]) | skip)
                have H' := Aside0.mk H
                clear H
                have hnb28 := NB216_217.out
                have hnc28 := NB217_216.out
                have hnb29 := NB216_209.out
                have hnc29 := NB209_216.out
                have hnb30 := NB216_213.out
                have hnc30 := NB213_216.out
                have hcz31_0 : w18.cell? ⟨gb216, 0, none⟩ = some (.int .i64 ((rd_T33 l2 x9_1).f0)) := (blk_cell BK216.out 0).trans rfl
                have hcz31_1 : w18.cell? ⟨gb216, 1, none⟩ = some (.int .u32 ((rd_T33 l2 x9_1).f1)) := (blk_cell BK216.out 1).trans rfl
                have hcz31_2 : w18.cell? ⟨gb216, 2, none⟩ = some (.int .u32 ((rd_T33 l2 x9_1).f2)) := (blk_cell BK216.out 2).trans rfl
                have hcz31_3 : w18.cell? ⟨gb216, 3, none⟩ = some (.bool ((rd_T33 l2 x9_1).f3)) := (blk_cell BK216.out 3).trans rfl
                have hfz31_0 := blk_frozen BK216.out 0
                have hfz31_1 := blk_frozen BK216.out 1
                have hfz31_2 := blk_frozen BK216.out 2
                have hfz31_3 := blk_frozen BK216.out 3
                go_wp2
                go_meet
                case rel => exact ⟨_, ((((rd_T33 l2 x9_1).f0) == 1)), (by first | rfl | (simp; done) | (simp [*]; done)), H', ⟨by have := HK1.out; first | omega | exact Nat.le_refl _⟩, ⟨by (with_reducible repeat (first | refine blk_drewN ?_ _ | refine blk_drew ?_ | refine blk_alloc ?_ _)); refine blk_far ?_ NB216_217.out _; (with_reducible repeat (first | refine blk_drewN ?_ _ | refine blk_drew ?_ | refine blk_alloc ?_ _)); refine blk_far ?_ NB216_217.out _; (with_reducible repeat (first | refine blk_drewN ?_ _ | refine blk_drew ?_ | refine blk_alloc ?_ _)); refine blk_far ?_ NB216_217.out _; (with_reducible repeat (first | refine blk_drewN ?_ _ | refine blk_drew ?_ | refine blk_alloc ?_ _)); refine blk_far ?_ NB216_217.out _; (with_reducible repeat (first | refine blk_drewN ?_ _ | refine blk_drew ?_ | refine blk_alloc ?_ _)); exact BK216.out⟩, ⟨by (with_reducible repeat (first | refine blk_drewN ?_ _ | refine blk_drew ?_ | refine blk_alloc ?_ _)); refine blk_put (cs := #[.int .i64 ((rd_T33 l2 x9_1).f0), .int .u32 ((rd_T33 l2 x9_1).f1), .int .u32 ((rd_T33 l2 x9_1).f2), .bool false]) ?_ 3 _ rfl; (with_reducible repeat (first | refine blk_drewN ?_ _ | refine blk_drew ?_ | refine blk_alloc ?_ _)); refine blk_put (cs := #[.int .i64 ((rd_T33 l2 x9_1).f0), .int .u32 ((rd_T33 l2 x9_1).f1), .int .u32 0, .bool false]) ?_ 2 _ rfl; (with_reducible repeat (first | refine blk_drewN ?_ _ | refine blk_drew ?_ | refine blk_alloc ?_ _)); refine blk_put (cs := #[.int .i64 ((rd_T33 l2 x9_1).f0), .int .u32 0, .int .u32 0, .bool false]) ?_ 1 _ rfl; (with_reducible repeat (first | refine blk_drewN ?_ _ | refine blk_drew ?_ | refine blk_alloc ?_ _)); refine blk_put (cs := #[.int .i64 0, .int .u32 0, .int .u32 0, .bool false]) ?_ 0 _ rfl; (with_reducible repeat (first | refine blk_drewN ?_ _ | refine blk_drew ?_ | refine blk_alloc ?_ _)); exact BK217.out⟩, ⟨by repeat (first | (with_reducible first | exact HI209.out | apply IsS54.alloc | apply IsS54.drewN | apply IsS54.drew | apply IsS54.set_0 | apply IsS54.set_1 | apply IsS54.set_2 | refine IsS54.far ?_ NB209_216.out _ | refine IsS54.far ?_ NB209_217.out _) | exact HI209.out)⟩, ⟨by repeat (first | (with_reducible first | exact HI213.out | apply IsS54.alloc | apply IsS54.drewN | apply IsS54.drew | apply IsS54.set_0 | apply IsS54.set_1 | apply IsS54.set_2 | refine IsS54.far ?_ NB213_216.out _ | refine IsS54.far ?_ NB213_217.out _) | exact HI213.out)⟩, ⟨by repeat (first | (with_reducible first | exact HB.out | apply below_alloc | apply pw_below_drewN | apply below_drew1 | refine below_set ?_ (IsS54.ge HI209.out) | refine below_set ?_ (IsS54.ge HI213.out) | refine below_set ?_ GE216.out | refine below_set ?_ GE217.out) | exact HB.out)⟩⟩
            case rest =>
              clear HC13
              try clear c1
              try clear c2
              try clear p2
              try clear q2
              try clear hx2
              try clear c3
              try clear c4
              try clear c4b0
              try clear c4b1
              try clear c5
              try clear c9
              try clear c10
              try clear c11
              try clear c11b0
              try clear c12
              try clear c12b0
              try clear c15
              try clear c16
              try clear c19
              try clear c20
              try clear c21
              try clear p21
              try clear q21
              try clear hx21
              try clear c23
              try clear c23b0
              try clear c23b1
              try clear c24
              try clear c25
              try clear c26
              try clear c28
              try clear c29
              try clear c30
              try clear hcz17_0
              try clear hcz17_1
              try clear hcz17_2
              try clear hcz17_3
              try clear hcz22_0
              try clear hcz22_1
              try clear hcz22_2
              try clear hcz22_3
              try clear hcz27_0
              try clear hcz27_1
              try clear hcz27_2
              try clear hcz27_3
              try clear hcz31_0
              try clear hcz31_1
              try clear hcz31_2
              try clear hcz31_3
              try clear hfz17_0
              try clear hfz17_1
              try clear hfz17_2
              try clear hfz17_3
              try clear hfz22_0
              try clear hfz22_1
              try clear hfz22_2
              try clear hfz22_3
              try clear hfz27_0
              try clear hfz27_1
              try clear hfz27_2
              try clear hfz27_3
              try clear hfz31_0
              try clear hfz31_1
              try clear hfz31_2
              try clear hfz31_3
              try clear hx215_0
              try clear hx215_1
              try clear hx215_2
              try clear hx215_3
              try clear p2
              try clear p215
              try clear q215
              obtain ⟨kq, x48_12, rfl, HA, HJ12, BK216, BK217, HI209, HI213, HB⟩ := hcut
              cases kq with
              | zero => exact absurd HA.out (by simp [lw16_CreditRound.j1])
              | succ kj12 =>
                have H := HA.out
                clear HA
                simp only [lw16_CreditRound.j1] at H
                have HC32 := Aside0.mk H
                clear H
                go_upto_if 48 with (fail)
                go_cut [] (fun wc => ∃ (kq : Nat) (x218001_31 : Int), Aside0 (lw16_CreditRound.j2 kq a1 l2 x9_1 x210000_1 x210001_1 x210002_1 x214000_1 x214001_1 x214002_1 ((rd_T33 l2 x9_1).f0) ((rd_T33 l2 x9_1).f1) ((rd_T33 l2 x9_1).f2) ((rd_T33 l2 x9_1).f3) ((rd_T33 l2 x9_1).f0) x218001_31 ((rd_T33 l2 x9_1).f2) ((rd_T33 l2 x9_1).f3) = some r) ∧ Aside0 (kq ≤ kj12) ∧ Aside0 (wc.heap[gb216]? = some (.cells #[.int .i64 ((rd_T33 l2 x9_1).f0), .int .u32 ((rd_T33 l2 x9_1).f1), .int .u32 ((rd_T33 l2 x9_1).f2), .bool ((rd_T33 l2 x9_1).f3)] 33 (0, 0))) ∧ Aside0 (wc.heap[gb217]? = some (.cells #[.int .i64 ((rd_T33 l2 x9_1).f0), .int .u32 x218001_31, .int .u32 ((rd_T33 l2 x9_1).f2), .bool ((rd_T33 l2 x9_1).f3)] 33 (0, 0))) ∧ Aside0 (IsS54 w wc g209 x210000_1 x210001_1 x210002_1) ∧ Aside0 (IsS54 w wc g213 x214000_1 x214001_1 x214002_1) ∧ Aside0 (Below w.heap.size w wc))
                case first =>
                  have H := HC32.out
                  clear HC32
                  by_cases c33 : x48_12 = true
                  · subst c33
                    have H1 : (lw16_CreditRound.j2 kj12 a1 l2 x9_1 x210000_1 x210001_1 x210002_1 x214000_1 x214001_1 x214002_1 ((rd_T33 l2 x9_1).f0) ((rd_T33 l2 x9_1).f1) ((rd_T33 l2 x9_1).f2) ((rd_T33 l2 x9_1).f3) ((rd_T33 l2 x9_1).f0) ((((rd_T33 l2 x9_1).f1) + a1) % 4294967296) ((rd_T33 l2 x9_1).f2) ((rd_T33 l2 x9_1).f3)) = some r := by rw [if_pos rfl] at H; exact H
                    clear H
                    have H := H1
                    clear H1
                    have H' := Aside0.mk H
                    clear H
                    have hnb34 := NB216_217.out
                    have hnc34 := NB217_216.out
                    have hnb35 := NB216_209.out
                    have hnc35 := NB209_216.out
                    have hnb36 := NB216_213.out
                    have hnc36 := NB213_216.out
                    have hcz37_0 : wc.cell? ⟨gb216, 0, none⟩ = some (.int .i64 ((rd_T33 l2 x9_1).f0)) := (blk_cell BK216.out 0).trans rfl
                    have hcz37_1 : wc.cell? ⟨gb216, 1, none⟩ = some (.int .u32 ((rd_T33 l2 x9_1).f1)) := (blk_cell BK216.out 1).trans rfl
                    have hcz37_2 : wc.cell? ⟨gb216, 2, none⟩ = some (.int .u32 ((rd_T33 l2 x9_1).f2)) := (blk_cell BK216.out 2).trans rfl
                    have hcz37_3 : wc.cell? ⟨gb216, 3, none⟩ = some (.bool ((rd_T33 l2 x9_1).f3)) := (blk_cell BK216.out 3).trans rfl
                    have hfz37_0 := blk_frozen BK216.out 0
                    have hfz37_1 := blk_frozen BK216.out 1
                    have hfz37_2 := blk_frozen BK216.out 2
                    have hfz37_3 := blk_frozen BK216.out 3
                    have hnb38 := NB217_209.out
                    have hnc38 := NB209_217.out
                    have hnb39 := NB217_213.out
                    have hnc39 := NB213_217.out
                    have hcz40_0 : wc.cell? ⟨gb217, 0, none⟩ = some (.int .i64 ((rd_T33 l2 x9_1).f0)) := (blk_cell BK217.out 0).trans rfl
                    have hcz40_1 : wc.cell? ⟨gb217, 1, none⟩ = some (.int .u32 ((rd_T33 l2 x9_1).f1)) := (blk_cell BK217.out 1).trans rfl
                    have hcz40_2 : wc.cell? ⟨gb217, 2, none⟩ = some (.int .u32 ((rd_T33 l2 x9_1).f2)) := (blk_cell BK217.out 2).trans rfl
                    have hcz40_3 : wc.cell? ⟨gb217, 3, none⟩ = some (.bool ((rd_T33 l2 x9_1).f3)) := (blk_cell BK217.out 3).trans rfl
                    have hfz40_0 := blk_frozen BK217.out 0
                    have hfz40_1 := blk_frozen BK217.out 1
                    have hfz40_2 := blk_frozen BK217.out 2
                    have hfz40_3 := blk_frozen BK217.out 3
                    go_wp2
                    go_meet
                    case rel => exact ⟨_, ((((rd_T33 l2 x9_1).f1) + a1) % 4294967296), H', ⟨by have := HK1.out; have := HJ12.out; first | omega | exact Nat.le_refl _⟩, ⟨by (with_reducible repeat (first | refine blk_drewN ?_ _ | refine blk_drew ?_ | refine blk_alloc ?_ _)); refine blk_far ?_ NB216_217.out _; (with_reducible repeat (first | refine blk_drewN ?_ _ | refine blk_drew ?_ | refine blk_alloc ?_ _)); exact BK216.out⟩, ⟨by (with_reducible repeat (first | refine blk_drewN ?_ _ | refine blk_drew ?_ | refine blk_alloc ?_ _)); refine blk_put (cs := #[.int .i64 ((rd_T33 l2 x9_1).f0), .int .u32 ((rd_T33 l2 x9_1).f1), .int .u32 ((rd_T33 l2 x9_1).f2), .bool ((rd_T33 l2 x9_1).f3)]) ?_ 1 _ rfl; (with_reducible repeat (first | refine blk_drewN ?_ _ | refine blk_drew ?_ | refine blk_alloc ?_ _)); exact BK217.out⟩, ⟨by repeat (first | (with_reducible first | exact HI209.out | apply IsS54.alloc | apply IsS54.drewN | apply IsS54.drew | apply IsS54.set_0 | apply IsS54.set_1 | apply IsS54.set_2 | refine IsS54.far ?_ NB209_216.out _ | refine IsS54.far ?_ NB209_217.out _) | exact HI209.out)⟩, ⟨by repeat (first | (with_reducible first | exact HI213.out | apply IsS54.alloc | apply IsS54.drewN | apply IsS54.drew | apply IsS54.set_0 | apply IsS54.set_1 | apply IsS54.set_2 | refine IsS54.far ?_ NB213_216.out _ | refine IsS54.far ?_ NB213_217.out _) | exact HI213.out)⟩, ⟨by repeat (first | (with_reducible first | exact HB.out | apply below_alloc | apply pw_below_drewN | apply below_drew1 | refine below_set ?_ (IsS54.ge HI209.out) | refine below_set ?_ (IsS54.ge HI213.out) | refine below_set ?_ GE216.out | refine below_set ?_ GE217.out) | exact HB.out)⟩⟩
                  · replace c33 := Bool.eq_false_iff.mpr c33
                    subst c33
                    have H1 : (lw16_CreditRound.j2 kj12 a1 l2 x9_1 x210000_1 x210001_1 x210002_1 x214000_1 x214001_1 x214002_1 ((rd_T33 l2 x9_1).f0) ((rd_T33 l2 x9_1).f1) ((rd_T33 l2 x9_1).f2) ((rd_T33 l2 x9_1).f3) ((rd_T33 l2 x9_1).f0) ((rd_T33 l2 x9_1).f1) ((rd_T33 l2 x9_1).f2) ((rd_T33 l2 x9_1).f3)) = some r := by rw [if_neg (show ¬ (false = true) by decide)] at H; exact H
                    clear H
                    have H := H1
                    clear H1
                    have H' := Aside0.mk H
                    clear H
                    go_wp2
                    go_meet
                    case rel => exact ⟨_, (((rd_T33 l2 x9_1).f1)), H', ⟨by have := HK1.out; have := HJ12.out; first | omega | exact Nat.le_refl _⟩, ⟨by (with_reducible repeat (first | refine blk_drewN ?_ _ | refine blk_drew ?_ | refine blk_alloc ?_ _)); exact BK216.out⟩, ⟨by (with_reducible repeat (first | refine blk_drewN ?_ _ | refine blk_drew ?_ | refine blk_alloc ?_ _)); exact BK217.out⟩, ⟨by repeat (first | (with_reducible first | exact HI209.out | apply IsS54.alloc | apply IsS54.drewN | apply IsS54.drew | apply IsS54.set_0 | apply IsS54.set_1 | apply IsS54.set_2 | refine IsS54.far ?_ NB209_216.out _ | refine IsS54.far ?_ NB209_217.out _) | exact HI209.out)⟩, ⟨by repeat (first | (with_reducible first | exact HI213.out | apply IsS54.alloc | apply IsS54.drewN | apply IsS54.drew | apply IsS54.set_0 | apply IsS54.set_1 | apply IsS54.set_2 | refine IsS54.far ?_ NB213_216.out _ | refine IsS54.far ?_ NB213_217.out _) | exact HI213.out)⟩, ⟨by repeat (first | (with_reducible first | exact HB.out | apply below_alloc | apply pw_below_drewN | apply below_drew1 | refine below_set ?_ (IsS54.ge HI209.out) | refine below_set ?_ (IsS54.ge HI213.out) | refine below_set ?_ GE216.out | refine below_set ?_ GE217.out) | exact HB.out)⟩⟩
                case rest =>
                  clear HC32
                  try clear c1
                  try clear c2
                  try clear p2
                  try clear q2
                  try clear hx2
                  try clear c3
                  try clear c4
                  try clear c4b0
                  try clear c4b1
                  try clear c5
                  try clear c9
                  try clear c10
                  try clear c11
                  try clear c11b0
                  try clear c12
                  try clear c12b0
                  try clear c15
                  try clear c16
                  try clear c19
                  try clear c20
                  try clear c21
                  try clear p21
                  try clear q21
                  try clear hx21
                  try clear c23
                  try clear c23b0
                  try clear c23b1
                  try clear c24
                  try clear c25
                  try clear c26
                  try clear c28
                  try clear c29
                  try clear c30
                  try clear c33
                  try clear c34
                  try clear c35
                  try clear c36
                  try clear c38
                  try clear c39
                  try clear hcz17_0
                  try clear hcz17_1
                  try clear hcz17_2
                  try clear hcz17_3
                  try clear hcz22_0
                  try clear hcz22_1
                  try clear hcz22_2
                  try clear hcz22_3
                  try clear hcz27_0
                  try clear hcz27_1
                  try clear hcz27_2
                  try clear hcz27_3
                  try clear hcz31_0
                  try clear hcz31_1
                  try clear hcz31_2
                  try clear hcz31_3
                  try clear hcz37_0
                  try clear hcz37_1
                  try clear hcz37_2
                  try clear hcz37_3
                  try clear hcz40_0
                  try clear hcz40_1
                  try clear hcz40_2
                  try clear hcz40_3
                  try clear hfz17_0
                  try clear hfz17_1
                  try clear hfz17_2
                  try clear hfz17_3
                  try clear hfz22_0
                  try clear hfz22_1
                  try clear hfz22_2
                  try clear hfz22_3
                  try clear hfz27_0
                  try clear hfz27_1
                  try clear hfz27_2
                  try clear hfz27_3
                  try clear hfz31_0
                  try clear hfz31_1
                  try clear hfz31_2
                  try clear hfz31_3
                  try clear hfz37_0
                  try clear hfz37_1
                  try clear hfz37_2
                  try clear hfz37_3
                  try clear hfz40_0
                  try clear hfz40_1
                  try clear hfz40_2
                  try clear hfz40_3
                  try clear hx215_0
                  try clear hx215_1
                  try clear hx215_2
                  try clear hx215_3
                  try clear p2
                  try clear p21
                  try clear p215
                  try clear q2
                  try clear q21
                  try clear q215
                  obtain ⟨kq, x218001_31, HA, HJ31, BK216, BK217, HI209, HI213, HB⟩ := hcut
                  cases kq with
                  | zero => exact absurd HA.out (by simp [lw16_CreditRound.j2])
                  | succ kj31 =>
                    have H := HA.out
                    clear HA
                    simp only [lw16_CreditRound.j2] at H
                    replace H := Option.bind_eq_some_iff.mp H
                    obtain ⟨⟨t218, t219, t220, t221, t222⟩, A410, H⟩ := H
                    replace H : ((lw16_does.f x214000_1 x214001_1 x214002_1 ((rd_T33 l2 x9_1).f0) x218001_31 ((rd_T33 l2 x9_1).f2) ((rd_T33 l2 x9_1).f3)).bind fun bt224 => (if ((rd_T33 l2 x9_1).f0) = 2 then (lw16_CreditRound.j3 kj31 a1 l2 x9_1 t220 t221 t222 bt224.2.2.1 bt224.2.2.2.1 bt224.2.2.2.2 t218 t219 ((bt224.1 - a1) % 4294967296) bt224.2.1) else (lw16_CreditRound.j3 kj31 a1 l2 x9_1 t220 t221 t222 bt224.2.2.1 bt224.2.2.2.1 bt224.2.2.2.2 t218 t219 bt224.1 bt224.2.1))) = some r := H
                    have A41 := Aside0.mk A410
                    clear A410
                    replace H := Option.bind_eq_some_iff.mp H
                    obtain ⟨⟨t224, t225, t226, t227, t228⟩, A420, H⟩ := H
                    replace H : (if ((rd_T33 l2 x9_1).f0) = 2 then (lw16_CreditRound.j3 kj31 a1 l2 x9_1 t220 t221 t222 t226 t227 t228 t218 t219 ((t224 - a1) % 4294967296) t225) else (lw16_CreditRound.j3 kj31 a1 l2 x9_1 t220 t221 t222 t226 t227 t228 t218 t219 t224 t225)) = some r := H
                    have A42 := Aside0.mk A420
                    clear A420
                    have HC43 := Aside0.mk H
                    clear H
                    have hnb44 := NB216_217.out
                    have hnc44 := NB217_216.out
                    have hnb45 := NB216_209.out
                    have hnc45 := NB209_216.out
                    have hnb46 := NB216_213.out
                    have hnc46 := NB213_216.out
                    have hcz47_0 : wc.cell? ⟨gb216, 0, none⟩ = some (.int .i64 ((rd_T33 l2 x9_1).f0)) := (blk_cell BK216.out 0).trans rfl
                    have hcz47_1 : wc.cell? ⟨gb216, 1, none⟩ = some (.int .u32 ((rd_T33 l2 x9_1).f1)) := (blk_cell BK216.out 1).trans rfl
                    have hcz47_2 : wc.cell? ⟨gb216, 2, none⟩ = some (.int .u32 ((rd_T33 l2 x9_1).f2)) := (blk_cell BK216.out 2).trans rfl
                    have hcz47_3 : wc.cell? ⟨gb216, 3, none⟩ = some (.bool ((rd_T33 l2 x9_1).f3)) := (blk_cell BK216.out 3).trans rfl
                    have hfz47_0 := blk_frozen BK216.out 0
                    have hfz47_1 := blk_frozen BK216.out 1
                    have hfz47_2 := blk_frozen BK216.out 2
                    have hfz47_3 := blk_frozen BK216.out 3
                    go_upto_if 62 with (first | ((with_reducible refine gate_callee (f := 12) rfl ?_); refine goesL_ (some 56) rfl rfl Try.func12 (by kernel_rfl) rfl #[.pointer (some ⟨g209, 0, none⟩), .agg #[.int .i64 ((rd_T33 l2 x9_1).f0), .int .u32 ((rd_T33 l2 x9_1).f1), .int .u32 ((rd_T33 l2 x9_1).f2), .bool ((rd_T33 l2 x9_1).f3)]] rfl (by (try simp only [List.map_toArray, List.map_cons, List.map_nil]); first | done | rfl | (simp only [List.length_drop, List.length_take]; rfl)) ?_; (with_reducible refine (lw16_does.calls g209 x210000_1 x210001_1 x210002_1 ((rd_T33 l2 x9_1).f0) ((rd_T33 l2 x9_1).f1) ((rd_T33 l2 x9_1).f2) ((rd_T33 l2 x9_1).f3) t218 t219 t220 t221 t222 w _ ?side1 ?side2 A41.out).mono ?_); (case side1 => repeat (first | (with_reducible first | exact HI209.out | apply IsS54.alloc | apply IsS54.drewN | apply IsS54.drew | apply IsS54.set_0 | apply IsS54.set_1 | apply IsS54.set_2 | refine IsS54.far ?_ NB209_216.out _ | refine IsS54.far ?_ NB209_217.out _) | exact HI209.out)); (case side2 => repeat (first | (with_reducible first | exact HB.out | apply below_alloc | apply pw_below_drewN | apply below_drew1 | refine below_set ?_ (IsS54.ge HI209.out) | refine below_set ?_ (IsS54.ge HI213.out) | refine below_set ?_ GE216.out | refine below_set ?_ GE217.out) | exact HB.out)); rintro e w48 ⟨rfl, hi, hb, hk⟩; refine ⟨_, rfl, ?_⟩; have n0_ := Aside0.mk (KeepBut.blk hk (g' := gb216) (o := .cells #[.int .i64 ((rd_T33 l2 x9_1).f0), .int .u32 ((rd_T33 l2 x9_1).f1), .int .u32 ((rd_T33 l2 x9_1).f2), .bool ((rd_T33 l2 x9_1).f3)] 33 (0, 0)) (by (with_reducible repeat (first | refine blk_drewN ?_ _ | refine blk_drew ?_ | refine blk_alloc ?_ _)); exact BK216.out) NB216_209.out (by simp)); have n1_ := Aside0.mk (KeepBut.blk hk (g' := gb217) (o := .cells #[.int .i64 ((rd_T33 l2 x9_1).f0), .int .u32 x218001_31, .int .u32 ((rd_T33 l2 x9_1).f2), .bool ((rd_T33 l2 x9_1).f3)] 33 (0, 0)) (by (with_reducible repeat (first | refine blk_drewN ?_ _ | refine blk_drew ?_ | refine blk_alloc ?_ _)); exact BK217.out) NB217_209.out (by simp)); have n2_ := Aside0.mk (IsS54.beside (show IsS54 w _ g213 x214000_1 x214001_1 x214002_1 from by repeat (first | (with_reducible first | exact HI213.out | apply IsS54.alloc | apply IsS54.drewN | apply IsS54.drew | apply IsS54.set_0 | apply IsS54.set_1 | apply IsS54.set_2 | refine IsS54.far ?_ NB213_216.out _ | refine IsS54.far ?_ NB213_217.out _) | exact HI213.out)) hk NS213_209.out); have n3_ := Aside0.mk (hb); have n4_ := Aside0.mk (hi); clear BK216; clear BK217; clear HI213; clear HB; clear HI209; have BK216 := n0_; have BK217 := n1_; have HI213 := n2_; have HB := n3_; have HI209 := n4_; clear n0_ n1_ n2_ n3_ n4_; (try clear hb); (try clear hb2); (try clear hk); (try clear hi); (try clear hgw)) | ((with_reducible refine gate_dst (N := 12) rfl ?_); refine box_event ?hg (N := 12) ?hd (cs := #[.int .u32 0, .bool false]) (t := 30) ?hr ?_; (case hd => rfl); (case hg => rfl); (case hr => first | (go_simp; done) | (go_simp; rfl)); intro gb223 hg w49 hbox hb; have n0_ := Aside0.mk (blk_below (g := gb216) (o := .cells #[.int .i64 ((rd_T33 l2 x9_1).f0), .int .u32 ((rd_T33 l2 x9_1).f1), .int .u32 ((rd_T33 l2 x9_1).f2), .bool ((rd_T33 l2 x9_1).f3)] 33 (0, 0)) (by (with_reducible repeat (first | refine blk_drewN ?_ _ | refine blk_drew ?_ | refine blk_alloc ?_ _)); exact BK216.out) hb); have n1_ := Aside0.mk (blk_below (g := gb217) (o := .cells #[.int .i64 ((rd_T33 l2 x9_1).f0), .int .u32 x218001_31, .int .u32 ((rd_T33 l2 x9_1).f2), .bool ((rd_T33 l2 x9_1).f3)] 33 (0, 0)) (by (with_reducible repeat (first | refine blk_drewN ?_ _ | refine blk_drew ?_ | refine blk_alloc ?_ _)); exact BK217.out) hb); have n2_ := Aside0.mk (IsS54.below (by repeat (first | (with_reducible first | exact HI209.out | apply IsS54.alloc | apply IsS54.drewN | apply IsS54.drew | apply IsS54.set_0 | apply IsS54.set_1 | apply IsS54.set_2 | refine IsS54.far ?_ NB209_216.out _ | refine IsS54.far ?_ NB209_217.out _) | exact HI209.out)) hb); have n3_ := Aside0.mk (IsS54.below (by repeat (first | (with_reducible first | exact HI213.out | apply IsS54.alloc | apply IsS54.drewN | apply IsS54.drew | apply IsS54.set_0 | apply IsS54.set_1 | apply IsS54.set_2 | refine IsS54.far ?_ NB213_216.out _ | refine IsS54.far ?_ NB213_217.out _) | exact HI213.out)) hb); have n4_ := Aside0.mk (below_step (by repeat (first | (with_reducible first | exact HB.out | apply below_alloc | apply pw_below_drewN | apply below_drew1 | refine below_set ?_ (IsS54.ge HI209.out) | refine below_set ?_ (IsS54.ge HI213.out) | refine below_set ?_ GE216.out | refine below_set ?_ GE217.out) | exact HB.out)) hb); have n5_ := Aside0.mk (hbox); have n6_ := Aside0.mk ((by rw [hg]; exact (below_size (by repeat (first | (with_reducible first | exact HB.out | apply below_alloc | apply pw_below_drewN | apply below_drew1 | refine below_set ?_ (IsS54.ge HI209.out) | refine below_set ?_ (IsS54.ge HI213.out) | refine below_set ?_ GE216.out | refine below_set ?_ GE217.out) | exact HB.out))) : w.heap.size ≤ gb223)); have n7_ := Aside0.mk ((by rw [hg]; exact (below_size (by repeat (first | (with_reducible first | exact HB.out | apply below_alloc | apply pw_below_drewN | apply below_drew1 | refine below_set ?_ (IsS54.ge HI209.out) | refine below_set ?_ (IsS54.ge HI213.out) | refine below_set ?_ GE216.out | refine below_set ?_ GE217.out) | exact HB.out))) : w.heap.size ≤ gb223)); have n8_ := Aside0.mk ((by rw [hg]; exact Nat.ne_of_lt (blk_lt (g := gb216) (o := .cells #[.int .i64 ((rd_T33 l2 x9_1).f0), .int .u32 ((rd_T33 l2 x9_1).f1), .int .u32 ((rd_T33 l2 x9_1).f2), .bool ((rd_T33 l2 x9_1).f3)] 33 (0, 0)) (by (with_reducible repeat (first | refine blk_drewN ?_ _ | refine blk_drew ?_ | refine blk_alloc ?_ _)); exact BK216.out)) : gb216 ≠ gb223)); have n9_ := Aside0.mk ((by rw [hg]; exact Nat.ne_of_gt (blk_lt (g := gb216) (o := .cells #[.int .i64 ((rd_T33 l2 x9_1).f0), .int .u32 ((rd_T33 l2 x9_1).f1), .int .u32 ((rd_T33 l2 x9_1).f2), .bool ((rd_T33 l2 x9_1).f3)] 33 (0, 0)) (by (with_reducible repeat (first | refine blk_drewN ?_ _ | refine blk_drew ?_ | refine blk_alloc ?_ _)); exact BK216.out)) : gb223 ≠ gb216)); have n10_ := Aside0.mk ((by rw [hg]; exact Nat.ne_of_lt (blk_lt (g := gb217) (o := .cells #[.int .i64 ((rd_T33 l2 x9_1).f0), .int .u32 x218001_31, .int .u32 ((rd_T33 l2 x9_1).f2), .bool ((rd_T33 l2 x9_1).f3)] 33 (0, 0)) (by (with_reducible repeat (first | refine blk_drewN ?_ _ | refine blk_drew ?_ | refine blk_alloc ?_ _)); exact BK217.out)) : gb217 ≠ gb223)); have n11_ := Aside0.mk ((by rw [hg]; exact Nat.ne_of_gt (blk_lt (g := gb217) (o := .cells #[.int .i64 ((rd_T33 l2 x9_1).f0), .int .u32 x218001_31, .int .u32 ((rd_T33 l2 x9_1).f2), .bool ((rd_T33 l2 x9_1).f3)] 33 (0, 0)) (by (with_reducible repeat (first | refine blk_drewN ?_ _ | refine blk_drew ?_ | refine blk_alloc ?_ _)); exact BK217.out)) : gb223 ≠ gb217)); have n12_ := Aside0.mk ((by rw [hg]; exact Nat.ne_of_lt (IsS54.lt (show IsS54 w _ g209 t220 t221 t222 from by repeat (first | (with_reducible first | exact HI209.out | apply IsS54.alloc | apply IsS54.drewN | apply IsS54.drew | apply IsS54.set_0 | apply IsS54.set_1 | apply IsS54.set_2 | refine IsS54.far ?_ NB209_216.out _ | refine IsS54.far ?_ NB209_217.out _) | exact HI209.out))) : g209 ≠ gb223)); have n13_ := Aside0.mk ((by rw [hg]; exact Nat.ne_of_gt (IsS54.lt (show IsS54 w _ g209 t220 t221 t222 from by repeat (first | (with_reducible first | exact HI209.out | apply IsS54.alloc | apply IsS54.drewN | apply IsS54.drew | apply IsS54.set_0 | apply IsS54.set_1 | apply IsS54.set_2 | refine IsS54.far ?_ NB209_216.out _ | refine IsS54.far ?_ NB209_217.out _) | exact HI209.out))) : gb223 ≠ g209)); have n14_ := Aside0.mk ((by rw [hg]; exact Nat.ne_of_lt (IsS54.lt (show IsS54 w _ g213 x214000_1 x214001_1 x214002_1 from by repeat (first | (with_reducible first | exact HI213.out | apply IsS54.alloc | apply IsS54.drewN | apply IsS54.drew | apply IsS54.set_0 | apply IsS54.set_1 | apply IsS54.set_2 | refine IsS54.far ?_ NB213_216.out _ | refine IsS54.far ?_ NB213_217.out _) | exact HI213.out))) : g213 ≠ gb223)); have n15_ := Aside0.mk ((by rw [hg]; exact Nat.ne_of_gt (IsS54.lt (show IsS54 w _ g213 x214000_1 x214001_1 x214002_1 from by repeat (first | (with_reducible first | exact HI213.out | apply IsS54.alloc | apply IsS54.drewN | apply IsS54.drew | apply IsS54.set_0 | apply IsS54.set_1 | apply IsS54.set_2 | refine IsS54.far ?_ NB213_216.out _ | refine IsS54.far ?_ NB213_217.out _) | exact HI213.out))) : gb223 ≠ g213)); clear BK216; clear BK217; clear HI209; clear HI213; clear HB; have BK216 := n0_; have BK217 := n1_; have HI209 := n2_; have HI213 := n3_; have HB := n4_; have BK223 := n5_; have GW223 := n6_; have GE223 := n7_; have NB216_223 := n8_; have NB223_216 := n9_; have NB217_223 := n10_; have NB223_217 := n11_; have NB209_223 := n12_; have NB223_209 := n13_; have NB213_223 := n14_; have NB223_213 := n15_; clear n0_ n1_ n2_ n3_ n4_ n5_ n6_ n7_ n8_ n9_ n10_ n11_ n12_ n13_ n14_ n15_; clear hb hbox hg; have hnb50 := NB223_216.out; have hnc50 := NB216_223.out; have hnb51 := NB223_217.out; have hnc51 := NB217_223.out; have hnb52 := NB223_209.out; have hnc52 := NB209_223.out; have hnb53 := NB223_213.out; have hnc53 := NB213_223.out; have hcz54_0 : w49.cell? ⟨gb223, 0, none⟩ = some (.int .u32 0) := (blk_cell BK223.out 0).trans rfl; have hcz54_1 : w49.cell? ⟨gb223, 1, none⟩ = some (.bool false) := (blk_cell BK223.out 1).trans rfl; have hfz54_0 := blk_frozen BK223.out 0; have hfz54_1 := blk_frozen BK223.out 1; have hnb55 := NB217_209.out; have hnc55 := NB209_217.out; have hnb56 := NB217_213.out; have hnc56 := NB213_217.out; have hcz57_0 : w49.cell? ⟨gb217, 0, none⟩ = some (.int .i64 ((rd_T33 l2 x9_1).f0)) := (blk_cell BK217.out 0).trans rfl; have hcz57_1 : w49.cell? ⟨gb217, 1, none⟩ = some (.int .u32 x218001_31) := (blk_cell BK217.out 1).trans rfl; have hcz57_2 : w49.cell? ⟨gb217, 2, none⟩ = some (.int .u32 ((rd_T33 l2 x9_1).f2)) := (blk_cell BK217.out 2).trans rfl; have hcz57_3 : w49.cell? ⟨gb217, 3, none⟩ = some (.bool ((rd_T33 l2 x9_1).f3)) := (blk_cell BK217.out 3).trans rfl; have hfz57_0 := blk_frozen BK217.out 0; have hfz57_1 := blk_frozen BK217.out 1; have hfz57_2 := blk_frozen BK217.out 2; have hfz57_3 := blk_frozen BK217.out 3) | ((with_reducible refine gate_callee (f := 12) rfl ?_); refine goesL_ (some 59) rfl rfl Try.func12 (by kernel_rfl) rfl #[.pointer (some ⟨g213, 0, none⟩), .agg #[.int .i64 ((rd_T33 l2 x9_1).f0), .int .u32 x218001_31, .int .u32 ((rd_T33 l2 x9_1).f2), .bool ((rd_T33 l2 x9_1).f3)]] rfl (by (try simp only [List.map_toArray, List.map_cons, List.map_nil]); first | done | rfl | (simp only [List.length_drop, List.length_take]; rfl)) ?_; (with_reducible refine (lw16_does.calls g213 x214000_1 x214001_1 x214002_1 ((rd_T33 l2 x9_1).f0) x218001_31 ((rd_T33 l2 x9_1).f2) ((rd_T33 l2 x9_1).f3) t224 t225 t226 t227 t228 w _ ?side1 ?side2 A42.out).mono ?_); (case side1 => repeat (first | (with_reducible first | exact HI213.out | apply IsS54.alloc | apply IsS54.drewN | apply IsS54.drew | apply IsS54.set_0 | apply IsS54.set_1 | apply IsS54.set_2 | refine IsS54.far ?_ NB213_216.out _ | refine IsS54.far ?_ NB213_217.out _ | refine IsS54.far ?_ NB213_223.out _) | exact HI213.out)); (case side2 => repeat (first | (with_reducible first | exact HB.out | apply below_alloc | apply pw_below_drewN | apply below_drew1 | refine below_set ?_ (IsS54.ge HI209.out) | refine below_set ?_ (IsS54.ge HI213.out) | refine below_set ?_ GE216.out | refine below_set ?_ GE217.out | refine below_set ?_ GE223.out) | exact HB.out)); rintro e w58 ⟨rfl, hi, hb, hk⟩; refine ⟨_, rfl, ?_⟩; have n0_ := Aside0.mk (KeepBut.blk hk (g' := gb216) (o := .cells #[.int .i64 ((rd_T33 l2 x9_1).f0), .int .u32 ((rd_T33 l2 x9_1).f1), .int .u32 ((rd_T33 l2 x9_1).f2), .bool ((rd_T33 l2 x9_1).f3)] 33 (0, 0)) (by (with_reducible repeat (first | refine blk_drewN ?_ _ | refine blk_drew ?_ | refine blk_alloc ?_ _)); refine blk_far ?_ NB216_223.out _; (with_reducible repeat (first | refine blk_drewN ?_ _ | refine blk_drew ?_ | refine blk_alloc ?_ _)); refine blk_far ?_ NB216_223.out _; (with_reducible repeat (first | refine blk_drewN ?_ _ | refine blk_drew ?_ | refine blk_alloc ?_ _)); exact BK216.out) NB216_213.out (by simp)); have n1_ := Aside0.mk (KeepBut.blk hk (g' := gb217) (o := .cells #[.int .i64 ((rd_T33 l2 x9_1).f0), .int .u32 x218001_31, .int .u32 ((rd_T33 l2 x9_1).f2), .bool ((rd_T33 l2 x9_1).f3)] 33 (0, 0)) (by (with_reducible repeat (first | refine blk_drewN ?_ _ | refine blk_drew ?_ | refine blk_alloc ?_ _)); refine blk_far ?_ NB217_223.out _; (with_reducible repeat (first | refine blk_drewN ?_ _ | refine blk_drew ?_ | refine blk_alloc ?_ _)); refine blk_far ?_ NB217_223.out _; (with_reducible repeat (first | refine blk_drewN ?_ _ | refine blk_drew ?_ | refine blk_alloc ?_ _)); exact BK217.out) NB217_213.out (by simp)); have n2_ := Aside0.mk (IsS54.beside (show IsS54 w _ g209 t220 t221 t222 from by repeat (first | (with_reducible first | exact HI209.out | apply IsS54.alloc | apply IsS54.drewN | apply IsS54.drew | apply IsS54.set_0 | apply IsS54.set_1 | apply IsS54.set_2 | refine IsS54.far ?_ NB209_216.out _ | refine IsS54.far ?_ NB209_217.out _ | refine IsS54.far ?_ NB209_223.out _) | exact HI209.out)) hk NS209_213.out); have n3_ := Aside0.mk (KeepBut.blk hk (g' := gb223) (o := .cells #[.int .u32 t218, .bool t219] 30 (0, 0)) (by (with_reducible repeat (first | refine blk_drewN ?_ _ | refine blk_drew ?_ | refine blk_alloc ?_ _)); refine blk_put (cs := #[.int .u32 t218, .bool false]) ?_ 1 _ rfl; (with_reducible repeat (first | refine blk_drewN ?_ _ | refine blk_drew ?_ | refine blk_alloc ?_ _)); refine blk_put (cs := #[.int .u32 0, .bool false]) ?_ 0 _ rfl; (with_reducible repeat (first | refine blk_drewN ?_ _ | refine blk_drew ?_ | refine blk_alloc ?_ _)); exact BK223.out) NB223_213.out (by simp)); have n4_ := Aside0.mk (hb); have n5_ := Aside0.mk (hi); clear BK216; clear BK217; clear HI209; clear BK223; clear HB; clear HI213; have BK216 := n0_; have BK217 := n1_; have HI209 := n2_; have BK223 := n3_; have HB := n4_; have HI213 := n5_; clear n0_ n1_ n2_ n3_ n4_ n5_; (try clear hb); (try clear hb2); (try clear hk); (try clear hi); (try clear hgw)) | ((with_reducible refine gate_dst (N := 13) rfl ?_); refine box_event ?hg (N := 13) ?hd (cs := #[.int .u32 0, .bool false]) (t := 30) ?hr ?_; (case hd => rfl); (case hg => rfl); (case hr => first | (go_simp; done) | (go_simp; rfl)); intro gb229 hg w59 hbox hb; have n0_ := Aside0.mk (blk_below (g := gb216) (o := .cells #[.int .i64 ((rd_T33 l2 x9_1).f0), .int .u32 ((rd_T33 l2 x9_1).f1), .int .u32 ((rd_T33 l2 x9_1).f2), .bool ((rd_T33 l2 x9_1).f3)] 33 (0, 0)) (by (with_reducible repeat (first | refine blk_drewN ?_ _ | refine blk_drew ?_ | refine blk_alloc ?_ _)); exact BK216.out) hb); have n1_ := Aside0.mk (blk_below (g := gb217) (o := .cells #[.int .i64 ((rd_T33 l2 x9_1).f0), .int .u32 x218001_31, .int .u32 ((rd_T33 l2 x9_1).f2), .bool ((rd_T33 l2 x9_1).f3)] 33 (0, 0)) (by (with_reducible repeat (first | refine blk_drewN ?_ _ | refine blk_drew ?_ | refine blk_alloc ?_ _)); exact BK217.out) hb); have n2_ := Aside0.mk (IsS54.below (by repeat (first | (with_reducible first | exact HI209.out | apply IsS54.alloc | apply IsS54.drewN | apply IsS54.drew | apply IsS54.set_0 | apply IsS54.set_1 | apply IsS54.set_2 | refine IsS54.far ?_ NB209_216.out _ | refine IsS54.far ?_ NB209_217.out _ | refine IsS54.far ?_ NB209_223.out _) | exact HI209.out)) hb); have n3_ := Aside0.mk (IsS54.below (by repeat (first | (with_reducible first | exact HI213.out | apply IsS54.alloc | apply IsS54.drewN | apply IsS54.drew | apply IsS54.set_0 | apply IsS54.set_1 | apply IsS54.set_2 | refine IsS54.far ?_ NB213_216.out _ | refine IsS54.far ?_ NB213_217.out _ | refine IsS54.far ?_ NB213_223.out _) | exact HI213.out)) hb); have n4_ := Aside0.mk (blk_below (g := gb223) (o := .cells #[.int .u32 t218, .bool t219] 30 (0, 0)) (by (with_reducible repeat (first | refine blk_drewN ?_ _ | refine blk_drew ?_ | refine blk_alloc ?_ _)); exact BK223.out) hb); have n5_ := Aside0.mk (below_step (by repeat (first | (with_reducible first | exact HB.out | apply below_alloc | apply pw_below_drewN | apply below_drew1 | refine below_set ?_ (IsS54.ge HI209.out) | refine below_set ?_ (IsS54.ge HI213.out) | refine below_set ?_ GE216.out | refine below_set ?_ GE217.out | refine below_set ?_ GE223.out) | exact HB.out)) hb); have n6_ := Aside0.mk (hbox); have n7_ := Aside0.mk ((by rw [hg]; exact (below_size (by repeat (first | (with_reducible first | exact HB.out | apply below_alloc | apply pw_below_drewN | apply below_drew1 | refine below_set ?_ (IsS54.ge HI209.out) | refine below_set ?_ (IsS54.ge HI213.out) | refine below_set ?_ GE216.out | refine below_set ?_ GE217.out | refine below_set ?_ GE223.out) | exact HB.out))) : w.heap.size ≤ gb229)); have n8_ := Aside0.mk ((by rw [hg]; exact (below_size (by repeat (first | (with_reducible first | exact HB.out | apply below_alloc | apply pw_below_drewN | apply below_drew1 | refine below_set ?_ (IsS54.ge HI209.out) | refine below_set ?_ (IsS54.ge HI213.out) | refine below_set ?_ GE216.out | refine below_set ?_ GE217.out | refine below_set ?_ GE223.out) | exact HB.out))) : w.heap.size ≤ gb229)); have n9_ := Aside0.mk ((by rw [hg]; exact Nat.ne_of_lt (blk_lt (g := gb216) (o := .cells #[.int .i64 ((rd_T33 l2 x9_1).f0), .int .u32 ((rd_T33 l2 x9_1).f1), .int .u32 ((rd_T33 l2 x9_1).f2), .bool ((rd_T33 l2 x9_1).f3)] 33 (0, 0)) (by (with_reducible repeat (first | refine blk_drewN ?_ _ | refine blk_drew ?_ | refine blk_alloc ?_ _)); exact BK216.out)) : gb216 ≠ gb229)); have n10_ := Aside0.mk ((by rw [hg]; exact Nat.ne_of_gt (blk_lt (g := gb216) (o := .cells #[.int .i64 ((rd_T33 l2 x9_1).f0), .int .u32 ((rd_T33 l2 x9_1).f1), .int .u32 ((rd_T33 l2 x9_1).f2), .bool ((rd_T33 l2 x9_1).f3)] 33 (0, 0)) (by (with_reducible repeat (first | refine blk_drewN ?_ _ | refine blk_drew ?_ | refine blk_alloc ?_ _)); exact BK216.out)) : gb229 ≠ gb216)); have n11_ := Aside0.mk ((by rw [hg]; exact Nat.ne_of_lt (blk_lt (g := gb217) (o := .cells #[.int .i64 ((rd_T33 l2 x9_1).f0), .int .u32 x218001_31, .int .u32 ((rd_T33 l2 x9_1).f2), .bool ((rd_T33 l2 x9_1).f3)] 33 (0, 0)) (by (with_reducible repeat (first | refine blk_drewN ?_ _ | refine blk_drew ?_ | refine blk_alloc ?_ _)); exact BK217.out)) : gb217 ≠ gb229)); have n12_ := Aside0.mk ((by rw [hg]; exact Nat.ne_of_gt (blk_lt (g := gb217) (o := .cells #[.int .i64 ((rd_T33 l2 x9_1).f0), .int .u32 x218001_31, .int .u32 ((rd_T33 l2 x9_1).f2), .bool ((rd_T33 l2 x9_1).f3)] 33 (0, 0)) (by (with_reducible repeat (first | refine blk_drewN ?_ _ | refine blk_drew ?_ | refine blk_alloc ?_ _)); exact BK217.out)) : gb229 ≠ gb217)); have n13_ := Aside0.mk ((by rw [hg]; exact Nat.ne_of_lt (blk_lt (g := gb223) (o := .cells #[.int .u32 t218, .bool t219] 30 (0, 0)) (by (with_reducible repeat (first | refine blk_drewN ?_ _ | refine blk_drew ?_ | refine blk_alloc ?_ _)); exact BK223.out)) : gb223 ≠ gb229)); have n14_ := Aside0.mk ((by rw [hg]; exact Nat.ne_of_gt (blk_lt (g := gb223) (o := .cells #[.int .u32 t218, .bool t219] 30 (0, 0)) (by (with_reducible repeat (first | refine blk_drewN ?_ _ | refine blk_drew ?_ | refine blk_alloc ?_ _)); exact BK223.out)) : gb229 ≠ gb223)); have n15_ := Aside0.mk ((by rw [hg]; exact Nat.ne_of_lt (IsS54.lt (show IsS54 w _ g209 t220 t221 t222 from by repeat (first | (with_reducible first | exact HI209.out | apply IsS54.alloc | apply IsS54.drewN | apply IsS54.drew | apply IsS54.set_0 | apply IsS54.set_1 | apply IsS54.set_2 | refine IsS54.far ?_ NB209_216.out _ | refine IsS54.far ?_ NB209_217.out _ | refine IsS54.far ?_ NB209_223.out _) | exact HI209.out))) : g209 ≠ gb229)); have n16_ := Aside0.mk ((by rw [hg]; exact Nat.ne_of_gt (IsS54.lt (show IsS54 w _ g209 t220 t221 t222 from by repeat (first | (with_reducible first | exact HI209.out | apply IsS54.alloc | apply IsS54.drewN | apply IsS54.drew | apply IsS54.set_0 | apply IsS54.set_1 | apply IsS54.set_2 | refine IsS54.far ?_ NB209_216.out _ | refine IsS54.far ?_ NB209_217.out _ | refine IsS54.far ?_ NB209_223.out _) | exact HI209.out))) : gb229 ≠ g209)); have n17_ := Aside0.mk ((by rw [hg]; exact Nat.ne_of_lt (IsS54.lt (show IsS54 w _ g213 t226 t227 t228 from by repeat (first | (with_reducible first | exact HI213.out | apply IsS54.alloc | apply IsS54.drewN | apply IsS54.drew | apply IsS54.set_0 | apply IsS54.set_1 | apply IsS54.set_2 | refine IsS54.far ?_ NB213_216.out _ | refine IsS54.far ?_ NB213_217.out _ | refine IsS54.far ?_ NB213_223.out _) | exact HI213.out))) : g213 ≠ gb229)); have n18_ := Aside0.mk ((by rw [hg]; exact Nat.ne_of_gt (IsS54.lt (show IsS54 w _ g213 t226 t227 t228 from by repeat (first | (with_reducible first | exact HI213.out | apply IsS54.alloc | apply IsS54.drewN | apply IsS54.drew | apply IsS54.set_0 | apply IsS54.set_1 | apply IsS54.set_2 | refine IsS54.far ?_ NB213_216.out _ | refine IsS54.far ?_ NB213_217.out _ | refine IsS54.far ?_ NB213_223.out _) | exact HI213.out))) : gb229 ≠ g213)); clear BK216; clear BK217; clear HI209; clear HI213; clear BK223; clear HB; have BK216 := n0_; have BK217 := n1_; have HI209 := n2_; have HI213 := n3_; have BK223 := n4_; have HB := n5_; have BK229 := n6_; have GW229 := n7_; have GE229 := n8_; have NB216_229 := n9_; have NB229_216 := n10_; have NB217_229 := n11_; have NB229_217 := n12_; have NB223_229 := n13_; have NB229_223 := n14_; have NB209_229 := n15_; have NB229_209 := n16_; have NB213_229 := n17_; have NB229_213 := n18_; clear n0_ n1_ n2_ n3_ n4_ n5_ n6_ n7_ n8_ n9_ n10_ n11_ n12_ n13_ n14_ n15_ n16_ n17_ n18_; clear hb hbox hg; have hnb60 := NB229_216.out; have hnc60 := NB216_229.out; have hnb61 := NB229_217.out; have hnc61 := NB217_229.out; have hnb62 := NB229_223.out; have hnc62 := NB223_229.out; have hnb63 := NB229_209.out; have hnc63 := NB209_229.out; have hnb64 := NB229_213.out; have hnc64 := NB213_229.out; have hcz65_0 : w59.cell? ⟨gb229, 0, none⟩ = some (.int .u32 0) := (blk_cell BK229.out 0).trans rfl; have hcz65_1 : w59.cell? ⟨gb229, 1, none⟩ = some (.bool false) := (blk_cell BK229.out 1).trans rfl; have hfz65_0 := blk_frozen BK229.out 0; have hfz65_1 := blk_frozen BK229.out 1; have hcz66_0 : w59.cell? ⟨gb216, 0, none⟩ = some (.int .i64 ((rd_T33 l2 x9_1).f0)) := (blk_cell BK216.out 0).trans rfl; have hcz66_1 : w59.cell? ⟨gb216, 1, none⟩ = some (.int .u32 ((rd_T33 l2 x9_1).f1)) := (blk_cell BK216.out 1).trans rfl; have hcz66_2 : w59.cell? ⟨gb216, 2, none⟩ = some (.int .u32 ((rd_T33 l2 x9_1).f2)) := (blk_cell BK216.out 2).trans rfl; have hcz66_3 : w59.cell? ⟨gb216, 3, none⟩ = some (.bool ((rd_T33 l2 x9_1).f3)) := (blk_cell BK216.out 3).trans rfl; have hfz66_0 := blk_frozen BK216.out 0; have hfz66_1 := blk_frozen BK216.out 1; have hfz66_2 := blk_frozen BK216.out 2; have hfz66_3 := blk_frozen BK216.out 3))
                    (try simp only [Act.put, List.setIfInBounds_toArray, List.set_cons_zero, List.set_cons_succ])
                    go_cut [] (fun wc => ∃ (kq : Nat) (x230000_42 : Int), Aside0 (lw16_CreditRound.j3 kq a1 l2 x9_1 t220 t221 t222 t226 t227 t228 t218 t219 x230000_42 t225 = some r) ∧ Aside0 (kq ≤ kj31) ∧ Aside0 (wc.heap[gb216]? = some (.cells #[.int .i64 ((rd_T33 l2 x9_1).f0), .int .u32 ((rd_T33 l2 x9_1).f1), .int .u32 ((rd_T33 l2 x9_1).f2), .bool ((rd_T33 l2 x9_1).f3)] 33 (0, 0))) ∧ Aside0 (wc.heap[gb217]? = some (.cells #[.int .i64 ((rd_T33 l2 x9_1).f0), .int .u32 x218001_31, .int .u32 ((rd_T33 l2 x9_1).f2), .bool ((rd_T33 l2 x9_1).f3)] 33 (0, 0))) ∧ Aside0 (wc.heap[gb223]? = some (.cells #[.int .u32 t218, .bool t219] 30 (0, 0))) ∧ Aside0 (wc.heap[gb229]? = some (.cells #[.int .u32 x230000_42, .bool t225] 30 (0, 0))) ∧ Aside0 (IsS54 w wc g209 t220 t221 t222) ∧ Aside0 (IsS54 w wc g213 t226 t227 t228) ∧ Aside0 (Below w.heap.size w wc))
                    case first =>
                      have H := HC43.out
                      clear HC43
                      by_cases c67 : ((rd_T33 l2 x9_1).f0) = 2
                      · rw [if_pos c67] at H
                        have c67b0 : (((rd_T33 l2 x9_1).f0) == 2) = true := beq_iff_eq.mpr c67
                        have c67b1 : (((rd_T33 l2 x9_1).f0) != 2) = false := bne_eq_false_iff_eq.mpr c67
                        clear c67
                        (first | rw [c67b0] | (simp only [i64_w, i32_w]; rw [c67b0]) | skip)
                        have H' := Aside0.mk H
                        clear H
                        have hnb68 := NB229_216.out
                        have hnc68 := NB216_229.out
                        have hnb69 := NB229_217.out
                        have hnc69 := NB217_229.out
                        have hnb70 := NB229_223.out
                        have hnc70 := NB223_229.out
                        have hnb71 := NB229_209.out
                        have hnc71 := NB209_229.out
                        have hnb72 := NB229_213.out
                        have hnc72 := NB213_229.out
                        have hcz73_0 : w59.cell? ⟨gb229, 0, none⟩ = some (.int .u32 0) := (blk_cell BK229.out 0).trans rfl
                        have hcz73_1 : w59.cell? ⟨gb229, 1, none⟩ = some (.bool false) := (blk_cell BK229.out 1).trans rfl
                        have hfz73_0 := blk_frozen BK229.out 0
                        have hfz73_1 := blk_frozen BK229.out 1
                        go_wp2
                        go_meet
                        case rel => exact ⟨_, ((t224 - a1) % 4294967296), H', ⟨by have := HK1.out; have := HJ12.out; have := HJ31.out; first | omega | exact Nat.le_refl _⟩, ⟨by (with_reducible repeat (first | refine blk_drewN ?_ _ | refine blk_drew ?_ | refine blk_alloc ?_ _)); refine blk_far ?_ NB216_229.out _; (with_reducible repeat (first | refine blk_drewN ?_ _ | refine blk_drew ?_ | refine blk_alloc ?_ _)); refine blk_far ?_ NB216_229.out _; (with_reducible repeat (first | refine blk_drewN ?_ _ | refine blk_drew ?_ | refine blk_alloc ?_ _)); refine blk_far ?_ NB216_229.out _; (with_reducible repeat (first | refine blk_drewN ?_ _ | refine blk_drew ?_ | refine blk_alloc ?_ _)); exact BK216.out⟩, ⟨by (with_reducible repeat (first | refine blk_drewN ?_ _ | refine blk_drew ?_ | refine blk_alloc ?_ _)); refine blk_far ?_ NB217_229.out _; (with_reducible repeat (first | refine blk_drewN ?_ _ | refine blk_drew ?_ | refine blk_alloc ?_ _)); refine blk_far ?_ NB217_229.out _; (with_reducible repeat (first | refine blk_drewN ?_ _ | refine blk_drew ?_ | refine blk_alloc ?_ _)); refine blk_far ?_ NB217_229.out _; (with_reducible repeat (first | refine blk_drewN ?_ _ | refine blk_drew ?_ | refine blk_alloc ?_ _)); exact BK217.out⟩, ⟨by (with_reducible repeat (first | refine blk_drewN ?_ _ | refine blk_drew ?_ | refine blk_alloc ?_ _)); refine blk_far ?_ NB223_229.out _; (with_reducible repeat (first | refine blk_drewN ?_ _ | refine blk_drew ?_ | refine blk_alloc ?_ _)); refine blk_far ?_ NB223_229.out _; (with_reducible repeat (first | refine blk_drewN ?_ _ | refine blk_drew ?_ | refine blk_alloc ?_ _)); refine blk_far ?_ NB223_229.out _; (with_reducible repeat (first | refine blk_drewN ?_ _ | refine blk_drew ?_ | refine blk_alloc ?_ _)); exact BK223.out⟩, ⟨by (with_reducible repeat (first | refine blk_drewN ?_ _ | refine blk_drew ?_ | refine blk_alloc ?_ _)); refine blk_put (cs := #[.int .u32 t224, .bool t225]) ?_ 0 _ rfl; (with_reducible repeat (first | refine blk_drewN ?_ _ | refine blk_drew ?_ | refine blk_alloc ?_ _)); refine blk_put (cs := #[.int .u32 t224, .bool false]) ?_ 1 _ rfl; (with_reducible repeat (first | refine blk_drewN ?_ _ | refine blk_drew ?_ | refine blk_alloc ?_ _)); refine blk_put (cs := #[.int .u32 0, .bool false]) ?_ 0 _ rfl; (with_reducible repeat (first | refine blk_drewN ?_ _ | refine blk_drew ?_ | refine blk_alloc ?_ _)); exact BK229.out⟩, ⟨by repeat (first | (with_reducible first | exact HI209.out | apply IsS54.alloc | apply IsS54.drewN | apply IsS54.drew | apply IsS54.set_0 | apply IsS54.set_1 | apply IsS54.set_2 | refine IsS54.far ?_ NB209_216.out _ | refine IsS54.far ?_ NB209_217.out _ | refine IsS54.far ?_ NB209_223.out _ | refine IsS54.far ?_ NB209_229.out _) | exact HI209.out)⟩, ⟨by repeat (first | (with_reducible first | exact HI213.out | apply IsS54.alloc | apply IsS54.drewN | apply IsS54.drew | apply IsS54.set_0 | apply IsS54.set_1 | apply IsS54.set_2 | refine IsS54.far ?_ NB213_216.out _ | refine IsS54.far ?_ NB213_217.out _ | refine IsS54.far ?_ NB213_223.out _ | refine IsS54.far ?_ NB213_229.out _) | exact HI213.out)⟩, ⟨by repeat (first | (with_reducible first | exact HB.out | apply below_alloc | apply pw_below_drewN | apply below_drew1 | refine below_set ?_ (IsS54.ge HI209.out) | refine below_set ?_ (IsS54.ge HI213.out) | refine below_set ?_ GE216.out | refine below_set ?_ GE217.out | refine below_set ?_ GE223.out | refine below_set ?_ GE229.out) | exact HB.out)⟩⟩
                      · rw [if_neg c67] at H
                        have c67b0 : (((rd_T33 l2 x9_1).f0) == 2) = false := beq_eq_false_iff_ne.mpr c67
                        have c67b1 : (((rd_T33 l2 x9_1).f0) != 2) = true := bne_iff_ne.mpr c67
                        (first | rw [c67b0] | (simp only [i64_w, i32_w]; rw [c67b0]) | skip)
                        have H' := Aside0.mk H
                        clear H
                        go_wp2
                        go_meet
                        case rel => exact ⟨_, (t224), H', ⟨by have := HK1.out; have := HJ12.out; have := HJ31.out; first | omega | exact Nat.le_refl _⟩, ⟨by (with_reducible repeat (first | refine blk_drewN ?_ _ | refine blk_drew ?_ | refine blk_alloc ?_ _)); refine blk_far ?_ NB216_229.out _; (with_reducible repeat (first | refine blk_drewN ?_ _ | refine blk_drew ?_ | refine blk_alloc ?_ _)); refine blk_far ?_ NB216_229.out _; (with_reducible repeat (first | refine blk_drewN ?_ _ | refine blk_drew ?_ | refine blk_alloc ?_ _)); exact BK216.out⟩, ⟨by (with_reducible repeat (first | refine blk_drewN ?_ _ | refine blk_drew ?_ | refine blk_alloc ?_ _)); refine blk_far ?_ NB217_229.out _; (with_reducible repeat (first | refine blk_drewN ?_ _ | refine blk_drew ?_ | refine blk_alloc ?_ _)); refine blk_far ?_ NB217_229.out _; (with_reducible repeat (first | refine blk_drewN ?_ _ | refine blk_drew ?_ | refine blk_alloc ?_ _)); exact BK217.out⟩, ⟨by (with_reducible repeat (first | refine blk_drewN ?_ _ | refine blk_drew ?_ | refine blk_alloc ?_ _)); refine blk_far ?_ NB223_229.out _; (with_reducible repeat (first | refine blk_drewN ?_ _ | refine blk_drew ?_ | refine blk_alloc ?_ _)); refine blk_far ?_ NB223_229.out _; (with_reducible repeat (first | refine blk_drewN ?_ _ | refine blk_drew ?_ | refine blk_alloc ?_ _)); exact BK223.out⟩, ⟨by (with_reducible repeat (first | refine blk_drewN ?_ _ | refine blk_drew ?_ | refine blk_alloc ?_ _)); refine blk_put (cs := #[.int .u32 t224, .bool false]) ?_ 1 _ rfl; (with_reducible repeat (first | refine blk_drewN ?_ _ | refine blk_drew ?_ | refine blk_alloc ?_ _)); refine blk_put (cs := #[.int .u32 0, .bool false]) ?_ 0 _ rfl; (with_reducible repeat (first | refine blk_drewN ?_ _ | refine blk_drew ?_ | refine blk_alloc ?_ _)); exact BK229.out⟩, ⟨by repeat (first | (with_reducible first | exact HI209.out | apply IsS54.alloc | apply IsS54.drewN | apply IsS54.drew | apply IsS54.set_0 | apply IsS54.set_1 | apply IsS54.set_2 | refine IsS54.far ?_ NB209_216.out _ | refine IsS54.far ?_ NB209_217.out _ | refine IsS54.far ?_ NB209_223.out _ | refine IsS54.far ?_ NB209_229.out _) | exact HI209.out)⟩, ⟨by repeat (first | (with_reducible first | exact HI213.out | apply IsS54.alloc | apply IsS54.drewN | apply IsS54.drew | apply IsS54.set_0 | apply IsS54.set_1 | apply IsS54.set_2 | refine IsS54.far ?_ NB213_216.out _ | refine IsS54.far ?_ NB213_217.out _ | refine IsS54.far ?_ NB213_223.out _ | refine IsS54.far ?_ NB213_229.out _) | exact HI213.out)⟩, ⟨by repeat (first | (with_reducible first | exact HB.out | apply below_alloc | apply pw_below_drewN | apply below_drew1 | refine below_set ?_ (IsS54.ge HI209.out) | refine below_set ?_ (IsS54.ge HI213.out) | refine below_set ?_ GE216.out | refine below_set ?_ GE217.out | refine below_set ?_ GE223.out | refine below_set ?_ GE229.out) | exact HB.out)⟩⟩
                    case rest =>
                      clear HC43
                      try clear c1
                      try clear c2
                      try clear p2
                      try clear q2
                      try clear hx2
                      try clear c3
                      try clear c4
                      try clear c4b0
                      try clear c4b1
                      try clear c5
                      try clear c6
                      try clear c7
                      try clear c9
                      try clear c10
                      try clear c11
                      try clear c11b0
                      try clear c12
                      try clear c12b0
                      try clear c15
                      try clear c16
                      try clear c19
                      try clear c20
                      try clear c21
                      try clear p21
                      try clear q21
                      try clear hx21
                      try clear c23
                      try clear c23b0
                      try clear c23b1
                      try clear c24
                      try clear c25
                      try clear c26
                      try clear c28
                      try clear c29
                      try clear c30
                      try clear c33
                      try clear c34
                      try clear c35
                      try clear c36
                      try clear c38
                      try clear c39
                      try clear c44
                      try clear c45
                      try clear c46
                      try clear c50
                      try clear c51
                      try clear c52
                      try clear c53
                      try clear c55
                      try clear c56
                      try clear c60
                      try clear c61
                      try clear c62
                      try clear c63
                      try clear c64
                      try clear c67
                      try clear c67b0
                      try clear c67b1
                      try clear c68
                      try clear c69
                      try clear c70
                      try clear c71
                      try clear c72
                      try clear hcz17_0
                      try clear hcz17_1
                      try clear hcz17_2
                      try clear hcz17_3
                      try clear hcz22_0
                      try clear hcz22_1
                      try clear hcz22_2
                      try clear hcz22_3
                      try clear hcz27_0
                      try clear hcz27_1
                      try clear hcz27_2
                      try clear hcz27_3
                      try clear hcz31_0
                      try clear hcz31_1
                      try clear hcz31_2
                      try clear hcz31_3
                      try clear hcz37_0
                      try clear hcz37_1
                      try clear hcz37_2
                      try clear hcz37_3
                      try clear hcz40_0
                      try clear hcz40_1
                      try clear hcz40_2
                      try clear hcz40_3
                      try clear hcz47_0
                      try clear hcz47_1
                      try clear hcz47_2
                      try clear hcz47_3
                      try clear hcz54_0
                      try clear hcz54_1
                      try clear hcz57_0
                      try clear hcz57_1
                      try clear hcz57_2
                      try clear hcz57_3
                      try clear hcz65_0
                      try clear hcz65_1
                      try clear hcz66_0
                      try clear hcz66_1
                      try clear hcz66_2
                      try clear hcz66_3
                      try clear hcz73_0
                      try clear hcz73_1
                      try clear hfz17_0
                      try clear hfz17_1
                      try clear hfz17_2
                      try clear hfz17_3
                      try clear hfz22_0
                      try clear hfz22_1
                      try clear hfz22_2
                      try clear hfz22_3
                      try clear hfz27_0
                      try clear hfz27_1
                      try clear hfz27_2
                      try clear hfz27_3
                      try clear hfz31_0
                      try clear hfz31_1
                      try clear hfz31_2
                      try clear hfz31_3
                      try clear hfz37_0
                      try clear hfz37_1
                      try clear hfz37_2
                      try clear hfz37_3
                      try clear hfz40_0
                      try clear hfz40_1
                      try clear hfz40_2
                      try clear hfz40_3
                      try clear hfz47_0
                      try clear hfz47_1
                      try clear hfz47_2
                      try clear hfz47_3
                      try clear hfz54_0
                      try clear hfz54_1
                      try clear hfz57_0
                      try clear hfz57_1
                      try clear hfz57_2
                      try clear hfz57_3
                      try clear hfz65_0
                      try clear hfz65_1
                      try clear hfz66_0
                      try clear hfz66_1
                      try clear hfz66_2
                      try clear hfz66_3
                      try clear hfz73_0
                      try clear hfz73_1
                      try clear hx215_0
                      try clear hx215_1
                      try clear hx215_2
                      try clear hx215_3
                      try clear p2
                      try clear p21
                      try clear p215
                      try clear q2
                      try clear q21
                      try clear q215
                      obtain ⟨kq, x230000_42, HA, HJ42, BK216, BK217, BK223, BK229, HI209, HI213, HB⟩ := hcut
                      cases kq with
                      | zero => exact absurd HA.out (by simp [lw16_CreditRound.j3])
                      | succ kj42 =>
                        have H := HA.out
                        clear HA
                        simp only [lw16_CreditRound.j3] at H
                        replace H := Option.bind_eq_some_iff.mp H
                        obtain ⟨⟨t230, t231, t232, t233, t234, t235⟩, A740, H⟩ := H
                        replace H : ((cr_Left.f t226 t227 t228).bind fun bt236 => (if (!(t218 == x230000_42) || (!(t219 == t225))) = true then (some false) else (if t230 = ((bt236.1 - a1) % 4294967296) then (if t231 = bt236.2.1 then (if (t232 != bt236.2.2.1) = true then (some false) else (lw16_CreditRound.l0 kj42 a1 l2 (wrap64 (x9_1 + 1)) t233 t234 t235 bt236.2.2.2.1 bt236.2.2.2.2.1 bt236.2.2.2.2.2)) else (some false)) else (some false)))) = some r := H
                        have A74 := Aside0.mk A740
                        clear A740
                        replace H := Option.bind_eq_some_iff.mp H
                        obtain ⟨⟨t236, t237, t238, t239, t240, t241⟩, A750, H⟩ := H
                        replace H : (if (!(t218 == x230000_42) || (!(t219 == t225))) = true then (some false) else (if t230 = ((t236 - a1) % 4294967296) then (if t231 = t237 then (if (t232 != t238) = true then (some false) else (lw16_CreditRound.l0 kj42 a1 l2 (wrap64 (x9_1 + 1)) t233 t234 t235 t239 t240 t241)) else (some false)) else (some false))) = some r := H
                        have A75 := Aside0.mk A750
                        clear A750
                        by_cases c76 : (!(t218 == x230000_42) || (!(t219 == t225))) = true
                        · rw [if_pos c76] at H
                          have c76b0 : (!(t218 == x230000_42) || (!(t219 == t225))) = true := c76
                          clear c76
                          obtain rfl := Option.some.inj H
                          go_wp2_with (first | ((with_reducible refine gate_callee (f := 14) rfl ?_); refine goesL_ (some 70) rfl rfl Try.func14 (by kernel_rfl) rfl #[.pointer (some ⟨g209, 0, none⟩)] rfl (by (try simp only [List.map_toArray, List.map_cons, List.map_nil]); first | done | rfl | (simp only [List.length_drop, List.length_take]; rfl)) ?_; (with_reducible refine (cr_Left.calls g209 t220 t221 t222 t230 t231 t232 t233 t234 t235 w _ ?side1 ?side2 A74.out).mono ?_); (case side1 => repeat (first | (with_reducible first | exact HI209.out | apply IsS54.alloc | apply IsS54.drewN | apply IsS54.drew | apply IsS54.set_0 | apply IsS54.set_1 | apply IsS54.set_2 | refine IsS54.far ?_ NB209_216.out _ | refine IsS54.far ?_ NB209_217.out _ | refine IsS54.far ?_ NB209_223.out _ | refine IsS54.far ?_ NB209_229.out _) | exact HI209.out)); (case side2 => repeat (first | (with_reducible first | exact HB.out | apply below_alloc | apply pw_below_drewN | apply below_drew1 | refine below_set ?_ (IsS54.ge HI209.out) | refine below_set ?_ (IsS54.ge HI213.out) | refine below_set ?_ GE216.out | refine below_set ?_ GE217.out | refine below_set ?_ GE223.out | refine below_set ?_ GE229.out) | exact HB.out)); rintro e w77 ⟨rfl, hi, hb, hk⟩; refine ⟨_, rfl, ?_⟩; have n0_ := Aside0.mk (KeepBut.blk hk (g' := gb216) (o := .cells #[.int .i64 ((rd_T33 l2 x9_1).f0), .int .u32 ((rd_T33 l2 x9_1).f1), .int .u32 ((rd_T33 l2 x9_1).f2), .bool ((rd_T33 l2 x9_1).f3)] 33 (0, 0)) (by (with_reducible repeat (first | refine blk_drewN ?_ _ | refine blk_drew ?_ | refine blk_alloc ?_ _)); exact BK216.out) NB216_209.out (by simp)); have n1_ := Aside0.mk (KeepBut.blk hk (g' := gb217) (o := .cells #[.int .i64 ((rd_T33 l2 x9_1).f0), .int .u32 x218001_31, .int .u32 ((rd_T33 l2 x9_1).f2), .bool ((rd_T33 l2 x9_1).f3)] 33 (0, 0)) (by (with_reducible repeat (first | refine blk_drewN ?_ _ | refine blk_drew ?_ | refine blk_alloc ?_ _)); exact BK217.out) NB217_209.out (by simp)); have n2_ := Aside0.mk (KeepBut.blk hk (g' := gb223) (o := .cells #[.int .u32 t218, .bool t219] 30 (0, 0)) (by (with_reducible repeat (first | refine blk_drewN ?_ _ | refine blk_drew ?_ | refine blk_alloc ?_ _)); exact BK223.out) NB223_209.out (by simp)); have n3_ := Aside0.mk (KeepBut.blk hk (g' := gb229) (o := .cells #[.int .u32 x230000_42, .bool t225] 30 (0, 0)) (by (with_reducible repeat (first | refine blk_drewN ?_ _ | refine blk_drew ?_ | refine blk_alloc ?_ _)); exact BK229.out) NB229_209.out (by simp)); have n4_ := Aside0.mk (IsS54.beside (show IsS54 w _ g213 t226 t227 t228 from by repeat (first | (with_reducible first | exact HI213.out | apply IsS54.alloc | apply IsS54.drewN | apply IsS54.drew | apply IsS54.set_0 | apply IsS54.set_1 | apply IsS54.set_2 | refine IsS54.far ?_ NB213_216.out _ | refine IsS54.far ?_ NB213_217.out _ | refine IsS54.far ?_ NB213_223.out _ | refine IsS54.far ?_ NB213_229.out _) | exact HI213.out)) hk NS213_209.out); have n5_ := Aside0.mk (hb); have n6_ := Aside0.mk (hi); clear BK216; clear BK217; clear BK223; clear BK229; clear HI213; clear HB; clear HI209; have BK216 := n0_; have BK217 := n1_; have BK223 := n2_; have BK229 := n3_; have HI213 := n4_; have HB := n5_; have HI209 := n6_; clear n0_ n1_ n2_ n3_ n4_ n5_ n6_; (try clear hb); (try clear hb2); (try clear hk); (try clear hi); (try clear hgw)) | ((with_reducible refine gate_callee (f := 14) rfl ?_); refine goesL_ (some 76) rfl rfl Try.func14 (by kernel_rfl) rfl #[.pointer (some ⟨g213, 0, none⟩)] rfl (by (try simp only [List.map_toArray, List.map_cons, List.map_nil]); first | done | rfl | (simp only [List.length_drop, List.length_take]; rfl)) ?_; (with_reducible refine (cr_Left.calls g213 t226 t227 t228 t236 t237 t238 t239 t240 t241 w _ ?side1 ?side2 A75.out).mono ?_); (case side1 => repeat (first | (with_reducible first | exact HI213.out | apply IsS54.alloc | apply IsS54.drewN | apply IsS54.drew | apply IsS54.set_0 | apply IsS54.set_1 | apply IsS54.set_2 | refine IsS54.far ?_ NB213_216.out _ | refine IsS54.far ?_ NB213_217.out _ | refine IsS54.far ?_ NB213_223.out _ | refine IsS54.far ?_ NB213_229.out _) | exact HI213.out)); (case side2 => repeat (first | (with_reducible first | exact HB.out | apply below_alloc | apply pw_below_drewN | apply below_drew1 | refine below_set ?_ (IsS54.ge HI209.out) | refine below_set ?_ (IsS54.ge HI213.out) | refine below_set ?_ GE216.out | refine below_set ?_ GE217.out | refine below_set ?_ GE223.out | refine below_set ?_ GE229.out) | exact HB.out)); rintro e w78 ⟨rfl, hi, hb, hk⟩; refine ⟨_, rfl, ?_⟩; have n0_ := Aside0.mk (KeepBut.blk hk (g' := gb216) (o := .cells #[.int .i64 ((rd_T33 l2 x9_1).f0), .int .u32 ((rd_T33 l2 x9_1).f1), .int .u32 ((rd_T33 l2 x9_1).f2), .bool ((rd_T33 l2 x9_1).f3)] 33 (0, 0)) (by (with_reducible repeat (first | refine blk_drewN ?_ _ | refine blk_drew ?_ | refine blk_alloc ?_ _)); exact BK216.out) NB216_213.out (by simp)); have n1_ := Aside0.mk (KeepBut.blk hk (g' := gb217) (o := .cells #[.int .i64 ((rd_T33 l2 x9_1).f0), .int .u32 x218001_31, .int .u32 ((rd_T33 l2 x9_1).f2), .bool ((rd_T33 l2 x9_1).f3)] 33 (0, 0)) (by (with_reducible repeat (first | refine blk_drewN ?_ _ | refine blk_drew ?_ | refine blk_alloc ?_ _)); exact BK217.out) NB217_213.out (by simp)); have n2_ := Aside0.mk (KeepBut.blk hk (g' := gb223) (o := .cells #[.int .u32 t218, .bool t219] 30 (0, 0)) (by (with_reducible repeat (first | refine blk_drewN ?_ _ | refine blk_drew ?_ | refine blk_alloc ?_ _)); exact BK223.out) NB223_213.out (by simp)); have n3_ := Aside0.mk (KeepBut.blk hk (g' := gb229) (o := .cells #[.int .u32 x230000_42, .bool t225] 30 (0, 0)) (by (with_reducible repeat (first | refine blk_drewN ?_ _ | refine blk_drew ?_ | refine blk_alloc ?_ _)); exact BK229.out) NB229_213.out (by simp)); have n4_ := Aside0.mk (IsS54.beside (show IsS54 w _ g209 t233 t234 t235 from by repeat (first | (with_reducible first | exact HI209.out | apply IsS54.alloc | apply IsS54.drewN | apply IsS54.drew | apply IsS54.set_0 | apply IsS54.set_1 | apply IsS54.set_2 | refine IsS54.far ?_ NB209_216.out _ | refine IsS54.far ?_ NB209_217.out _ | refine IsS54.far ?_ NB209_223.out _ | refine IsS54.far ?_ NB209_229.out _) | exact HI209.out)) hk NS209_213.out); have n5_ := Aside0.mk (hb); have n6_ := Aside0.mk (hi); clear BK216; clear BK217; clear BK223; clear BK229; clear HI209; clear HB; clear HI213; have BK216 := n0_; have BK217 := n1_; have BK223 := n2_; have BK229 := n3_; have HI209 := n4_; have HB := n5_; have HI213 := n6_; clear n0_ n1_ n2_ n3_ n4_ n5_ n6_; (try clear hb); (try clear hb2); (try clear hk); (try clear hi); (try clear hgw); have hnb79 := NB223_216.out; have hnc79 := NB216_223.out; have hnb80 := NB223_217.out; have hnc80 := NB217_223.out; have hnb81 := NB223_229.out; have hnc81 := NB229_223.out; have hnb82 := NB223_209.out; have hnc82 := NB209_223.out; have hnb83 := NB223_213.out; have hnc83 := NB213_223.out; have hcz84_0 : w78.cell? ⟨gb223, 0, none⟩ = some (.int .u32 t218) := (blk_cell BK223.out 0).trans rfl; have hcz84_1 : w78.cell? ⟨gb223, 1, none⟩ = some (.bool t219) := (blk_cell BK223.out 1).trans rfl; have hfz84_0 := blk_frozen BK223.out 0; have hfz84_1 := blk_frozen BK223.out 1; have hnb85 := NB229_216.out; have hnc85 := NB216_229.out; have hnb86 := NB229_217.out; have hnc86 := NB217_229.out; have hnb87 := NB229_209.out; have hnc87 := NB209_229.out; have hnb88 := NB229_213.out; have hnc88 := NB213_229.out; have hcz89_0 : w78.cell? ⟨gb229, 0, none⟩ = some (.int .u32 x230000_42) := (blk_cell BK229.out 0).trans rfl; have hcz89_1 : w78.cell? ⟨gb229, 1, none⟩ = some (.bool t225) := (blk_cell BK229.out 1).trans rfl; have hfz89_0 := blk_frozen BK229.out 0; have hfz89_1 := blk_frozen BK229.out 1))
                          go_ret
                          exact ⟨by first | rfl | (simp [errW_none, errW_some] <;> rfl) | (simp [*, errW_none, errW_some] <;> rfl), by repeat (first | (with_reducible first | exact HB.out | apply below_alloc | apply pw_below_drewN | apply below_drew1 | refine below_set ?_ (IsS54.ge HI209.out) | refine below_set ?_ (IsS54.ge HI213.out) | refine below_set ?_ GE216.out | refine below_set ?_ GE217.out | refine below_set ?_ GE223.out | refine below_set ?_ GE229.out) | exact HB.out)⟩
                        · rw [if_neg c76] at H
                          have c76b0 : (!(t218 == x230000_42) || (!(t219 == t225))) = false := by simpa using c76
                          clear c76
                          by_cases c90 : t230 = ((t236 - a1) % 4294967296)
                          · rw [if_pos c90] at H
                            have c90b0 : (t230 == ((t236 - a1) % 4294967296)) = true := beq_iff_eq.mpr c90
                            have c90b1 : (t230 != ((t236 - a1) % 4294967296)) = false := bne_eq_false_iff_eq.mpr c90
                            clear c90
                            by_cases c91 : t231 = t237
                            · rw [if_pos c91] at H
                              have c91b0 : (t231 == t237) = true := beq_iff_eq.mpr c91
                              have c91b1 : (t231 != t237) = false := bne_eq_false_iff_eq.mpr c91
                              clear c91
                              by_cases c92 : (t232 != t238) = true
                              · rw [if_pos c92] at H
                                have c92b0 : (t232 != t238) = true := c92
                                (try (have c92b1 : decide (t232 = t238) = false := by simpa using c92))
                                (try (have c92b2 : (t232 == t238) = false := by simpa using c92))
                                (try (have c92b3 : ¬ (t232 = t238) := by simpa using c92))
                                clear c92
                                obtain rfl := Option.some.inj H
                                go_wp2_with (first | ((with_reducible refine gate_callee (f := 14) rfl ?_); refine goesL_ (some 70) rfl rfl Try.func14 (by kernel_rfl) rfl #[.pointer (some ⟨g209, 0, none⟩)] rfl (by (try simp only [List.map_toArray, List.map_cons, List.map_nil]); first | done | rfl | (simp only [List.length_drop, List.length_take]; rfl)) ?_; (with_reducible refine (cr_Left.calls g209 t220 t221 t222 t230 t231 t232 t233 t234 t235 w _ ?side1 ?side2 A74.out).mono ?_); (case side1 => repeat (first | (with_reducible first | exact HI209.out | apply IsS54.alloc | apply IsS54.drewN | apply IsS54.drew | apply IsS54.set_0 | apply IsS54.set_1 | apply IsS54.set_2 | refine IsS54.far ?_ NB209_216.out _ | refine IsS54.far ?_ NB209_217.out _ | refine IsS54.far ?_ NB209_223.out _ | refine IsS54.far ?_ NB209_229.out _) | exact HI209.out)); (case side2 => repeat (first | (with_reducible first | exact HB.out | apply below_alloc | apply pw_below_drewN | apply below_drew1 | refine below_set ?_ (IsS54.ge HI209.out) | refine below_set ?_ (IsS54.ge HI213.out) | refine below_set ?_ GE216.out | refine below_set ?_ GE217.out | refine below_set ?_ GE223.out | refine below_set ?_ GE229.out) | exact HB.out)); rintro e w93 ⟨rfl, hi, hb, hk⟩; refine ⟨_, rfl, ?_⟩; have n0_ := Aside0.mk (KeepBut.blk hk (g' := gb216) (o := .cells #[.int .i64 ((rd_T33 l2 x9_1).f0), .int .u32 ((rd_T33 l2 x9_1).f1), .int .u32 ((rd_T33 l2 x9_1).f2), .bool ((rd_T33 l2 x9_1).f3)] 33 (0, 0)) (by (with_reducible repeat (first | refine blk_drewN ?_ _ | refine blk_drew ?_ | refine blk_alloc ?_ _)); exact BK216.out) NB216_209.out (by simp)); have n1_ := Aside0.mk (KeepBut.blk hk (g' := gb217) (o := .cells #[.int .i64 ((rd_T33 l2 x9_1).f0), .int .u32 x218001_31, .int .u32 ((rd_T33 l2 x9_1).f2), .bool ((rd_T33 l2 x9_1).f3)] 33 (0, 0)) (by (with_reducible repeat (first | refine blk_drewN ?_ _ | refine blk_drew ?_ | refine blk_alloc ?_ _)); exact BK217.out) NB217_209.out (by simp)); have n2_ := Aside0.mk (KeepBut.blk hk (g' := gb223) (o := .cells #[.int .u32 t218, .bool t219] 30 (0, 0)) (by (with_reducible repeat (first | refine blk_drewN ?_ _ | refine blk_drew ?_ | refine blk_alloc ?_ _)); exact BK223.out) NB223_209.out (by simp)); have n3_ := Aside0.mk (KeepBut.blk hk (g' := gb229) (o := .cells #[.int .u32 x230000_42, .bool t225] 30 (0, 0)) (by (with_reducible repeat (first | refine blk_drewN ?_ _ | refine blk_drew ?_ | refine blk_alloc ?_ _)); exact BK229.out) NB229_209.out (by simp)); have n4_ := Aside0.mk (IsS54.beside (show IsS54 w _ g213 t226 t227 t228 from by repeat (first | (with_reducible first | exact HI213.out | apply IsS54.alloc | apply IsS54.drewN | apply IsS54.drew | apply IsS54.set_0 | apply IsS54.set_1 | apply IsS54.set_2 | refine IsS54.far ?_ NB213_216.out _ | refine IsS54.far ?_ NB213_217.out _ | refine IsS54.far ?_ NB213_223.out _ | refine IsS54.far ?_ NB213_229.out _) | exact HI213.out)) hk NS213_209.out); have n5_ := Aside0.mk (hb); have n6_ := Aside0.mk (hi); clear BK216; clear BK217; clear BK223; clear BK229; clear HI213; clear HB; clear HI209; have BK216 := n0_; have BK217 := n1_; have BK223 := n2_; have BK229 := n3_; have HI213 := n4_; have HB := n5_; have HI209 := n6_; clear n0_ n1_ n2_ n3_ n4_ n5_ n6_; (try clear hb); (try clear hb2); (try clear hk); (try clear hi); (try clear hgw)) | ((with_reducible refine gate_callee (f := 14) rfl ?_); refine goesL_ (some 76) rfl rfl Try.func14 (by kernel_rfl) rfl #[.pointer (some ⟨g213, 0, none⟩)] rfl (by (try simp only [List.map_toArray, List.map_cons, List.map_nil]); first | done | rfl | (simp only [List.length_drop, List.length_take]; rfl)) ?_; (with_reducible refine (cr_Left.calls g213 t226 t227 t228 t236 t237 t238 t239 t240 t241 w _ ?side1 ?side2 A75.out).mono ?_); (case side1 => repeat (first | (with_reducible first | exact HI213.out | apply IsS54.alloc | apply IsS54.drewN | apply IsS54.drew | apply IsS54.set_0 | apply IsS54.set_1 | apply IsS54.set_2 | refine IsS54.far ?_ NB213_216.out _ | refine IsS54.far ?_ NB213_217.out _ | refine IsS54.far ?_ NB213_223.out _ | refine IsS54.far ?_ NB213_229.out _) | exact HI213.out)); (case side2 => repeat (first | (with_reducible first | exact HB.out | apply below_alloc | apply pw_below_drewN | apply below_drew1 | refine below_set ?_ (IsS54.ge HI209.out) | refine below_set ?_ (IsS54.ge HI213.out) | refine below_set ?_ GE216.out | refine below_set ?_ GE217.out | refine below_set ?_ GE223.out | refine below_set ?_ GE229.out) | exact HB.out)); rintro e w94 ⟨rfl, hi, hb, hk⟩; refine ⟨_, rfl, ?_⟩; have n0_ := Aside0.mk (KeepBut.blk hk (g' := gb216) (o := .cells #[.int .i64 ((rd_T33 l2 x9_1).f0), .int .u32 ((rd_T33 l2 x9_1).f1), .int .u32 ((rd_T33 l2 x9_1).f2), .bool ((rd_T33 l2 x9_1).f3)] 33 (0, 0)) (by (with_reducible repeat (first | refine blk_drewN ?_ _ | refine blk_drew ?_ | refine blk_alloc ?_ _)); exact BK216.out) NB216_213.out (by simp)); have n1_ := Aside0.mk (KeepBut.blk hk (g' := gb217) (o := .cells #[.int .i64 ((rd_T33 l2 x9_1).f0), .int .u32 x218001_31, .int .u32 ((rd_T33 l2 x9_1).f2), .bool ((rd_T33 l2 x9_1).f3)] 33 (0, 0)) (by (with_reducible repeat (first | refine blk_drewN ?_ _ | refine blk_drew ?_ | refine blk_alloc ?_ _)); exact BK217.out) NB217_213.out (by simp)); have n2_ := Aside0.mk (KeepBut.blk hk (g' := gb223) (o := .cells #[.int .u32 t218, .bool t219] 30 (0, 0)) (by (with_reducible repeat (first | refine blk_drewN ?_ _ | refine blk_drew ?_ | refine blk_alloc ?_ _)); exact BK223.out) NB223_213.out (by simp)); have n3_ := Aside0.mk (KeepBut.blk hk (g' := gb229) (o := .cells #[.int .u32 x230000_42, .bool t225] 30 (0, 0)) (by (with_reducible repeat (first | refine blk_drewN ?_ _ | refine blk_drew ?_ | refine blk_alloc ?_ _)); exact BK229.out) NB229_213.out (by simp)); have n4_ := Aside0.mk (IsS54.beside (show IsS54 w _ g209 t233 t234 t235 from by repeat (first | (with_reducible first | exact HI209.out | apply IsS54.alloc | apply IsS54.drewN | apply IsS54.drew | apply IsS54.set_0 | apply IsS54.set_1 | apply IsS54.set_2 | refine IsS54.far ?_ NB209_216.out _ | refine IsS54.far ?_ NB209_217.out _ | refine IsS54.far ?_ NB209_223.out _ | refine IsS54.far ?_ NB209_229.out _) | exact HI209.out)) hk NS209_213.out); have n5_ := Aside0.mk (hb); have n6_ := Aside0.mk (hi); clear BK216; clear BK217; clear BK223; clear BK229; clear HI209; clear HB; clear HI213; have BK216 := n0_; have BK217 := n1_; have BK223 := n2_; have BK229 := n3_; have HI209 := n4_; have HB := n5_; have HI213 := n6_; clear n0_ n1_ n2_ n3_ n4_ n5_ n6_; (try clear hb); (try clear hb2); (try clear hk); (try clear hi); (try clear hgw); have hnb95 := NB223_216.out; have hnc95 := NB216_223.out; have hnb96 := NB223_217.out; have hnc96 := NB217_223.out; have hnb97 := NB223_229.out; have hnc97 := NB229_223.out; have hnb98 := NB223_209.out; have hnc98 := NB209_223.out; have hnb99 := NB223_213.out; have hnc99 := NB213_223.out; have hcz100_0 : w94.cell? ⟨gb223, 0, none⟩ = some (.int .u32 t218) := (blk_cell BK223.out 0).trans rfl; have hcz100_1 : w94.cell? ⟨gb223, 1, none⟩ = some (.bool t219) := (blk_cell BK223.out 1).trans rfl; have hfz100_0 := blk_frozen BK223.out 0; have hfz100_1 := blk_frozen BK223.out 1; have hnb101 := NB229_216.out; have hnc101 := NB216_229.out; have hnb102 := NB229_217.out; have hnc102 := NB217_229.out; have hnb103 := NB229_209.out; have hnc103 := NB209_229.out; have hnb104 := NB229_213.out; have hnc104 := NB213_229.out; have hcz105_0 : w94.cell? ⟨gb229, 0, none⟩ = some (.int .u32 x230000_42) := (blk_cell BK229.out 0).trans rfl; have hcz105_1 : w94.cell? ⟨gb229, 1, none⟩ = some (.bool t225) := (blk_cell BK229.out 1).trans rfl; have hfz105_0 := blk_frozen BK229.out 0; have hfz105_1 := blk_frozen BK229.out 1))
                                go_ret
                                exact ⟨by first | rfl | (simp [errW_none, errW_some] <;> rfl) | (simp [*, errW_none, errW_some] <;> rfl), by repeat (first | (with_reducible first | exact HB.out | apply below_alloc | apply pw_below_drewN | apply below_drew1 | refine below_set ?_ (IsS54.ge HI209.out) | refine below_set ?_ (IsS54.ge HI213.out) | refine below_set ?_ GE216.out | refine below_set ?_ GE217.out | refine below_set ?_ GE223.out | refine below_set ?_ GE229.out) | exact HB.out)⟩
                              · rw [if_neg c92] at H
                                have c92b0 : (t232 != t238) = false := by simpa using c92
                                (try (have c92b1 : decide (t232 = t238) = true := by simpa using c92))
                                (try (have c92b2 : (t232 == t238) = true := by simpa using c92))
                                clear c92
                                have H' := Aside0.mk H
                                clear H
                                go_wp2_with (first | ((with_reducible refine gate_callee (f := 14) rfl ?_); refine goesL_ (some 70) rfl rfl Try.func14 (by kernel_rfl) rfl #[.pointer (some ⟨g209, 0, none⟩)] rfl (by (try simp only [List.map_toArray, List.map_cons, List.map_nil]); first | done | rfl | (simp only [List.length_drop, List.length_take]; rfl)) ?_; (with_reducible refine (cr_Left.calls g209 t220 t221 t222 t230 t231 t232 t233 t234 t235 w _ ?side1 ?side2 A74.out).mono ?_); (case side1 => repeat (first | (with_reducible first | exact HI209.out | apply IsS54.alloc | apply IsS54.drewN | apply IsS54.drew | apply IsS54.set_0 | apply IsS54.set_1 | apply IsS54.set_2 | refine IsS54.far ?_ NB209_216.out _ | refine IsS54.far ?_ NB209_217.out _ | refine IsS54.far ?_ NB209_223.out _ | refine IsS54.far ?_ NB209_229.out _) | exact HI209.out)); (case side2 => repeat (first | (with_reducible first | exact HB.out | apply below_alloc | apply pw_below_drewN | apply below_drew1 | refine below_set ?_ (IsS54.ge HI209.out) | refine below_set ?_ (IsS54.ge HI213.out) | refine below_set ?_ GE216.out | refine below_set ?_ GE217.out | refine below_set ?_ GE223.out | refine below_set ?_ GE229.out) | exact HB.out)); rintro e w106 ⟨rfl, hi, hb, hk⟩; refine ⟨_, rfl, ?_⟩; have n0_ := Aside0.mk (KeepBut.blk hk (g' := gb216) (o := .cells #[.int .i64 ((rd_T33 l2 x9_1).f0), .int .u32 ((rd_T33 l2 x9_1).f1), .int .u32 ((rd_T33 l2 x9_1).f2), .bool ((rd_T33 l2 x9_1).f3)] 33 (0, 0)) (by (with_reducible repeat (first | refine blk_drewN ?_ _ | refine blk_drew ?_ | refine blk_alloc ?_ _)); exact BK216.out) NB216_209.out (by simp)); have n1_ := Aside0.mk (KeepBut.blk hk (g' := gb217) (o := .cells #[.int .i64 ((rd_T33 l2 x9_1).f0), .int .u32 x218001_31, .int .u32 ((rd_T33 l2 x9_1).f2), .bool ((rd_T33 l2 x9_1).f3)] 33 (0, 0)) (by (with_reducible repeat (first | refine blk_drewN ?_ _ | refine blk_drew ?_ | refine blk_alloc ?_ _)); exact BK217.out) NB217_209.out (by simp)); have n2_ := Aside0.mk (KeepBut.blk hk (g' := gb223) (o := .cells #[.int .u32 t218, .bool t219] 30 (0, 0)) (by (with_reducible repeat (first | refine blk_drewN ?_ _ | refine blk_drew ?_ | refine blk_alloc ?_ _)); exact BK223.out) NB223_209.out (by simp)); have n3_ := Aside0.mk (KeepBut.blk hk (g' := gb229) (o := .cells #[.int .u32 x230000_42, .bool t225] 30 (0, 0)) (by (with_reducible repeat (first | refine blk_drewN ?_ _ | refine blk_drew ?_ | refine blk_alloc ?_ _)); exact BK229.out) NB229_209.out (by simp)); have n4_ := Aside0.mk (IsS54.beside (show IsS54 w _ g213 t226 t227 t228 from by repeat (first | (with_reducible first | exact HI213.out | apply IsS54.alloc | apply IsS54.drewN | apply IsS54.drew | apply IsS54.set_0 | apply IsS54.set_1 | apply IsS54.set_2 | refine IsS54.far ?_ NB213_216.out _ | refine IsS54.far ?_ NB213_217.out _ | refine IsS54.far ?_ NB213_223.out _ | refine IsS54.far ?_ NB213_229.out _) | exact HI213.out)) hk NS213_209.out); have n5_ := Aside0.mk (hb); have n6_ := Aside0.mk (hi); clear BK216; clear BK217; clear BK223; clear BK229; clear HI213; clear HB; clear HI209; have BK216 := n0_; have BK217 := n1_; have BK223 := n2_; have BK229 := n3_; have HI213 := n4_; have HB := n5_; have HI209 := n6_; clear n0_ n1_ n2_ n3_ n4_ n5_ n6_; (try clear hb); (try clear hb2); (try clear hk); (try clear hi); (try clear hgw)) | ((with_reducible refine gate_callee (f := 14) rfl ?_); refine goesL_ (some 76) rfl rfl Try.func14 (by kernel_rfl) rfl #[.pointer (some ⟨g213, 0, none⟩)] rfl (by (try simp only [List.map_toArray, List.map_cons, List.map_nil]); first | done | rfl | (simp only [List.length_drop, List.length_take]; rfl)) ?_; (with_reducible refine (cr_Left.calls g213 t226 t227 t228 t236 t237 t238 t239 t240 t241 w _ ?side1 ?side2 A75.out).mono ?_); (case side1 => repeat (first | (with_reducible first | exact HI213.out | apply IsS54.alloc | apply IsS54.drewN | apply IsS54.drew | apply IsS54.set_0 | apply IsS54.set_1 | apply IsS54.set_2 | refine IsS54.far ?_ NB213_216.out _ | refine IsS54.far ?_ NB213_217.out _ | refine IsS54.far ?_ NB213_223.out _ | refine IsS54.far ?_ NB213_229.out _) | exact HI213.out)); (case side2 => repeat (first | (with_reducible first | exact HB.out | apply below_alloc | apply pw_below_drewN | apply below_drew1 | refine below_set ?_ (IsS54.ge HI209.out) | refine below_set ?_ (IsS54.ge HI213.out) | refine below_set ?_ GE216.out | refine below_set ?_ GE217.out | refine below_set ?_ GE223.out | refine below_set ?_ GE229.out) | exact HB.out)); rintro e w107 ⟨rfl, hi, hb, hk⟩; refine ⟨_, rfl, ?_⟩; have n0_ := Aside0.mk (KeepBut.blk hk (g' := gb216) (o := .cells #[.int .i64 ((rd_T33 l2 x9_1).f0), .int .u32 ((rd_T33 l2 x9_1).f1), .int .u32 ((rd_T33 l2 x9_1).f2), .bool ((rd_T33 l2 x9_1).f3)] 33 (0, 0)) (by (with_reducible repeat (first | refine blk_drewN ?_ _ | refine blk_drew ?_ | refine blk_alloc ?_ _)); exact BK216.out) NB216_213.out (by simp)); have n1_ := Aside0.mk (KeepBut.blk hk (g' := gb217) (o := .cells #[.int .i64 ((rd_T33 l2 x9_1).f0), .int .u32 x218001_31, .int .u32 ((rd_T33 l2 x9_1).f2), .bool ((rd_T33 l2 x9_1).f3)] 33 (0, 0)) (by (with_reducible repeat (first | refine blk_drewN ?_ _ | refine blk_drew ?_ | refine blk_alloc ?_ _)); exact BK217.out) NB217_213.out (by simp)); have n2_ := Aside0.mk (KeepBut.blk hk (g' := gb223) (o := .cells #[.int .u32 t218, .bool t219] 30 (0, 0)) (by (with_reducible repeat (first | refine blk_drewN ?_ _ | refine blk_drew ?_ | refine blk_alloc ?_ _)); exact BK223.out) NB223_213.out (by simp)); have n3_ := Aside0.mk (KeepBut.blk hk (g' := gb229) (o := .cells #[.int .u32 x230000_42, .bool t225] 30 (0, 0)) (by (with_reducible repeat (first | refine blk_drewN ?_ _ | refine blk_drew ?_ | refine blk_alloc ?_ _)); exact BK229.out) NB229_213.out (by simp)); have n4_ := Aside0.mk (IsS54.beside (show IsS54 w _ g209 t233 t234 t235 from by repeat (first | (with_reducible first | exact HI209.out | apply IsS54.alloc | apply IsS54.drewN | apply IsS54.drew | apply IsS54.set_0 | apply IsS54.set_1 | apply IsS54.set_2 | refine IsS54.far ?_ NB209_216.out _ | refine IsS54.far ?_ NB209_217.out _ | refine IsS54.far ?_ NB209_223.out _ | refine IsS54.far ?_ NB209_229.out _) | exact HI209.out)) hk NS209_213.out); have n5_ := Aside0.mk (hb); have n6_ := Aside0.mk (hi); clear BK216; clear BK217; clear BK223; clear BK229; clear HI209; clear HB; clear HI213; have BK216 := n0_; have BK217 := n1_; have BK223 := n2_; have BK229 := n3_; have HI209 := n4_; have HB := n5_; have HI213 := n6_; clear n0_ n1_ n2_ n3_ n4_ n5_ n6_; (try clear hb); (try clear hb2); (try clear hk); (try clear hi); (try clear hgw); have hnb108 := NB223_216.out; have hnc108 := NB216_223.out; have hnb109 := NB223_217.out; have hnc109 := NB217_223.out; have hnb110 := NB223_229.out; have hnc110 := NB229_223.out; have hnb111 := NB223_209.out; have hnc111 := NB209_223.out; have hnb112 := NB223_213.out; have hnc112 := NB213_223.out; have hcz113_0 : w107.cell? ⟨gb223, 0, none⟩ = some (.int .u32 t218) := (blk_cell BK223.out 0).trans rfl; have hcz113_1 : w107.cell? ⟨gb223, 1, none⟩ = some (.bool t219) := (blk_cell BK223.out 1).trans rfl; have hfz113_0 := blk_frozen BK223.out 0; have hfz113_1 := blk_frozen BK223.out 1; have hnb114 := NB229_216.out; have hnc114 := NB216_229.out; have hnb115 := NB229_217.out; have hnc115 := NB217_229.out; have hnb116 := NB229_209.out; have hnc116 := NB209_229.out; have hnb117 := NB229_213.out; have hnc117 := NB213_229.out; have hcz118_0 : w107.cell? ⟨gb229, 0, none⟩ = some (.int .u32 x230000_42) := (blk_cell BK229.out 0).trans rfl; have hcz118_1 : w107.cell? ⟨gb229, 1, none⟩ = some (.bool t225) := (blk_cell BK229.out 1).trans rfl; have hfz118_0 := blk_frozen BK229.out 0; have hfz118_1 := blk_frozen BK229.out 1))
                                go_roundg kj42
                                case measure => have := HK1.out; have := HJ12.out; have := HJ31.out; have := HJ42.out; omega
                                case rel => exact ⟨(wrap64 (x9_1 + 1)), (t233), (t234), (t235), (t239), (t240), (t241), (by first | rfl | (simp; done) | (simp [*]; done)), H', ⟨by have := HK1.out; have := HJ12.out; have := HJ31.out; have := HJ42.out; omega⟩, ⟨by repeat (first | (with_reducible first | exact HI209.out | apply IsS54.alloc | apply IsS54.drewN | apply IsS54.drew | apply IsS54.set_0 | apply IsS54.set_1 | apply IsS54.set_2 | refine IsS54.far ?_ NB209_216.out _ | refine IsS54.far ?_ NB209_217.out _ | refine IsS54.far ?_ NB209_223.out _ | refine IsS54.far ?_ NB209_229.out _) | exact HI209.out)⟩, ⟨by repeat (first | (with_reducible first | exact HI213.out | apply IsS54.alloc | apply IsS54.drewN | apply IsS54.drew | apply IsS54.set_0 | apply IsS54.set_1 | apply IsS54.set_2 | refine IsS54.far ?_ NB213_216.out _ | refine IsS54.far ?_ NB213_217.out _ | refine IsS54.far ?_ NB213_223.out _ | refine IsS54.far ?_ NB213_229.out _) | exact HI213.out)⟩, ⟨by repeat (first | (with_reducible first | exact HB.out | apply below_alloc | apply pw_below_drewN | apply below_drew1 | refine below_set ?_ (IsS54.ge HI209.out) | refine below_set ?_ (IsS54.ge HI213.out) | refine below_set ?_ GE216.out | refine below_set ?_ GE217.out | refine below_set ?_ GE223.out | refine below_set ?_ GE229.out) | exact HB.out)⟩⟩
                            · rw [if_neg c91] at H
                              have c91b0 : (t231 == t237) = false := beq_eq_false_iff_ne.mpr c91
                              have c91b1 : (t231 != t237) = true := bne_iff_ne.mpr c91
                              obtain rfl := Option.some.inj H
                              go_wp2_with (first | ((with_reducible refine gate_callee (f := 14) rfl ?_); refine goesL_ (some 70) rfl rfl Try.func14 (by kernel_rfl) rfl #[.pointer (some ⟨g209, 0, none⟩)] rfl (by (try simp only [List.map_toArray, List.map_cons, List.map_nil]); first | done | rfl | (simp only [List.length_drop, List.length_take]; rfl)) ?_; (with_reducible refine (cr_Left.calls g209 t220 t221 t222 t230 t231 t232 t233 t234 t235 w _ ?side1 ?side2 A74.out).mono ?_); (case side1 => repeat (first | (with_reducible first | exact HI209.out | apply IsS54.alloc | apply IsS54.drewN | apply IsS54.drew | apply IsS54.set_0 | apply IsS54.set_1 | apply IsS54.set_2 | refine IsS54.far ?_ NB209_216.out _ | refine IsS54.far ?_ NB209_217.out _ | refine IsS54.far ?_ NB209_223.out _ | refine IsS54.far ?_ NB209_229.out _) | exact HI209.out)); (case side2 => repeat (first | (with_reducible first | exact HB.out | apply below_alloc | apply pw_below_drewN | apply below_drew1 | refine below_set ?_ (IsS54.ge HI209.out) | refine below_set ?_ (IsS54.ge HI213.out) | refine below_set ?_ GE216.out | refine below_set ?_ GE217.out | refine below_set ?_ GE223.out | refine below_set ?_ GE229.out) | exact HB.out)); rintro e w119 ⟨rfl, hi, hb, hk⟩; refine ⟨_, rfl, ?_⟩; have n0_ := Aside0.mk (KeepBut.blk hk (g' := gb216) (o := .cells #[.int .i64 ((rd_T33 l2 x9_1).f0), .int .u32 ((rd_T33 l2 x9_1).f1), .int .u32 ((rd_T33 l2 x9_1).f2), .bool ((rd_T33 l2 x9_1).f3)] 33 (0, 0)) (by (with_reducible repeat (first | refine blk_drewN ?_ _ | refine blk_drew ?_ | refine blk_alloc ?_ _)); exact BK216.out) NB216_209.out (by simp)); have n1_ := Aside0.mk (KeepBut.blk hk (g' := gb217) (o := .cells #[.int .i64 ((rd_T33 l2 x9_1).f0), .int .u32 x218001_31, .int .u32 ((rd_T33 l2 x9_1).f2), .bool ((rd_T33 l2 x9_1).f3)] 33 (0, 0)) (by (with_reducible repeat (first | refine blk_drewN ?_ _ | refine blk_drew ?_ | refine blk_alloc ?_ _)); exact BK217.out) NB217_209.out (by simp)); have n2_ := Aside0.mk (KeepBut.blk hk (g' := gb223) (o := .cells #[.int .u32 t218, .bool t219] 30 (0, 0)) (by (with_reducible repeat (first | refine blk_drewN ?_ _ | refine blk_drew ?_ | refine blk_alloc ?_ _)); exact BK223.out) NB223_209.out (by simp)); have n3_ := Aside0.mk (KeepBut.blk hk (g' := gb229) (o := .cells #[.int .u32 x230000_42, .bool t225] 30 (0, 0)) (by (with_reducible repeat (first | refine blk_drewN ?_ _ | refine blk_drew ?_ | refine blk_alloc ?_ _)); exact BK229.out) NB229_209.out (by simp)); have n4_ := Aside0.mk (IsS54.beside (show IsS54 w _ g213 t226 t227 t228 from by repeat (first | (with_reducible first | exact HI213.out | apply IsS54.alloc | apply IsS54.drewN | apply IsS54.drew | apply IsS54.set_0 | apply IsS54.set_1 | apply IsS54.set_2 | refine IsS54.far ?_ NB213_216.out _ | refine IsS54.far ?_ NB213_217.out _ | refine IsS54.far ?_ NB213_223.out _ | refine IsS54.far ?_ NB213_229.out _) | exact HI213.out)) hk NS213_209.out); have n5_ := Aside0.mk (hb); have n6_ := Aside0.mk (hi); clear BK216; clear BK217; clear BK223; clear BK229; clear HI213; clear HB; clear HI209; have BK216 := n0_; have BK217 := n1_; have BK223 := n2_; have BK229 := n3_; have HI213 := n4_; have HB := n5_; have HI209 := n6_; clear n0_ n1_ n2_ n3_ n4_ n5_ n6_; (try clear hb); (try clear hb2); (try clear hk); (try clear hi); (try clear hgw)) | ((with_reducible refine gate_callee (f := 14) rfl ?_); refine goesL_ (some 76) rfl rfl Try.func14 (by kernel_rfl) rfl #[.pointer (some ⟨g213, 0, none⟩)] rfl (by (try simp only [List.map_toArray, List.map_cons, List.map_nil]); first | done | rfl | (simp only [List.length_drop, List.length_take]; rfl)) ?_; (with_reducible refine (cr_Left.calls g213 t226 t227 t228 t236 t237 t238 t239 t240 t241 w _ ?side1 ?side2 A75.out).mono ?_); (case side1 => repeat (first | (with_reducible first | exact HI213.out | apply IsS54.alloc | apply IsS54.drewN | apply IsS54.drew | apply IsS54.set_0 | apply IsS54.set_1 | apply IsS54.set_2 | refine IsS54.far ?_ NB213_216.out _ | refine IsS54.far ?_ NB213_217.out _ | refine IsS54.far ?_ NB213_223.out _ | refine IsS54.far ?_ NB213_229.out _) | exact HI213.out)); (case side2 => repeat (first | (with_reducible first | exact HB.out | apply below_alloc | apply pw_below_drewN | apply below_drew1 | refine below_set ?_ (IsS54.ge HI209.out) | refine below_set ?_ (IsS54.ge HI213.out) | refine below_set ?_ GE216.out | refine below_set ?_ GE217.out | refine below_set ?_ GE223.out | refine below_set ?_ GE229.out) | exact HB.out)); rintro e w120 ⟨rfl, hi, hb, hk⟩; refine ⟨_, rfl, ?_⟩; have n0_ := Aside0.mk (KeepBut.blk hk (g' := gb216) (o := .cells #[.int .i64 ((rd_T33 l2 x9_1).f0), .int .u32 ((rd_T33 l2 x9_1).f1), .int .u32 ((rd_T33 l2 x9_1).f2), .bool ((rd_T33 l2 x9_1).f3)] 33 (0, 0)) (by (with_reducible repeat (first | refine blk_drewN ?_ _ | refine blk_drew ?_ | refine blk_alloc ?_ _)); exact BK216.out) NB216_213.out (by simp)); have n1_ := Aside0.mk (KeepBut.blk hk (g' := gb217) (o := .cells #[.int .i64 ((rd_T33 l2 x9_1).f0), .int .u32 x218001_31, .int .u32 ((rd_T33 l2 x9_1).f2), .bool ((rd_T33 l2 x9_1).f3)] 33 (0, 0)) (by (with_reducible repeat (first | refine blk_drewN ?_ _ | refine blk_drew ?_ | refine blk_alloc ?_ _)); exact BK217.out) NB217_213.out (by simp)); have n2_ := Aside0.mk (KeepBut.blk hk (g' := gb223) (o := .cells #[.int .u32 t218, .bool t219] 30 (0, 0)) (by (with_reducible repeat (first | refine blk_drewN ?_ _ | refine blk_drew ?_ | refine blk_alloc ?_ _)); exact BK223.out) NB223_213.out (by simp)); have n3_ := Aside0.mk (KeepBut.blk hk (g' := gb229) (o := .cells #[.int .u32 x230000_42, .bool t225] 30 (0, 0)) (by (with_reducible repeat (first | refine blk_drewN ?_ _ | refine blk_drew ?_ | refine blk_alloc ?_ _)); exact BK229.out) NB229_213.out (by simp)); have n4_ := Aside0.mk (IsS54.beside (show IsS54 w _ g209 t233 t234 t235 from by repeat (first | (with_reducible first | exact HI209.out | apply IsS54.alloc | apply IsS54.drewN | apply IsS54.drew | apply IsS54.set_0 | apply IsS54.set_1 | apply IsS54.set_2 | refine IsS54.far ?_ NB209_216.out _ | refine IsS54.far ?_ NB209_217.out _ | refine IsS54.far ?_ NB209_223.out _ | refine IsS54.far ?_ NB209_229.out _) | exact HI209.out)) hk NS209_213.out); have n5_ := Aside0.mk (hb); have n6_ := Aside0.mk (hi); clear BK216; clear BK217; clear BK223; clear BK229; clear HI209; clear HB; clear HI213; have BK216 := n0_; have BK217 := n1_; have BK223 := n2_; have BK229 := n3_; have HI209 := n4_; have HB := n5_; have HI213 := n6_; clear n0_ n1_ n2_ n3_ n4_ n5_ n6_; (try clear hb); (try clear hb2); (try clear hk); (try clear hi); (try clear hgw); have hnb121 := NB223_216.out; have hnc121 := NB216_223.out; have hnb122 := NB223_217.out; have hnc122 := NB217_223.out; have hnb123 := NB223_229.out; have hnc123 := NB229_223.out; have hnb124 := NB223_209.out; have hnc124 := NB209_223.out; have hnb125 := NB223_213.out; have hnc125 := NB213_223.out; have hcz126_0 : w120.cell? ⟨gb223, 0, none⟩ = some (.int .u32 t218) := (blk_cell BK223.out 0).trans rfl; have hcz126_1 : w120.cell? ⟨gb223, 1, none⟩ = some (.bool t219) := (blk_cell BK223.out 1).trans rfl; have hfz126_0 := blk_frozen BK223.out 0; have hfz126_1 := blk_frozen BK223.out 1; have hnb127 := NB229_216.out; have hnc127 := NB216_229.out; have hnb128 := NB229_217.out; have hnc128 := NB217_229.out; have hnb129 := NB229_209.out; have hnc129 := NB209_229.out; have hnb130 := NB229_213.out; have hnc130 := NB213_229.out; have hcz131_0 : w120.cell? ⟨gb229, 0, none⟩ = some (.int .u32 x230000_42) := (blk_cell BK229.out 0).trans rfl; have hcz131_1 : w120.cell? ⟨gb229, 1, none⟩ = some (.bool t225) := (blk_cell BK229.out 1).trans rfl; have hfz131_0 := blk_frozen BK229.out 0; have hfz131_1 := blk_frozen BK229.out 1))
                              go_ret
                              exact ⟨by first | rfl | (simp [errW_none, errW_some] <;> rfl) | (simp [*, errW_none, errW_some] <;> rfl), by repeat (first | (with_reducible first | exact HB.out | apply below_alloc | apply pw_below_drewN | apply below_drew1 | refine below_set ?_ (IsS54.ge HI209.out) | refine below_set ?_ (IsS54.ge HI213.out) | refine below_set ?_ GE216.out | refine below_set ?_ GE217.out | refine below_set ?_ GE223.out | refine below_set ?_ GE229.out) | exact HB.out)⟩
                          · rw [if_neg c90] at H
                            have c90b0 : (t230 == ((t236 - a1) % 4294967296)) = false := beq_eq_false_iff_ne.mpr c90
                            have c90b1 : (t230 != ((t236 - a1) % 4294967296)) = true := bne_iff_ne.mpr c90
                            obtain rfl := Option.some.inj H
                            go_wp2_with (first | ((with_reducible refine gate_callee (f := 14) rfl ?_); refine goesL_ (some 70) rfl rfl Try.func14 (by kernel_rfl) rfl #[.pointer (some ⟨g209, 0, none⟩)] rfl (by (try simp only [List.map_toArray, List.map_cons, List.map_nil]); first | done | rfl | (simp only [List.length_drop, List.length_take]; rfl)) ?_; (with_reducible refine (cr_Left.calls g209 t220 t221 t222 t230 t231 t232 t233 t234 t235 w _ ?side1 ?side2 A74.out).mono ?_); (case side1 => repeat (first | (with_reducible first | exact HI209.out | apply IsS54.alloc | apply IsS54.drewN | apply IsS54.drew | apply IsS54.set_0 | apply IsS54.set_1 | apply IsS54.set_2 | refine IsS54.far ?_ NB209_216.out _ | refine IsS54.far ?_ NB209_217.out _ | refine IsS54.far ?_ NB209_223.out _ | refine IsS54.far ?_ NB209_229.out _) | exact HI209.out)); (case side2 => repeat (first | (with_reducible first | exact HB.out | apply below_alloc | apply pw_below_drewN | apply below_drew1 | refine below_set ?_ (IsS54.ge HI209.out) | refine below_set ?_ (IsS54.ge HI213.out) | refine below_set ?_ GE216.out | refine below_set ?_ GE217.out | refine below_set ?_ GE223.out | refine below_set ?_ GE229.out) | exact HB.out)); rintro e w132 ⟨rfl, hi, hb, hk⟩; refine ⟨_, rfl, ?_⟩; have n0_ := Aside0.mk (KeepBut.blk hk (g' := gb216) (o := .cells #[.int .i64 ((rd_T33 l2 x9_1).f0), .int .u32 ((rd_T33 l2 x9_1).f1), .int .u32 ((rd_T33 l2 x9_1).f2), .bool ((rd_T33 l2 x9_1).f3)] 33 (0, 0)) (by (with_reducible repeat (first | refine blk_drewN ?_ _ | refine blk_drew ?_ | refine blk_alloc ?_ _)); exact BK216.out) NB216_209.out (by simp)); have n1_ := Aside0.mk (KeepBut.blk hk (g' := gb217) (o := .cells #[.int .i64 ((rd_T33 l2 x9_1).f0), .int .u32 x218001_31, .int .u32 ((rd_T33 l2 x9_1).f2), .bool ((rd_T33 l2 x9_1).f3)] 33 (0, 0)) (by (with_reducible repeat (first | refine blk_drewN ?_ _ | refine blk_drew ?_ | refine blk_alloc ?_ _)); exact BK217.out) NB217_209.out (by simp)); have n2_ := Aside0.mk (KeepBut.blk hk (g' := gb223) (o := .cells #[.int .u32 t218, .bool t219] 30 (0, 0)) (by (with_reducible repeat (first | refine blk_drewN ?_ _ | refine blk_drew ?_ | refine blk_alloc ?_ _)); exact BK223.out) NB223_209.out (by simp)); have n3_ := Aside0.mk (KeepBut.blk hk (g' := gb229) (o := .cells #[.int .u32 x230000_42, .bool t225] 30 (0, 0)) (by (with_reducible repeat (first | refine blk_drewN ?_ _ | refine blk_drew ?_ | refine blk_alloc ?_ _)); exact BK229.out) NB229_209.out (by simp)); have n4_ := Aside0.mk (IsS54.beside (show IsS54 w _ g213 t226 t227 t228 from by repeat (first | (with_reducible first | exact HI213.out | apply IsS54.alloc | apply IsS54.drewN | apply IsS54.drew | apply IsS54.set_0 | apply IsS54.set_1 | apply IsS54.set_2 | refine IsS54.far ?_ NB213_216.out _ | refine IsS54.far ?_ NB213_217.out _ | refine IsS54.far ?_ NB213_223.out _ | refine IsS54.far ?_ NB213_229.out _) | exact HI213.out)) hk NS213_209.out); have n5_ := Aside0.mk (hb); have n6_ := Aside0.mk (hi); clear BK216; clear BK217; clear BK223; clear BK229; clear HI213; clear HB; clear HI209; have BK216 := n0_; have BK217 := n1_; have BK223 := n2_; have BK229 := n3_; have HI213 := n4_; have HB := n5_; have HI209 := n6_; clear n0_ n1_ n2_ n3_ n4_ n5_ n6_; (try clear hb); (try clear hb2); (try clear hk); (try clear hi); (try clear hgw)) | ((with_reducible refine gate_callee (f := 14) rfl ?_); refine goesL_ (some 76) rfl rfl Try.func14 (by kernel_rfl) rfl #[.pointer (some ⟨g213, 0, none⟩)] rfl (by (try simp only [List.map_toArray, List.map_cons, List.map_nil]); first | done | rfl | (simp only [List.length_drop, List.length_take]; rfl)) ?_; (with_reducible refine (cr_Left.calls g213 t226 t227 t228 t236 t237 t238 t239 t240 t241 w _ ?side1 ?side2 A75.out).mono ?_); (case side1 => repeat (first | (with_reducible first | exact HI213.out | apply IsS54.alloc | apply IsS54.drewN | apply IsS54.drew | apply IsS54.set_0 | apply IsS54.set_1 | apply IsS54.set_2 | refine IsS54.far ?_ NB213_216.out _ | refine IsS54.far ?_ NB213_217.out _ | refine IsS54.far ?_ NB213_223.out _ | refine IsS54.far ?_ NB213_229.out _) | exact HI213.out)); (case side2 => repeat (first | (with_reducible first | exact HB.out | apply below_alloc | apply pw_below_drewN | apply below_drew1 | refine below_set ?_ (IsS54.ge HI209.out) | refine below_set ?_ (IsS54.ge HI213.out) | refine below_set ?_ GE216.out | refine below_set ?_ GE217.out | refine below_set ?_ GE223.out | refine below_set ?_ GE229.out) | exact HB.out)); rintro e w133 ⟨rfl, hi, hb, hk⟩; refine ⟨_, rfl, ?_⟩; have n0_ := Aside0.mk (KeepBut.blk hk (g' := gb216) (o := .cells #[.int .i64 ((rd_T33 l2 x9_1).f0), .int .u32 ((rd_T33 l2 x9_1).f1), .int .u32 ((rd_T33 l2 x9_1).f2), .bool ((rd_T33 l2 x9_1).f3)] 33 (0, 0)) (by (with_reducible repeat (first | refine blk_drewN ?_ _ | refine blk_drew ?_ | refine blk_alloc ?_ _)); exact BK216.out) NB216_213.out (by simp)); have n1_ := Aside0.mk (KeepBut.blk hk (g' := gb217) (o := .cells #[.int .i64 ((rd_T33 l2 x9_1).f0), .int .u32 x218001_31, .int .u32 ((rd_T33 l2 x9_1).f2), .bool ((rd_T33 l2 x9_1).f3)] 33 (0, 0)) (by (with_reducible repeat (first | refine blk_drewN ?_ _ | refine blk_drew ?_ | refine blk_alloc ?_ _)); exact BK217.out) NB217_213.out (by simp)); have n2_ := Aside0.mk (KeepBut.blk hk (g' := gb223) (o := .cells #[.int .u32 t218, .bool t219] 30 (0, 0)) (by (with_reducible repeat (first | refine blk_drewN ?_ _ | refine blk_drew ?_ | refine blk_alloc ?_ _)); exact BK223.out) NB223_213.out (by simp)); have n3_ := Aside0.mk (KeepBut.blk hk (g' := gb229) (o := .cells #[.int .u32 x230000_42, .bool t225] 30 (0, 0)) (by (with_reducible repeat (first | refine blk_drewN ?_ _ | refine blk_drew ?_ | refine blk_alloc ?_ _)); exact BK229.out) NB229_213.out (by simp)); have n4_ := Aside0.mk (IsS54.beside (show IsS54 w _ g209 t233 t234 t235 from by repeat (first | (with_reducible first | exact HI209.out | apply IsS54.alloc | apply IsS54.drewN | apply IsS54.drew | apply IsS54.set_0 | apply IsS54.set_1 | apply IsS54.set_2 | refine IsS54.far ?_ NB209_216.out _ | refine IsS54.far ?_ NB209_217.out _ | refine IsS54.far ?_ NB209_223.out _ | refine IsS54.far ?_ NB209_229.out _) | exact HI209.out)) hk NS209_213.out); have n5_ := Aside0.mk (hb); have n6_ := Aside0.mk (hi); clear BK216; clear BK217; clear BK223; clear BK229; clear HI209; clear HB; clear HI213; have BK216 := n0_; have BK217 := n1_; have BK223 := n2_; have BK229 := n3_; have HI209 := n4_; have HB := n5_; have HI213 := n6_; clear n0_ n1_ n2_ n3_ n4_ n5_ n6_; (try clear hb); (try clear hb2); (try clear hk); (try clear hi); (try clear hgw); have hnb134 := NB223_216.out; have hnc134 := NB216_223.out; have hnb135 := NB223_217.out; have hnc135 := NB217_223.out; have hnb136 := NB223_229.out; have hnc136 := NB229_223.out; have hnb137 := NB223_209.out; have hnc137 := NB209_223.out; have hnb138 := NB223_213.out; have hnc138 := NB213_223.out; have hcz139_0 : w133.cell? ⟨gb223, 0, none⟩ = some (.int .u32 t218) := (blk_cell BK223.out 0).trans rfl; have hcz139_1 : w133.cell? ⟨gb223, 1, none⟩ = some (.bool t219) := (blk_cell BK223.out 1).trans rfl; have hfz139_0 := blk_frozen BK223.out 0; have hfz139_1 := blk_frozen BK223.out 1; have hnb140 := NB229_216.out; have hnc140 := NB216_229.out; have hnb141 := NB229_217.out; have hnc141 := NB217_229.out; have hnb142 := NB229_209.out; have hnc142 := NB209_229.out; have hnb143 := NB229_213.out; have hnc143 := NB213_229.out; have hcz144_0 : w133.cell? ⟨gb229, 0, none⟩ = some (.int .u32 x230000_42) := (blk_cell BK229.out 0).trans rfl; have hcz144_1 : w133.cell? ⟨gb229, 1, none⟩ = some (.bool t225) := (blk_cell BK229.out 1).trans rfl; have hfz144_0 := blk_frozen BK229.out 0; have hfz144_1 := blk_frozen BK229.out 1))
                            go_ret
                            exact ⟨by first | rfl | (simp [errW_none, errW_some] <;> rfl) | (simp [*, errW_none, errW_some] <;> rfl), by repeat (first | (with_reducible first | exact HB.out | apply below_alloc | apply pw_below_drewN | apply below_drew1 | refine below_set ?_ (IsS54.ge HI209.out) | refine below_set ?_ (IsS54.ge HI213.out) | refine below_set ?_ GE216.out | refine below_set ?_ GE217.out | refine below_set ?_ GE223.out | refine below_set ?_ GE229.out) | exact HB.out)⟩
          · rw [if_neg c12] at H
            exact absurd H (by simp)
        · rw [if_neg c11] at H
          have c11b0 : decide (x9_1 < (l2.length : Int)) = false := decide_eq_false c11
          clear c11
          replace H := Option.bind_eq_some_iff.mp H
          obtain ⟨t214, A1450, H⟩ := H
          replace H : (some t214) = some r := H
          have A145 := Aside0.mk A1450
          clear A1450
          obtain rfl := Option.some.inj H
          go_wp2_with (first | ((with_reducible refine gate_callee (f := 9) rfl ?_); refine goesL_ (some 100) rfl rfl Try.func9 (by kernel_rfl) rfl #[] rfl (by (try simp only [List.map_toArray, List.map_cons, List.map_nil]); first | done | rfl | (simp only [List.length_drop, List.length_take]; rfl)) ?_; (with_reducible refine (lw16_works.calls k1  t214 _ A145.out).mono ?_); rintro e w146 ⟨rfl, hb⟩; refine ⟨_, rfl, ?_⟩; have n0_ := Aside0.mk (IsS54.below (by repeat (first | (with_reducible first | exact HI209.out | apply IsS54.alloc | apply IsS54.drewN | apply IsS54.drew | apply IsS54.set_0 | apply IsS54.set_1 | apply IsS54.set_2) | exact HI209.out)) hb); have n1_ := Aside0.mk (IsS54.below (by repeat (first | (with_reducible first | exact HI213.out | apply IsS54.alloc | apply IsS54.drewN | apply IsS54.drew | apply IsS54.set_0 | apply IsS54.set_1 | apply IsS54.set_2) | exact HI213.out)) hb); have n2_ := Aside0.mk (below_step (by repeat (first | (with_reducible first | exact HB.out | apply below_alloc | apply pw_below_drewN | apply below_drew1 | refine below_set ?_ (IsS54.ge HI209.out) | refine below_set ?_ (IsS54.ge HI213.out)) | exact HB.out)) hb); clear HI209; clear HI213; clear HB; have HI209 := n0_; have HI213 := n1_; have HB := n2_; clear n0_ n1_ n2_; (try clear hb); (try clear hb2); (try clear hk); (try clear hi); (try clear hgw)))
          go_ret
          exact ⟨by first | rfl | (simp [errW_none, errW_some] <;> rfl) | (simp [*, errW_none, errW_some] <;> rfl), by repeat (first | (with_reducible first | exact HB.out | apply below_alloc | apply pw_below_drewN | apply below_drew1 | refine below_set ?_ (IsS54.ge HI209.out) | refine below_set ?_ (IsS54.ge HI213.out)) | exact HB.out)⟩

/-- THE ONE PURE STATEMENT of lw16_CreditRound: yours. -/
def lw16_CreditRound.Pure : Prop := ∀ (a0 : Int) (a1 : Int) (l2 : List (S33)), (Lit.int .u32 a0).wf = true → (Lit.int .u32 a1).wf = true → l2.length ≤ maxLen → (∀ x ∈ l2, (Lit.int .i64 x.f0).wf = true ∧ (Lit.int .u32 x.f1).wf = true ∧ (Lit.int .u32 x.f2).wf = true) → ∃ k, lw16_CreditRound.f k a0 a1 l2 = some true

end Go.Proofs.Ytadbpgljamkoeaa.PCreditRound
