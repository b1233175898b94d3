/- Written by a program of this session (a turned copy of the print; not the kit's own print): the walks of the functions that one law reaches, or that law's row; the plain law stands in the Pure text; no condition of our own. -/
import Derived.Test.YtgamlcmjmlllaaaPWindowBoundsx0
import Derived.Test.YtgamlcmjmlllaaaPWindowBoundsx1
import Derived.Test.YtgamlcmjmlllaaaPWindowBoundsx2
import Derived.Test.YtgamlcmjmlllaaaPWindowBoundsx3
namespace Go.Proofs.Ytgamlcmjmlllaaa.PWindowBounds
open Go.RowKit Go.Proofs.YtgamlcmjmlllaaaW.PrintWords Go.Proofs.YtgamlcmjmlllaaaW.PrintLast Go.Proofs.YtgamlcmjmlllaaaW.PrintMore
attribute [local go_sem] max2_int min2_int max_two min_two max_three min_three max_four min_four   -- for this text's walks alone
set_option linter.unusedVariables false
set_option linter.unusedSimpArgs false

/-! ### lw15_WindowBounds: function 5 -/
mutual
def lw15_WindowBounds.l0 : Nat → List (S33) → Int → Int → Int → Int → Int → Int → Bool → Int → Int → Option (Bool)
  | 0, _, _, _, _, _, _, _, _, _, _ => none
  | k + 1, x1, x6, x7, x8, x269000, x269001, x269002, x269003, x269004, x269005 => if x8 < (x1.length : Int) then ((wi_Left.f x269000 x269001 x269002 x269003 x269004 x269005).bind fun bt270 => (if 0 ≤ x8 then ((lw15_does.f bt270.2.2.1 bt270.2.2.2.1 bt270.2.2.2.2.1 bt270.2.2.2.2.2.1 bt270.2.2.2.2.2.2.1 bt270.2.2.2.2.2.2.2 ((rd_T33 x1 x8).f0) ((rd_T33 x1 x8).f1) ((rd_T33 x1 x8).f2) ((rd_T33 x1 x8).f3)).bind fun bt279 => (if ((rd_T33 x1 x8).f0) = 1 then (if (bt279.2.2.2.1 != (decide (bt270.1 > 0))) = true then (lw15_WindowBounds.j1 k x1 x6 x7 x8 bt270.2.1 true bt279.2.2.2.2.1 bt279.2.2.2.2.2.1 bt279.2.2.2.2.2.2.1 bt279.2.2.2.2.2.2.2.1 bt279.2.2.2.2.2.2.2.2.1 bt279.2.2.2.2.2.2.2.2.2 bt279.1 bt279.2.1 bt279.2.2.1 bt279.2.2.2.1) else (if bt279.2.2.2.1 = true then (lw15_WindowBounds.j1 k x1 x6 x7 x8 bt270.2.1 (bt279.1 != x7) bt279.2.2.2.2.1 bt279.2.2.2.2.2.1 bt279.2.2.2.2.2.2.1 bt279.2.2.2.2.2.2.2.1 bt279.2.2.2.2.2.2.2.2.1 bt279.2.2.2.2.2.2.2.2.2 bt279.1 bt279.2.1 bt279.2.2.1 bt279.2.2.2.1) else (lw15_WindowBounds.j1 k x1 x6 x7 x8 bt270.2.1 false bt279.2.2.2.2.1 bt279.2.2.2.2.2.1 bt279.2.2.2.2.2.2.1 bt279.2.2.2.2.2.2.2.1 bt279.2.2.2.2.2.2.2.2.1 bt279.2.2.2.2.2.2.2.2.2 bt279.1 bt279.2.1 bt279.2.2.1 bt279.2.2.2.1))) else (lw15_WindowBounds.j2 k x1 x6 x7 x8 bt270.2.1 bt279.2.2.2.2.1 bt279.2.2.2.2.2.1 bt279.2.2.2.2.2.2.1 bt279.2.2.2.2.2.2.2.1 bt279.2.2.2.2.2.2.2.2.1 bt279.2.2.2.2.2.2.2.2.2 bt279.1 bt279.2.1 bt279.2.2.1 bt279.2.2.2.1))) else (none))) else ((lw15_works.f).bind fun t269 => (some t269))
def lw15_WindowBounds.j2 : Nat → List (S33) → Int → Int → Int → Int → Int → Int → Int → Bool → Int → Int → Int → Int → Int → Bool → Option (Bool)
  | 0, _, _, _, _, _, _, _, _, _, _, _, _, _, _, _ => none
  | k + 1, x1, x6, x7, x8, x10, x269000, x269001, x269002, x269003, x269004, x269005, x290000, x290001, x290002, x290003 => if 0 ≤ x8 then (if x8 < (x1.length : Int) then (if ((rd_T33 x1 x8).f0) = 2 then (if x290003 = true then (if x10 = 0 then (lw15_WindowBounds.j3 k x1 x6 x7 x8 true x269000 x269001 x269002 x269003 x269004 x269005) else (if ((rd_T33 x1 x8).f0) = 4 then (if (x290003 != (decide (x10 ≤ ((Int.tdiv x6 2) % 4294967296)))) = true then (lw15_WindowBounds.j3 k x1 x6 x7 x8 true x269000 x269001 x269002 x269003 x269004 x269005) else (if ((rd_T33 x1 x8).f0) = 5 then (if x290001 = x6 then (lw15_WindowBounds.j3 k x1 x6 x7 x8 (x290002 != x7) x269000 x269001 x269002 x269003 x269004 x269005) else (lw15_WindowBounds.j3 k x1 x6 x7 x8 true x269000 x269001 x269002 x269003 x269004 x269005)) else (lw15_WindowBounds.j3 k x1 x6 x7 x8 false x269000 x269001 x269002 x269003 x269004 x269005))) else (if ((rd_T33 x1 x8).f0) = 5 then (if x290001 = x6 then (lw15_WindowBounds.j3 k x1 x6 x7 x8 (x290002 != x7) x269000 x269001 x269002 x269003 x269004 x269005) else (lw15_WindowBounds.j3 k x1 x6 x7 x8 true x269000 x269001 x269002 x269003 x269004 x269005)) else (lw15_WindowBounds.j3 k x1 x6 x7 x8 false x269000 x269001 x269002 x269003 x269004 x269005)))) else (if ((rd_T33 x1 x8).f0) = 4 then (if (x290003 != (decide (x10 ≤ ((Int.tdiv x6 2) % 4294967296)))) = true then (lw15_WindowBounds.j3 k x1 x6 x7 x8 true x269000 x269001 x269002 x269003 x269004 x269005) else (if ((rd_T33 x1 x8).f0) = 5 then (if x290001 = x6 then (lw15_WindowBounds.j3 k x1 x6 x7 x8 (x290002 != x7) x269000 x269001 x269002 x269003 x269004 x269005) else (lw15_WindowBounds.j3 k x1 x6 x7 x8 true x269000 x269001 x269002 x269003 x269004 x269005)) else (lw15_WindowBounds.j3 k x1 x6 x7 x8 false x269000 x269001 x269002 x269003 x269004 x269005))) else (if ((rd_T33 x1 x8).f0) = 5 then (if x290001 = x6 then (lw15_WindowBounds.j3 k x1 x6 x7 x8 (x290002 != x7) x269000 x269001 x269002 x269003 x269004 x269005) else (lw15_WindowBounds.j3 k x1 x6 x7 x8 true x269000 x269001 x269002 x269003 x269004 x269005)) else (lw15_WindowBounds.j3 k x1 x6 x7 x8 false x269000 x269001 x269002 x269003 x269004 x269005)))) else (if ((rd_T33 x1 x8).f0) = 4 then (if (x290003 != (decide (x10 ≤ ((Int.tdiv x6 2) % 4294967296)))) = true then (lw15_WindowBounds.j3 k x1 x6 x7 x8 true x269000 x269001 x269002 x269003 x269004 x269005) else (if ((rd_T33 x1 x8).f0) = 5 then (if x290001 = x6 then (lw15_WindowBounds.j3 k x1 x6 x7 x8 (x290002 != x7) x269000 x269001 x269002 x269003 x269004 x269005) else (lw15_WindowBounds.j3 k x1 x6 x7 x8 true x269000 x269001 x269002 x269003 x269004 x269005)) else (lw15_WindowBounds.j3 k x1 x6 x7 x8 false x269000 x269001 x269002 x269003 x269004 x269005))) else (if ((rd_T33 x1 x8).f0) = 5 then (if x290001 = x6 then (lw15_WindowBounds.j3 k x1 x6 x7 x8 (x290002 != x7) x269000 x269001 x269002 x269003 x269004 x269005) else (lw15_WindowBounds.j3 k x1 x6 x7 x8 true x269000 x269001 x269002 x269003 x269004 x269005)) else (lw15_WindowBounds.j3 k x1 x6 x7 x8 false x269000 x269001 x269002 x269003 x269004 x269005)))) else (none)) else (none)
def lw15_WindowBounds.j3 : Nat → List (S33) → Int → Int → Int → Bool → Int → Int → Int → Bool → Int → Int → Option (Bool)
  | 0, _, _, _, _, _, _, _, _, _, _, _ => none
  | k + 1, x1, x6, x7, x8, x115, x269000, x269001, x269002, x269003, x269004, x269005 => if x115 = true then (some false) else ((wi_Left.f x269000 x269001 x269002 x269003 x269004 x269005).bind fun bt301 => (if bt301.1 > 256 then (some false) else (if bt301.2.1 > x6 then (some false) else (lw15_WindowBounds.l0 k x1 x6 x7 (wrap64 (x8 + 1)) bt301.2.2.1 bt301.2.2.2.1 bt301.2.2.2.2.1 bt301.2.2.2.2.2.1 bt301.2.2.2.2.2.2.1 bt301.2.2.2.2.2.2.2))))
def lw15_WindowBounds.j1 : Nat → List (S33) → Int → Int → Int → Int → Bool → Int → Int → Int → Bool → Int → Int → Int → Int → Int → Bool → Option (Bool)
  | 0, _, _, _, _, _, _, _, _, _, _, _, _, _, _, _, _ => none
  | k + 1, x1, x6, x7, x8, x10, x60, x269000, x269001, x269002, x269003, x269004, x269005, x290000, x290001, x290002, x290003 => if x60 = true then (some false) else (if x290003 = true then (lw15_WindowBounds.j2 k x1 x6 ((x7 + 1) % 4294967296) x8 x10 x269000 x269001 x269002 x269003 x269004 x269005 x290000 x290001 x290002 x290003) else (lw15_WindowBounds.j2 k x1 x6 x7 x8 x10 x269000 x269001 x269002 x269003 x269004 x269005 x290000 x290001 x290002 x290003))
end
def lw15_WindowBounds.f (k : Nat) (a0 : Int) (l1 : List (S33)) : Option (Bool) := if (l1.length : Int) > 300 then ((lw15_works.f).bind fun t261 => (some t261)) else ((window_New.f a0).bind fun bt262 => (lw15_WindowBounds.l0 k l1 (mx 1 (mn a0 256)) 0 0 bt262.1 bt262.2.1 bt262.2.2.1 bt262.2.2.2.1 bt262.2.2.2.2.1 bt262.2.2.2.2.2))
theorem lw15_WindowBounds.mono_l : ∀ k, (∀ y0 y1 y2 y3 y4 y5 y6 y7 y8 y9, LeO (lw15_WindowBounds.l0 k y0 y1 y2 y3 y4 y5 y6 y7 y8 y9) (lw15_WindowBounds.l0 (k + 1) y0 y1 y2 y3 y4 y5 y6 y7 y8 y9)) ∧ (∀ y0 y1 y2 y3 y4 y5 y6 y7 y8 y9 y10 y11 y12 y13 y14, LeO (lw15_WindowBounds.j2 k y0 y1 y2 y3 y4 y5 y6 y7 y8 y9 y10 y11 y12 y13 y14) (lw15_WindowBounds.j2 (k + 1) y0 y1 y2 y3 y4 y5 y6 y7 y8 y9 y10 y11 y12 y13 y14)) ∧ (∀ y0 y1 y2 y3 y4 y5 y6 y7 y8 y9 y10, LeO (lw15_WindowBounds.j3 k y0 y1 y2 y3 y4 y5 y6 y7 y8 y9 y10) (lw15_WindowBounds.j3 (k + 1) y0 y1 y2 y3 y4 y5 y6 y7 y8 y9 y10)) ∧ (∀ y0 y1 y2 y3 y4 y5 y6 y7 y8 y9 y10 y11 y12 y13 y14 y15, LeO (lw15_WindowBounds.j1 k y0 y1 y2 y3 y4 y5 y6 y7 y8 y9 y10 y11 y12 y13 y14 y15) (lw15_WindowBounds.j1 (k + 1) y0 y1 y2 y3 y4 y5 y6 y7 y8 y9 y10 y11 y12 y13 y14 y15))
  | 0 => ⟨fun _ _ _ _ _ _ _ _ _ _ r h => by simp [lw15_WindowBounds.l0] at h, fun _ _ _ _ _ _ _ _ _ _ _ _ _ _ _ r h => by simp [lw15_WindowBounds.j2] at h, fun _ _ _ _ _ _ _ _ _ _ _ r h => by simp [lw15_WindowBounds.j3] at h, fun _ _ _ _ _ _ _ _ _ _ _ _ _ _ _ _ r h => by simp [lw15_WindowBounds.j1] at h⟩
  | k + 1 => by
    obtain ⟨ih0, ih1, ih2, ih3⟩ := lw15_WindowBounds.mono_l k
    refine ⟨?_, ?_, ?_, ?_⟩
    · intro y0 y1 y2 y3 y4 y5 y6 y7 y8 y9
      unfold lw15_WindowBounds.l0
      repeat' first
      | (with_reducible exact ih0 _ _ _ _ _ _ _ _ _ _)
      | (with_reducible exact ih1 _ _ _ _ _ _ _ _ _ _ _ _ _ _ _)
      | (with_reducible exact ih2 _ _ _ _ _ _ _ _ _ _ _)
      | (with_reducible exact ih3 _ _ _ _ _ _ _ _ _ _ _ _ _ _ _ _)
      | (with_reducible exact LeO.refl _)
      | (with_reducible exact LeO.none _)
      | (with_reducible refine LeO.ite ?_ ?_)
      | (with_reducible refine LeO.bind ?_ (fun _ => ?_))
      | exact ih0 _ _ _ _ _ _ _ _ _ _
      | exact ih1 _ _ _ _ _ _ _ _ _ _ _ _ _ _ _
      | exact ih2 _ _ _ _ _ _ _ _ _ _ _
      | exact ih3 _ _ _ _ _ _ _ _ _ _ _ _ _ _ _ _
      | exact LeO.none _
      | refine LeO.ite ?_ ?_
      | refine LeO.bind ?_ (fun _ => ?_)
    · intro y0 y1 y2 y3 y4 y5 y6 y7 y8 y9 y10 y11 y12 y13 y14
      unfold lw15_WindowBounds.j2
      repeat' first
      | (with_reducible exact ih0 _ _ _ _ _ _ _ _ _ _)
      | (with_reducible exact ih1 _ _ _ _ _ _ _ _ _ _ _ _ _ _ _)
      | (with_reducible exact ih2 _ _ _ _ _ _ _ _ _ _ _)
      | (with_reducible exact ih3 _ _ _ _ _ _ _ _ _ _ _ _ _ _ _ _)
      | (with_reducible exact LeO.refl _)
      | (with_reducible exact LeO.none _)
      | (with_reducible refine LeO.ite ?_ ?_)
      | (with_reducible refine LeO.bind ?_ (fun _ => ?_))
      | exact ih0 _ _ _ _ _ _ _ _ _ _
      | exact ih1 _ _ _ _ _ _ _ _ _ _ _ _ _ _ _
      | exact ih2 _ _ _ _ _ _ _ _ _ _ _
      | exact ih3 _ _ _ _ _ _ _ _ _ _ _ _ _ _ _ _
      | exact LeO.none _
      | refine LeO.ite ?_ ?_
      | refine LeO.bind ?_ (fun _ => ?_)
    · intro y0 y1 y2 y3 y4 y5 y6 y7 y8 y9 y10
      unfold lw15_WindowBounds.j3
      repeat' first
      | (with_reducible exact ih0 _ _ _ _ _ _ _ _ _ _)
      | (with_reducible exact ih1 _ _ _ _ _ _ _ _ _ _ _ _ _ _ _)
      | (with_reducible exact ih2 _ _ _ _ _ _ _ _ _ _ _)
      | (with_reducible exact ih3 _ _ _ _ _ _ _ _ _ _ _ _ _ _ _ _)
      | (with_reducible exact LeO.refl _)
      | (with_reducible exact LeO.none _)
      | (with_reducible refine LeO.ite ?_ ?_)
      | (with_reducible refine LeO.bind ?_ (fun _ => ?_))
      | exact ih0 _ _ _ _ _ _ _ _ _ _
      | exact ih1 _ _ _ _ _ _ _ _ _ _ _ _ _ _ _
      | exact ih2 _ _ _ _ _ _ _ _ _ _ _
      | exact ih3 _ _ _ _ _ _ _ _ _ _ _ _ _ _ _ _
      | exact LeO.none _
      | refine LeO.ite ?_ ?_
      | refine LeO.bind ?_ (fun _ => ?_)
    · intro y0 y1 y2 y3 y4 y5 y6 y7 y8 y9 y10 y11 y12 y13 y14 y15
      unfold lw15_WindowBounds.j1
      repeat' first
      | (with_reducible exact ih0 _ _ _ _ _ _ _ _ _ _)
      | (with_reducible exact ih1 _ _ _ _ _ _ _ _ _ _ _ _ _ _ _)
      | (with_reducible exact ih2 _ _ _ _ _ _ _ _ _ _ _)
      | (with_reducible exact ih3 _ _ _ _ _ _ _ _ _ _ _ _ _ _ _ _)
      | (with_reducible exact LeO.refl _)
      | (with_reducible exact LeO.none _)
      | (with_reducible refine LeO.ite ?_ ?_)
      | (with_reducible refine LeO.bind ?_ (fun _ => ?_))
      | exact ih0 _ _ _ _ _ _ _ _ _ _
      | exact ih1 _ _ _ _ _ _ _ _ _ _ _ _ _ _ _
      | exact ih2 _ _ _ _ _ _ _ _ _ _ _
      | exact ih3 _ _ _ _ _ _ _ _ _ _ _ _ _ _ _ _
      | exact LeO.none _
      | refine LeO.ite ?_ ?_
      | refine LeO.bind ?_ (fun _ => ?_)
theorem lw15_WindowBounds.mono : ∀ a0 a1 k, LeO (lw15_WindowBounds.f k a0 a1) (lw15_WindowBounds.f (k + 1) a0 a1) := by
  intro a0 a1 k
  obtain ⟨ih0, ih1, ih2, ih3⟩ := lw15_WindowBounds.mono_l k
  unfold lw15_WindowBounds.f
  repeat' first
      | (with_reducible exact ih0 _ _ _ _ _ _ _ _ _ _)
      | (with_reducible exact ih1 _ _ _ _ _ _ _ _ _ _ _ _ _ _ _)
      | (with_reducible exact ih2 _ _ _ _ _ _ _ _ _ _ _)
      | (with_reducible exact ih3 _ _ _ _ _ _ _ _ _ _ _ _ _ _ _ _)
      | (with_reducible exact LeO.refl _)
      | (with_reducible exact LeO.none _)
      | (with_reducible refine LeO.ite ?_ ?_)
      | (with_reducible refine LeO.bind ?_ (fun _ => ?_))
      | exact ih0 _ _ _ _ _ _ _ _ _ _
      | exact ih1 _ _ _ _ _ _ _ _ _ _ _ _ _ _ _
      | exact ih2 _ _ _ _ _ _ _ _ _ _ _
      | exact ih3 _ _ _ _ _ _ _ _ _ _ _ _ _ _ _ _
      | exact LeO.none _
      | refine LeO.ite ?_ ?_
      | refine LeO.bind ?_ (fun _ => ?_)
set_option maxHeartbeats 8000000 in
set_option maxRecDepth 100000 in
theorem lw15_WindowBounds.calls (k : Nat) (a0 : Int) (A1 : Option Addr) (c1 : Nat) (l1 : List (S33)) (r : Bool) (w : World) (hr1 : Kd.C k33 w A1 l1.length l1) (hc1 : l1.length ≤ c1) (h : lw15_WindowBounds.f k a0 l1 = some r) :
    Calls Try.prog 5 #[.int .u32 a0, .slice A1 l1.length c1] w fun e w' => e = .returned (.bool r) ∧ Below w.heap.size w w' := by
  have hu33 := Try.underlying33
  have hu30 := Try.underlying30
  have HR1 := Aside0.mk hr1
  have HC1 := Aside0.mk hc1
  clear hr1 hc1
  have HB := Aside0.mk (Below.refl w.heap.size w)
  have H : (if (l1.length : Int) > 300 then ((lw15_works.f).bind fun t261 => (some t261)) else ((window_New.f a0).bind fun bt262 => (lw15_WindowBounds.l0 k l1 (mx 1 (mn a0 256)) 0 0 bt262.1 bt262.2.1 bt262.2.2.1 bt262.2.2.2.1 bt262.2.2.2.2.1 bt262.2.2.2.2.2))) = some r := h
  clear h
  by_cases c3 : (l1.length : Int) > 300
  · rw [if_pos c3] at H
    have c3b0 : decide (300 < (l1.length : Int)) = true := decide_eq_true c3
    have c3b1 : decide (300 < l1.length) = true := decide_eq_true (by omega)
    clear c3
    replace H := Option.bind_eq_some_iff.mp H
    obtain ⟨t261, A40, H⟩ := H
    replace H : (some t261) = some r := H
    have A4 := Aside0.mk A40
    clear A40
    obtain rfl := Option.some.inj H
    go_enter Try.func5, Try.ntmps5
    go_wp2_with (first | ((with_reducible refine gate_callee (f := 9) rfl ?_); refine goesL_ (some 17) rfl rfl Try.func9 (by kernel_rfl) rfl #[] rfl (by (try simp only [List.map_toArray, List.map_cons, List.map_nil]); first | done | rfl | (simp only [List.length_drop, List.length_take]; rfl)) ?_; (with_reducible refine (lw15_works.calls  t261 _ A4.out).mono ?_); rintro e w5 ⟨rfl, hb⟩; refine ⟨_, rfl, ?_⟩; have n0_ := Aside0.mk (below_step (by repeat (first | (with_reducible first | exact HB.out | apply below_alloc | apply pw_below_drewN | apply below_drew1) | exact HB.out)) hb); clear HB; have HB := n0_; clear n0_; (try clear hb); (try clear hb2); (try clear hk); (try clear hi); (try clear hgw)))
    go_ret
    exact ⟨by first | rfl | (simp [errW_none, errW_some] <;> rfl) | (simp [*, errW_none, errW_some] <;> rfl), by repeat (first | (with_reducible first | exact HB.out | apply below_alloc | apply pw_below_drewN | apply below_drew1) | exact HB.out)⟩
  · rw [if_neg c3] at H
    have c3b0 : decide (300 < (l1.length : Int)) = false := decide_eq_false c3
    have c3b1 : decide (300 < l1.length) = false := decide_eq_false (by omega)
    clear c3
    replace H := Option.bind_eq_some_iff.mp H
    obtain ⟨⟨t262, t263, t264, t265, t266, t267⟩, A60, H⟩ := H
    replace H : (lw15_WindowBounds.l0 k l1 (mx 1 (mn a0 256)) 0 0 t262 t263 t264 t265 t266 t267) = some r := H
    have A6 := Aside0.mk A60
    clear A60
    obtain ⟨ji7, hji7⟩ : ∃ j_ : Int, (mn a0 256) = j_ := ⟨_, rfl⟩
    replace H : (lw15_WindowBounds.l0 k l1 (mx 1 (ji7)) 0 0 t262 t263 t264 t265 t266 t267) = some r := by first | (rw [hji7] at H; exact H) | (simp only [hji7] at H ⊢; exact H)
    (try rw [hji7] at A6)
    (try (have hji7h : ji7 ≤ 256 := by (rw [← hji7]; unfold mn; (repeat' split) <;> omega)))
    (try (have hji7g : ji7 ≤ 64 := by omega))
    have hji7_ : (if 256 < a0 then 256 else a0) = ji7 := hji7
    obtain ⟨ji8, hji8⟩ : ∃ j_ : Int, (mx 1 (ji7)) = j_ := ⟨_, rfl⟩
    replace H : (lw15_WindowBounds.l0 k l1 ji8 0 0 t262 t263 t264 t265 t266 t267) = some r := by first | (rw [hji8] at H; exact H) | (simp only [hji8] at H ⊢; exact H)
    (try rw [hji8] at A6)
    have hji8_ : (if 1 < (ji7) then (ji7) else 1) = ji8 := hji8
    have H' := Aside0.mk H
    clear H
    go_enter Try.func5, Try.ntmps5
    go_wp2_with (first | ((with_reducible refine gate_callee (f := 10) rfl ?_); refine goesL_ (some 19) rfl rfl Try.func10 (by kernel_rfl) rfl #[.int .u32 a0] rfl (by (try simp only [List.map_toArray, List.map_cons, List.map_nil]); first | done | rfl | (simp only [List.length_drop, List.length_take]; rfl)) ?_; (with_reducible refine (window_New.calls a0 t262 t263 t264 t265 t266 t267 w _ ?side1 A6.out).mono ?_); (case side1 => repeat (first | (with_reducible first | exact HB.out | apply below_alloc | apply pw_below_drewN | apply below_drew1) | exact HB.out)); rintro e w9 ⟨g268, rfl, hi, hb, hb2, hgw⟩; refine ⟨_, rfl, ?_⟩; have n0_ := Aside0.mk (hb); have n1_ := Aside0.mk (hi); clear HB; have HB := n0_; have HI268 := n1_; clear n0_ n1_; (try clear hb); (try clear hb2); (try clear hk); (try clear hi); (try clear hgw)))
    go_loopg [7, 8] k (fun kq v7 v8 w' => ∃ (x7_1 : Int) (x8_1 : Int) (x269000_1 : Int) (x269001_1 : Int) (x269002_1 : Int) (x269003_1 : Bool) (x269004_1 : Int) (x269005_1 : Int), v7 = .int .u32 x7_1 ∧ v8 = .int .i64 x8_1 ∧ Aside0 (lw15_WindowBounds.l0 kq l1 ji8 x7_1 x8_1 x269000_1 x269001_1 x269002_1 x269003_1 x269004_1 x269005_1 = some r) ∧ Aside0 (kq ≤ k) ∧ Aside0 (IsS57 w w' g268 x269000_1 x269001_1 x269002_1 x269003_1 x269004_1 x269005_1) ∧ Aside0 (Below w.heap.size w w'))
    case atStart => exact ⟨(0), (0), (t262), (t263), (t264), (t265), (t266), (t267), (by first | rfl | (simp; done) | (simp [*]; done)), (by first | rfl | (simp; done) | (simp [*]; done)), H', ⟨Nat.le_refl _⟩, ⟨by repeat (first | (with_reducible first | exact HI268.out | apply IsS57.alloc | apply IsS57.drewN | apply IsS57.drew | apply IsS57.set_0 | apply IsS57.set_1 | apply IsS57.set_2 | apply IsS57.set_3 | apply IsS57.set_4 | apply IsS57.set_5) | exact HI268.out)⟩, ⟨by repeat (first | (with_reducible first | exact HB.out | apply below_alloc | apply pw_below_drewN | apply below_drew1 | refine below_set ?_ (IsS57.ge HI268.out)) | exact HB.out)⟩⟩
    case round =>
      clear H'
      try clear c1
      try clear p2
      try clear c3
      try clear c3b0
      try clear c3b1
      try clear c5
      try clear c9
      obtain ⟨x7_1, x8_1, x269000_1, x269001_1, x269002_1, x269003_1, x269004_1, x269005_1, rfl, rfl, HA, HK1, HI268, HB⟩ := hrel
      cases gk with
      | zero => exact absurd HA.out (by simp [lw15_WindowBounds.l0])
      | succ k1 =>
        have H := HA.out
        clear HA
        simp only [lw15_WindowBounds.l0] at H
        by_cases c10 : x8_1 < (l1.length : Int)
        · rw [if_pos c10] at H
          have c10b0 : decide (x8_1 < (l1.length : Int)) = true := decide_eq_true c10
          clear c10
          replace H := Option.bind_eq_some_iff.mp H
          obtain ⟨⟨t270, t271, t272, t273, t274, t275, t276, t277⟩, A110, H⟩ := H
          replace H : (if 0 ≤ x8_1 then ((lw15_does.f t272 t273 t274 t275 t276 t277 ((rd_T33 l1 x8_1).f0) ((rd_T33 l1 x8_1).f1) ((rd_T33 l1 x8_1).f2) ((rd_T33 l1 x8_1).f3)).bind fun bt279 => (if ((rd_T33 l1 x8_1).f0) = 1 then (if (bt279.2.2.2.1 != (decide (t270 > 0))) = true then (lw15_WindowBounds.j1 k1 l1 ji8 x7_1 x8_1 t271 true bt279.2.2.2.2.1 bt279.2.2.2.2.2.1 bt279.2.2.2.2.2.2.1 bt279.2.2.2.2.2.2.2.1 bt279.2.2.2.2.2.2.2.2.1 bt279.2.2.2.2.2.2.2.2.2 bt279.1 bt279.2.1 bt279.2.2.1 bt279.2.2.2.1) else (if bt279.2.2.2.1 = true then (lw15_WindowBounds.j1 k1 l1 ji8 x7_1 x8_1 t271 (bt279.1 != x7_1) bt279.2.2.2.2.1 bt279.2.2.2.2.2.1 bt279.2.2.2.2.2.2.1 bt279.2.2.2.2.2.2.2.1 bt279.2.2.2.2.2.2.2.2.1 bt279.2.2.2.2.2.2.2.2.2 bt279.1 bt279.2.1 bt279.2.2.1 bt279.2.2.2.1) else (lw15_WindowBounds.j1 k1 l1 ji8 x7_1 x8_1 t271 false bt279.2.2.2.2.1 bt279.2.2.2.2.2.1 bt279.2.2.2.2.2.2.1 bt279.2.2.2.2.2.2.2.1 bt279.2.2.2.2.2.2.2.2.1 bt279.2.2.2.2.2.2.2.2.2 bt279.1 bt279.2.1 bt279.2.2.1 bt279.2.2.2.1))) else (lw15_WindowBounds.j2 k1 l1 ji8 x7_1 x8_1 t271 bt279.2.2.2.2.1 bt279.2.2.2.2.2.1 bt279.2.2.2.2.2.2.1 bt279.2.2.2.2.2.2.2.1 bt279.2.2.2.2.2.2.2.2.1 bt279.2.2.2.2.2.2.2.2.2 bt279.1 bt279.2.1 bt279.2.2.1 bt279.2.2.2.1))) else (none)) = some r := H
          have A11 := Aside0.mk A110
          clear A110
          by_cases c12 : 0 ≤ x8_1
          · rw [if_pos c12] at H
            have c12b0 : decide (0 ≤ x8_1) = true := decide_eq_true c12
            clear c12
            replace H := Option.bind_eq_some_iff.mp H
            obtain ⟨⟨t279, t280, t281, t282, t283, t284, t285, t286, t287, t288⟩, A130, H⟩ := H
            replace H : (if ((rd_T33 l1 x8_1).f0) = 1 then (if (t282 != (decide (t270 > 0))) = true then (lw15_WindowBounds.j1 k1 l1 ji8 x7_1 x8_1 t271 true t283 t284 t285 t286 t287 t288 t279 t280 t281 t282) else (if t282 = true then (lw15_WindowBounds.j1 k1 l1 ji8 x7_1 x8_1 t271 (t279 != x7_1) t283 t284 t285 t286 t287 t288 t279 t280 t281 t282) else (lw15_WindowBounds.j1 k1 l1 ji8 x7_1 x8_1 t271 false t283 t284 t285 t286 t287 t288 t279 t280 t281 t282))) else (lw15_WindowBounds.j2 k1 l1 ji8 x7_1 x8_1 t271 t283 t284 t285 t286 t287 t288 t279 t280 t281 t282)) = some r := H
            have A13 := Aside0.mk A130
            clear A130
            have HC14 := Aside0.mk H
            clear H
            go_upto_if 45 with (first | ((with_reducible refine gate_callee (f := 14) rfl ?_); refine goesL_ (some 31) rfl rfl Try.func14 (by kernel_rfl) rfl #[.pointer (some ⟨g268, 0, none⟩)] rfl (by (try simp only [List.map_toArray, List.map_cons, List.map_nil]); first | done | rfl | (simp only [List.length_drop, List.length_take]; rfl)) ?_; (with_reducible refine (wi_Left.calls g268 x269000_1 x269001_1 x269002_1 x269003_1 x269004_1 x269005_1 t270 t271 t272 t273 t274 t275 t276 t277 w _ ?side1 ?side2 A11.out).mono ?_); (case side1 => repeat (first | (with_reducible first | exact HI268.out | apply IsS57.alloc | apply IsS57.drewN | apply IsS57.drew | apply IsS57.set_0 | apply IsS57.set_1 | apply IsS57.set_2 | apply IsS57.set_3 | apply IsS57.set_4 | apply IsS57.set_5) | exact HI268.out)); (case side2 => repeat (first | (with_reducible first | exact HB.out | apply below_alloc | apply pw_below_drewN | apply below_drew1 | refine below_set ?_ (IsS57.ge HI268.out)) | exact HB.out)); rintro e w15 ⟨rfl, hi, hb, hk⟩; refine ⟨_, rfl, ?_⟩; have n0_ := Aside0.mk (hb); have n1_ := Aside0.mk (hi); clear HB; clear HI268; have HB := n0_; have HI268 := n1_; clear n0_ n1_; (try clear hb); (try clear hb2); (try clear hk); (try clear hi); (try clear hgw); have p278 : 0 ≤ (x8_1 : Int) := of_decide_eq_true (by first | (with_reducible assumption) | assumption); have q278 : x8_1 < (l1.length : Int) := of_decide_eq_true (by first | (with_reducible assumption) | assumption); obtain ⟨ad278, e278, hx278_0, hx278_1, hx278_2, hx278_3⟩ := at_T33 HR1.out x8_1 p278 q278; cases e278; replace hx278_0 := (HB.out.cell (World.block_lt_of_cell? w _ hx278_0)).trans hx278_0; replace hx278_1 := (HB.out.cell (World.block_lt_of_cell? w _ hx278_1)).trans hx278_1; replace hx278_2 := (HB.out.cell (World.block_lt_of_cell? w _ hx278_2)).trans hx278_2; replace hx278_3 := (HB.out.cell (World.block_lt_of_cell? w _ hx278_3)).trans hx278_3; replace p278 := eq_true p278; replace q278 := eq_true q278) | ((with_reducible refine gate_callee (f := 12) rfl ?_); refine goesL_ (some 39) rfl rfl Try.func12 (by kernel_rfl) rfl #[.pointer (some ⟨g268, 0, none⟩), .agg #[.int .i64 ((rd_T33 l1 x8_1).f0), .int .i64 ((rd_T33 l1 x8_1).f1), .int .u32 ((rd_T33 l1 x8_1).f2), .int .u32 ((rd_T33 l1 x8_1).f3)]] rfl (by (try simp only [List.map_toArray, List.map_cons, List.map_nil]); first | done | rfl | (simp only [List.length_drop, List.length_take]; rfl)) ?_; (with_reducible refine (lw15_does.calls g268 t272 t273 t274 t275 t276 t277 ((rd_T33 l1 x8_1).f0) ((rd_T33 l1 x8_1).f1) ((rd_T33 l1 x8_1).f2) ((rd_T33 l1 x8_1).f3) t279 t280 t281 t282 t283 t284 t285 t286 t287 t288 w _ ?side1 ?side2 A13.out).mono ?_); (case side1 => repeat (first | (with_reducible first | exact HI268.out | apply IsS57.alloc | apply IsS57.drewN | apply IsS57.drew | apply IsS57.set_0 | apply IsS57.set_1 | apply IsS57.set_2 | apply IsS57.set_3 | apply IsS57.set_4 | apply IsS57.set_5) | exact HI268.out)); (case side2 => repeat (first | (with_reducible first | exact HB.out | apply below_alloc | apply pw_below_drewN | apply below_drew1 | refine below_set ?_ (IsS57.ge HI268.out)) | exact HB.out)); rintro e w16 ⟨rfl, hi, hb, hk⟩; refine ⟨_, rfl, ?_⟩; have n0_ := Aside0.mk (hb); have n1_ := Aside0.mk (hi); clear HB; clear HI268; have HB := n0_; have HI268 := n1_; clear n0_ n1_; (try clear hb); (try clear hb2); (try clear hk); (try clear hi); (try clear hgw)) | ((with_reducible refine gate_dst (N := 11) rfl ?_); refine box_event ?hg (N := 11) ?hd (cs := #[.int .u32 0, .int .u32 0, .int .u32 0, .bool false]) (t := 30) ?hr ?_; (case hd => rfl); (case hg => rfl); (case hr => first | (go_simp; done) | (go_simp; rfl)); intro gb289 hg w17 hbox hb; have n0_ := Aside0.mk (IsS57.below (by repeat (first | (with_reducible first | exact HI268.out | apply IsS57.alloc | apply IsS57.drewN | apply IsS57.drew | apply IsS57.set_0 | apply IsS57.set_1 | apply IsS57.set_2 | apply IsS57.set_3 | apply IsS57.set_4 | apply IsS57.set_5) | exact HI268.out)) hb); have n1_ := Aside0.mk (below_step (by repeat (first | (with_reducible first | exact HB.out | apply below_alloc | apply pw_below_drewN | apply below_drew1 | refine below_set ?_ (IsS57.ge HI268.out)) | exact HB.out)) hb); have n2_ := Aside0.mk (hbox); have n3_ := Aside0.mk ((by rw [hg]; exact (below_size (by repeat (first | (with_reducible first | exact HB.out | apply below_alloc | apply pw_below_drewN | apply below_drew1 | refine below_set ?_ (IsS57.ge HI268.out)) | exact HB.out))) : w.heap.size ≤ gb289)); have n4_ := Aside0.mk ((by rw [hg]; exact (below_size (by repeat (first | (with_reducible first | exact HB.out | apply below_alloc | apply pw_below_drewN | apply below_drew1 | refine below_set ?_ (IsS57.ge HI268.out)) | exact HB.out))) : w.heap.size ≤ gb289)); have n5_ := Aside0.mk ((by rw [hg]; exact Nat.ne_of_lt (IsS57.lt (show IsS57 w _ g268 t283 t284 t285 t286 t287 t288 from by repeat (first | (with_reducible first | exact HI268.out | apply IsS57.alloc | apply IsS57.drewN | apply IsS57.drew | apply IsS57.set_0 | apply IsS57.set_1 | apply IsS57.set_2 | apply IsS57.set_3 | apply IsS57.set_4 | apply IsS57.set_5) | exact HI268.out))) : g268 ≠ gb289)); have n6_ := Aside0.mk ((by rw [hg]; exact Nat.ne_of_gt (IsS57.lt (show IsS57 w _ g268 t283 t284 t285 t286 t287 t288 from by repeat (first | (with_reducible first | exact HI268.out | apply IsS57.alloc | apply IsS57.drewN | apply IsS57.drew | apply IsS57.set_0 | apply IsS57.set_1 | apply IsS57.set_2 | apply IsS57.set_3 | apply IsS57.set_4 | apply IsS57.set_5) | exact HI268.out))) : gb289 ≠ g268)); clear HI268; clear HB; have HI268 := n0_; have HB := n1_; have BK289 := n2_; have GW289 := n3_; have GE289 := n4_; have NB268_289 := n5_; have NB289_268 := n6_; clear n0_ n1_ n2_ n3_ n4_ n5_ n6_; clear hb hbox hg; have hnb18 := NB289_268.out; have hnc18 := NB268_289.out; have hcz19_0 : w17.cell? ⟨gb289, 0, none⟩ = some (.int .u32 0) := (blk_cell BK289.out 0).trans rfl; have hcz19_1 : w17.cell? ⟨gb289, 1, none⟩ = some (.int .u32 0) := (blk_cell BK289.out 1).trans rfl; have hcz19_2 : w17.cell? ⟨gb289, 2, none⟩ = some (.int .u32 0) := (blk_cell BK289.out 2).trans rfl; have hcz19_3 : w17.cell? ⟨gb289, 3, none⟩ = some (.bool false) := (blk_cell BK289.out 3).trans rfl; have hfz19_0 := blk_frozen BK289.out 0; have hfz19_1 := blk_frozen BK289.out 1; have hfz19_2 := blk_frozen BK289.out 2; have hfz19_3 := blk_frozen BK289.out 3; have p290 : 0 ≤ (x8_1 : Int) := of_decide_eq_true (by first | (with_reducible assumption) | assumption); have q290 : x8_1 < (l1.length : Int) := of_decide_eq_true (by first | (with_reducible assumption) | assumption); obtain ⟨ad290, e290, hx290_0, hx290_1, hx290_2, hx290_3⟩ := at_T33 HR1.out x8_1 p290 q290; obtain rfl : ad278 = ad290 := (by injection e290); have hn290_0 : ad278.block ≠ gb289 := Nat.ne_of_lt (Nat.lt_of_lt_of_le (by have := World.block_lt_of_cell? _ _ hx290_0; first | rwa [add_block] at this | exact this) GW289.out); have hn290_1 : ad278.block ≠ gb289 := Nat.ne_of_lt (Nat.lt_of_lt_of_le (by have := World.block_lt_of_cell? _ _ hx290_0; first | rwa [add_block] at this | exact this) GW289.out); have hn290_2 : ad278.block ≠ gb289 := Nat.ne_of_lt (Nat.lt_of_lt_of_le (by have := World.block_lt_of_cell? _ _ hx290_0; first | rwa [add_block] at this | exact this) GW289.out); have hn290_3 : ad278.block ≠ gb289 := Nat.ne_of_lt (Nat.lt_of_lt_of_le (by have := World.block_lt_of_cell? _ _ hx290_0; first | rwa [add_block] at this | exact this) GW289.out); replace hx290_0 := (HB.out.cell (World.block_lt_of_cell? w _ hx290_0)).trans hx290_0; replace hx290_1 := (HB.out.cell (World.block_lt_of_cell? w _ hx290_1)).trans hx290_1; replace hx290_2 := (HB.out.cell (World.block_lt_of_cell? w _ hx290_2)).trans hx290_2; replace hx290_3 := (HB.out.cell (World.block_lt_of_cell? w _ hx290_3)).trans hx290_3; replace hx290_0 := (cell_far (p := ⟨gb289, 0, none⟩) (by first | (rw [add_block]; exact hn290_0) | (show (Addr.add _ _).block ≠ _; rw [add_block]; exact hn290_0) | exact hn290_0) (.int .u32 t279)).trans hx290_0; replace hx290_1 := (cell_far (p := ⟨gb289, 0, none⟩) (by first | (rw [add_block]; exact hn290_0) | (show (Addr.add _ _).block ≠ _; rw [add_block]; exact hn290_0) | exact hn290_0) (.int .u32 t279)).trans hx290_1; replace hx290_2 := (cell_far (p := ⟨gb289, 0, none⟩) (by first | (rw [add_block]; exact hn290_0) | (show (Addr.add _ _).block ≠ _; rw [add_block]; exact hn290_0) | exact hn290_0) (.int .u32 t279)).trans hx290_2; replace hx290_3 := (cell_far (p := ⟨gb289, 0, none⟩) (by first | (rw [add_block]; exact hn290_0) | (show (Addr.add _ _).block ≠ _; rw [add_block]; exact hn290_0) | exact hn290_0) (.int .u32 t279)).trans hx290_3; replace hx290_0 := (cell_far (p := ⟨gb289, 1, none⟩) (by first | (rw [add_block]; exact hn290_1) | (show (Addr.add _ _).block ≠ _; rw [add_block]; exact hn290_1) | exact hn290_1) (.int .u32 t280)).trans hx290_0; replace hx290_1 := (cell_far (p := ⟨gb289, 1, none⟩) (by first | (rw [add_block]; exact hn290_1) | (show (Addr.add _ _).block ≠ _; rw [add_block]; exact hn290_1) | exact hn290_1) (.int .u32 t280)).trans hx290_1; replace hx290_2 := (cell_far (p := ⟨gb289, 1, none⟩) (by first | (rw [add_block]; exact hn290_1) | (show (Addr.add _ _).block ≠ _; rw [add_block]; exact hn290_1) | exact hn290_1) (.int .u32 t280)).trans hx290_2; replace hx290_3 := (cell_far (p := ⟨gb289, 1, none⟩) (by first | (rw [add_block]; exact hn290_1) | (show (Addr.add _ _).block ≠ _; rw [add_block]; exact hn290_1) | exact hn290_1) (.int .u32 t280)).trans hx290_3; replace hx290_0 := (cell_far (p := ⟨gb289, 2, none⟩) (by first | (rw [add_block]; exact hn290_2) | (show (Addr.add _ _).block ≠ _; rw [add_block]; exact hn290_2) | exact hn290_2) (.int .u32 t281)).trans hx290_0; replace hx290_1 := (cell_far (p := ⟨gb289, 2, none⟩) (by first | (rw [add_block]; exact hn290_2) | (show (Addr.add _ _).block ≠ _; rw [add_block]; exact hn290_2) | exact hn290_2) (.int .u32 t281)).trans hx290_1; replace hx290_2 := (cell_far (p := ⟨gb289, 2, none⟩) (by first | (rw [add_block]; exact hn290_2) | (show (Addr.add _ _).block ≠ _; rw [add_block]; exact hn290_2) | exact hn290_2) (.int .u32 t281)).trans hx290_2; replace hx290_3 := (cell_far (p := ⟨gb289, 2, none⟩) (by first | (rw [add_block]; exact hn290_2) | (show (Addr.add _ _).block ≠ _; rw [add_block]; exact hn290_2) | exact hn290_2) (.int .u32 t281)).trans hx290_3; replace hx290_0 := (cell_far (p := ⟨gb289, 3, none⟩) (by first | (rw [add_block]; exact hn290_3) | (show (Addr.add _ _).block ≠ _; rw [add_block]; exact hn290_3) | exact hn290_3) (.bool t282)).trans hx290_0; replace hx290_1 := (cell_far (p := ⟨gb289, 3, none⟩) (by first | (rw [add_block]; exact hn290_3) | (show (Addr.add _ _).block ≠ _; rw [add_block]; exact hn290_3) | exact hn290_3) (.bool t282)).trans hx290_1; replace hx290_2 := (cell_far (p := ⟨gb289, 3, none⟩) (by first | (rw [add_block]; exact hn290_3) | (show (Addr.add _ _).block ≠ _; rw [add_block]; exact hn290_3) | exact hn290_3) (.bool t282)).trans hx290_2; replace hx290_3 := (cell_far (p := ⟨gb289, 3, none⟩) (by first | (rw [add_block]; exact hn290_3) | (show (Addr.add _ _).block ≠ _; rw [add_block]; exact hn290_3) | exact hn290_3) (.bool t282)).trans hx290_3; clear hn290_0; clear hn290_1; clear hn290_2; clear hn290_3; replace p290 := eq_true p290; replace q290 := eq_true q290))
            (try simp only [Act.put, List.setIfInBounds_toArray, List.set_cons_zero, List.set_cons_succ])
            go_cut [7] (fun v7 wc => ∃ (kq : Nat) (x7_13 : Int), v7 = .int .u32 x7_13 ∧ Aside0 (lw15_WindowBounds.j2 kq l1 ji8 x7_13 x8_1 t271 t283 t284 t285 t286 t287 t288 t279 t280 t281 t282 = some r) ∧ Aside0 (kq ≤ k1) ∧ Aside0 (wc.heap[gb289]? = some (.cells #[.int .u32 t279, .int .u32 t280, .int .u32 t281, .bool t282] 30 (0, 0))) ∧ Aside0 (IsS57 w wc g268 t283 t284 t285 t286 t287 t288) ∧ Aside0 (Below w.heap.size w wc))
            case first =>
              have H := HC14.out
              clear HC14
              by_cases c20 : ((rd_T33 l1 x8_1).f0) = 1
              · rw [if_pos c20] at H
                have c20b0 : (((rd_T33 l1 x8_1).f0) == 1) = true := beq_iff_eq.mpr c20
                have c20b1 : (((rd_T33 l1 x8_1).f0) != 1) = false := bne_eq_false_iff_eq.mpr c20
                clear c20
                (first | rw [c20b0] | (simp only [i64_w, i32_w]; rw [c20b0]) | skip)
                have HC21 := Aside0.mk H
                clear H
                go_upto_region 12 with (fail)
                go_cut [60] (fun v60 wc => ∃ (kq : Nat) (x60_20 : Bool), v60 = .bool x60_20 ∧ Aside0 (lw15_WindowBounds.j1 kq l1 ji8 x7_1 x8_1 t271 x60_20 t283 t284 t285 t286 t287 t288 t279 t280 t281 t282 = some r) ∧ Aside0 (kq ≤ k1) ∧ Aside0 (wc.heap[gb289]? = some (.cells #[.int .u32 t279, .int .u32 t280, .int .u32 t281, .bool t282] 30 (0, 0))) ∧ Aside0 (IsS57 w wc g268 t283 t284 t285 t286 t287 t288) ∧ Aside0 (Below w.heap.size w wc))
                case first =>
                  have H := HC21.out
                  clear HC21
                  by_cases c22 : (t282 != (decide (t270 > 0))) = true
                  · rw [if_pos c22] at H
                    have c22b0 : (t282 != (decide (t270 > 0))) = true := c22
                    (try (have c22b1 : decide (t282 = (decide (t270 > 0))) = false := by simpa using c22))
                    (try (have c22b2 : (t282 == (decide (t270 > 0))) = false := by simpa using c22))
                    (try (have c22b3 : ¬ (t282 = (decide (t270 > 0))) := by simpa using c22))
                    clear c22
                    (first | rw [c22b0] | (simp only [i64_w, i32_w]; rw [c22b0]) | skip)
                    have H' := Aside0.mk H
                    clear H
                    have hnb23 := NB289_268.out
                    have hnc23 := NB268_289.out
                    have hcz24_0 : w17.cell? ⟨gb289, 0, none⟩ = some (.int .u32 0) := (blk_cell BK289.out 0).trans rfl
                    have hcz24_1 : w17.cell? ⟨gb289, 1, none⟩ = some (.int .u32 0) := (blk_cell BK289.out 1).trans rfl
                    have hcz24_2 : w17.cell? ⟨gb289, 2, none⟩ = some (.int .u32 0) := (blk_cell BK289.out 2).trans rfl
                    have hcz24_3 : w17.cell? ⟨gb289, 3, none⟩ = some (.bool false) := (blk_cell BK289.out 3).trans rfl
                    have hfz24_0 := blk_frozen BK289.out 0
                    have hfz24_1 := blk_frozen BK289.out 1
                    have hfz24_2 := blk_frozen BK289.out 2
                    have hfz24_3 := blk_frozen BK289.out 3
                    go_wp2
                    go_meet
                    case rel => exact ⟨_, (true), (by first | rfl | (simp; done) | (simp [*]; done)), H', ⟨by have := HK1.out; first | omega | exact Nat.le_refl _⟩, ⟨by (with_reducible repeat (first | refine blk_drewN ?_ _ | refine blk_drew ?_ | refine blk_alloc ?_ _)); refine blk_put (cs := #[.int .u32 t279, .int .u32 t280, .int .u32 t281, .bool false]) ?_ 3 _ rfl; (with_reducible repeat (first | refine blk_drewN ?_ _ | refine blk_drew ?_ | refine blk_alloc ?_ _)); refine blk_put (cs := #[.int .u32 t279, .int .u32 t280, .int .u32 0, .bool false]) ?_ 2 _ rfl; (with_reducible repeat (first | refine blk_drewN ?_ _ | refine blk_drew ?_ | refine blk_alloc ?_ _)); refine blk_put (cs := #[.int .u32 t279, .int .u32 0, .int .u32 0, .bool false]) ?_ 1 _ rfl; (with_reducible repeat (first | refine blk_drewN ?_ _ | refine blk_drew ?_ | refine blk_alloc ?_ _)); refine blk_put (cs := #[.int .u32 0, .int .u32 0, .int .u32 0, .bool false]) ?_ 0 _ rfl; (with_reducible repeat (first | refine blk_drewN ?_ _ | refine blk_drew ?_ | refine blk_alloc ?_ _)); exact BK289.out⟩, ⟨by repeat (first | (with_reducible first | exact HI268.out | apply IsS57.alloc | apply IsS57.drewN | apply IsS57.drew | apply IsS57.set_0 | apply IsS57.set_1 | apply IsS57.set_2 | apply IsS57.set_3 | apply IsS57.set_4 | apply IsS57.set_5 | refine IsS57.far ?_ NB268_289.out _) | exact HI268.out)⟩, ⟨by repeat (first | (with_reducible first | exact HB.out | apply below_alloc | apply pw_below_drewN | apply below_drew1 | refine below_set ?_ (IsS57.ge HI268.out) | refine below_set ?_ GE289.out) | exact HB.out)⟩⟩
                  · rw [if_neg c22] at H
                    have c22b0 : (t282 != (decide (t270 > 0))) = false := by simpa using c22
                    (try (have c22b1 : decide (t282 = (decide (t270 > 0))) = true := by simpa using c22))
                    (try (have c22b2 : (t282 == (decide (t270 > 0))) = true := by simpa using c22))
                    clear c22
                    (first | rw [c22b0] | (simp only [i64_w, i32_w]; rw [c22b0]) | skip)
                    by_cases c25 : t282 = true
                    · subst c25
                      have H1 : (lw15_WindowBounds.j1 k1 l1 ji8 x7_1 x8_1 t271 (t279 != x7_1) t283 t284 t285 t286 t287 t288 t279 t280 t281 true) = some r := by rw [if_pos rfl] at H; exact H
                      clear H
                      have H := H1
                      clear H1
                      have H' := Aside0.mk H
                      clear H
                      have hnb26 := NB289_268.out
                      have hnc26 := NB268_289.out
                      have hcz27_0 : w17.cell? ⟨gb289, 0, none⟩ = some (.int .u32 0) := (blk_cell BK289.out 0).trans rfl
                      have hcz27_1 : w17.cell? ⟨gb289, 1, none⟩ = some (.int .u32 0) := (blk_cell BK289.out 1).trans rfl
                      have hcz27_2 : w17.cell? ⟨gb289, 2, none⟩ = some (.int .u32 0) := (blk_cell BK289.out 2).trans rfl
                      have hcz27_3 : w17.cell? ⟨gb289, 3, none⟩ = some (.bool false) := (blk_cell BK289.out 3).trans rfl
                      have hfz27_0 := blk_frozen BK289.out 0
                      have hfz27_1 := blk_frozen BK289.out 1
                      have hfz27_2 := blk_frozen BK289.out 2
                      have hfz27_3 := blk_frozen BK289.out 3
                      go_wp2
                      go_meet
                      case rel => exact ⟨_, ((t279 != x7_1)), (by first | rfl | (simp; done) | (simp [*]; done)), H', ⟨by have := HK1.out; first | omega | exact Nat.le_refl _⟩, ⟨by (with_reducible repeat (first | refine blk_drewN ?_ _ | refine blk_drew ?_ | refine blk_alloc ?_ _)); refine blk_put (cs := #[.int .u32 t279, .int .u32 t280, .int .u32 t281, .bool false]) ?_ 3 _ rfl; (with_reducible repeat (first | refine blk_drewN ?_ _ | refine blk_drew ?_ | refine blk_alloc ?_ _)); refine blk_put (cs := #[.int .u32 t279, .int .u32 t280, .int .u32 0, .bool false]) ?_ 2 _ rfl; (with_reducible repeat (first | refine blk_drewN ?_ _ | refine blk_drew ?_ | refine blk_alloc ?_ _)); refine blk_put (cs := #[.int .u32 t279, .int .u32 0, .int .u32 0, .bool false]) ?_ 1 _ rfl; (with_reducible repeat (first | refine blk_drewN ?_ _ | refine blk_drew ?_ | refine blk_alloc ?_ _)); refine blk_put (cs := #[.int .u32 0, .int .u32 0, .int .u32 0, .bool false]) ?_ 0 _ rfl; (with_reducible repeat (first | refine blk_drewN ?_ _ | refine blk_drew ?_ | refine blk_alloc ?_ _)); exact BK289.out⟩, ⟨by repeat (first | (with_reducible first | exact HI268.out | apply IsS57.alloc | apply IsS57.drewN | apply IsS57.drew | apply IsS57.set_0 | apply IsS57.set_1 | apply IsS57.set_2 | apply IsS57.set_3 | apply IsS57.set_4 | apply IsS57.set_5 | refine IsS57.far ?_ NB268_289.out _) | exact HI268.out)⟩, ⟨by repeat (first | (with_reducible first | exact HB.out | apply below_alloc | apply pw_below_drewN | apply below_drew1 | refine below_set ?_ (IsS57.ge HI268.out) | refine below_set ?_ GE289.out) | exact HB.out)⟩⟩
                    · replace c25 := Bool.eq_false_iff.mpr c25
                      subst c25
                      have H1 : (lw15_WindowBounds.j1 k1 l1 ji8 x7_1 x8_1 t271 false t283 t284 t285 t286 t287 t288 t279 t280 t281 false) = some r := by rw [if_neg (show ¬ (false = true) by decide)] at H; exact H
                      clear H
                      have H := H1
                      clear H1
                      have H' := Aside0.mk H
                      clear H
                      have hnb28 := NB289_268.out
                      have hnc28 := NB268_289.out
                      have hcz29_0 : w17.cell? ⟨gb289, 0, none⟩ = some (.int .u32 0) := (blk_cell BK289.out 0).trans rfl
                      have hcz29_1 : w17.cell? ⟨gb289, 1, none⟩ = some (.int .u32 0) := (blk_cell BK289.out 1).trans rfl
                      have hcz29_2 : w17.cell? ⟨gb289, 2, none⟩ = some (.int .u32 0) := (blk_cell BK289.out 2).trans rfl
                      have hcz29_3 : w17.cell? ⟨gb289, 3, none⟩ = some (.bool false) := (blk_cell BK289.out 3).trans rfl
                      have hfz29_0 := blk_frozen BK289.out 0
                      have hfz29_1 := blk_frozen BK289.out 1
                      have hfz29_2 := blk_frozen BK289.out 2
                      have hfz29_3 := blk_frozen BK289.out 3
                      go_wp2
                      go_meet
                      case rel => exact ⟨_, (false), (by first | rfl | (simp; done) | (simp [*]; done)), H', ⟨by have := HK1.out; first | omega | exact Nat.le_refl _⟩, ⟨by (with_reducible repeat (first | refine blk_drewN ?_ _ | refine blk_drew ?_ | refine blk_alloc ?_ _)); refine blk_put (cs := #[.int .u32 t279, .int .u32 t280, .int .u32 t281, .bool false]) ?_ 3 _ rfl; (with_reducible repeat (first | refine blk_drewN ?_ _ | refine blk_drew ?_ | refine blk_alloc ?_ _)); refine blk_put (cs := #[.int .u32 t279, .int .u32 t280, .int .u32 0, .bool false]) ?_ 2 _ rfl; (with_reducible repeat (first | refine blk_drewN ?_ _ | refine blk_drew ?_ | refine blk_alloc ?_ _)); refine blk_put (cs := #[.int .u32 t279, .int .u32 0, .int .u32 0, .bool false]) ?_ 1 _ rfl; (with_reducible repeat (first | refine blk_drewN ?_ _ | refine blk_drew ?_ | refine blk_alloc ?_ _)); refine blk_put (cs := #[.int .u32 0, .int .u32 0, .int .u32 0, .bool false]) ?_ 0 _ rfl; (with_reducible repeat (first | refine blk_drewN ?_ _ | refine blk_drew ?_ | refine blk_alloc ?_ _)); exact BK289.out⟩, ⟨by repeat (first | (with_reducible first | exact HI268.out | apply IsS57.alloc | apply IsS57.drewN | apply IsS57.drew | apply IsS57.set_0 | apply IsS57.set_1 | apply IsS57.set_2 | apply IsS57.set_3 | apply IsS57.set_4 | apply IsS57.set_5 | refine IsS57.far ?_ NB268_289.out _) | exact HI268.out)⟩, ⟨by repeat (first | (with_reducible first | exact HB.out | apply below_alloc | apply pw_below_drewN | apply below_drew1 | refine below_set ?_ (IsS57.ge HI268.out) | refine below_set ?_ GE289.out) | exact HB.out)⟩⟩
                case rest =>
                  clear HC21
                  try clear c1
                  try clear c2
                  try clear p2
                  try clear q2
                  try clear hx2
                  try clear c3
                  try clear c3b0
                  try clear c3b1
                  try clear c5
                  try clear c9
                  try clear c10
                  try clear c10b0
                  try clear c12
                  try clear c12b0
                  try clear c14
                  try clear c18
                  try clear c20
                  try clear c20b0
                  try clear c20b1
                  try clear c22
                  try clear c22b0
                  try clear c22b1
                  try clear c22b2
                  try clear c23
                  try clear c25
                  try clear c26
                  try clear p27
                  try clear q27
                  try clear hx27
                  try clear c28
                  try clear p29
                  try clear q29
                  try clear hx29
                  try clear hcz19_0
                  try clear hcz19_1
                  try clear hcz19_2
                  try clear hcz19_3
                  try clear hcz24_0
                  try clear hcz24_1
                  try clear hcz24_2
                  try clear hcz24_3
                  try clear hcz27_0
                  try clear hcz27_1
                  try clear hcz27_2
                  try clear hcz27_3
                  try clear hcz29_0
                  try clear hcz29_1
                  try clear hcz29_2
                  try clear hcz29_3
                  try clear hfz19_0
                  try clear hfz19_1
                  try clear hfz19_2
                  try clear hfz19_3
                  try clear hfz24_0
                  try clear hfz24_1
                  try clear hfz24_2
                  try clear hfz24_3
                  try clear hfz27_0
                  try clear hfz27_1
                  try clear hfz27_2
                  try clear hfz27_3
                  try clear hfz29_0
                  try clear hfz29_1
                  try clear hfz29_2
                  try clear hfz29_3
                  try clear hx278_0
                  try clear hx278_1
                  try clear hx278_2
                  try clear hx278_3
                  try clear hx290_0
                  try clear hx290_1
                  try clear hx290_2
                  try clear hx290_3
                  try clear p2
                  try clear p278
                  try clear p290
                  try clear q278
                  try clear q290
                  obtain ⟨kq, x60_20, rfl, HA, HJ20, BK289, HI268, HB⟩ := hcut
                  cases kq with
                  | zero => exact absurd HA.out (by simp [lw15_WindowBounds.j1])
                  | succ kj20 =>
                    have H := HA.out
                    clear HA
                    simp only [lw15_WindowBounds.j1] at H
                    by_cases c30 : x60_20 = true
                    · subst c30
                      have H1 : (some false) = some r := by rw [if_pos rfl] at H; exact H
                      clear H
                      have H := H1
                      clear H1
                      obtain rfl := Option.some.inj H
                      go_wp2
                      go_ret
                      exact ⟨by first | rfl | (simp [errW_none, errW_some] <;> rfl) | (simp only [← hji7, ← hji8]; first | rfl | (simp [errW_none, errW_some] <;> rfl)) | (simp [*, errW_none, errW_some] <;> rfl), by repeat (first | (with_reducible first | exact HB.out | apply below_alloc | apply pw_below_drewN | apply below_drew1 | refine below_set ?_ (IsS57.ge HI268.out) | refine below_set ?_ GE289.out) | exact HB.out)⟩
                    · replace c30 := Bool.eq_false_iff.mpr c30
                      subst c30
                      have H1 : (if t282 = true then (lw15_WindowBounds.j2 kj20 l1 ji8 ((x7_1 + 1) % 4294967296) x8_1 t271 t283 t284 t285 t286 t287 t288 t279 t280 t281 t282) else (lw15_WindowBounds.j2 kj20 l1 ji8 x7_1 x8_1 t271 t283 t284 t285 t286 t287 t288 t279 t280 t281 t282)) = some r := by rw [if_neg (show ¬ (false = true) by decide)] at H; exact H
                      clear H
                      have H := H1
                      clear H1
                      by_cases c31 : t282 = true
                      · subst c31
                        have H1 : (lw15_WindowBounds.j2 kj20 l1 ji8 ((x7_1 + 1) % 4294967296) x8_1 t271 t283 t284 t285 t286 t287 t288 t279 t280 t281 true) = some r := by rw [if_pos rfl] at H; exact H
                        clear H
                        have H := H1
                        clear H1
                        have H' := Aside0.mk H
                        clear H
                        have hnb32 := NB289_268.out
                        have hnc32 := NB268_289.out
                        have hcz33_0 : wc.cell? ⟨gb289, 0, none⟩ = some (.int .u32 t279) := (blk_cell BK289.out 0).trans rfl
                        have hcz33_1 : wc.cell? ⟨gb289, 1, none⟩ = some (.int .u32 t280) := (blk_cell BK289.out 1).trans rfl
                        have hcz33_2 : wc.cell? ⟨gb289, 2, none⟩ = some (.int .u32 t281) := (blk_cell BK289.out 2).trans rfl
                        have hcz33_3 : wc.cell? ⟨gb289, 3, none⟩ = some (.bool true) := (blk_cell BK289.out 3).trans rfl
                        have hfz33_0 := blk_frozen BK289.out 0
                        have hfz33_1 := blk_frozen BK289.out 1
                        have hfz33_2 := blk_frozen BK289.out 2
                        have hfz33_3 := blk_frozen BK289.out 3
                        go_wp2
                        go_meet
                        case rel => exact ⟨_, ((x7_1 + 1) % 4294967296), (by first | rfl | (simp; done) | (simp [*]; done)), H', ⟨by have := HK1.out; have := HJ20.out; first | omega | exact Nat.le_refl _⟩, ⟨by (with_reducible repeat (first | refine blk_drewN ?_ _ | refine blk_drew ?_ | refine blk_alloc ?_ _)); exact BK289.out⟩, ⟨by repeat (first | (with_reducible first | exact HI268.out | apply IsS57.alloc | apply IsS57.drewN | apply IsS57.drew | apply IsS57.set_0 | apply IsS57.set_1 | apply IsS57.set_2 | apply IsS57.set_3 | apply IsS57.set_4 | apply IsS57.set_5 | refine IsS57.far ?_ NB268_289.out _) | exact HI268.out)⟩, ⟨by repeat (first | (with_reducible first | exact HB.out | apply below_alloc | apply pw_below_drewN | apply below_drew1 | refine below_set ?_ (IsS57.ge HI268.out) | refine below_set ?_ GE289.out) | exact HB.out)⟩⟩
                      · replace c31 := Bool.eq_false_iff.mpr c31
                        subst c31
                        have H1 : (lw15_WindowBounds.j2 kj20 l1 ji8 x7_1 x8_1 t271 t283 t284 t285 t286 t287 t288 t279 t280 t281 false) = some r := by rw [if_neg (show ¬ (false = true) by decide)] at H; exact H
                        clear H
                        have H := H1
                        clear H1
                        have H' := Aside0.mk H
                        clear H
                        have hnb34 := NB289_268.out
                        have hnc34 := NB268_289.out
                        have hcz35_0 : wc.cell? ⟨gb289, 0, none⟩ = some (.int .u32 t279) := (blk_cell BK289.out 0).trans rfl
                        have hcz35_1 : wc.cell? ⟨gb289, 1, none⟩ = some (.int .u32 t280) := (blk_cell BK289.out 1).trans rfl
                        have hcz35_2 : wc.cell? ⟨gb289, 2, none⟩ = some (.int .u32 t281) := (blk_cell BK289.out 2).trans rfl
                        have hcz35_3 : wc.cell? ⟨gb289, 3, none⟩ = some (.bool false) := (blk_cell BK289.out 3).trans rfl
                        have hfz35_0 := blk_frozen BK289.out 0
                        have hfz35_1 := blk_frozen BK289.out 1
                        have hfz35_2 := blk_frozen BK289.out 2
                        have hfz35_3 := blk_frozen BK289.out 3
                        go_wp2
                        go_meet
                        case rel => exact ⟨_, (x7_1), (by first | rfl | (simp; done) | (simp [*]; done)), H', ⟨by have := HK1.out; have := HJ20.out; first | omega | exact Nat.le_refl _⟩, ⟨by (with_reducible repeat (first | refine blk_drewN ?_ _ | refine blk_drew ?_ | refine blk_alloc ?_ _)); exact BK289.out⟩, ⟨by repeat (first | (with_reducible first | exact HI268.out | apply IsS57.alloc | apply IsS57.drewN | apply IsS57.drew | apply IsS57.set_0 | apply IsS57.set_1 | apply IsS57.set_2 | apply IsS57.set_3 | apply IsS57.set_4 | apply IsS57.set_5 | refine IsS57.far ?_ NB268_289.out _) | exact HI268.out)⟩, ⟨by repeat (first | (with_reducible first | exact HB.out | apply below_alloc | apply pw_below_drewN | apply below_drew1 | refine below_set ?_ (IsS57.ge HI268.out) | refine below_set ?_ GE289.out) | exact HB.out)⟩⟩
              · rw [if_neg c20] at H
                have c20b0 : (((rd_T33 l1 x8_1).f0) == 1) = false := beq_eq_false_iff_ne.mpr c20
                have c20b1 : (((rd_T33 l1 x8_1).f0) != 1) = true := bne_iff_ne.mpr c20
                (first | rw [c20b0] | (simp only [i64_w, i32_w]; rw [c20b0]) | skip)
                have H' := Aside0.mk H
                clear H
                go_wp2
                go_meet
                case rel => exact ⟨_, (x7_1), (by first | rfl | (simp; done) | (simp [*]; done)), H', ⟨by have := HK1.out; first | omega | exact Nat.le_refl _⟩, ⟨by (with_reducible repeat (first | refine blk_drewN ?_ _ | refine blk_drew ?_ | refine blk_alloc ?_ _)); refine blk_put (cs := #[.int .u32 t279, .int .u32 t280, .int .u32 t281, .bool false]) ?_ 3 _ rfl; (with_reducible repeat (first | refine blk_drewN ?_ _ | refine blk_drew ?_ | refine blk_alloc ?_ _)); refine blk_put (cs := #[.int .u32 t279, .int .u32 t280, .int .u32 0, .bool false]) ?_ 2 _ rfl; (with_reducible repeat (first | refine blk_drewN ?_ _ | refine blk_drew ?_ | refine blk_alloc ?_ _)); refine blk_put (cs := #[.int .u32 t279, .int .u32 0, .int .u32 0, .bool false]) ?_ 1 _ rfl; (with_reducible repeat (first | refine blk_drewN ?_ _ | refine blk_drew ?_ | refine blk_alloc ?_ _)); refine blk_put (cs := #[.int .u32 0, .int .u32 0, .int .u32 0, .bool false]) ?_ 0 _ rfl; (with_reducible repeat (first | refine blk_drewN ?_ _ | refine blk_drew ?_ | refine blk_alloc ?_ _)); exact BK289.out⟩, ⟨by repeat (first | (with_reducible first | exact HI268.out | apply IsS57.alloc | apply IsS57.drewN | apply IsS57.drew | apply IsS57.set_0 | apply IsS57.set_1 | apply IsS57.set_2 | apply IsS57.set_3 | apply IsS57.set_4 | apply IsS57.set_5 | refine IsS57.far ?_ NB268_289.out _) | exact HI268.out)⟩, ⟨by repeat (first | (with_reducible first | exact HB.out | apply below_alloc | apply pw_below_drewN | apply below_drew1 | refine below_set ?_ (IsS57.ge HI268.out) | refine below_set ?_ GE289.out) | exact HB.out)⟩⟩
            case rest =>
              clear HC14
              try clear c1
              try clear c2
              try clear p2
              try clear q2
              try clear hx2
              try clear c3
              try clear c3b0
              try clear c3b1
              try clear c5
              try clear c9
              try clear c10
              try clear c10b0
              try clear c12
              try clear c12b0
              try clear c14
              try clear c18
              try clear c20
              try clear c20b0
              try clear c20b1
              try clear c22
              try clear c22b0
              try clear c22b1
              try clear c22b2
              try clear c23
              try clear c25
              try clear c26
              try clear p27
              try clear q27
              try clear hx27
              try clear c28
              try clear p29
              try clear q29
              try clear hx29
              try clear c30
              try clear c31
              try clear c32
              try clear c34
              try clear hcz19_0
              try clear hcz19_1
              try clear hcz19_2
              try clear hcz19_3
              try clear hcz24_0
              try clear hcz24_1
              try clear hcz24_2
              try clear hcz24_3
              try clear hcz27_0
              try clear hcz27_1
              try clear hcz27_2
              try clear hcz27_3
              try clear hcz29_0
              try clear hcz29_1
              try clear hcz29_2
              try clear hcz29_3
              try clear hcz33_0
              try clear hcz33_1
              try clear hcz33_2
              try clear hcz33_3
              try clear hcz35_0
              try clear hcz35_1
              try clear hcz35_2
              try clear hcz35_3
              try clear hfz19_0
              try clear hfz19_1
              try clear hfz19_2
              try clear hfz19_3
              try clear hfz24_0
              try clear hfz24_1
              try clear hfz24_2
              try clear hfz24_3
              try clear hfz27_0
              try clear hfz27_1
              try clear hfz27_2
              try clear hfz27_3
              try clear hfz29_0
              try clear hfz29_1
              try clear hfz29_2
              try clear hfz29_3
              try clear hfz33_0
              try clear hfz33_1
              try clear hfz33_2
              try clear hfz33_3
              try clear hfz35_0
              try clear hfz35_1
              try clear hfz35_2
              try clear hfz35_3
              try clear hx278_0
              try clear hx278_1
              try clear hx278_2
              try clear hx278_3
              try clear hx290_0
              try clear hx290_1
              try clear hx290_2
              try clear hx290_3
              try clear p2
              try clear p27
              try clear p278
              try clear p29
              try clear p290
              try clear q2
              try clear q27
              try clear q278
              try clear q29
              try clear q290
              obtain ⟨kq, x7_13, rfl, HA, HJ13, BK289, HI268, HB⟩ := hcut
              cases kq with
              | zero => exact absurd HA.out (by simp [lw15_WindowBounds.j2])
              | succ kj13 =>
                have H := HA.out
                clear HA
                simp only [lw15_WindowBounds.j2] at H
                have HC36 := Aside0.mk H
                clear H
                go_upto_region 16 with (fail)
                go_cut [115] (fun v115 wc => ∃ (kq : Nat) (x115_35 : Bool), v115 = .bool x115_35 ∧ Aside0 (lw15_WindowBounds.j3 kq l1 ji8 x7_13 x8_1 x115_35 t283 t284 t285 t286 t287 t288 = some r) ∧ Aside0 (kq ≤ kj13) ∧ Aside0 (wc.heap[gb289]? = some (.cells #[.int .u32 t279, .int .u32 t280, .int .u32 t281, .bool t282] 30 (0, 0))) ∧ Aside0 (IsS57 w wc g268 t283 t284 t285 t286 t287 t288) ∧ Aside0 (Below w.heap.size w wc))
                case first =>
                  have H := HC36.out
                  clear HC36
                  by_cases c37 : 0 ≤ x8_1
                  · rw [if_pos c37] at H
                    have c37b0 : decide (0 ≤ x8_1) = true := decide_eq_true c37
                    clear c37
                    (first | rw [c37b0] | (simp only [i64_w, i32_w]; rw [c37b0]) | skip)
                    by_cases c38 : x8_1 < (l1.length : Int)
                    · rw [if_pos c38] at H
                      have c38b0 : decide (x8_1 < (l1.length : Int)) = true := decide_eq_true c38
                      clear c38
                      by_cases c39 : ((rd_T33 l1 x8_1).f0) = 2
                      · rw [if_pos c39] at H
                        have c39b0 : (((rd_T33 l1 x8_1).f0) == 2) = true := beq_iff_eq.mpr c39
                        have c39b1 : (((rd_T33 l1 x8_1).f0) != 2) = false := bne_eq_false_iff_eq.mpr c39
                        clear c39
                        by_cases c40 : t282 = true
                        · subst c40
                          have H1 : (if t271 = 0 then (lw15_WindowBounds.j3 kj13 l1 ji8 x7_13 x8_1 true t283 t284 t285 t286 t287 t288) else (if ((rd_T33 l1 x8_1).f0) = 4 then (if (true != (decide (t271 ≤ ((Int.tdiv ji8 2) % 4294967296)))) = true then (lw15_WindowBounds.j3 kj13 l1 ji8 x7_13 x8_1 true t283 t284 t285 t286 t287 t288) else (if ((rd_T33 l1 x8_1).f0) = 5 then (if t280 = ji8 then (lw15_WindowBounds.j3 kj13 l1 ji8 x7_13 x8_1 (t281 != x7_13) t283 t284 t285 t286 t287 t288) else (lw15_WindowBounds.j3 kj13 l1 ji8 x7_13 x8_1 true t283 t284 t285 t286 t287 t288)) else (lw15_WindowBounds.j3 kj13 l1 ji8 x7_13 x8_1 false t283 t284 t285 t286 t287 t288))) else (if ((rd_T33 l1 x8_1).f0) = 5 then (if t280 = ji8 then (lw15_WindowBounds.j3 kj13 l1 ji8 x7_13 x8_1 (t281 != x7_13) t283 t284 t285 t286 t287 t288) else (lw15_WindowBounds.j3 kj13 l1 ji8 x7_13 x8_1 true t283 t284 t285 t286 t287 t288)) else (lw15_WindowBounds.j3 kj13 l1 ji8 x7_13 x8_1 false t283 t284 t285 t286 t287 t288)))) = some r := by rw [if_pos rfl] at H; exact H
                          clear H
                          have H := H1
                          clear H1
                          by_cases c41 : t271 = 0
                          · rw [if_pos c41] at H
                            have c41b0 : (t271 == 0) = true := beq_iff_eq.mpr c41
                            have c41b1 : (t271 != 0) = false := bne_eq_false_iff_eq.mpr c41
                            clear c41
                            have H' := Aside0.mk H
                            clear H
                            have p291 : 0 ≤ (x8_1 : Int) := of_decide_eq_true (by first | (with_reducible assumption) | assumption)
                            have q291 : x8_1 < (l1.length : Int) := of_decide_eq_true (by first | (with_reducible assumption) | assumption)
                            obtain ⟨ad291, e291, hx291_0, hx291_1, hx291_2, hx291_3⟩ := at_T33 HR1.out x8_1 p291 q291
                            obtain rfl : ad278 = ad291 := (by injection e291)
                            replace hx291_0 := (HB.out.cell (World.block_lt_of_cell? w _ hx291_0)).trans hx291_0
                            replace hx291_1 := (HB.out.cell (World.block_lt_of_cell? w _ hx291_1)).trans hx291_1
                            replace hx291_2 := (HB.out.cell (World.block_lt_of_cell? w _ hx291_2)).trans hx291_2
                            replace hx291_3 := (HB.out.cell (World.block_lt_of_cell? w _ hx291_3)).trans hx291_3
                            replace p291 := eq_true p291
                            replace q291 := eq_true q291
                            have hnb42 := NB289_268.out
                            have hnc42 := NB268_289.out
                            have hcz43_0 : wc.cell? ⟨gb289, 0, none⟩ = some (.int .u32 t279) := (blk_cell BK289.out 0).trans rfl
                            have hcz43_1 : wc.cell? ⟨gb289, 1, none⟩ = some (.int .u32 t280) := (blk_cell BK289.out 1).trans rfl
                            have hcz43_2 : wc.cell? ⟨gb289, 2, none⟩ = some (.int .u32 t281) := (blk_cell BK289.out 2).trans rfl
                            have hcz43_3 : wc.cell? ⟨gb289, 3, none⟩ = some (.bool true) := (blk_cell BK289.out 3).trans rfl
                            have hfz43_0 := blk_frozen BK289.out 0
                            have hfz43_1 := blk_frozen BK289.out 1
                            have hfz43_2 := blk_frozen BK289.out 2
                            have hfz43_3 := blk_frozen BK289.out 3
                            go_wp2
                            go_meet
                            case rel => exact ⟨_, (true), (by first | rfl | (simp; done) | (simp [*]; done)), H', ⟨by have := HK1.out; have := HJ13.out; first | omega | exact Nat.le_refl _⟩, ⟨by (with_reducible repeat (first | refine blk_drewN ?_ _ | refine blk_drew ?_ | refine blk_alloc ?_ _)); exact BK289.out⟩, ⟨by repeat (first | (with_reducible first | exact HI268.out | apply IsS57.alloc | apply IsS57.drewN | apply IsS57.drew | apply IsS57.set_0 | apply IsS57.set_1 | apply IsS57.set_2 | apply IsS57.set_3 | apply IsS57.set_4 | apply IsS57.set_5 | refine IsS57.far ?_ NB268_289.out _) | exact HI268.out)⟩, ⟨by repeat (first | (with_reducible first | exact HB.out | apply below_alloc | apply pw_below_drewN | apply below_drew1 | refine below_set ?_ (IsS57.ge HI268.out) | refine below_set ?_ GE289.out) | exact HB.out)⟩⟩
                          · rw [if_neg c41] at H
                            have c41b0 : (t271 == 0) = false := beq_eq_false_iff_ne.mpr c41
                            have c41b1 : (t271 != 0) = true := bne_iff_ne.mpr c41
                            by_cases c44 : ((rd_T33 l1 x8_1).f0) = 4
                            · rw [if_pos c44] at H
                              have c44b0 : (((rd_T33 l1 x8_1).f0) == 4) = true := beq_iff_eq.mpr c44
                              have c44b1 : (((rd_T33 l1 x8_1).f0) != 4) = false := bne_eq_false_iff_eq.mpr c44
                              clear c44
                              by_cases c45 : (true != (decide (t271 ≤ ((Int.tdiv ji8 2) % 4294967296)))) = true
                              · rw [if_pos c45] at H
                                have c45b0 : (true != (decide (t271 ≤ ((Int.tdiv ji8 2) % 4294967296)))) = true := c45
                                (try (have c45bd : decide (t271 ≤ ji8 / 2) = false := by have e_ : Int.tdiv ji8 2 % 4294967296 = ji8 / 2 := (by rw [Int.tdiv_eq_ediv_of_nonneg (by omega)]; omega); rw [e_] at c45b0; simpa using c45b0))
                                (try (have c45b1 : decide (true = (decide (t271 ≤ ((Int.tdiv ji8 2) % 4294967296)))) = false := by simpa using c45))
                                (try (have c45b2 : (true == (decide (t271 ≤ ((Int.tdiv ji8 2) % 4294967296)))) = false := by simpa using c45))
                                (try (have c45b3 : ¬ (true = (decide (t271 ≤ ((Int.tdiv ji8 2) % 4294967296)))) := by simpa using c45))
                                clear c45
                                have H' := Aside0.mk H
                                clear H
                                have p291 : 0 ≤ (x8_1 : Int) := of_decide_eq_true (by first | (with_reducible assumption) | assumption)
                                have q291 : x8_1 < (l1.length : Int) := of_decide_eq_true (by first | (with_reducible assumption) | assumption)
                                obtain ⟨ad291, e291, hx291_0, hx291_1, hx291_2, hx291_3⟩ := at_T33 HR1.out x8_1 p291 q291
                                obtain rfl : ad278 = ad291 := (by injection e291)
                                replace hx291_0 := (HB.out.cell (World.block_lt_of_cell? w _ hx291_0)).trans hx291_0
                                replace hx291_1 := (HB.out.cell (World.block_lt_of_cell? w _ hx291_1)).trans hx291_1
                                replace hx291_2 := (HB.out.cell (World.block_lt_of_cell? w _ hx291_2)).trans hx291_2
                                replace hx291_3 := (HB.out.cell (World.block_lt_of_cell? w _ hx291_3)).trans hx291_3
                                replace p291 := eq_true p291
                                replace q291 := eq_true q291
                                have hnb46 := NB289_268.out
                                have hnc46 := NB268_289.out
                                have hcz47_0 : wc.cell? ⟨gb289, 0, none⟩ = some (.int .u32 t279) := (blk_cell BK289.out 0).trans rfl
                                have hcz47_1 : wc.cell? ⟨gb289, 1, none⟩ = some (.int .u32 t280) := (blk_cell BK289.out 1).trans rfl
                                have hcz47_2 : wc.cell? ⟨gb289, 2, none⟩ = some (.int .u32 t281) := (blk_cell BK289.out 2).trans rfl
                                have hcz47_3 : wc.cell? ⟨gb289, 3, none⟩ = some (.bool true) := (blk_cell BK289.out 3).trans rfl
                                have hfz47_0 := blk_frozen BK289.out 0
                                have hfz47_1 := blk_frozen BK289.out 1
                                have hfz47_2 := blk_frozen BK289.out 2
                                have hfz47_3 := blk_frozen BK289.out 3
                                have p292 : 0 ≤ (x8_1 : Int) := of_decide_eq_true (by first | (with_reducible assumption) | assumption)
                                have q292 : x8_1 < (l1.length : Int) := of_decide_eq_true (by first | (with_reducible assumption) | assumption)
                                obtain ⟨ad292, e292, hx292_0, hx292_1, hx292_2, hx292_3⟩ := at_T33 HR1.out x8_1 p292 q292
                                obtain rfl : ad278 = ad292 := (by injection e292)
                                replace hx292_0 := (HB.out.cell (World.block_lt_of_cell? w _ hx292_0)).trans hx292_0
                                replace hx292_1 := (HB.out.cell (World.block_lt_of_cell? w _ hx292_1)).trans hx292_1
                                replace hx292_2 := (HB.out.cell (World.block_lt_of_cell? w _ hx292_2)).trans hx292_2
                                replace hx292_3 := (HB.out.cell (World.block_lt_of_cell? w _ hx292_3)).trans hx292_3
                                replace p292 := eq_true p292
                                replace q292 := eq_true q292
                                go_wp2
                                go_meet
                                case rel => exact ⟨_, (true), (by first | rfl | (simp; done) | (simp [*]; done)), H', ⟨by have := HK1.out; have := HJ13.out; first | omega | exact Nat.le_refl _⟩, ⟨by (with_reducible repeat (first | refine blk_drewN ?_ _ | refine blk_drew ?_ | refine blk_alloc ?_ _)); exact BK289.out⟩, ⟨by repeat (first | (with_reducible first | exact HI268.out | apply IsS57.alloc | apply IsS57.drewN | apply IsS57.drew | apply IsS57.set_0 | apply IsS57.set_1 | apply IsS57.set_2 | apply IsS57.set_3 | apply IsS57.set_4 | apply IsS57.set_5 | refine IsS57.far ?_ NB268_289.out _) | exact HI268.out)⟩, ⟨by repeat (first | (with_reducible first | exact HB.out | apply below_alloc | apply pw_below_drewN | apply below_drew1 | refine below_set ?_ (IsS57.ge HI268.out) | refine below_set ?_ GE289.out) | exact HB.out)⟩⟩
                              · rw [if_neg c45] at H
                                have c45b0 : (true != (decide (t271 ≤ ((Int.tdiv ji8 2) % 4294967296)))) = false := by simpa using c45
                                (try (have c45bd : decide (t271 ≤ ji8 / 2) = true := by have e_ : Int.tdiv ji8 2 % 4294967296 = ji8 / 2 := (by rw [Int.tdiv_eq_ediv_of_nonneg (by omega)]; omega); rw [e_] at c45b0; simpa using c45b0))
                                (try (have c45b1 : decide (true = (decide (t271 ≤ ((Int.tdiv ji8 2) % 4294967296)))) = true := by simpa using c45))
                                (try (have c45b2 : (true == (decide (t271 ≤ ((Int.tdiv ji8 2) % 4294967296)))) = true := by simpa using c45))
                                clear c45
                                by_cases c48 : ((rd_T33 l1 x8_1).f0) = 5
                                · rw [if_pos c48] at H
                                  have c48b0 : (((rd_T33 l1 x8_1).f0) == 5) = true := beq_iff_eq.mpr c48
                                  have c48b1 : (((rd_T33 l1 x8_1).f0) != 5) = false := bne_eq_false_iff_eq.mpr c48
                                  clear c48
                                  by_cases c49 : t280 = ji8
                                  · rw [if_pos c49] at H
                                    have c49b0 : (t280 == ji8) = true := beq_iff_eq.mpr c49
                                    have c49b1 : (t280 != ji8) = false := bne_eq_false_iff_eq.mpr c49
                                    clear c49
                                    have H' := Aside0.mk H
                                    clear H
                                    have p291 : 0 ≤ (x8_1 : Int) := of_decide_eq_true (by first | (with_reducible assumption) | assumption)
                                    have q291 : x8_1 < (l1.length : Int) := of_decide_eq_true (by first | (with_reducible assumption) | assumption)
                                    obtain ⟨ad291, e291, hx291_0, hx291_1, hx291_2, hx291_3⟩ := at_T33 HR1.out x8_1 p291 q291
                                    obtain rfl : ad278 = ad291 := (by injection e291)
                                    replace hx291_0 := (HB.out.cell (World.block_lt_of_cell? w _ hx291_0)).trans hx291_0
                                    replace hx291_1 := (HB.out.cell (World.block_lt_of_cell? w _ hx291_1)).trans hx291_1
                                    replace hx291_2 := (HB.out.cell (World.block_lt_of_cell? w _ hx291_2)).trans hx291_2
                                    replace hx291_3 := (HB.out.cell (World.block_lt_of_cell? w _ hx291_3)).trans hx291_3
                                    replace p291 := eq_true p291
                                    replace q291 := eq_true q291
                                    have hnb50 := NB289_268.out
                                    have hnc50 := NB268_289.out
                                    have hcz51_0 : wc.cell? ⟨gb289, 0, none⟩ = some (.int .u32 t279) := (blk_cell BK289.out 0).trans rfl
                                    have hcz51_1 : wc.cell? ⟨gb289, 1, none⟩ = some (.int .u32 t280) := (blk_cell BK289.out 1).trans rfl
                                    have hcz51_2 : wc.cell? ⟨gb289, 2, none⟩ = some (.int .u32 t281) := (blk_cell BK289.out 2).trans rfl
                                    have hcz51_3 : wc.cell? ⟨gb289, 3, none⟩ = some (.bool true) := (blk_cell BK289.out 3).trans rfl
                                    have hfz51_0 := blk_frozen BK289.out 0
                                    have hfz51_1 := blk_frozen BK289.out 1
                                    have hfz51_2 := blk_frozen BK289.out 2
                                    have hfz51_3 := blk_frozen BK289.out 3
                                    have p292 : 0 ≤ (x8_1 : Int) := of_decide_eq_true (by first | (with_reducible assumption) | assumption)
                                    have q292 : x8_1 < (l1.length : Int) := of_decide_eq_true (by first | (with_reducible assumption) | assumption)
                                    obtain ⟨ad292, e292, hx292_0, hx292_1, hx292_2, hx292_3⟩ := at_T33 HR1.out x8_1 p292 q292
                                    obtain rfl : ad278 = ad292 := (by injection e292)
                                    replace hx292_0 := (HB.out.cell (World.block_lt_of_cell? w _ hx292_0)).trans hx292_0
                                    replace hx292_1 := (HB.out.cell (World.block_lt_of_cell? w _ hx292_1)).trans hx292_1
                                    replace hx292_2 := (HB.out.cell (World.block_lt_of_cell? w _ hx292_2)).trans hx292_2
                                    replace hx292_3 := (HB.out.cell (World.block_lt_of_cell? w _ hx292_3)).trans hx292_3
                                    replace p292 := eq_true p292
                                    replace q292 := eq_true q292
                                    have p293 : 0 ≤ (x8_1 : Int) := of_decide_eq_true (by first | (with_reducible assumption) | assumption)
                                    have q293 : x8_1 < (l1.length : Int) := of_decide_eq_true (by first | (with_reducible assumption) | assumption)
                                    obtain ⟨ad293, e293, hx293_0, hx293_1, hx293_2, hx293_3⟩ := at_T33 HR1.out x8_1 p293 q293
                                    obtain rfl : ad278 = ad293 := (by injection e293)
                                    replace hx293_0 := (HB.out.cell (World.block_lt_of_cell? w _ hx293_0)).trans hx293_0
                                    replace hx293_1 := (HB.out.cell (World.block_lt_of_cell? w _ hx293_1)).trans hx293_1
                                    replace hx293_2 := (HB.out.cell (World.block_lt_of_cell? w _ hx293_2)).trans hx293_2
                                    replace hx293_3 := (HB.out.cell (World.block_lt_of_cell? w _ hx293_3)).trans hx293_3
                                    replace p293 := eq_true p293
                                    replace q293 := eq_true q293
                                    go_wp2
                                    go_meet
                                    case rel => exact ⟨_, ((t281 != x7_13)), (by first | rfl | (simp; done) | (simp [*]; done)), H', ⟨by have := HK1.out; have := HJ13.out; first | omega | exact Nat.le_refl _⟩, ⟨by (with_reducible repeat (first | refine blk_drewN ?_ _ | refine blk_drew ?_ | refine blk_alloc ?_ _)); exact BK289.out⟩, ⟨by repeat (first | (with_reducible first | exact HI268.out | apply IsS57.alloc | apply IsS57.drewN | apply IsS57.drew | apply IsS57.set_0 | apply IsS57.set_1 | apply IsS57.set_2 | apply IsS57.set_3 | apply IsS57.set_4 | apply IsS57.set_5 | refine IsS57.far ?_ NB268_289.out _) | exact HI268.out)⟩, ⟨by repeat (first | (with_reducible first | exact HB.out | apply below_alloc | apply pw_below_drewN | apply below_drew1 | refine below_set ?_ (IsS57.ge HI268.out) | refine below_set ?_ GE289.out) | exact HB.out)⟩⟩
                                  · rw [if_neg c49] at H
                                    have c49b0 : (t280 == ji8) = false := beq_eq_false_iff_ne.mpr c49
                                    have c49b1 : (t280 != ji8) = true := bne_iff_ne.mpr c49
                                    have H' := Aside0.mk H
                                    clear H
                                    have p291 : 0 ≤ (x8_1 : Int) := of_decide_eq_true (by first | (with_reducible assumption) | assumption)
                                    have q291 : x8_1 < (l1.length : Int) := of_decide_eq_true (by first | (with_reducible assumption) | assumption)
                                    obtain ⟨ad291, e291, hx291_0, hx291_1, hx291_2, hx291_3⟩ := at_T33 HR1.out x8_1 p291 q291
                                    obtain rfl : ad278 = ad291 := (by injection e291)
                                    replace hx291_0 := (HB.out.cell (World.block_lt_of_cell? w _ hx291_0)).trans hx291_0
                                    replace hx291_1 := (HB.out.cell (World.block_lt_of_cell? w _ hx291_1)).trans hx291_1
                                    replace hx291_2 := (HB.out.cell (World.block_lt_of_cell? w _ hx291_2)).trans hx291_2
                                    replace hx291_3 := (HB.out.cell (World.block_lt_of_cell? w _ hx291_3)).trans hx291_3
                                    replace p291 := eq_true p291
                                    replace q291 := eq_true q291
                                    have hnb52 := NB289_268.out
                                    have hnc52 := NB268_289.out
                                    have hcz53_0 : wc.cell? ⟨gb289, 0, none⟩ = some (.int .u32 t279) := (blk_cell BK289.out 0).trans rfl
                                    have hcz53_1 : wc.cell? ⟨gb289, 1, none⟩ = some (.int .u32 t280) := (blk_cell BK289.out 1).trans rfl
                                    have hcz53_2 : wc.cell? ⟨gb289, 2, none⟩ = some (.int .u32 t281) := (blk_cell BK289.out 2).trans rfl
                                    have hcz53_3 : wc.cell? ⟨gb289, 3, none⟩ = some (.bool true) := (blk_cell BK289.out 3).trans rfl
                                    have hfz53_0 := blk_frozen BK289.out 0
                                    have hfz53_1 := blk_frozen BK289.out 1
                                    have hfz53_2 := blk_frozen BK289.out 2
                                    have hfz53_3 := blk_frozen BK289.out 3
                                    have p292 : 0 ≤ (x8_1 : Int) := of_decide_eq_true (by first | (with_reducible assumption) | assumption)
                                    have q292 : x8_1 < (l1.length : Int) := of_decide_eq_true (by first | (with_reducible assumption) | assumption)
                                    obtain ⟨ad292, e292, hx292_0, hx292_1, hx292_2, hx292_3⟩ := at_T33 HR1.out x8_1 p292 q292
                                    obtain rfl : ad278 = ad292 := (by injection e292)
                                    replace hx292_0 := (HB.out.cell (World.block_lt_of_cell? w _ hx292_0)).trans hx292_0
                                    replace hx292_1 := (HB.out.cell (World.block_lt_of_cell? w _ hx292_1)).trans hx292_1
                                    replace hx292_2 := (HB.out.cell (World.block_lt_of_cell? w _ hx292_2)).trans hx292_2
                                    replace hx292_3 := (HB.out.cell (World.block_lt_of_cell? w _ hx292_3)).trans hx292_3
                                    replace p292 := eq_true p292
                                    replace q292 := eq_true q292
                                    have p293 : 0 ≤ (x8_1 : Int) := of_decide_eq_true (by first | (with_reducible assumption) | assumption)
                                    have q293 : x8_1 < (l1.length : Int) := of_decide_eq_true (by first | (with_reducible assumption) | assumption)
                                    obtain ⟨ad293, e293, hx293_0, hx293_1, hx293_2, hx293_3⟩ := at_T33 HR1.out x8_1 p293 q293
                                    obtain rfl : ad278 = ad293 := (by injection e293)
                                    replace hx293_0 := (HB.out.cell (World.block_lt_of_cell? w _ hx293_0)).trans hx293_0
                                    replace hx293_1 := (HB.out.cell (World.block_lt_of_cell? w _ hx293_1)).trans hx293_1
                                    replace hx293_2 := (HB.out.cell (World.block_lt_of_cell? w _ hx293_2)).trans hx293_2
                                    replace hx293_3 := (HB.out.cell (World.block_lt_of_cell? w _ hx293_3)).trans hx293_3
                                    replace p293 := eq_true p293
                                    replace q293 := eq_true q293
                                    go_wp2
                                    go_meet
                                    case rel => exact ⟨_, (true), (by first | rfl | (simp; done) | (simp [*]; done)), H', ⟨by have := HK1.out; have := HJ13.out; first | omega | exact Nat.le_refl _⟩, ⟨by (with_reducible repeat (first | refine blk_drewN ?_ _ | refine blk_drew ?_ | refine blk_alloc ?_ _)); exact BK289.out⟩, ⟨by repeat (first | (with_reducible first | exact HI268.out | apply IsS57.alloc | apply IsS57.drewN | apply IsS57.drew | apply IsS57.set_0 | apply IsS57.set_1 | apply IsS57.set_2 | apply IsS57.set_3 | apply IsS57.set_4 | apply IsS57.set_5 | refine IsS57.far ?_ NB268_289.out _) | exact HI268.out)⟩, ⟨by repeat (first | (with_reducible first | exact HB.out | apply below_alloc | apply pw_below_drewN | apply below_drew1 | refine below_set ?_ (IsS57.ge HI268.out) | refine below_set ?_ GE289.out) | exact HB.out)⟩⟩
                                · rw [if_neg c48] at H
                                  have c48b0 : (((rd_T33 l1 x8_1).f0) == 5) = false := beq_eq_false_iff_ne.mpr c48
                                  have c48b1 : (((rd_T33 l1 x8_1).f0) != 5) = true := bne_iff_ne.mpr c48
                                  have H' := Aside0.mk H
                                  clear H
                                  have p291 : 0 ≤ (x8_1 : Int) := of_decide_eq_true (by first | (with_reducible assumption) | assumption)
                                  have q291 : x8_1 < (l1.length : Int) := of_decide_eq_true (by first | (with_reducible assumption) | assumption)
                                  obtain ⟨ad291, e291, hx291_0, hx291_1, hx291_2, hx291_3⟩ := at_T33 HR1.out x8_1 p291 q291
                                  obtain rfl : ad278 = ad291 := (by injection e291)
                                  replace hx291_0 := (HB.out.cell (World.block_lt_of_cell? w _ hx291_0)).trans hx291_0
                                  replace hx291_1 := (HB.out.cell (World.block_lt_of_cell? w _ hx291_1)).trans hx291_1
                                  replace hx291_2 := (HB.out.cell (World.block_lt_of_cell? w _ hx291_2)).trans hx291_2
                                  replace hx291_3 := (HB.out.cell (World.block_lt_of_cell? w _ hx291_3)).trans hx291_3
                                  replace p291 := eq_true p291
                                  replace q291 := eq_true q291
                                  have hnb54 := NB289_268.out
                                  have hnc54 := NB268_289.out
                                  have hcz55_0 : wc.cell? ⟨gb289, 0, none⟩ = some (.int .u32 t279) := (blk_cell BK289.out 0).trans rfl
                                  have hcz55_1 : wc.cell? ⟨gb289, 1, none⟩ = some (.int .u32 t280) := (blk_cell BK289.out 1).trans rfl
                                  have hcz55_2 : wc.cell? ⟨gb289, 2, none⟩ = some (.int .u32 t281) := (blk_cell BK289.out 2).trans rfl
                                  have hcz55_3 : wc.cell? ⟨gb289, 3, none⟩ = some (.bool true) := (blk_cell BK289.out 3).trans rfl
                                  have hfz55_0 := blk_frozen BK289.out 0
                                  have hfz55_1 := blk_frozen BK289.out 1
                                  have hfz55_2 := blk_frozen BK289.out 2
                                  have hfz55_3 := blk_frozen BK289.out 3
                                  have p292 : 0 ≤ (x8_1 : Int) := of_decide_eq_true (by first | (with_reducible assumption) | assumption)
                                  have q292 : x8_1 < (l1.length : Int) := of_decide_eq_true (by first | (with_reducible assumption) | assumption)
                                  obtain ⟨ad292, e292, hx292_0, hx292_1, hx292_2, hx292_3⟩ := at_T33 HR1.out x8_1 p292 q292
                                  obtain rfl : ad278 = ad292 := (by injection e292)
                                  replace hx292_0 := (HB.out.cell (World.block_lt_of_cell? w _ hx292_0)).trans hx292_0
                                  replace hx292_1 := (HB.out.cell (World.block_lt_of_cell? w _ hx292_1)).trans hx292_1
                                  replace hx292_2 := (HB.out.cell (World.block_lt_of_cell? w _ hx292_2)).trans hx292_2
                                  replace hx292_3 := (HB.out.cell (World.block_lt_of_cell? w _ hx292_3)).trans hx292_3
                                  replace p292 := eq_true p292
                                  replace q292 := eq_true q292
                                  have p293 : 0 ≤ (x8_1 : Int) := of_decide_eq_true (by first | (with_reducible assumption) | assumption)
                                  have q293 : x8_1 < (l1.length : Int) := of_decide_eq_true (by first | (with_reducible assumption) | assumption)
                                  obtain ⟨ad293, e293, hx293_0, hx293_1, hx293_2, hx293_3⟩ := at_T33 HR1.out x8_1 p293 q293
                                  obtain rfl : ad278 = ad293 := (by injection e293)
                                  replace hx293_0 := (HB.out.cell (World.block_lt_of_cell? w _ hx293_0)).trans hx293_0
                                  replace hx293_1 := (HB.out.cell (World.block_lt_of_cell? w _ hx293_1)).trans hx293_1
                                  replace hx293_2 := (HB.out.cell (World.block_lt_of_cell? w _ hx293_2)).trans hx293_2
                                  replace hx293_3 := (HB.out.cell (World.block_lt_of_cell? w _ hx293_3)).trans hx293_3
                                  replace p293 := eq_true p293
                                  replace q293 := eq_true q293
                                  go_wp2
                                  go_meet
                                  case rel => exact ⟨_, (false), (by first | rfl | (simp; done) | (simp [*]; done)), H', ⟨by have := HK1.out; have := HJ13.out; first | omega | exact Nat.le_refl _⟩, ⟨by (with_reducible repeat (first | refine blk_drewN ?_ _ | refine blk_drew ?_ | refine blk_alloc ?_ _)); exact BK289.out⟩, ⟨by repeat (first | (with_reducible first | exact HI268.out | apply IsS57.alloc | apply IsS57.drewN | apply IsS57.drew | apply IsS57.set_0 | apply IsS57.set_1 | apply IsS57.set_2 | apply IsS57.set_3 | apply IsS57.set_4 | apply IsS57.set_5 | refine IsS57.far ?_ NB268_289.out _) | exact HI268.out)⟩, ⟨by repeat (first | (with_reducible first | exact HB.out | apply below_alloc | apply pw_below_drewN | apply below_drew1 | refine below_set ?_ (IsS57.ge HI268.out) | refine below_set ?_ GE289.out) | exact HB.out)⟩⟩
                            · rw [if_neg c44] at H
                              have c44b0 : (((rd_T33 l1 x8_1).f0) == 4) = false := beq_eq_false_iff_ne.mpr c44
                              have c44b1 : (((rd_T33 l1 x8_1).f0) != 4) = true := bne_iff_ne.mpr c44
                              by_cases c56 : ((rd_T33 l1 x8_1).f0) = 5
                              · rw [if_pos c56] at H
                                have c56b0 : (((rd_T33 l1 x8_1).f0) == 5) = true := beq_iff_eq.mpr c56
                                have c56b1 : (((rd_T33 l1 x8_1).f0) != 5) = false := bne_eq_false_iff_eq.mpr c56
                                clear c56
                                by_cases c57 : t280 = ji8
                                · rw [if_pos c57] at H
                                  have c57b0 : (t280 == ji8) = true := beq_iff_eq.mpr c57
                                  have c57b1 : (t280 != ji8) = false := bne_eq_false_iff_eq.mpr c57
                                  clear c57
                                  have H' := Aside0.mk H
                                  clear H
                                  have p291 : 0 ≤ (x8_1 : Int) := of_decide_eq_true (by first | (with_reducible assumption) | assumption)
                                  have q291 : x8_1 < (l1.length : Int) := of_decide_eq_true (by first | (with_reducible assumption) | assumption)
                                  obtain ⟨ad291, e291, hx291_0, hx291_1, hx291_2, hx291_3⟩ := at_T33 HR1.out x8_1 p291 q291
                                  obtain rfl : ad278 = ad291 := (by injection e291)
                                  replace hx291_0 := (HB.out.cell (World.block_lt_of_cell? w _ hx291_0)).trans hx291_0
                                  replace hx291_1 := (HB.out.cell (World.block_lt_of_cell? w _ hx291_1)).trans hx291_1
                                  replace hx291_2 := (HB.out.cell (World.block_lt_of_cell? w _ hx291_2)).trans hx291_2
                                  replace hx291_3 := (HB.out.cell (World.block_lt_of_cell? w _ hx291_3)).trans hx291_3
                                  replace p291 := eq_true p291
                                  replace q291 := eq_true q291
                                  have hnb58 := NB289_268.out
                                  have hnc58 := NB268_289.out
                                  have hcz59_0 : wc.cell? ⟨gb289, 0, none⟩ = some (.int .u32 t279) := (blk_cell BK289.out 0).trans rfl
                                  have hcz59_1 : wc.cell? ⟨gb289, 1, none⟩ = some (.int .u32 t280) := (blk_cell BK289.out 1).trans rfl
                                  have hcz59_2 : wc.cell? ⟨gb289, 2, none⟩ = some (.int .u32 t281) := (blk_cell BK289.out 2).trans rfl
                                  have hcz59_3 : wc.cell? ⟨gb289, 3, none⟩ = some (.bool true) := (blk_cell BK289.out 3).trans rfl
                                  have hfz59_0 := blk_frozen BK289.out 0
                                  have hfz59_1 := blk_frozen BK289.out 1
                                  have hfz59_2 := blk_frozen BK289.out 2
                                  have hfz59_3 := blk_frozen BK289.out 3
                                  have p292 : 0 ≤ (x8_1 : Int) := of_decide_eq_true (by first | (with_reducible assumption) | assumption)
                                  have q292 : x8_1 < (l1.length : Int) := of_decide_eq_true (by first | (with_reducible assumption) | assumption)
                                  obtain ⟨ad292, e292, hx292_0, hx292_1, hx292_2, hx292_3⟩ := at_T33 HR1.out x8_1 p292 q292
                                  obtain rfl : ad278 = ad292 := (by injection e292)
                                  replace hx292_0 := (HB.out.cell (World.block_lt_of_cell? w _ hx292_0)).trans hx292_0
                                  replace hx292_1 := (HB.out.cell (World.block_lt_of_cell? w _ hx292_1)).trans hx292_1
                                  replace hx292_2 := (HB.out.cell (World.block_lt_of_cell? w _ hx292_2)).trans hx292_2
                                  replace hx292_3 := (HB.out.cell (World.block_lt_of_cell? w _ hx292_3)).trans hx292_3
                                  replace p292 := eq_true p292
                                  replace q292 := eq_true q292
                                  have p294 : 0 ≤ (x8_1 : Int) := of_decide_eq_true (by first | (with_reducible assumption) | assumption)
                                  have q294 : x8_1 < (l1.length : Int) := of_decide_eq_true (by first | (with_reducible assumption) | assumption)
                                  obtain ⟨ad294, e294, hx294_0, hx294_1, hx294_2, hx294_3⟩ := at_T33 HR1.out x8_1 p294 q294
                                  obtain rfl : ad278 = ad294 := (by injection e294)
                                  replace hx294_0 := (HB.out.cell (World.block_lt_of_cell? w _ hx294_0)).trans hx294_0
                                  replace hx294_1 := (HB.out.cell (World.block_lt_of_cell? w _ hx294_1)).trans hx294_1
                                  replace hx294_2 := (HB.out.cell (World.block_lt_of_cell? w _ hx294_2)).trans hx294_2
                                  replace hx294_3 := (HB.out.cell (World.block_lt_of_cell? w _ hx294_3)).trans hx294_3
                                  replace p294 := eq_true p294
                                  replace q294 := eq_true q294
                                  go_wp2
                                  go_meet
                                  case rel => exact ⟨_, ((t281 != x7_13)), (by first | rfl | (simp; done) | (simp [*]; done)), H', ⟨by have := HK1.out; have := HJ13.out; first | omega | exact Nat.le_refl _⟩, ⟨by (with_reducible repeat (first | refine blk_drewN ?_ _ | refine blk_drew ?_ | refine blk_alloc ?_ _)); exact BK289.out⟩, ⟨by repeat (first | (with_reducible first | exact HI268.out | apply IsS57.alloc | apply IsS57.drewN | apply IsS57.drew | apply IsS57.set_0 | apply IsS57.set_1 | apply IsS57.set_2 | apply IsS57.set_3 | apply IsS57.set_4 | apply IsS57.set_5 | refine IsS57.far ?_ NB268_289.out _) | exact HI268.out)⟩, ⟨by repeat (first | (with_reducible first | exact HB.out | apply below_alloc | apply pw_below_drewN | apply below_drew1 | refine below_set ?_ (IsS57.ge HI268.out) | refine below_set ?_ GE289.out) | exact HB.out)⟩⟩
                                · rw [if_neg c57] at H
                                  have c57b0 : (t280 == ji8) = false := beq_eq_false_iff_ne.mpr c57
                                  have c57b1 : (t280 != ji8) = true := bne_iff_ne.mpr c57
                                  have H' := Aside0.mk H
                                  clear H
                                  have p291 : 0 ≤ (x8_1 : Int) := of_decide_eq_true (by first | (with_reducible assumption) | assumption)
                                  have q291 : x8_1 < (l1.length : Int) := of_decide_eq_true (by first | (with_reducible assumption) | assumption)
                                  obtain ⟨ad291, e291, hx291_0, hx291_1, hx291_2, hx291_3⟩ := at_T33 HR1.out x8_1 p291 q291
                                  obtain rfl : ad278 = ad291 := (by injection e291)
                                  replace hx291_0 := (HB.out.cell (World.block_lt_of_cell? w _ hx291_0)).trans hx291_0
                                  replace hx291_1 := (HB.out.cell (World.block_lt_of_cell? w _ hx291_1)).trans hx291_1
                                  replace hx291_2 := (HB.out.cell (World.block_lt_of_cell? w _ hx291_2)).trans hx291_2
                                  replace hx291_3 := (HB.out.cell (World.block_lt_of_cell? w _ hx291_3)).trans hx291_3
                                  replace p291 := eq_true p291
                                  replace q291 := eq_true q291
                                  have hnb60 := NB289_268.out
                                  have hnc60 := NB268_289.out
                                  have hcz61_0 : wc.cell? ⟨gb289, 0, none⟩ = some (.int .u32 t279) := (blk_cell BK289.out 0).trans rfl
                                  have hcz61_1 : wc.cell? ⟨gb289, 1, none⟩ = some (.int .u32 t280) := (blk_cell BK289.out 1).trans rfl
                                  have hcz61_2 : wc.cell? ⟨gb289, 2, none⟩ = some (.int .u32 t281) := (blk_cell BK289.out 2).trans rfl
                                  have hcz61_3 : wc.cell? ⟨gb289, 3, none⟩ = some (.bool true) := (blk_cell BK289.out 3).trans rfl
                                  have hfz61_0 := blk_frozen BK289.out 0
                                  have hfz61_1 := blk_frozen BK289.out 1
                                  have hfz61_2 := blk_frozen BK289.out 2
                                  have hfz61_3 := blk_frozen BK289.out 3
                                  have p292 : 0 ≤ (x8_1 : Int) := of_decide_eq_true (by first | (with_reducible assumption) | assumption)
                                  have q292 : x8_1 < (l1.length : Int) := of_decide_eq_true (by first | (with_reducible assumption) | assumption)
                                  obtain ⟨ad292, e292, hx292_0, hx292_1, hx292_2, hx292_3⟩ := at_T33 HR1.out x8_1 p292 q292
                                  obtain rfl : ad278 = ad292 := (by injection e292)
                                  replace hx292_0 := (HB.out.cell (World.block_lt_of_cell? w _ hx292_0)).trans hx292_0
                                  replace hx292_1 := (HB.out.cell (World.block_lt_of_cell? w _ hx292_1)).trans hx292_1
                                  replace hx292_2 := (HB.out.cell (World.block_lt_of_cell? w _ hx292_2)).trans hx292_2
                                  replace hx292_3 := (HB.out.cell (World.block_lt_of_cell? w _ hx292_3)).trans hx292_3
                                  replace p292 := eq_true p292
                                  replace q292 := eq_true q292
                                  have p294 : 0 ≤ (x8_1 : Int) := of_decide_eq_true (by first | (with_reducible assumption) | assumption)
                                  have q294 : x8_1 < (l1.length : Int) := of_decide_eq_true (by first | (with_reducible assumption) | assumption)
                                  obtain ⟨ad294, e294, hx294_0, hx294_1, hx294_2, hx294_3⟩ := at_T33 HR1.out x8_1 p294 q294
                                  obtain rfl : ad278 = ad294 := (by injection e294)
                                  replace hx294_0 := (HB.out.cell (World.block_lt_of_cell? w _ hx294_0)).trans hx294_0
                                  replace hx294_1 := (HB.out.cell (World.block_lt_of_cell? w _ hx294_1)).trans hx294_1
                                  replace hx294_2 := (HB.out.cell (World.block_lt_of_cell? w _ hx294_2)).trans hx294_2
                                  replace hx294_3 := (HB.out.cell (World.block_lt_of_cell? w _ hx294_3)).trans hx294_3
                                  replace p294 := eq_true p294
                                  replace q294 := eq_true q294
                                  go_wp2
                                  go_meet
                                  case rel => exact ⟨_, (true), (by first | rfl | (simp; done) | (simp [*]; done)), H', ⟨by have := HK1.out; have := HJ13.out; first | omega | exact Nat.le_refl _⟩, ⟨by (with_reducible repeat (first | refine blk_drewN ?_ _ | refine blk_drew ?_ | refine blk_alloc ?_ _)); exact BK289.out⟩, ⟨by repeat (first | (with_reducible first | exact HI268.out | apply IsS57.alloc | apply IsS57.drewN | apply IsS57.drew | apply IsS57.set_0 | apply IsS57.set_1 | apply IsS57.set_2 | apply IsS57.set_3 | apply IsS57.set_4 | apply IsS57.set_5 | refine IsS57.far ?_ NB268_289.out _) | exact HI268.out)⟩, ⟨by repeat (first | (with_reducible first | exact HB.out | apply below_alloc | apply pw_below_drewN | apply below_drew1 | refine below_set ?_ (IsS57.ge HI268.out) | refine below_set ?_ GE289.out) | exact HB.out)⟩⟩
                              · rw [if_neg c56] at H
                                have c56b0 : (((rd_T33 l1 x8_1).f0) == 5) = false := beq_eq_false_iff_ne.mpr c56
                                have c56b1 : (((rd_T33 l1 x8_1).f0) != 5) = true := bne_iff_ne.mpr c56
                                have H' := Aside0.mk H
                                clear H
                                have p291 : 0 ≤ (x8_1 : Int) := of_decide_eq_true (by first | (with_reducible assumption) | assumption)
                                have q291 : x8_1 < (l1.length : Int) := of_decide_eq_true (by first | (with_reducible assumption) | assumption)
                                obtain ⟨ad291, e291, hx291_0, hx291_1, hx291_2, hx291_3⟩ := at_T33 HR1.out x8_1 p291 q291
                                obtain rfl : ad278 = ad291 := (by injection e291)
                                replace hx291_0 := (HB.out.cell (World.block_lt_of_cell? w _ hx291_0)).trans hx291_0
                                replace hx291_1 := (HB.out.cell (World.block_lt_of_cell? w _ hx291_1)).trans hx291_1
                                replace hx291_2 := (HB.out.cell (World.block_lt_of_cell? w _ hx291_2)).trans hx291_2
                                replace hx291_3 := (HB.out.cell (World.block_lt_of_cell? w _ hx291_3)).trans hx291_3
                                replace p291 := eq_true p291
                                replace q291 := eq_true q291
                                have hnb62 := NB289_268.out
                                have hnc62 := NB268_289.out
                                have hcz63_0 : wc.cell? ⟨gb289, 0, none⟩ = some (.int .u32 t279) := (blk_cell BK289.out 0).trans rfl
                                have hcz63_1 : wc.cell? ⟨gb289, 1, none⟩ = some (.int .u32 t280) := (blk_cell BK289.out 1).trans rfl
                                have hcz63_2 : wc.cell? ⟨gb289, 2, none⟩ = some (.int .u32 t281) := (blk_cell BK289.out 2).trans rfl
                                have hcz63_3 : wc.cell? ⟨gb289, 3, none⟩ = some (.bool true) := (blk_cell BK289.out 3).trans rfl
                                have hfz63_0 := blk_frozen BK289.out 0
                                have hfz63_1 := blk_frozen BK289.out 1
                                have hfz63_2 := blk_frozen BK289.out 2
                                have hfz63_3 := blk_frozen BK289.out 3
                                have p292 : 0 ≤ (x8_1 : Int) := of_decide_eq_true (by first | (with_reducible assumption) | assumption)
                                have q292 : x8_1 < (l1.length : Int) := of_decide_eq_true (by first | (with_reducible assumption) | assumption)
                                obtain ⟨ad292, e292, hx292_0, hx292_1, hx292_2, hx292_3⟩ := at_T33 HR1.out x8_1 p292 q292
                                obtain rfl : ad278 = ad292 := (by injection e292)
                                replace hx292_0 := (HB.out.cell (World.block_lt_of_cell? w _ hx292_0)).trans hx292_0
                                replace hx292_1 := (HB.out.cell (World.block_lt_of_cell? w _ hx292_1)).trans hx292_1
                                replace hx292_2 := (HB.out.cell (World.block_lt_of_cell? w _ hx292_2)).trans hx292_2
                                replace hx292_3 := (HB.out.cell (World.block_lt_of_cell? w _ hx292_3)).trans hx292_3
                                replace p292 := eq_true p292
                                replace q292 := eq_true q292
                                have p294 : 0 ≤ (x8_1 : Int) := of_decide_eq_true (by first | (with_reducible assumption) | assumption)
                                have q294 : x8_1 < (l1.length : Int) := of_decide_eq_true (by first | (with_reducible assumption) | assumption)
                                obtain ⟨ad294, e294, hx294_0, hx294_1, hx294_2, hx294_3⟩ := at_T33 HR1.out x8_1 p294 q294
                                obtain rfl : ad278 = ad294 := (by injection e294)
                                replace hx294_0 := (HB.out.cell (World.block_lt_of_cell? w _ hx294_0)).trans hx294_0
                                replace hx294_1 := (HB.out.cell (World.block_lt_of_cell? w _ hx294_1)).trans hx294_1
                                replace hx294_2 := (HB.out.cell (World.block_lt_of_cell? w _ hx294_2)).trans hx294_2
                                replace hx294_3 := (HB.out.cell (World.block_lt_of_cell? w _ hx294_3)).trans hx294_3
                                replace p294 := eq_true p294
                                replace q294 := eq_true q294
                                go_wp2
                                go_meet
                                case rel => exact ⟨_, (false), (by first | rfl | (simp; done) | (simp [*]; done)), H', ⟨by have := HK1.out; have := HJ13.out; first | omega | exact Nat.le_refl _⟩, ⟨by (with_reducible repeat (first | refine blk_drewN ?_ _ | refine blk_drew ?_ | refine blk_alloc ?_ _)); exact BK289.out⟩, ⟨by repeat (first | (with_reducible first | exact HI268.out | apply IsS57.alloc | apply IsS57.drewN | apply IsS57.drew | apply IsS57.set_0 | apply IsS57.set_1 | apply IsS57.set_2 | apply IsS57.set_3 | apply IsS57.set_4 | apply IsS57.set_5 | refine IsS57.far ?_ NB268_289.out _) | exact HI268.out)⟩, ⟨by repeat (first | (with_reducible first | exact HB.out | apply below_alloc | apply pw_below_drewN | apply below_drew1 | refine below_set ?_ (IsS57.ge HI268.out) | refine below_set ?_ GE289.out) | exact HB.out)⟩⟩
                        · replace c40 := Bool.eq_false_iff.mpr c40
                          subst c40
                          have H1 : (if ((rd_T33 l1 x8_1).f0) = 4 then (if (false != (decide (t271 ≤ ((Int.tdiv ji8 2) % 4294967296)))) = true then (lw15_WindowBounds.j3 kj13 l1 ji8 x7_13 x8_1 true t283 t284 t285 t286 t287 t288) else (if ((rd_T33 l1 x8_1).f0) = 5 then (if t280 = ji8 then (lw15_WindowBounds.j3 kj13 l1 ji8 x7_13 x8_1 (t281 != x7_13) t283 t284 t285 t286 t287 t288) else (lw15_WindowBounds.j3 kj13 l1 ji8 x7_13 x8_1 true t283 t284 t285 t286 t287 t288)) else (lw15_WindowBounds.j3 kj13 l1 ji8 x7_13 x8_1 false t283 t284 t285 t286 t287 t288))) else (if ((rd_T33 l1 x8_1).f0) = 5 then (if t280 = ji8 then (lw15_WindowBounds.j3 kj13 l1 ji8 x7_13 x8_1 (t281 != x7_13) t283 t284 t285 t286 t287 t288) else (lw15_WindowBounds.j3 kj13 l1 ji8 x7_13 x8_1 true t283 t284 t285 t286 t287 t288)) else (lw15_WindowBounds.j3 kj13 l1 ji8 x7_13 x8_1 false t283 t284 t285 t286 t287 t288))) = some r := by rw [if_neg (show ¬ (false = true) by decide)] at H; exact H
                          clear H
                          have H := H1
                          clear H1
                          by_cases c64 : ((rd_T33 l1 x8_1).f0) = 4
                          · rw [if_pos c64] at H
                            have c64b0 : (((rd_T33 l1 x8_1).f0) == 4) = true := beq_iff_eq.mpr c64
                            have c64b1 : (((rd_T33 l1 x8_1).f0) != 4) = false := bne_eq_false_iff_eq.mpr c64
                            clear c64
                            by_cases c65 : (false != (decide (t271 ≤ ((Int.tdiv ji8 2) % 4294967296)))) = true
                            · rw [if_pos c65] at H
                              have c65b0 : (false != (decide (t271 ≤ ((Int.tdiv ji8 2) % 4294967296)))) = true := c65
                              (try (have c65bd : decide (t271 ≤ ji8 / 2) = true := by have e_ : Int.tdiv ji8 2 % 4294967296 = ji8 / 2 := (by rw [Int.tdiv_eq_ediv_of_nonneg (by omega)]; omega); rw [e_] at c65b0; simpa using c65b0))
                              (try (have c65b1 : decide (false = (decide (t271 ≤ ((Int.tdiv ji8 2) % 4294967296)))) = false := by simpa using c65))
                              (try (have c65b2 : (false == (decide (t271 ≤ ((Int.tdiv ji8 2) % 4294967296)))) = false := by simpa using c65))
                              (try (have c65b3 : ¬ (false = (decide (t271 ≤ ((Int.tdiv ji8 2) % 4294967296)))) := by simpa using c65))
                              clear c65
                              have H' := Aside0.mk H
                              clear H
                              have p291 : 0 ≤ (x8_1 : Int) := of_decide_eq_true (by first | (with_reducible assumption) | assumption)
                              have q291 : x8_1 < (l1.length : Int) := of_decide_eq_true (by first | (with_reducible assumption) | assumption)
                              obtain ⟨ad291, e291, hx291_0, hx291_1, hx291_2, hx291_3⟩ := at_T33 HR1.out x8_1 p291 q291
                              obtain rfl : ad278 = ad291 := (by injection e291)
                              replace hx291_0 := (HB.out.cell (World.block_lt_of_cell? w _ hx291_0)).trans hx291_0
                              replace hx291_1 := (HB.out.cell (World.block_lt_of_cell? w _ hx291_1)).trans hx291_1
                              replace hx291_2 := (HB.out.cell (World.block_lt_of_cell? w _ hx291_2)).trans hx291_2
                              replace hx291_3 := (HB.out.cell (World.block_lt_of_cell? w _ hx291_3)).trans hx291_3
                              replace p291 := eq_true p291
                              replace q291 := eq_true q291
                              have hnb66 := NB289_268.out
                              have hnc66 := NB268_289.out
                              have hcz67_0 : wc.cell? ⟨gb289, 0, none⟩ = some (.int .u32 t279) := (blk_cell BK289.out 0).trans rfl
                              have hcz67_1 : wc.cell? ⟨gb289, 1, none⟩ = some (.int .u32 t280) := (blk_cell BK289.out 1).trans rfl
                              have hcz67_2 : wc.cell? ⟨gb289, 2, none⟩ = some (.int .u32 t281) := (blk_cell BK289.out 2).trans rfl
                              have hcz67_3 : wc.cell? ⟨gb289, 3, none⟩ = some (.bool false) := (blk_cell BK289.out 3).trans rfl
                              have hfz67_0 := blk_frozen BK289.out 0
                              have hfz67_1 := blk_frozen BK289.out 1
                              have hfz67_2 := blk_frozen BK289.out 2
                              have hfz67_3 := blk_frozen BK289.out 3
                              have p295 : 0 ≤ (x8_1 : Int) := of_decide_eq_true (by first | (with_reducible assumption) | assumption)
                              have q295 : x8_1 < (l1.length : Int) := of_decide_eq_true (by first | (with_reducible assumption) | assumption)
                              obtain ⟨ad295, e295, hx295_0, hx295_1, hx295_2, hx295_3⟩ := at_T33 HR1.out x8_1 p295 q295
                              obtain rfl : ad278 = ad295 := (by injection e295)
                              replace hx295_0 := (HB.out.cell (World.block_lt_of_cell? w _ hx295_0)).trans hx295_0
                              replace hx295_1 := (HB.out.cell (World.block_lt_of_cell? w _ hx295_1)).trans hx295_1
                              replace hx295_2 := (HB.out.cell (World.block_lt_of_cell? w _ hx295_2)).trans hx295_2
                              replace hx295_3 := (HB.out.cell (World.block_lt_of_cell? w _ hx295_3)).trans hx295_3
                              replace p295 := eq_true p295
                              replace q295 := eq_true q295
                              go_wp2
                              go_meet
                              case rel => exact ⟨_, (true), (by first | rfl | (simp; done) | (simp [*]; done)), H', ⟨by have := HK1.out; have := HJ13.out; first | omega | exact Nat.le_refl _⟩, ⟨by (with_reducible repeat (first | refine blk_drewN ?_ _ | refine blk_drew ?_ | refine blk_alloc ?_ _)); exact BK289.out⟩, ⟨by repeat (first | (with_reducible first | exact HI268.out | apply IsS57.alloc | apply IsS57.drewN | apply IsS57.drew | apply IsS57.set_0 | apply IsS57.set_1 | apply IsS57.set_2 | apply IsS57.set_3 | apply IsS57.set_4 | apply IsS57.set_5 | refine IsS57.far ?_ NB268_289.out _) | exact HI268.out)⟩, ⟨by repeat (first | (with_reducible first | exact HB.out | apply below_alloc | apply pw_below_drewN | apply below_drew1 | refine below_set ?_ (IsS57.ge HI268.out) | refine below_set ?_ GE289.out) | exact HB.out)⟩⟩
                            · rw [if_neg c65] at H
                              have c65b0 : (false != (decide (t271 ≤ ((Int.tdiv ji8 2) % 4294967296)))) = false := by simpa using c65
                              (try (have c65bd : decide (t271 ≤ ji8 / 2) = false := by have e_ : Int.tdiv ji8 2 % 4294967296 = ji8 / 2 := (by rw [Int.tdiv_eq_ediv_of_nonneg (by omega)]; omega); rw [e_] at c65b0; simpa using c65b0))
                              (try (have c65b1 : decide (false = (decide (t271 ≤ ((Int.tdiv ji8 2) % 4294967296)))) = true := by simpa using c65))
                              (try (have c65b2 : (false == (decide (t271 ≤ ((Int.tdiv ji8 2) % 4294967296)))) = true := by simpa using c65))
                              clear c65
                              by_cases c68 : ((rd_T33 l1 x8_1).f0) = 5
                              · rw [if_pos c68] at H
                                have c68b0 : (((rd_T33 l1 x8_1).f0) == 5) = true := beq_iff_eq.mpr c68
                                have c68b1 : (((rd_T33 l1 x8_1).f0) != 5) = false := bne_eq_false_iff_eq.mpr c68
                                clear c68
                                by_cases c69 : t280 = ji8
                                · rw [if_pos c69] at H
                                  have c69b0 : (t280 == ji8) = true := beq_iff_eq.mpr c69
                                  have c69b1 : (t280 != ji8) = false := bne_eq_false_iff_eq.mpr c69
                                  clear c69
                                  have H' := Aside0.mk H
                                  clear H
                                  have p291 : 0 ≤ (x8_1 : Int) := of_decide_eq_true (by first | (with_reducible assumption) | assumption)
                                  have q291 : x8_1 < (l1.length : Int) := of_decide_eq_true (by first | (with_reducible assumption) | assumption)
                                  obtain ⟨ad291, e291, hx291_0, hx291_1, hx291_2, hx291_3⟩ := at_T33 HR1.out x8_1 p291 q291
                                  obtain rfl : ad278 = ad291 := (by injection e291)
                                  replace hx291_0 := (HB.out.cell (World.block_lt_of_cell? w _ hx291_0)).trans hx291_0
                                  replace hx291_1 := (HB.out.cell (World.block_lt_of_cell? w _ hx291_1)).trans hx291_1
                                  replace hx291_2 := (HB.out.cell (World.block_lt_of_cell? w _ hx291_2)).trans hx291_2
                                  replace hx291_3 := (HB.out.cell (World.block_lt_of_cell? w _ hx291_3)).trans hx291_3
                                  replace p291 := eq_true p291
                                  replace q291 := eq_true q291
                                  have hnb70 := NB289_268.out
                                  have hnc70 := NB268_289.out
                                  have hcz71_0 : wc.cell? ⟨gb289, 0, none⟩ = some (.int .u32 t279) := (blk_cell BK289.out 0).trans rfl
                                  have hcz71_1 : wc.cell? ⟨gb289, 1, none⟩ = some (.int .u32 t280) := (blk_cell BK289.out 1).trans rfl
                                  have hcz71_2 : wc.cell? ⟨gb289, 2, none⟩ = some (.int .u32 t281) := (blk_cell BK289.out 2).trans rfl
                                  have hcz71_3 : wc.cell? ⟨gb289, 3, none⟩ = some (.bool false) := (blk_cell BK289.out 3).trans rfl
                                  have hfz71_0 := blk_frozen BK289.out 0
                                  have hfz71_1 := blk_frozen BK289.out 1
                                  have hfz71_2 := blk_frozen BK289.out 2
                                  have hfz71_3 := blk_frozen BK289.out 3
                                  have p295 : 0 ≤ (x8_1 : Int) := of_decide_eq_true (by first | (with_reducible assumption) | assumption)
                                  have q295 : x8_1 < (l1.length : Int) := of_decide_eq_true (by first | (with_reducible assumption) | assumption)
                                  obtain ⟨ad295, e295, hx295_0, hx295_1, hx295_2, hx295_3⟩ := at_T33 HR1.out x8_1 p295 q295
                                  obtain rfl : ad278 = ad295 := (by injection e295)
                                  replace hx295_0 := (HB.out.cell (World.block_lt_of_cell? w _ hx295_0)).trans hx295_0
                                  replace hx295_1 := (HB.out.cell (World.block_lt_of_cell? w _ hx295_1)).trans hx295_1
                                  replace hx295_2 := (HB.out.cell (World.block_lt_of_cell? w _ hx295_2)).trans hx295_2
                                  replace hx295_3 := (HB.out.cell (World.block_lt_of_cell? w _ hx295_3)).trans hx295_3
                                  replace p295 := eq_true p295
                                  replace q295 := eq_true q295
                                  have p296 : 0 ≤ (x8_1 : Int) := of_decide_eq_true (by first | (with_reducible assumption) | assumption)
                                  have q296 : x8_1 < (l1.length : Int) := of_decide_eq_true (by first | (with_reducible assumption) | assumption)
                                  obtain ⟨ad296, e296, hx296_0, hx296_1, hx296_2, hx296_3⟩ := at_T33 HR1.out x8_1 p296 q296
                                  obtain rfl : ad278 = ad296 := (by injection e296)
                                  replace hx296_0 := (HB.out.cell (World.block_lt_of_cell? w _ hx296_0)).trans hx296_0
                                  replace hx296_1 := (HB.out.cell (World.block_lt_of_cell? w _ hx296_1)).trans hx296_1
                                  replace hx296_2 := (HB.out.cell (World.block_lt_of_cell? w _ hx296_2)).trans hx296_2
                                  replace hx296_3 := (HB.out.cell (World.block_lt_of_cell? w _ hx296_3)).trans hx296_3
                                  replace p296 := eq_true p296
                                  replace q296 := eq_true q296
                                  go_wp2
                                  go_meet
                                  case rel => exact ⟨_, ((t281 != x7_13)), (by first | rfl | (simp; done) | (simp [*]; done)), H', ⟨by have := HK1.out; have := HJ13.out; first | omega | exact Nat.le_refl _⟩, ⟨by (with_reducible repeat (first | refine blk_drewN ?_ _ | refine blk_drew ?_ | refine blk_alloc ?_ _)); exact BK289.out⟩, ⟨by repeat (first | (with_reducible first | exact HI268.out | apply IsS57.alloc | apply IsS57.drewN | apply IsS57.drew | apply IsS57.set_0 | apply IsS57.set_1 | apply IsS57.set_2 | apply IsS57.set_3 | apply IsS57.set_4 | apply IsS57.set_5 | refine IsS57.far ?_ NB268_289.out _) | exact HI268.out)⟩, ⟨by repeat (first | (with_reducible first | exact HB.out | apply below_alloc | apply pw_below_drewN | apply below_drew1 | refine below_set ?_ (IsS57.ge HI268.out) | refine below_set ?_ GE289.out) | exact HB.out)⟩⟩
                                · rw [if_neg c69] at H
                                  have c69b0 : (t280 == ji8) = false := beq_eq_false_iff_ne.mpr c69
                                  have c69b1 : (t280 != ji8) = true := bne_iff_ne.mpr c69
                                  have H' := Aside0.mk H
                                  clear H
                                  have p291 : 0 ≤ (x8_1 : Int) := of_decide_eq_true (by first | (with_reducible assumption) | assumption)
                                  have q291 : x8_1 < (l1.length : Int) := of_decide_eq_true (by first | (with_reducible assumption) | assumption)
                                  obtain ⟨ad291, e291, hx291_0, hx291_1, hx291_2, hx291_3⟩ := at_T33 HR1.out x8_1 p291 q291
                                  obtain rfl : ad278 = ad291 := (by injection e291)
                                  replace hx291_0 := (HB.out.cell (World.block_lt_of_cell? w _ hx291_0)).trans hx291_0
                                  replace hx291_1 := (HB.out.cell (World.block_lt_of_cell? w _ hx291_1)).trans hx291_1
                                  replace hx291_2 := (HB.out.cell (World.block_lt_of_cell? w _ hx291_2)).trans hx291_2
                                  replace hx291_3 := (HB.out.cell (World.block_lt_of_cell? w _ hx291_3)).trans hx291_3
                                  replace p291 := eq_true p291
                                  replace q291 := eq_true q291
                                  have hnb72 := NB289_268.out
                                  have hnc72 := NB268_289.out
                                  have hcz73_0 : wc.cell? ⟨gb289, 0, none⟩ = some (.int .u32 t279) := (blk_cell BK289.out 0).trans rfl
                                  have hcz73_1 : wc.cell? ⟨gb289, 1, none⟩ = some (.int .u32 t280) := (blk_cell BK289.out 1).trans rfl
                                  have hcz73_2 : wc.cell? ⟨gb289, 2, none⟩ = some (.int .u32 t281) := (blk_cell BK289.out 2).trans rfl
                                  have hcz73_3 : wc.cell? ⟨gb289, 3, none⟩ = some (.bool false) := (blk_cell BK289.out 3).trans rfl
                                  have hfz73_0 := blk_frozen BK289.out 0
                                  have hfz73_1 := blk_frozen BK289.out 1
                                  have hfz73_2 := blk_frozen BK289.out 2
                                  have hfz73_3 := blk_frozen BK289.out 3
                                  have p295 : 0 ≤ (x8_1 : Int) := of_decide_eq_true (by first | (with_reducible assumption) | assumption)
                                  have q295 : x8_1 < (l1.length : Int) := of_decide_eq_true (by first | (with_reducible assumption) | assumption)
                                  obtain ⟨ad295, e295, hx295_0, hx295_1, hx295_2, hx295_3⟩ := at_T33 HR1.out x8_1 p295 q295
                                  obtain rfl : ad278 = ad295 := (by injection e295)
                                  replace hx295_0 := (HB.out.cell (World.block_lt_of_cell? w _ hx295_0)).trans hx295_0
                                  replace hx295_1 := (HB.out.cell (World.block_lt_of_cell? w _ hx295_1)).trans hx295_1
                                  replace hx295_2 := (HB.out.cell (World.block_lt_of_cell? w _ hx295_2)).trans hx295_2
                                  replace hx295_3 := (HB.out.cell (World.block_lt_of_cell? w _ hx295_3)).trans hx295_3
                                  replace p295 := eq_true p295
                                  replace q295 := eq_true q295
                                  have p296 : 0 ≤ (x8_1 : Int) := of_decide_eq_true (by first | (with_reducible assumption) | assumption)
                                  have q296 : x8_1 < (l1.length : Int) := of_decide_eq_true (by first | (with_reducible assumption) | assumption)
                                  obtain ⟨ad296, e296, hx296_0, hx296_1, hx296_2, hx296_3⟩ := at_T33 HR1.out x8_1 p296 q296
                                  obtain rfl : ad278 = ad296 := (by injection e296)
                                  replace hx296_0 := (HB.out.cell (World.block_lt_of_cell? w _ hx296_0)).trans hx296_0
                                  replace hx296_1 := (HB.out.cell (World.block_lt_of_cell? w _ hx296_1)).trans hx296_1
                                  replace hx296_2 := (HB.out.cell (World.block_lt_of_cell? w _ hx296_2)).trans hx296_2
                                  replace hx296_3 := (HB.out.cell (World.block_lt_of_cell? w _ hx296_3)).trans hx296_3
                                  replace p296 := eq_true p296
                                  replace q296 := eq_true q296
                                  go_wp2
                                  go_meet
                                  case rel => exact ⟨_, (true), (by first | rfl | (simp; done) | (simp [*]; done)), H', ⟨by have := HK1.out; have := HJ13.out; first | omega | exact Nat.le_refl _⟩, ⟨by (with_reducible repeat (first | refine blk_drewN ?_ _ | refine blk_drew ?_ | refine blk_alloc ?_ _)); exact BK289.out⟩, ⟨by repeat (first | (with_reducible first | exact HI268.out | apply IsS57.alloc | apply IsS57.drewN | apply IsS57.drew | apply IsS57.set_0 | apply IsS57.set_1 | apply IsS57.set_2 | apply IsS57.set_3 | apply IsS57.set_4 | apply IsS57.set_5 | refine IsS57.far ?_ NB268_289.out _) | exact HI268.out)⟩, ⟨by repeat (first | (with_reducible first | exact HB.out | apply below_alloc | apply pw_below_drewN | apply below_drew1 | refine below_set ?_ (IsS57.ge HI268.out) | refine below_set ?_ GE289.out) | exact HB.out)⟩⟩
                              · rw [if_neg c68] at H
                                have c68b0 : (((rd_T33 l1 x8_1).f0) == 5) = false := beq_eq_false_iff_ne.mpr c68
                                have c68b1 : (((rd_T33 l1 x8_1).f0) != 5) = true := bne_iff_ne.mpr c68
                                have H' := Aside0.mk H
                                clear H
                                have p291 : 0 ≤ (x8_1 : Int) := of_decide_eq_true (by first | (with_reducible assumption) | assumption)
                                have q291 : x8_1 < (l1.length : Int) := of_decide_eq_true (by first | (with_reducible assumption) | assumption)
                                obtain ⟨ad291, e291, hx291_0, hx291_1, hx291_2, hx291_3⟩ := at_T33 HR1.out x8_1 p291 q291
                                obtain rfl : ad278 = ad291 := (by injection e291)
                                replace hx291_0 := (HB.out.cell (World.block_lt_of_cell? w _ hx291_0)).trans hx291_0
                                replace hx291_1 := (HB.out.cell (World.block_lt_of_cell? w _ hx291_1)).trans hx291_1
                                replace hx291_2 := (HB.out.cell (World.block_lt_of_cell? w _ hx291_2)).trans hx291_2
                                replace hx291_3 := (HB.out.cell (World.block_lt_of_cell? w _ hx291_3)).trans hx291_3
                                replace p291 := eq_true p291
                                replace q291 := eq_true q291
                                have hnb74 := NB289_268.out
                                have hnc74 := NB268_289.out
                                have hcz75_0 : wc.cell? ⟨gb289, 0, none⟩ = some (.int .u32 t279) := (blk_cell BK289.out 0).trans rfl
                                have hcz75_1 : wc.cell? ⟨gb289, 1, none⟩ = some (.int .u32 t280) := (blk_cell BK289.out 1).trans rfl
                                have hcz75_2 : wc.cell? ⟨gb289, 2, none⟩ = some (.int .u32 t281) := (blk_cell BK289.out 2).trans rfl
                                have hcz75_3 : wc.cell? ⟨gb289, 3, none⟩ = some (.bool false) := (blk_cell BK289.out 3).trans rfl
                                have hfz75_0 := blk_frozen BK289.out 0
                                have hfz75_1 := blk_frozen BK289.out 1
                                have hfz75_2 := blk_frozen BK289.out 2
                                have hfz75_3 := blk_frozen BK289.out 3
                                have p295 : 0 ≤ (x8_1 : Int) := of_decide_eq_true (by first | (with_reducible assumption) | assumption)
                                have q295 : x8_1 < (l1.length : Int) := of_decide_eq_true (by first | (with_reducible assumption) | assumption)
                                obtain ⟨ad295, e295, hx295_0, hx295_1, hx295_2, hx295_3⟩ := at_T33 HR1.out x8_1 p295 q295
                                obtain rfl : ad278 = ad295 := (by injection e295)
                                replace hx295_0 := (HB.out.cell (World.block_lt_of_cell? w _ hx295_0)).trans hx295_0
                                replace hx295_1 := (HB.out.cell (World.block_lt_of_cell? w _ hx295_1)).trans hx295_1
                                replace hx295_2 := (HB.out.cell (World.block_lt_of_cell? w _ hx295_2)).trans hx295_2
                                replace hx295_3 := (HB.out.cell (World.block_lt_of_cell? w _ hx295_3)).trans hx295_3
                                replace p295 := eq_true p295
                                replace q295 := eq_true q295
                                have p296 : 0 ≤ (x8_1 : Int) := of_decide_eq_true (by first | (with_reducible assumption) | assumption)
                                have q296 : x8_1 < (l1.length : Int) := of_decide_eq_true (by first | (with_reducible assumption) | assumption)
                                obtain ⟨ad296, e296, hx296_0, hx296_1, hx296_2, hx296_3⟩ := at_T33 HR1.out x8_1 p296 q296
                                obtain rfl : ad278 = ad296 := (by injection e296)
                                replace hx296_0 := (HB.out.cell (World.block_lt_of_cell? w _ hx296_0)).trans hx296_0
                                replace hx296_1 := (HB.out.cell (World.block_lt_of_cell? w _ hx296_1)).trans hx296_1
                                replace hx296_2 := (HB.out.cell (World.block_lt_of_cell? w _ hx296_2)).trans hx296_2
                                replace hx296_3 := (HB.out.cell (World.block_lt_of_cell? w _ hx296_3)).trans hx296_3
                                replace p296 := eq_true p296
                                replace q296 := eq_true q296
                                go_wp2
                                go_meet
                                case rel => exact ⟨_, (false), (by first | rfl | (simp; done) | (simp [*]; done)), H', ⟨by have := HK1.out; have := HJ13.out; first | omega | exact Nat.le_refl _⟩, ⟨by (with_reducible repeat (first | refine blk_drewN ?_ _ | refine blk_drew ?_ | refine blk_alloc ?_ _)); exact BK289.out⟩, ⟨by repeat (first | (with_reducible first | exact HI268.out | apply IsS57.alloc | apply IsS57.drewN | apply IsS57.drew | apply IsS57.set_0 | apply IsS57.set_1 | apply IsS57.set_2 | apply IsS57.set_3 | apply IsS57.set_4 | apply IsS57.set_5 | refine IsS57.far ?_ NB268_289.out _) | exact HI268.out)⟩, ⟨by repeat (first | (with_reducible first | exact HB.out | apply below_alloc | apply pw_below_drewN | apply below_drew1 | refine below_set ?_ (IsS57.ge HI268.out) | refine below_set ?_ GE289.out) | exact HB.out)⟩⟩
                          · rw [if_neg c64] at H
                            have c64b0 : (((rd_T33 l1 x8_1).f0) == 4) = false := beq_eq_false_iff_ne.mpr c64
                            have c64b1 : (((rd_T33 l1 x8_1).f0) != 4) = true := bne_iff_ne.mpr c64
                            by_cases c76 : ((rd_T33 l1 x8_1).f0) = 5
                            · rw [if_pos c76] at H
                              have c76b0 : (((rd_T33 l1 x8_1).f0) == 5) = true := beq_iff_eq.mpr c76
                              have c76b1 : (((rd_T33 l1 x8_1).f0) != 5) = false := bne_eq_false_iff_eq.mpr c76
                              clear c76
                              by_cases c77 : t280 = ji8
                              · rw [if_pos c77] at H
                                have c77b0 : (t280 == ji8) = true := beq_iff_eq.mpr c77
                                have c77b1 : (t280 != ji8) = false := bne_eq_false_iff_eq.mpr c77
                                clear c77
                                have H' := Aside0.mk H
                                clear H
                                have p291 : 0 ≤ (x8_1 : Int) := of_decide_eq_true (by first | (with_reducible assumption) | assumption)
                                have q291 : x8_1 < (l1.length : Int) := of_decide_eq_true (by first | (with_reducible assumption) | assumption)
                                obtain ⟨ad291, e291, hx291_0, hx291_1, hx291_2, hx291_3⟩ := at_T33 HR1.out x8_1 p291 q291
                                obtain rfl : ad278 = ad291 := (by injection e291)
                                replace hx291_0 := (HB.out.cell (World.block_lt_of_cell? w _ hx291_0)).trans hx291_0
                                replace hx291_1 := (HB.out.cell (World.block_lt_of_cell? w _ hx291_1)).trans hx291_1
                                replace hx291_2 := (HB.out.cell (World.block_lt_of_cell? w _ hx291_2)).trans hx291_2
                                replace hx291_3 := (HB.out.cell (World.block_lt_of_cell? w _ hx291_3)).trans hx291_3
                                replace p291 := eq_true p291
                                replace q291 := eq_true q291
                                have hnb78 := NB289_268.out
                                have hnc78 := NB268_289.out
                                have hcz79_0 : wc.cell? ⟨gb289, 0, none⟩ = some (.int .u32 t279) := (blk_cell BK289.out 0).trans rfl
                                have hcz79_1 : wc.cell? ⟨gb289, 1, none⟩ = some (.int .u32 t280) := (blk_cell BK289.out 1).trans rfl
                                have hcz79_2 : wc.cell? ⟨gb289, 2, none⟩ = some (.int .u32 t281) := (blk_cell BK289.out 2).trans rfl
                                have hcz79_3 : wc.cell? ⟨gb289, 3, none⟩ = some (.bool false) := (blk_cell BK289.out 3).trans rfl
                                have hfz79_0 := blk_frozen BK289.out 0
                                have hfz79_1 := blk_frozen BK289.out 1
                                have hfz79_2 := blk_frozen BK289.out 2
                                have hfz79_3 := blk_frozen BK289.out 3
                                have p295 : 0 ≤ (x8_1 : Int) := of_decide_eq_true (by first | (with_reducible assumption) | assumption)
                                have q295 : x8_1 < (l1.length : Int) := of_decide_eq_true (by first | (with_reducible assumption) | assumption)
                                obtain ⟨ad295, e295, hx295_0, hx295_1, hx295_2, hx295_3⟩ := at_T33 HR1.out x8_1 p295 q295
                                obtain rfl : ad278 = ad295 := (by injection e295)
                                replace hx295_0 := (HB.out.cell (World.block_lt_of_cell? w _ hx295_0)).trans hx295_0
                                replace hx295_1 := (HB.out.cell (World.block_lt_of_cell? w _ hx295_1)).trans hx295_1
                                replace hx295_2 := (HB.out.cell (World.block_lt_of_cell? w _ hx295_2)).trans hx295_2
                                replace hx295_3 := (HB.out.cell (World.block_lt_of_cell? w _ hx295_3)).trans hx295_3
                                replace p295 := eq_true p295
                                replace q295 := eq_true q295
                                have p297 : 0 ≤ (x8_1 : Int) := of_decide_eq_true (by first | (with_reducible assumption) | assumption)
                                have q297 : x8_1 < (l1.length : Int) := of_decide_eq_true (by first | (with_reducible assumption) | assumption)
                                obtain ⟨ad297, e297, hx297_0, hx297_1, hx297_2, hx297_3⟩ := at_T33 HR1.out x8_1 p297 q297
                                obtain rfl : ad278 = ad297 := (by injection e297)
                                replace hx297_0 := (HB.out.cell (World.block_lt_of_cell? w _ hx297_0)).trans hx297_0
                                replace hx297_1 := (HB.out.cell (World.block_lt_of_cell? w _ hx297_1)).trans hx297_1
                                replace hx297_2 := (HB.out.cell (World.block_lt_of_cell? w _ hx297_2)).trans hx297_2
                                replace hx297_3 := (HB.out.cell (World.block_lt_of_cell? w _ hx297_3)).trans hx297_3
                                replace p297 := eq_true p297
                                replace q297 := eq_true q297
                                go_wp2
                                go_meet
                                case rel => exact ⟨_, ((t281 != x7_13)), (by first | rfl | (simp; done) | (simp [*]; done)), H', ⟨by have := HK1.out; have := HJ13.out; first | omega | exact Nat.le_refl _⟩, ⟨by (with_reducible repeat (first | refine blk_drewN ?_ _ | refine blk_drew ?_ | refine blk_alloc ?_ _)); exact BK289.out⟩, ⟨by repeat (first | (with_reducible first | exact HI268.out | apply IsS57.alloc | apply IsS57.drewN | apply IsS57.drew | apply IsS57.set_0 | apply IsS57.set_1 | apply IsS57.set_2 | apply IsS57.set_3 | apply IsS57.set_4 | apply IsS57.set_5 | refine IsS57.far ?_ NB268_289.out _) | exact HI268.out)⟩, ⟨by repeat (first | (with_reducible first | exact HB.out | apply below_alloc | apply pw_below_drewN | apply below_drew1 | refine below_set ?_ (IsS57.ge HI268.out) | refine below_set ?_ GE289.out) | exact HB.out)⟩⟩
                              · rw [if_neg c77] at H
                                have c77b0 : (t280 == ji8) = false := beq_eq_false_iff_ne.mpr c77
                                have c77b1 : (t280 != ji8) = true := bne_iff_ne.mpr c77
                                have H' := Aside0.mk H
                                clear H
                                have p291 : 0 ≤ (x8_1 : Int) := of_decide_eq_true (by first | (with_reducible assumption) | assumption)
                                have q291 : x8_1 < (l1.length : Int) := of_decide_eq_true (by first | (with_reducible assumption) | assumption)
                                obtain ⟨ad291, e291, hx291_0, hx291_1, hx291_2, hx291_3⟩ := at_T33 HR1.out x8_1 p291 q291
                                obtain rfl : ad278 = ad291 := (by injection e291)
                                replace hx291_0 := (HB.out.cell (World.block_lt_of_cell? w _ hx291_0)).trans hx291_0
                                replace hx291_1 := (HB.out.cell (World.block_lt_of_cell? w _ hx291_1)).trans hx291_1
                                replace hx291_2 := (HB.out.cell (World.block_lt_of_cell? w _ hx291_2)).trans hx291_2
                                replace hx291_3 := (HB.out.cell (World.block_lt_of_cell? w _ hx291_3)).trans hx291_3
                                replace p291 := eq_true p291
                                replace q291 := eq_true q291
                                have hnb80 := NB289_268.out
                                have hnc80 := NB268_289.out
                                have hcz81_0 : wc.cell? ⟨gb289, 0, none⟩ = some (.int .u32 t279) := (blk_cell BK289.out 0).trans rfl
                                have hcz81_1 : wc.cell? ⟨gb289, 1, none⟩ = some (.int .u32 t280) := (blk_cell BK289.out 1).trans rfl
                                have hcz81_2 : wc.cell? ⟨gb289, 2, none⟩ = some (.int .u32 t281) := (blk_cell BK289.out 2).trans rfl
                                have hcz81_3 : wc.cell? ⟨gb289, 3, none⟩ = some (.bool false) := (blk_cell BK289.out 3).trans rfl
                                have hfz81_0 := blk_frozen BK289.out 0
                                have hfz81_1 := blk_frozen BK289.out 1
                                have hfz81_2 := blk_frozen BK289.out 2
                                have hfz81_3 := blk_frozen BK289.out 3
                                have p295 : 0 ≤ (x8_1 : Int) := of_decide_eq_true (by first | (with_reducible assumption) | assumption)
                                have q295 : x8_1 < (l1.length : Int) := of_decide_eq_true (by first | (with_reducible assumption) | assumption)
                                obtain ⟨ad295, e295, hx295_0, hx295_1, hx295_2, hx295_3⟩ := at_T33 HR1.out x8_1 p295 q295
                                obtain rfl : ad278 = ad295 := (by injection e295)
                                replace hx295_0 := (HB.out.cell (World.block_lt_of_cell? w _ hx295_0)).trans hx295_0
                                replace hx295_1 := (HB.out.cell (World.block_lt_of_cell? w _ hx295_1)).trans hx295_1
                                replace hx295_2 := (HB.out.cell (World.block_lt_of_cell? w _ hx295_2)).trans hx295_2
                                replace hx295_3 := (HB.out.cell (World.block_lt_of_cell? w _ hx295_3)).trans hx295_3
                                replace p295 := eq_true p295
                                replace q295 := eq_true q295
                                have p297 : 0 ≤ (x8_1 : Int) := of_decide_eq_true (by first | (with_reducible assumption) | assumption)
                                have q297 : x8_1 < (l1.length : Int) := of_decide_eq_true (by first | (with_reducible assumption) | assumption)
                                obtain ⟨ad297, e297, hx297_0, hx297_1, hx297_2, hx297_3⟩ := at_T33 HR1.out x8_1 p297 q297
                                obtain rfl : ad278 = ad297 := (by injection e297)
                                replace hx297_0 := (HB.out.cell (World.block_lt_of_cell? w _ hx297_0)).trans hx297_0
                                replace hx297_1 := (HB.out.cell (World.block_lt_of_cell? w _ hx297_1)).trans hx297_1
                                replace hx297_2 := (HB.out.cell (World.block_lt_of_cell? w _ hx297_2)).trans hx297_2
                                replace hx297_3 := (HB.out.cell (World.block_lt_of_cell? w _ hx297_3)).trans hx297_3
                                replace p297 := eq_true p297
                                replace q297 := eq_true q297
                                go_wp2
                                go_meet
                                case rel => exact ⟨_, (true), (by first | rfl | (simp; done) | (simp [*]; done)), H', ⟨by have := HK1.out; have := HJ13.out; first | omega | exact Nat.le_refl _⟩, ⟨by (with_reducible repeat (first | refine blk_drewN ?_ _ | refine blk_drew ?_ | refine blk_alloc ?_ _)); exact BK289.out⟩, ⟨by repeat (first | (with_reducible first | exact HI268.out | apply IsS57.alloc | apply IsS57.drewN | apply IsS57.drew | apply IsS57.set_0 | apply IsS57.set_1 | apply IsS57.set_2 | apply IsS57.set_3 | apply IsS57.set_4 | apply IsS57.set_5 | refine IsS57.far ?_ NB268_289.out _) | exact HI268.out)⟩, ⟨by repeat (first | (with_reducible first | exact HB.out | apply below_alloc | apply pw_below_drewN | apply below_drew1 | refine below_set ?_ (IsS57.ge HI268.out) | refine below_set ?_ GE289.out) | exact HB.out)⟩⟩
                            · rw [if_neg c76] at H
                              have c76b0 : (((rd_T33 l1 x8_1).f0) == 5) = false := beq_eq_false_iff_ne.mpr c76
                              have c76b1 : (((rd_T33 l1 x8_1).f0) != 5) = true := bne_iff_ne.mpr c76
                              have H' := Aside0.mk H
                              clear H
                              have p291 : 0 ≤ (x8_1 : Int) := of_decide_eq_true (by first | (with_reducible assumption) | assumption)
                              have q291 : x8_1 < (l1.length : Int) := of_decide_eq_true (by first | (with_reducible assumption) | assumption)
                              obtain ⟨ad291, e291, hx291_0, hx291_1, hx291_2, hx291_3⟩ := at_T33 HR1.out x8_1 p291 q291
                              obtain rfl : ad278 = ad291 := (by injection e291)
                              replace hx291_0 := (HB.out.cell (World.block_lt_of_cell? w _ hx291_0)).trans hx291_0
                              replace hx291_1 := (HB.out.cell (World.block_lt_of_cell? w _ hx291_1)).trans hx291_1
                              replace hx291_2 := (HB.out.cell (World.block_lt_of_cell? w _ hx291_2)).trans hx291_2
                              replace hx291_3 := (HB.out.cell (World.block_lt_of_cell? w _ hx291_3)).trans hx291_3
                              replace p291 := eq_true p291
                              replace q291 := eq_true q291
                              have hnb82 := NB289_268.out
                              have hnc82 := NB268_289.out
                              have hcz83_0 : wc.cell? ⟨gb289, 0, none⟩ = some (.int .u32 t279) := (blk_cell BK289.out 0).trans rfl
                              have hcz83_1 : wc.cell? ⟨gb289, 1, none⟩ = some (.int .u32 t280) := (blk_cell BK289.out 1).trans rfl
                              have hcz83_2 : wc.cell? ⟨gb289, 2, none⟩ = some (.int .u32 t281) := (blk_cell BK289.out 2).trans rfl
                              have hcz83_3 : wc.cell? ⟨gb289, 3, none⟩ = some (.bool false) := (blk_cell BK289.out 3).trans rfl
                              have hfz83_0 := blk_frozen BK289.out 0
                              have hfz83_1 := blk_frozen BK289.out 1
                              have hfz83_2 := blk_frozen BK289.out 2
                              have hfz83_3 := blk_frozen BK289.out 3
                              have p295 : 0 ≤ (x8_1 : Int) := of_decide_eq_true (by first | (with_reducible assumption) | assumption)
                              have q295 : x8_1 < (l1.length : Int) := of_decide_eq_true (by first | (with_reducible assumption) | assumption)
                              obtain ⟨ad295, e295, hx295_0, hx295_1, hx295_2, hx295_3⟩ := at_T33 HR1.out x8_1 p295 q295
                              obtain rfl : ad278 = ad295 := (by injection e295)
                              replace hx295_0 := (HB.out.cell (World.block_lt_of_cell? w _ hx295_0)).trans hx295_0
                              replace hx295_1 := (HB.out.cell (World.block_lt_of_cell? w _ hx295_1)).trans hx295_1
                              replace hx295_2 := (HB.out.cell (World.block_lt_of_cell? w _ hx295_2)).trans hx295_2
                              replace hx295_3 := (HB.out.cell (World.block_lt_of_cell? w _ hx295_3)).trans hx295_3
                              replace p295 := eq_true p295
                              replace q295 := eq_true q295
                              have p297 : 0 ≤ (x8_1 : Int) := of_decide_eq_true (by first | (with_reducible assumption) | assumption)
                              have q297 : x8_1 < (l1.length : Int) := of_decide_eq_true (by first | (with_reducible assumption) | assumption)
                              obtain ⟨ad297, e297, hx297_0, hx297_1, hx297_2, hx297_3⟩ := at_T33 HR1.out x8_1 p297 q297
                              obtain rfl : ad278 = ad297 := (by injection e297)
                              replace hx297_0 := (HB.out.cell (World.block_lt_of_cell? w _ hx297_0)).trans hx297_0
                              replace hx297_1 := (HB.out.cell (World.block_lt_of_cell? w _ hx297_1)).trans hx297_1
                              replace hx297_2 := (HB.out.cell (World.block_lt_of_cell? w _ hx297_2)).trans hx297_2
                              replace hx297_3 := (HB.out.cell (World.block_lt_of_cell? w _ hx297_3)).trans hx297_3
                              replace p297 := eq_true p297
                              replace q297 := eq_true q297
                              go_wp2
                              go_meet
                              case rel => exact ⟨_, (false), (by first | rfl | (simp; done) | (simp [*]; done)), H', ⟨by have := HK1.out; have := HJ13.out; first | omega | exact Nat.le_refl _⟩, ⟨by (with_reducible repeat (first | refine blk_drewN ?_ _ | refine blk_drew ?_ | refine blk_alloc ?_ _)); exact BK289.out⟩, ⟨by repeat (first | (with_reducible first | exact HI268.out | apply IsS57.alloc | apply IsS57.drewN | apply IsS57.drew | apply IsS57.set_0 | apply IsS57.set_1 | apply IsS57.set_2 | apply IsS57.set_3 | apply IsS57.set_4 | apply IsS57.set_5 | refine IsS57.far ?_ NB268_289.out _) | exact HI268.out)⟩, ⟨by repeat (first | (with_reducible first | exact HB.out | apply below_alloc | apply pw_below_drewN | apply below_drew1 | refine below_set ?_ (IsS57.ge HI268.out) | refine below_set ?_ GE289.out) | exact HB.out)⟩⟩
                      · rw [if_neg c39] at H
                        have c39b0 : (((rd_T33 l1 x8_1).f0) == 2) = false := beq_eq_false_iff_ne.mpr c39
                        have c39b1 : (((rd_T33 l1 x8_1).f0) != 2) = true := bne_iff_ne.mpr c39
                        by_cases c84 : ((rd_T33 l1 x8_1).f0) = 4
                        · rw [if_pos c84] at H
                          have c84b0 : (((rd_T33 l1 x8_1).f0) == 4) = true := beq_iff_eq.mpr c84
                          have c84b1 : (((rd_T33 l1 x8_1).f0) != 4) = false := bne_eq_false_iff_eq.mpr c84
                          clear c84
                          by_cases c85 : (t282 != (decide (t271 ≤ ((Int.tdiv ji8 2) % 4294967296)))) = true
                          · rw [if_pos c85] at H
                            have c85b0 : (t282 != (decide (t271 ≤ ((Int.tdiv ji8 2) % 4294967296)))) = true := c85
                            (try (have c85bd : (t282 != decide (t271 ≤ ji8 / 2)) = true := by have e_ : Int.tdiv ji8 2 % 4294967296 = ji8 / 2 := (by rw [Int.tdiv_eq_ediv_of_nonneg (by omega)]; omega); rw [e_] at c85b0; exact c85b0))
                            (try (have c85be : (t282 == decide (t271 ≤ ji8 / 2)) = false := by simpa using c85bd))
                            (try (have c85bf : decide (t282 = decide (t271 ≤ ji8 / 2)) = false := by simpa using c85bd))
                            (try (have c85b1 : decide (t282 = (decide (t271 ≤ ((Int.tdiv ji8 2) % 4294967296)))) = false := by simpa using c85))
                            (try (have c85b2 : (t282 == (decide (t271 ≤ ((Int.tdiv ji8 2) % 4294967296)))) = false := by simpa using c85))
                            (try (have c85b3 : ¬ (t282 = (decide (t271 ≤ ((Int.tdiv ji8 2) % 4294967296)))) := by simpa using c85))
                            clear c85
                            have H' := Aside0.mk H
                            clear H
                            have p291 : 0 ≤ (x8_1 : Int) := of_decide_eq_true (by first | (with_reducible assumption) | assumption)
                            have q291 : x8_1 < (l1.length : Int) := of_decide_eq_true (by first | (with_reducible assumption) | assumption)
                            obtain ⟨ad291, e291, hx291_0, hx291_1, hx291_2, hx291_3⟩ := at_T33 HR1.out x8_1 p291 q291
                            obtain rfl : ad278 = ad291 := (by injection e291)
                            replace hx291_0 := (HB.out.cell (World.block_lt_of_cell? w _ hx291_0)).trans hx291_0
                            replace hx291_1 := (HB.out.cell (World.block_lt_of_cell? w _ hx291_1)).trans hx291_1
                            replace hx291_2 := (HB.out.cell (World.block_lt_of_cell? w _ hx291_2)).trans hx291_2
                            replace hx291_3 := (HB.out.cell (World.block_lt_of_cell? w _ hx291_3)).trans hx291_3
                            replace p291 := eq_true p291
                            replace q291 := eq_true q291
                            have p298 : 0 ≤ (x8_1 : Int) := of_decide_eq_true (by first | (with_reducible assumption) | assumption)
                            have q298 : x8_1 < (l1.length : Int) := of_decide_eq_true (by first | (with_reducible assumption) | assumption)
                            obtain ⟨ad298, e298, hx298_0, hx298_1, hx298_2, hx298_3⟩ := at_T33 HR1.out x8_1 p298 q298
                            obtain rfl : ad278 = ad298 := (by injection e298)
                            replace hx298_0 := (HB.out.cell (World.block_lt_of_cell? w _ hx298_0)).trans hx298_0
                            replace hx298_1 := (HB.out.cell (World.block_lt_of_cell? w _ hx298_1)).trans hx298_1
                            replace hx298_2 := (HB.out.cell (World.block_lt_of_cell? w _ hx298_2)).trans hx298_2
                            replace hx298_3 := (HB.out.cell (World.block_lt_of_cell? w _ hx298_3)).trans hx298_3
                            replace p298 := eq_true p298
                            replace q298 := eq_true q298
                            have hnb86 := NB289_268.out
                            have hnc86 := NB268_289.out
                            have hcz87_0 : wc.cell? ⟨gb289, 0, none⟩ = some (.int .u32 t279) := (blk_cell BK289.out 0).trans rfl
                            have hcz87_1 : wc.cell? ⟨gb289, 1, none⟩ = some (.int .u32 t280) := (blk_cell BK289.out 1).trans rfl
                            have hcz87_2 : wc.cell? ⟨gb289, 2, none⟩ = some (.int .u32 t281) := (blk_cell BK289.out 2).trans rfl
                            have hcz87_3 : wc.cell? ⟨gb289, 3, none⟩ = some (.bool t282) := (blk_cell BK289.out 3).trans rfl
                            have hfz87_0 := blk_frozen BK289.out 0
                            have hfz87_1 := blk_frozen BK289.out 1
                            have hfz87_2 := blk_frozen BK289.out 2
                            have hfz87_3 := blk_frozen BK289.out 3
                            go_wp2
                            go_meet
                            case rel => exact ⟨_, (true), (by first | rfl | (simp; done) | (simp [*]; done)), H', ⟨by have := HK1.out; have := HJ13.out; first | omega | exact Nat.le_refl _⟩, ⟨by (with_reducible repeat (first | refine blk_drewN ?_ _ | refine blk_drew ?_ | refine blk_alloc ?_ _)); exact BK289.out⟩, ⟨by repeat (first | (with_reducible first | exact HI268.out | apply IsS57.alloc | apply IsS57.drewN | apply IsS57.drew | apply IsS57.set_0 | apply IsS57.set_1 | apply IsS57.set_2 | apply IsS57.set_3 | apply IsS57.set_4 | apply IsS57.set_5 | refine IsS57.far ?_ NB268_289.out _) | exact HI268.out)⟩, ⟨by repeat (first | (with_reducible first | exact HB.out | apply below_alloc | apply pw_below_drewN | apply below_drew1 | refine below_set ?_ (IsS57.ge HI268.out) | refine below_set ?_ GE289.out) | exact HB.out)⟩⟩
                          · rw [if_neg c85] at H
                            have c85b0 : (t282 != (decide (t271 ≤ ((Int.tdiv ji8 2) % 4294967296)))) = false := by simpa using c85
                            (try (have c85bd : (t282 != decide (t271 ≤ ji8 / 2)) = false := by have e_ : Int.tdiv ji8 2 % 4294967296 = ji8 / 2 := (by rw [Int.tdiv_eq_ediv_of_nonneg (by omega)]; omega); rw [e_] at c85b0; exact c85b0))
                            (try (have c85be : (t282 == decide (t271 ≤ ji8 / 2)) = true := by simpa using c85bd))
                            (try (have c85bf : decide (t282 = decide (t271 ≤ ji8 / 2)) = true := by simpa using c85bd))
                            (try (have c85b1 : decide (t282 = (decide (t271 ≤ ((Int.tdiv ji8 2) % 4294967296)))) = true := by simpa using c85))
                            (try (have c85b2 : (t282 == (decide (t271 ≤ ((Int.tdiv ji8 2) % 4294967296)))) = true := by simpa using c85))
                            clear c85
                            by_cases c88 : ((rd_T33 l1 x8_1).f0) = 5
                            · rw [if_pos c88] at H
                              have c88b0 : (((rd_T33 l1 x8_1).f0) == 5) = true := beq_iff_eq.mpr c88
                              have c88b1 : (((rd_T33 l1 x8_1).f0) != 5) = false := bne_eq_false_iff_eq.mpr c88
                              clear c88
                              by_cases c89 : t280 = ji8
                              · rw [if_pos c89] at H
                                have c89b0 : (t280 == ji8) = true := beq_iff_eq.mpr c89
                                have c89b1 : (t280 != ji8) = false := bne_eq_false_iff_eq.mpr c89
                                clear c89
                                have H' := Aside0.mk H
                                clear H
                                have p291 : 0 ≤ (x8_1 : Int) := of_decide_eq_true (by first | (with_reducible assumption) | assumption)
                                have q291 : x8_1 < (l1.length : Int) := of_decide_eq_true (by first | (with_reducible assumption) | assumption)
                                obtain ⟨ad291, e291, hx291_0, hx291_1, hx291_2, hx291_3⟩ := at_T33 HR1.out x8_1 p291 q291
                                obtain rfl : ad278 = ad291 := (by injection e291)
                                replace hx291_0 := (HB.out.cell (World.block_lt_of_cell? w _ hx291_0)).trans hx291_0
                                replace hx291_1 := (HB.out.cell (World.block_lt_of_cell? w _ hx291_1)).trans hx291_1
                                replace hx291_2 := (HB.out.cell (World.block_lt_of_cell? w _ hx291_2)).trans hx291_2
                                replace hx291_3 := (HB.out.cell (World.block_lt_of_cell? w _ hx291_3)).trans hx291_3
                                replace p291 := eq_true p291
                                replace q291 := eq_true q291
                                have p298 : 0 ≤ (x8_1 : Int) := of_decide_eq_true (by first | (with_reducible assumption) | assumption)
                                have q298 : x8_1 < (l1.length : Int) := of_decide_eq_true (by first | (with_reducible assumption) | assumption)
                                obtain ⟨ad298, e298, hx298_0, hx298_1, hx298_2, hx298_3⟩ := at_T33 HR1.out x8_1 p298 q298
                                obtain rfl : ad278 = ad298 := (by injection e298)
                                replace hx298_0 := (HB.out.cell (World.block_lt_of_cell? w _ hx298_0)).trans hx298_0
                                replace hx298_1 := (HB.out.cell (World.block_lt_of_cell? w _ hx298_1)).trans hx298_1
                                replace hx298_2 := (HB.out.cell (World.block_lt_of_cell? w _ hx298_2)).trans hx298_2
                                replace hx298_3 := (HB.out.cell (World.block_lt_of_cell? w _ hx298_3)).trans hx298_3
                                replace p298 := eq_true p298
                                replace q298 := eq_true q298
                                have hnb90 := NB289_268.out
                                have hnc90 := NB268_289.out
                                have hcz91_0 : wc.cell? ⟨gb289, 0, none⟩ = some (.int .u32 t279) := (blk_cell BK289.out 0).trans rfl
                                have hcz91_1 : wc.cell? ⟨gb289, 1, none⟩ = some (.int .u32 t280) := (blk_cell BK289.out 1).trans rfl
                                have hcz91_2 : wc.cell? ⟨gb289, 2, none⟩ = some (.int .u32 t281) := (blk_cell BK289.out 2).trans rfl
                                have hcz91_3 : wc.cell? ⟨gb289, 3, none⟩ = some (.bool t282) := (blk_cell BK289.out 3).trans rfl
                                have hfz91_0 := blk_frozen BK289.out 0
                                have hfz91_1 := blk_frozen BK289.out 1
                                have hfz91_2 := blk_frozen BK289.out 2
                                have hfz91_3 := blk_frozen BK289.out 3
                                have p299 : 0 ≤ (x8_1 : Int) := of_decide_eq_true (by first | (with_reducible assumption) | assumption)
                                have q299 : x8_1 < (l1.length : Int) := of_decide_eq_true (by first | (with_reducible assumption) | assumption)
                                obtain ⟨ad299, e299, hx299_0, hx299_1, hx299_2, hx299_3⟩ := at_T33 HR1.out x8_1 p299 q299
                                obtain rfl : ad278 = ad299 := (by injection e299)
                                replace hx299_0 := (HB.out.cell (World.block_lt_of_cell? w _ hx299_0)).trans hx299_0
                                replace hx299_1 := (HB.out.cell (World.block_lt_of_cell? w _ hx299_1)).trans hx299_1
                                replace hx299_2 := (HB.out.cell (World.block_lt_of_cell? w _ hx299_2)).trans hx299_2
                                replace hx299_3 := (HB.out.cell (World.block_lt_of_cell? w _ hx299_3)).trans hx299_3
                                replace p299 := eq_true p299
                                replace q299 := eq_true q299
                                go_wp2
                                go_meet
                                case rel => exact ⟨_, ((t281 != x7_13)), (by first | rfl | (simp; done) | (simp [*]; done)), H', ⟨by have := HK1.out; have := HJ13.out; first | omega | exact Nat.le_refl _⟩, ⟨by (with_reducible repeat (first | refine blk_drewN ?_ _ | refine blk_drew ?_ | refine blk_alloc ?_ _)); exact BK289.out⟩, ⟨by repeat (first | (with_reducible first | exact HI268.out | apply IsS57.alloc | apply IsS57.drewN | apply IsS57.drew | apply IsS57.set_0 | apply IsS57.set_1 | apply IsS57.set_2 | apply IsS57.set_3 | apply IsS57.set_4 | apply IsS57.set_5 | refine IsS57.far ?_ NB268_289.out _) | exact HI268.out)⟩, ⟨by repeat (first | (with_reducible first | exact HB.out | apply below_alloc | apply pw_below_drewN | apply below_drew1 | refine below_set ?_ (IsS57.ge HI268.out) | refine below_set ?_ GE289.out) | exact HB.out)⟩⟩
                              · rw [if_neg c89] at H
                                have c89b0 : (t280 == ji8) = false := beq_eq_false_iff_ne.mpr c89
                                have c89b1 : (t280 != ji8) = true := bne_iff_ne.mpr c89
                                have H' := Aside0.mk H
                                clear H
                                have p291 : 0 ≤ (x8_1 : Int) := of_decide_eq_true (by first | (with_reducible assumption) | assumption)
                                have q291 : x8_1 < (l1.length : Int) := of_decide_eq_true (by first | (with_reducible assumption) | assumption)
                                obtain ⟨ad291, e291, hx291_0, hx291_1, hx291_2, hx291_3⟩ := at_T33 HR1.out x8_1 p291 q291
                                obtain rfl : ad278 = ad291 := (by injection e291)
                                replace hx291_0 := (HB.out.cell (World.block_lt_of_cell? w _ hx291_0)).trans hx291_0
                                replace hx291_1 := (HB.out.cell (World.block_lt_of_cell? w _ hx291_1)).trans hx291_1
                                replace hx291_2 := (HB.out.cell (World.block_lt_of_cell? w _ hx291_2)).trans hx291_2
                                replace hx291_3 := (HB.out.cell (World.block_lt_of_cell? w _ hx291_3)).trans hx291_3
                                replace p291 := eq_true p291
                                replace q291 := eq_true q291
                                have p298 : 0 ≤ (x8_1 : Int) := of_decide_eq_true (by first | (with_reducible assumption) | assumption)
                                have q298 : x8_1 < (l1.length : Int) := of_decide_eq_true (by first | (with_reducible assumption) | assumption)
                                obtain ⟨ad298, e298, hx298_0, hx298_1, hx298_2, hx298_3⟩ := at_T33 HR1.out x8_1 p298 q298
                                obtain rfl : ad278 = ad298 := (by injection e298)
                                replace hx298_0 := (HB.out.cell (World.block_lt_of_cell? w _ hx298_0)).trans hx298_0
                                replace hx298_1 := (HB.out.cell (World.block_lt_of_cell? w _ hx298_1)).trans hx298_1
                                replace hx298_2 := (HB.out.cell (World.block_lt_of_cell? w _ hx298_2)).trans hx298_2
                                replace hx298_3 := (HB.out.cell (World.block_lt_of_cell? w _ hx298_3)).trans hx298_3
                                replace p298 := eq_true p298
                                replace q298 := eq_true q298
                                have hnb92 := NB289_268.out
                                have hnc92 := NB268_289.out
                                have hcz93_0 : wc.cell? ⟨gb289, 0, none⟩ = some (.int .u32 t279) := (blk_cell BK289.out 0).trans rfl
                                have hcz93_1 : wc.cell? ⟨gb289, 1, none⟩ = some (.int .u32 t280) := (blk_cell BK289.out 1).trans rfl
                                have hcz93_2 : wc.cell? ⟨gb289, 2, none⟩ = some (.int .u32 t281) := (blk_cell BK289.out 2).trans rfl
                                have hcz93_3 : wc.cell? ⟨gb289, 3, none⟩ = some (.bool t282) := (blk_cell BK289.out 3).trans rfl
                                have hfz93_0 := blk_frozen BK289.out 0
                                have hfz93_1 := blk_frozen BK289.out 1
                                have hfz93_2 := blk_frozen BK289.out 2
                                have hfz93_3 := blk_frozen BK289.out 3
                                have p299 : 0 ≤ (x8_1 : Int) := of_decide_eq_true (by first | (with_reducible assumption) | assumption)
                                have q299 : x8_1 < (l1.length : Int) := of_decide_eq_true (by first | (with_reducible assumption) | assumption)
                                obtain ⟨ad299, e299, hx299_0, hx299_1, hx299_2, hx299_3⟩ := at_T33 HR1.out x8_1 p299 q299
                                obtain rfl : ad278 = ad299 := (by injection e299)
                                replace hx299_0 := (HB.out.cell (World.block_lt_of_cell? w _ hx299_0)).trans hx299_0
                                replace hx299_1 := (HB.out.cell (World.block_lt_of_cell? w _ hx299_1)).trans hx299_1
                                replace hx299_2 := (HB.out.cell (World.block_lt_of_cell? w _ hx299_2)).trans hx299_2
                                replace hx299_3 := (HB.out.cell (World.block_lt_of_cell? w _ hx299_3)).trans hx299_3
                                replace p299 := eq_true p299
                                replace q299 := eq_true q299
                                go_wp2
                                go_meet
                                case rel => exact ⟨_, (true), (by first | rfl | (simp; done) | (simp [*]; done)), H', ⟨by have := HK1.out; have := HJ13.out; first | omega | exact Nat.le_refl _⟩, ⟨by (with_reducible repeat (first | refine blk_drewN ?_ _ | refine blk_drew ?_ | refine blk_alloc ?_ _)); exact BK289.out⟩, ⟨by repeat (first | (with_reducible first | exact HI268.out | apply IsS57.alloc | apply IsS57.drewN | apply IsS57.drew | apply IsS57.set_0 | apply IsS57.set_1 | apply IsS57.set_2 | apply IsS57.set_3 | apply IsS57.set_4 | apply IsS57.set_5 | refine IsS57.far ?_ NB268_289.out _) | exact HI268.out)⟩, ⟨by repeat (first | (with_reducible first | exact HB.out | apply below_alloc | apply pw_below_drewN | apply below_drew1 | refine below_set ?_ (IsS57.ge HI268.out) | refine below_set ?_ GE289.out) | exact HB.out)⟩⟩
                            · rw [if_neg c88] at H
                              have c88b0 : (((rd_T33 l1 x8_1).f0) == 5) = false := beq_eq_false_iff_ne.mpr c88
                              have c88b1 : (((rd_T33 l1 x8_1).f0) != 5) = true := bne_iff_ne.mpr c88
                              have H' := Aside0.mk H
                              clear H
                              have p291 : 0 ≤ (x8_1 : Int) := of_decide_eq_true (by first | (with_reducible assumption) | assumption)
                              have q291 : x8_1 < (l1.length : Int) := of_decide_eq_true (by first | (with_reducible assumption) | assumption)
                              obtain ⟨ad291, e291, hx291_0, hx291_1, hx291_2, hx291_3⟩ := at_T33 HR1.out x8_1 p291 q291
                              obtain rfl : ad278 = ad291 := (by injection e291)
                              replace hx291_0 := (HB.out.cell (World.block_lt_of_cell? w _ hx291_0)).trans hx291_0
                              replace hx291_1 := (HB.out.cell (World.block_lt_of_cell? w _ hx291_1)).trans hx291_1
                              replace hx291_2 := (HB.out.cell (World.block_lt_of_cell? w _ hx291_2)).trans hx291_2
                              replace hx291_3 := (HB.out.cell (World.block_lt_of_cell? w _ hx291_3)).trans hx291_3
                              replace p291 := eq_true p291
                              replace q291 := eq_true q291
                              have p298 : 0 ≤ (x8_1 : Int) := of_decide_eq_true (by first | (with_reducible assumption) | assumption)
                              have q298 : x8_1 < (l1.length : Int) := of_decide_eq_true (by first | (with_reducible assumption) | assumption)
                              obtain ⟨ad298, e298, hx298_0, hx298_1, hx298_2, hx298_3⟩ := at_T33 HR1.out x8_1 p298 q298
                              obtain rfl : ad278 = ad298 := (by injection e298)
                              replace hx298_0 := (HB.out.cell (World.block_lt_of_cell? w _ hx298_0)).trans hx298_0
                              replace hx298_1 := (HB.out.cell (World.block_lt_of_cell? w _ hx298_1)).trans hx298_1
                              replace hx298_2 := (HB.out.cell (World.block_lt_of_cell? w _ hx298_2)).trans hx298_2
                              replace hx298_3 := (HB.out.cell (World.block_lt_of_cell? w _ hx298_3)).trans hx298_3
                              replace p298 := eq_true p298
                              replace q298 := eq_true q298
                              have hnb94 := NB289_268.out
                              have hnc94 := NB268_289.out
                              have hcz95_0 : wc.cell? ⟨gb289, 0, none⟩ = some (.int .u32 t279) := (blk_cell BK289.out 0).trans rfl
                              have hcz95_1 : wc.cell? ⟨gb289, 1, none⟩ = some (.int .u32 t280) := (blk_cell BK289.out 1).trans rfl
                              have hcz95_2 : wc.cell? ⟨gb289, 2, none⟩ = some (.int .u32 t281) := (blk_cell BK289.out 2).trans rfl
                              have hcz95_3 : wc.cell? ⟨gb289, 3, none⟩ = some (.bool t282) := (blk_cell BK289.out 3).trans rfl
                              have hfz95_0 := blk_frozen BK289.out 0
                              have hfz95_1 := blk_frozen BK289.out 1
                              have hfz95_2 := blk_frozen BK289.out 2
                              have hfz95_3 := blk_frozen BK289.out 3
                              have p299 : 0 ≤ (x8_1 : Int) := of_decide_eq_true (by first | (with_reducible assumption) | assumption)
                              have q299 : x8_1 < (l1.length : Int) := of_decide_eq_true (by first | (with_reducible assumption) | assumption)
                              obtain ⟨ad299, e299, hx299_0, hx299_1, hx299_2, hx299_3⟩ := at_T33 HR1.out x8_1 p299 q299
                              obtain rfl : ad278 = ad299 := (by injection e299)
                              replace hx299_0 := (HB.out.cell (World.block_lt_of_cell? w _ hx299_0)).trans hx299_0
                              replace hx299_1 := (HB.out.cell (World.block_lt_of_cell? w _ hx299_1)).trans hx299_1
                              replace hx299_2 := (HB.out.cell (World.block_lt_of_cell? w _ hx299_2)).trans hx299_2
                              replace hx299_3 := (HB.out.cell (World.block_lt_of_cell? w _ hx299_3)).trans hx299_3
                              replace p299 := eq_true p299
                              replace q299 := eq_true q299
                              go_wp2
                              go_meet
                              case rel => exact ⟨_, (false), (by first | rfl | (simp; done) | (simp [*]; done)), H', ⟨by have := HK1.out; have := HJ13.out; first | omega | exact Nat.le_refl _⟩, ⟨by (with_reducible repeat (first | refine blk_drewN ?_ _ | refine blk_drew ?_ | refine blk_alloc ?_ _)); exact BK289.out⟩, ⟨by repeat (first | (with_reducible first | exact HI268.out | apply IsS57.alloc | apply IsS57.drewN | apply IsS57.drew | apply IsS57.set_0 | apply IsS57.set_1 | apply IsS57.set_2 | apply IsS57.set_3 | apply IsS57.set_4 | apply IsS57.set_5 | refine IsS57.far ?_ NB268_289.out _) | exact HI268.out)⟩, ⟨by repeat (first | (with_reducible first | exact HB.out | apply below_alloc | apply pw_below_drewN | apply below_drew1 | refine below_set ?_ (IsS57.ge HI268.out) | refine below_set ?_ GE289.out) | exact HB.out)⟩⟩
                        · rw [if_neg c84] at H
                          have c84b0 : (((rd_T33 l1 x8_1).f0) == 4) = false := beq_eq_false_iff_ne.mpr c84
                          have c84b1 : (((rd_T33 l1 x8_1).f0) != 4) = true := bne_iff_ne.mpr c84
                          by_cases c96 : ((rd_T33 l1 x8_1).f0) = 5
                          · rw [if_pos c96] at H
                            have c96b0 : (((rd_T33 l1 x8_1).f0) == 5) = true := beq_iff_eq.mpr c96
                            have c96b1 : (((rd_T33 l1 x8_1).f0) != 5) = false := bne_eq_false_iff_eq.mpr c96
                            clear c96
                            by_cases c97 : t280 = ji8
                            · rw [if_pos c97] at H
                              have c97b0 : (t280 == ji8) = true := beq_iff_eq.mpr c97
                              have c97b1 : (t280 != ji8) = false := bne_eq_false_iff_eq.mpr c97
                              clear c97
                              have H' := Aside0.mk H
                              clear H
                              have p291 : 0 ≤ (x8_1 : Int) := of_decide_eq_true (by first | (with_reducible assumption) | assumption)
                              have q291 : x8_1 < (l1.length : Int) := of_decide_eq_true (by first | (with_reducible assumption) | assumption)
                              obtain ⟨ad291, e291, hx291_0, hx291_1, hx291_2, hx291_3⟩ := at_T33 HR1.out x8_1 p291 q291
                              obtain rfl : ad278 = ad291 := (by injection e291)
                              replace hx291_0 := (HB.out.cell (World.block_lt_of_cell? w _ hx291_0)).trans hx291_0
                              replace hx291_1 := (HB.out.cell (World.block_lt_of_cell? w _ hx291_1)).trans hx291_1
                              replace hx291_2 := (HB.out.cell (World.block_lt_of_cell? w _ hx291_2)).trans hx291_2
                              replace hx291_3 := (HB.out.cell (World.block_lt_of_cell? w _ hx291_3)).trans hx291_3
                              replace p291 := eq_true p291
                              replace q291 := eq_true q291
                              have p298 : 0 ≤ (x8_1 : Int) := of_decide_eq_true (by first | (with_reducible assumption) | assumption)
                              have q298 : x8_1 < (l1.length : Int) := of_decide_eq_true (by first | (with_reducible assumption) | assumption)
                              obtain ⟨ad298, e298, hx298_0, hx298_1, hx298_2, hx298_3⟩ := at_T33 HR1.out x8_1 p298 q298
                              obtain rfl : ad278 = ad298 := (by injection e298)
                              replace hx298_0 := (HB.out.cell (World.block_lt_of_cell? w _ hx298_0)).trans hx298_0
                              replace hx298_1 := (HB.out.cell (World.block_lt_of_cell? w _ hx298_1)).trans hx298_1
                              replace hx298_2 := (HB.out.cell (World.block_lt_of_cell? w _ hx298_2)).trans hx298_2
                              replace hx298_3 := (HB.out.cell (World.block_lt_of_cell? w _ hx298_3)).trans hx298_3
                              replace p298 := eq_true p298
                              replace q298 := eq_true q298
                              have p300 : 0 ≤ (x8_1 : Int) := of_decide_eq_true (by first | (with_reducible assumption) | assumption)
                              have q300 : x8_1 < (l1.length : Int) := of_decide_eq_true (by first | (with_reducible assumption) | assumption)
                              obtain ⟨ad300, e300, hx300_0, hx300_1, hx300_2, hx300_3⟩ := at_T33 HR1.out x8_1 p300 q300
                              obtain rfl : ad278 = ad300 := (by injection e300)
                              replace hx300_0 := (HB.out.cell (World.block_lt_of_cell? w _ hx300_0)).trans hx300_0
                              replace hx300_1 := (HB.out.cell (World.block_lt_of_cell? w _ hx300_1)).trans hx300_1
                              replace hx300_2 := (HB.out.cell (World.block_lt_of_cell? w _ hx300_2)).trans hx300_2
                              replace hx300_3 := (HB.out.cell (World.block_lt_of_cell? w _ hx300_3)).trans hx300_3
                              replace p300 := eq_true p300
                              replace q300 := eq_true q300
                              have hnb98 := NB289_268.out
                              have hnc98 := NB268_289.out
                              have hcz99_0 : wc.cell? ⟨gb289, 0, none⟩ = some (.int .u32 t279) := (blk_cell BK289.out 0).trans rfl
                              have hcz99_1 : wc.cell? ⟨gb289, 1, none⟩ = some (.int .u32 t280) := (blk_cell BK289.out 1).trans rfl
                              have hcz99_2 : wc.cell? ⟨gb289, 2, none⟩ = some (.int .u32 t281) := (blk_cell BK289.out 2).trans rfl
                              have hcz99_3 : wc.cell? ⟨gb289, 3, none⟩ = some (.bool t282) := (blk_cell BK289.out 3).trans rfl
                              have hfz99_0 := blk_frozen BK289.out 0
                              have hfz99_1 := blk_frozen BK289.out 1
                              have hfz99_2 := blk_frozen BK289.out 2
                              have hfz99_3 := blk_frozen BK289.out 3
                              go_wp2
                              go_meet
                              case rel => exact ⟨_, ((t281 != x7_13)), (by first | rfl | (simp; done) | (simp [*]; done)), H', ⟨by have := HK1.out; have := HJ13.out; first | omega | exact Nat.le_refl _⟩, ⟨by (with_reducible repeat (first | refine blk_drewN ?_ _ | refine blk_drew ?_ | refine blk_alloc ?_ _)); exact BK289.out⟩, ⟨by repeat (first | (with_reducible first | exact HI268.out | apply IsS57.alloc | apply IsS57.drewN | apply IsS57.drew | apply IsS57.set_0 | apply IsS57.set_1 | apply IsS57.set_2 | apply IsS57.set_3 | apply IsS57.set_4 | apply IsS57.set_5 | refine IsS57.far ?_ NB268_289.out _) | exact HI268.out)⟩, ⟨by repeat (first | (with_reducible first | exact HB.out | apply below_alloc | apply pw_below_drewN | apply below_drew1 | refine below_set ?_ (IsS57.ge HI268.out) | refine below_set ?_ GE289.out) | exact HB.out)⟩⟩
                            · rw [if_neg c97] at H
                              have c97b0 : (t280 == ji8) = false := beq_eq_false_iff_ne.mpr c97
                              have c97b1 : (t280 != ji8) = true := bne_iff_ne.mpr c97
                              have H' := Aside0.mk H
                              clear H
                              have p291 : 0 ≤ (x8_1 : Int) := of_decide_eq_true (by first | (with_reducible assumption) | assumption)
                              have q291 : x8_1 < (l1.length : Int) := of_decide_eq_true (by first | (with_reducible assumption) | assumption)
                              obtain ⟨ad291, e291, hx291_0, hx291_1, hx291_2, hx291_3⟩ := at_T33 HR1.out x8_1 p291 q291
                              obtain rfl : ad278 = ad291 := (by injection e291)
                              replace hx291_0 := (HB.out.cell (World.block_lt_of_cell? w _ hx291_0)).trans hx291_0
                              replace hx291_1 := (HB.out.cell (World.block_lt_of_cell? w _ hx291_1)).trans hx291_1
                              replace hx291_2 := (HB.out.cell (World.block_lt_of_cell? w _ hx291_2)).trans hx291_2
                              replace hx291_3 := (HB.out.cell (World.block_lt_of_cell? w _ hx291_3)).trans hx291_3
                              replace p291 := eq_true p291
                              replace q291 := eq_true q291
                              have p298 : 0 ≤ (x8_1 : Int) := of_decide_eq_true (by first | (with_reducible assumption) | assumption)
                              have q298 : x8_1 < (l1.length : Int) := of_decide_eq_true (by first | (with_reducible assumption) | assumption)
                              obtain ⟨ad298, e298, hx298_0, hx298_1, hx298_2, hx298_3⟩ := at_T33 HR1.out x8_1 p298 q298
                              obtain rfl : ad278 = ad298 := (by injection e298)
                              replace hx298_0 := (HB.out.cell (World.block_lt_of_cell? w _ hx298_0)).trans hx298_0
                              replace hx298_1 := (HB.out.cell (World.block_lt_of_cell? w _ hx298_1)).trans hx298_1
                              replace hx298_2 := (HB.out.cell (World.block_lt_of_cell? w _ hx298_2)).trans hx298_2
                              replace hx298_3 := (HB.out.cell (World.block_lt_of_cell? w _ hx298_3)).trans hx298_3
                              replace p298 := eq_true p298
                              replace q298 := eq_true q298
                              have p300 : 0 ≤ (x8_1 : Int) := of_decide_eq_true (by first | (with_reducible assumption) | assumption)
                              have q300 : x8_1 < (l1.length : Int) := of_decide_eq_true (by first | (with_reducible assumption) | assumption)
                              obtain ⟨ad300, e300, hx300_0, hx300_1, hx300_2, hx300_3⟩ := at_T33 HR1.out x8_1 p300 q300
                              obtain rfl : ad278 = ad300 := (by injection e300)
                              replace hx300_0 := (HB.out.cell (World.block_lt_of_cell? w _ hx300_0)).trans hx300_0
                              replace hx300_1 := (HB.out.cell (World.block_lt_of_cell? w _ hx300_1)).trans hx300_1
                              replace hx300_2 := (HB.out.cell (World.block_lt_of_cell? w _ hx300_2)).trans hx300_2
                              replace hx300_3 := (HB.out.cell (World.block_lt_of_cell? w _ hx300_3)).trans hx300_3
                              replace p300 := eq_true p300
                              replace q300 := eq_true q300
                              have hnb100 := NB289_268.out
                              have hnc100 := NB268_289.out
                              have hcz101_0 : wc.cell? ⟨gb289, 0, none⟩ = some (.int .u32 t279) := (blk_cell BK289.out 0).trans rfl
                              have hcz101_1 : wc.cell? ⟨gb289, 1, none⟩ = some (.int .u32 t280) := (blk_cell BK289.out 1).trans rfl
                              have hcz101_2 : wc.cell? ⟨gb289, 2, none⟩ = some (.int .u32 t281) := (blk_cell BK289.out 2).trans rfl
                              have hcz101_3 : wc.cell? ⟨gb289, 3, none⟩ = some (.bool t282) := (blk_cell BK289.out 3).trans rfl
                              have hfz101_0 := blk_frozen BK289.out 0
                              have hfz101_1 := blk_frozen BK289.out 1
                              have hfz101_2 := blk_frozen BK289.out 2
                              have hfz101_3 := blk_frozen BK289.out 3
                              go_wp2
                              go_meet
                              case rel => exact ⟨_, (true), (by first | rfl | (simp; done) | (simp [*]; done)), H', ⟨by have := HK1.out; have := HJ13.out; first | omega | exact Nat.le_refl _⟩, ⟨by (with_reducible repeat (first | refine blk_drewN ?_ _ | refine blk_drew ?_ | refine blk_alloc ?_ _)); exact BK289.out⟩, ⟨by repeat (first | (with_reducible first | exact HI268.out | apply IsS57.alloc | apply IsS57.drewN | apply IsS57.drew | apply IsS57.set_0 | apply IsS57.set_1 | apply IsS57.set_2 | apply IsS57.set_3 | apply IsS57.set_4 | apply IsS57.set_5 | refine IsS57.far ?_ NB268_289.out _) | exact HI268.out)⟩, ⟨by repeat (first | (with_reducible first | exact HB.out | apply below_alloc | apply pw_below_drewN | apply below_drew1 | refine below_set ?_ (IsS57.ge HI268.out) | refine below_set ?_ GE289.out) | exact HB.out)⟩⟩
                          · rw [if_neg c96] at H
                            have c96b0 : (((rd_T33 l1 x8_1).f0) == 5) = false := beq_eq_false_iff_ne.mpr c96
                            have c96b1 : (((rd_T33 l1 x8_1).f0) != 5) = true := bne_iff_ne.mpr c96
                            have H' := Aside0.mk H
                            clear H
                            have p291 : 0 ≤ (x8_1 : Int) := of_decide_eq_true (by first | (with_reducible assumption) | assumption)
                            have q291 : x8_1 < (l1.length : Int) := of_decide_eq_true (by first | (with_reducible assumption) | assumption)
                            obtain ⟨ad291, e291, hx291_0, hx291_1, hx291_2, hx291_3⟩ := at_T33 HR1.out x8_1 p291 q291
                            obtain rfl : ad278 = ad291 := (by injection e291)
                            replace hx291_0 := (HB.out.cell (World.block_lt_of_cell? w _ hx291_0)).trans hx291_0
                            replace hx291_1 := (HB.out.cell (World.block_lt_of_cell? w _ hx291_1)).trans hx291_1
                            replace hx291_2 := (HB.out.cell (World.block_lt_of_cell? w _ hx291_2)).trans hx291_2
                            replace hx291_3 := (HB.out.cell (World.block_lt_of_cell? w _ hx291_3)).trans hx291_3
                            replace p291 := eq_true p291
                            replace q291 := eq_true q291
                            have p298 : 0 ≤ (x8_1 : Int) := of_decide_eq_true (by first | (with_reducible assumption) | assumption)
                            have q298 : x8_1 < (l1.length : Int) := of_decide_eq_true (by first | (with_reducible assumption) | assumption)
                            obtain ⟨ad298, e298, hx298_0, hx298_1, hx298_2, hx298_3⟩ := at_T33 HR1.out x8_1 p298 q298
                            obtain rfl : ad278 = ad298 := (by injection e298)
                            replace hx298_0 := (HB.out.cell (World.block_lt_of_cell? w _ hx298_0)).trans hx298_0
                            replace hx298_1 := (HB.out.cell (World.block_lt_of_cell? w _ hx298_1)).trans hx298_1
                            replace hx298_2 := (HB.out.cell (World.block_lt_of_cell? w _ hx298_2)).trans hx298_2
                            replace hx298_3 := (HB.out.cell (World.block_lt_of_cell? w _ hx298_3)).trans hx298_3
                            replace p298 := eq_true p298
                            replace q298 := eq_true q298
                            have p300 : 0 ≤ (x8_1 : Int) := of_decide_eq_true (by first | (with_reducible assumption) | assumption)
                            have q300 : x8_1 < (l1.length : Int) := of_decide_eq_true (by first | (with_reducible assumption) | assumption)
                            obtain ⟨ad300, e300, hx300_0, hx300_1, hx300_2, hx300_3⟩ := at_T33 HR1.out x8_1 p300 q300
                            obtain rfl : ad278 = ad300 := (by injection e300)
                            replace hx300_0 := (HB.out.cell (World.block_lt_of_cell? w _ hx300_0)).trans hx300_0
                            replace hx300_1 := (HB.out.cell (World.block_lt_of_cell? w _ hx300_1)).trans hx300_1
                            replace hx300_2 := (HB.out.cell (World.block_lt_of_cell? w _ hx300_2)).trans hx300_2
                            replace hx300_3 := (HB.out.cell (World.block_lt_of_cell? w _ hx300_3)).trans hx300_3
                            replace p300 := eq_true p300
                            replace q300 := eq_true q300
                            go_wp2
                            go_meet
                            case rel => exact ⟨_, (false), (by first | rfl | (simp; done) | (simp [*]; done)), H', ⟨by have := HK1.out; have := HJ13.out; first | omega | exact Nat.le_refl _⟩, ⟨by (with_reducible repeat (first | refine blk_drewN ?_ _ | refine blk_drew ?_ | refine blk_alloc ?_ _)); exact BK289.out⟩, ⟨by repeat (first | (with_reducible first | exact HI268.out | apply IsS57.alloc | apply IsS57.drewN | apply IsS57.drew | apply IsS57.set_0 | apply IsS57.set_1 | apply IsS57.set_2 | apply IsS57.set_3 | apply IsS57.set_4 | apply IsS57.set_5 | refine IsS57.far ?_ NB268_289.out _) | exact HI268.out)⟩, ⟨by repeat (first | (with_reducible first | exact HB.out | apply below_alloc | apply pw_below_drewN | apply below_drew1 | refine below_set ?_ (IsS57.ge HI268.out) | refine below_set ?_ GE289.out) | exact HB.out)⟩⟩
                    · rw [if_neg c38] at H
                      exact absurd H (by simp)
                  · rw [if_neg c37] at H
                    exact absurd H (by simp)
                case rest =>
                  clear HC36
                  try clear c1
                  try clear p2
                  try clear q2
                  try clear hx2
                  try clear c3
                  try clear p3
                  try clear q3
                  try clear hx3
                  try clear c6
                  try clear c7
                  try clear c8
                  try clear c9
                  try clear c10
                  try clear p29
                  try clear q29
                  try clear hx29
                  try clear p30
                  try clear q30
                  try clear hx30
                  try clear c37
                  try clear c38
                  try clear c39
                  try clear c39b0
                  try clear c39b1
                  try clear c64
                  try clear c64b0
                  try clear c64b1
                  try clear c68
                  try clear c68b0
                  try clear c68b1
                  try clear c72
                  try clear c74
                  try clear c76
                  try clear c76b0
                  try clear c76b1
                  try clear c77
                  try clear c77b0
                  try clear c77b1
                  try clear c78
                  try clear c80
                  try clear c82
                  try clear c84
                  try clear c84b0
                  try clear c84b1
                  try clear c85
                  try clear c85b0
                  try clear c85b1
                  try clear c85b2
                  try clear c86
                  try clear c88
                  try clear c88b0
                  try clear c88b1
                  try clear c89
                  try clear c89b0
                  try clear c89b1
                  try clear c90
                  try clear c92
                  try clear c94
                  try clear c96
                  try clear c96b0
                  try clear c96b1
                  try clear c97
                  try clear c97b0
                  try clear c97b1
                  try clear c98
                  try clear c100
                  try clear hcz101_0
                  try clear hcz101_1
                  try clear hcz101_2
                  try clear hcz101_3
                  try clear hcz73_0
                  try clear hcz73_1
                  try clear hcz73_2
                  try clear hcz73_3
                  try clear hcz75_0
                  try clear hcz75_1
                  try clear hcz75_2
                  try clear hcz75_3
                  try clear hcz79_0
                  try clear hcz79_1
                  try clear hcz79_2
                  try clear hcz79_3
                  try clear hcz81_0
                  try clear hcz81_1
                  try clear hcz81_2
                  try clear hcz81_3
                  try clear hcz83_0
                  try clear hcz83_1
                  try clear hcz83_2
                  try clear hcz83_3
                  try clear hcz87_0
                  try clear hcz87_1
                  try clear hcz87_2
                  try clear hcz87_3
                  try clear hcz91_0
                  try clear hcz91_1
                  try clear hcz91_2
                  try clear hcz91_3
                  try clear hcz93_0
                  try clear hcz93_1
                  try clear hcz93_2
                  try clear hcz93_3
                  try clear hcz95_0
                  try clear hcz95_1
                  try clear hcz95_2
                  try clear hcz95_3
                  try clear hcz99_0
                  try clear hcz99_1
                  try clear hcz99_2
                  try clear hcz99_3
                  try clear hfz101_0
                  try clear hfz101_1
                  try clear hfz101_2
                  try clear hfz101_3
                  try clear hfz73_0
                  try clear hfz73_1
                  try clear hfz73_2
                  try clear hfz73_3
                  try clear hfz75_0
                  try clear hfz75_1
                  try clear hfz75_2
                  try clear hfz75_3
                  try clear hfz79_0
                  try clear hfz79_1
                  try clear hfz79_2
                  try clear hfz79_3
                  try clear hfz81_0
                  try clear hfz81_1
                  try clear hfz81_2
                  try clear hfz81_3
                  try clear hfz83_0
                  try clear hfz83_1
                  try clear hfz83_2
                  try clear hfz83_3
                  try clear hfz87_0
                  try clear hfz87_1
                  try clear hfz87_2
                  try clear hfz87_3
                  try clear hfz91_0
                  try clear hfz91_1
                  try clear hfz91_2
                  try clear hfz91_3
                  try clear hfz93_0
                  try clear hfz93_1
                  try clear hfz93_2
                  try clear hfz93_3
                  try clear hfz95_0
                  try clear hfz95_1
                  try clear hfz95_2
                  try clear hfz95_3
                  try clear hfz99_0
                  try clear hfz99_1
                  try clear hfz99_2
                  try clear hfz99_3
                  try clear hx291_0
                  try clear hx291_1
                  try clear hx291_2
                  try clear hx291_3
                  try clear hx295_0
                  try clear hx295_1
                  try clear hx295_2
                  try clear hx295_3
                  try clear hx296_0
                  try clear hx296_1
                  try clear hx296_2
                  try clear hx296_3
                  try clear hx297_0
                  try clear hx297_1
                  try clear hx297_2
                  try clear hx297_3
                  try clear hx298_0
                  try clear hx298_1
                  try clear hx298_2
                  try clear hx298_3
                  try clear hx299_0
                  try clear hx299_1
                  try clear hx299_2
                  try clear hx299_3
                  try clear hx300_0
                  try clear hx300_1
                  try clear hx300_2
                  try clear hx300_3
                  try clear p291
                  try clear p295
                  try clear p296
                  try clear p297
                  try clear p298
                  try clear p299
                  try clear p300
                  try clear q291
                  try clear q295
                  try clear q296
                  try clear q297
                  try clear q298
                  try clear q299
                  try clear q300
                  obtain ⟨kq, x115_35, rfl, HA, HJ35, BK289, HI268, HB⟩ := hcut
                  cases kq with
                  | zero => exact absurd HA.out (by simp [lw15_WindowBounds.j3])
                  | succ kj35 =>
                    have H := HA.out
                    clear HA
                    simp only [lw15_WindowBounds.j3] at H
                    by_cases c102 : x115_35 = true
                    · subst c102
                      have H1 : (some false) = some r := by rw [if_pos rfl] at H; exact H
                      clear H
                      have H := H1
                      clear H1
                      obtain rfl := Option.some.inj H
                      go_wp2
                      go_ret
                      exact ⟨by first | rfl | (simp [errW_none, errW_some] <;> rfl) | (simp only [← hji7, ← hji8]; first | rfl | (simp [errW_none, errW_some] <;> rfl)) | (simp [*, errW_none, errW_some] <;> rfl), by repeat (first | (with_reducible first | exact HB.out | apply below_alloc | apply pw_below_drewN | apply below_drew1 | refine below_set ?_ (IsS57.ge HI268.out) | refine below_set ?_ GE289.out) | exact HB.out)⟩
                    · replace c102 := Bool.eq_false_iff.mpr c102
                      subst c102
                      have H1 : ((wi_Left.f t283 t284 t285 t286 t287 t288).bind fun bt301 => (if bt301.1 > 256 then (some false) else (if bt301.2.1 > ji8 then (some false) else (lw15_WindowBounds.l0 kj35 l1 ji8 x7_13 (wrap64 (x8_1 + 1)) bt301.2.2.1 bt301.2.2.2.1 bt301.2.2.2.2.1 bt301.2.2.2.2.2.1 bt301.2.2.2.2.2.2.1 bt301.2.2.2.2.2.2.2)))) = some r := by rw [if_neg (show ¬ (false = true) by decide)] at H; exact H
                      clear H
                      have H := H1
                      clear H1
                      replace H := Option.bind_eq_some_iff.mp H
                      obtain ⟨⟨t301, t302, t303, t304, t305, t306, t307, t308⟩, A1030, H⟩ := H
                      replace H : (if t301 > 256 then (some false) else (if t302 > ji8 then (some false) else (lw15_WindowBounds.l0 kj35 l1 ji8 x7_13 (wrap64 (x8_1 + 1)) t303 t304 t305 t306 t307 t308))) = some r := H
                      have A103 := Aside0.mk A1030
                      clear A1030
                      by_cases c104 : t301 > 256
                      · rw [if_pos c104] at H
                        have c104b0 : decide (256 < t301) = true := decide_eq_true c104
                        clear c104
                        obtain rfl := Option.some.inj H
                        go_wp2_with (first | ((with_reducible refine gate_callee (f := 14) rfl ?_); refine goesL_ (some 118) rfl rfl Try.func14 (by kernel_rfl) rfl #[.pointer (some ⟨g268, 0, none⟩)] rfl (by (try simp only [List.map_toArray, List.map_cons, List.map_nil]); first | done | rfl | (simp only [List.length_drop, List.length_take]; rfl)) ?_; (with_reducible refine (wi_Left.calls g268 t283 t284 t285 t286 t287 t288 t301 t302 t303 t304 t305 t306 t307 t308 w _ ?side1 ?side2 A103.out).mono ?_); (case side1 => repeat (first | (with_reducible first | exact HI268.out | apply IsS57.alloc | apply IsS57.drewN | apply IsS57.drew | apply IsS57.set_0 | apply IsS57.set_1 | apply IsS57.set_2 | apply IsS57.set_3 | apply IsS57.set_4 | apply IsS57.set_5 | refine IsS57.far ?_ NB268_289.out _) | exact HI268.out)); (case side2 => repeat (first | (with_reducible first | exact HB.out | apply below_alloc | apply pw_below_drewN | apply below_drew1 | refine below_set ?_ (IsS57.ge HI268.out) | refine below_set ?_ GE289.out) | exact HB.out)); rintro e w105 ⟨rfl, hi, hb, hk⟩; refine ⟨_, rfl, ?_⟩; have n0_ := Aside0.mk (KeepBut.blk hk (g' := gb289) (o := .cells #[.int .u32 t279, .int .u32 t280, .int .u32 t281, .bool t282] 30 (0, 0)) (by (with_reducible repeat (first | refine blk_drewN ?_ _ | refine blk_drew ?_ | refine blk_alloc ?_ _)); exact BK289.out) NB289_268.out (by simp)); have n1_ := Aside0.mk (hb); have n2_ := Aside0.mk (hi); clear BK289; clear HB; clear HI268; have BK289 := n0_; have HB := n1_; have HI268 := n2_; clear n0_ n1_ n2_; (try clear hb); (try clear hb2); (try clear hk); (try clear hi); (try clear hgw)))
                        go_ret
                        exact ⟨by first | rfl | (simp [errW_none, errW_some] <;> rfl) | (simp only [← hji7, ← hji8]; first | rfl | (simp [errW_none, errW_some] <;> rfl)) | (simp [*, errW_none, errW_some] <;> rfl), by repeat (first | (with_reducible first | exact HB.out | apply below_alloc | apply pw_below_drewN | apply below_drew1 | refine below_set ?_ (IsS57.ge HI268.out) | refine below_set ?_ GE289.out) | exact HB.out)⟩
                      · rw [if_neg c104] at H
                        have c104b0 : decide (256 < t301) = false := decide_eq_false c104
                        clear c104
                        by_cases c106 : t302 > ji8
                        · rw [if_pos c106] at H
                          have c106b0 : decide (ji8 < t302) = true := decide_eq_true c106
                          clear c106
                          obtain rfl := Option.some.inj H
                          go_wp2_with (first | ((with_reducible refine gate_callee (f := 14) rfl ?_); refine goesL_ (some 118) rfl rfl Try.func14 (by kernel_rfl) rfl #[.pointer (some ⟨g268, 0, none⟩)] rfl (by (try simp only [List.map_toArray, List.map_cons, List.map_nil]); first | done | rfl | (simp only [List.length_drop, List.length_take]; rfl)) ?_; (with_reducible refine (wi_Left.calls g268 t283 t284 t285 t286 t287 t288 t301 t302 t303 t304 t305 t306 t307 t308 w _ ?side1 ?side2 A103.out).mono ?_); (case side1 => repeat (first | (with_reducible first | exact HI268.out | apply IsS57.alloc | apply IsS57.drewN | apply IsS57.drew | apply IsS57.set_0 | apply IsS57.set_1 | apply IsS57.set_2 | apply IsS57.set_3 | apply IsS57.set_4 | apply IsS57.set_5 | refine IsS57.far ?_ NB268_289.out _) | exact HI268.out)); (case side2 => repeat (first | (with_reducible first | exact HB.out | apply below_alloc | apply pw_below_drewN | apply below_drew1 | refine below_set ?_ (IsS57.ge HI268.out) | refine below_set ?_ GE289.out) | exact HB.out)); rintro e w107 ⟨rfl, hi, hb, hk⟩; refine ⟨_, rfl, ?_⟩; have n0_ := Aside0.mk (KeepBut.blk hk (g' := gb289) (o := .cells #[.int .u32 t279, .int .u32 t280, .int .u32 t281, .bool t282] 30 (0, 0)) (by (with_reducible repeat (first | refine blk_drewN ?_ _ | refine blk_drew ?_ | refine blk_alloc ?_ _)); exact BK289.out) NB289_268.out (by simp)); have n1_ := Aside0.mk (hb); have n2_ := Aside0.mk (hi); clear BK289; clear HB; clear HI268; have BK289 := n0_; have HB := n1_; have HI268 := n2_; clear n0_ n1_ n2_; (try clear hb); (try clear hb2); (try clear hk); (try clear hi); (try clear hgw)))
                          go_ret
                          exact ⟨by first | rfl | (simp [errW_none, errW_some] <;> rfl) | (simp only [← hji7, ← hji8]; first | rfl | (simp [errW_none, errW_some] <;> rfl)) | (simp [*, errW_none, errW_some] <;> rfl), by repeat (first | (with_reducible first | exact HB.out | apply below_alloc | apply pw_below_drewN | apply below_drew1 | refine below_set ?_ (IsS57.ge HI268.out) | refine below_set ?_ GE289.out) | exact HB.out)⟩
                        · rw [if_neg c106] at H
                          have c106b0 : decide (ji8 < t302) = false := decide_eq_false c106
                          clear c106
                          have H' := Aside0.mk H
                          clear H
                          go_wp2_with (first | ((with_reducible refine gate_callee (f := 14) rfl ?_); refine goesL_ (some 118) rfl rfl Try.func14 (by kernel_rfl) rfl #[.pointer (some ⟨g268, 0, none⟩)] rfl (by (try simp only [List.map_toArray, List.map_cons, List.map_nil]); first | done | rfl | (simp only [List.length_drop, List.length_take]; rfl)) ?_; (with_reducible refine (wi_Left.calls g268 t283 t284 t285 t286 t287 t288 t301 t302 t303 t304 t305 t306 t307 t308 w _ ?side1 ?side2 A103.out).mono ?_); (case side1 => repeat (first | (with_reducible first | exact HI268.out | apply IsS57.alloc | apply IsS57.drewN | apply IsS57.drew | apply IsS57.set_0 | apply IsS57.set_1 | apply IsS57.set_2 | apply IsS57.set_3 | apply IsS57.set_4 | apply IsS57.set_5 | refine IsS57.far ?_ NB268_289.out _) | exact HI268.out)); (case side2 => repeat (first | (with_reducible first | exact HB.out | apply below_alloc | apply pw_below_drewN | apply below_drew1 | refine below_set ?_ (IsS57.ge HI268.out) | refine below_set ?_ GE289.out) | exact HB.out)); rintro e w108 ⟨rfl, hi, hb, hk⟩; refine ⟨_, rfl, ?_⟩; have n0_ := Aside0.mk (KeepBut.blk hk (g' := gb289) (o := .cells #[.int .u32 t279, .int .u32 t280, .int .u32 t281, .bool t282] 30 (0, 0)) (by (with_reducible repeat (first | refine blk_drewN ?_ _ | refine blk_drew ?_ | refine blk_alloc ?_ _)); exact BK289.out) NB289_268.out (by simp)); have n1_ := Aside0.mk (hb); have n2_ := Aside0.mk (hi); clear BK289; clear HB; clear HI268; have BK289 := n0_; have HB := n1_; have HI268 := n2_; clear n0_ n1_ n2_; (try clear hb); (try clear hb2); (try clear hk); (try clear hi); (try clear hgw)))
                          go_roundg kj35
                          case measure => have := HK1.out; have := HJ13.out; have := HJ35.out; omega
                          case rel => exact ⟨(x7_13), (wrap64 (x8_1 + 1)), (t303), (t304), (t305), (t306), (t307), (t308), (by first | rfl | (simp; done) | (simp [*]; done)), (by first | rfl | (simp; done) | (simp [*]; done)), H', ⟨by have := HK1.out; have := HJ13.out; have := HJ35.out; omega⟩, ⟨by repeat (first | (with_reducible first | exact HI268.out | apply IsS57.alloc | apply IsS57.drewN | apply IsS57.drew | apply IsS57.set_0 | apply IsS57.set_1 | apply IsS57.set_2 | apply IsS57.set_3 | apply IsS57.set_4 | apply IsS57.set_5 | refine IsS57.far ?_ NB268_289.out _) | exact HI268.out)⟩, ⟨by repeat (first | (with_reducible first | exact HB.out | apply below_alloc | apply pw_below_drewN | apply below_drew1 | refine below_set ?_ (IsS57.ge HI268.out) | refine below_set ?_ GE289.out) | exact HB.out)⟩⟩
          · rw [if_neg c12] at H
            exact absurd H (by simp)
        · rw [if_neg c10] at H
          have c10b0 : decide (x8_1 < (l1.length : Int)) = false := decide_eq_false c10
          clear c10
          replace H := Option.bind_eq_some_iff.mp H
          obtain ⟨t269, A1090, H⟩ := H
          replace H : (some t269) = some r := H
          have A109 := Aside0.mk A1090
          clear A1090
          obtain rfl := Option.some.inj H
          go_wp2_with (first | ((with_reducible refine gate_callee (f := 9) rfl ?_); refine goesL_ (some 128) rfl rfl Try.func9 (by kernel_rfl) rfl #[] rfl (by (try simp only [List.map_toArray, List.map_cons, List.map_nil]); first | done | rfl | (simp only [List.length_drop, List.length_take]; rfl)) ?_; (with_reducible refine (lw15_works.calls  t269 _ A109.out).mono ?_); rintro e w110 ⟨rfl, hb⟩; refine ⟨_, rfl, ?_⟩; have n0_ := Aside0.mk (IsS57.below (by repeat (first | (with_reducible first | exact HI268.out | apply IsS57.alloc | apply IsS57.drewN | apply IsS57.drew | apply IsS57.set_0 | apply IsS57.set_1 | apply IsS57.set_2 | apply IsS57.set_3 | apply IsS57.set_4 | apply IsS57.set_5) | exact HI268.out)) hb); have n1_ := Aside0.mk (below_step (by repeat (first | (with_reducible first | exact HB.out | apply below_alloc | apply pw_below_drewN | apply below_drew1 | refine below_set ?_ (IsS57.ge HI268.out)) | exact HB.out)) hb); clear HI268; clear HB; have HI268 := n0_; have HB := n1_; clear n0_ n1_; (try clear hb); (try clear hb2); (try clear hk); (try clear hi); (try clear hgw)))
          go_ret
          exact ⟨by first | rfl | (simp [errW_none, errW_some] <;> rfl) | (simp only [← hji7, ← hji8]; first | rfl | (simp [errW_none, errW_some] <;> rfl)) | (simp [*, errW_none, errW_some] <;> rfl), by repeat (first | (with_reducible first | exact HB.out | apply below_alloc | apply pw_below_drewN | apply below_drew1 | refine below_set ?_ (IsS57.ge HI268.out)) | exact HB.out)⟩

/-- THE ONE PURE STATEMENT of lw15_WindowBounds: yours. -/
def lw15_WindowBounds.Pure : Prop := ∀ (a0 : Int) (l1 : List (S33)), (Lit.int .u32 a0).wf = true → l1.length ≤ maxLen → (∀ x ∈ l1, (Lit.int .i64 x.f0).wf = true ∧ (Lit.int .i64 x.f1).wf = true ∧ (Lit.int .u32 x.f2).wf = true ∧ (Lit.int .u32 x.f3).wf = true) → ∃ k, lw15_WindowBounds.f k a0 l1 = some true

end Go.Proofs.Ytgamlcmjmlllaaa.PWindowBounds
