/- Written by a program of this session (a turned copy of the print; not the kit's own print): the walks of the functions that one law reaches, or that law's row; the plain law stands in the Pure text; no condition of our own. -/
import Derived.Test.YtfnoldogodfinaaPIdleSplitx0
import Derived.Test.YtfnoldogodfinaaPIdleSplitx1
namespace Go.Proofs.Ytfnoldogodfinaa.PIdleSplit
open Go.RowKit Go.Proofs.YtfnoldogodfinaaW.PrintWords Go.Proofs.YtfnoldogodfinaaW.PrintLast Go.Proofs.YtfnoldogodfinaaW.PrintMore
attribute [local go_sem] max2_int min2_int max_two min_two max_three min_three max_four min_four   -- for this text's walks alone
set_option linter.unusedVariables false
set_option linter.unusedSimpArgs false

/-! ### lw14_IdleSplit: function 6 -/
mutual
def lw14_IdleSplit.j0 : Nat → Int → Int → List Int → List Bool → Bool → Option (Bool)
  | 0, _, _, _, _, _ => none
  | k + 1, x0, x1, x2, x3, x23 => if x23 = true then ((lw14_works.f k).bind fun t217 => (some t217)) else ((idle_New.f x0 x1 0).bind fun bt218 => ((idle_New.f x0 0 0).bind fun bt224 => ((idle_New.f 0 x1 0).bind fun bt230 => (lw14_IdleSplit.l0 k x2 x3 0 0 bt218.1 bt218.2.1 bt218.2.2.1 bt218.2.2.2.1 bt218.2.2.2.2 bt224.1 bt224.2.1 bt224.2.2.1 bt224.2.2.2.1 bt224.2.2.2.2 bt230.1 bt230.2.1 bt230.2.2.1 bt230.2.2.2.1 bt230.2.2.2.2))))
def lw14_IdleSplit.l0 : Nat → List Int → List Bool → Int → Int → Int → Int → Int → Int → Int → Int → Int → Int → Int → Int → Int → Int → Int → Int → Int → Option (Bool)
  | 0, _, _, _, _, _, _, _, _, _, _, _, _, _, _, _, _, _, _, _ => none
  | k + 1, x2, x3, x12, x13, x224000, x224001, x224002, x224003, x224004, x230000, x230001, x230002, x230003, x230004, x236000, x236001, x236002, x236003, x236004 => if x13 < (x2.length : Int) then (if 0 ≤ x13 then ((idle_Idle_Late.f x224000 x224001 x224002 x224003 x224004 (wrap64 (x12 + (wrap64 (rd x2 x13))))).bind fun bt238 => ((idle_Idle_Late.f x230000 x230001 x230002 x230003 x230004 (wrap64 (x12 + (wrap64 (rd x2 x13))))).bind fun bt244 => (if (bt238.1 != bt244.1) = true then (lw14_IdleSplit.j2 k x2 x3 (wrap64 (x12 + (wrap64 (rd x2 x13)))) x13 true bt238.2.1 bt238.2.2.1 bt238.2.2.2.1 bt238.2.2.2.2.1 bt238.2.2.2.2.2 bt244.2.1 bt244.2.2.1 bt244.2.2.2.1 bt244.2.2.2.2.1 bt244.2.2.2.2.2 x236000 x236001 x236002 x236003 x236004) else ((idle_Idle_Due.f bt238.2.1 bt238.2.2.1 bt238.2.2.2.1 bt238.2.2.2.2.1 bt238.2.2.2.2.2 (wrap64 (x12 + (wrap64 (rd x2 x13))))).bind fun bt250 => ((idle_Idle_Due.f x236000 x236001 x236002 x236003 x236004 (wrap64 (x12 + (wrap64 (rd x2 x13))))).bind fun bt256 => (lw14_IdleSplit.j2 k x2 x3 (wrap64 (x12 + (wrap64 (rd x2 x13)))) x13 (bt250.1 != bt256.1) bt250.2.1 bt250.2.2.1 bt250.2.2.2.1 bt250.2.2.2.2.1 bt250.2.2.2.2.2 bt244.2.1 bt244.2.2.1 bt244.2.2.2.1 bt244.2.2.2.2.1 bt244.2.2.2.2.2 bt256.2.1 bt256.2.2.1 bt256.2.2.2.1 bt256.2.2.2.2.1 bt256.2.2.2.2.2)))))) else (none)) else ((lw14_works.f k).bind fun t236 => (some t236))
def lw14_IdleSplit.j2 : Nat → List Int → List Bool → Int → Int → Bool → Int → Int → Int → Int → Int → Int → Int → Int → Int → Int → Int → Int → Int → Int → Int → Option (Bool)
  | 0, _, _, _, _, _, _, _, _, _, _, _, _, _, _, _, _, _, _, _, _ => none
  | k + 1, x2, x3, x12, x13, x60, x224000, x224001, x224002, x224003, x224004, x230000, x230001, x230002, x230003, x230004, x236000, x236001, x236002, x236003, x236004 => if x60 = true then (some false) else (if 0 ≤ x13 then (if x13 < (x3.length : Int) then (if rdOf false x3 x13 = true then ((idle_Idle_Got.f x224000 x224001 x224002 x224003 x224004 x12).bind fun bt263 => ((idle_Idle_Got.f x230000 x230001 x230002 x230003 x230004 x12).bind fun bt268 => (lw14_IdleSplit.l0 k x2 x3 x12 (wrap64 (x13 + 1)) bt263.1 bt263.2.1 bt263.2.2.1 bt263.2.2.2.1 bt263.2.2.2.2 bt268.1 bt268.2.1 bt268.2.2.1 bt268.2.2.2.1 bt268.2.2.2.2 x236000 x236001 x236002 x236003 x236004))) else ((idle_Idle_Sent.f x224000 x224001 x224002 x224003 x224004 x12).bind fun bt273 => ((idle_Idle_Sent.f x236000 x236001 x236002 x236003 x236004 x12).bind fun bt278 => (lw14_IdleSplit.l0 k x2 x3 x12 (wrap64 (x13 + 1)) bt273.1 bt273.2.1 bt273.2.2.1 bt273.2.2.2.1 bt273.2.2.2.2 x230000 x230001 x230002 x230003 x230004 bt278.1 bt278.2.1 bt278.2.2.1 bt278.2.2.2.1 bt278.2.2.2.2)))) else (none)) else (none))
end
def lw14_IdleSplit.f (k : Nat) (a0 : Int) (a1 : Int) (l2 : List Int) (l3 : List Bool) : Option (Bool) := if (l2.length : Int) > 200 then (lw14_IdleSplit.j0 k a0 a1 l2 l3 true) else (lw14_IdleSplit.j0 k a0 a1 l2 l3 (decide ((l3.length : Int) < (l2.length : Int))))
theorem lw14_IdleSplit.mono_l : ∀ k, (∀ y0 y1 y2 y3 y4, LeO (lw14_IdleSplit.j0 k y0 y1 y2 y3 y4) (lw14_IdleSplit.j0 (k + 1) y0 y1 y2 y3 y4)) ∧ (∀ y0 y1 y2 y3 y4 y5 y6 y7 y8 y9 y10 y11 y12 y13 y14 y15 y16 y17 y18, LeO (lw14_IdleSplit.l0 k y0 y1 y2 y3 y4 y5 y6 y7 y8 y9 y10 y11 y12 y13 y14 y15 y16 y17 y18) (lw14_IdleSplit.l0 (k + 1) y0 y1 y2 y3 y4 y5 y6 y7 y8 y9 y10 y11 y12 y13 y14 y15 y16 y17 y18)) ∧ (∀ y0 y1 y2 y3 y4 y5 y6 y7 y8 y9 y10 y11 y12 y13 y14 y15 y16 y17 y18 y19, LeO (lw14_IdleSplit.j2 k y0 y1 y2 y3 y4 y5 y6 y7 y8 y9 y10 y11 y12 y13 y14 y15 y16 y17 y18 y19) (lw14_IdleSplit.j2 (k + 1) y0 y1 y2 y3 y4 y5 y6 y7 y8 y9 y10 y11 y12 y13 y14 y15 y16 y17 y18 y19))
  | 0 => ⟨fun _ _ _ _ _ r h => by simp [lw14_IdleSplit.j0] at h, fun _ _ _ _ _ _ _ _ _ _ _ _ _ _ _ _ _ _ _ r h => by simp [lw14_IdleSplit.l0] at h, fun _ _ _ _ _ _ _ _ _ _ _ _ _ _ _ _ _ _ _ _ r h => by simp [lw14_IdleSplit.j2] at h⟩
  | k + 1 => by
    obtain ⟨ih0, ih1, ih2⟩ := lw14_IdleSplit.mono_l k
    refine ⟨?_, ?_, ?_⟩
    · intro y0 y1 y2 y3 y4
      unfold lw14_IdleSplit.j0
      repeat' first
      | (with_reducible exact ih0 _ _ _ _ _)
      | (with_reducible exact ih1 _ _ _ _ _ _ _ _ _ _ _ _ _ _ _ _ _ _ _)
      | (with_reducible exact ih2 _ _ _ _ _ _ _ _ _ _ _ _ _ _ _ _ _ _ _ _)
      | (with_reducible exact lw14_works.mono _)
      | (with_reducible exact LeO.refl _)
      | (with_reducible exact LeO.none _)
      | (with_reducible refine LeO.ite ?_ ?_)
      | (with_reducible refine LeO.bind ?_ (fun _ => ?_))
      | exact ih0 _ _ _ _ _
      | exact ih1 _ _ _ _ _ _ _ _ _ _ _ _ _ _ _ _ _ _ _
      | exact ih2 _ _ _ _ _ _ _ _ _ _ _ _ _ _ _ _ _ _ _ _
      | exact lw14_works.mono _
      | exact LeO.none _
      | refine LeO.ite ?_ ?_
      | refine LeO.bind ?_ (fun _ => ?_)
    · intro y0 y1 y2 y3 y4 y5 y6 y7 y8 y9 y10 y11 y12 y13 y14 y15 y16 y17 y18
      unfold lw14_IdleSplit.l0
      repeat' first
      | (with_reducible exact ih0 _ _ _ _ _)
      | (with_reducible exact ih1 _ _ _ _ _ _ _ _ _ _ _ _ _ _ _ _ _ _ _)
      | (with_reducible exact ih2 _ _ _ _ _ _ _ _ _ _ _ _ _ _ _ _ _ _ _ _)
      | (with_reducible exact lw14_works.mono _)
      | (with_reducible exact LeO.refl _)
      | (with_reducible exact LeO.none _)
      | (with_reducible refine LeO.ite ?_ ?_)
      | (with_reducible refine LeO.bind ?_ (fun _ => ?_))
      | exact ih0 _ _ _ _ _
      | exact ih1 _ _ _ _ _ _ _ _ _ _ _ _ _ _ _ _ _ _ _
      | exact ih2 _ _ _ _ _ _ _ _ _ _ _ _ _ _ _ _ _ _ _ _
      | exact lw14_works.mono _
      | exact LeO.none _
      | refine LeO.ite ?_ ?_
      | refine LeO.bind ?_ (fun _ => ?_)
    · intro y0 y1 y2 y3 y4 y5 y6 y7 y8 y9 y10 y11 y12 y13 y14 y15 y16 y17 y18 y19
      unfold lw14_IdleSplit.j2
      repeat' first
      | (with_reducible exact ih0 _ _ _ _ _)
      | (with_reducible exact ih1 _ _ _ _ _ _ _ _ _ _ _ _ _ _ _ _ _ _ _)
      | (with_reducible exact ih2 _ _ _ _ _ _ _ _ _ _ _ _ _ _ _ _ _ _ _ _)
      | (with_reducible exact lw14_works.mono _)
      | (with_reducible exact LeO.refl _)
      | (with_reducible exact LeO.none _)
      | (with_reducible refine LeO.ite ?_ ?_)
      | (with_reducible refine LeO.bind ?_ (fun _ => ?_))
      | exact ih0 _ _ _ _ _
      | exact ih1 _ _ _ _ _ _ _ _ _ _ _ _ _ _ _ _ _ _ _
      | exact ih2 _ _ _ _ _ _ _ _ _ _ _ _ _ _ _ _ _ _ _ _
      | exact lw14_works.mono _
      | exact LeO.none _
      | refine LeO.ite ?_ ?_
      | refine LeO.bind ?_ (fun _ => ?_)
theorem lw14_IdleSplit.mono : ∀ a0 a1 a2 a3 k, LeO (lw14_IdleSplit.f k a0 a1 a2 a3) (lw14_IdleSplit.f (k + 1) a0 a1 a2 a3) := by
  intro a0 a1 a2 a3 k
  obtain ⟨ih0, ih1, ih2⟩ := lw14_IdleSplit.mono_l k
  unfold lw14_IdleSplit.f
  repeat' first
      | (with_reducible exact ih0 _ _ _ _ _)
      | (with_reducible exact ih1 _ _ _ _ _ _ _ _ _ _ _ _ _ _ _ _ _ _ _)
      | (with_reducible exact ih2 _ _ _ _ _ _ _ _ _ _ _ _ _ _ _ _ _ _ _ _)
      | (with_reducible exact lw14_works.mono _)
      | (with_reducible exact LeO.refl _)
      | (with_reducible exact LeO.none _)
      | (with_reducible refine LeO.ite ?_ ?_)
      | (with_reducible refine LeO.bind ?_ (fun _ => ?_))
      | exact ih0 _ _ _ _ _
      | exact ih1 _ _ _ _ _ _ _ _ _ _ _ _ _ _ _ _ _ _ _
      | exact ih2 _ _ _ _ _ _ _ _ _ _ _ _ _ _ _ _ _ _ _ _
      | exact lw14_works.mono _
      | exact LeO.none _
      | refine LeO.ite ?_ ?_
      | refine LeO.bind ?_ (fun _ => ?_)
set_option maxHeartbeats 8000000 in
set_option maxRecDepth 100000 in
theorem lw14_IdleSplit.calls (k : Nat) (a0 : Int) (a1 : Int) (A2 : Option Addr) (c2 : Nat) (l2 : List Int) (A3 : Option Addr) (c3 : Nat) (l3 : List Bool) (r : Bool) (w : World) (hr2 : Kd.C (Kd.int .u16) w A2 l2.length l2) (hc2 : l2.length ≤ c2) (hr3 : Kd.C Kd.bool w A3 l3.length l3) (hc3 : l3.length ≤ c3) (h : lw14_IdleSplit.f k a0 a1 l2 l3 = some r) :
    Calls Try.prog 6 #[.int .u32 a0, .int .u32 a1, .slice A2 l2.length c2, .slice A3 l3.length c3] w fun e w' => e = .returned (.bool r) ∧ Below w.heap.size w w' := by
  have HR2 := Aside0.mk hr2
  have HC2 := Aside0.mk hc2
  clear hr2 hc2
  have HR3 := Aside0.mk hr3
  have HC3 := Aside0.mk hc3
  clear hr3 hc3
  have HB := Aside0.mk (Below.refl w.heap.size w)
  have H : (if (l2.length : Int) > 200 then (lw14_IdleSplit.j0 k a0 a1 l2 l3 true) else (lw14_IdleSplit.j0 k a0 a1 l2 l3 (decide ((l3.length : Int) < (l2.length : Int))))) = some r := h
  clear h
  have HC5 := Aside0.mk H
  clear H
  go_enter Try.func6, Try.ntmps6
  go_upto_region 1 with (fail)
  go_cut [23] (fun v23 wc => ∃ (kq : Nat) (x23_4 : Bool), v23 = .bool x23_4 ∧ Aside0 (lw14_IdleSplit.j0 kq a0 a1 l2 l3 x23_4 = some r) ∧ Aside0 (kq ≤ k) ∧ Aside0 (Below w.heap.size w wc))
  case first =>
    have H := HC5.out
    clear HC5
    by_cases c6 : (l2.length : Int) > 200
    · rw [if_pos c6] at H
      have c6b0 : decide (200 < (l2.length : Int)) = true := decide_eq_true c6
      have c6b1 : decide (200 < l2.length) = true := decide_eq_true (by omega)
      clear c6
      (first | rw [c6b0] | (simp only [i64_w, i32_w]; rw [c6b0]) | skip)
      have H' := Aside0.mk H
      clear H
      go_wp2
      go_meet
      case rel => exact ⟨_, (true), (by first | rfl | (simp; done) | (simp [*]; done)), H', ⟨by first | omega | exact Nat.le_refl _⟩, ⟨by repeat (first | (with_reducible first | exact HB.out | apply below_alloc | apply pw_below_drewN | apply below_drew1) | exact HB.out)⟩⟩
    · rw [if_neg c6] at H
      have c6b0 : decide (200 < (l2.length : Int)) = false := decide_eq_false c6
      have c6b1 : decide (200 < l2.length) = false := decide_eq_false (by omega)
      clear c6
      (first | rw [c6b0] | (simp only [i64_w, i32_w]; rw [c6b0]) | skip)
      have H' := Aside0.mk H
      clear H
      go_wp2
      go_meet
      case rel => exact ⟨_, (decide ((l3.length : Int) < (l2.length : Int))), (by first | rfl | (simp; done) | (simp [*]; done)), H', ⟨by first | omega | exact Nat.le_refl _⟩, ⟨by repeat (first | (with_reducible first | exact HB.out | apply below_alloc | apply pw_below_drewN | apply below_drew1) | exact HB.out)⟩⟩
  case rest =>
    clear HC5
    try clear c2
    try clear p2
    try clear c3
    try clear c6
    try clear c6b0
    try clear c6b1
    obtain ⟨kq, x23_4, rfl, HA, HJ4, HB⟩ := hcut
    cases kq with
    | zero => exact absurd HA.out (by simp [lw14_IdleSplit.j0])
    | succ kj4 =>
      have H := HA.out
      clear HA
      simp only [lw14_IdleSplit.j0] at H
      by_cases c7 : x23_4 = true
      · subst c7
        have H1 : ((lw14_works.f kj4).bind fun t217 => (some t217)) = some r := by rw [if_pos rfl] at H; exact H
        clear H
        have H := H1
        clear H1
        replace H := Option.bind_eq_some_iff.mp H
        obtain ⟨t217, A80, H⟩ := H
        replace H : (some t217) = some r := H
        have A8 := Aside0.mk A80
        clear A80
        obtain rfl := Option.some.inj H
        go_wp2_with (first | ((with_reducible refine gate_callee (f := 13) rfl ?_); refine goesL_ (some 24) rfl rfl Try.func13 (by kernel_rfl) rfl #[] rfl (by (try simp only [List.map_toArray, List.map_cons, List.map_nil]); first | done | rfl | (simp only [List.length_drop, List.length_take]; rfl)) ?_; (with_reducible refine (lw14_works.calls kj4  t217 _ A8.out).mono ?_); rintro e w9 ⟨rfl, hb⟩; refine ⟨_, rfl, ?_⟩; have n0_ := Aside0.mk (below_step (by repeat (first | (with_reducible first | exact HB.out | apply below_alloc | apply pw_below_drewN | apply below_drew1) | exact HB.out)) hb); clear HB; have HB := n0_; clear n0_; (try clear hb); (try clear hb2); (try clear hk); (try clear hi); (try clear hgw)))
        go_ret
        exact ⟨by first | rfl | (simp [errW_none, errW_some] <;> rfl) | (simp [*, errW_none, errW_some] <;> rfl), by repeat (first | (with_reducible first | exact HB.out | apply below_alloc | apply pw_below_drewN | apply below_drew1) | exact HB.out)⟩
      · replace c7 := Bool.eq_false_iff.mpr c7
        subst c7
        have H1 : ((idle_New.f a0 a1 0).bind fun bt218 => ((idle_New.f a0 0 0).bind fun bt224 => ((idle_New.f 0 a1 0).bind fun bt230 => (lw14_IdleSplit.l0 kj4 l2 l3 0 0 bt218.1 bt218.2.1 bt218.2.2.1 bt218.2.2.2.1 bt218.2.2.2.2 bt224.1 bt224.2.1 bt224.2.2.1 bt224.2.2.2.1 bt224.2.2.2.2 bt230.1 bt230.2.1 bt230.2.2.1 bt230.2.2.2.1 bt230.2.2.2.2)))) = some r := by rw [if_neg (show ¬ (false = true) by decide)] at H; exact H
        clear H
        have H := H1
        clear H1
        replace H := Option.bind_eq_some_iff.mp H
        obtain ⟨⟨t218, t219, t220, t221, t222⟩, A100, H⟩ := H
        replace H : ((idle_New.f a0 0 0).bind fun bt224 => ((idle_New.f 0 a1 0).bind fun bt230 => (lw14_IdleSplit.l0 kj4 l2 l3 0 0 t218 t219 t220 t221 t222 bt224.1 bt224.2.1 bt224.2.2.1 bt224.2.2.2.1 bt224.2.2.2.2 bt230.1 bt230.2.1 bt230.2.2.1 bt230.2.2.2.1 bt230.2.2.2.2))) = some r := H
        have A10 := Aside0.mk A100
        clear A100
        replace H := Option.bind_eq_some_iff.mp H
        obtain ⟨⟨t224, t225, t226, t227, t228⟩, A110, H⟩ := H
        replace H : ((idle_New.f 0 a1 0).bind fun bt230 => (lw14_IdleSplit.l0 kj4 l2 l3 0 0 t218 t219 t220 t221 t222 t224 t225 t226 t227 t228 bt230.1 bt230.2.1 bt230.2.2.1 bt230.2.2.2.1 bt230.2.2.2.2)) = some r := H
        have A11 := Aside0.mk A110
        clear A110
        replace H := Option.bind_eq_some_iff.mp H
        obtain ⟨⟨t230, t231, t232, t233, t234⟩, A120, H⟩ := H
        replace H : (lw14_IdleSplit.l0 kj4 l2 l3 0 0 t218 t219 t220 t221 t222 t224 t225 t226 t227 t228 t230 t231 t232 t233 t234) = some r := H
        have A12 := Aside0.mk A120
        clear A120
        have H' := Aside0.mk H
        clear H
        go_wp2_with (first | ((with_reducible refine gate_callee (f := 8) rfl ?_); refine goesL_ (some 27) rfl rfl Try.func8 (by kernel_rfl) rfl #[.int .u32 a0, .int .u32 a1, .int .i64 0] rfl (by (try simp only [List.map_toArray, List.map_cons, List.map_nil]); first | done | rfl | (simp only [List.length_drop, List.length_take]; rfl)) ?_; (with_reducible refine (idle_New.calls a0 a1 0 t218 t219 t220 t221 t222 w _ ?side1 A10.out).mono ?_); (case side1 => repeat (first | (with_reducible first | exact HB.out | apply below_alloc | apply pw_below_drewN | apply below_drew1) | exact HB.out)); rintro e w13 ⟨g223, rfl, hi, hb, hb2, hgw⟩; refine ⟨_, rfl, ?_⟩; have n0_ := Aside0.mk (hb); have n1_ := Aside0.mk (hi); clear HB; have HB := n0_; have HI223 := n1_; clear n0_ n1_; (try clear hb); (try clear hb2); (try clear hk); (try clear hi); (try clear hgw)) | ((with_reducible refine gate_callee (f := 8) rfl ?_); refine goesL_ (some 29) rfl rfl Try.func8 (by kernel_rfl) rfl #[.int .u32 a0, .int .u32 0, .int .i64 0] rfl (by (try simp only [List.map_toArray, List.map_cons, List.map_nil]); first | done | rfl | (simp only [List.length_drop, List.length_take]; rfl)) ?_; (with_reducible refine (idle_New.calls a0 0 0 t224 t225 t226 t227 t228 w _ ?side1 A11.out).mono ?_); (case side1 => repeat (first | (with_reducible first | exact HB.out | apply below_alloc | apply pw_below_drewN | apply below_drew1 | refine below_set ?_ (IsS43.ge HI223.out)) | exact HB.out)); rintro e w14 ⟨g229, rfl, hi, hb, hb2, hgw⟩; refine ⟨_, rfl, ?_⟩; have n0_ := Aside0.mk (IsS43.below (by repeat (first | (with_reducible first | exact HI223.out | apply IsS43.alloc | apply IsS43.drewN | apply IsS43.drew | apply IsS43.set_0 | apply IsS43.set_1 | apply IsS43.set_2 | apply IsS43.set_3 | apply IsS43.set_4) | exact HI223.out)) hb2); have n1_ := Aside0.mk (hb); have n2_ := Aside0.mk (hi); have n3_ := Aside0.mk (Nat.ne_of_lt (Nat.lt_of_lt_of_le (IsS43.lt (show IsS43 w _ g223 t218 t219 t220 t221 t222 from by repeat (first | (with_reducible first | exact HI223.out | apply IsS43.alloc | apply IsS43.drewN | apply IsS43.drew | apply IsS43.set_0 | apply IsS43.set_1 | apply IsS43.set_2 | apply IsS43.set_3 | apply IsS43.set_4) | exact HI223.out))) hgw)); have n4_ := Aside0.mk (Nat.ne_of_gt (Nat.lt_of_lt_of_le (IsS43.lt (show IsS43 w _ g223 t218 t219 t220 t221 t222 from by repeat (first | (with_reducible first | exact HI223.out | apply IsS43.alloc | apply IsS43.drewN | apply IsS43.drew | apply IsS43.set_0 | apply IsS43.set_1 | apply IsS43.set_2 | apply IsS43.set_3 | apply IsS43.set_4) | exact HI223.out))) hgw)); clear HI223; clear HB; have HI223 := n0_; have HB := n1_; have HI229 := n2_; have NS223_229 := n3_; have NS229_223 := n4_; clear n0_ n1_ n2_ n3_ n4_; (try clear hb); (try clear hb2); (try clear hk); (try clear hi); (try clear hgw)) | ((with_reducible refine gate_callee (f := 8) rfl ?_); refine goesL_ (some 31) rfl rfl Try.func8 (by kernel_rfl) rfl #[.int .u32 0, .int .u32 a1, .int .i64 0] rfl (by (try simp only [List.map_toArray, List.map_cons, List.map_nil]); first | done | rfl | (simp only [List.length_drop, List.length_take]; rfl)) ?_; (with_reducible refine (idle_New.calls 0 a1 0 t230 t231 t232 t233 t234 w _ ?side1 A12.out).mono ?_); (case side1 => repeat (first | (with_reducible first | exact HB.out | apply below_alloc | apply pw_below_drewN | apply below_drew1 | refine below_set ?_ (IsS43.ge HI223.out) | refine below_set ?_ (IsS43.ge HI229.out)) | exact HB.out)); rintro e w15 ⟨g235, rfl, hi, hb, hb2, hgw⟩; refine ⟨_, rfl, ?_⟩; have n0_ := Aside0.mk (IsS43.below (by repeat (first | (with_reducible first | exact HI223.out | apply IsS43.alloc | apply IsS43.drewN | apply IsS43.drew | apply IsS43.set_0 | apply IsS43.set_1 | apply IsS43.set_2 | apply IsS43.set_3 | apply IsS43.set_4) | exact HI223.out)) hb2); have n1_ := Aside0.mk (IsS43.below (by repeat (first | (with_reducible first | exact HI229.out | apply IsS43.alloc | apply IsS43.drewN | apply IsS43.drew | apply IsS43.set_0 | apply IsS43.set_1 | apply IsS43.set_2 | apply IsS43.set_3 | apply IsS43.set_4) | exact HI229.out)) hb2); have n2_ := Aside0.mk (hb); have n3_ := Aside0.mk (hi); have n4_ := Aside0.mk (Nat.ne_of_lt (Nat.lt_of_lt_of_le (IsS43.lt (show IsS43 w _ g223 t218 t219 t220 t221 t222 from by repeat (first | (with_reducible first | exact HI223.out | apply IsS43.alloc | apply IsS43.drewN | apply IsS43.drew | apply IsS43.set_0 | apply IsS43.set_1 | apply IsS43.set_2 | apply IsS43.set_3 | apply IsS43.set_4) | exact HI223.out))) hgw)); have n5_ := Aside0.mk (Nat.ne_of_gt (Nat.lt_of_lt_of_le (IsS43.lt (show IsS43 w _ g223 t218 t219 t220 t221 t222 from by repeat (first | (with_reducible first | exact HI223.out | apply IsS43.alloc | apply IsS43.drewN | apply IsS43.drew | apply IsS43.set_0 | apply IsS43.set_1 | apply IsS43.set_2 | apply IsS43.set_3 | apply IsS43.set_4) | exact HI223.out))) hgw)); have n6_ := Aside0.mk (Nat.ne_of_lt (Nat.lt_of_lt_of_le (IsS43.lt (show IsS43 w _ g229 t224 t225 t226 t227 t228 from by repeat (first | (with_reducible first | exact HI229.out | apply IsS43.alloc | apply IsS43.drewN | apply IsS43.drew | apply IsS43.set_0 | apply IsS43.set_1 | apply IsS43.set_2 | apply IsS43.set_3 | apply IsS43.set_4) | exact HI229.out))) hgw)); have n7_ := Aside0.mk (Nat.ne_of_gt (Nat.lt_of_lt_of_le (IsS43.lt (show IsS43 w _ g229 t224 t225 t226 t227 t228 from by repeat (first | (with_reducible first | exact HI229.out | apply IsS43.alloc | apply IsS43.drewN | apply IsS43.drew | apply IsS43.set_0 | apply IsS43.set_1 | apply IsS43.set_2 | apply IsS43.set_3 | apply IsS43.set_4) | exact HI229.out))) hgw)); clear HI223; clear HI229; clear HB; have HI223 := n0_; have HI229 := n1_; have HB := n2_; have HI235 := n3_; have NS223_235 := n4_; have NS235_223 := n5_; have NS229_235 := n6_; have NS235_229 := n7_; clear n0_ n1_ n2_ n3_ n4_ n5_ n6_ n7_; (try clear hb); (try clear hb2); (try clear hk); (try clear hi); (try clear hgw)))
        go_loopg [12, 13] kj4 (fun kq v12 v13 w' => ∃ (x12_2 : Int) (x13_2 : Int) (x224000_2 : Int) (x224001_2 : Int) (x224002_2 : Int) (x224003_2 : Int) (x224004_2 : Int) (x230000_2 : Int) (x230001_2 : Int) (x230002_2 : Int) (x230003_2 : Int) (x230004_2 : Int) (x236000_2 : Int) (x236001_2 : Int) (x236002_2 : Int) (x236003_2 : Int) (x236004_2 : Int), v12 = .int .i64 x12_2 ∧ v13 = .int .i64 x13_2 ∧ Aside0 (lw14_IdleSplit.l0 kq l2 l3 x12_2 x13_2 x224000_2 x224001_2 x224002_2 x224003_2 x224004_2 x230000_2 x230001_2 x230002_2 x230003_2 x230004_2 x236000_2 x236001_2 x236002_2 x236003_2 x236004_2 = some r) ∧ Aside0 (kq ≤ kj4) ∧ Aside0 (IsS43 w w' g223 x224000_2 x224001_2 x224002_2 x224003_2 x224004_2) ∧ Aside0 (IsS43 w w' g229 x230000_2 x230001_2 x230002_2 x230003_2 x230004_2) ∧ Aside0 (IsS43 w w' g235 x236000_2 x236001_2 x236002_2 x236003_2 x236004_2) ∧ Aside0 (Below w.heap.size w w'))
        case atStart => exact ⟨(0), (0), (t218), (t219), (t220), (t221), (t222), (t224), (t225), (t226), (t227), (t228), (t230), (t231), (t232), (t233), (t234), (by first | rfl | (simp; done) | (simp [*]; done)), (by first | rfl | (simp; done) | (simp [*]; done)), H', ⟨Nat.le_refl _⟩, ⟨by repeat (first | (with_reducible first | exact HI223.out | apply IsS43.alloc | apply IsS43.drewN | apply IsS43.drew | apply IsS43.set_0 | apply IsS43.set_1 | apply IsS43.set_2 | apply IsS43.set_3 | apply IsS43.set_4) | exact HI223.out)⟩, ⟨by repeat (first | (with_reducible first | exact HI229.out | apply IsS43.alloc | apply IsS43.drewN | apply IsS43.drew | apply IsS43.set_0 | apply IsS43.set_1 | apply IsS43.set_2 | apply IsS43.set_3 | apply IsS43.set_4) | exact HI229.out)⟩, ⟨by repeat (first | (with_reducible first | exact HI235.out | apply IsS43.alloc | apply IsS43.drewN | apply IsS43.drew | apply IsS43.set_0 | apply IsS43.set_1 | apply IsS43.set_2 | apply IsS43.set_3 | apply IsS43.set_4) | exact HI235.out)⟩, ⟨by repeat (first | (with_reducible first | exact HB.out | apply below_alloc | apply pw_below_drewN | apply below_drew1 | refine below_set ?_ (IsS43.ge HI223.out) | refine below_set ?_ (IsS43.ge HI229.out) | refine below_set ?_ (IsS43.ge HI235.out)) | exact HB.out)⟩⟩
        case round =>
          clear H'
          try clear c1
          try clear c2
          try clear p2
          try clear c3
          try clear c6
          try clear c6b0
          try clear c6b1
          try clear c7
          try clear c8
          try clear c13
          try clear p2
          obtain ⟨x12_2, x13_2, x224000_2, x224001_2, x224002_2, x224003_2, x224004_2, x230000_2, x230001_2, x230002_2, x230003_2, x230004_2, x236000_2, x236001_2, x236002_2, x236003_2, x236004_2, rfl, rfl, HA, HK2, HI223, HI229, HI235, HB⟩ := hrel
          cases gk with
          | zero => exact absurd HA.out (by simp [lw14_IdleSplit.l0])
          | succ k2 =>
            have H := HA.out
            clear HA
            simp only [lw14_IdleSplit.l0] at H
            by_cases c16 : x13_2 < (l2.length : Int)
            · rw [if_pos c16] at H
              have c16b0 : decide (x13_2 < (l2.length : Int)) = true := decide_eq_true c16
              clear c16
              by_cases c17 : 0 ≤ x13_2
              · rw [if_pos c17] at H
                have c17b0 : decide (0 ≤ x13_2) = true := decide_eq_true c17
                clear c17
                have HC18 := Aside0.mk H
                clear H
                have p237 : 0 ≤ (x13_2 : Int) := of_decide_eq_true (by first | (with_reducible assumption) | assumption)
                have q237 : x13_2 < (l2.length : Int) := of_decide_eq_true (by first | (with_reducible assumption) | assumption)
                obtain ⟨ad237, e237, hx237_0⟩ := Kd.at_int HR2.out x13_2 p237 q237
                cases e237
                replace hx237_0 := (HB.out.cell (World.block_lt_of_cell? w _ hx237_0)).trans hx237_0
                replace p237 := eq_true p237
                replace q237 := eq_true q237
                go_upto_region 11 with (fail)
                go_cut [60] (fun v60 wc => ∃ (kq : Nat) (x60_17 : Bool) (x224000_17 : Int) (x224001_17 : Int) (x224002_17 : Int) (x224003_17 : Int) (x224004_17 : Int) (x230000_17 : Int) (x230001_17 : Int) (x230002_17 : Int) (x230003_17 : Int) (x230004_17 : Int) (x236000_17 : Int) (x236001_17 : Int) (x236002_17 : Int) (x236003_17 : Int) (x236004_17 : Int), v60 = .bool x60_17 ∧ Aside0 (lw14_IdleSplit.j2 kq l2 l3 (wrap64 (x12_2 + (wrap64 (rd l2 x13_2)))) x13_2 x60_17 x224000_17 x224001_17 x224002_17 x224003_17 x224004_17 x230000_17 x230001_17 x230002_17 x230003_17 x230004_17 x236000_17 x236001_17 x236002_17 x236003_17 x236004_17 = some r) ∧ Aside0 (kq ≤ k2) ∧ Aside0 (IsS43 w wc g223 x224000_17 x224001_17 x224002_17 x224003_17 x224004_17) ∧ Aside0 (IsS43 w wc g229 x230000_17 x230001_17 x230002_17 x230003_17 x230004_17) ∧ Aside0 (IsS43 w wc g235 x236000_17 x236001_17 x236002_17 x236003_17 x236004_17) ∧ Aside0 (Below w.heap.size w wc))
                case first =>
                  have H := HC18.out
                  clear HC18
                  replace H := Option.bind_eq_some_iff.mp H
                  obtain ⟨⟨t238, t239, t240, t241, t242, t243⟩, A190, H⟩ := H
                  replace H : ((idle_Idle_Late.f x230000_2 x230001_2 x230002_2 x230003_2 x230004_2 (wrap64 (x12_2 + (wrap64 (rd l2 x13_2))))).bind fun bt244 => (if (t238 != bt244.1) = true then (lw14_IdleSplit.j2 k2 l2 l3 (wrap64 (x12_2 + (wrap64 (rd l2 x13_2)))) x13_2 true t239 t240 t241 t242 t243 bt244.2.1 bt244.2.2.1 bt244.2.2.2.1 bt244.2.2.2.2.1 bt244.2.2.2.2.2 x236000_2 x236001_2 x236002_2 x236003_2 x236004_2) else ((idle_Idle_Due.f t239 t240 t241 t242 t243 (wrap64 (x12_2 + (wrap64 (rd l2 x13_2))))).bind fun bt250 => ((idle_Idle_Due.f x236000_2 x236001_2 x236002_2 x236003_2 x236004_2 (wrap64 (x12_2 + (wrap64 (rd l2 x13_2))))).bind fun bt256 => (lw14_IdleSplit.j2 k2 l2 l3 (wrap64 (x12_2 + (wrap64 (rd l2 x13_2)))) x13_2 (bt250.1 != bt256.1) bt250.2.1 bt250.2.2.1 bt250.2.2.2.1 bt250.2.2.2.2.1 bt250.2.2.2.2.2 bt244.2.1 bt244.2.2.1 bt244.2.2.2.1 bt244.2.2.2.2.1 bt244.2.2.2.2.2 bt256.2.1 bt256.2.2.1 bt256.2.2.2.1 bt256.2.2.2.2.1 bt256.2.2.2.2.2))))) = some r := H
                  have A19 := Aside0.mk A190
                  clear A190
                  replace H := Option.bind_eq_some_iff.mp H
                  obtain ⟨⟨t244, t245, t246, t247, t248, t249⟩, A200, H⟩ := H
                  replace H : (if (t238 != t244) = true then (lw14_IdleSplit.j2 k2 l2 l3 (wrap64 (x12_2 + (wrap64 (rd l2 x13_2)))) x13_2 true t239 t240 t241 t242 t243 t245 t246 t247 t248 t249 x236000_2 x236001_2 x236002_2 x236003_2 x236004_2) else ((idle_Idle_Due.f t239 t240 t241 t242 t243 (wrap64 (x12_2 + (wrap64 (rd l2 x13_2))))).bind fun bt250 => ((idle_Idle_Due.f x236000_2 x236001_2 x236002_2 x236003_2 x236004_2 (wrap64 (x12_2 + (wrap64 (rd l2 x13_2))))).bind fun bt256 => (lw14_IdleSplit.j2 k2 l2 l3 (wrap64 (x12_2 + (wrap64 (rd l2 x13_2)))) x13_2 (bt250.1 != bt256.1) bt250.2.1 bt250.2.2.1 bt250.2.2.2.1 bt250.2.2.2.2.1 bt250.2.2.2.2.2 t245 t246 t247 t248 t249 bt256.2.1 bt256.2.2.1 bt256.2.2.2.1 bt256.2.2.2.2.1 bt256.2.2.2.2.2)))) = some r := H
                  have A20 := Aside0.mk A200
                  clear A200
                  by_cases c21 : (t238 != t244) = true
                  · rw [if_pos c21] at H
                    have c21b0 : (t238 != t244) = true := c21
                    (try (have c21b1 : decide (t238 = t244) = false := by simpa using c21))
                    (try (have c21b2 : (t238 == t244) = false := by simpa using c21))
                    (try (have c21b3 : ¬ (t238 = t244) := by simpa using c21))
                    clear c21
                    (first | rw [c21b0] | (simp only [i64_w, i32_w]; rw [c21b0]) | skip)
                    have H' := Aside0.mk H
                    clear H
                    go_wp2_with (first | ((with_reducible refine gate_callee (f := 12) rfl ?_); refine goesL_ (some 47) rfl rfl Try.func12 (by kernel_rfl) rfl #[.pointer (some ⟨g223, 0, none⟩), .int .i64 (wrap64 (x12_2 + (wrap64 (rd l2 x13_2))))] rfl (by (try simp only [List.map_toArray, List.map_cons, List.map_nil]); first | done | rfl | (simp only [List.length_drop, List.length_take]; rfl)) ?_; (with_reducible refine (idle_Idle_Late.calls g223 x224000_2 x224001_2 x224002_2 x224003_2 x224004_2 (wrap64 (x12_2 + (wrap64 (rd l2 x13_2)))) t238 t239 t240 t241 t242 t243 w _ ?side1 ?side2 A19.out).mono ?_); (case side1 => repeat (first | (with_reducible first | exact HI223.out | apply IsS43.alloc | apply IsS43.drewN | apply IsS43.drew | apply IsS43.set_0 | apply IsS43.set_1 | apply IsS43.set_2 | apply IsS43.set_3 | apply IsS43.set_4) | exact HI223.out)); (case side2 => repeat (first | (with_reducible first | exact HB.out | apply below_alloc | apply pw_below_drewN | apply below_drew1 | refine below_set ?_ (IsS43.ge HI223.out) | refine below_set ?_ (IsS43.ge HI229.out) | refine below_set ?_ (IsS43.ge HI235.out)) | exact HB.out)); rintro e w22 ⟨rfl, hi, hb, hk⟩; refine ⟨_, rfl, ?_⟩; have n0_ := Aside0.mk (IsS43.beside (show IsS43 w _ g229 x230000_2 x230001_2 x230002_2 x230003_2 x230004_2 from by repeat (first | (with_reducible first | exact HI229.out | apply IsS43.alloc | apply IsS43.drewN | apply IsS43.drew | apply IsS43.set_0 | apply IsS43.set_1 | apply IsS43.set_2 | apply IsS43.set_3 | apply IsS43.set_4) | exact HI229.out)) hk NS229_223.out); have n1_ := Aside0.mk (IsS43.beside (show IsS43 w _ g235 x236000_2 x236001_2 x236002_2 x236003_2 x236004_2 from by repeat (first | (with_reducible first | exact HI235.out | apply IsS43.alloc | apply IsS43.drewN | apply IsS43.drew | apply IsS43.set_0 | apply IsS43.set_1 | apply IsS43.set_2 | apply IsS43.set_3 | apply IsS43.set_4) | exact HI235.out)) hk NS235_223.out); have n2_ := Aside0.mk (hb); have n3_ := Aside0.mk (hi); clear HI229; clear HI235; clear HB; clear HI223; have HI229 := n0_; have HI235 := n1_; have HB := n2_; have HI223 := n3_; clear n0_ n1_ n2_ n3_; (try clear hb); (try clear hb2); (try clear hk); (try clear hi); (try clear hgw)) | ((with_reducible refine gate_callee (f := 12) rfl ?_); refine goesL_ (some 50) rfl rfl Try.func12 (by kernel_rfl) rfl #[.pointer (some ⟨g229, 0, none⟩), .int .i64 (wrap64 (x12_2 + (wrap64 (rd l2 x13_2))))] rfl (by (try simp only [List.map_toArray, List.map_cons, List.map_nil]); first | done | rfl | (simp only [List.length_drop, List.length_take]; rfl)) ?_; (with_reducible refine (idle_Idle_Late.calls g229 x230000_2 x230001_2 x230002_2 x230003_2 x230004_2 (wrap64 (x12_2 + (wrap64 (rd l2 x13_2)))) t244 t245 t246 t247 t248 t249 w _ ?side1 ?side2 A20.out).mono ?_); (case side1 => repeat (first | (with_reducible first | exact HI229.out | apply IsS43.alloc | apply IsS43.drewN | apply IsS43.drew | apply IsS43.set_0 | apply IsS43.set_1 | apply IsS43.set_2 | apply IsS43.set_3 | apply IsS43.set_4) | exact HI229.out)); (case side2 => repeat (first | (with_reducible first | exact HB.out | apply below_alloc | apply pw_below_drewN | apply below_drew1 | refine below_set ?_ (IsS43.ge HI223.out) | refine below_set ?_ (IsS43.ge HI229.out) | refine below_set ?_ (IsS43.ge HI235.out)) | exact HB.out)); rintro e w23 ⟨rfl, hi, hb, hk⟩; refine ⟨_, rfl, ?_⟩; have n0_ := Aside0.mk (IsS43.beside (show IsS43 w _ g223 t239 t240 t241 t242 t243 from by repeat (first | (with_reducible first | exact HI223.out | apply IsS43.alloc | apply IsS43.drewN | apply IsS43.drew | apply IsS43.set_0 | apply IsS43.set_1 | apply IsS43.set_2 | apply IsS43.set_3 | apply IsS43.set_4) | exact HI223.out)) hk NS223_229.out); have n1_ := Aside0.mk (IsS43.beside (show IsS43 w _ g235 x236000_2 x236001_2 x236002_2 x236003_2 x236004_2 from by repeat (first | (with_reducible first | exact HI235.out | apply IsS43.alloc | apply IsS43.drewN | apply IsS43.drew | apply IsS43.set_0 | apply IsS43.set_1 | apply IsS43.set_2 | apply IsS43.set_3 | apply IsS43.set_4) | exact HI235.out)) hk NS235_229.out); have n2_ := Aside0.mk (hb); have n3_ := Aside0.mk (hi); clear HI223; clear HI235; clear HB; clear HI229; have HI223 := n0_; have HI235 := n1_; have HB := n2_; have HI229 := n3_; clear n0_ n1_ n2_ n3_; (try clear hb); (try clear hb2); (try clear hk); (try clear hi); (try clear hgw)))
                    go_meet
                    case rel => exact ⟨_, (true), (t239), (t240), (t241), (t242), (t243), (t245), (t246), (t247), (t248), (t249), (x236000_2), (x236001_2), (x236002_2), (x236003_2), (x236004_2), (by first | rfl | (simp; done) | (simp [*]; done)), H', ⟨by have := HJ4.out; have := HK2.out; first | omega | exact Nat.le_refl _⟩, ⟨by repeat (first | (with_reducible first | exact HI223.out | apply IsS43.alloc | apply IsS43.drewN | apply IsS43.drew | apply IsS43.set_0 | apply IsS43.set_1 | apply IsS43.set_2 | apply IsS43.set_3 | apply IsS43.set_4) | exact HI223.out)⟩, ⟨by repeat (first | (with_reducible first | exact HI229.out | apply IsS43.alloc | apply IsS43.drewN | apply IsS43.drew | apply IsS43.set_0 | apply IsS43.set_1 | apply IsS43.set_2 | apply IsS43.set_3 | apply IsS43.set_4) | exact HI229.out)⟩, ⟨by repeat (first | (with_reducible first | exact HI235.out | apply IsS43.alloc | apply IsS43.drewN | apply IsS43.drew | apply IsS43.set_0 | apply IsS43.set_1 | apply IsS43.set_2 | apply IsS43.set_3 | apply IsS43.set_4) | exact HI235.out)⟩, ⟨by repeat (first | (with_reducible first | exact HB.out | apply below_alloc | apply pw_below_drewN | apply below_drew1 | refine below_set ?_ (IsS43.ge HI223.out) | refine below_set ?_ (IsS43.ge HI229.out) | refine below_set ?_ (IsS43.ge HI235.out)) | exact HB.out)⟩⟩
                  · rw [if_neg c21] at H
                    have c21b0 : (t238 != t244) = false := by simpa using c21
                    (try (have c21b1 : decide (t238 = t244) = true := by simpa using c21))
                    (try (have c21b2 : (t238 == t244) = true := by simpa using c21))
                    clear c21
                    (first | rw [c21b0] | (simp only [i64_w, i32_w]; rw [c21b0]) | skip)
                    replace H := Option.bind_eq_some_iff.mp H
                    obtain ⟨⟨t250, t251, t252, t253, t254, t255⟩, A240, H⟩ := H
                    replace H : ((idle_Idle_Due.f x236000_2 x236001_2 x236002_2 x236003_2 x236004_2 (wrap64 (x12_2 + (wrap64 (rd l2 x13_2))))).bind fun bt256 => (lw14_IdleSplit.j2 k2 l2 l3 (wrap64 (x12_2 + (wrap64 (rd l2 x13_2)))) x13_2 (t250 != bt256.1) t251 t252 t253 t254 t255 t245 t246 t247 t248 t249 bt256.2.1 bt256.2.2.1 bt256.2.2.2.1 bt256.2.2.2.2.1 bt256.2.2.2.2.2)) = some r := H
                    have A24 := Aside0.mk A240
                    clear A240
                    replace H := Option.bind_eq_some_iff.mp H
                    obtain ⟨⟨t256, t257, t258, t259, t260, t261⟩, A250, H⟩ := H
                    replace H : (lw14_IdleSplit.j2 k2 l2 l3 (wrap64 (x12_2 + (wrap64 (rd l2 x13_2)))) x13_2 (t250 != t256) t251 t252 t253 t254 t255 t245 t246 t247 t248 t249 t257 t258 t259 t260 t261) = some r := H
                    have A25 := Aside0.mk A250
                    clear A250
                    have H' := Aside0.mk H
                    clear H
                    go_wp2_with (first | ((with_reducible refine gate_callee (f := 12) rfl ?_); refine goesL_ (some 47) rfl rfl Try.func12 (by kernel_rfl) rfl #[.pointer (some ⟨g223, 0, none⟩), .int .i64 (wrap64 (x12_2 + (wrap64 (rd l2 x13_2))))] rfl (by (try simp only [List.map_toArray, List.map_cons, List.map_nil]); first | done | rfl | (simp only [List.length_drop, List.length_take]; rfl)) ?_; (with_reducible refine (idle_Idle_Late.calls g223 x224000_2 x224001_2 x224002_2 x224003_2 x224004_2 (wrap64 (x12_2 + (wrap64 (rd l2 x13_2)))) t238 t239 t240 t241 t242 t243 w _ ?side1 ?side2 A19.out).mono ?_); (case side1 => repeat (first | (with_reducible first | exact HI223.out | apply IsS43.alloc | apply IsS43.drewN | apply IsS43.drew | apply IsS43.set_0 | apply IsS43.set_1 | apply IsS43.set_2 | apply IsS43.set_3 | apply IsS43.set_4) | exact HI223.out)); (case side2 => repeat (first | (with_reducible first | exact HB.out | apply below_alloc | apply pw_below_drewN | apply below_drew1 | refine below_set ?_ (IsS43.ge HI223.out) | refine below_set ?_ (IsS43.ge HI229.out) | refine below_set ?_ (IsS43.ge HI235.out)) | exact HB.out)); rintro e w26 ⟨rfl, hi, hb, hk⟩; refine ⟨_, rfl, ?_⟩; have n0_ := Aside0.mk (IsS43.beside (show IsS43 w _ g229 x230000_2 x230001_2 x230002_2 x230003_2 x230004_2 from by repeat (first | (with_reducible first | exact HI229.out | apply IsS43.alloc | apply IsS43.drewN | apply IsS43.drew | apply IsS43.set_0 | apply IsS43.set_1 | apply IsS43.set_2 | apply IsS43.set_3 | apply IsS43.set_4) | exact HI229.out)) hk NS229_223.out); have n1_ := Aside0.mk (IsS43.beside (show IsS43 w _ g235 x236000_2 x236001_2 x236002_2 x236003_2 x236004_2 from by repeat (first | (with_reducible first | exact HI235.out | apply IsS43.alloc | apply IsS43.drewN | apply IsS43.drew | apply IsS43.set_0 | apply IsS43.set_1 | apply IsS43.set_2 | apply IsS43.set_3 | apply IsS43.set_4) | exact HI235.out)) hk NS235_223.out); have n2_ := Aside0.mk (hb); have n3_ := Aside0.mk (hi); clear HI229; clear HI235; clear HB; clear HI223; have HI229 := n0_; have HI235 := n1_; have HB := n2_; have HI223 := n3_; clear n0_ n1_ n2_ n3_; (try clear hb); (try clear hb2); (try clear hk); (try clear hi); (try clear hgw)) | ((with_reducible refine gate_callee (f := 12) rfl ?_); refine goesL_ (some 50) rfl rfl Try.func12 (by kernel_rfl) rfl #[.pointer (some ⟨g229, 0, none⟩), .int .i64 (wrap64 (x12_2 + (wrap64 (rd l2 x13_2))))] rfl (by (try simp only [List.map_toArray, List.map_cons, List.map_nil]); first | done | rfl | (simp only [List.length_drop, List.length_take]; rfl)) ?_; (with_reducible refine (idle_Idle_Late.calls g229 x230000_2 x230001_2 x230002_2 x230003_2 x230004_2 (wrap64 (x12_2 + (wrap64 (rd l2 x13_2)))) t244 t245 t246 t247 t248 t249 w _ ?side1 ?side2 A20.out).mono ?_); (case side1 => repeat (first | (with_reducible first | exact HI229.out | apply IsS43.alloc | apply IsS43.drewN | apply IsS43.drew | apply IsS43.set_0 | apply IsS43.set_1 | apply IsS43.set_2 | apply IsS43.set_3 | apply IsS43.set_4) | exact HI229.out)); (case side2 => repeat (first | (with_reducible first | exact HB.out | apply below_alloc | apply pw_below_drewN | apply below_drew1 | refine below_set ?_ (IsS43.ge HI223.out) | refine below_set ?_ (IsS43.ge HI229.out) | refine below_set ?_ (IsS43.ge HI235.out)) | exact HB.out)); rintro e w27 ⟨rfl, hi, hb, hk⟩; refine ⟨_, rfl, ?_⟩; have n0_ := Aside0.mk (IsS43.beside (show IsS43 w _ g223 t239 t240 t241 t242 t243 from by repeat (first | (with_reducible first | exact HI223.out | apply IsS43.alloc | apply IsS43.drewN | apply IsS43.drew | apply IsS43.set_0 | apply IsS43.set_1 | apply IsS43.set_2 | apply IsS43.set_3 | apply IsS43.set_4) | exact HI223.out)) hk NS223_229.out); have n1_ := Aside0.mk (IsS43.beside (show IsS43 w _ g235 x236000_2 x236001_2 x236002_2 x236003_2 x236004_2 from by repeat (first | (with_reducible first | exact HI235.out | apply IsS43.alloc | apply IsS43.drewN | apply IsS43.drew | apply IsS43.set_0 | apply IsS43.set_1 | apply IsS43.set_2 | apply IsS43.set_3 | apply IsS43.set_4) | exact HI235.out)) hk NS235_229.out); have n2_ := Aside0.mk (hb); have n3_ := Aside0.mk (hi); clear HI223; clear HI235; clear HB; clear HI229; have HI223 := n0_; have HI235 := n1_; have HB := n2_; have HI229 := n3_; clear n0_ n1_ n2_ n3_; (try clear hb); (try clear hb2); (try clear hk); (try clear hi); (try clear hgw)) | (go_at_call 9; (with_reducible refine (idle_Idle_Due.calls g223 t239 t240 t241 t242 t243 (wrap64 (x12_2 + (wrap64 (rd l2 x13_2)))) t250 t251 t252 t253 t254 t255 w _ ?side1 ?side2 A24.out).mono ?_); (case side1 => repeat (first | (with_reducible first | exact HI223.out | apply IsS43.alloc | apply IsS43.drewN | apply IsS43.drew | apply IsS43.set_0 | apply IsS43.set_1 | apply IsS43.set_2 | apply IsS43.set_3 | apply IsS43.set_4) | exact HI223.out)); (case side2 => repeat (first | (with_reducible first | exact HB.out | apply below_alloc | apply pw_below_drewN | apply below_drew1 | refine below_set ?_ (IsS43.ge HI223.out) | refine below_set ?_ (IsS43.ge HI229.out) | refine below_set ?_ (IsS43.ge HI235.out)) | exact HB.out)); rintro e w28 ⟨rfl, hi, hb, hk⟩; have n0_ := Aside0.mk (IsS43.beside (show IsS43 w _ g229 t245 t246 t247 t248 t249 from by repeat (first | (with_reducible first | exact HI229.out | apply IsS43.alloc | apply IsS43.drewN | apply IsS43.drew | apply IsS43.set_0 | apply IsS43.set_1 | apply IsS43.set_2 | apply IsS43.set_3 | apply IsS43.set_4) | exact HI229.out)) hk NS229_223.out); have n1_ := Aside0.mk (IsS43.beside (show IsS43 w _ g235 x236000_2 x236001_2 x236002_2 x236003_2 x236004_2 from by repeat (first | (with_reducible first | exact HI235.out | apply IsS43.alloc | apply IsS43.drewN | apply IsS43.drew | apply IsS43.set_0 | apply IsS43.set_1 | apply IsS43.set_2 | apply IsS43.set_3 | apply IsS43.set_4) | exact HI235.out)) hk NS235_223.out); have n2_ := Aside0.mk (hb); have n3_ := Aside0.mk (hi); clear HI229; clear HI235; clear HB; clear HI223; have HI229 := n0_; have HI235 := n1_; have HB := n2_; have HI223 := n3_; clear n0_ n1_ n2_ n3_; (try clear hb); (try clear hb2); (try clear hk); (try clear hi); (try clear hgw)) | (go_at_call 9; (with_reducible refine (idle_Idle_Due.calls g235 x236000_2 x236001_2 x236002_2 x236003_2 x236004_2 (wrap64 (x12_2 + (wrap64 (rd l2 x13_2)))) t256 t257 t258 t259 t260 t261 w _ ?side1 ?side2 A25.out).mono ?_); (case side1 => repeat (first | (with_reducible first | exact HI235.out | apply IsS43.alloc | apply IsS43.drewN | apply IsS43.drew | apply IsS43.set_0 | apply IsS43.set_1 | apply IsS43.set_2 | apply IsS43.set_3 | apply IsS43.set_4) | exact HI235.out)); (case side2 => repeat (first | (with_reducible first | exact HB.out | apply below_alloc | apply pw_below_drewN | apply below_drew1 | refine below_set ?_ (IsS43.ge HI223.out) | refine below_set ?_ (IsS43.ge HI229.out) | refine below_set ?_ (IsS43.ge HI235.out)) | exact HB.out)); rintro e w29 ⟨rfl, hi, hb, hk⟩; have n0_ := Aside0.mk (IsS43.beside (show IsS43 w _ g223 t251 t252 t253 t254 t255 from by repeat (first | (with_reducible first | exact HI223.out | apply IsS43.alloc | apply IsS43.drewN | apply IsS43.drew | apply IsS43.set_0 | apply IsS43.set_1 | apply IsS43.set_2 | apply IsS43.set_3 | apply IsS43.set_4) | exact HI223.out)) hk NS223_235.out); have n1_ := Aside0.mk (IsS43.beside (show IsS43 w _ g229 t245 t246 t247 t248 t249 from by repeat (first | (with_reducible first | exact HI229.out | apply IsS43.alloc | apply IsS43.drewN | apply IsS43.drew | apply IsS43.set_0 | apply IsS43.set_1 | apply IsS43.set_2 | apply IsS43.set_3 | apply IsS43.set_4) | exact HI229.out)) hk NS229_235.out); have n2_ := Aside0.mk (hb); have n3_ := Aside0.mk (hi); clear HI223; clear HI229; clear HB; clear HI235; have HI223 := n0_; have HI229 := n1_; have HB := n2_; have HI235 := n3_; clear n0_ n1_ n2_ n3_; (try clear hb); (try clear hb2); (try clear hk); (try clear hi); (try clear hgw)))
                    go_meet
                    case rel => exact ⟨_, ((t250 != t256)), (t251), (t252), (t253), (t254), (t255), (t245), (t246), (t247), (t248), (t249), (t257), (t258), (t259), (t260), (t261), (by first | rfl | (simp; done) | (simp [*]; done)), H', ⟨by have := HJ4.out; have := HK2.out; first | omega | exact Nat.le_refl _⟩, ⟨by repeat (first | (with_reducible first | exact HI223.out | apply IsS43.alloc | apply IsS43.drewN | apply IsS43.drew | apply IsS43.set_0 | apply IsS43.set_1 | apply IsS43.set_2 | apply IsS43.set_3 | apply IsS43.set_4) | exact HI223.out)⟩, ⟨by repeat (first | (with_reducible first | exact HI229.out | apply IsS43.alloc | apply IsS43.drewN | apply IsS43.drew | apply IsS43.set_0 | apply IsS43.set_1 | apply IsS43.set_2 | apply IsS43.set_3 | apply IsS43.set_4) | exact HI229.out)⟩, ⟨by repeat (first | (with_reducible first | exact HI235.out | apply IsS43.alloc | apply IsS43.drewN | apply IsS43.drew | apply IsS43.set_0 | apply IsS43.set_1 | apply IsS43.set_2 | apply IsS43.set_3 | apply IsS43.set_4) | exact HI235.out)⟩, ⟨by repeat (first | (with_reducible first | exact HB.out | apply below_alloc | apply pw_below_drewN | apply below_drew1 | refine below_set ?_ (IsS43.ge HI223.out) | refine below_set ?_ (IsS43.ge HI229.out) | refine below_set ?_ (IsS43.ge HI235.out)) | exact HB.out)⟩⟩
                case rest =>
                  clear HC18
                  try clear c1
                  try clear c2
                  try clear p2
                  try clear q2
                  try clear hx2
                  try clear c3
                  try clear c6
                  try clear c6b0
                  try clear c6b1
                  try clear p6
                  try clear c7
                  try clear c8
                  try clear c12
                  try clear c13
                  try clear c16
                  try clear c16b0
                  try clear c17
                  try clear c17b0
                  try clear c21
                  try clear c21b0
                  try clear c21b1
                  try clear c21b2
                  try clear p23
                  try clear q23
                  try clear hx23
                  try clear hx237_0
                  try clear p2
                  try clear p237
                  try clear q237
                  obtain ⟨kq, x60_17, x224000_17, x224001_17, x224002_17, x224003_17, x224004_17, x230000_17, x230001_17, x230002_17, x230003_17, x230004_17, x236000_17, x236001_17, x236002_17, x236003_17, x236004_17, rfl, HA, HJ17, HI223, HI229, HI235, HB⟩ := hcut
                  cases kq with
                  | zero => exact absurd HA.out (by simp [lw14_IdleSplit.j2])
                  | succ kj17 =>
                    have H := HA.out
                    clear HA
                    simp only [lw14_IdleSplit.j2] at H
                    by_cases c30 : x60_17 = true
                    · subst c30
                      have H1 : (some false) = some r := by rw [if_pos rfl] at H; exact H
                      clear H
                      have H := H1
                      clear H1
                      obtain rfl := Option.some.inj H
                      go_wp2
                      go_ret
                      exact ⟨by first | rfl | (simp [errW_none, errW_some] <;> rfl) | (simp [*, errW_none, errW_some] <;> rfl), by repeat (first | (with_reducible first | exact HB.out | apply below_alloc | apply pw_below_drewN | apply below_drew1 | refine below_set ?_ (IsS43.ge HI223.out) | refine below_set ?_ (IsS43.ge HI229.out) | refine below_set ?_ (IsS43.ge HI235.out)) | exact HB.out)⟩
                    · replace c30 := Bool.eq_false_iff.mpr c30
                      subst c30
                      have H1 : (if 0 ≤ x13_2 then (if x13_2 < (l3.length : Int) then (if rdOf false l3 x13_2 = true then ((idle_Idle_Got.f x224000_17 x224001_17 x224002_17 x224003_17 x224004_17 (wrap64 (x12_2 + (wrap64 (rd l2 x13_2))))).bind fun bt263 => ((idle_Idle_Got.f x230000_17 x230001_17 x230002_17 x230003_17 x230004_17 (wrap64 (x12_2 + (wrap64 (rd l2 x13_2))))).bind fun bt268 => (lw14_IdleSplit.l0 kj17 l2 l3 (wrap64 (x12_2 + (wrap64 (rd l2 x13_2)))) (wrap64 (x13_2 + 1)) bt263.1 bt263.2.1 bt263.2.2.1 bt263.2.2.2.1 bt263.2.2.2.2 bt268.1 bt268.2.1 bt268.2.2.1 bt268.2.2.2.1 bt268.2.2.2.2 x236000_17 x236001_17 x236002_17 x236003_17 x236004_17))) else ((idle_Idle_Sent.f x224000_17 x224001_17 x224002_17 x224003_17 x224004_17 (wrap64 (x12_2 + (wrap64 (rd l2 x13_2))))).bind fun bt273 => ((idle_Idle_Sent.f x236000_17 x236001_17 x236002_17 x236003_17 x236004_17 (wrap64 (x12_2 + (wrap64 (rd l2 x13_2))))).bind fun bt278 => (lw14_IdleSplit.l0 kj17 l2 l3 (wrap64 (x12_2 + (wrap64 (rd l2 x13_2)))) (wrap64 (x13_2 + 1)) bt273.1 bt273.2.1 bt273.2.2.1 bt273.2.2.2.1 bt273.2.2.2.2 x230000_17 x230001_17 x230002_17 x230003_17 x230004_17 bt278.1 bt278.2.1 bt278.2.2.1 bt278.2.2.2.1 bt278.2.2.2.2)))) else (none)) else (none)) = some r := by rw [if_neg (show ¬ (false = true) by decide)] at H; exact H
                      clear H
                      have H := H1
                      clear H1
                      by_cases c31 : 0 ≤ x13_2
                      · rw [if_pos c31] at H
                        have c31b0 : decide (0 ≤ x13_2) = true := decide_eq_true c31
                        clear c31
                        by_cases c32 : x13_2 < (l3.length : Int)
                        · rw [if_pos c32] at H
                          have c32b0 : decide (x13_2 < (l3.length : Int)) = true := decide_eq_true c32
                          clear c32
                          obtain ⟨bq33, hbq33⟩ : ∃ b_ : Bool, b_ = (rdOf false l3 x13_2) := ⟨_, rfl⟩
                          replace H : (if bq33 = true then ((idle_Idle_Got.f x224000_17 x224001_17 x224002_17 x224003_17 x224004_17 (wrap64 (x12_2 + (wrap64 (rd l2 x13_2))))).bind fun bt263 => ((idle_Idle_Got.f x230000_17 x230001_17 x230002_17 x230003_17 x230004_17 (wrap64 (x12_2 + (wrap64 (rd l2 x13_2))))).bind fun bt268 => (lw14_IdleSplit.l0 kj17 l2 l3 (wrap64 (x12_2 + (wrap64 (rd l2 x13_2)))) (wrap64 (x13_2 + 1)) bt263.1 bt263.2.1 bt263.2.2.1 bt263.2.2.2.1 bt263.2.2.2.2 bt268.1 bt268.2.1 bt268.2.2.1 bt268.2.2.2.1 bt268.2.2.2.2 x236000_17 x236001_17 x236002_17 x236003_17 x236004_17))) else ((idle_Idle_Sent.f x224000_17 x224001_17 x224002_17 x224003_17 x224004_17 (wrap64 (x12_2 + (wrap64 (rd l2 x13_2))))).bind fun bt273 => ((idle_Idle_Sent.f x236000_17 x236001_17 x236002_17 x236003_17 x236004_17 (wrap64 (x12_2 + (wrap64 (rd l2 x13_2))))).bind fun bt278 => (lw14_IdleSplit.l0 kj17 l2 l3 (wrap64 (x12_2 + (wrap64 (rd l2 x13_2)))) (wrap64 (x13_2 + 1)) bt273.1 bt273.2.1 bt273.2.2.1 bt273.2.2.2.1 bt273.2.2.2.2 x230000_17 x230001_17 x230002_17 x230003_17 x230004_17 bt278.1 bt278.2.1 bt278.2.2.1 bt278.2.2.2.1 bt278.2.2.2.2)))) = some r := by rw [← hbq33] at H; exact H
                          have Nbq33 := Aside0.mk hbq33
                          clear hbq33
                          by_cases c34 : bq33 = true
                          · subst c34
                            have H1 : ((idle_Idle_Got.f x224000_17 x224001_17 x224002_17 x224003_17 x224004_17 (wrap64 (x12_2 + (wrap64 (rd l2 x13_2))))).bind fun bt263 => ((idle_Idle_Got.f x230000_17 x230001_17 x230002_17 x230003_17 x230004_17 (wrap64 (x12_2 + (wrap64 (rd l2 x13_2))))).bind fun bt268 => (lw14_IdleSplit.l0 kj17 l2 l3 (wrap64 (x12_2 + (wrap64 (rd l2 x13_2)))) (wrap64 (x13_2 + 1)) bt263.1 bt263.2.1 bt263.2.2.1 bt263.2.2.2.1 bt263.2.2.2.2 bt268.1 bt268.2.1 bt268.2.2.1 bt268.2.2.2.1 bt268.2.2.2.2 x236000_17 x236001_17 x236002_17 x236003_17 x236004_17))) = some r := by rw [if_pos rfl] at H; exact H
                            clear H
                            have H := H1
                            clear H1
                            replace H := Option.bind_eq_some_iff.mp H
                            obtain ⟨⟨t263, t264, t265, t266, t267⟩, A350, H⟩ := H
                            replace H : ((idle_Idle_Got.f x230000_17 x230001_17 x230002_17 x230003_17 x230004_17 (wrap64 (x12_2 + (wrap64 (rd l2 x13_2))))).bind fun bt268 => (lw14_IdleSplit.l0 kj17 l2 l3 (wrap64 (x12_2 + (wrap64 (rd l2 x13_2)))) (wrap64 (x13_2 + 1)) t263 t264 t265 t266 t267 bt268.1 bt268.2.1 bt268.2.2.1 bt268.2.2.2.1 bt268.2.2.2.2 x236000_17 x236001_17 x236002_17 x236003_17 x236004_17)) = some r := H
                            have A35 := Aside0.mk A350
                            clear A350
                            replace H := Option.bind_eq_some_iff.mp H
                            obtain ⟨⟨t268, t269, t270, t271, t272⟩, A360, H⟩ := H
                            replace H : (lw14_IdleSplit.l0 kj17 l2 l3 (wrap64 (x12_2 + (wrap64 (rd l2 x13_2)))) (wrap64 (x13_2 + 1)) t263 t264 t265 t266 t267 t268 t269 t270 t271 t272 x236000_17 x236001_17 x236002_17 x236003_17 x236004_17) = some r := H
                            have A36 := Aside0.mk A360
                            clear A360
                            have H' := Aside0.mk H
                            clear H
                            have p262 : 0 ≤ (x13_2 : Int) := of_decide_eq_true (by first | (with_reducible assumption) | assumption)
                            have q262 : x13_2 < (l3.length : Int) := of_decide_eq_true (by first | (with_reducible assumption) | assumption)
                            obtain ⟨ad262, e262, hx262_0⟩ := Kd.at_bool HR3.out x13_2 p262 q262
                            (try rw [← Nbq33.out] at hx262_0)
                            cases e262
                            replace hx262_0 := (HB.out.cell (World.block_lt_of_cell? w _ hx262_0)).trans hx262_0
                            replace p262 := eq_true p262
                            replace q262 := eq_true q262
                            go_wp2_with (first | ((with_reducible refine gate_callee (f := 11) rfl ?_); refine goesL_ (some 67) rfl rfl Try.func11 (by kernel_rfl) rfl #[.pointer (some ⟨g223, 0, none⟩), .int .i64 (wrap64 (x12_2 + (wrap64 (rd l2 x13_2))))] rfl (by (try simp only [List.map_toArray, List.map_cons, List.map_nil]); first | done | rfl | (simp only [List.length_drop, List.length_take]; rfl)) ?_; (with_reducible refine (idle_Idle_Got.calls g223 x224000_17 x224001_17 x224002_17 x224003_17 x224004_17 (wrap64 (x12_2 + (wrap64 (rd l2 x13_2)))) t263 t264 t265 t266 t267 w _ ?side1 ?side2 A35.out).mono ?_); (case side1 => repeat (first | (with_reducible first | exact HI223.out | apply IsS43.alloc | apply IsS43.drewN | apply IsS43.drew | apply IsS43.set_0 | apply IsS43.set_1 | apply IsS43.set_2 | apply IsS43.set_3 | apply IsS43.set_4) | exact HI223.out)); (case side2 => repeat (first | (with_reducible first | exact HB.out | apply below_alloc | apply pw_below_drewN | apply below_drew1 | refine below_set ?_ (IsS43.ge HI223.out) | refine below_set ?_ (IsS43.ge HI229.out) | refine below_set ?_ (IsS43.ge HI235.out)) | exact HB.out)); rintro e w37 ⟨rfl, hi, hb, hk⟩; refine ⟨_, rfl, ?_⟩; have n0_ := Aside0.mk (IsS43.beside (show IsS43 w _ g229 x230000_17 x230001_17 x230002_17 x230003_17 x230004_17 from by repeat (first | (with_reducible first | exact HI229.out | apply IsS43.alloc | apply IsS43.drewN | apply IsS43.drew | apply IsS43.set_0 | apply IsS43.set_1 | apply IsS43.set_2 | apply IsS43.set_3 | apply IsS43.set_4) | exact HI229.out)) hk NS229_223.out); have n1_ := Aside0.mk (IsS43.beside (show IsS43 w _ g235 x236000_17 x236001_17 x236002_17 x236003_17 x236004_17 from by repeat (first | (with_reducible first | exact HI235.out | apply IsS43.alloc | apply IsS43.drewN | apply IsS43.drew | apply IsS43.set_0 | apply IsS43.set_1 | apply IsS43.set_2 | apply IsS43.set_3 | apply IsS43.set_4) | exact HI235.out)) hk NS235_223.out); have n2_ := Aside0.mk (hb); have n3_ := Aside0.mk (hi); clear HI229; clear HI235; clear HB; clear HI223; have HI229 := n0_; have HI235 := n1_; have HB := n2_; have HI223 := n3_; clear n0_ n1_ n2_ n3_; (try clear hb); (try clear hb2); (try clear hk); (try clear hi); (try clear hgw)) | ((with_reducible refine gate_callee (f := 11) rfl ?_); refine goesL_ (some 70) rfl rfl Try.func11 (by kernel_rfl) rfl #[.pointer (some ⟨g229, 0, none⟩), .int .i64 (wrap64 (x12_2 + (wrap64 (rd l2 x13_2))))] rfl (by (try simp only [List.map_toArray, List.map_cons, List.map_nil]); first | done | rfl | (simp only [List.length_drop, List.length_take]; rfl)) ?_; (with_reducible refine (idle_Idle_Got.calls g229 x230000_17 x230001_17 x230002_17 x230003_17 x230004_17 (wrap64 (x12_2 + (wrap64 (rd l2 x13_2)))) t268 t269 t270 t271 t272 w _ ?side1 ?side2 A36.out).mono ?_); (case side1 => repeat (first | (with_reducible first | exact HI229.out | apply IsS43.alloc | apply IsS43.drewN | apply IsS43.drew | apply IsS43.set_0 | apply IsS43.set_1 | apply IsS43.set_2 | apply IsS43.set_3 | apply IsS43.set_4) | exact HI229.out)); (case side2 => repeat (first | (with_reducible first | exact HB.out | apply below_alloc | apply pw_below_drewN | apply below_drew1 | refine below_set ?_ (IsS43.ge HI223.out) | refine below_set ?_ (IsS43.ge HI229.out) | refine below_set ?_ (IsS43.ge HI235.out)) | exact HB.out)); rintro e w38 ⟨rfl, hi, hb, hk⟩; refine ⟨_, rfl, ?_⟩; have n0_ := Aside0.mk (IsS43.beside (show IsS43 w _ g223 t263 t264 t265 t266 t267 from by repeat (first | (with_reducible first | exact HI223.out | apply IsS43.alloc | apply IsS43.drewN | apply IsS43.drew | apply IsS43.set_0 | apply IsS43.set_1 | apply IsS43.set_2 | apply IsS43.set_3 | apply IsS43.set_4) | exact HI223.out)) hk NS223_229.out); have n1_ := Aside0.mk (IsS43.beside (show IsS43 w _ g235 x236000_17 x236001_17 x236002_17 x236003_17 x236004_17 from by repeat (first | (with_reducible first | exact HI235.out | apply IsS43.alloc | apply IsS43.drewN | apply IsS43.drew | apply IsS43.set_0 | apply IsS43.set_1 | apply IsS43.set_2 | apply IsS43.set_3 | apply IsS43.set_4) | exact HI235.out)) hk NS235_229.out); have n2_ := Aside0.mk (hb); have n3_ := Aside0.mk (hi); clear HI223; clear HI235; clear HB; clear HI229; have HI223 := n0_; have HI235 := n1_; have HB := n2_; have HI229 := n3_; clear n0_ n1_ n2_ n3_; (try clear hb); (try clear hb2); (try clear hk); (try clear hi); (try clear hgw)))
                            go_roundg kj17
                            case measure => have := HJ4.out; have := HK2.out; have := HJ17.out; omega
                            case rel => exact ⟨((wrap64 (x12_2 + (wrap64 (rd l2 x13_2))))), (wrap64 (x13_2 + 1)), (t263), (t264), (t265), (t266), (t267), (t268), (t269), (t270), (t271), (t272), (x236000_17), (x236001_17), (x236002_17), (x236003_17), (x236004_17), (by first | rfl | (simp; done) | (simp [*]; done)), (by first | rfl | (simp; done) | (simp [*]; done)), H', ⟨by have := HJ4.out; have := HK2.out; have := HJ17.out; omega⟩, ⟨by repeat (first | (with_reducible first | exact HI223.out | apply IsS43.alloc | apply IsS43.drewN | apply IsS43.drew | apply IsS43.set_0 | apply IsS43.set_1 | apply IsS43.set_2 | apply IsS43.set_3 | apply IsS43.set_4) | exact HI223.out)⟩, ⟨by repeat (first | (with_reducible first | exact HI229.out | apply IsS43.alloc | apply IsS43.drewN | apply IsS43.drew | apply IsS43.set_0 | apply IsS43.set_1 | apply IsS43.set_2 | apply IsS43.set_3 | apply IsS43.set_4) | exact HI229.out)⟩, ⟨by repeat (first | (with_reducible first | exact HI235.out | apply IsS43.alloc | apply IsS43.drewN | apply IsS43.drew | apply IsS43.set_0 | apply IsS43.set_1 | apply IsS43.set_2 | apply IsS43.set_3 | apply IsS43.set_4) | exact HI235.out)⟩, ⟨by repeat (first | (with_reducible first | exact HB.out | apply below_alloc | apply pw_below_drewN | apply below_drew1 | refine below_set ?_ (IsS43.ge HI223.out) | refine below_set ?_ (IsS43.ge HI229.out) | refine below_set ?_ (IsS43.ge HI235.out)) | exact HB.out)⟩⟩
                          · replace c34 := Bool.eq_false_iff.mpr c34
                            subst c34
                            have H1 : ((idle_Idle_Sent.f x224000_17 x224001_17 x224002_17 x224003_17 x224004_17 (wrap64 (x12_2 + (wrap64 (rd l2 x13_2))))).bind fun bt273 => ((idle_Idle_Sent.f x236000_17 x236001_17 x236002_17 x236003_17 x236004_17 (wrap64 (x12_2 + (wrap64 (rd l2 x13_2))))).bind fun bt278 => (lw14_IdleSplit.l0 kj17 l2 l3 (wrap64 (x12_2 + (wrap64 (rd l2 x13_2)))) (wrap64 (x13_2 + 1)) bt273.1 bt273.2.1 bt273.2.2.1 bt273.2.2.2.1 bt273.2.2.2.2 x230000_17 x230001_17 x230002_17 x230003_17 x230004_17 bt278.1 bt278.2.1 bt278.2.2.1 bt278.2.2.2.1 bt278.2.2.2.2))) = some r := by rw [if_neg (show ¬ (false = true) by decide)] at H; exact H
                            clear H
                            have H := H1
                            clear H1
                            replace H := Option.bind_eq_some_iff.mp H
                            obtain ⟨⟨t273, t274, t275, t276, t277⟩, A390, H⟩ := H
                            replace H : ((idle_Idle_Sent.f x236000_17 x236001_17 x236002_17 x236003_17 x236004_17 (wrap64 (x12_2 + (wrap64 (rd l2 x13_2))))).bind fun bt278 => (lw14_IdleSplit.l0 kj17 l2 l3 (wrap64 (x12_2 + (wrap64 (rd l2 x13_2)))) (wrap64 (x13_2 + 1)) t273 t274 t275 t276 t277 x230000_17 x230001_17 x230002_17 x230003_17 x230004_17 bt278.1 bt278.2.1 bt278.2.2.1 bt278.2.2.2.1 bt278.2.2.2.2)) = some r := H
                            have A39 := Aside0.mk A390
                            clear A390
                            replace H := Option.bind_eq_some_iff.mp H
                            obtain ⟨⟨t278, t279, t280, t281, t282⟩, A400, H⟩ := H
                            replace H : (lw14_IdleSplit.l0 kj17 l2 l3 (wrap64 (x12_2 + (wrap64 (rd l2 x13_2)))) (wrap64 (x13_2 + 1)) t273 t274 t275 t276 t277 x230000_17 x230001_17 x230002_17 x230003_17 x230004_17 t278 t279 t280 t281 t282) = some r := H
                            have A40 := Aside0.mk A400
                            clear A400
                            have H' := Aside0.mk H
                            clear H
                            have p262 : 0 ≤ (x13_2 : Int) := of_decide_eq_true (by first | (with_reducible assumption) | assumption)
                            have q262 : x13_2 < (l3.length : Int) := of_decide_eq_true (by first | (with_reducible assumption) | assumption)
                            obtain ⟨ad262, e262, hx262_0⟩ := Kd.at_bool HR3.out x13_2 p262 q262
                            (try rw [← Nbq33.out] at hx262_0)
                            cases e262
                            replace hx262_0 := (HB.out.cell (World.block_lt_of_cell? w _ hx262_0)).trans hx262_0
                            replace p262 := eq_true p262
                            replace q262 := eq_true q262
                            go_wp2_with (first | ((with_reducible refine gate_callee (f := 10) rfl ?_); refine goesL_ (some 73) rfl rfl Try.func10 (by kernel_rfl) rfl #[.pointer (some ⟨g223, 0, none⟩), .int .i64 (wrap64 (x12_2 + (wrap64 (rd l2 x13_2))))] rfl (by (try simp only [List.map_toArray, List.map_cons, List.map_nil]); first | done | rfl | (simp only [List.length_drop, List.length_take]; rfl)) ?_; (with_reducible refine (idle_Idle_Sent.calls g223 x224000_17 x224001_17 x224002_17 x224003_17 x224004_17 (wrap64 (x12_2 + (wrap64 (rd l2 x13_2)))) t273 t274 t275 t276 t277 w _ ?side1 ?side2 A39.out).mono ?_); (case side1 => repeat (first | (with_reducible first | exact HI223.out | apply IsS43.alloc | apply IsS43.drewN | apply IsS43.drew | apply IsS43.set_0 | apply IsS43.set_1 | apply IsS43.set_2 | apply IsS43.set_3 | apply IsS43.set_4) | exact HI223.out)); (case side2 => repeat (first | (with_reducible first | exact HB.out | apply below_alloc | apply pw_below_drewN | apply below_drew1 | refine below_set ?_ (IsS43.ge HI223.out) | refine below_set ?_ (IsS43.ge HI229.out) | refine below_set ?_ (IsS43.ge HI235.out)) | exact HB.out)); rintro e w41 ⟨rfl, hi, hb, hk⟩; refine ⟨_, rfl, ?_⟩; have n0_ := Aside0.mk (IsS43.beside (show IsS43 w _ g229 x230000_17 x230001_17 x230002_17 x230003_17 x230004_17 from by repeat (first | (with_reducible first | exact HI229.out | apply IsS43.alloc | apply IsS43.drewN | apply IsS43.drew | apply IsS43.set_0 | apply IsS43.set_1 | apply IsS43.set_2 | apply IsS43.set_3 | apply IsS43.set_4) | exact HI229.out)) hk NS229_223.out); have n1_ := Aside0.mk (IsS43.beside (show IsS43 w _ g235 x236000_17 x236001_17 x236002_17 x236003_17 x236004_17 from by repeat (first | (with_reducible first | exact HI235.out | apply IsS43.alloc | apply IsS43.drewN | apply IsS43.drew | apply IsS43.set_0 | apply IsS43.set_1 | apply IsS43.set_2 | apply IsS43.set_3 | apply IsS43.set_4) | exact HI235.out)) hk NS235_223.out); have n2_ := Aside0.mk (hb); have n3_ := Aside0.mk (hi); clear HI229; clear HI235; clear HB; clear HI223; have HI229 := n0_; have HI235 := n1_; have HB := n2_; have HI223 := n3_; clear n0_ n1_ n2_ n3_; (try clear hb); (try clear hb2); (try clear hk); (try clear hi); (try clear hgw)) | ((with_reducible refine gate_callee (f := 10) rfl ?_); refine goesL_ (some 76) rfl rfl Try.func10 (by kernel_rfl) rfl #[.pointer (some ⟨g235, 0, none⟩), .int .i64 (wrap64 (x12_2 + (wrap64 (rd l2 x13_2))))] rfl (by (try simp only [List.map_toArray, List.map_cons, List.map_nil]); first | done | rfl | (simp only [List.length_drop, List.length_take]; rfl)) ?_; (with_reducible refine (idle_Idle_Sent.calls g235 x236000_17 x236001_17 x236002_17 x236003_17 x236004_17 (wrap64 (x12_2 + (wrap64 (rd l2 x13_2)))) t278 t279 t280 t281 t282 w _ ?side1 ?side2 A40.out).mono ?_); (case side1 => repeat (first | (with_reducible first | exact HI235.out | apply IsS43.alloc | apply IsS43.drewN | apply IsS43.drew | apply IsS43.set_0 | apply IsS43.set_1 | apply IsS43.set_2 | apply IsS43.set_3 | apply IsS43.set_4) | exact HI235.out)); (case side2 => repeat (first | (with_reducible first | exact HB.out | apply below_alloc | apply pw_below_drewN | apply below_drew1 | refine below_set ?_ (IsS43.ge HI223.out) | refine below_set ?_ (IsS43.ge HI229.out) | refine below_set ?_ (IsS43.ge HI235.out)) | exact HB.out)); rintro e w42 ⟨rfl, hi, hb, hk⟩; refine ⟨_, rfl, ?_⟩; have n0_ := Aside0.mk (IsS43.beside (show IsS43 w _ g223 t273 t274 t275 t276 t277 from by repeat (first | (with_reducible first | exact HI223.out | apply IsS43.alloc | apply IsS43.drewN | apply IsS43.drew | apply IsS43.set_0 | apply IsS43.set_1 | apply IsS43.set_2 | apply IsS43.set_3 | apply IsS43.set_4) | exact HI223.out)) hk NS223_235.out); have n1_ := Aside0.mk (IsS43.beside (show IsS43 w _ g229 x230000_17 x230001_17 x230002_17 x230003_17 x230004_17 from by repeat (first | (with_reducible first | exact HI229.out | apply IsS43.alloc | apply IsS43.drewN | apply IsS43.drew | apply IsS43.set_0 | apply IsS43.set_1 | apply IsS43.set_2 | apply IsS43.set_3 | apply IsS43.set_4) | exact HI229.out)) hk NS229_235.out); have n2_ := Aside0.mk (hb); have n3_ := Aside0.mk (hi); clear HI223; clear HI229; clear HB; clear HI235; have HI223 := n0_; have HI229 := n1_; have HB := n2_; have HI235 := n3_; clear n0_ n1_ n2_ n3_; (try clear hb); (try clear hb2); (try clear hk); (try clear hi); (try clear hgw)))
                            go_roundg kj17
                            case measure => have := HJ4.out; have := HK2.out; have := HJ17.out; omega
                            case rel => exact ⟨((wrap64 (x12_2 + (wrap64 (rd l2 x13_2))))), (wrap64 (x13_2 + 1)), (t273), (t274), (t275), (t276), (t277), (x230000_17), (x230001_17), (x230002_17), (x230003_17), (x230004_17), (t278), (t279), (t280), (t281), (t282), (by first | rfl | (simp; done) | (simp [*]; done)), (by first | rfl | (simp; done) | (simp [*]; done)), H', ⟨by have := HJ4.out; have := HK2.out; have := HJ17.out; omega⟩, ⟨by repeat (first | (with_reducible first | exact HI223.out | apply IsS43.alloc | apply IsS43.drewN | apply IsS43.drew | apply IsS43.set_0 | apply IsS43.set_1 | apply IsS43.set_2 | apply IsS43.set_3 | apply IsS43.set_4) | exact HI223.out)⟩, ⟨by repeat (first | (with_reducible first | exact HI229.out | apply IsS43.alloc | apply IsS43.drewN | apply IsS43.drew | apply IsS43.set_0 | apply IsS43.set_1 | apply IsS43.set_2 | apply IsS43.set_3 | apply IsS43.set_4) | exact HI229.out)⟩, ⟨by repeat (first | (with_reducible first | exact HI235.out | apply IsS43.alloc | apply IsS43.drewN | apply IsS43.drew | apply IsS43.set_0 | apply IsS43.set_1 | apply IsS43.set_2 | apply IsS43.set_3 | apply IsS43.set_4) | exact HI235.out)⟩, ⟨by repeat (first | (with_reducible first | exact HB.out | apply below_alloc | apply pw_below_drewN | apply below_drew1 | refine below_set ?_ (IsS43.ge HI223.out) | refine below_set ?_ (IsS43.ge HI229.out) | refine below_set ?_ (IsS43.ge HI235.out)) | exact HB.out)⟩⟩
                        · rw [if_neg c32] at H
                          exact absurd H (by simp)
                      · rw [if_neg c31] at H
                        exact absurd H (by simp)
              · rw [if_neg c17] at H
                exact absurd H (by simp)
            · rw [if_neg c16] at H
              have c16b0 : decide (x13_2 < (l2.length : Int)) = false := decide_eq_false c16
              clear c16
              replace H := Option.bind_eq_some_iff.mp H
              obtain ⟨t236, A430, H⟩ := H
              replace H : (some t236) = some r := H
              have A43 := Aside0.mk A430
              clear A430
              obtain rfl := Option.some.inj H
              go_wp2_with (first | ((with_reducible refine gate_callee (f := 13) rfl ?_); refine goesL_ (some 77) rfl rfl Try.func13 (by kernel_rfl) rfl #[] rfl (by (try simp only [List.map_toArray, List.map_cons, List.map_nil]); first | done | rfl | (simp only [List.length_drop, List.length_take]; rfl)) ?_; (with_reducible refine (lw14_works.calls k2  t236 _ A43.out).mono ?_); rintro e w44 ⟨rfl, hb⟩; refine ⟨_, rfl, ?_⟩; have n0_ := Aside0.mk (IsS43.below (by repeat (first | (with_reducible first | exact HI223.out | apply IsS43.alloc | apply IsS43.drewN | apply IsS43.drew | apply IsS43.set_0 | apply IsS43.set_1 | apply IsS43.set_2 | apply IsS43.set_3 | apply IsS43.set_4) | exact HI223.out)) hb); have n1_ := Aside0.mk (IsS43.below (by repeat (first | (with_reducible first | exact HI229.out | apply IsS43.alloc | apply IsS43.drewN | apply IsS43.drew | apply IsS43.set_0 | apply IsS43.set_1 | apply IsS43.set_2 | apply IsS43.set_3 | apply IsS43.set_4) | exact HI229.out)) hb); have n2_ := Aside0.mk (IsS43.below (by repeat (first | (with_reducible first | exact HI235.out | apply IsS43.alloc | apply IsS43.drewN | apply IsS43.drew | apply IsS43.set_0 | apply IsS43.set_1 | apply IsS43.set_2 | apply IsS43.set_3 | apply IsS43.set_4) | exact HI235.out)) hb); have n3_ := Aside0.mk (below_step (by repeat (first | (with_reducible first | exact HB.out | apply below_alloc | apply pw_below_drewN | apply below_drew1 | refine below_set ?_ (IsS43.ge HI223.out) | refine below_set ?_ (IsS43.ge HI229.out) | refine below_set ?_ (IsS43.ge HI235.out)) | exact HB.out)) hb); clear HI223; clear HI229; clear HI235; clear HB; have HI223 := n0_; have HI229 := n1_; have HI235 := n2_; have HB := n3_; clear n0_ n1_ n2_ n3_; (try clear hb); (try clear hb2); (try clear hk); (try clear hi); (try clear hgw)))
              go_ret
              exact ⟨by first | rfl | (simp [errW_none, errW_some] <;> rfl) | (simp [*, errW_none, errW_some] <;> rfl), by repeat (first | (with_reducible first | exact HB.out | apply below_alloc | apply pw_below_drewN | apply below_drew1 | refine below_set ?_ (IsS43.ge HI223.out) | refine below_set ?_ (IsS43.ge HI229.out) | refine below_set ?_ (IsS43.ge HI235.out)) | exact HB.out)⟩

/-- THE ONE PURE STATEMENT of lw14_IdleSplit: yours. -/
def lw14_IdleSplit.Pure : Prop := ∀ (a0 : Int) (a1 : Int) (l2 : List Int) (l3 : List Bool), (Lit.int .u32 a0).wf = true → (Lit.int .u32 a1).wf = true → l2.length ≤ maxLen → (∀ x ∈ l2, (Lit.int .u16 x).wf = true) → l3.length ≤ maxLen → ∃ k, lw14_IdleSplit.f k a0 a1 l2 l3 = some true

end Go.Proofs.Ytfnoldogodfinaa.PIdleSplit
