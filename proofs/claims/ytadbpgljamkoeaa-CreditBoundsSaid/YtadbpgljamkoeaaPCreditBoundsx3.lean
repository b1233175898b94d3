/- Written by a program of this session (a turned copy of the print; not the kit's own print): the walks of the functions that one law reaches, or that law's row; the plain law stands in the Pure text; no condition of our own. -/
import Derived.Test.YtadbpgljamkoeaaPCreditBoundsx0
import Derived.Test.YtadbpgljamkoeaaPCreditBoundsx1
import Derived.Test.YtadbpgljamkoeaaPCreditBoundsx2
namespace Go.Proofs.Ytadbpgljamkoeaa.PCreditBounds
open Go.RowKit Go.Proofs.YtadbpgljamkoeaaW.PrintWords Go.Proofs.YtadbpgljamkoeaaW.PrintLast Go.Proofs.YtadbpgljamkoeaaW.PrintMore
attribute [local go_sem] max2_int min2_int max_two min_two max_three min_three max_four min_four   -- for this text's walks alone
set_option linter.unusedVariables false
set_option linter.unusedSimpArgs false

/-! ### lw16_CreditBounds: function 6 -/
mutual
def lw16_CreditBounds.l0 : Nat → List (S33) → Int → Int → Int → Bool → Option (Bool)
  | 0, _, _, _, _, _ => none
  | k + 1, x1, x6, x210000, x210001, x210002 => if x6 < (x1.length : Int) then ((cr_Left.f x210000 x210001 x210002).bind fun bt211 => (if 0 ≤ x6 then ((lw16_does.f bt211.2.2.2.1 bt211.2.2.2.2.1 bt211.2.2.2.2.2 ((rd_T33 x1 x6).f0) ((rd_T33 x1 x6).f1) ((rd_T33 x1 x6).f2) ((rd_T33 x1 x6).f3)).bind fun bt218 => ((cr_Left.f bt218.2.2.1 bt218.2.2.2.1 bt218.2.2.2.2).bind fun bt224 => (if bt224.2.1 > 1000 then (lw16_CreditBounds.j1 k x1 x6 bt211.1 bt211.2.1 bt211.2.2.1 bt224.1 bt224.2.1 true bt224.2.2.2.1 bt224.2.2.2.2.1 bt224.2.2.2.2.2 bt218.1 bt218.2.1) else (lw16_CreditBounds.j1 k x1 x6 bt211.1 bt211.2.1 bt211.2.2.1 bt224.1 bt224.2.1 (decide (((bt224.1 - bt211.1) % 4294967296) > bt211.2.1)) bt224.2.2.2.1 bt224.2.2.2.2.1 bt224.2.2.2.2.2 bt218.1 bt218.2.1)))) else (none))) else ((lw16_works.f k).bind fun t210 => (some t210))
def lw16_CreditBounds.j1 : Nat → List (S33) → Int → Int → Int → Bool → Int → Int → Bool → Int → Int → Bool → Int → Bool → Option (Bool)
  | 0, _, _, _, _, _, _, _, _, _, _, _, _, _ => none
  | k + 1, x1, x6, x7, x8, x9, x11, x12, x52, x210000, x210001, x210002, x224000, x224001 => if x52 = true then (some false) else (if 0 ≤ x6 then (if x6 < (x1.length : Int) then (if ((rd_T33 x1 x6).f0) = 3 then (if (x224001 != (decide (x8 > 0))) = true then (some false) else (if x224001 = true then (if x11 = ((x7 + 1) % 4294967296) then (if x12 = ((x8 - 1) % 4294967296) then (lw16_CreditBounds.l0 k x1 (wrap64 (x6 + 1)) x210000 x210001 x210002) else (some false)) else (some false)) else (if x11 = x7 then (if x12 = x8 then (lw16_CreditBounds.l0 k x1 (wrap64 (x6 + 1)) x210000 x210001 x210002) else (some false)) else (some false)))) else (if ((rd_T33 x1 x6).f0) = 4 then (if (x224001 != x9) = true then (some false) else (if x224001 = true then (if x224000 = x8 then (if x11 = ((x7 + x8) % 4294967296) then (if x12 = 0 then (lw16_CreditBounds.l0 k x1 (wrap64 (x6 + 1)) x210000 x210001 x210002) else (some false)) else (some false)) else (some false)) else (if x11 = x7 then (lw16_CreditBounds.l0 k x1 (wrap64 (x6 + 1)) x210000 x210001 x210002) else (some false)))) else (if ((rd_T33 x1 x6).f0) = 0 then (lw16_CreditBounds.j2 k x1 x6 x7 x8 x11 x12 ((rd_T33 x1 x6).f0) (((rd_T33 x1 x6).f0) == 0) x210000 x210001 x210002) else (lw16_CreditBounds.j2 k x1 x6 x7 x8 x11 x12 ((rd_T33 x1 x6).f0) (((rd_T33 x1 x6).f0) == 2) x210000 x210001 x210002)))) else (none)) else (none))
def lw16_CreditBounds.j2 : Nat → List (S33) → Int → Int → Int → Int → Int → Int → Bool → Int → Int → Bool → Option (Bool)
  | 0, _, _, _, _, _, _, _, _, _, _, _ => none
  | k + 1, x1, x6, x7, x8, x11, x12, x57, x133, x210000, x210001, x210002 => if x133 = true then (if x11 = x7 then (lw16_CreditBounds.l0 k x1 (wrap64 (x6 + 1)) x210000 x210001 x210002) else (some false)) else (if x57 = 1 then (if ((x11 - x7) % 4294967296) = ((x8 - x12) % 4294967296) then (lw16_CreditBounds.l0 k x1 (wrap64 (x6 + 1)) x210000 x210001 x210002) else (some false)) else (lw16_CreditBounds.l0 k x1 (wrap64 (x6 + 1)) x210000 x210001 x210002))
end
def lw16_CreditBounds.f (k : Nat) (a0 : Int) (l1 : List (S33)) : Option (Bool) := if (l1.length : Int) > 300 then ((lw16_works.f k).bind fun t205 => (some t205)) else ((credit_New.f a0).bind fun bt206 => (lw16_CreditBounds.l0 k l1 0 bt206.1 bt206.2.1 bt206.2.2))
theorem lw16_CreditBounds.mono_l : ∀ k, (∀ y0 y1 y2 y3 y4, LeO (lw16_CreditBounds.l0 k y0 y1 y2 y3 y4) (lw16_CreditBounds.l0 (k + 1) y0 y1 y2 y3 y4)) ∧ (∀ y0 y1 y2 y3 y4 y5 y6 y7 y8 y9 y10 y11 y12, LeO (lw16_CreditBounds.j1 k y0 y1 y2 y3 y4 y5 y6 y7 y8 y9 y10 y11 y12) (lw16_CreditBounds.j1 (k + 1) y0 y1 y2 y3 y4 y5 y6 y7 y8 y9 y10 y11 y12)) ∧ (∀ y0 y1 y2 y3 y4 y5 y6 y7 y8 y9 y10, LeO (lw16_CreditBounds.j2 k y0 y1 y2 y3 y4 y5 y6 y7 y8 y9 y10) (lw16_CreditBounds.j2 (k + 1) y0 y1 y2 y3 y4 y5 y6 y7 y8 y9 y10))
  | 0 => ⟨fun _ _ _ _ _ r h => by simp [lw16_CreditBounds.l0] at h, fun _ _ _ _ _ _ _ _ _ _ _ _ _ r h => by simp [lw16_CreditBounds.j1] at h, fun _ _ _ _ _ _ _ _ _ _ _ r h => by simp [lw16_CreditBounds.j2] at h⟩
  | k + 1 => by
    obtain ⟨ih0, ih1, ih2⟩ := lw16_CreditBounds.mono_l k
    refine ⟨?_, ?_, ?_⟩
    · intro y0 y1 y2 y3 y4
      unfold lw16_CreditBounds.l0
      repeat' first
      | (with_reducible exact ih0 _ _ _ _ _)
      | (with_reducible exact ih1 _ _ _ _ _ _ _ _ _ _ _ _ _)
      | (with_reducible exact ih2 _ _ _ _ _ _ _ _ _ _ _)
      | (with_reducible exact lw16_works.mono _)
      | (with_reducible exact LeO.refl _)
      | (with_reducible exact LeO.none _)
      | (with_reducible refine LeO.ite ?_ ?_)
      | (with_reducible refine LeO.bind ?_ (fun _ => ?_))
      | exact ih0 _ _ _ _ _
      | exact ih1 _ _ _ _ _ _ _ _ _ _ _ _ _
      | exact ih2 _ _ _ _ _ _ _ _ _ _ _
      | exact lw16_works.mono _
      | exact LeO.none _
      | refine LeO.ite ?_ ?_
      | refine LeO.bind ?_ (fun _ => ?_)
    · intro y0 y1 y2 y3 y4 y5 y6 y7 y8 y9 y10 y11 y12
      unfold lw16_CreditBounds.j1
      repeat' first
      | (with_reducible exact ih0 _ _ _ _ _)
      | (with_reducible exact ih1 _ _ _ _ _ _ _ _ _ _ _ _ _)
      | (with_reducible exact ih2 _ _ _ _ _ _ _ _ _ _ _)
      | (with_reducible exact lw16_works.mono _)
      | (with_reducible exact LeO.refl _)
      | (with_reducible exact LeO.none _)
      | (with_reducible refine LeO.ite ?_ ?_)
      | (with_reducible refine LeO.bind ?_ (fun _ => ?_))
      | exact ih0 _ _ _ _ _
      | exact ih1 _ _ _ _ _ _ _ _ _ _ _ _ _
      | exact ih2 _ _ _ _ _ _ _ _ _ _ _
      | exact lw16_works.mono _
      | exact LeO.none _
      | refine LeO.ite ?_ ?_
      | refine LeO.bind ?_ (fun _ => ?_)
    · intro y0 y1 y2 y3 y4 y5 y6 y7 y8 y9 y10
      unfold lw16_CreditBounds.j2
      repeat' first
      | (with_reducible exact ih0 _ _ _ _ _)
      | (with_reducible exact ih1 _ _ _ _ _ _ _ _ _ _ _ _ _)
      | (with_reducible exact ih2 _ _ _ _ _ _ _ _ _ _ _)
      | (with_reducible exact lw16_works.mono _)
      | (with_reducible exact LeO.refl _)
      | (with_reducible exact LeO.none _)
      | (with_reducible refine LeO.ite ?_ ?_)
      | (with_reducible refine LeO.bind ?_ (fun _ => ?_))
      | exact ih0 _ _ _ _ _
      | exact ih1 _ _ _ _ _ _ _ _ _ _ _ _ _
      | exact ih2 _ _ _ _ _ _ _ _ _ _ _
      | exact lw16_works.mono _
      | exact LeO.none _
      | refine LeO.ite ?_ ?_
      | refine LeO.bind ?_ (fun _ => ?_)
theorem lw16_CreditBounds.mono : ∀ a0 a1 k, LeO (lw16_CreditBounds.f k a0 a1) (lw16_CreditBounds.f (k + 1) a0 a1) := by
  intro a0 a1 k
  obtain ⟨ih0, ih1, ih2⟩ := lw16_CreditBounds.mono_l k
  unfold lw16_CreditBounds.f
  repeat' first
      | (with_reducible exact ih0 _ _ _ _ _)
      | (with_reducible exact ih1 _ _ _ _ _ _ _ _ _ _ _ _ _)
      | (with_reducible exact ih2 _ _ _ _ _ _ _ _ _ _ _)
      | (with_reducible exact lw16_works.mono _)
      | (with_reducible exact LeO.refl _)
      | (with_reducible exact LeO.none _)
      | (with_reducible refine LeO.ite ?_ ?_)
      | (with_reducible refine LeO.bind ?_ (fun _ => ?_))
      | exact ih0 _ _ _ _ _
      | exact ih1 _ _ _ _ _ _ _ _ _ _ _ _ _
      | exact ih2 _ _ _ _ _ _ _ _ _ _ _
      | exact lw16_works.mono _
      | exact LeO.none _
      | refine LeO.ite ?_ ?_
      | refine LeO.bind ?_ (fun _ => ?_)
set_option maxHeartbeats 8000000 in
set_option maxRecDepth 100000 in
theorem lw16_CreditBounds.calls (k : Nat) (a0 : Int) (A1 : Option Addr) (c1 : Nat) (l1 : List (S33)) (r : Bool) (w : World) (hr1 : Kd.C k33 w A1 l1.length l1) (hc1 : l1.length ≤ c1) (h : lw16_CreditBounds.f k a0 l1 = some r) :
    Calls Try.prog 6 #[.int .u32 a0, .slice A1 l1.length c1] w fun e w' => e = .returned (.bool r) ∧ Below w.heap.size w w' := by
  have hu33 := Try.underlying33
  have hu30 := Try.underlying30
  have HR1 := Aside0.mk hr1
  have HC1 := Aside0.mk hc1
  clear hr1 hc1
  have HB := Aside0.mk (Below.refl w.heap.size w)
  have H : (if (l1.length : Int) > 300 then ((lw16_works.f k).bind fun t205 => (some t205)) else ((credit_New.f a0).bind fun bt206 => (lw16_CreditBounds.l0 k l1 0 bt206.1 bt206.2.1 bt206.2.2))) = some r := h
  clear h
  by_cases c3 : (l1.length : Int) > 300
  · rw [if_pos c3] at H
    have c3b0 : decide (300 < (l1.length : Int)) = true := decide_eq_true c3
    have c3b1 : decide (300 < l1.length) = true := decide_eq_true (by omega)
    clear c3
    replace H := Option.bind_eq_some_iff.mp H
    obtain ⟨t205, A40, H⟩ := H
    replace H : (some t205) = some r := H
    have A4 := Aside0.mk A40
    clear A40
    obtain rfl := Option.some.inj H
    go_enter Try.func6, Try.ntmps6
    go_wp2_with (first | ((with_reducible refine gate_callee (f := 9) rfl ?_); refine goesL_ (some 17) rfl rfl Try.func9 (by kernel_rfl) rfl #[] rfl (by (try simp only [List.map_toArray, List.map_cons, List.map_nil]); first | done | rfl | (simp only [List.length_drop, List.length_take]; rfl)) ?_; (with_reducible refine (lw16_works.calls k  t205 _ A4.out).mono ?_); rintro e w5 ⟨rfl, hb⟩; refine ⟨_, rfl, ?_⟩; have n0_ := Aside0.mk (below_step (by repeat (first | (with_reducible first | exact HB.out | apply below_alloc | apply pw_below_drewN | apply below_drew1) | exact HB.out)) hb); clear HB; have HB := n0_; clear n0_; (try clear hb); (try clear hb2); (try clear hk); (try clear hi); (try clear hgw)))
    go_ret
    exact ⟨by first | rfl | (simp [errW_none, errW_some] <;> rfl) | (simp [*, errW_none, errW_some] <;> rfl), by repeat (first | (with_reducible first | exact HB.out | apply below_alloc | apply pw_below_drewN | apply below_drew1) | exact HB.out)⟩
  · rw [if_neg c3] at H
    have c3b0 : decide (300 < (l1.length : Int)) = false := decide_eq_false c3
    have c3b1 : decide (300 < l1.length) = false := decide_eq_false (by omega)
    clear c3
    replace H := Option.bind_eq_some_iff.mp H
    obtain ⟨⟨t206, t207, t208⟩, A60, H⟩ := H
    replace H : (lw16_CreditBounds.l0 k l1 0 t206 t207 t208) = some r := H
    have A6 := Aside0.mk A60
    clear A60
    have H' := Aside0.mk H
    clear H
    go_enter Try.func6, Try.ntmps6
    go_wp2_with (first | ((with_reducible refine gate_callee (f := 10) rfl ?_); refine goesL_ (some 19) rfl rfl Try.func10 (by kernel_rfl) rfl #[.int .u32 a0] rfl (by (try simp only [List.map_toArray, List.map_cons, List.map_nil]); first | done | rfl | (simp only [List.length_drop, List.length_take]; rfl)) ?_; (with_reducible refine (credit_New.calls a0 t206 t207 t208 w _ ?side1 A6.out).mono ?_); (case side1 => repeat (first | (with_reducible first | exact HB.out | apply below_alloc | apply pw_below_drewN | apply below_drew1) | exact HB.out)); rintro e w7 ⟨g209, rfl, hi, hb, hb2, hgw⟩; refine ⟨_, rfl, ?_⟩; have n0_ := Aside0.mk (hb); have n1_ := Aside0.mk (hi); clear HB; have HB := n0_; have HI209 := n1_; clear n0_ n1_; (try clear hb); (try clear hb2); (try clear hk); (try clear hi); (try clear hgw)))
    go_loopg [6] k (fun kq v6 w' => ∃ (x6_1 : Int) (x210000_1 : Int) (x210001_1 : Int) (x210002_1 : Bool), v6 = .int .i64 x6_1 ∧ Aside0 (lw16_CreditBounds.l0 kq l1 x6_1 x210000_1 x210001_1 x210002_1 = some r) ∧ Aside0 (kq ≤ k) ∧ Aside0 (IsS54 w w' g209 x210000_1 x210001_1 x210002_1) ∧ Aside0 (Below w.heap.size w w'))
    case atStart => exact ⟨(0), (t206), (t207), (t208), (by first | rfl | (simp; done) | (simp [*]; done)), H', ⟨Nat.le_refl _⟩, ⟨by repeat (first | (with_reducible first | exact HI209.out | apply IsS54.alloc | apply IsS54.drewN | apply IsS54.drew | apply IsS54.set_0 | apply IsS54.set_1 | apply IsS54.set_2) | exact HI209.out)⟩, ⟨by repeat (first | (with_reducible first | exact HB.out | apply below_alloc | apply pw_below_drewN | apply below_drew1 | refine below_set ?_ (IsS54.ge HI209.out)) | exact HB.out)⟩⟩
    case round =>
      clear H'
      try clear c1
      try clear p2
      try clear c3
      try clear c3b0
      try clear c3b1
      try clear c6
      obtain ⟨x6_1, x210000_1, x210001_1, x210002_1, rfl, HA, HK1, HI209, HB⟩ := hrel
      cases gk with
      | zero => exact absurd HA.out (by simp [lw16_CreditBounds.l0])
      | succ k1 =>
        have H := HA.out
        clear HA
        simp only [lw16_CreditBounds.l0] at H
        by_cases c8 : x6_1 < (l1.length : Int)
        · rw [if_pos c8] at H
          have c8b0 : decide (x6_1 < (l1.length : Int)) = true := decide_eq_true c8
          clear c8
          replace H := Option.bind_eq_some_iff.mp H
          obtain ⟨⟨t211, t212, t213, t214, t215, t216⟩, A90, H⟩ := H
          replace H : (if 0 ≤ x6_1 then ((lw16_does.f t214 t215 t216 ((rd_T33 l1 x6_1).f0) ((rd_T33 l1 x6_1).f1) ((rd_T33 l1 x6_1).f2) ((rd_T33 l1 x6_1).f3)).bind fun bt218 => ((cr_Left.f bt218.2.2.1 bt218.2.2.2.1 bt218.2.2.2.2).bind fun bt224 => (if bt224.2.1 > 1000 then (lw16_CreditBounds.j1 k1 l1 x6_1 t211 t212 t213 bt224.1 bt224.2.1 true bt224.2.2.2.1 bt224.2.2.2.2.1 bt224.2.2.2.2.2 bt218.1 bt218.2.1) else (lw16_CreditBounds.j1 k1 l1 x6_1 t211 t212 t213 bt224.1 bt224.2.1 (decide (((bt224.1 - t211) % 4294967296) > t212)) bt224.2.2.2.1 bt224.2.2.2.2.1 bt224.2.2.2.2.2 bt218.1 bt218.2.1)))) else (none)) = some r := H
          have A9 := Aside0.mk A90
          clear A90
          by_cases c10 : 0 ≤ x6_1
          · rw [if_pos c10] at H
            have c10b0 : decide (0 ≤ x6_1) = true := decide_eq_true c10
            clear c10
            replace H := Option.bind_eq_some_iff.mp H
            obtain ⟨⟨t218, t219, t220, t221, t222⟩, A110, H⟩ := H
            replace H : ((cr_Left.f t220 t221 t222).bind fun bt224 => (if bt224.2.1 > 1000 then (lw16_CreditBounds.j1 k1 l1 x6_1 t211 t212 t213 bt224.1 bt224.2.1 true bt224.2.2.2.1 bt224.2.2.2.2.1 bt224.2.2.2.2.2 t218 t219) else (lw16_CreditBounds.j1 k1 l1 x6_1 t211 t212 t213 bt224.1 bt224.2.1 (decide (((bt224.1 - t211) % 4294967296) > t212)) bt224.2.2.2.1 bt224.2.2.2.2.1 bt224.2.2.2.2.2 t218 t219))) = some r := H
            have A11 := Aside0.mk A110
            clear A110
            replace H := Option.bind_eq_some_iff.mp H
            obtain ⟨⟨t224, t225, t226, t227, t228, t229⟩, A120, H⟩ := H
            replace H : (if t225 > 1000 then (lw16_CreditBounds.j1 k1 l1 x6_1 t211 t212 t213 t224 t225 true t227 t228 t229 t218 t219) else (lw16_CreditBounds.j1 k1 l1 x6_1 t211 t212 t213 t224 t225 (decide (((t224 - t211) % 4294967296) > t212)) t227 t228 t229 t218 t219)) = some r := H
            have A12 := Aside0.mk A120
            clear A120
            have HC13 := Aside0.mk H
            clear H
            go_upto_region 10 with (first | ((with_reducible refine gate_callee (f := 14) rfl ?_); refine goesL_ (some 28) rfl rfl Try.func14 (by kernel_rfl) rfl #[.pointer (some ⟨g209, 0, none⟩)] rfl (by (try simp only [List.map_toArray, List.map_cons, List.map_nil]); first | done | rfl | (simp only [List.length_drop, List.length_take]; rfl)) ?_; (with_reducible refine (cr_Left.calls g209 x210000_1 x210001_1 x210002_1 t211 t212 t213 t214 t215 t216 w _ ?side1 ?side2 A9.out).mono ?_); (case side1 => repeat (first | (with_reducible first | exact HI209.out | apply IsS54.alloc | apply IsS54.drewN | apply IsS54.drew | apply IsS54.set_0 | apply IsS54.set_1 | apply IsS54.set_2) | exact HI209.out)); (case side2 => repeat (first | (with_reducible first | exact HB.out | apply below_alloc | apply pw_below_drewN | apply below_drew1 | refine below_set ?_ (IsS54.ge HI209.out)) | exact HB.out)); rintro e w14 ⟨rfl, hi, hb, hk⟩; refine ⟨_, rfl, ?_⟩; have n0_ := Aside0.mk (hb); have n1_ := Aside0.mk (hi); clear HB; clear HI209; have HB := n0_; have HI209 := n1_; clear n0_ n1_; (try clear hb); (try clear hb2); (try clear hk); (try clear hi); (try clear hgw); have p217 : 0 ≤ (x6_1 : Int) := of_decide_eq_true (by first | (with_reducible assumption) | assumption); have q217 : x6_1 < (l1.length : Int) := of_decide_eq_true (by first | (with_reducible assumption) | assumption); obtain ⟨ad217, e217, hx217_0, hx217_1, hx217_2, hx217_3⟩ := at_T33 HR1.out x6_1 p217 q217; cases e217; replace hx217_0 := (HB.out.cell (World.block_lt_of_cell? w _ hx217_0)).trans hx217_0; replace hx217_1 := (HB.out.cell (World.block_lt_of_cell? w _ hx217_1)).trans hx217_1; replace hx217_2 := (HB.out.cell (World.block_lt_of_cell? w _ hx217_2)).trans hx217_2; replace hx217_3 := (HB.out.cell (World.block_lt_of_cell? w _ hx217_3)).trans hx217_3; replace p217 := eq_true p217; replace q217 := eq_true q217) | ((with_reducible refine gate_callee (f := 12) rfl ?_); refine goesL_ (some 37) rfl rfl Try.func12 (by kernel_rfl) rfl #[.pointer (some ⟨g209, 0, none⟩), .agg #[.int .i64 ((rd_T33 l1 x6_1).f0), .int .u32 ((rd_T33 l1 x6_1).f1), .int .u32 ((rd_T33 l1 x6_1).f2), .bool ((rd_T33 l1 x6_1).f3)]] rfl (by (try simp only [List.map_toArray, List.map_cons, List.map_nil]); first | done | rfl | (simp only [List.length_drop, List.length_take]; rfl)) ?_; (with_reducible refine (lw16_does.calls g209 t214 t215 t216 ((rd_T33 l1 x6_1).f0) ((rd_T33 l1 x6_1).f1) ((rd_T33 l1 x6_1).f2) ((rd_T33 l1 x6_1).f3) t218 t219 t220 t221 t222 w _ ?side1 ?side2 A11.out).mono ?_); (case side1 => repeat (first | (with_reducible first | exact HI209.out | apply IsS54.alloc | apply IsS54.drewN | apply IsS54.drew | apply IsS54.set_0 | apply IsS54.set_1 | apply IsS54.set_2) | exact HI209.out)); (case side2 => repeat (first | (with_reducible first | exact HB.out | apply below_alloc | apply pw_below_drewN | apply below_drew1 | refine below_set ?_ (IsS54.ge HI209.out)) | exact HB.out)); rintro e w15 ⟨rfl, hi, hb, hk⟩; refine ⟨_, rfl, ?_⟩; have n0_ := Aside0.mk (hb); have n1_ := Aside0.mk (hi); clear HB; clear HI209; have HB := n0_; have HI209 := n1_; clear n0_ n1_; (try clear hb); (try clear hb2); (try clear hk); (try clear hi); (try clear hgw)) | ((with_reducible refine gate_dst (N := 10) rfl ?_); refine box_event ?hg (N := 10) ?hd (cs := #[.int .u32 0, .bool false]) (t := 30) ?hr ?_; (case hd => rfl); (case hg => rfl); (case hr => first | (go_simp; done) | (go_simp; rfl)); intro gb223 hg w16 hbox hb; have n0_ := Aside0.mk (IsS54.below (by repeat (first | (with_reducible first | exact HI209.out | apply IsS54.alloc | apply IsS54.drewN | apply IsS54.drew | apply IsS54.set_0 | apply IsS54.set_1 | apply IsS54.set_2) | exact HI209.out)) hb); have n1_ := Aside0.mk (below_step (by repeat (first | (with_reducible first | exact HB.out | apply below_alloc | apply pw_below_drewN | apply below_drew1 | refine below_set ?_ (IsS54.ge HI209.out)) | exact HB.out)) hb); have n2_ := Aside0.mk (hbox); have n3_ := Aside0.mk ((by rw [hg]; exact (below_size (by repeat (first | (with_reducible first | exact HB.out | apply below_alloc | apply pw_below_drewN | apply below_drew1 | refine below_set ?_ (IsS54.ge HI209.out)) | exact HB.out))) : w.heap.size ≤ gb223)); have n4_ := Aside0.mk ((by rw [hg]; exact (below_size (by repeat (first | (with_reducible first | exact HB.out | apply below_alloc | apply pw_below_drewN | apply below_drew1 | refine below_set ?_ (IsS54.ge HI209.out)) | exact HB.out))) : w.heap.size ≤ gb223)); have n5_ := Aside0.mk ((by rw [hg]; exact Nat.ne_of_lt (IsS54.lt (show IsS54 w _ g209 t220 t221 t222 from by repeat (first | (with_reducible first | exact HI209.out | apply IsS54.alloc | apply IsS54.drewN | apply IsS54.drew | apply IsS54.set_0 | apply IsS54.set_1 | apply IsS54.set_2) | exact HI209.out))) : g209 ≠ gb223)); have n6_ := Aside0.mk ((by rw [hg]; exact Nat.ne_of_gt (IsS54.lt (show IsS54 w _ g209 t220 t221 t222 from by repeat (first | (with_reducible first | exact HI209.out | apply IsS54.alloc | apply IsS54.drewN | apply IsS54.drew | apply IsS54.set_0 | apply IsS54.set_1 | apply IsS54.set_2) | exact HI209.out))) : gb223 ≠ g209)); clear HI209; clear HB; have HI209 := n0_; have HB := n1_; have BK223 := n2_; have GW223 := n3_; have GE223 := n4_; have NB209_223 := n5_; have NB223_209 := n6_; clear n0_ n1_ n2_ n3_ n4_ n5_ n6_; clear hb hbox hg; have hnb17 := NB223_209.out; have hnc17 := NB209_223.out; have hcz18_0 : w16.cell? ⟨gb223, 0, none⟩ = some (.int .u32 0) := (blk_cell BK223.out 0).trans rfl; have hcz18_1 : w16.cell? ⟨gb223, 1, none⟩ = some (.bool false) := (blk_cell BK223.out 1).trans rfl; have hfz18_0 := blk_frozen BK223.out 0; have hfz18_1 := blk_frozen BK223.out 1) | ((with_reducible refine gate_callee (f := 14) rfl ?_); refine goesL_ (some 40) rfl rfl Try.func14 (by kernel_rfl) rfl #[.pointer (some ⟨g209, 0, none⟩)] rfl (by (try simp only [List.map_toArray, List.map_cons, List.map_nil]); first | done | rfl | (simp only [List.length_drop, List.length_take]; rfl)) ?_; (with_reducible refine (cr_Left.calls g209 t220 t221 t222 t224 t225 t226 t227 t228 t229 w _ ?side1 ?side2 A12.out).mono ?_); (case side1 => repeat (first | (with_reducible first | exact HI209.out | apply IsS54.alloc | apply IsS54.drewN | apply IsS54.drew | apply IsS54.set_0 | apply IsS54.set_1 | apply IsS54.set_2 | refine IsS54.far ?_ NB209_223.out _) | exact HI209.out)); (case side2 => repeat (first | (with_reducible first | exact HB.out | apply below_alloc | apply pw_below_drewN | apply below_drew1 | refine below_set ?_ (IsS54.ge HI209.out) | refine below_set ?_ GE223.out) | exact HB.out)); rintro e w19 ⟨rfl, hi, hb, hk⟩; refine ⟨_, rfl, ?_⟩; have n0_ := Aside0.mk (KeepBut.blk hk (g' := gb223) (o := .cells #[.int .u32 t218, .bool t219] 30 (0, 0)) (by (with_reducible repeat (first | refine blk_drewN ?_ _ | refine blk_drew ?_ | refine blk_alloc ?_ _)); refine blk_put (cs := #[.int .u32 t218, .bool false]) ?_ 1 _ rfl; (with_reducible repeat (first | refine blk_drewN ?_ _ | refine blk_drew ?_ | refine blk_alloc ?_ _)); refine blk_put (cs := #[.int .u32 0, .bool false]) ?_ 0 _ rfl; (with_reducible repeat (first | refine blk_drewN ?_ _ | refine blk_drew ?_ | refine blk_alloc ?_ _)); exact BK223.out) NB223_209.out (by simp)); have n1_ := Aside0.mk (hb); have n2_ := Aside0.mk (hi); clear BK223; clear HB; clear HI209; have BK223 := n0_; have HB := n1_; have HI209 := n2_; clear n0_ n1_ n2_; (try clear hb); (try clear hb2); (try clear hk); (try clear hi); (try clear hgw)))
            (try simp only [Act.put, List.setIfInBounds_toArray, List.set_cons_zero, List.set_cons_succ])
            go_cut [52] (fun v52 wc => ∃ (kq : Nat) (x52_12 : Bool), v52 = .bool x52_12 ∧ Aside0 (lw16_CreditBounds.j1 kq l1 x6_1 t211 t212 t213 t224 t225 x52_12 t227 t228 t229 t218 t219 = some r) ∧ Aside0 (kq ≤ k1) ∧ Aside0 (wc.heap[gb223]? = some (.cells #[.int .u32 t218, .bool t219] 30 (0, 0))) ∧ Aside0 (IsS54 w wc g209 t227 t228 t229) ∧ Aside0 (Below w.heap.size w wc))
            case first =>
              have H := HC13.out
              clear HC13
              by_cases c20 : t225 > 1000
              · rw [if_pos c20] at H
                have c20b0 : decide (1000 < t225) = true := decide_eq_true c20
                clear c20
                (first | rw [c20b0] | (simp only [i64_w, i32_w]; rw [c20b0]) | skip)
                have H' := Aside0.mk H
                clear H
                go_wp2
                go_meet
                case rel => exact ⟨_, (true), (by first | rfl | (simp; done) | (simp [*]; done)), H', ⟨by have := HK1.out; first | omega | exact Nat.le_refl _⟩, ⟨by (with_reducible repeat (first | refine blk_drewN ?_ _ | refine blk_drew ?_ | refine blk_alloc ?_ _)); exact BK223.out⟩, ⟨by repeat (first | (with_reducible first | exact HI209.out | apply IsS54.alloc | apply IsS54.drewN | apply IsS54.drew | apply IsS54.set_0 | apply IsS54.set_1 | apply IsS54.set_2 | refine IsS54.far ?_ NB209_223.out _) | exact HI209.out)⟩, ⟨by repeat (first | (with_reducible first | exact HB.out | apply below_alloc | apply pw_below_drewN | apply below_drew1 | refine below_set ?_ (IsS54.ge HI209.out) | refine below_set ?_ GE223.out) | exact HB.out)⟩⟩
              · rw [if_neg c20] at H
                have c20b0 : decide (1000 < t225) = false := decide_eq_false c20
                clear c20
                (first | rw [c20b0] | (simp only [i64_w, i32_w]; rw [c20b0]) | skip)
                have H' := Aside0.mk H
                clear H
                go_wp2
                go_meet
                case rel => exact ⟨_, (decide (((t224 - t211) % 4294967296) > t212)), (by first | rfl | (simp; done) | (simp [*]; done)), H', ⟨by have := HK1.out; first | omega | exact Nat.le_refl _⟩, ⟨by (with_reducible repeat (first | refine blk_drewN ?_ _ | refine blk_drew ?_ | refine blk_alloc ?_ _)); exact BK223.out⟩, ⟨by repeat (first | (with_reducible first | exact HI209.out | apply IsS54.alloc | apply IsS54.drewN | apply IsS54.drew | apply IsS54.set_0 | apply IsS54.set_1 | apply IsS54.set_2 | refine IsS54.far ?_ NB209_223.out _) | exact HI209.out)⟩, ⟨by repeat (first | (with_reducible first | exact HB.out | apply below_alloc | apply pw_below_drewN | apply below_drew1 | refine below_set ?_ (IsS54.ge HI209.out) | refine below_set ?_ GE223.out) | exact HB.out)⟩⟩
            case rest =>
              clear HC13
              try clear c1
              try clear c2
              try clear p2
              try clear q2
              try clear hx2
              try clear c3
              try clear c3b0
              try clear c3b1
              try clear c6
              try clear c8
              try clear c8b0
              try clear c9
              try clear c10
              try clear c10b0
              try clear c12
              try clear c14
              try clear c17
              try clear c20
              try clear c20b0
              try clear hcz18_0
              try clear hcz18_1
              try clear hfz18_0
              try clear hfz18_1
              try clear hx217_0
              try clear hx217_1
              try clear hx217_2
              try clear hx217_3
              try clear p2
              try clear p217
              try clear q217
              obtain ⟨kq, x52_12, rfl, HA, HJ12, BK223, HI209, HB⟩ := hcut
              cases kq with
              | zero => exact absurd HA.out (by simp [lw16_CreditBounds.j1])
              | succ kj12 =>
                have H := HA.out
                clear HA
                simp only [lw16_CreditBounds.j1] at H
                by_cases c21 : x52_12 = true
                · subst c21
                  have H1 : (some false) = some r := by rw [if_pos rfl] at H; exact H
                  clear H
                  have H := H1
                  clear H1
                  obtain rfl := Option.some.inj H
                  go_wp2
                  go_ret
                  exact ⟨by first | rfl | (simp [errW_none, errW_some] <;> rfl) | (simp [*, errW_none, errW_some] <;> rfl), by repeat (first | (with_reducible first | exact HB.out | apply below_alloc | apply pw_below_drewN | apply below_drew1 | refine below_set ?_ (IsS54.ge HI209.out) | refine below_set ?_ GE223.out) | exact HB.out)⟩
                · replace c21 := Bool.eq_false_iff.mpr c21
                  subst c21
                  have H1 : (if 0 ≤ x6_1 then (if x6_1 < (l1.length : Int) then (if ((rd_T33 l1 x6_1).f0) = 3 then (if (t219 != (decide (t212 > 0))) = true then (some false) else (if t219 = true then (if t224 = ((t211 + 1) % 4294967296) then (if t225 = ((t212 - 1) % 4294967296) then (lw16_CreditBounds.l0 kj12 l1 (wrap64 (x6_1 + 1)) t227 t228 t229) else (some false)) else (some false)) else (if t224 = t211 then (if t225 = t212 then (lw16_CreditBounds.l0 kj12 l1 (wrap64 (x6_1 + 1)) t227 t228 t229) else (some false)) else (some false)))) else (if ((rd_T33 l1 x6_1).f0) = 4 then (if (t219 != t213) = true then (some false) else (if t219 = true then (if t218 = t212 then (if t224 = ((t211 + t212) % 4294967296) then (if t225 = 0 then (lw16_CreditBounds.l0 kj12 l1 (wrap64 (x6_1 + 1)) t227 t228 t229) else (some false)) else (some false)) else (some false)) else (if t224 = t211 then (lw16_CreditBounds.l0 kj12 l1 (wrap64 (x6_1 + 1)) t227 t228 t229) else (some false)))) else (if ((rd_T33 l1 x6_1).f0) = 0 then (lw16_CreditBounds.j2 kj12 l1 x6_1 t211 t212 t224 t225 ((rd_T33 l1 x6_1).f0) (((rd_T33 l1 x6_1).f0) == 0) t227 t228 t229) else (lw16_CreditBounds.j2 kj12 l1 x6_1 t211 t212 t224 t225 ((rd_T33 l1 x6_1).f0) (((rd_T33 l1 x6_1).f0) == 2) t227 t228 t229)))) else (none)) else (none)) = some r := by rw [if_neg (show ¬ (false = true) by decide)] at H; exact H
                  clear H
                  have H := H1
                  clear H1
                  by_cases c22 : 0 ≤ x6_1
                  · rw [if_pos c22] at H
                    have c22b0 : decide (0 ≤ x6_1) = true := decide_eq_true c22
                    clear c22
                    by_cases c23 : x6_1 < (l1.length : Int)
                    · rw [if_pos c23] at H
                      have c23b0 : decide (x6_1 < (l1.length : Int)) = true := decide_eq_true c23
                      clear c23
                      by_cases c24 : ((rd_T33 l1 x6_1).f0) = 3
                      · rw [if_pos c24] at H
                        have c24b0 : (((rd_T33 l1 x6_1).f0) == 3) = true := beq_iff_eq.mpr c24
                        have c24b1 : (((rd_T33 l1 x6_1).f0) != 3) = false := bne_eq_false_iff_eq.mpr c24
                        clear c24
                        by_cases c25 : (t219 != (decide (t212 > 0))) = true
                        · rw [if_pos c25] at H
                          have c25b0 : (t219 != (decide (t212 > 0))) = true := c25
                          (try (have c25b1 : decide (t219 = (decide (t212 > 0))) = false := by simpa using c25))
                          (try (have c25b2 : (t219 == (decide (t212 > 0))) = false := by simpa using c25))
                          (try (have c25b3 : ¬ (t219 = (decide (t212 > 0))) := by simpa using c25))
                          clear c25
                          obtain rfl := Option.some.inj H
                          have p230 : 0 ≤ (x6_1 : Int) := of_decide_eq_true (by first | (with_reducible assumption) | assumption)
                          have q230 : x6_1 < (l1.length : Int) := of_decide_eq_true (by first | (with_reducible assumption) | assumption)
                          obtain ⟨ad230, e230, hx230_0, hx230_1, hx230_2, hx230_3⟩ := at_T33 HR1.out x6_1 p230 q230
                          obtain rfl : ad217 = ad230 := (by injection e230)
                          replace hx230_0 := (HB.out.cell (World.block_lt_of_cell? w _ hx230_0)).trans hx230_0
                          replace hx230_1 := (HB.out.cell (World.block_lt_of_cell? w _ hx230_1)).trans hx230_1
                          replace hx230_2 := (HB.out.cell (World.block_lt_of_cell? w _ hx230_2)).trans hx230_2
                          replace hx230_3 := (HB.out.cell (World.block_lt_of_cell? w _ hx230_3)).trans hx230_3
                          replace p230 := eq_true p230
                          replace q230 := eq_true q230
                          have hnb26 := NB223_209.out
                          have hnc26 := NB209_223.out
                          have hcz27_0 : wc.cell? ⟨gb223, 0, none⟩ = some (.int .u32 t218) := (blk_cell BK223.out 0).trans rfl
                          have hcz27_1 : wc.cell? ⟨gb223, 1, none⟩ = some (.bool t219) := (blk_cell BK223.out 1).trans rfl
                          have hfz27_0 := blk_frozen BK223.out 0
                          have hfz27_1 := blk_frozen BK223.out 1
                          go_wp2
                          go_ret
                          exact ⟨by first | rfl | (simp [errW_none, errW_some] <;> rfl) | (simp [*, errW_none, errW_some] <;> rfl), by repeat (first | (with_reducible first | exact HB.out | apply below_alloc | apply pw_below_drewN | apply below_drew1 | refine below_set ?_ (IsS54.ge HI209.out) | refine below_set ?_ GE223.out) | exact HB.out)⟩
                        · rw [if_neg c25] at H
                          have c25b0 : (t219 != (decide (t212 > 0))) = false := by simpa using c25
                          (try (have c25b1 : decide (t219 = (decide (t212 > 0))) = true := by simpa using c25))
                          (try (have c25b2 : (t219 == (decide (t212 > 0))) = true := by simpa using c25))
                          clear c25
                          by_cases c28 : t219 = true
                          · subst c28
                            have H1 : (if t224 = ((t211 + 1) % 4294967296) then (if t225 = ((t212 - 1) % 4294967296) then (lw16_CreditBounds.l0 kj12 l1 (wrap64 (x6_1 + 1)) t227 t228 t229) else (some false)) else (some false)) = some r := by rw [if_pos rfl] at H; exact H
                            clear H
                            have H := H1
                            clear H1
                            by_cases c29 : t224 = ((t211 + 1) % 4294967296)
                            · rw [if_pos c29] at H
                              have c29b0 : (t224 == ((t211 + 1) % 4294967296)) = true := beq_iff_eq.mpr c29
                              have c29b1 : (t224 != ((t211 + 1) % 4294967296)) = false := bne_eq_false_iff_eq.mpr c29
                              clear c29
                              by_cases c30 : t225 = ((t212 - 1) % 4294967296)
                              · rw [if_pos c30] at H
                                have c30b0 : (t225 == ((t212 - 1) % 4294967296)) = true := beq_iff_eq.mpr c30
                                have c30b1 : (t225 != ((t212 - 1) % 4294967296)) = false := bne_eq_false_iff_eq.mpr c30
                                clear c30
                                have H' := Aside0.mk H
                                clear H
                                have p230 : 0 ≤ (x6_1 : Int) := of_decide_eq_true (by first | (with_reducible assumption) | assumption)
                                have q230 : x6_1 < (l1.length : Int) := of_decide_eq_true (by first | (with_reducible assumption) | assumption)
                                obtain ⟨ad230, e230, hx230_0, hx230_1, hx230_2, hx230_3⟩ := at_T33 HR1.out x6_1 p230 q230
                                obtain rfl : ad217 = ad230 := (by injection e230)
                                replace hx230_0 := (HB.out.cell (World.block_lt_of_cell? w _ hx230_0)).trans hx230_0
                                replace hx230_1 := (HB.out.cell (World.block_lt_of_cell? w _ hx230_1)).trans hx230_1
                                replace hx230_2 := (HB.out.cell (World.block_lt_of_cell? w _ hx230_2)).trans hx230_2
                                replace hx230_3 := (HB.out.cell (World.block_lt_of_cell? w _ hx230_3)).trans hx230_3
                                replace p230 := eq_true p230
                                replace q230 := eq_true q230
                                have hnb31 := NB223_209.out
                                have hnc31 := NB209_223.out
                                have hcz32_0 : wc.cell? ⟨gb223, 0, none⟩ = some (.int .u32 t218) := (blk_cell BK223.out 0).trans rfl
                                have hcz32_1 : wc.cell? ⟨gb223, 1, none⟩ = some (.bool true) := (blk_cell BK223.out 1).trans rfl
                                have hfz32_0 := blk_frozen BK223.out 0
                                have hfz32_1 := blk_frozen BK223.out 1
                                go_wp2
                                go_roundg kj12
                                case measure => have := HK1.out; have := HJ12.out; omega
                                case rel => exact ⟨(wrap64 (x6_1 + 1)), (t227), (t228), (t229), (by first | rfl | (simp; done) | (simp [*]; done)), H', ⟨by have := HK1.out; have := HJ12.out; omega⟩, ⟨by repeat (first | (with_reducible first | exact HI209.out | apply IsS54.alloc | apply IsS54.drewN | apply IsS54.drew | apply IsS54.set_0 | apply IsS54.set_1 | apply IsS54.set_2 | refine IsS54.far ?_ NB209_223.out _) | exact HI209.out)⟩, ⟨by repeat (first | (with_reducible first | exact HB.out | apply below_alloc | apply pw_below_drewN | apply below_drew1 | refine below_set ?_ (IsS54.ge HI209.out) | refine below_set ?_ GE223.out) | exact HB.out)⟩⟩
                              · rw [if_neg c30] at H
                                have c30b0 : (t225 == ((t212 - 1) % 4294967296)) = false := beq_eq_false_iff_ne.mpr c30
                                have c30b1 : (t225 != ((t212 - 1) % 4294967296)) = true := bne_iff_ne.mpr c30
                                obtain rfl := Option.some.inj H
                                have p230 : 0 ≤ (x6_1 : Int) := of_decide_eq_true (by first | (with_reducible assumption) | assumption)
                                have q230 : x6_1 < (l1.length : Int) := of_decide_eq_true (by first | (with_reducible assumption) | assumption)
                                obtain ⟨ad230, e230, hx230_0, hx230_1, hx230_2, hx230_3⟩ := at_T33 HR1.out x6_1 p230 q230
                                obtain rfl : ad217 = ad230 := (by injection e230)
                                replace hx230_0 := (HB.out.cell (World.block_lt_of_cell? w _ hx230_0)).trans hx230_0
                                replace hx230_1 := (HB.out.cell (World.block_lt_of_cell? w _ hx230_1)).trans hx230_1
                                replace hx230_2 := (HB.out.cell (World.block_lt_of_cell? w _ hx230_2)).trans hx230_2
                                replace hx230_3 := (HB.out.cell (World.block_lt_of_cell? w _ hx230_3)).trans hx230_3
                                replace p230 := eq_true p230
                                replace q230 := eq_true q230
                                have hnb33 := NB223_209.out
                                have hnc33 := NB209_223.out
                                have hcz34_0 : wc.cell? ⟨gb223, 0, none⟩ = some (.int .u32 t218) := (blk_cell BK223.out 0).trans rfl
                                have hcz34_1 : wc.cell? ⟨gb223, 1, none⟩ = some (.bool true) := (blk_cell BK223.out 1).trans rfl
                                have hfz34_0 := blk_frozen BK223.out 0
                                have hfz34_1 := blk_frozen BK223.out 1
                                go_wp2
                                go_ret
                                exact ⟨by first | rfl | (simp [errW_none, errW_some] <;> rfl) | (simp [*, errW_none, errW_some] <;> rfl), by repeat (first | (with_reducible first | exact HB.out | apply below_alloc | apply pw_below_drewN | apply below_drew1 | refine below_set ?_ (IsS54.ge HI209.out) | refine below_set ?_ GE223.out) | exact HB.out)⟩
                            · rw [if_neg c29] at H
                              have c29b0 : (t224 == ((t211 + 1) % 4294967296)) = false := beq_eq_false_iff_ne.mpr c29
                              have c29b1 : (t224 != ((t211 + 1) % 4294967296)) = true := bne_iff_ne.mpr c29
                              obtain rfl := Option.some.inj H
                              have p230 : 0 ≤ (x6_1 : Int) := of_decide_eq_true (by first | (with_reducible assumption) | assumption)
                              have q230 : x6_1 < (l1.length : Int) := of_decide_eq_true (by first | (with_reducible assumption) | assumption)
                              obtain ⟨ad230, e230, hx230_0, hx230_1, hx230_2, hx230_3⟩ := at_T33 HR1.out x6_1 p230 q230
                              obtain rfl : ad217 = ad230 := (by injection e230)
                              replace hx230_0 := (HB.out.cell (World.block_lt_of_cell? w _ hx230_0)).trans hx230_0
                              replace hx230_1 := (HB.out.cell (World.block_lt_of_cell? w _ hx230_1)).trans hx230_1
                              replace hx230_2 := (HB.out.cell (World.block_lt_of_cell? w _ hx230_2)).trans hx230_2
                              replace hx230_3 := (HB.out.cell (World.block_lt_of_cell? w _ hx230_3)).trans hx230_3
                              replace p230 := eq_true p230
                              replace q230 := eq_true q230
                              have hnb35 := NB223_209.out
                              have hnc35 := NB209_223.out
                              have hcz36_0 : wc.cell? ⟨gb223, 0, none⟩ = some (.int .u32 t218) := (blk_cell BK223.out 0).trans rfl
                              have hcz36_1 : wc.cell? ⟨gb223, 1, none⟩ = some (.bool true) := (blk_cell BK223.out 1).trans rfl
                              have hfz36_0 := blk_frozen BK223.out 0
                              have hfz36_1 := blk_frozen BK223.out 1
                              go_wp2
                              go_ret
                              exact ⟨by first | rfl | (simp [errW_none, errW_some] <;> rfl) | (simp [*, errW_none, errW_some] <;> rfl), by repeat (first | (with_reducible first | exact HB.out | apply below_alloc | apply pw_below_drewN | apply below_drew1 | refine below_set ?_ (IsS54.ge HI209.out) | refine below_set ?_ GE223.out) | exact HB.out)⟩
                          · replace c28 := Bool.eq_false_iff.mpr c28
                            subst c28
                            have H1 : (if t224 = t211 then (if t225 = t212 then (lw16_CreditBounds.l0 kj12 l1 (wrap64 (x6_1 + 1)) t227 t228 t229) else (some false)) else (some false)) = some r := by rw [if_neg (show ¬ (false = true) by decide)] at H; exact H
                            clear H
                            have H := H1
                            clear H1
                            by_cases c37 : t224 = t211
                            · rw [if_pos c37] at H
                              have c37b0 : (t224 == t211) = true := beq_iff_eq.mpr c37
                              have c37b1 : (t224 != t211) = false := bne_eq_false_iff_eq.mpr c37
                              clear c37
                              by_cases c38 : t225 = t212
                              · rw [if_pos c38] at H
                                have c38b0 : (t225 == t212) = true := beq_iff_eq.mpr c38
                                have c38b1 : (t225 != t212) = false := bne_eq_false_iff_eq.mpr c38
                                clear c38
                                have H' := Aside0.mk H
                                clear H
                                have p230 : 0 ≤ (x6_1 : Int) := of_decide_eq_true (by first | (with_reducible assumption) | assumption)
                                have q230 : x6_1 < (l1.length : Int) := of_decide_eq_true (by first | (with_reducible assumption) | assumption)
                                obtain ⟨ad230, e230, hx230_0, hx230_1, hx230_2, hx230_3⟩ := at_T33 HR1.out x6_1 p230 q230
                                obtain rfl : ad217 = ad230 := (by injection e230)
                                replace hx230_0 := (HB.out.cell (World.block_lt_of_cell? w _ hx230_0)).trans hx230_0
                                replace hx230_1 := (HB.out.cell (World.block_lt_of_cell? w _ hx230_1)).trans hx230_1
                                replace hx230_2 := (HB.out.cell (World.block_lt_of_cell? w _ hx230_2)).trans hx230_2
                                replace hx230_3 := (HB.out.cell (World.block_lt_of_cell? w _ hx230_3)).trans hx230_3
                                replace p230 := eq_true p230
                                replace q230 := eq_true q230
                                have hnb39 := NB223_209.out
                                have hnc39 := NB209_223.out
                                have hcz40_0 : wc.cell? ⟨gb223, 0, none⟩ = some (.int .u32 t218) := (blk_cell BK223.out 0).trans rfl
                                have hcz40_1 : wc.cell? ⟨gb223, 1, none⟩ = some (.bool false) := (blk_cell BK223.out 1).trans rfl
                                have hfz40_0 := blk_frozen BK223.out 0
                                have hfz40_1 := blk_frozen BK223.out 1
                                go_wp2
                                go_roundg kj12
                                case measure => have := HK1.out; have := HJ12.out; omega
                                case rel => exact ⟨(wrap64 (x6_1 + 1)), (t227), (t228), (t229), (by first | rfl | (simp; done) | (simp [*]; done)), H', ⟨by have := HK1.out; have := HJ12.out; omega⟩, ⟨by repeat (first | (with_reducible first | exact HI209.out | apply IsS54.alloc | apply IsS54.drewN | apply IsS54.drew | apply IsS54.set_0 | apply IsS54.set_1 | apply IsS54.set_2 | refine IsS54.far ?_ NB209_223.out _) | exact HI209.out)⟩, ⟨by repeat (first | (with_reducible first | exact HB.out | apply below_alloc | apply pw_below_drewN | apply below_drew1 | refine below_set ?_ (IsS54.ge HI209.out) | refine below_set ?_ GE223.out) | exact HB.out)⟩⟩
                              · rw [if_neg c38] at H
                                have c38b0 : (t225 == t212) = false := beq_eq_false_iff_ne.mpr c38
                                have c38b1 : (t225 != t212) = true := bne_iff_ne.mpr c38
                                obtain rfl := Option.some.inj H
                                have p230 : 0 ≤ (x6_1 : Int) := of_decide_eq_true (by first | (with_reducible assumption) | assumption)
                                have q230 : x6_1 < (l1.length : Int) := of_decide_eq_true (by first | (with_reducible assumption) | assumption)
                                obtain ⟨ad230, e230, hx230_0, hx230_1, hx230_2, hx230_3⟩ := at_T33 HR1.out x6_1 p230 q230
                                obtain rfl : ad217 = ad230 := (by injection e230)
                                replace hx230_0 := (HB.out.cell (World.block_lt_of_cell? w _ hx230_0)).trans hx230_0
                                replace hx230_1 := (HB.out.cell (World.block_lt_of_cell? w _ hx230_1)).trans hx230_1
                                replace hx230_2 := (HB.out.cell (World.block_lt_of_cell? w _ hx230_2)).trans hx230_2
                                replace hx230_3 := (HB.out.cell (World.block_lt_of_cell? w _ hx230_3)).trans hx230_3
                                replace p230 := eq_true p230
                                replace q230 := eq_true q230
                                have hnb41 := NB223_209.out
                                have hnc41 := NB209_223.out
                                have hcz42_0 : wc.cell? ⟨gb223, 0, none⟩ = some (.int .u32 t218) := (blk_cell BK223.out 0).trans rfl
                                have hcz42_1 : wc.cell? ⟨gb223, 1, none⟩ = some (.bool false) := (blk_cell BK223.out 1).trans rfl
                                have hfz42_0 := blk_frozen BK223.out 0
                                have hfz42_1 := blk_frozen BK223.out 1
                                go_wp2
                                go_ret
                                exact ⟨by first | rfl | (simp [errW_none, errW_some] <;> rfl) | (simp [*, errW_none, errW_some] <;> rfl), by repeat (first | (with_reducible first | exact HB.out | apply below_alloc | apply pw_below_drewN | apply below_drew1 | refine below_set ?_ (IsS54.ge HI209.out) | refine below_set ?_ GE223.out) | exact HB.out)⟩
                            · rw [if_neg c37] at H
                              have c37b0 : (t224 == t211) = false := beq_eq_false_iff_ne.mpr c37
                              have c37b1 : (t224 != t211) = true := bne_iff_ne.mpr c37
                              obtain rfl := Option.some.inj H
                              have p230 : 0 ≤ (x6_1 : Int) := of_decide_eq_true (by first | (with_reducible assumption) | assumption)
                              have q230 : x6_1 < (l1.length : Int) := of_decide_eq_true (by first | (with_reducible assumption) | assumption)
                              obtain ⟨ad230, e230, hx230_0, hx230_1, hx230_2, hx230_3⟩ := at_T33 HR1.out x6_1 p230 q230
                              obtain rfl : ad217 = ad230 := (by injection e230)
                              replace hx230_0 := (HB.out.cell (World.block_lt_of_cell? w _ hx230_0)).trans hx230_0
                              replace hx230_1 := (HB.out.cell (World.block_lt_of_cell? w _ hx230_1)).trans hx230_1
                              replace hx230_2 := (HB.out.cell (World.block_lt_of_cell? w _ hx230_2)).trans hx230_2
                              replace hx230_3 := (HB.out.cell (World.block_lt_of_cell? w _ hx230_3)).trans hx230_3
                              replace p230 := eq_true p230
                              replace q230 := eq_true q230
                              have hnb43 := NB223_209.out
                              have hnc43 := NB209_223.out
                              have hcz44_0 : wc.cell? ⟨gb223, 0, none⟩ = some (.int .u32 t218) := (blk_cell BK223.out 0).trans rfl
                              have hcz44_1 : wc.cell? ⟨gb223, 1, none⟩ = some (.bool false) := (blk_cell BK223.out 1).trans rfl
                              have hfz44_0 := blk_frozen BK223.out 0
                              have hfz44_1 := blk_frozen BK223.out 1
                              go_wp2
                              go_ret
                              exact ⟨by first | rfl | (simp [errW_none, errW_some] <;> rfl) | (simp [*, errW_none, errW_some] <;> rfl), by repeat (first | (with_reducible first | exact HB.out | apply below_alloc | apply pw_below_drewN | apply below_drew1 | refine below_set ?_ (IsS54.ge HI209.out) | refine below_set ?_ GE223.out) | exact HB.out)⟩
                      · rw [if_neg c24] at H
                        have c24b0 : (((rd_T33 l1 x6_1).f0) == 3) = false := beq_eq_false_iff_ne.mpr c24
                        have c24b1 : (((rd_T33 l1 x6_1).f0) != 3) = true := bne_iff_ne.mpr c24
                        by_cases c45 : ((rd_T33 l1 x6_1).f0) = 4
                        · rw [if_pos c45] at H
                          have c45b0 : (((rd_T33 l1 x6_1).f0) == 4) = true := beq_iff_eq.mpr c45
                          have c45b1 : (((rd_T33 l1 x6_1).f0) != 4) = false := bne_eq_false_iff_eq.mpr c45
                          clear c45
                          by_cases c46 : (t219 != t213) = true
                          · rw [if_pos c46] at H
                            have c46b0 : (t219 != t213) = true := c46
                            (try (have c46b1 : decide (t219 = t213) = false := by simpa using c46))
                            (try (have c46b2 : (t219 == t213) = false := by simpa using c46))
                            (try (have c46b3 : ¬ (t219 = t213) := by simpa using c46))
                            clear c46
                            obtain rfl := Option.some.inj H
                            have p230 : 0 ≤ (x6_1 : Int) := of_decide_eq_true (by first | (with_reducible assumption) | assumption)
                            have q230 : x6_1 < (l1.length : Int) := of_decide_eq_true (by first | (with_reducible assumption) | assumption)
                            obtain ⟨ad230, e230, hx230_0, hx230_1, hx230_2, hx230_3⟩ := at_T33 HR1.out x6_1 p230 q230
                            obtain rfl : ad217 = ad230 := (by injection e230)
                            replace hx230_0 := (HB.out.cell (World.block_lt_of_cell? w _ hx230_0)).trans hx230_0
                            replace hx230_1 := (HB.out.cell (World.block_lt_of_cell? w _ hx230_1)).trans hx230_1
                            replace hx230_2 := (HB.out.cell (World.block_lt_of_cell? w _ hx230_2)).trans hx230_2
                            replace hx230_3 := (HB.out.cell (World.block_lt_of_cell? w _ hx230_3)).trans hx230_3
                            replace p230 := eq_true p230
                            replace q230 := eq_true q230
                            have hnb47 := NB223_209.out
                            have hnc47 := NB209_223.out
                            have hcz48_0 : wc.cell? ⟨gb223, 0, none⟩ = some (.int .u32 t218) := (blk_cell BK223.out 0).trans rfl
                            have hcz48_1 : wc.cell? ⟨gb223, 1, none⟩ = some (.bool t219) := (blk_cell BK223.out 1).trans rfl
                            have hfz48_0 := blk_frozen BK223.out 0
                            have hfz48_1 := blk_frozen BK223.out 1
                            go_wp2
                            go_ret
                            exact ⟨by first | rfl | (simp [errW_none, errW_some] <;> rfl) | (simp [*, errW_none, errW_some] <;> rfl), by repeat (first | (with_reducible first | exact HB.out | apply below_alloc | apply pw_below_drewN | apply below_drew1 | refine below_set ?_ (IsS54.ge HI209.out) | refine below_set ?_ GE223.out) | exact HB.out)⟩
                          · rw [if_neg c46] at H
                            have c46b0 : (t219 != t213) = false := by simpa using c46
                            (try (have c46b1 : decide (t219 = t213) = true := by simpa using c46))
                            (try (have c46b2 : (t219 == t213) = true := by simpa using c46))
                            clear c46
                            by_cases c49 : t219 = true
                            · subst c49
                              have H1 : (if t218 = t212 then (if t224 = ((t211 + t212) % 4294967296) then (if t225 = 0 then (lw16_CreditBounds.l0 kj12 l1 (wrap64 (x6_1 + 1)) t227 t228 t229) else (some false)) else (some false)) else (some false)) = some r := by rw [if_pos rfl] at H; exact H
                              clear H
                              have H := H1
                              clear H1
                              by_cases c50 : t218 = t212
                              · rw [if_pos c50] at H
                                have c50b0 : (t218 == t212) = true := beq_iff_eq.mpr c50
                                have c50b1 : (t218 != t212) = false := bne_eq_false_iff_eq.mpr c50
                                clear c50
                                by_cases c51 : t224 = ((t211 + t212) % 4294967296)
                                · rw [if_pos c51] at H
                                  have c51b0 : (t224 == ((t211 + t212) % 4294967296)) = true := beq_iff_eq.mpr c51
                                  have c51b1 : (t224 != ((t211 + t212) % 4294967296)) = false := bne_eq_false_iff_eq.mpr c51
                                  clear c51
                                  by_cases c52 : t225 = 0
                                  · rw [if_pos c52] at H
                                    have c52b0 : (t225 == 0) = true := beq_iff_eq.mpr c52
                                    have c52b1 : (t225 != 0) = false := bne_eq_false_iff_eq.mpr c52
                                    clear c52
                                    have H' := Aside0.mk H
                                    clear H
                                    have p230 : 0 ≤ (x6_1 : Int) := of_decide_eq_true (by first | (with_reducible assumption) | assumption)
                                    have q230 : x6_1 < (l1.length : Int) := of_decide_eq_true (by first | (with_reducible assumption) | assumption)
                                    obtain ⟨ad230, e230, hx230_0, hx230_1, hx230_2, hx230_3⟩ := at_T33 HR1.out x6_1 p230 q230
                                    obtain rfl : ad217 = ad230 := (by injection e230)
                                    replace hx230_0 := (HB.out.cell (World.block_lt_of_cell? w _ hx230_0)).trans hx230_0
                                    replace hx230_1 := (HB.out.cell (World.block_lt_of_cell? w _ hx230_1)).trans hx230_1
                                    replace hx230_2 := (HB.out.cell (World.block_lt_of_cell? w _ hx230_2)).trans hx230_2
                                    replace hx230_3 := (HB.out.cell (World.block_lt_of_cell? w _ hx230_3)).trans hx230_3
                                    replace p230 := eq_true p230
                                    replace q230 := eq_true q230
                                    have hnb53 := NB223_209.out
                                    have hnc53 := NB209_223.out
                                    have hcz54_0 : wc.cell? ⟨gb223, 0, none⟩ = some (.int .u32 t218) := (blk_cell BK223.out 0).trans rfl
                                    have hcz54_1 : wc.cell? ⟨gb223, 1, none⟩ = some (.bool true) := (blk_cell BK223.out 1).trans rfl
                                    have hfz54_0 := blk_frozen BK223.out 0
                                    have hfz54_1 := blk_frozen BK223.out 1
                                    go_wp2
                                    go_roundg kj12
                                    case measure => have := HK1.out; have := HJ12.out; omega
                                    case rel => exact ⟨(wrap64 (x6_1 + 1)), (t227), (t228), (t229), (by first | rfl | (simp; done) | (simp [*]; done)), H', ⟨by have := HK1.out; have := HJ12.out; omega⟩, ⟨by repeat (first | (with_reducible first | exact HI209.out | apply IsS54.alloc | apply IsS54.drewN | apply IsS54.drew | apply IsS54.set_0 | apply IsS54.set_1 | apply IsS54.set_2 | refine IsS54.far ?_ NB209_223.out _) | exact HI209.out)⟩, ⟨by repeat (first | (with_reducible first | exact HB.out | apply below_alloc | apply pw_below_drewN | apply below_drew1 | refine below_set ?_ (IsS54.ge HI209.out) | refine below_set ?_ GE223.out) | exact HB.out)⟩⟩
                                  · rw [if_neg c52] at H
                                    have c52b0 : (t225 == 0) = false := beq_eq_false_iff_ne.mpr c52
                                    have c52b1 : (t225 != 0) = true := bne_iff_ne.mpr c52
                                    obtain rfl := Option.some.inj H
                                    have p230 : 0 ≤ (x6_1 : Int) := of_decide_eq_true (by first | (with_reducible assumption) | assumption)
                                    have q230 : x6_1 < (l1.length : Int) := of_decide_eq_true (by first | (with_reducible assumption) | assumption)
                                    obtain ⟨ad230, e230, hx230_0, hx230_1, hx230_2, hx230_3⟩ := at_T33 HR1.out x6_1 p230 q230
                                    obtain rfl : ad217 = ad230 := (by injection e230)
                                    replace hx230_0 := (HB.out.cell (World.block_lt_of_cell? w _ hx230_0)).trans hx230_0
                                    replace hx230_1 := (HB.out.cell (World.block_lt_of_cell? w _ hx230_1)).trans hx230_1
                                    replace hx230_2 := (HB.out.cell (World.block_lt_of_cell? w _ hx230_2)).trans hx230_2
                                    replace hx230_3 := (HB.out.cell (World.block_lt_of_cell? w _ hx230_3)).trans hx230_3
                                    replace p230 := eq_true p230
                                    replace q230 := eq_true q230
                                    have hnb55 := NB223_209.out
                                    have hnc55 := NB209_223.out
                                    have hcz56_0 : wc.cell? ⟨gb223, 0, none⟩ = some (.int .u32 t218) := (blk_cell BK223.out 0).trans rfl
                                    have hcz56_1 : wc.cell? ⟨gb223, 1, none⟩ = some (.bool true) := (blk_cell BK223.out 1).trans rfl
                                    have hfz56_0 := blk_frozen BK223.out 0
                                    have hfz56_1 := blk_frozen BK223.out 1
                                    go_wp2
                                    go_ret
                                    exact ⟨by first | rfl | (simp [errW_none, errW_some] <;> rfl) | (simp [*, errW_none, errW_some] <;> rfl), by repeat (first | (with_reducible first | exact HB.out | apply below_alloc | apply pw_below_drewN | apply below_drew1 | refine below_set ?_ (IsS54.ge HI209.out) | refine below_set ?_ GE223.out) | exact HB.out)⟩
                                · rw [if_neg c51] at H
                                  have c51b0 : (t224 == ((t211 + t212) % 4294967296)) = false := beq_eq_false_iff_ne.mpr c51
                                  have c51b1 : (t224 != ((t211 + t212) % 4294967296)) = true := bne_iff_ne.mpr c51
                                  obtain rfl := Option.some.inj H
                                  have p230 : 0 ≤ (x6_1 : Int) := of_decide_eq_true (by first | (with_reducible assumption) | assumption)
                                  have q230 : x6_1 < (l1.length : Int) := of_decide_eq_true (by first | (with_reducible assumption) | assumption)
                                  obtain ⟨ad230, e230, hx230_0, hx230_1, hx230_2, hx230_3⟩ := at_T33 HR1.out x6_1 p230 q230
                                  obtain rfl : ad217 = ad230 := (by injection e230)
                                  replace hx230_0 := (HB.out.cell (World.block_lt_of_cell? w _ hx230_0)).trans hx230_0
                                  replace hx230_1 := (HB.out.cell (World.block_lt_of_cell? w _ hx230_1)).trans hx230_1
                                  replace hx230_2 := (HB.out.cell (World.block_lt_of_cell? w _ hx230_2)).trans hx230_2
                                  replace hx230_3 := (HB.out.cell (World.block_lt_of_cell? w _ hx230_3)).trans hx230_3
                                  replace p230 := eq_true p230
                                  replace q230 := eq_true q230
                                  have hnb57 := NB223_209.out
                                  have hnc57 := NB209_223.out
                                  have hcz58_0 : wc.cell? ⟨gb223, 0, none⟩ = some (.int .u32 t218) := (blk_cell BK223.out 0).trans rfl
                                  have hcz58_1 : wc.cell? ⟨gb223, 1, none⟩ = some (.bool true) := (blk_cell BK223.out 1).trans rfl
                                  have hfz58_0 := blk_frozen BK223.out 0
                                  have hfz58_1 := blk_frozen BK223.out 1
                                  go_wp2
                                  go_ret
                                  exact ⟨by first | rfl | (simp [errW_none, errW_some] <;> rfl) | (simp [*, errW_none, errW_some] <;> rfl), by repeat (first | (with_reducible first | exact HB.out | apply below_alloc | apply pw_below_drewN | apply below_drew1 | refine below_set ?_ (IsS54.ge HI209.out) | refine below_set ?_ GE223.out) | exact HB.out)⟩
                              · rw [if_neg c50] at H
                                have c50b0 : (t218 == t212) = false := beq_eq_false_iff_ne.mpr c50
                                have c50b1 : (t218 != t212) = true := bne_iff_ne.mpr c50
                                obtain rfl := Option.some.inj H
                                have p230 : 0 ≤ (x6_1 : Int) := of_decide_eq_true (by first | (with_reducible assumption) | assumption)
                                have q230 : x6_1 < (l1.length : Int) := of_decide_eq_true (by first | (with_reducible assumption) | assumption)
                                obtain ⟨ad230, e230, hx230_0, hx230_1, hx230_2, hx230_3⟩ := at_T33 HR1.out x6_1 p230 q230
                                obtain rfl : ad217 = ad230 := (by injection e230)
                                replace hx230_0 := (HB.out.cell (World.block_lt_of_cell? w _ hx230_0)).trans hx230_0
                                replace hx230_1 := (HB.out.cell (World.block_lt_of_cell? w _ hx230_1)).trans hx230_1
                                replace hx230_2 := (HB.out.cell (World.block_lt_of_cell? w _ hx230_2)).trans hx230_2
                                replace hx230_3 := (HB.out.cell (World.block_lt_of_cell? w _ hx230_3)).trans hx230_3
                                replace p230 := eq_true p230
                                replace q230 := eq_true q230
                                have hnb59 := NB223_209.out
                                have hnc59 := NB209_223.out
                                have hcz60_0 : wc.cell? ⟨gb223, 0, none⟩ = some (.int .u32 t218) := (blk_cell BK223.out 0).trans rfl
                                have hcz60_1 : wc.cell? ⟨gb223, 1, none⟩ = some (.bool true) := (blk_cell BK223.out 1).trans rfl
                                have hfz60_0 := blk_frozen BK223.out 0
                                have hfz60_1 := blk_frozen BK223.out 1
                                go_wp2
                                go_ret
                                exact ⟨by first | rfl | (simp [errW_none, errW_some] <;> rfl) | (simp [*, errW_none, errW_some] <;> rfl), by repeat (first | (with_reducible first | exact HB.out | apply below_alloc | apply pw_below_drewN | apply below_drew1 | refine below_set ?_ (IsS54.ge HI209.out) | refine below_set ?_ GE223.out) | exact HB.out)⟩
                            · replace c49 := Bool.eq_false_iff.mpr c49
                              subst c49
                              have H1 : (if t224 = t211 then (lw16_CreditBounds.l0 kj12 l1 (wrap64 (x6_1 + 1)) t227 t228 t229) else (some false)) = some r := by rw [if_neg (show ¬ (false = true) by decide)] at H; exact H
                              clear H
                              have H := H1
                              clear H1
                              by_cases c61 : t224 = t211
                              · rw [if_pos c61] at H
                                have c61b0 : (t224 == t211) = true := beq_iff_eq.mpr c61
                                have c61b1 : (t224 != t211) = false := bne_eq_false_iff_eq.mpr c61
                                clear c61
                                have H' := Aside0.mk H
                                clear H
                                have p230 : 0 ≤ (x6_1 : Int) := of_decide_eq_true (by first | (with_reducible assumption) | assumption)
                                have q230 : x6_1 < (l1.length : Int) := of_decide_eq_true (by first | (with_reducible assumption) | assumption)
                                obtain ⟨ad230, e230, hx230_0, hx230_1, hx230_2, hx230_3⟩ := at_T33 HR1.out x6_1 p230 q230
                                obtain rfl : ad217 = ad230 := (by injection e230)
                                replace hx230_0 := (HB.out.cell (World.block_lt_of_cell? w _ hx230_0)).trans hx230_0
                                replace hx230_1 := (HB.out.cell (World.block_lt_of_cell? w _ hx230_1)).trans hx230_1
                                replace hx230_2 := (HB.out.cell (World.block_lt_of_cell? w _ hx230_2)).trans hx230_2
                                replace hx230_3 := (HB.out.cell (World.block_lt_of_cell? w _ hx230_3)).trans hx230_3
                                replace p230 := eq_true p230
                                replace q230 := eq_true q230
                                have hnb62 := NB223_209.out
                                have hnc62 := NB209_223.out
                                have hcz63_0 : wc.cell? ⟨gb223, 0, none⟩ = some (.int .u32 t218) := (blk_cell BK223.out 0).trans rfl
                                have hcz63_1 : wc.cell? ⟨gb223, 1, none⟩ = some (.bool false) := (blk_cell BK223.out 1).trans rfl
                                have hfz63_0 := blk_frozen BK223.out 0
                                have hfz63_1 := blk_frozen BK223.out 1
                                go_wp2
                                go_roundg kj12
                                case measure => have := HK1.out; have := HJ12.out; omega
                                case rel => exact ⟨(wrap64 (x6_1 + 1)), (t227), (t228), (t229), (by first | rfl | (simp; done) | (simp [*]; done)), H', ⟨by have := HK1.out; have := HJ12.out; omega⟩, ⟨by repeat (first | (with_reducible first | exact HI209.out | apply IsS54.alloc | apply IsS54.drewN | apply IsS54.drew | apply IsS54.set_0 | apply IsS54.set_1 | apply IsS54.set_2 | refine IsS54.far ?_ NB209_223.out _) | exact HI209.out)⟩, ⟨by repeat (first | (with_reducible first | exact HB.out | apply below_alloc | apply pw_below_drewN | apply below_drew1 | refine below_set ?_ (IsS54.ge HI209.out) | refine below_set ?_ GE223.out) | exact HB.out)⟩⟩
                              · rw [if_neg c61] at H
                                have c61b0 : (t224 == t211) = false := beq_eq_false_iff_ne.mpr c61
                                have c61b1 : (t224 != t211) = true := bne_iff_ne.mpr c61
                                obtain rfl := Option.some.inj H
                                have p230 : 0 ≤ (x6_1 : Int) := of_decide_eq_true (by first | (with_reducible assumption) | assumption)
                                have q230 : x6_1 < (l1.length : Int) := of_decide_eq_true (by first | (with_reducible assumption) | assumption)
                                obtain ⟨ad230, e230, hx230_0, hx230_1, hx230_2, hx230_3⟩ := at_T33 HR1.out x6_1 p230 q230
                                obtain rfl : ad217 = ad230 := (by injection e230)
                                replace hx230_0 := (HB.out.cell (World.block_lt_of_cell? w _ hx230_0)).trans hx230_0
                                replace hx230_1 := (HB.out.cell (World.block_lt_of_cell? w _ hx230_1)).trans hx230_1
                                replace hx230_2 := (HB.out.cell (World.block_lt_of_cell? w _ hx230_2)).trans hx230_2
                                replace hx230_3 := (HB.out.cell (World.block_lt_of_cell? w _ hx230_3)).trans hx230_3
                                replace p230 := eq_true p230
                                replace q230 := eq_true q230
                                have hnb64 := NB223_209.out
                                have hnc64 := NB209_223.out
                                have hcz65_0 : wc.cell? ⟨gb223, 0, none⟩ = some (.int .u32 t218) := (blk_cell BK223.out 0).trans rfl
                                have hcz65_1 : wc.cell? ⟨gb223, 1, none⟩ = some (.bool false) := (blk_cell BK223.out 1).trans rfl
                                have hfz65_0 := blk_frozen BK223.out 0
                                have hfz65_1 := blk_frozen BK223.out 1
                                go_wp2
                                go_ret
                                exact ⟨by first | rfl | (simp [errW_none, errW_some] <;> rfl) | (simp [*, errW_none, errW_some] <;> rfl), by repeat (first | (with_reducible first | exact HB.out | apply below_alloc | apply pw_below_drewN | apply below_drew1 | refine below_set ?_ (IsS54.ge HI209.out) | refine below_set ?_ GE223.out) | exact HB.out)⟩
                        · rw [if_neg c45] at H
                          have c45b0 : (((rd_T33 l1 x6_1).f0) == 4) = false := beq_eq_false_iff_ne.mpr c45
                          have c45b1 : (((rd_T33 l1 x6_1).f0) != 4) = true := bne_iff_ne.mpr c45
                          have HC66 := Aside0.mk H
                          clear H
                          have p230 : 0 ≤ (x6_1 : Int) := of_decide_eq_true (by first | (with_reducible assumption) | assumption)
                          have q230 : x6_1 < (l1.length : Int) := of_decide_eq_true (by first | (with_reducible assumption) | assumption)
                          obtain ⟨ad230, e230, hx230_0, hx230_1, hx230_2, hx230_3⟩ := at_T33 HR1.out x6_1 p230 q230
                          obtain rfl : ad217 = ad230 := (by injection e230)
                          replace hx230_0 := (HB.out.cell (World.block_lt_of_cell? w _ hx230_0)).trans hx230_0
                          replace hx230_1 := (HB.out.cell (World.block_lt_of_cell? w _ hx230_1)).trans hx230_1
                          replace hx230_2 := (HB.out.cell (World.block_lt_of_cell? w _ hx230_2)).trans hx230_2
                          replace hx230_3 := (HB.out.cell (World.block_lt_of_cell? w _ hx230_3)).trans hx230_3
                          replace p230 := eq_true p230
                          replace q230 := eq_true q230
                          go_upto_if 133 with (fail)
                          go_cut [133] (fun v133 wc => ∃ (kq : Nat) (x133_65 : Bool), v133 = .bool x133_65 ∧ Aside0 (lw16_CreditBounds.j2 kq l1 x6_1 t211 t212 t224 t225 ((rd_T33 l1 x6_1).f0) x133_65 t227 t228 t229 = some r) ∧ Aside0 (kq ≤ kj12) ∧ Aside0 (wc.heap[gb223]? = some (.cells #[.int .u32 t218, .bool t219] 30 (0, 0))) ∧ Aside0 (IsS54 w wc g209 t227 t228 t229) ∧ Aside0 (Below w.heap.size w wc))
                          case first =>
                            have H := HC66.out
                            clear HC66
                            by_cases c67 : ((rd_T33 l1 x6_1).f0) = 0
                            · rw [if_pos c67] at H
                              have c67b0 : (((rd_T33 l1 x6_1).f0) == 0) = true := beq_iff_eq.mpr c67
                              have c67b1 : (((rd_T33 l1 x6_1).f0) != 0) = false := bne_eq_false_iff_eq.mpr c67
                              clear c67
                              (first | rw [c67b0] | (simp only [i64_w, i32_w]; rw [c67b0]) | skip)
                              have H' := Aside0.mk H
                              clear H
                              go_wp2
                              go_meet
                              case rel => exact ⟨_, ((((rd_T33 l1 x6_1).f0) == 0)), (by first | rfl | (simp; done) | (simp [*]; done)), H', ⟨by have := HK1.out; have := HJ12.out; first | omega | exact Nat.le_refl _⟩, ⟨by (with_reducible repeat (first | refine blk_drewN ?_ _ | refine blk_drew ?_ | refine blk_alloc ?_ _)); exact BK223.out⟩, ⟨by repeat (first | (with_reducible first | exact HI209.out | apply IsS54.alloc | apply IsS54.drewN | apply IsS54.drew | apply IsS54.set_0 | apply IsS54.set_1 | apply IsS54.set_2 | refine IsS54.far ?_ NB209_223.out _) | exact HI209.out)⟩, ⟨by repeat (first | (with_reducible first | exact HB.out | apply below_alloc | apply pw_below_drewN | apply below_drew1 | refine below_set ?_ (IsS54.ge HI209.out) | refine below_set ?_ GE223.out) | exact HB.out)⟩⟩
                            · rw [if_neg c67] at H
                              have c67b0 : (((rd_T33 l1 x6_1).f0) == 0) = false := beq_eq_false_iff_ne.mpr c67
                              have c67b1 : (((rd_T33 l1 x6_1).f0) != 0) = true := bne_iff_ne.mpr c67
                              (first | rw [c67b0] | (simp only [i64_w, i32_w]; rw [c67b0]) | skip)
                              have H' := Aside0.mk H
                              clear H
                              go_wp2
                              go_meet
                              case rel => exact ⟨_, ((((rd_T33 l1 x6_1).f0) == 2)), (by first | rfl | (simp; done) | (simp [*]; done)), H', ⟨by have := HK1.out; have := HJ12.out; first | omega | exact Nat.le_refl _⟩, ⟨by (with_reducible repeat (first | refine blk_drewN ?_ _ | refine blk_drew ?_ | refine blk_alloc ?_ _)); exact BK223.out⟩, ⟨by repeat (first | (with_reducible first | exact HI209.out | apply IsS54.alloc | apply IsS54.drewN | apply IsS54.drew | apply IsS54.set_0 | apply IsS54.set_1 | apply IsS54.set_2 | refine IsS54.far ?_ NB209_223.out _) | exact HI209.out)⟩, ⟨by repeat (first | (with_reducible first | exact HB.out | apply below_alloc | apply pw_below_drewN | apply below_drew1 | refine below_set ?_ (IsS54.ge HI209.out) | refine below_set ?_ GE223.out) | exact HB.out)⟩⟩
                          case rest =>
                            clear HC66
                            try clear c1
                            try clear c2
                            try clear p2
                            try clear q2
                            try clear hx2
                            try clear c3
                            try clear c3b0
                            try clear c3b1
                            try clear c4
                            try clear c5
                            try clear c6
                            try clear p6
                            try clear c8
                            try clear c8b0
                            try clear c9
                            try clear c10
                            try clear c10b0
                            try clear c12
                            try clear c14
                            try clear c17
                            try clear c20
                            try clear c20b0
                            try clear c21
                            try clear p21
                            try clear q21
                            try clear hx21
                            try clear c22
                            try clear c22b0
                            try clear c23
                            try clear c23b0
                            try clear p23
                            try clear q23
                            try clear hx23
                            try clear c24
                            try clear c24b0
                            try clear c24b1
                            try clear c25
                            try clear c25b0
                            try clear c25b1
                            try clear c25b2
                            try clear c26
                            try clear c28
                            try clear c29
                            try clear c29b0
                            try clear c29b1
                            try clear c30
                            try clear c30b0
                            try clear c30b1
                            try clear c31
                            try clear c33
                            try clear c35
                            try clear c37
                            try clear c37b0
                            try clear c37b1
                            try clear c38
                            try clear c38b0
                            try clear c38b1
                            try clear c39
                            try clear c41
                            try clear c43
                            try clear c45
                            try clear c45b0
                            try clear c45b1
                            try clear c46
                            try clear c46b0
                            try clear c46b1
                            try clear c46b2
                            try clear c47
                            try clear c49
                            try clear c50
                            try clear c50b0
                            try clear c50b1
                            try clear c51
                            try clear c51b0
                            try clear c51b1
                            try clear c52
                            try clear c52b0
                            try clear c52b1
                            try clear c53
                            try clear c55
                            try clear c57
                            try clear c59
                            try clear c61
                            try clear c61b0
                            try clear c61b1
                            try clear c62
                            try clear c64
                            try clear p64
                            try clear c67
                            try clear c67b0
                            try clear c67b1
                            try clear hcz18_0
                            try clear hcz18_1
                            try clear hcz27_0
                            try clear hcz27_1
                            try clear hcz32_0
                            try clear hcz32_1
                            try clear hcz34_0
                            try clear hcz34_1
                            try clear hcz36_0
                            try clear hcz36_1
                            try clear hcz40_0
                            try clear hcz40_1
                            try clear hcz42_0
                            try clear hcz42_1
                            try clear hcz44_0
                            try clear hcz44_1
                            try clear hcz48_0
                            try clear hcz48_1
                            try clear hcz54_0
                            try clear hcz54_1
                            try clear hcz56_0
                            try clear hcz56_1
                            try clear hcz58_0
                            try clear hcz58_1
                            try clear hcz60_0
                            try clear hcz60_1
                            try clear hcz63_0
                            try clear hcz63_1
                            try clear hcz65_0
                            try clear hcz65_1
                            try clear hfz18_0
                            try clear hfz18_1
                            try clear hfz27_0
                            try clear hfz27_1
                            try clear hfz32_0
                            try clear hfz32_1
                            try clear hfz34_0
                            try clear hfz34_1
                            try clear hfz36_0
                            try clear hfz36_1
                            try clear hfz40_0
                            try clear hfz40_1
                            try clear hfz42_0
                            try clear hfz42_1
                            try clear hfz44_0
                            try clear hfz44_1
                            try clear hfz48_0
                            try clear hfz48_1
                            try clear hfz54_0
                            try clear hfz54_1
                            try clear hfz56_0
                            try clear hfz56_1
                            try clear hfz58_0
                            try clear hfz58_1
                            try clear hfz60_0
                            try clear hfz60_1
                            try clear hfz63_0
                            try clear hfz63_1
                            try clear hfz65_0
                            try clear hfz65_1
                            try clear hx217_0
                            try clear hx217_1
                            try clear hx217_2
                            try clear hx217_3
                            try clear hx230_0
                            try clear hx230_1
                            try clear hx230_2
                            try clear hx230_3
                            try clear p2
                            try clear p217
                            try clear p230
                            try clear q2
                            try clear q217
                            try clear q230
                            obtain ⟨kq, x133_65, rfl, HA, HJ65, BK223, HI209, HB⟩ := hcut
                            cases kq with
                            | zero => exact absurd HA.out (by simp [lw16_CreditBounds.j2])
                            | succ kj65 =>
                              have H := HA.out
                              clear HA
                              simp only [lw16_CreditBounds.j2] at H
                              by_cases c68 : x133_65 = true
                              · subst c68
                                have H1 : (if t224 = t211 then (lw16_CreditBounds.l0 kj65 l1 (wrap64 (x6_1 + 1)) t227 t228 t229) else (some false)) = some r := by rw [if_pos rfl] at H; exact H
                                clear H
                                have H := H1
                                clear H1
                                by_cases c69 : t224 = t211
                                · rw [if_pos c69] at H
                                  have c69b0 : (t224 == t211) = true := beq_iff_eq.mpr c69
                                  have c69b1 : (t224 != t211) = false := bne_eq_false_iff_eq.mpr c69
                                  clear c69
                                  have H' := Aside0.mk H
                                  clear H
                                  go_wp2
                                  go_roundg kj65
                                  case measure => have := HK1.out; have := HJ12.out; have := HJ65.out; omega
                                  case rel => exact ⟨(wrap64 (x6_1 + 1)), (t227), (t228), (t229), (by first | rfl | (simp; done) | (simp [*]; done)), H', ⟨by have := HK1.out; have := HJ12.out; have := HJ65.out; omega⟩, ⟨by repeat (first | (with_reducible first | exact HI209.out | apply IsS54.alloc | apply IsS54.drewN | apply IsS54.drew | apply IsS54.set_0 | apply IsS54.set_1 | apply IsS54.set_2 | refine IsS54.far ?_ NB209_223.out _) | exact HI209.out)⟩, ⟨by repeat (first | (with_reducible first | exact HB.out | apply below_alloc | apply pw_below_drewN | apply below_drew1 | refine below_set ?_ (IsS54.ge HI209.out) | refine below_set ?_ GE223.out) | exact HB.out)⟩⟩
                                · rw [if_neg c69] at H
                                  have c69b0 : (t224 == t211) = false := beq_eq_false_iff_ne.mpr c69
                                  have c69b1 : (t224 != t211) = true := bne_iff_ne.mpr c69
                                  obtain rfl := Option.some.inj H
                                  go_wp2
                                  go_ret
                                  exact ⟨by first | rfl | (simp [errW_none, errW_some] <;> rfl) | (simp [*, errW_none, errW_some] <;> rfl), by repeat (first | (with_reducible first | exact HB.out | apply below_alloc | apply pw_below_drewN | apply below_drew1 | refine below_set ?_ (IsS54.ge HI209.out) | refine below_set ?_ GE223.out) | exact HB.out)⟩
                              · replace c68 := Bool.eq_false_iff.mpr c68
                                subst c68
                                have H1 : (if ((rd_T33 l1 x6_1).f0) = 1 then (if ((t224 - t211) % 4294967296) = ((t212 - t225) % 4294967296) then (lw16_CreditBounds.l0 kj65 l1 (wrap64 (x6_1 + 1)) t227 t228 t229) else (some false)) else (lw16_CreditBounds.l0 kj65 l1 (wrap64 (x6_1 + 1)) t227 t228 t229)) = some r := by rw [if_neg (show ¬ (false = true) by decide)] at H; exact H
                                clear H
                                have H := H1
                                clear H1
                                by_cases c70 : ((rd_T33 l1 x6_1).f0) = 1
                                · rw [if_pos c70] at H
                                  have c70b0 : (((rd_T33 l1 x6_1).f0) == 1) = true := beq_iff_eq.mpr c70
                                  have c70b1 : (((rd_T33 l1 x6_1).f0) != 1) = false := bne_eq_false_iff_eq.mpr c70
                                  clear c70
                                  by_cases c71 : ((t224 - t211) % 4294967296) = ((t212 - t225) % 4294967296)
                                  · rw [if_pos c71] at H
                                    have c71b0 : (((t224 - t211) % 4294967296) == ((t212 - t225) % 4294967296)) = true := beq_iff_eq.mpr c71
                                    have c71b1 : (((t224 - t211) % 4294967296) != ((t212 - t225) % 4294967296)) = false := bne_eq_false_iff_eq.mpr c71
                                    clear c71
                                    have H' := Aside0.mk H
                                    clear H
                                    go_wp2
                                    go_roundg kj65
                                    case measure => have := HK1.out; have := HJ12.out; have := HJ65.out; omega
                                    case rel => exact ⟨(wrap64 (x6_1 + 1)), (t227), (t228), (t229), (by first | rfl | (simp; done) | (simp [*]; done)), H', ⟨by have := HK1.out; have := HJ12.out; have := HJ65.out; omega⟩, ⟨by repeat (first | (with_reducible first | exact HI209.out | apply IsS54.alloc | apply IsS54.drewN | apply IsS54.drew | apply IsS54.set_0 | apply IsS54.set_1 | apply IsS54.set_2 | refine IsS54.far ?_ NB209_223.out _) | exact HI209.out)⟩, ⟨by repeat (first | (with_reducible first | exact HB.out | apply below_alloc | apply pw_below_drewN | apply below_drew1 | refine below_set ?_ (IsS54.ge HI209.out) | refine below_set ?_ GE223.out) | exact HB.out)⟩⟩
                                  · rw [if_neg c71] at H
                                    have c71b0 : (((t224 - t211) % 4294967296) == ((t212 - t225) % 4294967296)) = false := beq_eq_false_iff_ne.mpr c71
                                    have c71b1 : (((t224 - t211) % 4294967296) != ((t212 - t225) % 4294967296)) = true := bne_iff_ne.mpr c71
                                    obtain rfl := Option.some.inj H
                                    go_wp2
                                    go_ret
                                    exact ⟨by first | rfl | (simp [errW_none, errW_some] <;> rfl) | (simp [*, errW_none, errW_some] <;> rfl), by repeat (first | (with_reducible first | exact HB.out | apply below_alloc | apply pw_below_drewN | apply below_drew1 | refine below_set ?_ (IsS54.ge HI209.out) | refine below_set ?_ GE223.out) | exact HB.out)⟩
                                · rw [if_neg c70] at H
                                  have c70b0 : (((rd_T33 l1 x6_1).f0) == 1) = false := beq_eq_false_iff_ne.mpr c70
                                  have c70b1 : (((rd_T33 l1 x6_1).f0) != 1) = true := bne_iff_ne.mpr c70
                                  have H' := Aside0.mk H
                                  clear H
                                  go_wp2
                                  go_roundg kj65
                                  case measure => have := HK1.out; have := HJ12.out; have := HJ65.out; omega
                                  case rel => exact ⟨(wrap64 (x6_1 + 1)), (t227), (t228), (t229), (by first | rfl | (simp; done) | (simp [*]; done)), H', ⟨by have := HK1.out; have := HJ12.out; have := HJ65.out; omega⟩, ⟨by repeat (first | (with_reducible first | exact HI209.out | apply IsS54.alloc | apply IsS54.drewN | apply IsS54.drew | apply IsS54.set_0 | apply IsS54.set_1 | apply IsS54.set_2 | refine IsS54.far ?_ NB209_223.out _) | exact HI209.out)⟩, ⟨by repeat (first | (with_reducible first | exact HB.out | apply below_alloc | apply pw_below_drewN | apply below_drew1 | refine below_set ?_ (IsS54.ge HI209.out) | refine below_set ?_ GE223.out) | exact HB.out)⟩⟩
                    · rw [if_neg c23] at H
                      exact absurd H (by simp)
                  · rw [if_neg c22] at H
                    exact absurd H (by simp)
          · rw [if_neg c10] at H
            exact absurd H (by simp)
        · rw [if_neg c8] at H
          have c8b0 : decide (x6_1 < (l1.length : Int)) = false := decide_eq_false c8
          clear c8
          replace H := Option.bind_eq_some_iff.mp H
          obtain ⟨t210, A720, H⟩ := H
          replace H : (some t210) = some r := H
          have A72 := Aside0.mk A720
          clear A720
          obtain rfl := Option.some.inj H
          go_wp2_with (first | ((with_reducible refine gate_callee (f := 9) rfl ?_); refine goesL_ (some 148) rfl rfl Try.func9 (by kernel_rfl) rfl #[] rfl (by (try simp only [List.map_toArray, List.map_cons, List.map_nil]); first | done | rfl | (simp only [List.length_drop, List.length_take]; rfl)) ?_; (with_reducible refine (lw16_works.calls k1  t210 _ A72.out).mono ?_); rintro e w73 ⟨rfl, hb⟩; refine ⟨_, rfl, ?_⟩; have n0_ := Aside0.mk (IsS54.below (by repeat (first | (with_reducible first | exact HI209.out | apply IsS54.alloc | apply IsS54.drewN | apply IsS54.drew | apply IsS54.set_0 | apply IsS54.set_1 | apply IsS54.set_2) | exact HI209.out)) hb); have n1_ := Aside0.mk (below_step (by repeat (first | (with_reducible first | exact HB.out | apply below_alloc | apply pw_below_drewN | apply below_drew1 | refine below_set ?_ (IsS54.ge HI209.out)) | exact HB.out)) hb); clear HI209; clear HB; have HI209 := n0_; have HB := n1_; clear n0_ n1_; (try clear hb); (try clear hb2); (try clear hk); (try clear hi); (try clear hgw)))
          go_ret
          exact ⟨by first | rfl | (simp [errW_none, errW_some] <;> rfl) | (simp [*, errW_none, errW_some] <;> rfl), by repeat (first | (with_reducible first | exact HB.out | apply below_alloc | apply pw_below_drewN | apply below_drew1 | refine below_set ?_ (IsS54.ge HI209.out)) | exact HB.out)⟩

/-- THE ONE PURE STATEMENT of lw16_CreditBounds: yours. -/
def lw16_CreditBounds.Pure : Prop := ∀ (a0 : Int) (l1 : List (S33)), (Lit.int .u32 a0).wf = true → l1.length ≤ maxLen → (∀ x ∈ l1, (Lit.int .i64 x.f0).wf = true ∧ (Lit.int .u32 x.f1).wf = true ∧ (Lit.int .u32 x.f2).wf = true) → ∃ k, lw16_CreditBounds.f k a0 l1 = some true

end Go.Proofs.Ytadbpgljamkoeaa.PCreditBounds
