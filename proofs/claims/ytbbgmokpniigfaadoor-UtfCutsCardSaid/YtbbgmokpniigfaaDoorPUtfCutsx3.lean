/- Written by a program of this session (a turned copy of the print; not the kit's own print): the walks of the functions that one law reaches, or that law's row; the plain law stands in the Pure text; no condition of our own. -/
import Derived.Test.YtbbgmokpniigfaaDoorPUtfCutsx0
import Derived.Test.YtbbgmokpniigfaaDoorPUtfCutsx1
import Derived.Test.YtbbgmokpniigfaaDoorPUtfCutsx2
namespace Go.Proofs.YtbbgmokpniigfaaDoor.PUtfCuts
open Go.RowKit Go.Proofs.YtbbgmokpniigfaaDoorW.PrintWords Go.Proofs.YtbbgmokpniigfaaDoorW.PrintLast Go.Proofs.YtbbgmokpniigfaaDoorW.PrintMore
attribute [local go_sem] max2_int min2_int max_two min_two max_three min_three max_four min_four   -- for this text's walks alone
set_option linter.unusedVariables false
set_option linter.unusedSimpArgs false

/-! ### lw02_UtfCuts: function 6 -/
def lw02_UtfCuts.j0 : Nat → List Int → Int → List Int → Bool → Bool → Option (Bool)
  | 0, _, _, _, _, _ => none
  | k + 1, x0, x1, x5, x6, x24 => if x24 = true then (if (x6 == ((x0.length : Int) == 0)) = true then ((lw02_works.f k).bind fun t131 => (some t131)) else (if x6 = true then (some false) else ((lw02_works.f k).bind fun t132 => (some t132)))) else (if (x5.length : Int) = 0 then (none) else (if 0 ≤ (Int.tmod (wrap64 (x1)) (x5.length : Int)) then (if (Int.tmod (wrap64 (x1)) (x5.length : Int)) < (x5.length : Int) then (if (rd x5 (Int.tmod (wrap64 (x1)) (x5.length : Int))) ≥ 128 then (if (Int.tmod (wrap64 (x1)) (x5.length : Int)) ≤ (x5.length : Int) then ((utf_Right.f k (x5.take ((Int.tmod (wrap64 (x1)) (x5.length : Int)) : Int).toNat)).bind fun t139 => (if (t139 == (!(decide ((rd x5 (Int.tmod (wrap64 (x1)) (x5.length : Int))) < 192)))) = true then ((utf_Right.f k (x5.drop ((Int.tmod (wrap64 (x1)) (x5.length : Int)) : Int).toNat)).bind fun t144 => (if (t144 == (!(decide ((rd x5 (Int.tmod (wrap64 (x1)) (x5.length : Int))) < 192)))) = true then ((lw02_works.f k).bind fun t145 => (some t145)) else (some false))) else (some false))) else (none)) else (if (Int.tmod (wrap64 (x1)) (x5.length : Int)) ≤ (x5.length : Int) then ((utf_Right.f k (x5.take ((Int.tmod (wrap64 (x1)) (x5.length : Int)) : Int).toNat)).bind fun t150 => (if (t150 == (!false)) = true then ((utf_Right.f k (x5.drop ((Int.tmod (wrap64 (x1)) (x5.length : Int)) : Int).toNat)).bind fun t155 => (if (t155 == (!false)) = true then ((lw02_works.f k).bind fun t156 => (some t156)) else (some false))) else (some false))) else (none))) else (none)) else (none)))
def lw02_UtfCuts.f (k : Nat) (l0 : List Int) (a1 : Int) : Option (Bool) := if (l0.length : Int) > 2048 then ((lw02_works.f k).bind fun t126 => (some t126)) else ((utf_Text.f k l0).bind fun bt127 => (if bt127.2 = true then (lw02_UtfCuts.j0 k l0 a1 bt127.1 bt127.2 ((bt127.1.length : Int) == 0)) else (lw02_UtfCuts.j0 k l0 a1 bt127.1 bt127.2 true)))
theorem lw02_UtfCuts.mono_l : ∀ k, (∀ y0 y1 y2 y3 y4, LeO (lw02_UtfCuts.j0 k y0 y1 y2 y3 y4) (lw02_UtfCuts.j0 (k + 1) y0 y1 y2 y3 y4))
  | 0 => fun _ _ _ _ _ r h => by simp [lw02_UtfCuts.j0] at h
  | k + 1 => by
    have ih0 := lw02_UtfCuts.mono_l k
    · intro y0 y1 y2 y3 y4
      unfold lw02_UtfCuts.j0
      repeat' first
      | (with_reducible exact ih0 _ _ _ _ _)
      | (with_reducible exact lw02_works.mono _)
      | (with_reducible exact utf_Right.mono _ _)
      | (with_reducible exact utf_Text.mono _ _)
      | (with_reducible exact LeO.refl _)
      | (with_reducible exact LeO.none _)
      | (with_reducible refine LeO.ite ?_ ?_)
      | (with_reducible refine LeO.bind ?_ (fun _ => ?_))
      | exact ih0 _ _ _ _ _
      | exact lw02_works.mono _
      | exact utf_Right.mono _ _
      | exact utf_Text.mono _ _
      | exact LeO.none _
      | refine LeO.ite ?_ ?_
      | refine LeO.bind ?_ (fun _ => ?_)
theorem lw02_UtfCuts.mono : ∀ a0 a1 k, LeO (lw02_UtfCuts.f k a0 a1) (lw02_UtfCuts.f (k + 1) a0 a1) := by
  intro a0 a1 k
  have ih0 := lw02_UtfCuts.mono_l k
  unfold lw02_UtfCuts.f
  repeat' first
      | (with_reducible exact ih0 _ _ _ _ _)
      | (with_reducible exact lw02_works.mono _)
      | (with_reducible exact utf_Right.mono _ _)
      | (with_reducible exact utf_Text.mono _ _)
      | (with_reducible exact LeO.refl _)
      | (with_reducible exact LeO.none _)
      | (with_reducible refine LeO.ite ?_ ?_)
      | (with_reducible refine LeO.bind ?_ (fun _ => ?_))
      | exact ih0 _ _ _ _ _
      | exact lw02_works.mono _
      | exact utf_Right.mono _ _
      | exact utf_Text.mono _ _
      | exact LeO.none _
      | refine LeO.ite ?_ ?_
      | refine LeO.bind ?_ (fun _ => ?_)
set_option maxHeartbeats 8000000 in
set_option maxRecDepth 100000 in
theorem lw02_UtfCuts.calls (k : Nat) (A0 : Option Addr) (c0 : Nat) (l0 : List Int) (a1 : Int) (r : Bool) (w : World) (hG : Hd w) (hr0 : Kd.C (Kd.int .u32) w A0 l0.length l0) (hc0 : l0.length ≤ c0) (h : lw02_UtfCuts.f k l0 a1 = some r) :
    Calls Tryd.prog 6 #[.slice A0 l0.length c0, .int .u16 a1] w fun e w' => e = .returned (.bool r) ∧ Below w.heap.size w w' := by
  have HR0 := Aside0.mk hr0
  have HC0 := Aside0.mk hc0
  clear hr0 hc0
  have HB := Aside0.mk (Below.refl w.heap.size w)
  have HG := Aside0.mk hG
  clear hG
  have H : (if (l0.length : Int) > 2048 then ((lw02_works.f k).bind fun t126 => (some t126)) else ((utf_Text.f k l0).bind fun bt127 => (if bt127.2 = true then (lw02_UtfCuts.j0 k l0 a1 bt127.1 bt127.2 ((bt127.1.length : Int) == 0)) else (lw02_UtfCuts.j0 k l0 a1 bt127.1 bt127.2 true)))) = some r := h
  clear h
  by_cases c3 : (l0.length : Int) > 2048
  · rw [if_pos c3] at H
    have c3b0 : decide (2048 < (l0.length : Int)) = true := decide_eq_true c3
    have c3b1 : decide (2048 < l0.length) = true := decide_eq_true (by omega)
    clear c3
    replace H := Option.bind_eq_some_iff.mp H
    obtain ⟨t126, A40, H⟩ := H
    replace H : (some t126) = some r := H
    have A4 := Aside0.mk A40
    clear A40
    obtain rfl := Option.some.inj H
    go_enter Tryd.func6, Tryd.ntmps6
    go_wp2_with (first | ((with_reducible refine gate_callee (f := 10) rfl ?_); refine goesL_ (some 12) rfl rfl Tryd.func10 (by kernel_rfl) rfl #[] rfl (by (try simp only [List.map_toArray, List.map_cons, List.map_nil]); first | done | rfl | (simp only [List.length_drop, List.length_take]; rfl)) ?_; (with_reducible refine (lw02_works.calls k  t126 _ ?side1 A4.out).mono ?_); (case side1 => exact Hd.below HG.out HG.out.size (by repeat (first | (with_reducible first | exact HB.out | apply below_alloc | apply pw_below_drewN | apply below_drew1) | exact HB.out))); rintro e w5 ⟨rfl, hb⟩; refine ⟨_, rfl, ?_⟩; have n0_ := Aside0.mk (below_step (by repeat (first | (with_reducible first | exact HB.out | apply below_alloc | apply pw_below_drewN | apply below_drew1) | exact HB.out)) hb); clear HB; have HB := n0_; clear n0_; (try clear hb); (try clear hb2); (try clear hk); (try clear hi); (try clear hgw)))
    go_ret
    exact ⟨by first | rfl | (simp [errW_none, errW_some] <;> rfl) | (simp [*, errW_none, errW_some] <;> rfl), by repeat (first | (with_reducible first | exact HB.out | apply below_alloc | apply pw_below_drewN | apply below_drew1) | exact HB.out)⟩
  · rw [if_neg c3] at H
    have c3b0 : decide (2048 < (l0.length : Int)) = false := decide_eq_false c3
    have c3b1 : decide (2048 < l0.length) = false := decide_eq_false (by omega)
    clear c3
    replace H := Option.bind_eq_some_iff.mp H
    obtain ⟨⟨t127, t128⟩, A60, H⟩ := H
    replace H : (if t128 = true then (lw02_UtfCuts.j0 k l0 a1 t127 t128 ((t127.length : Int) == 0)) else (lw02_UtfCuts.j0 k l0 a1 t127 t128 true)) = some r := H
    have A6 := Aside0.mk A60
    clear A60
    have HC7 := Aside0.mk H
    clear H
    go_enter Tryd.func6, Tryd.ntmps6
    go_upto_region 4 with (first | ((with_reducible refine gate_callee (f := 11) rfl ?_); refine goesL_ (some 15) rfl rfl Tryd.func11 (by kernel_rfl) rfl #[.slice A0 l0.length c0] rfl (by (try simp only [List.map_toArray, List.map_cons, List.map_nil]); first | done | rfl | (simp only [List.length_drop, List.length_take]; rfl)) ?_; (with_reducible refine (utf_Text.calls k _ _ l0 t127 t128 _ ?side1 ?side2 ?side3 A6.out).mono ?_); (case side1 => exact Hd.below HG.out HG.out.size (by repeat (first | (with_reducible first | exact HB.out | apply below_alloc | apply pw_below_drewN | apply below_drew1) | exact HB.out))); (case side2 => repeat (first | exact HR0.out | (with_reducible refine Kd.C_alloc ?_ _) | (with_reducible refine Kd.C_drewN ?_ _) | (with_reducible refine Kd.C_drew ?_))); (case side3 => exact HC0.out); rintro e w8 ⟨v129, rfl, ho0, hb⟩; refine ⟨_, rfl, ?_⟩; have n0_ := Aside0.mk (Kd.R_lower ho0 (below_size (by repeat (first | (with_reducible first | exact HB.out | apply below_alloc | apply pw_below_drewN | apply below_drew1) | exact HB.out)))); have n1_ := Aside0.mk (below_step (by repeat (first | (with_reducible first | exact HB.out | apply below_alloc | apply pw_below_drewN | apply below_drew1) | exact HB.out)) hb); clear HB; have HO130 := n0_; have HB := n1_; clear n0_ n1_; (try clear hb); (try clear hb2); (try clear hk); (try clear hi); (try clear hgw); (try clear ho0)))
    (try simp only [Act.put, List.setIfInBounds_toArray, List.set_cons_zero, List.set_cons_succ])
    go_cut [24] (fun v24 wc => ∃ (kq : Nat) (x24_6 : Bool), v24 = .bool x24_6 ∧ Aside0 (lw02_UtfCuts.j0 kq l0 a1 t127 t128 x24_6 = some r) ∧ Aside0 (kq ≤ k) ∧ Aside0 (Kd.R (Kd.int .u8) 5 wc w.heap.size (fun _ => True) v129 t127) ∧ Aside0 (Below w.heap.size w wc))
    case first =>
      have H := HC7.out
      clear HC7
      by_cases c9 : t128 = true
      · subst c9
        have H1 : (lw02_UtfCuts.j0 k l0 a1 t127 true ((t127.length : Int) == 0)) = some r := by rw [if_pos rfl] at H; exact H
        clear H
        have H := H1
        clear H1
        have H' := Aside0.mk H
        clear H
        obtain ⟨Ao10, co10, eo10⟩ := Kd.R_slice HO130.out
        subst eo10
        go_wp2
        go_meet
        case rel => exact ⟨_, (((t127.length : Int) == 0)), (by first | rfl | (simp; done) | (simp [*]; done)), H', ⟨by first | omega | exact Nat.le_refl _⟩, ⟨by (with_reducible repeat (first | apply Kd.R_alloc | apply Kd.R_drewN | apply Kd.R_drew)); exact HO130.out⟩, ⟨by repeat (first | (with_reducible first | exact HB.out | apply below_alloc | apply pw_below_drewN | apply below_drew1) | exact HB.out)⟩⟩
      · replace c9 := Bool.eq_false_iff.mpr c9
        subst c9
        have H1 : (lw02_UtfCuts.j0 k l0 a1 t127 false true) = some r := by rw [if_neg (show ¬ (false = true) by decide)] at H; exact H
        clear H
        have H := H1
        clear H1
        have H' := Aside0.mk H
        clear H
        go_wp2
        go_meet
        case rel => exact ⟨_, (true), (by first | rfl | (simp; done) | (simp [*]; done)), H', ⟨by first | omega | exact Nat.le_refl _⟩, ⟨by (with_reducible repeat (first | apply Kd.R_alloc | apply Kd.R_drewN | apply Kd.R_drew)); exact HO130.out⟩, ⟨by repeat (first | (with_reducible first | exact HB.out | apply below_alloc | apply pw_below_drewN | apply below_drew1) | exact HB.out)⟩⟩
    case rest =>
      clear HC7
      try clear c1
      try clear p2
      try clear c3
      try clear c3b0
      try clear c3b1
      try clear c6
      try clear c9
      try clear c10
      obtain ⟨kq, x24_6, rfl, HA, HJ6, HO_5, HB⟩ := hcut
      cases kq with
      | zero => exact absurd HA.out (by simp [lw02_UtfCuts.j0])
      | succ kj6 =>
        have H := HA.out
        clear HA
        simp only [lw02_UtfCuts.j0] at H
        by_cases c11 : x24_6 = true
        · subst c11
          have H1 : (if (t128 == ((l0.length : Int) == 0)) = true then ((lw02_works.f kj6).bind fun t131 => (some t131)) else (if t128 = true then (some false) else ((lw02_works.f kj6).bind fun t132 => (some t132)))) = some r := by rw [if_pos rfl] at H; exact H
          clear H
          have H := H1
          clear H1
          by_cases c12 : (t128 == ((l0.length : Int) == 0)) = true
          · rw [if_pos c12] at H
            have c12b0 : (t128 == ((l0.length : Int) == 0)) = true := c12
            (try (have c12bg : t128 = true := by (have z := c12b0; clear c12b0; (try clear c12); simp [*] at z; exact z)))
            (try (have c12bh : t128 = false := by (have z := c12b0; clear c12b0; (try clear c12); simp [*] at z; exact z)))
            (try (have c12b1 : decide (t128 = ((l0.length : Int) == 0)) = true := by simpa using c12))
            (try (have c12b2 : (t128 == ((l0.length : Int) == 0)) = true := by simpa using c12))
            clear c12
            replace H := Option.bind_eq_some_iff.mp H
            obtain ⟨t131, A130, H⟩ := H
            replace H : (some t131) = some r := H
            have A13 := Aside0.mk A130
            clear A130
            obtain rfl := Option.some.inj H
            go_wp2_with (first | (go_at_call 10; (with_reducible refine (lw02_works.calls kj6  t131 _ ?side1 A13.out).mono ?_); (case side1 => exact Hd.below HG.out HG.out.size (by repeat (first | (with_reducible first | exact HB.out | apply below_alloc | apply pw_below_drewN | apply below_drew1) | exact HB.out))); rintro e w14 ⟨rfl, hb⟩; have n0_ := Aside0.mk (Kd.R_below (by (with_reducible repeat (first | apply Kd.R_alloc | apply Kd.R_drewN | apply Kd.R_drew)); exact HO_5.out) hb); have n1_ := Aside0.mk (below_step (by repeat (first | (with_reducible first | exact HB.out | apply below_alloc | apply pw_below_drewN | apply below_drew1) | exact HB.out)) hb); clear HO_5; clear HB; have HO_5 := n0_; have HB := n1_; clear n0_ n1_; (try clear hb); (try clear hb2); (try clear hk); (try clear hi); (try clear hgw)))
            go_ret
            exact ⟨by first | rfl | (simp [errW_none, errW_some] <;> rfl) | (simp [*, errW_none, errW_some] <;> rfl), by repeat (first | (with_reducible first | exact HB.out | apply below_alloc | apply pw_below_drewN | apply below_drew1) | exact HB.out)⟩
          · rw [if_neg c12] at H
            have c12b0 : (t128 == ((l0.length : Int) == 0)) = false := by simpa using c12
            (try (have c12bg : t128 = true := by (have z := c12b0; clear c12b0; (try clear c12); simp [*] at z; exact z)))
            (try (have c12bh : t128 = false := by (have z := c12b0; clear c12b0; (try clear c12); simp [*] at z; exact z)))
            (try (have c12b1 : decide (t128 = ((l0.length : Int) == 0)) = false := by simpa using c12))
            (try (have c12b2 : (t128 == ((l0.length : Int) == 0)) = false := by simpa using c12))
            (try (have c12b3 : ¬ (t128 = ((l0.length : Int) == 0)) := by simpa using c12))
            clear c12
            by_cases c15 : t128 = true
            · subst c15
              have H1 : (some false) = some r := by rw [if_pos rfl] at H; exact H
              clear H
              have H := H1
              clear H1
              obtain rfl := Option.some.inj H
              go_wp2
              go_ret
              exact ⟨by first | rfl | (simp [errW_none, errW_some] <;> rfl) | (simp [*, errW_none, errW_some] <;> rfl), by repeat (first | (with_reducible first | exact HB.out | apply below_alloc | apply pw_below_drewN | apply below_drew1) | exact HB.out)⟩
            · replace c15 := Bool.eq_false_iff.mpr c15
              subst c15
              have H1 : ((lw02_works.f kj6).bind fun t132 => (some t132)) = some r := by rw [if_neg (show ¬ (false = true) by decide)] at H; exact H
              clear H
              have H := H1
              clear H1
              replace H := Option.bind_eq_some_iff.mp H
              obtain ⟨t132, A160, H⟩ := H
              replace H : (some t132) = some r := H
              have A16 := Aside0.mk A160
              clear A160
              obtain rfl := Option.some.inj H
              go_wp2_with (first | (go_at_call 10; (with_reducible refine (lw02_works.calls kj6  t132 _ ?side1 A16.out).mono ?_); (case side1 => exact Hd.below HG.out HG.out.size (by repeat (first | (with_reducible first | exact HB.out | apply below_alloc | apply pw_below_drewN | apply below_drew1) | exact HB.out))); rintro e w17 ⟨rfl, hb⟩; have n0_ := Aside0.mk (Kd.R_below (by (with_reducible repeat (first | apply Kd.R_alloc | apply Kd.R_drewN | apply Kd.R_drew)); exact HO_5.out) hb); have n1_ := Aside0.mk (below_step (by repeat (first | (with_reducible first | exact HB.out | apply below_alloc | apply pw_below_drewN | apply below_drew1) | exact HB.out)) hb); clear HO_5; clear HB; have HO_5 := n0_; have HB := n1_; clear n0_ n1_; (try clear hb); (try clear hb2); (try clear hk); (try clear hi); (try clear hgw)))
              go_ret
              exact ⟨by first | rfl | (simp [errW_none, errW_some] <;> rfl) | (simp [*, errW_none, errW_some] <;> rfl), by repeat (first | (with_reducible first | exact HB.out | apply below_alloc | apply pw_below_drewN | apply below_drew1) | exact HB.out)⟩
        · replace c11 := Bool.eq_false_iff.mpr c11
          subst c11
          have H1 : (if (t127.length : Int) = 0 then (none) else (if 0 ≤ (Int.tmod (wrap64 (a1)) (t127.length : Int)) then (if (Int.tmod (wrap64 (a1)) (t127.length : Int)) < (t127.length : Int) then (if (rd t127 (Int.tmod (wrap64 (a1)) (t127.length : Int))) ≥ 128 then (if (Int.tmod (wrap64 (a1)) (t127.length : Int)) ≤ (t127.length : Int) then ((utf_Right.f kj6 (t127.take ((Int.tmod (wrap64 (a1)) (t127.length : Int)) : Int).toNat)).bind fun t139 => (if (t139 == (!(decide ((rd t127 (Int.tmod (wrap64 (a1)) (t127.length : Int))) < 192)))) = true then ((utf_Right.f kj6 (t127.drop ((Int.tmod (wrap64 (a1)) (t127.length : Int)) : Int).toNat)).bind fun t144 => (if (t144 == (!(decide ((rd t127 (Int.tmod (wrap64 (a1)) (t127.length : Int))) < 192)))) = true then ((lw02_works.f kj6).bind fun t145 => (some t145)) else (some false))) else (some false))) else (none)) else (if (Int.tmod (wrap64 (a1)) (t127.length : Int)) ≤ (t127.length : Int) then ((utf_Right.f kj6 (t127.take ((Int.tmod (wrap64 (a1)) (t127.length : Int)) : Int).toNat)).bind fun t150 => (if (t150 == (!false)) = true then ((utf_Right.f kj6 (t127.drop ((Int.tmod (wrap64 (a1)) (t127.length : Int)) : Int).toNat)).bind fun t155 => (if (t155 == (!false)) = true then ((lw02_works.f kj6).bind fun t156 => (some t156)) else (some false))) else (some false))) else (none))) else (none)) else (none))) = some r := by rw [if_neg (show ¬ (false = true) by decide)] at H; exact H
          clear H
          have H := H1
          clear H1
          by_cases c18 : (t127.length : Int) = 0
          · rw [if_pos c18] at H
            exact absurd H (by simp)
          · rw [if_neg c18] at H
            have c18b0 : ((t127.length : Int) == 0) = false := beq_eq_false_iff_ne.mpr c18
            have c18b1 : ((t127.length : Int) != 0) = true := bne_iff_ne.mpr c18
            have c18b2 : ¬ (t127 = []) := fun h_ => c18 (by rw [h_]; rfl)
            obtain ⟨ji19, hji19⟩ : ∃ j_ : Int, (Int.tmod (wrap64 (a1)) (t127.length : Int)) = j_ := ⟨_, rfl⟩
            replace H : (if 0 ≤ (ji19) then (if (ji19) < (t127.length : Int) then (if (rd t127 (ji19)) ≥ 128 then (if (ji19) ≤ (t127.length : Int) then ((utf_Right.f kj6 (t127.take ((ji19) : Int).toNat)).bind fun t139 => (if (t139 == (!(decide ((rd t127 (ji19)) < 192)))) = true then ((utf_Right.f kj6 (t127.drop ((ji19) : Int).toNat)).bind fun t144 => (if (t144 == (!(decide ((rd t127 (ji19)) < 192)))) = true then ((lw02_works.f kj6).bind fun t145 => (some t145)) else (some false))) else (some false))) else (none)) else (if (ji19) ≤ (t127.length : Int) then ((utf_Right.f kj6 (t127.take ((ji19) : Int).toNat)).bind fun t150 => (if (t150 == (!false)) = true then ((utf_Right.f kj6 (t127.drop ((ji19) : Int).toNat)).bind fun t155 => (if (t155 == (!false)) = true then ((lw02_works.f kj6).bind fun t156 => (some t156)) else (some false))) else (some false))) else (none))) else (none)) else (none)) = some r := by first | (rw [hji19] at H; exact H) | (simp only [hji19] at H ⊢; exact H)
            by_cases c20 : 0 ≤ (ji19)
            · rw [if_pos c20] at H
              have c20b0 : decide (0 ≤ (ji19)) = true := decide_eq_true c20
              clear c20
              by_cases c21 : (ji19) < (t127.length : Int)
              · rw [if_pos c21] at H
                have c21b0 : decide ((ji19) < (t127.length : Int)) = true := decide_eq_true c21
                clear c21
                by_cases c22 : (rd t127 (ji19)) ≥ 128
                · rw [if_pos c22] at H
                  have c22b0 : decide (128 ≤ (rd t127 (ji19))) = true := decide_eq_true c22
                  clear c22
                  have c23b0 := eq_true (of_decide_eq_true (by first | (with_reducible assumption) | assumption) : 0 ≤ (ji19))
                  by_cases c24 : (ji19) ≤ (t127.length : Int)
                  · rw [if_pos c24] at H
                    have c24b0 := eq_true c24
                    have c24b1 : decide ((ji19) ≤ (t127.length : Int)) = true := decide_eq_true c24
                    clear c24
                    obtain ⟨y135, hy135⟩ : ∃ y_ : List Int, y_ = (t127.take ((ji19) : Int).toNat) := ⟨_, rfl⟩
                    replace H : ((utf_Right.f kj6 y135).bind fun t139 => (if (t139 == (!(decide ((rd t127 (ji19)) < 192)))) = true then ((utf_Right.f kj6 (t127.drop ((ji19) : Int).toNat)).bind fun t144 => (if (t144 == (!(decide ((rd t127 (ji19)) < 192)))) = true then ((lw02_works.f kj6).bind fun t145 => (some t145)) else (some false))) else (some false))) = some r := by first | (rw [hy135]; with_reducible exact H) | (have H2_ := (Option.bind_some _ _).symm.trans H; rw [hy135]; with_reducible exact H2_) | (have H2_ := (Option.bind_some _ _).symm.trans H; with_reducible exact H2_) | with_reducible exact H | (rw [hy135]; exact H) | exact H
                    have Ny135 := Aside0.mk hy135
                    clear hy135
                    replace H := Option.bind_eq_some_iff.mp H
                    obtain ⟨t139, A250, H⟩ := H
                    replace H : (if (t139 == (!(decide ((rd t127 (ji19)) < 192)))) = true then ((utf_Right.f kj6 (t127.drop ((ji19) : Int).toNat)).bind fun t144 => (if (t144 == (!(decide ((rd t127 (ji19)) < 192)))) = true then ((lw02_works.f kj6).bind fun t145 => (some t145)) else (some false))) else (some false)) = some r := H
                    have A25 := Aside0.mk A250
                    clear A250
                    by_cases c26 : (t139 == (!(decide ((rd t127 (ji19)) < 192)))) = true
                    · rw [if_pos c26] at H
                      have c26b0 : (t139 == (!(decide ((rd t127 (ji19)) < 192)))) = true := c26
                      (try (have c26bg : t139 = true := by (have z := c26b0; clear c26b0; (try clear c26); simp [*] at z; exact z)))
                      (try (have c26bh : t139 = false := by (have z := c26b0; clear c26b0; (try clear c26); simp [*] at z; exact z)))
                      (try (have c26b1 : decide (t139 = (!(decide ((rd t127 (ji19)) < 192)))) = true := by simpa using c26))
                      (try (have c26b2 : (t139 == (!(decide ((rd t127 (ji19)) < 192)))) = true := by simpa using c26))
                      clear c26
                      have c27b0 := eq_true (of_decide_eq_true (by first | (with_reducible assumption) | assumption) : 0 ≤ (ji19))
                      have c28b0 := eq_true (of_decide_eq_true (by first | (with_reducible assumption) | assumption) : (ji19) ≤ (t127.length : Int))
                      obtain ⟨y140, hy140⟩ : ∃ y_ : List Int, y_ = (t127.drop ((ji19) : Int).toNat) := ⟨_, rfl⟩
                      replace H : ((utf_Right.f kj6 y140).bind fun t144 => (if (t144 == (!(decide ((rd t127 (ji19)) < 192)))) = true then ((lw02_works.f kj6).bind fun t145 => (some t145)) else (some false))) = some r := by first | (rw [hy140]; with_reducible exact H) | (have H2_ := (Option.bind_some _ _).symm.trans H; rw [hy140]; with_reducible exact H2_) | (have H2_ := (Option.bind_some _ _).symm.trans H; with_reducible exact H2_) | with_reducible exact H | (rw [hy140]; exact H) | exact H
                      have Ny140 := Aside0.mk hy140
                      clear hy140
                      replace H := Option.bind_eq_some_iff.mp H
                      obtain ⟨t144, A290, H⟩ := H
                      replace H : (if (t144 == (!(decide ((rd t127 (ji19)) < 192)))) = true then ((lw02_works.f kj6).bind fun t145 => (some t145)) else (some false)) = some r := H
                      have A29 := Aside0.mk A290
                      clear A290
                      by_cases c30 : (t144 == (!(decide ((rd t127 (ji19)) < 192)))) = true
                      · rw [if_pos c30] at H
                        have c30b0 : (t144 == (!(decide ((rd t127 (ji19)) < 192)))) = true := c30
                        (try (have c30bg : t144 = true := by (have z := c30b0; clear c30b0; (try clear c30); simp [*] at z; exact z)))
                        (try (have c30bh : t144 = false := by (have z := c30b0; clear c30b0; (try clear c30); simp [*] at z; exact z)))
                        (try (have c30b1 : decide (t144 = (!(decide ((rd t127 (ji19)) < 192)))) = true := by simpa using c30))
                        (try (have c30b2 : (t144 == (!(decide ((rd t127 (ji19)) < 192)))) = true := by simpa using c30))
                        clear c30
                        replace H := Option.bind_eq_some_iff.mp H
                        obtain ⟨t145, A310, H⟩ := H
                        replace H : (some t145) = some r := H
                        have A31 := Aside0.mk A310
                        clear A310
                        obtain rfl := Option.some.inj H
                        obtain ⟨Ao32, co32, eo32⟩ := Kd.R_slice HO_5.out
                        subst eo32
                        have p133 : 0 ≤ ((ji19) : Int) := of_decide_eq_true (by first | (with_reducible assumption) | assumption)
                        have q133 : (ji19) < (t127.length : Int) := of_decide_eq_true (by first | (with_reducible assumption) | assumption)
                        obtain ⟨ad133, e133, hx133_0⟩ := Kd.at_int (Kd.R_reads' HO_5.out).2.2 (ji19) p133 q133
                        cases e133
                        replace p133 := eq_true p133
                        replace q133 := eq_true q133
                        have p134 : 0 ≤ ((ji19) : Int) := of_decide_eq_true (by first | (with_reducible assumption) | assumption)
                        have q134 : (ji19) < (t127.length : Int) := of_decide_eq_true (by first | (with_reducible assumption) | assumption)
                        obtain ⟨ad134, e134, hx134_0⟩ := Kd.at_int (Kd.R_reads' HO_5.out).2.2 (ji19) p134 q134
                        obtain rfl : ad133 = ad134 := (by injection e134)
                        replace p134 := eq_true p134
                        replace q134 := eq_true q134
                        have q33 : ((ji19) : Int) ≤ ((t127.length : Int) : Int) := of_decide_eq_true (by first | (with_reducible assumption) | assumption)
                        obtain ⟨i033, hi033, _, hsz33, _⟩ := info_parts info5
                        have hroom33 : t127.length ≤ co32 := (Kd.R_reads' HO_5.out).2.1
                        have hC33 : Kd.C (Kd.int .u8) _ (some ad133) t127.length t127 := (Kd.R_reads' HO_5.out).2.2
                        have hcut33 := cut_to (P := Tryd.prog) 25 5 .i64 Tryd.underlying25 hi033 (some ad133) t127.length co32 (ji19) (of_decide_eq_true (by first | (with_reducible assumption) | assumption)) q33 hroom33
                        have hr33 := Kd.C_take (m := ((ji19) : Int).toNat) hC33 (by omega)
                        have hy33 : y135.length = ((ji19) : Int).toNat := (by rw [Ny135.out, List.length_take]; omega)
                        rw [← Ny135.out] at hr33
                        rw [← hy33] at hcut33
                        have HR138 := Aside0.mk hr33
                        have HC138 := Aside0.mk (show y135.length ≤ co32 from by omega)
                        clear hr33 hC33 hroom33 hi033 hsz33
                        have KY33 := Aside0.mk hy33
                        clear hy33
                        have KL33 := Aside0.mk (show ((ji19) : Int).toNat ≤ t127.length from by omega)
                        replace q33 := eq_true q33
                        go_wp2_with (first | ((with_reducible refine gate_callee (f := 18) rfl ?_); refine goesL_ (some 57) rfl rfl Tryd.func18 (by kernel_rfl) rfl #[.slice (some ad133) y135.length co32] rfl (by (try simp only [List.map_toArray, List.map_cons, List.map_nil]); first | done | rfl | (simp only [List.length_drop, List.length_take]; rfl)) ?_; (with_reducible refine (utf_Right.calls kj6 _ _ y135 t139 _ ?side1 ?side2 A25.out).mono ?_); (case side1 => repeat (first | exact (by repeat (first | (with_reducible exact HR138.out) | (with_reducible refine Kd.C_alloc ?_ _) | (with_reducible refine Kd.C_drewN ?_ _) | (with_reducible refine Kd.C_drew ?_) | exact HR138.out)) | (with_reducible refine Kd.C_alloc ?_ _) | (with_reducible refine Kd.C_drewN ?_ _) | (with_reducible refine Kd.C_drew ?_))); (case side2 => exact HC138.out); rintro e w34 ⟨rfl, hb⟩; refine ⟨_, rfl, ?_⟩; have n0_ := Aside0.mk (Kd.R_below (by (with_reducible repeat (first | apply Kd.R_alloc | apply Kd.R_drewN | apply Kd.R_drew)); exact HO_5.out) hb); have n1_ := Aside0.mk (Kd.C_below (by repeat (first | (with_reducible exact HR138.out) | (with_reducible refine Kd.C_alloc ?_ _) | (with_reducible refine Kd.C_drewN ?_ _) | (with_reducible refine Kd.C_drew ?_) | exact HR138.out)) hb); have n2_ := Aside0.mk (below_step (by repeat (first | (with_reducible first | exact HB.out | apply below_alloc | apply pw_below_drewN | apply below_drew1) | exact HB.out)) hb); clear HO_5; clear HR138; clear HB; have HO_5 := n0_; have HR138 := n1_; have HB := n2_; clear n0_ n1_ n2_; (try clear hb); (try clear hb2); (try clear hk); (try clear hi); (try clear hgw); have q35 : ((ji19) : Int) ≤ ((t127.length : Int) : Int) := of_decide_eq_true (by first | (with_reducible assumption) | assumption); obtain ⟨i035, hi035, _, hsz35, _⟩ := info_parts info5; have hroom35 : t127.length ≤ co32 := (Kd.R_reads' HO_5.out).2.1; have hC35 : Kd.C (Kd.int .u8) _ (some ad133) t127.length t127 := (Kd.R_reads' HO_5.out).2.2; have q035 : (0 : Int) ≤ ((ji19) : Int) := of_decide_eq_true (by first | (with_reducible assumption) | assumption); have hcut35 := cut_from (P := Tryd.prog) 25 5 .i64 Tryd.underlying25 hi035 1 hsz35 (some ad133) t127.length co32 (ji19) q035 q35; have hr35 := Kd.C_drop (m := ((ji19) : Int).toNat) (c := co32) hC35 (by omega) hroom35; obtain ⟨A35, hA35⟩ : ∃ A1, A1 = (if co32 = ((ji19) : Int).toNat then (some ad133) else ((some ad133) : Option Addr).map (·.add (((ji19) : Int).toNat * 1))) := ⟨_, rfl⟩; obtain ⟨c35, hc35⟩ : ∃ c1, c1 = co32 - ((ji19) : Int).toNat := ⟨_, rfl⟩; have hy35 : y140.length = t127.length - ((ji19) : Int).toNat := (by rw [Ny140.out, List.length_drop] <;> omega); rw [show (t127).drop ((ji19) : Int).toNat = y140 from Ny140.out.symm] at hr35; replace hr35 : Kd.C (Kd.int .u8) _ A35 y140.length y140 := (by rw [hA35]; exact hr35); rw [← hy35, ← hA35, ← hc35] at hcut35; have HR143 := Aside0.mk hr35; have HC143 := Aside0.mk (show y140.length ≤ c35 from by rw [hy35, hc35]; exact Nat.sub_le_sub_right hroom35 _); clear hr35 hC35 hroom35 hi035 hsz35 hc35; have KY35 := Aside0.mk hy35; have KA35 := Aside0.mk hA35; clear hy35 hA35; have KL35 := Aside0.mk (show ((ji19) : Int).toNat ≤ t127.length from by omega); replace q35 := eq_true q35) | (go_at_call 18; (with_reducible refine (utf_Right.calls kj6 _ _ y140 t144 _ ?side1 ?side2 A29.out).mono ?_); (case side1 => repeat (first | exact (by repeat (first | (with_reducible exact HR143.out) | (with_reducible refine Kd.C_alloc ?_ _) | (with_reducible refine Kd.C_drewN ?_ _) | (with_reducible refine Kd.C_drew ?_) | exact HR143.out)) | (with_reducible refine Kd.C_alloc ?_ _) | (with_reducible refine Kd.C_drewN ?_ _) | (with_reducible refine Kd.C_drew ?_))); (case side2 => exact HC143.out); rintro e w36 ⟨rfl, hb⟩; have n0_ := Aside0.mk (Kd.R_below (by (with_reducible repeat (first | apply Kd.R_alloc | apply Kd.R_drewN | apply Kd.R_drew)); exact HO_5.out) hb); have n1_ := Aside0.mk (Kd.C_below (by repeat (first | (with_reducible exact HR138.out) | (with_reducible refine Kd.C_alloc ?_ _) | (with_reducible refine Kd.C_drewN ?_ _) | (with_reducible refine Kd.C_drew ?_) | exact HR138.out)) hb); have n2_ := Aside0.mk (Kd.C_below (by repeat (first | (with_reducible exact HR143.out) | (with_reducible refine Kd.C_alloc ?_ _) | (with_reducible refine Kd.C_drewN ?_ _) | (with_reducible refine Kd.C_drew ?_) | exact HR143.out)) hb); have n3_ := Aside0.mk (below_step (by repeat (first | (with_reducible first | exact HB.out | apply below_alloc | apply pw_below_drewN | apply below_drew1) | exact HB.out)) hb); clear HO_5; clear HR138; clear HR143; clear HB; have HO_5 := n0_; have HR138 := n1_; have HR143 := n2_; have HB := n3_; clear n0_ n1_ n2_ n3_; (try clear hb); (try clear hb2); (try clear hk); (try clear hi); (try clear hgw)) | (go_at_call 10; (with_reducible refine (lw02_works.calls kj6  t145 _ ?side1 A31.out).mono ?_); (case side1 => exact Hd.below HG.out HG.out.size (by repeat (first | (with_reducible first | exact HB.out | apply below_alloc | apply pw_below_drewN | apply below_drew1) | exact HB.out))); rintro e w37 ⟨rfl, hb⟩; have n0_ := Aside0.mk (Kd.R_below (by (with_reducible repeat (first | apply Kd.R_alloc | apply Kd.R_drewN | apply Kd.R_drew)); exact HO_5.out) hb); have n1_ := Aside0.mk (Kd.C_below (by repeat (first | (with_reducible exact HR138.out) | (with_reducible refine Kd.C_alloc ?_ _) | (with_reducible refine Kd.C_drewN ?_ _) | (with_reducible refine Kd.C_drew ?_) | exact HR138.out)) hb); have n2_ := Aside0.mk (Kd.C_below (by repeat (first | (with_reducible exact HR143.out) | (with_reducible refine Kd.C_alloc ?_ _) | (with_reducible refine Kd.C_drewN ?_ _) | (with_reducible refine Kd.C_drew ?_) | exact HR143.out)) hb); have n3_ := Aside0.mk (below_step (by repeat (first | (with_reducible first | exact HB.out | apply below_alloc | apply pw_below_drewN | apply below_drew1) | exact HB.out)) hb); clear HO_5; clear HR138; clear HR143; clear HB; have HO_5 := n0_; have HR138 := n1_; have HR143 := n2_; have HB := n3_; clear n0_ n1_ n2_ n3_; (try clear hb); (try clear hb2); (try clear hk); (try clear hi); (try clear hgw)))
                        go_ret
                        exact ⟨by first | rfl | (simp [errW_none, errW_some] <;> rfl) | (simp only [← hji19]; first | rfl | (simp [errW_none, errW_some] <;> rfl)) | (simp [*, errW_none, errW_some] <;> rfl), by repeat (first | (with_reducible first | exact HB.out | apply below_alloc | apply pw_below_drewN | apply below_drew1) | exact HB.out)⟩
                      · rw [if_neg c30] at H
                        have c30b0 : (t144 == (!(decide ((rd t127 (ji19)) < 192)))) = false := by simpa using c30
                        (try (have c30bg : t144 = true := by (have z := c30b0; clear c30b0; (try clear c30); simp [*] at z; exact z)))
                        (try (have c30bh : t144 = false := by (have z := c30b0; clear c30b0; (try clear c30); simp [*] at z; exact z)))
                        (try (have c30b1 : decide (t144 = (!(decide ((rd t127 (ji19)) < 192)))) = false := by simpa using c30))
                        (try (have c30b2 : (t144 == (!(decide ((rd t127 (ji19)) < 192)))) = false := by simpa using c30))
                        (try (have c30b3 : ¬ (t144 = (!(decide ((rd t127 (ji19)) < 192)))) := by simpa using c30))
                        clear c30
                        obtain rfl := Option.some.inj H
                        obtain ⟨Ao38, co38, eo38⟩ := Kd.R_slice HO_5.out
                        subst eo38
                        have p133 : 0 ≤ ((ji19) : Int) := of_decide_eq_true (by first | (with_reducible assumption) | assumption)
                        have q133 : (ji19) < (t127.length : Int) := of_decide_eq_true (by first | (with_reducible assumption) | assumption)
                        obtain ⟨ad133, e133, hx133_0⟩ := Kd.at_int (Kd.R_reads' HO_5.out).2.2 (ji19) p133 q133
                        cases e133
                        replace p133 := eq_true p133
                        replace q133 := eq_true q133
                        have p134 : 0 ≤ ((ji19) : Int) := of_decide_eq_true (by first | (with_reducible assumption) | assumption)
                        have q134 : (ji19) < (t127.length : Int) := of_decide_eq_true (by first | (with_reducible assumption) | assumption)
                        obtain ⟨ad134, e134, hx134_0⟩ := Kd.at_int (Kd.R_reads' HO_5.out).2.2 (ji19) p134 q134
                        obtain rfl : ad133 = ad134 := (by injection e134)
                        replace p134 := eq_true p134
                        replace q134 := eq_true q134
                        have q39 : ((ji19) : Int) ≤ ((t127.length : Int) : Int) := of_decide_eq_true (by first | (with_reducible assumption) | assumption)
                        obtain ⟨i039, hi039, _, hsz39, _⟩ := info_parts info5
                        have hroom39 : t127.length ≤ co38 := (Kd.R_reads' HO_5.out).2.1
                        have hC39 : Kd.C (Kd.int .u8) _ (some ad133) t127.length t127 := (Kd.R_reads' HO_5.out).2.2
                        have hcut39 := cut_to (P := Tryd.prog) 25 5 .i64 Tryd.underlying25 hi039 (some ad133) t127.length co38 (ji19) (of_decide_eq_true (by first | (with_reducible assumption) | assumption)) q39 hroom39
                        have hr39 := Kd.C_take (m := ((ji19) : Int).toNat) hC39 (by omega)
                        have hy39 : y135.length = ((ji19) : Int).toNat := (by rw [Ny135.out, List.length_take]; omega)
                        rw [← Ny135.out] at hr39
                        rw [← hy39] at hcut39
                        have HR138 := Aside0.mk hr39
                        have HC138 := Aside0.mk (show y135.length ≤ co38 from by omega)
                        clear hr39 hC39 hroom39 hi039 hsz39
                        have KY39 := Aside0.mk hy39
                        clear hy39
                        have KL39 := Aside0.mk (show ((ji19) : Int).toNat ≤ t127.length from by omega)
                        replace q39 := eq_true q39
                        go_wp2_with (first | ((with_reducible refine gate_callee (f := 18) rfl ?_); refine goesL_ (some 57) rfl rfl Tryd.func18 (by kernel_rfl) rfl #[.slice (some ad133) y135.length co38] rfl (by (try simp only [List.map_toArray, List.map_cons, List.map_nil]); first | done | rfl | (simp only [List.length_drop, List.length_take]; rfl)) ?_; (with_reducible refine (utf_Right.calls kj6 _ _ y135 t139 _ ?side1 ?side2 A25.out).mono ?_); (case side1 => repeat (first | exact (by repeat (first | (with_reducible exact HR138.out) | (with_reducible refine Kd.C_alloc ?_ _) | (with_reducible refine Kd.C_drewN ?_ _) | (with_reducible refine Kd.C_drew ?_) | exact HR138.out)) | (with_reducible refine Kd.C_alloc ?_ _) | (with_reducible refine Kd.C_drewN ?_ _) | (with_reducible refine Kd.C_drew ?_))); (case side2 => exact HC138.out); rintro e w40 ⟨rfl, hb⟩; refine ⟨_, rfl, ?_⟩; have n0_ := Aside0.mk (Kd.R_below (by (with_reducible repeat (first | apply Kd.R_alloc | apply Kd.R_drewN | apply Kd.R_drew)); exact HO_5.out) hb); have n1_ := Aside0.mk (Kd.C_below (by repeat (first | (with_reducible exact HR138.out) | (with_reducible refine Kd.C_alloc ?_ _) | (with_reducible refine Kd.C_drewN ?_ _) | (with_reducible refine Kd.C_drew ?_) | exact HR138.out)) hb); have n2_ := Aside0.mk (below_step (by repeat (first | (with_reducible first | exact HB.out | apply below_alloc | apply pw_below_drewN | apply below_drew1) | exact HB.out)) hb); clear HO_5; clear HR138; clear HB; have HO_5 := n0_; have HR138 := n1_; have HB := n2_; clear n0_ n1_ n2_; (try clear hb); (try clear hb2); (try clear hk); (try clear hi); (try clear hgw); have q41 : ((ji19) : Int) ≤ ((t127.length : Int) : Int) := of_decide_eq_true (by first | (with_reducible assumption) | assumption); obtain ⟨i041, hi041, _, hsz41, _⟩ := info_parts info5; have hroom41 : t127.length ≤ co38 := (Kd.R_reads' HO_5.out).2.1; have hC41 : Kd.C (Kd.int .u8) _ (some ad133) t127.length t127 := (Kd.R_reads' HO_5.out).2.2; have q041 : (0 : Int) ≤ ((ji19) : Int) := of_decide_eq_true (by first | (with_reducible assumption) | assumption); have hcut41 := cut_from (P := Tryd.prog) 25 5 .i64 Tryd.underlying25 hi041 1 hsz41 (some ad133) t127.length co38 (ji19) q041 q41; have hr41 := Kd.C_drop (m := ((ji19) : Int).toNat) (c := co38) hC41 (by omega) hroom41; obtain ⟨A41, hA41⟩ : ∃ A1, A1 = (if co38 = ((ji19) : Int).toNat then (some ad133) else ((some ad133) : Option Addr).map (·.add (((ji19) : Int).toNat * 1))) := ⟨_, rfl⟩; obtain ⟨c41, hc41⟩ : ∃ c1, c1 = co38 - ((ji19) : Int).toNat := ⟨_, rfl⟩; have hy41 : y140.length = t127.length - ((ji19) : Int).toNat := (by rw [Ny140.out, List.length_drop] <;> omega); rw [show (t127).drop ((ji19) : Int).toNat = y140 from Ny140.out.symm] at hr41; replace hr41 : Kd.C (Kd.int .u8) _ A41 y140.length y140 := (by rw [hA41]; exact hr41); rw [← hy41, ← hA41, ← hc41] at hcut41; have HR143 := Aside0.mk hr41; have HC143 := Aside0.mk (show y140.length ≤ c41 from by rw [hy41, hc41]; exact Nat.sub_le_sub_right hroom41 _); clear hr41 hC41 hroom41 hi041 hsz41 hc41; have KY41 := Aside0.mk hy41; have KA41 := Aside0.mk hA41; clear hy41 hA41; have KL41 := Aside0.mk (show ((ji19) : Int).toNat ≤ t127.length from by omega); replace q41 := eq_true q41) | (go_at_call 18; (with_reducible refine (utf_Right.calls kj6 _ _ y140 t144 _ ?side1 ?side2 A29.out).mono ?_); (case side1 => repeat (first | exact (by repeat (first | (with_reducible exact HR143.out) | (with_reducible refine Kd.C_alloc ?_ _) | (with_reducible refine Kd.C_drewN ?_ _) | (with_reducible refine Kd.C_drew ?_) | exact HR143.out)) | (with_reducible refine Kd.C_alloc ?_ _) | (with_reducible refine Kd.C_drewN ?_ _) | (with_reducible refine Kd.C_drew ?_))); (case side2 => exact HC143.out); rintro e w42 ⟨rfl, hb⟩; have n0_ := Aside0.mk (Kd.R_below (by (with_reducible repeat (first | apply Kd.R_alloc | apply Kd.R_drewN | apply Kd.R_drew)); exact HO_5.out) hb); have n1_ := Aside0.mk (Kd.C_below (by repeat (first | (with_reducible exact HR138.out) | (with_reducible refine Kd.C_alloc ?_ _) | (with_reducible refine Kd.C_drewN ?_ _) | (with_reducible refine Kd.C_drew ?_) | exact HR138.out)) hb); have n2_ := Aside0.mk (Kd.C_below (by repeat (first | (with_reducible exact HR143.out) | (with_reducible refine Kd.C_alloc ?_ _) | (with_reducible refine Kd.C_drewN ?_ _) | (with_reducible refine Kd.C_drew ?_) | exact HR143.out)) hb); have n3_ := Aside0.mk (below_step (by repeat (first | (with_reducible first | exact HB.out | apply below_alloc | apply pw_below_drewN | apply below_drew1) | exact HB.out)) hb); clear HO_5; clear HR138; clear HR143; clear HB; have HO_5 := n0_; have HR138 := n1_; have HR143 := n2_; have HB := n3_; clear n0_ n1_ n2_ n3_; (try clear hb); (try clear hb2); (try clear hk); (try clear hi); (try clear hgw)))
                        go_ret
                        exact ⟨by first | rfl | (simp [errW_none, errW_some] <;> rfl) | (simp only [← hji19]; first | rfl | (simp [errW_none, errW_some] <;> rfl)) | (simp [*, errW_none, errW_some] <;> rfl), by repeat (first | (with_reducible first | exact HB.out | apply below_alloc | apply pw_below_drewN | apply below_drew1) | exact HB.out)⟩
                    · rw [if_neg c26] at H
                      have c26b0 : (t139 == (!(decide ((rd t127 (ji19)) < 192)))) = false := by simpa using c26
                      (try (have c26bg : t139 = true := by (have z := c26b0; clear c26b0; (try clear c26); simp [*] at z; exact z)))
                      (try (have c26bh : t139 = false := by (have z := c26b0; clear c26b0; (try clear c26); simp [*] at z; exact z)))
                      (try (have c26b1 : decide (t139 = (!(decide ((rd t127 (ji19)) < 192)))) = false := by simpa using c26))
                      (try (have c26b2 : (t139 == (!(decide ((rd t127 (ji19)) < 192)))) = false := by simpa using c26))
                      (try (have c26b3 : ¬ (t139 = (!(decide ((rd t127 (ji19)) < 192)))) := by simpa using c26))
                      clear c26
                      obtain rfl := Option.some.inj H
                      obtain ⟨Ao43, co43, eo43⟩ := Kd.R_slice HO_5.out
                      subst eo43
                      have p133 : 0 ≤ ((ji19) : Int) := of_decide_eq_true (by first | (with_reducible assumption) | assumption)
                      have q133 : (ji19) < (t127.length : Int) := of_decide_eq_true (by first | (with_reducible assumption) | assumption)
                      obtain ⟨ad133, e133, hx133_0⟩ := Kd.at_int (Kd.R_reads' HO_5.out).2.2 (ji19) p133 q133
                      cases e133
                      replace p133 := eq_true p133
                      replace q133 := eq_true q133
                      have p134 : 0 ≤ ((ji19) : Int) := of_decide_eq_true (by first | (with_reducible assumption) | assumption)
                      have q134 : (ji19) < (t127.length : Int) := of_decide_eq_true (by first | (with_reducible assumption) | assumption)
                      obtain ⟨ad134, e134, hx134_0⟩ := Kd.at_int (Kd.R_reads' HO_5.out).2.2 (ji19) p134 q134
                      obtain rfl : ad133 = ad134 := (by injection e134)
                      replace p134 := eq_true p134
                      replace q134 := eq_true q134
                      have q44 : ((ji19) : Int) ≤ ((t127.length : Int) : Int) := of_decide_eq_true (by first | (with_reducible assumption) | assumption)
                      obtain ⟨i044, hi044, _, hsz44, _⟩ := info_parts info5
                      have hroom44 : t127.length ≤ co43 := (Kd.R_reads' HO_5.out).2.1
                      have hC44 : Kd.C (Kd.int .u8) _ (some ad133) t127.length t127 := (Kd.R_reads' HO_5.out).2.2
                      have hcut44 := cut_to (P := Tryd.prog) 25 5 .i64 Tryd.underlying25 hi044 (some ad133) t127.length co43 (ji19) (of_decide_eq_true (by first | (with_reducible assumption) | assumption)) q44 hroom44
                      have hr44 := Kd.C_take (m := ((ji19) : Int).toNat) hC44 (by omega)
                      have hy44 : y135.length = ((ji19) : Int).toNat := (by rw [Ny135.out, List.length_take]; omega)
                      rw [← Ny135.out] at hr44
                      rw [← hy44] at hcut44
                      have HR138 := Aside0.mk hr44
                      have HC138 := Aside0.mk (show y135.length ≤ co43 from by omega)
                      clear hr44 hC44 hroom44 hi044 hsz44
                      have KY44 := Aside0.mk hy44
                      clear hy44
                      have KL44 := Aside0.mk (show ((ji19) : Int).toNat ≤ t127.length from by omega)
                      replace q44 := eq_true q44
                      go_wp2_with (first | ((with_reducible refine gate_callee (f := 18) rfl ?_); refine goesL_ (some 57) rfl rfl Tryd.func18 (by kernel_rfl) rfl #[.slice (some ad133) y135.length co43] rfl (by (try simp only [List.map_toArray, List.map_cons, List.map_nil]); first | done | rfl | (simp only [List.length_drop, List.length_take]; rfl)) ?_; (with_reducible refine (utf_Right.calls kj6 _ _ y135 t139 _ ?side1 ?side2 A25.out).mono ?_); (case side1 => repeat (first | exact (by repeat (first | (with_reducible exact HR138.out) | (with_reducible refine Kd.C_alloc ?_ _) | (with_reducible refine Kd.C_drewN ?_ _) | (with_reducible refine Kd.C_drew ?_) | exact HR138.out)) | (with_reducible refine Kd.C_alloc ?_ _) | (with_reducible refine Kd.C_drewN ?_ _) | (with_reducible refine Kd.C_drew ?_))); (case side2 => exact HC138.out); rintro e w45 ⟨rfl, hb⟩; refine ⟨_, rfl, ?_⟩; have n0_ := Aside0.mk (Kd.R_below (by (with_reducible repeat (first | apply Kd.R_alloc | apply Kd.R_drewN | apply Kd.R_drew)); exact HO_5.out) hb); have n1_ := Aside0.mk (Kd.C_below (by repeat (first | (with_reducible exact HR138.out) | (with_reducible refine Kd.C_alloc ?_ _) | (with_reducible refine Kd.C_drewN ?_ _) | (with_reducible refine Kd.C_drew ?_) | exact HR138.out)) hb); have n2_ := Aside0.mk (below_step (by repeat (first | (with_reducible first | exact HB.out | apply below_alloc | apply pw_below_drewN | apply below_drew1) | exact HB.out)) hb); clear HO_5; clear HR138; clear HB; have HO_5 := n0_; have HR138 := n1_; have HB := n2_; clear n0_ n1_ n2_; (try clear hb); (try clear hb2); (try clear hk); (try clear hi); (try clear hgw)))
                      go_ret
                      exact ⟨by first | rfl | (simp [errW_none, errW_some] <;> rfl) | (simp only [← hji19]; first | rfl | (simp [errW_none, errW_some] <;> rfl)) | (simp [*, errW_none, errW_some] <;> rfl), by repeat (first | (with_reducible first | exact HB.out | apply below_alloc | apply pw_below_drewN | apply below_drew1) | exact HB.out)⟩
                  · rw [if_neg c24] at H
                    exact absurd H (by simp)
                · rw [if_neg c22] at H
                  have c22b0 : decide (128 ≤ (rd t127 (ji19))) = false := decide_eq_false c22
                  clear c22
                  have c46b0 := eq_true (of_decide_eq_true (by first | (with_reducible assumption) | assumption) : 0 ≤ (ji19))
                  by_cases c47 : (ji19) ≤ (t127.length : Int)
                  · rw [if_pos c47] at H
                    have c47b0 := eq_true c47
                    have c47b1 : decide ((ji19) ≤ (t127.length : Int)) = true := decide_eq_true c47
                    clear c47
                    obtain ⟨y146, hy146⟩ : ∃ y_ : List Int, y_ = (t127.take ((ji19) : Int).toNat) := ⟨_, rfl⟩
                    replace H : ((utf_Right.f kj6 y146).bind fun t150 => (if (t150 == (!false)) = true then ((utf_Right.f kj6 (t127.drop ((ji19) : Int).toNat)).bind fun t155 => (if (t155 == (!false)) = true then ((lw02_works.f kj6).bind fun t156 => (some t156)) else (some false))) else (some false))) = some r := by first | (rw [hy146]; with_reducible exact H) | (have H2_ := (Option.bind_some _ _).symm.trans H; rw [hy146]; with_reducible exact H2_) | (have H2_ := (Option.bind_some _ _).symm.trans H; with_reducible exact H2_) | with_reducible exact H | (rw [hy146]; exact H) | exact H
                    have Ny146 := Aside0.mk hy146
                    clear hy146
                    replace H := Option.bind_eq_some_iff.mp H
                    obtain ⟨t150, A480, H⟩ := H
                    replace H : (if (t150 == (!false)) = true then ((utf_Right.f kj6 (t127.drop ((ji19) : Int).toNat)).bind fun t155 => (if (t155 == (!false)) = true then ((lw02_works.f kj6).bind fun t156 => (some t156)) else (some false))) else (some false)) = some r := H
                    have A48 := Aside0.mk A480
                    clear A480
                    by_cases c49 : (t150 == (!false)) = true
                    · rw [if_pos c49] at H
                      have c49b0 : (t150 == (!false)) = true := c49
                      (try (have c49bg : t150 = true := by (have z := c49b0; clear c49b0; (try clear c49); simp [*] at z; exact z)))
                      (try (have c49bh : t150 = false := by (have z := c49b0; clear c49b0; (try clear c49); simp [*] at z; exact z)))
                      (try (have c49b1 : decide (t150 = (!false)) = true := by simpa using c49))
                      (try (have c49b2 : (t150 == (!false)) = true := by simpa using c49))
                      clear c49
                      have c50b0 := eq_true (of_decide_eq_true (by first | (with_reducible assumption) | assumption) : 0 ≤ (ji19))
                      have c51b0 := eq_true (of_decide_eq_true (by first | (with_reducible assumption) | assumption) : (ji19) ≤ (t127.length : Int))
                      obtain ⟨y151, hy151⟩ : ∃ y_ : List Int, y_ = (t127.drop ((ji19) : Int).toNat) := ⟨_, rfl⟩
                      replace H : ((utf_Right.f kj6 y151).bind fun t155 => (if (t155 == (!false)) = true then ((lw02_works.f kj6).bind fun t156 => (some t156)) else (some false))) = some r := by first | (rw [hy151]; with_reducible exact H) | (have H2_ := (Option.bind_some _ _).symm.trans H; rw [hy151]; with_reducible exact H2_) | (have H2_ := (Option.bind_some _ _).symm.trans H; with_reducible exact H2_) | with_reducible exact H | (rw [hy151]; exact H) | exact H
                      have Ny151 := Aside0.mk hy151
                      clear hy151
                      replace H := Option.bind_eq_some_iff.mp H
                      obtain ⟨t155, A520, H⟩ := H
                      replace H : (if (t155 == (!false)) = true then ((lw02_works.f kj6).bind fun t156 => (some t156)) else (some false)) = some r := H
                      have A52 := Aside0.mk A520
                      clear A520
                      by_cases c53 : (t155 == (!false)) = true
                      · rw [if_pos c53] at H
                        have c53b0 : (t155 == (!false)) = true := c53
                        (try (have c53bg : t155 = true := by (have z := c53b0; clear c53b0; (try clear c53); simp [*] at z; exact z)))
                        (try (have c53bh : t155 = false := by (have z := c53b0; clear c53b0; (try clear c53); simp [*] at z; exact z)))
                        (try (have c53b1 : decide (t155 = (!false)) = true := by simpa using c53))
                        (try (have c53b2 : (t155 == (!false)) = true := by simpa using c53))
                        clear c53
                        replace H := Option.bind_eq_some_iff.mp H
                        obtain ⟨t156, A540, H⟩ := H
                        replace H : (some t156) = some r := H
                        have A54 := Aside0.mk A540
                        clear A540
                        obtain rfl := Option.some.inj H
                        obtain ⟨Ao55, co55, eo55⟩ := Kd.R_slice HO_5.out
                        subst eo55
                        have p133 : 0 ≤ ((ji19) : Int) := of_decide_eq_true (by first | (with_reducible assumption) | assumption)
                        have q133 : (ji19) < (t127.length : Int) := of_decide_eq_true (by first | (with_reducible assumption) | assumption)
                        obtain ⟨ad133, e133, hx133_0⟩ := Kd.at_int (Kd.R_reads' HO_5.out).2.2 (ji19) p133 q133
                        cases e133
                        replace p133 := eq_true p133
                        replace q133 := eq_true q133
                        have q56 : ((ji19) : Int) ≤ ((t127.length : Int) : Int) := of_decide_eq_true (by first | (with_reducible assumption) | assumption)
                        obtain ⟨i056, hi056, _, hsz56, _⟩ := info_parts info5
                        have hroom56 : t127.length ≤ co55 := (Kd.R_reads' HO_5.out).2.1
                        have hC56 : Kd.C (Kd.int .u8) _ (some ad133) t127.length t127 := (Kd.R_reads' HO_5.out).2.2
                        have hcut56 := cut_to (P := Tryd.prog) 25 5 .i64 Tryd.underlying25 hi056 (some ad133) t127.length co55 (ji19) (of_decide_eq_true (by first | (with_reducible assumption) | assumption)) q56 hroom56
                        have hr56 := Kd.C_take (m := ((ji19) : Int).toNat) hC56 (by omega)
                        have hy56 : y146.length = ((ji19) : Int).toNat := (by rw [Ny146.out, List.length_take]; omega)
                        rw [← Ny146.out] at hr56
                        rw [← hy56] at hcut56
                        have HR149 := Aside0.mk hr56
                        have HC149 := Aside0.mk (show y146.length ≤ co55 from by omega)
                        clear hr56 hC56 hroom56 hi056 hsz56
                        have KY56 := Aside0.mk hy56
                        clear hy56
                        have KL56 := Aside0.mk (show ((ji19) : Int).toNat ≤ t127.length from by omega)
                        replace q56 := eq_true q56
                        go_wp2_with (first | ((with_reducible refine gate_callee (f := 18) rfl ?_); refine goesL_ (some 57) rfl rfl Tryd.func18 (by kernel_rfl) rfl #[.slice (some ad133) y146.length co55] rfl (by (try simp only [List.map_toArray, List.map_cons, List.map_nil]); first | done | rfl | (simp only [List.length_drop, List.length_take]; rfl)) ?_; (with_reducible refine (utf_Right.calls kj6 _ _ y146 t150 _ ?side1 ?side2 A48.out).mono ?_); (case side1 => repeat (first | exact (by repeat (first | (with_reducible exact HR149.out) | (with_reducible refine Kd.C_alloc ?_ _) | (with_reducible refine Kd.C_drewN ?_ _) | (with_reducible refine Kd.C_drew ?_) | exact HR149.out)) | (with_reducible refine Kd.C_alloc ?_ _) | (with_reducible refine Kd.C_drewN ?_ _) | (with_reducible refine Kd.C_drew ?_))); (case side2 => exact HC149.out); rintro e w57 ⟨rfl, hb⟩; refine ⟨_, rfl, ?_⟩; have n0_ := Aside0.mk (Kd.R_below (by (with_reducible repeat (first | apply Kd.R_alloc | apply Kd.R_drewN | apply Kd.R_drew)); exact HO_5.out) hb); have n1_ := Aside0.mk (Kd.C_below (by repeat (first | (with_reducible exact HR149.out) | (with_reducible refine Kd.C_alloc ?_ _) | (with_reducible refine Kd.C_drewN ?_ _) | (with_reducible refine Kd.C_drew ?_) | exact HR149.out)) hb); have n2_ := Aside0.mk (below_step (by repeat (first | (with_reducible first | exact HB.out | apply below_alloc | apply pw_below_drewN | apply below_drew1) | exact HB.out)) hb); clear HO_5; clear HR149; clear HB; have HO_5 := n0_; have HR149 := n1_; have HB := n2_; clear n0_ n1_ n2_; (try clear hb); (try clear hb2); (try clear hk); (try clear hi); (try clear hgw); have q58 : ((ji19) : Int) ≤ ((t127.length : Int) : Int) := of_decide_eq_true (by first | (with_reducible assumption) | assumption); obtain ⟨i058, hi058, _, hsz58, _⟩ := info_parts info5; have hroom58 : t127.length ≤ co55 := (Kd.R_reads' HO_5.out).2.1; have hC58 : Kd.C (Kd.int .u8) _ (some ad133) t127.length t127 := (Kd.R_reads' HO_5.out).2.2; have q058 : (0 : Int) ≤ ((ji19) : Int) := of_decide_eq_true (by first | (with_reducible assumption) | assumption); have hcut58 := cut_from (P := Tryd.prog) 25 5 .i64 Tryd.underlying25 hi058 1 hsz58 (some ad133) t127.length co55 (ji19) q058 q58; have hr58 := Kd.C_drop (m := ((ji19) : Int).toNat) (c := co55) hC58 (by omega) hroom58; obtain ⟨A58, hA58⟩ : ∃ A1, A1 = (if co55 = ((ji19) : Int).toNat then (some ad133) else ((some ad133) : Option Addr).map (·.add (((ji19) : Int).toNat * 1))) := ⟨_, rfl⟩; obtain ⟨c58, hc58⟩ : ∃ c1, c1 = co55 - ((ji19) : Int).toNat := ⟨_, rfl⟩; have hy58 : y151.length = t127.length - ((ji19) : Int).toNat := (by rw [Ny151.out, List.length_drop] <;> omega); rw [show (t127).drop ((ji19) : Int).toNat = y151 from Ny151.out.symm] at hr58; replace hr58 : Kd.C (Kd.int .u8) _ A58 y151.length y151 := (by rw [hA58]; exact hr58); rw [← hy58, ← hA58, ← hc58] at hcut58; have HR154 := Aside0.mk hr58; have HC154 := Aside0.mk (show y151.length ≤ c58 from by rw [hy58, hc58]; exact Nat.sub_le_sub_right hroom58 _); clear hr58 hC58 hroom58 hi058 hsz58 hc58; have KY58 := Aside0.mk hy58; have KA58 := Aside0.mk hA58; clear hy58 hA58; have KL58 := Aside0.mk (show ((ji19) : Int).toNat ≤ t127.length from by omega); replace q58 := eq_true q58) | (go_at_call 18; (with_reducible refine (utf_Right.calls kj6 _ _ y151 t155 _ ?side1 ?side2 A52.out).mono ?_); (case side1 => repeat (first | exact (by repeat (first | (with_reducible exact HR154.out) | (with_reducible refine Kd.C_alloc ?_ _) | (with_reducible refine Kd.C_drewN ?_ _) | (with_reducible refine Kd.C_drew ?_) | exact HR154.out)) | (with_reducible refine Kd.C_alloc ?_ _) | (with_reducible refine Kd.C_drewN ?_ _) | (with_reducible refine Kd.C_drew ?_))); (case side2 => exact HC154.out); rintro e w59 ⟨rfl, hb⟩; have n0_ := Aside0.mk (Kd.R_below (by (with_reducible repeat (first | apply Kd.R_alloc | apply Kd.R_drewN | apply Kd.R_drew)); exact HO_5.out) hb); have n1_ := Aside0.mk (Kd.C_below (by repeat (first | (with_reducible exact HR149.out) | (with_reducible refine Kd.C_alloc ?_ _) | (with_reducible refine Kd.C_drewN ?_ _) | (with_reducible refine Kd.C_drew ?_) | exact HR149.out)) hb); have n2_ := Aside0.mk (Kd.C_below (by repeat (first | (with_reducible exact HR154.out) | (with_reducible refine Kd.C_alloc ?_ _) | (with_reducible refine Kd.C_drewN ?_ _) | (with_reducible refine Kd.C_drew ?_) | exact HR154.out)) hb); have n3_ := Aside0.mk (below_step (by repeat (first | (with_reducible first | exact HB.out | apply below_alloc | apply pw_below_drewN | apply below_drew1) | exact HB.out)) hb); clear HO_5; clear HR149; clear HR154; clear HB; have HO_5 := n0_; have HR149 := n1_; have HR154 := n2_; have HB := n3_; clear n0_ n1_ n2_ n3_; (try clear hb); (try clear hb2); (try clear hk); (try clear hi); (try clear hgw)) | (go_at_call 10; (with_reducible refine (lw02_works.calls kj6  t156 _ ?side1 A54.out).mono ?_); (case side1 => exact Hd.below HG.out HG.out.size (by repeat (first | (with_reducible first | exact HB.out | apply below_alloc | apply pw_below_drewN | apply below_drew1) | exact HB.out))); rintro e w60 ⟨rfl, hb⟩; have n0_ := Aside0.mk (Kd.R_below (by (with_reducible repeat (first | apply Kd.R_alloc | apply Kd.R_drewN | apply Kd.R_drew)); exact HO_5.out) hb); have n1_ := Aside0.mk (Kd.C_below (by repeat (first | (with_reducible exact HR149.out) | (with_reducible refine Kd.C_alloc ?_ _) | (with_reducible refine Kd.C_drewN ?_ _) | (with_reducible refine Kd.C_drew ?_) | exact HR149.out)) hb); have n2_ := Aside0.mk (Kd.C_below (by repeat (first | (with_reducible exact HR154.out) | (with_reducible refine Kd.C_alloc ?_ _) | (with_reducible refine Kd.C_drewN ?_ _) | (with_reducible refine Kd.C_drew ?_) | exact HR154.out)) hb); have n3_ := Aside0.mk (below_step (by repeat (first | (with_reducible first | exact HB.out | apply below_alloc | apply pw_below_drewN | apply below_drew1) | exact HB.out)) hb); clear HO_5; clear HR149; clear HR154; clear HB; have HO_5 := n0_; have HR149 := n1_; have HR154 := n2_; have HB := n3_; clear n0_ n1_ n2_ n3_; (try clear hb); (try clear hb2); (try clear hk); (try clear hi); (try clear hgw)))
                        go_ret
                        exact ⟨by first | rfl | (simp [errW_none, errW_some] <;> rfl) | (simp only [← hji19]; first | rfl | (simp [errW_none, errW_some] <;> rfl)) | (simp [*, errW_none, errW_some] <;> rfl), by repeat (first | (with_reducible first | exact HB.out | apply below_alloc | apply pw_below_drewN | apply below_drew1) | exact HB.out)⟩
                      · rw [if_neg c53] at H
                        have c53b0 : (t155 == (!false)) = false := by simpa using c53
                        (try (have c53bg : t155 = true := by (have z := c53b0; clear c53b0; (try clear c53); simp [*] at z; exact z)))
                        (try (have c53bh : t155 = false := by (have z := c53b0; clear c53b0; (try clear c53); simp [*] at z; exact z)))
                        (try (have c53b1 : decide (t155 = (!false)) = false := by simpa using c53))
                        (try (have c53b2 : (t155 == (!false)) = false := by simpa using c53))
                        (try (have c53b3 : ¬ (t155 = (!false)) := by simpa using c53))
                        clear c53
                        obtain rfl := Option.some.inj H
                        obtain ⟨Ao61, co61, eo61⟩ := Kd.R_slice HO_5.out
                        subst eo61
                        have p133 : 0 ≤ ((ji19) : Int) := of_decide_eq_true (by first | (with_reducible assumption) | assumption)
                        have q133 : (ji19) < (t127.length : Int) := of_decide_eq_true (by first | (with_reducible assumption) | assumption)
                        obtain ⟨ad133, e133, hx133_0⟩ := Kd.at_int (Kd.R_reads' HO_5.out).2.2 (ji19) p133 q133
                        cases e133
                        replace p133 := eq_true p133
                        replace q133 := eq_true q133
                        have q62 : ((ji19) : Int) ≤ ((t127.length : Int) : Int) := of_decide_eq_true (by first | (with_reducible assumption) | assumption)
                        obtain ⟨i062, hi062, _, hsz62, _⟩ := info_parts info5
                        have hroom62 : t127.length ≤ co61 := (Kd.R_reads' HO_5.out).2.1
                        have hC62 : Kd.C (Kd.int .u8) _ (some ad133) t127.length t127 := (Kd.R_reads' HO_5.out).2.2
                        have hcut62 := cut_to (P := Tryd.prog) 25 5 .i64 Tryd.underlying25 hi062 (some ad133) t127.length co61 (ji19) (of_decide_eq_true (by first | (with_reducible assumption) | assumption)) q62 hroom62
                        have hr62 := Kd.C_take (m := ((ji19) : Int).toNat) hC62 (by omega)
                        have hy62 : y146.length = ((ji19) : Int).toNat := (by rw [Ny146.out, List.length_take]; omega)
                        rw [← Ny146.out] at hr62
                        rw [← hy62] at hcut62
                        have HR149 := Aside0.mk hr62
                        have HC149 := Aside0.mk (show y146.length ≤ co61 from by omega)
                        clear hr62 hC62 hroom62 hi062 hsz62
                        have KY62 := Aside0.mk hy62
                        clear hy62
                        have KL62 := Aside0.mk (show ((ji19) : Int).toNat ≤ t127.length from by omega)
                        replace q62 := eq_true q62
                        go_wp2_with (first | ((with_reducible refine gate_callee (f := 18) rfl ?_); refine goesL_ (some 57) rfl rfl Tryd.func18 (by kernel_rfl) rfl #[.slice (some ad133) y146.length co61] rfl (by (try simp only [List.map_toArray, List.map_cons, List.map_nil]); first | done | rfl | (simp only [List.length_drop, List.length_take]; rfl)) ?_; (with_reducible refine (utf_Right.calls kj6 _ _ y146 t150 _ ?side1 ?side2 A48.out).mono ?_); (case side1 => repeat (first | exact (by repeat (first | (with_reducible exact HR149.out) | (with_reducible refine Kd.C_alloc ?_ _) | (with_reducible refine Kd.C_drewN ?_ _) | (with_reducible refine Kd.C_drew ?_) | exact HR149.out)) | (with_reducible refine Kd.C_alloc ?_ _) | (with_reducible refine Kd.C_drewN ?_ _) | (with_reducible refine Kd.C_drew ?_))); (case side2 => exact HC149.out); rintro e w63 ⟨rfl, hb⟩; refine ⟨_, rfl, ?_⟩; have n0_ := Aside0.mk (Kd.R_below (by (with_reducible repeat (first | apply Kd.R_alloc | apply Kd.R_drewN | apply Kd.R_drew)); exact HO_5.out) hb); have n1_ := Aside0.mk (Kd.C_below (by repeat (first | (with_reducible exact HR149.out) | (with_reducible refine Kd.C_alloc ?_ _) | (with_reducible refine Kd.C_drewN ?_ _) | (with_reducible refine Kd.C_drew ?_) | exact HR149.out)) hb); have n2_ := Aside0.mk (below_step (by repeat (first | (with_reducible first | exact HB.out | apply below_alloc | apply pw_below_drewN | apply below_drew1) | exact HB.out)) hb); clear HO_5; clear HR149; clear HB; have HO_5 := n0_; have HR149 := n1_; have HB := n2_; clear n0_ n1_ n2_; (try clear hb); (try clear hb2); (try clear hk); (try clear hi); (try clear hgw); have q64 : ((ji19) : Int) ≤ ((t127.length : Int) : Int) := of_decide_eq_true (by first | (with_reducible assumption) | assumption); obtain ⟨i064, hi064, _, hsz64, _⟩ := info_parts info5; have hroom64 : t127.length ≤ co61 := (Kd.R_reads' HO_5.out).2.1; have hC64 : Kd.C (Kd.int .u8) _ (some ad133) t127.length t127 := (Kd.R_reads' HO_5.out).2.2; have q064 : (0 : Int) ≤ ((ji19) : Int) := of_decide_eq_true (by first | (with_reducible assumption) | assumption); have hcut64 := cut_from (P := Tryd.prog) 25 5 .i64 Tryd.underlying25 hi064 1 hsz64 (some ad133) t127.length co61 (ji19) q064 q64; have hr64 := Kd.C_drop (m := ((ji19) : Int).toNat) (c := co61) hC64 (by omega) hroom64; obtain ⟨A64, hA64⟩ : ∃ A1, A1 = (if co61 = ((ji19) : Int).toNat then (some ad133) else ((some ad133) : Option Addr).map (·.add (((ji19) : Int).toNat * 1))) := ⟨_, rfl⟩; obtain ⟨c64, hc64⟩ : ∃ c1, c1 = co61 - ((ji19) : Int).toNat := ⟨_, rfl⟩; have hy64 : y151.length = t127.length - ((ji19) : Int).toNat := (by rw [Ny151.out, List.length_drop] <;> omega); rw [show (t127).drop ((ji19) : Int).toNat = y151 from Ny151.out.symm] at hr64; replace hr64 : Kd.C (Kd.int .u8) _ A64 y151.length y151 := (by rw [hA64]; exact hr64); rw [← hy64, ← hA64, ← hc64] at hcut64; have HR154 := Aside0.mk hr64; have HC154 := Aside0.mk (show y151.length ≤ c64 from by rw [hy64, hc64]; exact Nat.sub_le_sub_right hroom64 _); clear hr64 hC64 hroom64 hi064 hsz64 hc64; have KY64 := Aside0.mk hy64; have KA64 := Aside0.mk hA64; clear hy64 hA64; have KL64 := Aside0.mk (show ((ji19) : Int).toNat ≤ t127.length from by omega); replace q64 := eq_true q64) | (go_at_call 18; (with_reducible refine (utf_Right.calls kj6 _ _ y151 t155 _ ?side1 ?side2 A52.out).mono ?_); (case side1 => repeat (first | exact (by repeat (first | (with_reducible exact HR154.out) | (with_reducible refine Kd.C_alloc ?_ _) | (with_reducible refine Kd.C_drewN ?_ _) | (with_reducible refine Kd.C_drew ?_) | exact HR154.out)) | (with_reducible refine Kd.C_alloc ?_ _) | (with_reducible refine Kd.C_drewN ?_ _) | (with_reducible refine Kd.C_drew ?_))); (case side2 => exact HC154.out); rintro e w65 ⟨rfl, hb⟩; have n0_ := Aside0.mk (Kd.R_below (by (with_reducible repeat (first | apply Kd.R_alloc | apply Kd.R_drewN | apply Kd.R_drew)); exact HO_5.out) hb); have n1_ := Aside0.mk (Kd.C_below (by repeat (first | (with_reducible exact HR149.out) | (with_reducible refine Kd.C_alloc ?_ _) | (with_reducible refine Kd.C_drewN ?_ _) | (with_reducible refine Kd.C_drew ?_) | exact HR149.out)) hb); have n2_ := Aside0.mk (Kd.C_below (by repeat (first | (with_reducible exact HR154.out) | (with_reducible refine Kd.C_alloc ?_ _) | (with_reducible refine Kd.C_drewN ?_ _) | (with_reducible refine Kd.C_drew ?_) | exact HR154.out)) hb); have n3_ := Aside0.mk (below_step (by repeat (first | (with_reducible first | exact HB.out | apply below_alloc | apply pw_below_drewN | apply below_drew1) | exact HB.out)) hb); clear HO_5; clear HR149; clear HR154; clear HB; have HO_5 := n0_; have HR149 := n1_; have HR154 := n2_; have HB := n3_; clear n0_ n1_ n2_ n3_; (try clear hb); (try clear hb2); (try clear hk); (try clear hi); (try clear hgw)))
                        go_ret
                        exact ⟨by first | rfl | (simp [errW_none, errW_some] <;> rfl) | (simp only [← hji19]; first | rfl | (simp [errW_none, errW_some] <;> rfl)) | (simp [*, errW_none, errW_some] <;> rfl), by repeat (first | (with_reducible first | exact HB.out | apply below_alloc | apply pw_below_drewN | apply below_drew1) | exact HB.out)⟩
                    · rw [if_neg c49] at H
                      have c49b0 : (t150 == (!false)) = false := by simpa using c49
                      (try (have c49bg : t150 = true := by (have z := c49b0; clear c49b0; (try clear c49); simp [*] at z; exact z)))
                      (try (have c49bh : t150 = false := by (have z := c49b0; clear c49b0; (try clear c49); simp [*] at z; exact z)))
                      (try (have c49b1 : decide (t150 = (!false)) = false := by simpa using c49))
                      (try (have c49b2 : (t150 == (!false)) = false := by simpa using c49))
                      (try (have c49b3 : ¬ (t150 = (!false)) := by simpa using c49))
                      clear c49
                      obtain rfl := Option.some.inj H
                      obtain ⟨Ao66, co66, eo66⟩ := Kd.R_slice HO_5.out
                      subst eo66
                      have p133 : 0 ≤ ((ji19) : Int) := of_decide_eq_true (by first | (with_reducible assumption) | assumption)
                      have q133 : (ji19) < (t127.length : Int) := of_decide_eq_true (by first | (with_reducible assumption) | assumption)
                      obtain ⟨ad133, e133, hx133_0⟩ := Kd.at_int (Kd.R_reads' HO_5.out).2.2 (ji19) p133 q133
                      cases e133
                      replace p133 := eq_true p133
                      replace q133 := eq_true q133
                      have q67 : ((ji19) : Int) ≤ ((t127.length : Int) : Int) := of_decide_eq_true (by first | (with_reducible assumption) | assumption)
                      obtain ⟨i067, hi067, _, hsz67, _⟩ := info_parts info5
                      have hroom67 : t127.length ≤ co66 := (Kd.R_reads' HO_5.out).2.1
                      have hC67 : Kd.C (Kd.int .u8) _ (some ad133) t127.length t127 := (Kd.R_reads' HO_5.out).2.2
                      have hcut67 := cut_to (P := Tryd.prog) 25 5 .i64 Tryd.underlying25 hi067 (some ad133) t127.length co66 (ji19) (of_decide_eq_true (by first | (with_reducible assumption) | assumption)) q67 hroom67
                      have hr67 := Kd.C_take (m := ((ji19) : Int).toNat) hC67 (by omega)
                      have hy67 : y146.length = ((ji19) : Int).toNat := (by rw [Ny146.out, List.length_take]; omega)
                      rw [← Ny146.out] at hr67
                      rw [← hy67] at hcut67
                      have HR149 := Aside0.mk hr67
                      have HC149 := Aside0.mk (show y146.length ≤ co66 from by omega)
                      clear hr67 hC67 hroom67 hi067 hsz67
                      have KY67 := Aside0.mk hy67
                      clear hy67
                      have KL67 := Aside0.mk (show ((ji19) : Int).toNat ≤ t127.length from by omega)
                      replace q67 := eq_true q67
                      go_wp2_with (first | ((with_reducible refine gate_callee (f := 18) rfl ?_); refine goesL_ (some 57) rfl rfl Tryd.func18 (by kernel_rfl) rfl #[.slice (some ad133) y146.length co66] rfl (by (try simp only [List.map_toArray, List.map_cons, List.map_nil]); first | done | rfl | (simp only [List.length_drop, List.length_take]; rfl)) ?_; (with_reducible refine (utf_Right.calls kj6 _ _ y146 t150 _ ?side1 ?side2 A48.out).mono ?_); (case side1 => repeat (first | exact (by repeat (first | (with_reducible exact HR149.out) | (with_reducible refine Kd.C_alloc ?_ _) | (with_reducible refine Kd.C_drewN ?_ _) | (with_reducible refine Kd.C_drew ?_) | exact HR149.out)) | (with_reducible refine Kd.C_alloc ?_ _) | (with_reducible refine Kd.C_drewN ?_ _) | (with_reducible refine Kd.C_drew ?_))); (case side2 => exact HC149.out); rintro e w68 ⟨rfl, hb⟩; refine ⟨_, rfl, ?_⟩; have n0_ := Aside0.mk (Kd.R_below (by (with_reducible repeat (first | apply Kd.R_alloc | apply Kd.R_drewN | apply Kd.R_drew)); exact HO_5.out) hb); have n1_ := Aside0.mk (Kd.C_below (by repeat (first | (with_reducible exact HR149.out) | (with_reducible refine Kd.C_alloc ?_ _) | (with_reducible refine Kd.C_drewN ?_ _) | (with_reducible refine Kd.C_drew ?_) | exact HR149.out)) hb); have n2_ := Aside0.mk (below_step (by repeat (first | (with_reducible first | exact HB.out | apply below_alloc | apply pw_below_drewN | apply below_drew1) | exact HB.out)) hb); clear HO_5; clear HR149; clear HB; have HO_5 := n0_; have HR149 := n1_; have HB := n2_; clear n0_ n1_ n2_; (try clear hb); (try clear hb2); (try clear hk); (try clear hi); (try clear hgw)))
                      go_ret
                      exact ⟨by first | rfl | (simp [errW_none, errW_some] <;> rfl) | (simp only [← hji19]; first | rfl | (simp [errW_none, errW_some] <;> rfl)) | (simp [*, errW_none, errW_some] <;> rfl), by repeat (first | (with_reducible first | exact HB.out | apply below_alloc | apply pw_below_drewN | apply below_drew1) | exact HB.out)⟩
                  · rw [if_neg c47] at H
                    exact absurd H (by simp)
              · rw [if_neg c21] at H
                exact absurd H (by simp)
            · rw [if_neg c20] at H
              exact absurd H (by simp)

/-- THE ONE PURE STATEMENT of lw02_UtfCuts: yours. -/
def lw02_UtfCuts.Pure : Prop := ∀ (l0 : List Int) (a1 : Int), l0.length ≤ maxLen → l0.length * 4 ≤ 140737488351232 → (∀ x ∈ l0, (Lit.int .u32 x).wf = true) → (Lit.int .u16 a1).wf = true → ∃ k, lw02_UtfCuts.f k l0 a1 = some true
theorem lw02_UtfCuts.walk (P : lw02_UtfCuts.Pure) (a0 : Option Addr) (len0 cap0 : Nat) (z0 : List Int) (a1 : Int) (w : World) (hG : Hd w) (w0 : (a0 = none ∧ len0 = 0 ∧ cap0 = 0 ∧ z0 = []) ∨ ∃ x, a0 = some x ∧ len0 ≤ cap0 ∧ cap0 ≤ maxLen ∧ z0.length = cap0 ∧ (∀ i, i < z0.length → w.cell? (x.add i) = some (.int .u32 (z0.getD i 0))) ∧ ∀ n ∈ z0, (Lit.int .u32 n).wf = true) (y0 : len0 * 4 ≤ 140737488351232) (w1 : (Lit.int .u16 a1).wf = true) :
    Calls Tryd.prog 6 #[.slice a0 len0 cap0, .int .u16 a1] w fun e w' => e = .returned (.bool true) ∧ Below w.heap.size w w' := by
  obtain ⟨l0, rfl, hr0, hm0, hw0, hc0⟩ := ReadsInt.ofRowC w0
  obtain ⟨k, h⟩ := P l0 a1 hm0 y0 hw0 w1
  refine (lw02_UtfCuts.calls k _ _ l0 a1 true w hG (Kd.C_of_reads (d := (0 : Int)) (h1 := fun _ => rfl) hr0) hc0 h).mono ?_
  rintro e w' ⟨rfl, hd⟩
  exact ⟨rfl, hd⟩

end Go.Proofs.YtbbgmokpniigfaaDoor.PUtfCuts
