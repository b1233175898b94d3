/- Written by a program of this session (a turned copy of the print; not the kit's own print): the walks of the functions that one law reaches, or that law's row; the plain law stands in the Pure text; no condition of our own. -/
import Derived.Test.YtbbgmokpniigfaaDoorPUtfCharx0
import Derived.Test.YtbbgmokpniigfaaDoorPUtfCharx1
import Derived.Test.YtbbgmokpniigfaaDoorPUtfCharx2
namespace Go.Proofs.YtbbgmokpniigfaaDoor.PUtfChar
open Go.RowKit Go.Proofs.YtbbgmokpniigfaaDoorW.PrintWords Go.Proofs.YtbbgmokpniigfaaDoorW.PrintLast Go.Proofs.YtbbgmokpniigfaaDoorW.PrintMore
attribute [local go_sem] max2_int min2_int max_two min_two max_three min_three max_four min_four   -- for this text's walks alone
set_option linter.unusedVariables false
set_option linter.unusedSimpArgs false

/-! ### utf_Ascii: function 22 -/
def utf_Ascii.l0 : Nat → List Int → Int → Int → Option (Bool)
  | 0, _, _, _ => none
  | k + 1, x5, x6, x7 => if x7 < x6 then (if 0 ≤ x7 then (if x7 < (x5.length : Int) then (if (rd x5 x7) ≥ 128 then (some false) else (utf_Ascii.l0 k x5 x6 (wrap64 (x7 + 1)))) else (none)) else (none)) else (some true)
def utf_Ascii.f (k : Nat) (l0 : List Int) : Option (Bool) := utf_Ascii.l0 k l0 (l0.length : Int) 0
theorem utf_Ascii.mono_l : ∀ k, (∀ y0 y1 y2, LeO (utf_Ascii.l0 k y0 y1 y2) (utf_Ascii.l0 (k + 1) y0 y1 y2))
  | 0 => fun _ _ _ r h => by simp [utf_Ascii.l0] at h
  | k + 1 => by
    have ih0 := utf_Ascii.mono_l k
    · intro y0 y1 y2
      unfold utf_Ascii.l0
      repeat' first
      | (with_reducible exact ih0 _ _ _)
      | (with_reducible exact LeO.refl _)
      | (with_reducible exact LeO.none _)
      | (with_reducible refine LeO.ite ?_ ?_)
      | (with_reducible refine LeO.bind ?_ (fun _ => ?_))
      | exact ih0 _ _ _
      | exact LeO.none _
      | refine LeO.ite ?_ ?_
      | refine LeO.bind ?_ (fun _ => ?_)
theorem utf_Ascii.mono : ∀ a0 k, LeO (utf_Ascii.f k a0) (utf_Ascii.f (k + 1) a0) := by
  intro a0 k
  have ih0 := utf_Ascii.mono_l k
  unfold utf_Ascii.f
  repeat' first
      | (with_reducible exact ih0 _ _ _)
      | (with_reducible exact LeO.refl _)
      | (with_reducible exact LeO.none _)
      | (with_reducible refine LeO.ite ?_ ?_)
      | (with_reducible refine LeO.bind ?_ (fun _ => ?_))
      | exact ih0 _ _ _
      | exact LeO.none _
      | refine LeO.ite ?_ ?_
      | refine LeO.bind ?_ (fun _ => ?_)
set_option maxHeartbeats 8000000 in
set_option maxRecDepth 100000 in
theorem utf_Ascii.calls (k : Nat) (A0 : Option Addr) (c0 : Nat) (l0 : List Int) (r : Bool) (w : World) (hr0 : Kd.C (Kd.int .u8) w A0 l0.length l0) (hc0 : l0.length ≤ c0) (h : utf_Ascii.f k l0 = some r) :
    Calls Tryd.prog 22 #[.slice A0 l0.length c0] w fun e w' => e = .returned (.bool r) ∧ Drawn0 w w' := by
  have HR0 := Aside0.mk hr0
  have HC0 := Aside0.mk hc0
  clear hr0 hc0
  have H : (utf_Ascii.l0 k l0 (l0.length : Int) 0) = some r := h
  clear h
  have H' := Aside0.mk H
  clear H
  go_enter Tryd.func22, Tryd.ntmps22
  go_wp2
  go_loopg [7] k (fun kq v7 w' => ∃ (x7_1 : Int), v7 = .int .i64 x7_1 ∧ Aside0 (utf_Ascii.l0 kq l0 (l0.length : Int) x7_1 = some r) ∧ Aside0 (kq ≤ k) ∧ Drawn0 w w')
  case atStart => exact ⟨(0), (by first | rfl | (simp; done) | (simp [*]; done)), H', ⟨Nat.le_refl _⟩, by repeat (first | exact Drawn0.refl _ | apply Drawn0.step)⟩
  case round =>
    clear H'
    obtain ⟨x7_1, rfl, HA, HK1, ⟨m1, rfl⟩⟩ := hrel
    cases gk with
    | zero => exact absurd HA.out (by simp [utf_Ascii.l0])
    | succ k1 =>
      have H := HA.out
      clear HA
      simp only [utf_Ascii.l0] at H
      by_cases c2 : x7_1 < (l0.length : Int)
      · rw [if_pos c2] at H
        have c2b0 : decide (x7_1 < (l0.length : Int)) = true := decide_eq_true c2
        clear c2
        by_cases c3 : 0 ≤ x7_1
        · rw [if_pos c3] at H
          have c3b0 : decide (0 ≤ x7_1) = true := decide_eq_true c3
          clear c3
          by_cases c4 : x7_1 < (l0.length : Int)
          · rw [if_pos c4] at H
            have c4b0 : decide (x7_1 < (l0.length : Int)) = true := decide_eq_true c4
            clear c4
            by_cases c5 : (rd l0 x7_1) ≥ 128
            · rw [if_pos c5] at H
              have c5b0 : decide (128 ≤ (rd l0 x7_1)) = true := decide_eq_true c5
              clear c5
              obtain rfl := Option.some.inj H
              have p126 : 0 ≤ (x7_1 : Int) := of_decide_eq_true (by first | (with_reducible assumption) | assumption)
              have q126 : x7_1 < (l0.length : Int) := of_decide_eq_true (by first | (with_reducible assumption) | assumption)
              obtain ⟨ad126, e126, hx126_0⟩ := Kd.at_int HR0.out x7_1 p126 q126
              cases e126
              replace p126 := eq_true p126
              replace q126 := eq_true q126
              go_wp2
              go_ret
              exact ⟨by first | rfl | (simp; done) | (simp [*]; done), by repeat (first | exact Drawn0.refl _ | apply Drawn0.step)⟩
            · rw [if_neg c5] at H
              have c5b0 : decide (128 ≤ (rd l0 x7_1)) = false := decide_eq_false c5
              clear c5
              have H' := Aside0.mk H
              clear H
              have p126 : 0 ≤ (x7_1 : Int) := of_decide_eq_true (by first | (with_reducible assumption) | assumption)
              have q126 : x7_1 < (l0.length : Int) := of_decide_eq_true (by first | (with_reducible assumption) | assumption)
              obtain ⟨ad126, e126, hx126_0⟩ := Kd.at_int HR0.out x7_1 p126 q126
              cases e126
              replace p126 := eq_true p126
              replace q126 := eq_true q126
              go_wp2
              go_roundg k1
              case measure => have := HK1.out; omega
              case rel => exact ⟨(wrap64 (x7_1 + 1)), (by first | rfl | (simp; done) | (simp [*]; done)), H', ⟨by have := HK1.out; omega⟩, by repeat (first | exact Drawn0.refl _ | apply Drawn0.step)⟩
          · rw [if_neg c4] at H
            exact absurd H (by simp)
        · rw [if_neg c3] at H
          exact absurd H (by simp)
      · rw [if_neg c2] at H
        have c2b0 : decide (x7_1 < (l0.length : Int)) = false := decide_eq_false c2
        clear c2
        obtain rfl := Option.some.inj H
        go_wp2
        go_ret
        exact ⟨by first | rfl | (simp; done) | (simp [*]; done), by repeat (first | exact Drawn0.refl _ | apply Drawn0.step)⟩

/-! ### lw02_UtfChar: function 9 -/
def lw02_UtfChar.j0 : Nat → Int → List Int → Bool → Bool → Option (Bool)
  | 0, _, _, _, _ => none
  | k + 1, x0, x3, x4, x36 => if x36 = true then (some false) else (if x4 = true then (if x0 < 128 then (if (x3.length : Int) = 1 then ((utf_Ascii.f k x3).bind fun t137 => (if (t137 == (decide (x0 < 128))) = true then ((lw02_works.f k).bind fun t138 => (some t138)) else (some false))) else (some false)) else (if x0 < 2048 then (if (x3.length : Int) = 2 then ((utf_Ascii.f k x3).bind fun t139 => (if (t139 == (decide (x0 < 128))) = true then ((lw02_works.f k).bind fun t140 => (some t140)) else (some false))) else (some false)) else (if x0 < 65536 then (if (x3.length : Int) = 3 then ((utf_Ascii.f k x3).bind fun t141 => (if (t141 == (decide (x0 < 128))) = true then ((lw02_works.f k).bind fun t142 => (some t142)) else (some false))) else (some false)) else (if (x3.length : Int) = 4 then ((utf_Ascii.f k x3).bind fun t143 => (if (t143 == (decide (x0 < 128))) = true then ((lw02_works.f k).bind fun t144 => (some t144)) else (some false))) else (some false))))) else (if (x3.length : Int) = 0 then ((lw02_works.f k).bind fun t136 => (some t136)) else (some false)))
def lw02_UtfChar.f (k : Nat) (a0 : Int) : Option (Bool) := (utf_Text.f k (([a0] : List Int))).bind fun bt130 => ((utf_Char.f (IntKind.u64.wrap (a0))).bind fun t134 => (if (bt130.2 != t134) = true then (lw02_UtfChar.j0 k a0 bt130.1 bt130.2 true) else ((utf_Char.f (IntKind.u64.wrap ((IntKind.u64.wrap (a0)) + 4294967296))).bind fun t135 => (if t135 = true then (lw02_UtfChar.j0 k a0 bt130.1 bt130.2 true) else (if a0 < 55296 then (lw02_UtfChar.j0 k a0 bt130.1 bt130.2 (bt130.2 != true)) else (if a0 ≥ 57344 then (lw02_UtfChar.j0 k a0 bt130.1 bt130.2 (bt130.2 != (decide (a0 < 1114112)))) else (lw02_UtfChar.j0 k a0 bt130.1 bt130.2 (bt130.2 != false))))))))
theorem lw02_UtfChar.mono_l : ∀ k, (∀ y0 y1 y2 y3, LeO (lw02_UtfChar.j0 k y0 y1 y2 y3) (lw02_UtfChar.j0 (k + 1) y0 y1 y2 y3))
  | 0 => fun _ _ _ _ r h => by simp [lw02_UtfChar.j0] at h
  | k + 1 => by
    have ih0 := lw02_UtfChar.mono_l k
    · intro y0 y1 y2 y3
      unfold lw02_UtfChar.j0
      repeat' first
      | (with_reducible exact ih0 _ _ _ _)
      | (with_reducible exact lw02_works.mono _)
      | (with_reducible exact utf_Ascii.mono _ _)
      | (with_reducible exact utf_Text.mono _ _)
      | (with_reducible exact LeO.refl _)
      | (with_reducible exact LeO.none _)
      | (with_reducible refine LeO.ite ?_ ?_)
      | (with_reducible refine LeO.bind ?_ (fun _ => ?_))
      | exact ih0 _ _ _ _
      | exact lw02_works.mono _
      | exact utf_Ascii.mono _ _
      | exact utf_Text.mono _ _
      | exact LeO.none _
      | refine LeO.ite ?_ ?_
      | refine LeO.bind ?_ (fun _ => ?_)
theorem lw02_UtfChar.mono : ∀ a0 k, LeO (lw02_UtfChar.f k a0) (lw02_UtfChar.f (k + 1) a0) := by
  intro a0 k
  have ih0 := lw02_UtfChar.mono_l k
  unfold lw02_UtfChar.f
  repeat' first
      | (with_reducible exact ih0 _ _ _ _)
      | (with_reducible exact lw02_works.mono _)
      | (with_reducible exact utf_Ascii.mono _ _)
      | (with_reducible exact utf_Text.mono _ _)
      | (with_reducible exact LeO.refl _)
      | (with_reducible exact LeO.none _)
      | (with_reducible refine LeO.ite ?_ ?_)
      | (with_reducible refine LeO.bind ?_ (fun _ => ?_))
      | exact ih0 _ _ _ _
      | exact lw02_works.mono _
      | exact utf_Ascii.mono _ _
      | exact utf_Text.mono _ _
      | exact LeO.none _
      | refine LeO.ite ?_ ?_
      | refine LeO.bind ?_ (fun _ => ?_)
set_option maxHeartbeats 8000000 in
set_option maxRecDepth 100000 in
theorem lw02_UtfChar.calls (k : Nat) (a0 : Int) (r : Bool) (w : World) (hG : Hd w) (h : lw02_UtfChar.f k a0 = some r) :
    Calls Tryd.prog 9 #[.int .u32 a0] w fun e w' => e = .returned (.bool r) ∧ Below w.heap.size w w' := by
  have HB := Aside0.mk (Below.refl w.heap.size w)
  have HG := Aside0.mk hG
  clear hG
  have H : ((utf_Text.f k (([a0] : List Int))).bind fun bt130 => ((utf_Char.f (IntKind.u64.wrap (a0))).bind fun t134 => (if (bt130.2 != t134) = true then (lw02_UtfChar.j0 k a0 bt130.1 bt130.2 true) else ((utf_Char.f (IntKind.u64.wrap ((IntKind.u64.wrap (a0)) + 4294967296))).bind fun t135 => (if t135 = true then (lw02_UtfChar.j0 k a0 bt130.1 bt130.2 true) else (if a0 < 55296 then (lw02_UtfChar.j0 k a0 bt130.1 bt130.2 (bt130.2 != true)) else (if a0 ≥ 57344 then (lw02_UtfChar.j0 k a0 bt130.1 bt130.2 (bt130.2 != (decide (a0 < 1114112)))) else (lw02_UtfChar.j0 k a0 bt130.1 bt130.2 (bt130.2 != false))))))))) = some r := h
  clear h
  obtain ⟨y127, hy127⟩ : ∃ y_ : List Int, y_ = (([a0] : List Int)) := ⟨_, rfl⟩
  replace H : ((utf_Text.f k y127).bind fun bt130 => ((utf_Char.f (IntKind.u64.wrap (a0))).bind fun t134 => (if (bt130.2 != t134) = true then (lw02_UtfChar.j0 k a0 bt130.1 bt130.2 true) else ((utf_Char.f (IntKind.u64.wrap ((IntKind.u64.wrap (a0)) + 4294967296))).bind fun t135 => (if t135 = true then (lw02_UtfChar.j0 k a0 bt130.1 bt130.2 true) else (if a0 < 55296 then (lw02_UtfChar.j0 k a0 bt130.1 bt130.2 (bt130.2 != true)) else (if a0 ≥ 57344 then (lw02_UtfChar.j0 k a0 bt130.1 bt130.2 (bt130.2 != (decide (a0 < 1114112)))) else (lw02_UtfChar.j0 k a0 bt130.1 bt130.2 (bt130.2 != false))))))))) = some r := by first | (rw [hy127]; with_reducible exact H) | (have H2_ := (Option.bind_some _ _).symm.trans H; rw [hy127]; with_reducible exact H2_) | (have H2_ := (Option.bind_some _ _).symm.trans H; with_reducible exact H2_) | with_reducible exact H | (rw [hy127]; exact H) | exact H
  have Ny127 := Aside0.mk hy127
  clear hy127
  replace H := Option.bind_eq_some_iff.mp H
  obtain ⟨⟨t130, t131⟩, A20, H⟩ := H
  replace H : ((utf_Char.f (IntKind.u64.wrap (a0))).bind fun t134 => (if (t131 != t134) = true then (lw02_UtfChar.j0 k a0 t130 t131 true) else ((utf_Char.f (IntKind.u64.wrap ((IntKind.u64.wrap (a0)) + 4294967296))).bind fun t135 => (if t135 = true then (lw02_UtfChar.j0 k a0 t130 t131 true) else (if a0 < 55296 then (lw02_UtfChar.j0 k a0 t130 t131 (t131 != true)) else (if a0 ≥ 57344 then (lw02_UtfChar.j0 k a0 t130 t131 (t131 != (decide (a0 < 1114112)))) else (lw02_UtfChar.j0 k a0 t130 t131 (t131 != false)))))))) = some r := H
  have A2 := Aside0.mk A20
  clear A20
  have HC3 := Aside0.mk H
  clear H
  go_enter Tryd.func9, Tryd.ntmps9
  go_upto_region 2 with (first | ((with_reducible refine gate_dst (N := 8) rfl ?_); refine Kd.R_lit (Kd.int .u32) _ 32 ?hg (N := 8) ?hd (xs := ([a0] : List Int)) (inner := [.int .u32 a0]) (ok := fun _ => True) (okp := fun _ => True) ?hr ?hp (fun _ hk => hk) trivial (Below.refl _ _) (Nat.le_refl _) (by simp) ?_; (case hd => rfl); (case hg => rfl); (case hr => first | (go_simp; done) | (go_simp; rfl)); (case hp => exact (Reps.one (show Kd.M (Kd.int .u32) _ _ _ a0 [.int .u32 a0] from rfl) (Reps.none _ _))); intro v128 w4 ho5 hb hg_ hnew_; clear hg_ hnew_; (first | rw [← Ny127.out] at ho5 | (simp only [Int.reduceToNat] at ho5; rw [← Ny127.out] at ho5)); have n0_ := Aside0.mk (Kd.R_lower ho5 (below_size (by repeat (first | (with_reducible first | exact HB.out | apply below_alloc | apply pw_below_drewN | apply below_drew1) | exact HB.out)))); have n1_ := Aside0.mk (below_step (by repeat (first | (with_reducible first | exact HB.out | apply below_alloc | apply pw_below_drewN | apply below_drew1) | exact HB.out)) hb); clear HB; have HO129 := n0_; have HB := n1_; clear n0_ n1_; clear hb ho5; obtain ⟨Ao6, co6, eo6⟩ := Kd.R_slice HO129.out; subst eo6) | ((with_reducible refine gate_callee (f := 11) rfl ?_); refine goesL_ (some 9) rfl rfl Tryd.func11 (by kernel_rfl) rfl #[.slice Ao6 y127.length co6] rfl (by (try simp only [List.map_toArray, List.map_cons, List.map_nil]); first | done | rfl | (simp only [List.length_drop, List.length_take]; rfl)) ?_; (with_reducible refine (utf_Text.calls k _ _ y127 t130 t131 _ ?side1 ?side2 ?side3 A2.out).mono ?_); (case side1 => exact Hd.below HG.out HG.out.size (by repeat (first | (with_reducible first | exact HB.out | apply below_alloc | apply pw_below_drewN | apply below_drew1) | exact HB.out))); (case side2 => repeat (first | exact (Kd.R_reads' HO129.out).2.2 | (with_reducible refine Kd.C_alloc ?_ _) | (with_reducible refine Kd.C_drewN ?_ _) | (with_reducible refine Kd.C_drew ?_))); (case side3 => exact (Kd.R_reads' HO129.out).2.1); rintro e w7 ⟨v132, rfl, ho0, hb⟩; refine ⟨_, rfl, ?_⟩; have n0_ := Aside0.mk (Kd.R_below (by (with_reducible repeat (first | apply Kd.R_alloc | apply Kd.R_drewN | apply Kd.R_drew)); exact HO129.out) hb); have n1_ := Aside0.mk (Kd.R_lower ho0 (below_size (by repeat (first | (with_reducible first | exact HB.out | apply below_alloc | apply pw_below_drewN | apply below_drew1) | exact HB.out)))); have n2_ := Aside0.mk (below_step (by repeat (first | (with_reducible first | exact HB.out | apply below_alloc | apply pw_below_drewN | apply below_drew1) | exact HB.out)) hb); clear HO129; clear HB; have HO129 := n0_; have HO133 := n1_; have HB := n2_; clear n0_ n1_ n2_; (try clear hb); (try clear hb2); (try clear hk); (try clear hi); (try clear hgw); (try clear ho0)))
  (try simp only [Act.put, List.setIfInBounds_toArray, List.set_cons_zero, List.set_cons_succ])
  go_cut [36] (fun v36 wc => ∃ (kq : Nat) (x36_2 : Bool), v36 = .bool x36_2 ∧ Aside0 (lw02_UtfChar.j0 kq a0 t130 t131 x36_2 = some r) ∧ Aside0 (kq ≤ k) ∧ Aside0 (Kd.R (Kd.int .u8) 5 wc w.heap.size (fun _ => True) v132 t130) ∧ Aside0 (Below w.heap.size w wc))
  case first =>
    have H := HC3.out
    clear HC3
    replace H := Option.bind_eq_some_iff.mp H
    obtain ⟨t134, A80, H⟩ := H
    replace H : (if (t131 != t134) = true then (lw02_UtfChar.j0 k a0 t130 t131 true) else ((utf_Char.f (IntKind.u64.wrap ((IntKind.u64.wrap (a0)) + 4294967296))).bind fun t135 => (if t135 = true then (lw02_UtfChar.j0 k a0 t130 t131 true) else (if a0 < 55296 then (lw02_UtfChar.j0 k a0 t130 t131 (t131 != true)) else (if a0 ≥ 57344 then (lw02_UtfChar.j0 k a0 t130 t131 (t131 != (decide (a0 < 1114112)))) else (lw02_UtfChar.j0 k a0 t130 t131 (t131 != false))))))) = some r := H
    have A8 := Aside0.mk A80
    clear A80
    by_cases c9 : (t131 != t134) = true
    · rw [if_pos c9] at H
      have c9b0 : (t131 != t134) = true := c9
      (try (have c9b1 : decide (t131 = t134) = false := by simpa using c9))
      (try (have c9b2 : (t131 == t134) = false := by simpa using c9))
      (try (have c9b3 : ¬ (t131 = t134) := by simpa using c9))
      clear c9
      (first | rw [c9b0] | (simp only [i64_w, i32_w]; rw [c9b0]) | skip)
      have H' := Aside0.mk H
      clear H
      go_wp2_with (first | ((with_reducible refine gate_callee (f := 15) rfl ?_); refine goesL_ (some 15) rfl rfl Tryd.func15 (by kernel_rfl) rfl #[.int .u64 (IntKind.u64.wrap (a0))] rfl (by (try simp only [List.map_toArray, List.map_cons, List.map_nil]); first | done | rfl | (simp only [List.length_drop, List.length_take]; rfl)) ?_; (with_reducible refine (utf_Char.calls (IntKind.u64.wrap (a0)) t134 _ A8.out).mono ?_); rintro e w' ⟨rfl, ⟨nd, rfl⟩⟩; refine ⟨_, rfl, ?_⟩))
      go_meet
      case rel => exact ⟨_, (true), (by first | rfl | (simp; done) | (simp [*]; done)), H', ⟨by first | omega | exact Nat.le_refl _⟩, ⟨by (with_reducible repeat (first | apply Kd.R_alloc | apply Kd.R_drewN | apply Kd.R_drew)); exact HO133.out⟩, ⟨by repeat (first | (with_reducible first | exact HB.out | apply below_alloc | apply pw_below_drewN | apply below_drew1) | exact HB.out)⟩⟩
    · rw [if_neg c9] at H
      have c9b0 : (t131 != t134) = false := by simpa using c9
      (try (have c9b1 : decide (t131 = t134) = true := by simpa using c9))
      (try (have c9b2 : (t131 == t134) = true := by simpa using c9))
      clear c9
      (first | rw [c9b0] | (simp only [i64_w, i32_w]; rw [c9b0]) | skip)
      replace H := Option.bind_eq_some_iff.mp H
      obtain ⟨t135, A100, H⟩ := H
      replace H : (if t135 = true then (lw02_UtfChar.j0 k a0 t130 t131 true) else (if a0 < 55296 then (lw02_UtfChar.j0 k a0 t130 t131 (t131 != true)) else (if a0 ≥ 57344 then (lw02_UtfChar.j0 k a0 t130 t131 (t131 != (decide (a0 < 1114112)))) else (lw02_UtfChar.j0 k a0 t130 t131 (t131 != false))))) = some r := H
      have A10 := Aside0.mk A100
      clear A100
      by_cases c11 : t135 = true
      · subst c11
        have H1 : (lw02_UtfChar.j0 k a0 t130 t131 true) = some r := by rw [if_pos rfl] at H; exact H
        clear H
        have H := H1
        clear H1
        have H' := Aside0.mk H
        clear H
        go_wp2_with (first | ((with_reducible refine gate_callee (f := 15) rfl ?_); refine goesL_ (some 15) rfl rfl Tryd.func15 (by kernel_rfl) rfl #[.int .u64 (IntKind.u64.wrap (a0))] rfl (by (try simp only [List.map_toArray, List.map_cons, List.map_nil]); first | done | rfl | (simp only [List.length_drop, List.length_take]; rfl)) ?_; (with_reducible refine (utf_Char.calls (IntKind.u64.wrap (a0)) t134 _ A8.out).mono ?_); rintro e w' ⟨rfl, ⟨nd, rfl⟩⟩; refine ⟨_, rfl, ?_⟩) | (go_at_call 15; (with_reducible refine (utf_Char.calls (IntKind.u64.wrap ((IntKind.u64.wrap (a0)) + 4294967296)) true _ A10.out).mono ?_); rintro e w' ⟨rfl, ⟨nd, rfl⟩⟩))
        go_meet
        case rel => exact ⟨_, (true), (by first | rfl | (simp; done) | (simp [*]; done)), H', ⟨by first | omega | exact Nat.le_refl _⟩, ⟨by (with_reducible repeat (first | apply Kd.R_alloc | apply Kd.R_drewN | apply Kd.R_drew)); exact HO133.out⟩, ⟨by repeat (first | (with_reducible first | exact HB.out | apply below_alloc | apply pw_below_drewN | apply below_drew1) | exact HB.out)⟩⟩
      · replace c11 := Bool.eq_false_iff.mpr c11
        subst c11
        have H1 : (if a0 < 55296 then (lw02_UtfChar.j0 k a0 t130 t131 (t131 != true)) else (if a0 ≥ 57344 then (lw02_UtfChar.j0 k a0 t130 t131 (t131 != (decide (a0 < 1114112)))) else (lw02_UtfChar.j0 k a0 t130 t131 (t131 != false)))) = some r := by rw [if_neg (show ¬ (false = true) by decide)] at H; exact H
        clear H
        have H := H1
        clear H1
        by_cases c12 : a0 < 55296
        · rw [if_pos c12] at H
          have c12b0 : decide (a0 < 55296) = true := decide_eq_true c12
          clear c12
          have H' := Aside0.mk H
          clear H
          go_wp2_with (first | ((with_reducible refine gate_callee (f := 15) rfl ?_); refine goesL_ (some 15) rfl rfl Tryd.func15 (by kernel_rfl) rfl #[.int .u64 (IntKind.u64.wrap (a0))] rfl (by (try simp only [List.map_toArray, List.map_cons, List.map_nil]); first | done | rfl | (simp only [List.length_drop, List.length_take]; rfl)) ?_; (with_reducible refine (utf_Char.calls (IntKind.u64.wrap (a0)) t134 _ A8.out).mono ?_); rintro e w' ⟨rfl, ⟨nd, rfl⟩⟩; refine ⟨_, rfl, ?_⟩) | (go_at_call 15; (with_reducible refine (utf_Char.calls (IntKind.u64.wrap ((IntKind.u64.wrap (a0)) + 4294967296)) false _ A10.out).mono ?_); rintro e w' ⟨rfl, ⟨nd, rfl⟩⟩))
          go_meet
          case rel => exact ⟨_, ((t131 != true)), (by first | rfl | (simp; done) | (simp [*]; done)), H', ⟨by first | omega | exact Nat.le_refl _⟩, ⟨by (with_reducible repeat (first | apply Kd.R_alloc | apply Kd.R_drewN | apply Kd.R_drew)); exact HO133.out⟩, ⟨by repeat (first | (with_reducible first | exact HB.out | apply below_alloc | apply pw_below_drewN | apply below_drew1) | exact HB.out)⟩⟩
        · rw [if_neg c12] at H
          have c12b0 : decide (a0 < 55296) = false := decide_eq_false c12
          clear c12
          by_cases c13 : a0 ≥ 57344
          · rw [if_pos c13] at H
            have c13b0 : decide (57344 ≤ a0) = true := decide_eq_true c13
            clear c13
            have H' := Aside0.mk H
            clear H
            go_wp2_with (first | ((with_reducible refine gate_callee (f := 15) rfl ?_); refine goesL_ (some 15) rfl rfl Tryd.func15 (by kernel_rfl) rfl #[.int .u64 (IntKind.u64.wrap (a0))] rfl (by (try simp only [List.map_toArray, List.map_cons, List.map_nil]); first | done | rfl | (simp only [List.length_drop, List.length_take]; rfl)) ?_; (with_reducible refine (utf_Char.calls (IntKind.u64.wrap (a0)) t134 _ A8.out).mono ?_); rintro e w' ⟨rfl, ⟨nd, rfl⟩⟩; refine ⟨_, rfl, ?_⟩) | (go_at_call 15; (with_reducible refine (utf_Char.calls (IntKind.u64.wrap ((IntKind.u64.wrap (a0)) + 4294967296)) false _ A10.out).mono ?_); rintro e w' ⟨rfl, ⟨nd, rfl⟩⟩))
            go_meet
            case rel => exact ⟨_, ((t131 != (decide (a0 < 1114112)))), (by first | rfl | (simp; done) | (simp [*]; done)), H', ⟨by first | omega | exact Nat.le_refl _⟩, ⟨by (with_reducible repeat (first | apply Kd.R_alloc | apply Kd.R_drewN | apply Kd.R_drew)); exact HO133.out⟩, ⟨by repeat (first | (with_reducible first | exact HB.out | apply below_alloc | apply pw_below_drewN | apply below_drew1) | exact HB.out)⟩⟩
          · rw [if_neg c13] at H
            have c13b0 : decide (57344 ≤ a0) = false := decide_eq_false c13
            clear c13
            have H' := Aside0.mk H
            clear H
            go_wp2_with (first | ((with_reducible refine gate_callee (f := 15) rfl ?_); refine goesL_ (some 15) rfl rfl Tryd.func15 (by kernel_rfl) rfl #[.int .u64 (IntKind.u64.wrap (a0))] rfl (by (try simp only [List.map_toArray, List.map_cons, List.map_nil]); first | done | rfl | (simp only [List.length_drop, List.length_take]; rfl)) ?_; (with_reducible refine (utf_Char.calls (IntKind.u64.wrap (a0)) t134 _ A8.out).mono ?_); rintro e w' ⟨rfl, ⟨nd, rfl⟩⟩; refine ⟨_, rfl, ?_⟩) | (go_at_call 15; (with_reducible refine (utf_Char.calls (IntKind.u64.wrap ((IntKind.u64.wrap (a0)) + 4294967296)) false _ A10.out).mono ?_); rintro e w' ⟨rfl, ⟨nd, rfl⟩⟩))
            go_meet
            case rel => exact ⟨_, ((t131 != false)), (by first | rfl | (simp; done) | (simp [*]; done)), H', ⟨by first | omega | exact Nat.le_refl _⟩, ⟨by (with_reducible repeat (first | apply Kd.R_alloc | apply Kd.R_drewN | apply Kd.R_drew)); exact HO133.out⟩, ⟨by repeat (first | (with_reducible first | exact HB.out | apply below_alloc | apply pw_below_drewN | apply below_drew1) | exact HB.out)⟩⟩
  case rest =>
    clear HC3
    try clear c1
    try clear p2
    try clear c9
    try clear c9b0
    try clear c9b1
    try clear c9b2
    try clear c11
    try clear c12
    try clear c12b0
    try clear c13
    try clear c13b0
    obtain ⟨kq, x36_2, rfl, HA, HJ2, HO_3, HB⟩ := hcut
    cases kq with
    | zero => exact absurd HA.out (by simp [lw02_UtfChar.j0])
    | succ kj2 =>
      have H := HA.out
      clear HA
      simp only [lw02_UtfChar.j0] at H
      by_cases c14 : x36_2 = true
      · subst c14
        have H1 : (some false) = some r := by rw [if_pos rfl] at H; exact H
        clear H
        have H := H1
        clear H1
        obtain rfl := Option.some.inj H
        go_wp2
        go_ret
        exact ⟨by first | rfl | (simp [errW_none, errW_some] <;> rfl) | (simp [*, errW_none, errW_some] <;> rfl), by repeat (first | (with_reducible first | exact HB.out | apply below_alloc | apply pw_below_drewN | apply below_drew1) | exact HB.out)⟩
      · replace c14 := Bool.eq_false_iff.mpr c14
        subst c14
        have H1 : (if t131 = true then (if a0 < 128 then (if (t130.length : Int) = 1 then ((utf_Ascii.f kj2 t130).bind fun t137 => (if (t137 == (decide (a0 < 128))) = true then ((lw02_works.f kj2).bind fun t138 => (some t138)) else (some false))) else (some false)) else (if a0 < 2048 then (if (t130.length : Int) = 2 then ((utf_Ascii.f kj2 t130).bind fun t139 => (if (t139 == (decide (a0 < 128))) = true then ((lw02_works.f kj2).bind fun t140 => (some t140)) else (some false))) else (some false)) else (if a0 < 65536 then (if (t130.length : Int) = 3 then ((utf_Ascii.f kj2 t130).bind fun t141 => (if (t141 == (decide (a0 < 128))) = true then ((lw02_works.f kj2).bind fun t142 => (some t142)) else (some false))) else (some false)) else (if (t130.length : Int) = 4 then ((utf_Ascii.f kj2 t130).bind fun t143 => (if (t143 == (decide (a0 < 128))) = true then ((lw02_works.f kj2).bind fun t144 => (some t144)) else (some false))) else (some false))))) else (if (t130.length : Int) = 0 then ((lw02_works.f kj2).bind fun t136 => (some t136)) else (some false))) = some r := by rw [if_neg (show ¬ (false = true) by decide)] at H; exact H
        clear H
        have H := H1
        clear H1
        by_cases c15 : t131 = true
        · subst c15
          have H1 : (if a0 < 128 then (if (t130.length : Int) = 1 then ((utf_Ascii.f kj2 t130).bind fun t137 => (if (t137 == (decide (a0 < 128))) = true then ((lw02_works.f kj2).bind fun t138 => (some t138)) else (some false))) else (some false)) else (if a0 < 2048 then (if (t130.length : Int) = 2 then ((utf_Ascii.f kj2 t130).bind fun t139 => (if (t139 == (decide (a0 < 128))) = true then ((lw02_works.f kj2).bind fun t140 => (some t140)) else (some false))) else (some false)) else (if a0 < 65536 then (if (t130.length : Int) = 3 then ((utf_Ascii.f kj2 t130).bind fun t141 => (if (t141 == (decide (a0 < 128))) = true then ((lw02_works.f kj2).bind fun t142 => (some t142)) else (some false))) else (some false)) else (if (t130.length : Int) = 4 then ((utf_Ascii.f kj2 t130).bind fun t143 => (if (t143 == (decide (a0 < 128))) = true then ((lw02_works.f kj2).bind fun t144 => (some t144)) else (some false))) else (some false))))) = some r := by rw [if_pos rfl] at H; exact H
          clear H
          have H := H1
          clear H1
          by_cases c16 : a0 < 128
          · rw [if_pos c16] at H
            have c16b0 : decide (a0 < 128) = true := decide_eq_true c16
            clear c16
            by_cases c17 : (t130.length : Int) = 1
            · rw [if_pos c17] at H
              have c17b0 : ((t130.length : Int) == 1) = true := beq_iff_eq.mpr c17
              have c17b1 : ((t130.length : Int) != 1) = false := bne_eq_false_iff_eq.mpr c17
              clear c17
              replace H := Option.bind_eq_some_iff.mp H
              obtain ⟨t137, A180, H⟩ := H
              replace H : (if (t137 == (decide (a0 < 128))) = true then ((lw02_works.f kj2).bind fun t138 => (some t138)) else (some false)) = some r := H
              have A18 := Aside0.mk A180
              clear A180
              by_cases c19 : (t137 == (decide (a0 < 128))) = true
              · rw [if_pos c19] at H
                have c19b0 : (t137 == (decide (a0 < 128))) = true := c19
                (try (have c19bg : t137 = true := by (have z := c19b0; clear c19b0; (try clear c19); simp [*] at z; exact z)))
                (try (have c19bh : t137 = false := by (have z := c19b0; clear c19b0; (try clear c19); simp [*] at z; exact z)))
                (try (have c19b1 : decide (t137 = (decide (a0 < 128))) = true := by simpa using c19))
                (try (have c19b2 : (t137 == (decide (a0 < 128))) = true := by simpa using c19))
                clear c19
                replace H := Option.bind_eq_some_iff.mp H
                obtain ⟨t138, A200, H⟩ := H
                replace H : (some t138) = some r := H
                have A20 := Aside0.mk A200
                clear A200
                obtain rfl := Option.some.inj H
                obtain ⟨Ao21, co21, eo21⟩ := Kd.R_slice HO_3.out
                subst eo21
                go_wp2_with (first | (go_at_call 22; (with_reducible refine (utf_Ascii.calls kj2 _ _ t130 t137 _ ?side1 ?side2 A18.out).mono ?_); (case side1 => repeat (first | exact (Kd.R_reads' HO_3.out).2.2 | (with_reducible refine Kd.C_alloc ?_ _) | (with_reducible refine Kd.C_drewN ?_ _) | (with_reducible refine Kd.C_drew ?_))); (case side2 => exact (Kd.R_reads' HO_3.out).2.1); rintro e w' ⟨rfl, ⟨nd, rfl⟩⟩) | (go_at_call 10; (with_reducible refine (lw02_works.calls kj2  t138 _ ?side1 A20.out).mono ?_); (case side1 => exact Hd.below HG.out HG.out.size (by repeat (first | (with_reducible first | exact HB.out | apply below_alloc | apply pw_below_drewN | apply below_drew1) | exact HB.out))); rintro e w22 ⟨rfl, hb⟩; have n0_ := Aside0.mk (Kd.R_below (by (with_reducible repeat (first | apply Kd.R_alloc | apply Kd.R_drewN | apply Kd.R_drew)); exact HO_3.out) hb); have n1_ := Aside0.mk (below_step (by repeat (first | (with_reducible first | exact HB.out | apply below_alloc | apply pw_below_drewN | apply below_drew1) | exact HB.out)) hb); clear HO_3; clear HB; have HO_3 := n0_; have HB := n1_; clear n0_ n1_; (try clear hb); (try clear hb2); (try clear hk); (try clear hi); (try clear hgw)))
                go_ret
                exact ⟨by first | rfl | (simp [errW_none, errW_some] <;> rfl) | (simp [*, errW_none, errW_some] <;> rfl), by repeat (first | (with_reducible first | exact HB.out | apply below_alloc | apply pw_below_drewN | apply below_drew1) | exact HB.out)⟩
              · rw [if_neg c19] at H
                have c19b0 : (t137 == (decide (a0 < 128))) = false := by simpa using c19
                (try (have c19bg : t137 = true := by (have z := c19b0; clear c19b0; (try clear c19); simp [*] at z; exact z)))
                (try (have c19bh : t137 = false := by (have z := c19b0; clear c19b0; (try clear c19); simp [*] at z; exact z)))
                (try (have c19b1 : decide (t137 = (decide (a0 < 128))) = false := by simpa using c19))
                (try (have c19b2 : (t137 == (decide (a0 < 128))) = false := by simpa using c19))
                (try (have c19b3 : ¬ (t137 = (decide (a0 < 128))) := by simpa using c19))
                clear c19
                obtain rfl := Option.some.inj H
                obtain ⟨Ao23, co23, eo23⟩ := Kd.R_slice HO_3.out
                subst eo23
                go_wp2_with (first | (go_at_call 22; (with_reducible refine (utf_Ascii.calls kj2 _ _ t130 t137 _ ?side1 ?side2 A18.out).mono ?_); (case side1 => repeat (first | exact (Kd.R_reads' HO_3.out).2.2 | (with_reducible refine Kd.C_alloc ?_ _) | (with_reducible refine Kd.C_drewN ?_ _) | (with_reducible refine Kd.C_drew ?_))); (case side2 => exact (Kd.R_reads' HO_3.out).2.1); rintro e w' ⟨rfl, ⟨nd, rfl⟩⟩))
                go_ret
                exact ⟨by first | rfl | (simp [errW_none, errW_some] <;> rfl) | (simp [*, errW_none, errW_some] <;> rfl), by repeat (first | (with_reducible first | exact HB.out | apply below_alloc | apply pw_below_drewN | apply below_drew1) | exact HB.out)⟩
            · rw [if_neg c17] at H
              have c17b0 : ((t130.length : Int) == 1) = false := beq_eq_false_iff_ne.mpr c17
              have c17b1 : ((t130.length : Int) != 1) = true := bne_iff_ne.mpr c17
              obtain rfl := Option.some.inj H
              obtain ⟨Ao24, co24, eo24⟩ := Kd.R_slice HO_3.out
              subst eo24
              go_wp2
              go_ret
              exact ⟨by first | rfl | (simp [errW_none, errW_some] <;> rfl) | (simp [*, errW_none, errW_some] <;> rfl), by repeat (first | (with_reducible first | exact HB.out | apply below_alloc | apply pw_below_drewN | apply below_drew1) | exact HB.out)⟩
          · rw [if_neg c16] at H
            have c16b0 : decide (a0 < 128) = false := decide_eq_false c16
            clear c16
            by_cases c25 : a0 < 2048
            · rw [if_pos c25] at H
              have c25b0 : decide (a0 < 2048) = true := decide_eq_true c25
              clear c25
              by_cases c26 : (t130.length : Int) = 2
              · rw [if_pos c26] at H
                have c26b0 : ((t130.length : Int) == 2) = true := beq_iff_eq.mpr c26
                have c26b1 : ((t130.length : Int) != 2) = false := bne_eq_false_iff_eq.mpr c26
                clear c26
                replace H := Option.bind_eq_some_iff.mp H
                obtain ⟨t139, A270, H⟩ := H
                replace H : (if (t139 == (decide (a0 < 128))) = true then ((lw02_works.f kj2).bind fun t140 => (some t140)) else (some false)) = some r := H
                have A27 := Aside0.mk A270
                clear A270
                by_cases c28 : (t139 == (decide (a0 < 128))) = true
                · rw [if_pos c28] at H
                  have c28b0 : (t139 == (decide (a0 < 128))) = true := c28
                  (try (have c28bg : t139 = true := by (have z := c28b0; clear c28b0; (try clear c28); simp [*] at z; exact z)))
                  (try (have c28bh : t139 = false := by (have z := c28b0; clear c28b0; (try clear c28); simp [*] at z; exact z)))
                  (try (have c28b1 : decide (t139 = (decide (a0 < 128))) = true := by simpa using c28))
                  (try (have c28b2 : (t139 == (decide (a0 < 128))) = true := by simpa using c28))
                  clear c28
                  replace H := Option.bind_eq_some_iff.mp H
                  obtain ⟨t140, A290, H⟩ := H
                  replace H : (some t140) = some r := H
                  have A29 := Aside0.mk A290
                  clear A290
                  obtain rfl := Option.some.inj H
                  obtain ⟨Ao30, co30, eo30⟩ := Kd.R_slice HO_3.out
                  subst eo30
                  go_wp2_with (first | (go_at_call 22; (with_reducible refine (utf_Ascii.calls kj2 _ _ t130 t139 _ ?side1 ?side2 A27.out).mono ?_); (case side1 => repeat (first | exact (Kd.R_reads' HO_3.out).2.2 | (with_reducible refine Kd.C_alloc ?_ _) | (with_reducible refine Kd.C_drewN ?_ _) | (with_reducible refine Kd.C_drew ?_))); (case side2 => exact (Kd.R_reads' HO_3.out).2.1); rintro e w' ⟨rfl, ⟨nd, rfl⟩⟩) | (go_at_call 10; (with_reducible refine (lw02_works.calls kj2  t140 _ ?side1 A29.out).mono ?_); (case side1 => exact Hd.below HG.out HG.out.size (by repeat (first | (with_reducible first | exact HB.out | apply below_alloc | apply pw_below_drewN | apply below_drew1) | exact HB.out))); rintro e w31 ⟨rfl, hb⟩; have n0_ := Aside0.mk (Kd.R_below (by (with_reducible repeat (first | apply Kd.R_alloc | apply Kd.R_drewN | apply Kd.R_drew)); exact HO_3.out) hb); have n1_ := Aside0.mk (below_step (by repeat (first | (with_reducible first | exact HB.out | apply below_alloc | apply pw_below_drewN | apply below_drew1) | exact HB.out)) hb); clear HO_3; clear HB; have HO_3 := n0_; have HB := n1_; clear n0_ n1_; (try clear hb); (try clear hb2); (try clear hk); (try clear hi); (try clear hgw)))
                  go_ret
                  exact ⟨by first | rfl | (simp [errW_none, errW_some] <;> rfl) | (simp [*, errW_none, errW_some] <;> rfl), by repeat (first | (with_reducible first | exact HB.out | apply below_alloc | apply pw_below_drewN | apply below_drew1) | exact HB.out)⟩
                · rw [if_neg c28] at H
                  have c28b0 : (t139 == (decide (a0 < 128))) = false := by simpa using c28
                  (try (have c28bg : t139 = true := by (have z := c28b0; clear c28b0; (try clear c28); simp [*] at z; exact z)))
                  (try (have c28bh : t139 = false := by (have z := c28b0; clear c28b0; (try clear c28); simp [*] at z; exact z)))
                  (try (have c28b1 : decide (t139 = (decide (a0 < 128))) = false := by simpa using c28))
                  (try (have c28b2 : (t139 == (decide (a0 < 128))) = false := by simpa using c28))
                  (try (have c28b3 : ¬ (t139 = (decide (a0 < 128))) := by simpa using c28))
                  clear c28
                  obtain rfl := Option.some.inj H
                  obtain ⟨Ao32, co32, eo32⟩ := Kd.R_slice HO_3.out
                  subst eo32
                  go_wp2_with (first | (go_at_call 22; (with_reducible refine (utf_Ascii.calls kj2 _ _ t130 t139 _ ?side1 ?side2 A27.out).mono ?_); (case side1 => repeat (first | exact (Kd.R_reads' HO_3.out).2.2 | (with_reducible refine Kd.C_alloc ?_ _) | (with_reducible refine Kd.C_drewN ?_ _) | (with_reducible refine Kd.C_drew ?_))); (case side2 => exact (Kd.R_reads' HO_3.out).2.1); rintro e w' ⟨rfl, ⟨nd, rfl⟩⟩))
                  go_ret
                  exact ⟨by first | rfl | (simp [errW_none, errW_some] <;> rfl) | (simp [*, errW_none, errW_some] <;> rfl), by repeat (first | (with_reducible first | exact HB.out | apply below_alloc | apply pw_below_drewN | apply below_drew1) | exact HB.out)⟩
              · rw [if_neg c26] at H
                have c26b0 : ((t130.length : Int) == 2) = false := beq_eq_false_iff_ne.mpr c26
                have c26b1 : ((t130.length : Int) != 2) = true := bne_iff_ne.mpr c26
                obtain rfl := Option.some.inj H
                obtain ⟨Ao33, co33, eo33⟩ := Kd.R_slice HO_3.out
                subst eo33
                go_wp2
                go_ret
                exact ⟨by first | rfl | (simp [errW_none, errW_some] <;> rfl) | (simp [*, errW_none, errW_some] <;> rfl), by repeat (first | (with_reducible first | exact HB.out | apply below_alloc | apply pw_below_drewN | apply below_drew1) | exact HB.out)⟩
            · rw [if_neg c25] at H
              have c25b0 : decide (a0 < 2048) = false := decide_eq_false c25
              clear c25
              by_cases c34 : a0 < 65536
              · rw [if_pos c34] at H
                have c34b0 : decide (a0 < 65536) = true := decide_eq_true c34
                clear c34
                by_cases c35 : (t130.length : Int) = 3
                · rw [if_pos c35] at H
                  have c35b0 : ((t130.length : Int) == 3) = true := beq_iff_eq.mpr c35
                  have c35b1 : ((t130.length : Int) != 3) = false := bne_eq_false_iff_eq.mpr c35
                  clear c35
                  replace H := Option.bind_eq_some_iff.mp H
                  obtain ⟨t141, A360, H⟩ := H
                  replace H : (if (t141 == (decide (a0 < 128))) = true then ((lw02_works.f kj2).bind fun t142 => (some t142)) else (some false)) = some r := H
                  have A36 := Aside0.mk A360
                  clear A360
                  by_cases c37 : (t141 == (decide (a0 < 128))) = true
                  · rw [if_pos c37] at H
                    have c37b0 : (t141 == (decide (a0 < 128))) = true := c37
                    (try (have c37bg : t141 = true := by (have z := c37b0; clear c37b0; (try clear c37); simp [*] at z; exact z)))
                    (try (have c37bh : t141 = false := by (have z := c37b0; clear c37b0; (try clear c37); simp [*] at z; exact z)))
                    (try (have c37b1 : decide (t141 = (decide (a0 < 128))) = true := by simpa using c37))
                    (try (have c37b2 : (t141 == (decide (a0 < 128))) = true := by simpa using c37))
                    clear c37
                    replace H := Option.bind_eq_some_iff.mp H
                    obtain ⟨t142, A380, H⟩ := H
                    replace H : (some t142) = some r := H
                    have A38 := Aside0.mk A380
                    clear A380
                    obtain rfl := Option.some.inj H
                    obtain ⟨Ao39, co39, eo39⟩ := Kd.R_slice HO_3.out
                    subst eo39
                    go_wp2_with (first | (go_at_call 22; (with_reducible refine (utf_Ascii.calls kj2 _ _ t130 t141 _ ?side1 ?side2 A36.out).mono ?_); (case side1 => repeat (first | exact (Kd.R_reads' HO_3.out).2.2 | (with_reducible refine Kd.C_alloc ?_ _) | (with_reducible refine Kd.C_drewN ?_ _) | (with_reducible refine Kd.C_drew ?_))); (case side2 => exact (Kd.R_reads' HO_3.out).2.1); rintro e w' ⟨rfl, ⟨nd, rfl⟩⟩) | (go_at_call 10; (with_reducible refine (lw02_works.calls kj2  t142 _ ?side1 A38.out).mono ?_); (case side1 => exact Hd.below HG.out HG.out.size (by repeat (first | (with_reducible first | exact HB.out | apply below_alloc | apply pw_below_drewN | apply below_drew1) | exact HB.out))); rintro e w40 ⟨rfl, hb⟩; have n0_ := Aside0.mk (Kd.R_below (by (with_reducible repeat (first | apply Kd.R_alloc | apply Kd.R_drewN | apply Kd.R_drew)); exact HO_3.out) hb); have n1_ := Aside0.mk (below_step (by repeat (first | (with_reducible first | exact HB.out | apply below_alloc | apply pw_below_drewN | apply below_drew1) | exact HB.out)) hb); clear HO_3; clear HB; have HO_3 := n0_; have HB := n1_; clear n0_ n1_; (try clear hb); (try clear hb2); (try clear hk); (try clear hi); (try clear hgw)))
                    go_ret
                    exact ⟨by first | rfl | (simp [errW_none, errW_some] <;> rfl) | (simp [*, errW_none, errW_some] <;> rfl), by repeat (first | (with_reducible first | exact HB.out | apply below_alloc | apply pw_below_drewN | apply below_drew1) | exact HB.out)⟩
                  · rw [if_neg c37] at H
                    have c37b0 : (t141 == (decide (a0 < 128))) = false := by simpa using c37
                    (try (have c37bg : t141 = true := by (have z := c37b0; clear c37b0; (try clear c37); simp [*] at z; exact z)))
                    (try (have c37bh : t141 = false := by (have z := c37b0; clear c37b0; (try clear c37); simp [*] at z; exact z)))
                    (try (have c37b1 : decide (t141 = (decide (a0 < 128))) = false := by simpa using c37))
                    (try (have c37b2 : (t141 == (decide (a0 < 128))) = false := by simpa using c37))
                    (try (have c37b3 : ¬ (t141 = (decide (a0 < 128))) := by simpa using c37))
                    clear c37
                    obtain rfl := Option.some.inj H
                    obtain ⟨Ao41, co41, eo41⟩ := Kd.R_slice HO_3.out
                    subst eo41
                    go_wp2_with (first | (go_at_call 22; (with_reducible refine (utf_Ascii.calls kj2 _ _ t130 t141 _ ?side1 ?side2 A36.out).mono ?_); (case side1 => repeat (first | exact (Kd.R_reads' HO_3.out).2.2 | (with_reducible refine Kd.C_alloc ?_ _) | (with_reducible refine Kd.C_drewN ?_ _) | (with_reducible refine Kd.C_drew ?_))); (case side2 => exact (Kd.R_reads' HO_3.out).2.1); rintro e w' ⟨rfl, ⟨nd, rfl⟩⟩))
                    go_ret
                    exact ⟨by first | rfl | (simp [errW_none, errW_some] <;> rfl) | (simp [*, errW_none, errW_some] <;> rfl), by repeat (first | (with_reducible first | exact HB.out | apply below_alloc | apply pw_below_drewN | apply below_drew1) | exact HB.out)⟩
                · rw [if_neg c35] at H
                  have c35b0 : ((t130.length : Int) == 3) = false := beq_eq_false_iff_ne.mpr c35
                  have c35b1 : ((t130.length : Int) != 3) = true := bne_iff_ne.mpr c35
                  obtain rfl := Option.some.inj H
                  obtain ⟨Ao42, co42, eo42⟩ := Kd.R_slice HO_3.out
                  subst eo42
                  go_wp2
                  go_ret
                  exact ⟨by first | rfl | (simp [errW_none, errW_some] <;> rfl) | (simp [*, errW_none, errW_some] <;> rfl), by repeat (first | (with_reducible first | exact HB.out | apply below_alloc | apply pw_below_drewN | apply below_drew1) | exact HB.out)⟩
              · rw [if_neg c34] at H
                have c34b0 : decide (a0 < 65536) = false := decide_eq_false c34
                clear c34
                by_cases c43 : (t130.length : Int) = 4
                · rw [if_pos c43] at H
                  have c43b0 : ((t130.length : Int) == 4) = true := beq_iff_eq.mpr c43
                  have c43b1 : ((t130.length : Int) != 4) = false := bne_eq_false_iff_eq.mpr c43
                  clear c43
                  replace H := Option.bind_eq_some_iff.mp H
                  obtain ⟨t143, A440, H⟩ := H
                  replace H : (if (t143 == (decide (a0 < 128))) = true then ((lw02_works.f kj2).bind fun t144 => (some t144)) else (some false)) = some r := H
                  have A44 := Aside0.mk A440
                  clear A440
                  by_cases c45 : (t143 == (decide (a0 < 128))) = true
                  · rw [if_pos c45] at H
                    have c45b0 : (t143 == (decide (a0 < 128))) = true := c45
                    (try (have c45bg : t143 = true := by (have z := c45b0; clear c45b0; (try clear c45); simp [*] at z; exact z)))
                    (try (have c45bh : t143 = false := by (have z := c45b0; clear c45b0; (try clear c45); simp [*] at z; exact z)))
                    (try (have c45b1 : decide (t143 = (decide (a0 < 128))) = true := by simpa using c45))
                    (try (have c45b2 : (t143 == (decide (a0 < 128))) = true := by simpa using c45))
                    clear c45
                    replace H := Option.bind_eq_some_iff.mp H
                    obtain ⟨t144, A460, H⟩ := H
                    replace H : (some t144) = some r := H
                    have A46 := Aside0.mk A460
                    clear A460
                    obtain rfl := Option.some.inj H
                    obtain ⟨Ao47, co47, eo47⟩ := Kd.R_slice HO_3.out
                    subst eo47
                    go_wp2_with (first | (go_at_call 22; (with_reducible refine (utf_Ascii.calls kj2 _ _ t130 t143 _ ?side1 ?side2 A44.out).mono ?_); (case side1 => repeat (first | exact (Kd.R_reads' HO_3.out).2.2 | (with_reducible refine Kd.C_alloc ?_ _) | (with_reducible refine Kd.C_drewN ?_ _) | (with_reducible refine Kd.C_drew ?_))); (case side2 => exact (Kd.R_reads' HO_3.out).2.1); rintro e w' ⟨rfl, ⟨nd, rfl⟩⟩) | (go_at_call 10; (with_reducible refine (lw02_works.calls kj2  t144 _ ?side1 A46.out).mono ?_); (case side1 => exact Hd.below HG.out HG.out.size (by repeat (first | (with_reducible first | exact HB.out | apply below_alloc | apply pw_below_drewN | apply below_drew1) | exact HB.out))); rintro e w48 ⟨rfl, hb⟩; have n0_ := Aside0.mk (Kd.R_below (by (with_reducible repeat (first | apply Kd.R_alloc | apply Kd.R_drewN | apply Kd.R_drew)); exact HO_3.out) hb); have n1_ := Aside0.mk (below_step (by repeat (first | (with_reducible first | exact HB.out | apply below_alloc | apply pw_below_drewN | apply below_drew1) | exact HB.out)) hb); clear HO_3; clear HB; have HO_3 := n0_; have HB := n1_; clear n0_ n1_; (try clear hb); (try clear hb2); (try clear hk); (try clear hi); (try clear hgw)))
                    go_ret
                    exact ⟨by first | rfl | (simp [errW_none, errW_some] <;> rfl) | (simp [*, errW_none, errW_some] <;> rfl), by repeat (first | (with_reducible first | exact HB.out | apply below_alloc | apply pw_below_drewN | apply below_drew1) | exact HB.out)⟩
                  · rw [if_neg c45] at H
                    have c45b0 : (t143 == (decide (a0 < 128))) = false := by simpa using c45
                    (try (have c45bg : t143 = true := by (have z := c45b0; clear c45b0; (try clear c45); simp [*] at z; exact z)))
                    (try (have c45bh : t143 = false := by (have z := c45b0; clear c45b0; (try clear c45); simp [*] at z; exact z)))
                    (try (have c45b1 : decide (t143 = (decide (a0 < 128))) = false := by simpa using c45))
                    (try (have c45b2 : (t143 == (decide (a0 < 128))) = false := by simpa using c45))
                    (try (have c45b3 : ¬ (t143 = (decide (a0 < 128))) := by simpa using c45))
                    clear c45
                    obtain rfl := Option.some.inj H
                    obtain ⟨Ao49, co49, eo49⟩ := Kd.R_slice HO_3.out
                    subst eo49
                    go_wp2_with (first | (go_at_call 22; (with_reducible refine (utf_Ascii.calls kj2 _ _ t130 t143 _ ?side1 ?side2 A44.out).mono ?_); (case side1 => repeat (first | exact (Kd.R_reads' HO_3.out).2.2 | (with_reducible refine Kd.C_alloc ?_ _) | (with_reducible refine Kd.C_drewN ?_ _) | (with_reducible refine Kd.C_drew ?_))); (case side2 => exact (Kd.R_reads' HO_3.out).2.1); rintro e w' ⟨rfl, ⟨nd, rfl⟩⟩))
                    go_ret
                    exact ⟨by first | rfl | (simp [errW_none, errW_some] <;> rfl) | (simp [*, errW_none, errW_some] <;> rfl), by repeat (first | (with_reducible first | exact HB.out | apply below_alloc | apply pw_below_drewN | apply below_drew1) | exact HB.out)⟩
                · rw [if_neg c43] at H
                  have c43b0 : ((t130.length : Int) == 4) = false := beq_eq_false_iff_ne.mpr c43
                  have c43b1 : ((t130.length : Int) != 4) = true := bne_iff_ne.mpr c43
                  obtain rfl := Option.some.inj H
                  obtain ⟨Ao50, co50, eo50⟩ := Kd.R_slice HO_3.out
                  subst eo50
                  go_wp2
                  go_ret
                  exact ⟨by first | rfl | (simp [errW_none, errW_some] <;> rfl) | (simp [*, errW_none, errW_some] <;> rfl), by repeat (first | (with_reducible first | exact HB.out | apply below_alloc | apply pw_below_drewN | apply below_drew1) | exact HB.out)⟩
        · replace c15 := Bool.eq_false_iff.mpr c15
          subst c15
          have H1 : (if (t130.length : Int) = 0 then ((lw02_works.f kj2).bind fun t136 => (some t136)) else (some false)) = some r := by rw [if_neg (show ¬ (false = true) by decide)] at H; exact H
          clear H
          have H := H1
          clear H1
          by_cases c51 : (t130.length : Int) = 0
          · rw [if_pos c51] at H
            have c51b0 : ((t130.length : Int) == 0) = true := beq_iff_eq.mpr c51
            have c51b1 : ((t130.length : Int) != 0) = false := bne_eq_false_iff_eq.mpr c51
            clear c51
            replace H := Option.bind_eq_some_iff.mp H
            obtain ⟨t136, A520, H⟩ := H
            replace H : (some t136) = some r := H
            have A52 := Aside0.mk A520
            clear A520
            obtain rfl := Option.some.inj H
            obtain ⟨Ao53, co53, eo53⟩ := Kd.R_slice HO_3.out
            subst eo53
            go_wp2_with (first | (go_at_call 10; (with_reducible refine (lw02_works.calls kj2  t136 _ ?side1 A52.out).mono ?_); (case side1 => exact Hd.below HG.out HG.out.size (by repeat (first | (with_reducible first | exact HB.out | apply below_alloc | apply pw_below_drewN | apply below_drew1) | exact HB.out))); rintro e w54 ⟨rfl, hb⟩; have n0_ := Aside0.mk (Kd.R_below (by (with_reducible repeat (first | apply Kd.R_alloc | apply Kd.R_drewN | apply Kd.R_drew)); exact HO_3.out) hb); have n1_ := Aside0.mk (below_step (by repeat (first | (with_reducible first | exact HB.out | apply below_alloc | apply pw_below_drewN | apply below_drew1) | exact HB.out)) hb); clear HO_3; clear HB; have HO_3 := n0_; have HB := n1_; clear n0_ n1_; (try clear hb); (try clear hb2); (try clear hk); (try clear hi); (try clear hgw)))
            go_ret
            exact ⟨by first | rfl | (simp [errW_none, errW_some] <;> rfl) | (simp [*, errW_none, errW_some] <;> rfl), by repeat (first | (with_reducible first | exact HB.out | apply below_alloc | apply pw_below_drewN | apply below_drew1) | exact HB.out)⟩
          · rw [if_neg c51] at H
            have c51b0 : ((t130.length : Int) == 0) = false := beq_eq_false_iff_ne.mpr c51
            have c51b1 : ((t130.length : Int) != 0) = true := bne_iff_ne.mpr c51
            have c51b2 : ¬ (t130 = []) := fun h_ => c51 (by rw [h_]; rfl)
            obtain rfl := Option.some.inj H
            obtain ⟨Ao55, co55, eo55⟩ := Kd.R_slice HO_3.out
            subst eo55
            go_wp2
            go_ret
            exact ⟨by first | rfl | (simp [errW_none, errW_some] <;> rfl) | (simp [*, errW_none, errW_some] <;> rfl), by repeat (first | (with_reducible first | exact HB.out | apply below_alloc | apply pw_below_drewN | apply below_drew1) | exact HB.out)⟩

/-- THE ONE PURE STATEMENT of lw02_UtfChar: yours. -/
def lw02_UtfChar.Pure : Prop := ∀ (a0 : Int), (Lit.int .u32 a0).wf = true → ∃ k, lw02_UtfChar.f k a0 = some true
theorem lw02_UtfChar.walk (P : lw02_UtfChar.Pure) (a0 : Int) (w : World) (hG : Hd w) (w0 : (Lit.int .u32 a0).wf = true) :
    Calls Tryd.prog 9 #[.int .u32 a0] w fun e w' => e = .returned (.bool true) ∧ Below w.heap.size w w' := by
  obtain ⟨k, h⟩ := P a0 w0
  refine (lw02_UtfChar.calls k a0 true w hG h).mono ?_
  rintro e w' ⟨rfl, hd⟩
  exact ⟨rfl, hd⟩

end Go.Proofs.YtbbgmokpniigfaaDoor.PUtfChar
