/- Written by a program of this session (a turned copy of the print; not the kit's own print): the walks of the functions that one law reaches, or that law's row; the plain law stands in the Pure text; no condition of our own. -/
import Derived.Test.YtbbgmokpniigfaaDoorPUtfCharsx0
import Derived.Test.YtbbgmokpniigfaaDoorPUtfCharsx1
import Derived.Test.YtbbgmokpniigfaaDoorPUtfCharsx2
import Derived.Test.YtbbgmokpniigfaaDoorPUtfCharsx3
namespace Go.Proofs.YtbbgmokpniigfaaDoor.PUtfChars
open Go.RowKit Go.Proofs.YtbbgmokpniigfaaDoorW.PrintWords Go.Proofs.YtbbgmokpniigfaaDoorW.PrintLast Go.Proofs.YtbbgmokpniigfaaDoorW.PrintMore
attribute [local go_sem] max2_int min2_int max_two min_two max_three min_three max_four min_four   -- for this text's walks alone
set_option linter.unusedVariables false
set_option linter.unusedSimpArgs false

/-! ### rf02_Chars: function 21 -/
mutual
def rf02_Chars.l0 : Nat → List Int → List Int → Int → Option (List Int × Bool)
  | 0, _, _, _ => none
  | k + 1, x0, x4, x5 => if x5 < (x0.length : Int) then (if 0 ≤ x5 then (if ((rd x0 x5) % 4294967296) ≥ 240 then (rf02_Chars.j1 k x0 x4 x5 4 (((rd x0 x5) % 4294967296) % 8)) else (if ((rd x0 x5) % 4294967296) ≥ 224 then (rf02_Chars.j1 k x0 x4 x5 3 (((rd x0 x5) % 4294967296) % 16)) else (if ((rd x0 x5) % 4294967296) ≥ 192 then (rf02_Chars.j1 k x0 x4 x5 2 (((rd x0 x5) % 4294967296) % 32)) else (rf02_Chars.j1 k x0 x4 x5 1 ((rd x0 x5) % 4294967296))))) else (none)) else ((rf02_Text.f k x4).bind fun bt157 => (if bt157.2 = true then ((rf00_EqBytes.f bt157.1 x0).bind fun t161 => (if t161 = true then (some (x4, true)) else (some (([] : List Int), false)))) else (some (([] : List Int), false))))
def rf02_Chars.j1 : Nat → List Int → List Int → Int → Int → Int → Option (List Int × Bool)
  | 0, _, _, _, _, _ => none
  | k + 1, x0, x4, x5, x6, x7 => rf02_Chars.l1 k x0 x4 x5 x6 x7 1
def rf02_Chars.l1 : Nat → List Int → List Int → Int → Int → Int → Int → Option (List Int × Bool)
  | 0, _, _, _, _, _, _ => none
  | k + 1, x0, x4, x5, x6, x7, x8 => if x8 < x6 then (if (wrap64 (x5 + x8)) < (x0.length : Int) then (if 0 ≤ (wrap64 (x5 + x8)) then (rf02_Chars.l1 k x0 x4 x5 x6 (((64 * x7) + (((rd x0 (wrap64 (x5 + x8))) % 4294967296) % 64)) % 4294967296) (wrap64 (x8 + 1))) else (none)) else (if x4.length < 35184372088832 then (rf02_Chars.l0 k x0 (x4 ++ [x7]) (wrap64 (x5 + x6))) else (none))) else (if x4.length < 35184372088832 then (rf02_Chars.l0 k x0 (x4 ++ [x7]) (wrap64 (x5 + x6))) else (none))
end
def rf02_Chars.f (k : Nat) (l0 : List Int) : Option (List Int × Bool) := rf02_Chars.l0 k l0 ([] : List Int) 0
theorem rf02_Chars.mono_l : ∀ k, (∀ y0 y1 y2, LeO (rf02_Chars.l0 k y0 y1 y2) (rf02_Chars.l0 (k + 1) y0 y1 y2)) ∧ (∀ y0 y1 y2 y3 y4, LeO (rf02_Chars.j1 k y0 y1 y2 y3 y4) (rf02_Chars.j1 (k + 1) y0 y1 y2 y3 y4)) ∧ (∀ y0 y1 y2 y3 y4 y5, LeO (rf02_Chars.l1 k y0 y1 y2 y3 y4 y5) (rf02_Chars.l1 (k + 1) y0 y1 y2 y3 y4 y5))
  | 0 => ⟨fun _ _ _ r h => by simp [rf02_Chars.l0] at h, fun _ _ _ _ _ r h => by simp [rf02_Chars.j1] at h, fun _ _ _ _ _ _ r h => by simp [rf02_Chars.l1] at h⟩
  | k + 1 => by
    obtain ⟨ih0, ih1, ih2⟩ := rf02_Chars.mono_l k
    refine ⟨?_, ?_, ?_⟩
    · intro y0 y1 y2
      unfold rf02_Chars.l0
      repeat' first
      | (with_reducible exact ih0 _ _ _)
      | (with_reducible exact ih1 _ _ _ _ _)
      | (with_reducible exact ih2 _ _ _ _ _ _)
      | (with_reducible exact rf02_Text.mono _ _)
      | (with_reducible exact LeO.refl _)
      | (with_reducible exact LeO.none _)
      | (with_reducible refine LeO.ite ?_ ?_)
      | (with_reducible refine LeO.bind ?_ (fun _ => ?_))
      | exact ih0 _ _ _
      | exact ih1 _ _ _ _ _
      | exact ih2 _ _ _ _ _ _
      | exact rf02_Text.mono _ _
      | exact LeO.none _
      | refine LeO.ite ?_ ?_
      | refine LeO.bind ?_ (fun _ => ?_)
    · intro y0 y1 y2 y3 y4
      unfold rf02_Chars.j1
      repeat' first
      | (with_reducible exact ih0 _ _ _)
      | (with_reducible exact ih1 _ _ _ _ _)
      | (with_reducible exact ih2 _ _ _ _ _ _)
      | (with_reducible exact rf02_Text.mono _ _)
      | (with_reducible exact LeO.refl _)
      | (with_reducible exact LeO.none _)
      | (with_reducible refine LeO.ite ?_ ?_)
      | (with_reducible refine LeO.bind ?_ (fun _ => ?_))
      | exact ih0 _ _ _
      | exact ih1 _ _ _ _ _
      | exact ih2 _ _ _ _ _ _
      | exact rf02_Text.mono _ _
      | exact LeO.none _
      | refine LeO.ite ?_ ?_
      | refine LeO.bind ?_ (fun _ => ?_)
    · intro y0 y1 y2 y3 y4 y5
      unfold rf02_Chars.l1
      repeat' first
      | (with_reducible exact ih0 _ _ _)
      | (with_reducible exact ih1 _ _ _ _ _)
      | (with_reducible exact ih2 _ _ _ _ _ _)
      | (with_reducible exact rf02_Text.mono _ _)
      | (with_reducible exact LeO.refl _)
      | (with_reducible exact LeO.none _)
      | (with_reducible refine LeO.ite ?_ ?_)
      | (with_reducible refine LeO.bind ?_ (fun _ => ?_))
      | exact ih0 _ _ _
      | exact ih1 _ _ _ _ _
      | exact ih2 _ _ _ _ _ _
      | exact rf02_Text.mono _ _
      | exact LeO.none _
      | refine LeO.ite ?_ ?_
      | refine LeO.bind ?_ (fun _ => ?_)
theorem rf02_Chars.mono : ∀ a0 k, LeO (rf02_Chars.f k a0) (rf02_Chars.f (k + 1) a0) := by
  intro a0 k
  obtain ⟨ih0, ih1, ih2⟩ := rf02_Chars.mono_l k
  unfold rf02_Chars.f
  repeat' first
      | (with_reducible exact ih0 _ _ _)
      | (with_reducible exact ih1 _ _ _ _ _)
      | (with_reducible exact ih2 _ _ _ _ _ _)
      | (with_reducible exact rf02_Text.mono _ _)
      | (with_reducible exact LeO.refl _)
      | (with_reducible exact LeO.none _)
      | (with_reducible refine LeO.ite ?_ ?_)
      | (with_reducible refine LeO.bind ?_ (fun _ => ?_))
      | exact ih0 _ _ _
      | exact ih1 _ _ _ _ _
      | exact ih2 _ _ _ _ _ _
      | exact rf02_Text.mono _ _
      | exact LeO.none _
      | refine LeO.ite ?_ ?_
      | refine LeO.bind ?_ (fun _ => ?_)
set_option maxHeartbeats 8000000 in
set_option maxRecDepth 100000 in
theorem rf02_Chars.calls (k : Nat) (A0 : Option Addr) (c0 : Nat) (l0 : List Int) (r1 : List Int) (r2 : Bool) (w : World) (hr0 : Kd.C (Kd.int .u8) w A0 l0.length l0) (hc0 : l0.length ≤ c0) (h : rf02_Chars.f k l0 = some (r1, r2)) :
    Calls Tryd.prog 21 #[.slice A0 l0.length c0] w fun e w' => ∃ v0_ : Value, e = .returned (.tuple #[v0_, .bool r2]) ∧ Kd.R (Kd.int .u32) 32 w' w.heap.size (fun _ => True) v0_ r1 ∧ Below w.heap.size w w' := by
  have HR0 := Aside0.mk hr0
  have HC0 := Aside0.mk hc0
  clear hr0 hc0
  have HB := Aside0.mk (Below.refl w.heap.size w)
  have H : (rf02_Chars.l0 k l0 ([] : List Int) 0) = some (r1, r2) := h
  clear h
  have H' := Aside0.mk H
  clear H
  go_enter Tryd.func21, Tryd.ntmps21
  go_wp2
  go_loopg [4, 5] k (fun kq v4 v5 w' => ∃ (x4_1 : List Int) (x5_1 : Int), v5 = .int .i64 x5_1 ∧ Aside0 (rf02_Chars.l0 kq l0 x4_1 x5_1 = some (r1, r2)) ∧ Aside0 (kq ≤ k) ∧ Aside0 (Kd.R (Kd.int .u32) 32 w' w.heap.size (fun _ => True) v4 x4_1) ∧ Aside0 (Below w.heap.size w w'))
  case atStart => exact ⟨(([] : List Int)), (0), (by first | rfl | (simp; done) | (simp [*]; done)), H', ⟨Nat.le_refl _⟩, ⟨by first | exact Kd.R_nil _ _ _ _ _ | exact Kd.N_nil _ _ _ _ _ | exact Kd.V_nil _ _ _ _ _ | exact Kd.Q_nil _ _ _ _ _ | exact Kd.S_nil _ _ _ _ _⟩, ⟨by repeat (first | (with_reducible first | exact HB.out | apply below_alloc | apply pw_below_drewN | apply below_drew1) | exact HB.out)⟩⟩
  case round =>
    clear H'
    obtain ⟨x4_1, x5_1, rfl, HA, HK1, HO_4, HB⟩ := hrel
    cases gk with
    | zero => exact absurd HA.out (by simp [rf02_Chars.l0])
    | succ k1 =>
      have H := HA.out
      clear HA
      simp only [rf02_Chars.l0] at H
      by_cases c2 : x5_1 < (l0.length : Int)
      · rw [if_pos c2] at H
        have c2b0 : decide (x5_1 < (l0.length : Int)) = true := decide_eq_true c2
        clear c2
        by_cases c3 : 0 ≤ x5_1
        · rw [if_pos c3] at H
          have c3b0 : decide (0 ≤ x5_1) = true := decide_eq_true c3
          clear c3
          have HC4 := Aside0.mk H
          clear H
          have p149 : 0 ≤ (x5_1 : Int) := of_decide_eq_true (by first | (with_reducible assumption) | assumption)
          have q149 : x5_1 < (l0.length : Int) := of_decide_eq_true (by first | (with_reducible assumption) | assumption)
          obtain ⟨ad149, e149, hx149_0⟩ := Kd.at_int HR0.out x5_1 p149 q149
          cases e149
          replace hx149_0 := (HB.out.cell (World.block_lt_of_cell? w _ hx149_0)).trans hx149_0
          replace p149 := eq_true p149
          replace q149 := eq_true q149
          go_upto_block 2 with (fail)
          go_cut [6, 7] (fun v6 v7 wc => ∃ (kq : Nat) (x6_3 : Int) (x7_3 : Int), v6 = .int .i64 x6_3 ∧ v7 = .int .u32 x7_3 ∧ Aside0 (rf02_Chars.j1 kq l0 x4_1 x5_1 x6_3 x7_3 = some (r1, r2)) ∧ Aside0 (kq ≤ k1) ∧ Aside0 (Kd.R (Kd.int .u32) 32 wc w.heap.size (fun _ => True) u4 x4_1) ∧ Aside0 (Below w.heap.size w wc))
          case first =>
            have H := HC4.out
            clear HC4
            by_cases c5 : ((rd l0 x5_1) % 4294967296) ≥ 240
            · rw [if_pos c5] at H
              have c5b0 : decide (240 ≤ ((rd l0 x5_1) % 4294967296)) = true := decide_eq_true c5
              clear c5
              (first | rw [c5b0] | (simp only [i64_w, i32_w]; rw [c5b0]) | skip)
              have H' := Aside0.mk H
              clear H
              go_wp2
              go_meet
              case rel => exact ⟨_, (4), (((rd l0 x5_1) % 4294967296) % 8), (by first | rfl | (simp; done) | (simp [*]; done)), (by first | rfl | (simp; done) | (simp [*]; done)), H', ⟨by have := HK1.out; first | omega | exact Nat.le_refl _⟩, ⟨by (with_reducible repeat (first | apply Kd.R_alloc | apply Kd.R_drewN | apply Kd.R_drew)); exact HO_4.out⟩, ⟨by repeat (first | (with_reducible first | exact HB.out | apply below_alloc | apply pw_below_drewN | apply below_drew1) | exact HB.out)⟩⟩
            · rw [if_neg c5] at H
              have c5b0 : decide (240 ≤ ((rd l0 x5_1) % 4294967296)) = false := decide_eq_false c5
              clear c5
              (first | rw [c5b0] | (simp only [i64_w, i32_w]; rw [c5b0]) | skip)
              by_cases c6 : ((rd l0 x5_1) % 4294967296) ≥ 224
              · rw [if_pos c6] at H
                have c6b0 : decide (224 ≤ ((rd l0 x5_1) % 4294967296)) = true := decide_eq_true c6
                clear c6
                have H' := Aside0.mk H
                clear H
                go_wp2
                go_meet
                case rel => exact ⟨_, (3), (((rd l0 x5_1) % 4294967296) % 16), (by first | rfl | (simp; done) | (simp [*]; done)), (by first | rfl | (simp; done) | (simp [*]; done)), H', ⟨by have := HK1.out; first | omega | exact Nat.le_refl _⟩, ⟨by (with_reducible repeat (first | apply Kd.R_alloc | apply Kd.R_drewN | apply Kd.R_drew)); exact HO_4.out⟩, ⟨by repeat (first | (with_reducible first | exact HB.out | apply below_alloc | apply pw_below_drewN | apply below_drew1) | exact HB.out)⟩⟩
              · rw [if_neg c6] at H
                have c6b0 : decide (224 ≤ ((rd l0 x5_1) % 4294967296)) = false := decide_eq_false c6
                clear c6
                by_cases c7 : ((rd l0 x5_1) % 4294967296) ≥ 192
                · rw [if_pos c7] at H
                  have c7b0 : decide (192 ≤ ((rd l0 x5_1) % 4294967296)) = true := decide_eq_true c7
                  clear c7
                  have H' := Aside0.mk H
                  clear H
                  go_wp2
                  go_meet
                  case rel => exact ⟨_, (2), (((rd l0 x5_1) % 4294967296) % 32), (by first | rfl | (simp; done) | (simp [*]; done)), (by first | rfl | (simp; done) | (simp [*]; done)), H', ⟨by have := HK1.out; first | omega | exact Nat.le_refl _⟩, ⟨by (with_reducible repeat (first | apply Kd.R_alloc | apply Kd.R_drewN | apply Kd.R_drew)); exact HO_4.out⟩, ⟨by repeat (first | (with_reducible first | exact HB.out | apply below_alloc | apply pw_below_drewN | apply below_drew1) | exact HB.out)⟩⟩
                · rw [if_neg c7] at H
                  have c7b0 : decide (192 ≤ ((rd l0 x5_1) % 4294967296)) = false := decide_eq_false c7
                  clear c7
                  have H' := Aside0.mk H
                  clear H
                  go_wp2
                  go_meet
                  case rel => exact ⟨_, (1), ((rd l0 x5_1) % 4294967296), (by first | rfl | (simp; done) | (simp [*]; done)), (by first | rfl | (simp; done) | (simp [*]; done)), H', ⟨by have := HK1.out; first | omega | exact Nat.le_refl _⟩, ⟨by (with_reducible repeat (first | apply Kd.R_alloc | apply Kd.R_drewN | apply Kd.R_drew)); exact HO_4.out⟩, ⟨by repeat (first | (with_reducible first | exact HB.out | apply below_alloc | apply pw_below_drewN | apply below_drew1) | exact HB.out)⟩⟩
          case rest =>
            clear HC4
            try clear p1
            try clear q1
            try clear hx1
            try clear c2
            try clear c2b0
            try clear p2
            try clear c3
            try clear c3b0
            try clear c5
            try clear c5b0
            try clear c6
            try clear c6b0
            try clear c7
            try clear c7b0
            try clear hx149_0
            try clear p149
            try clear q149
            obtain ⟨kq, x6_3, x7_3, rfl, rfl, HA, HJ3, HO_4, HB⟩ := hcut
            cases kq with
            | zero => exact absurd HA.out (by simp [rf02_Chars.j1])
            | succ kj3 =>
              have H := HA.out
              clear HA
              simp only [rf02_Chars.j1] at H
              have H' := Aside0.mk H
              clear H
              go_wp2
              go_loopg [7, 8] kj3 (fun kq v7 v8 w' => ∃ (x7_3 : Int) (x8_3 : Int), v7 = .int .u32 x7_3 ∧ v8 = .int .i64 x8_3 ∧ Aside0 (rf02_Chars.l1 kq l0 x4_1 x5_1 x6_3 x7_3 x8_3 = some (r1, r2)) ∧ Aside0 (kq ≤ kj3) ∧ Aside0 (Kd.R (Kd.int .u32) 32 w' w.heap.size (fun _ => True) u4 x4_1) ∧ Aside0 (Below w.heap.size w w'))
              case atStart => exact ⟨(x7_3), (1), (by first | rfl | (simp; done) | (simp [*]; done)), (by first | rfl | (simp; done) | (simp [*]; done)), H', ⟨Nat.le_refl _⟩, ⟨by (with_reducible repeat (first | apply Kd.R_alloc | apply Kd.R_drewN | apply Kd.R_drew)); exact HO_4.out⟩, ⟨by repeat (first | (with_reducible first | exact HB.out | apply below_alloc | apply pw_below_drewN | apply below_drew1) | exact HB.out)⟩⟩
              case round =>
                clear H'
                try clear p1
                try clear q1
                try clear hx1
                try clear c2
                try clear c2b0
                try clear p2
                try clear c3
                try clear c3b0
                try clear c5
                try clear c5b0
                try clear c6
                try clear c6b0
                try clear c7
                try clear c7b0
                try clear hx149_0
                try clear p1
                try clear p149
                try clear p2
                try clear q1
                try clear q149
                obtain ⟨x7_3, x8_3, rfl, rfl, HA, HK3, HO_4, HB⟩ := hrel
                cases gk with
                | zero => exact absurd HA.out (by simp [rf02_Chars.l1])
                | succ k3 =>
                  have H := HA.out
                  clear HA
                  simp only [rf02_Chars.l1] at H
                  by_cases c8 : x8_3 < x6_3
                  · rw [if_pos c8] at H
                    have c8b0 : decide (x8_3 < x6_3) = true := decide_eq_true c8
                    clear c8
                    by_cases c9 : (wrap64 (x5_1 + x8_3)) < (l0.length : Int)
                    · rw [if_pos c9] at H
                      have c9b0 : decide ((wrap64 (x5_1 + x8_3)) < (l0.length : Int)) = true := decide_eq_true c9
                      clear c9
                      obtain ⟨ji10, hji10⟩ : ∃ j_ : Int, (wrap64 (x5_1 + x8_3)) = j_ := ⟨_, rfl⟩
                      replace H : (if 0 ≤ (ji10) then (rf02_Chars.l1 k3 l0 x4_1 x5_1 x6_3 (((64 * x7_3) + (((rd l0 (ji10)) % 4294967296) % 64)) % 4294967296) (wrap64 (x8_3 + 1))) else (none)) = some (r1, r2) := by first | (rw [hji10] at H; exact H) | (simp only [hji10] at H ⊢; exact H)
                      (try rw [hji10] at c9b0)
                      have hji10w : (IntKind.i64.wrap (x5_1 + x8_3)) = ji10 := (i64_w _).trans hji10
                      by_cases c11 : 0 ≤ (ji10)
                      · rw [if_pos c11] at H
                        have c11b0 : decide (0 ≤ (ji10)) = true := decide_eq_true c11
                        clear c11
                        have H' := Aside0.mk H
                        clear H
                        have p150 : 0 ≤ ((ji10) : Int) := of_decide_eq_true (by first | (with_reducible assumption) | assumption)
                        have q150 : (ji10) < (l0.length : Int) := of_decide_eq_true (by first | (with_reducible assumption) | assumption)
                        obtain ⟨ad150, e150, hx150_0⟩ := Kd.at_int HR0.out (ji10) p150 q150
                        obtain rfl : ad149 = ad150 := (by injection e150)
                        replace hx150_0 := (HB.out.cell (World.block_lt_of_cell? w _ hx150_0)).trans hx150_0
                        replace p150 := eq_true p150
                        replace q150 := eq_true q150
                        go_wp2
                        go_roundg k3
                        case measure => have := HK1.out; have := HJ3.out; have := HK3.out; omega
                        case rel => exact ⟨(((64 * x7_3) + (((rd l0 (ji10)) % 4294967296) % 64)) % 4294967296), (wrap64 (x8_3 + 1)), (by first | rfl | (simp; done) | (simp only [← hji10] <;> (first | rfl | (simp; done) | (simp; omega))) | (simp [*]; done)), (by first | rfl | (simp; done) | (simp [*]; done)), H', ⟨by have := HK1.out; have := HJ3.out; have := HK3.out; omega⟩, ⟨by (with_reducible repeat (first | apply Kd.R_alloc | apply Kd.R_drewN | apply Kd.R_drew)); exact HO_4.out⟩, ⟨by repeat (first | (with_reducible first | exact HB.out | apply below_alloc | apply pw_below_drewN | apply below_drew1) | exact HB.out)⟩⟩
                      · rw [if_neg c11] at H
                        exact absurd H (by simp)
                    · rw [if_neg c9] at H
                      have c9b0 : decide ((wrap64 (x5_1 + x8_3)) < (l0.length : Int)) = false := decide_eq_false c9
                      clear c9
                      by_cases c12 : x4_1.length < 35184372088832
                      · rw [if_pos c12] at H
                        have LMc12 := Aside0.mk c12
                        clear c12
                        obtain ⟨y151, hy151⟩ : ∃ y_ : List Int, y_ = (x4_1 ++ [x7_3]) := ⟨_, rfl⟩
                        replace H : (rf02_Chars.l0 k3 l0 y151 (wrap64 (x5_1 + x6_3))) = some (r1, r2) := by first | (rw [hy151]; with_reducible exact H) | (have H2_ := (Option.bind_some _ _).symm.trans H; rw [hy151]; with_reducible exact H2_) | (have H2_ := (Option.bind_some _ _).symm.trans H; with_reducible exact H2_) | with_reducible exact H | (rw [hy151]; exact H) | exact H
                        have Ny151 := Aside0.mk hy151
                        clear hy151
                        have H' := Aside0.mk H
                        clear H
                        go_wp2_with (first | ((with_reducible refine gate_builtin (b := .append) (xs := #[.tmp 59, .tmp 61]) rfl ?_); (try (refine gate_guard (by rfl) ?_; dsimp only)); at_builtin; refine Kd.R_append (Kd.int .u32) (w0 := w) w.heap.size rfl (.tmp 59) (.tmp 61) 22 32 (.int .u32 0) 4 rfl Tryd.underlying22 info32 rfl (by decide) (by omega) u4 x4_1 x7_3 [.int .u32 x7_3] (fun _ => True) (fun _ => False) rfl rfl ?aP (fun _ hk => hk.elim) ?aF ?aO ?aB ?aS ?aL ?_; (case aP => exact rfl); (case aB => exact (by repeat (first | (with_reducible first | exact HB.out | apply below_alloc | apply pw_below_drewN | apply below_drew1) | exact HB.out))); (case aF => exact (fun _ _ => trivial)); (case aO => exact (by (with_reducible repeat (first | apply Kd.R_alloc | apply Kd.R_drewN | apply Kd.R_drew)); exact HO_4.out)); (case aS => exact (below_size (by repeat (first | (with_reducible first | exact HB.out | apply below_alloc | apply pw_below_drewN | apply below_drew1) | exact HB.out)))); (case aL => have := LMc12.out; omega); intro v152 w13 ho hb hg hat; rw [← Ny151.out] at ho; have n0_ := Aside0.mk (hb); have n1_ := Aside0.mk (ho); clear HB; clear HO_4; have HB := n0_; have HO153 := n1_; clear n0_ n1_; clear ho hb hg hat))
                        go_roundg k3
                        case measure => have := HK1.out; have := HJ3.out; have := HK3.out; omega
                        case rel => exact ⟨(y151), (wrap64 (x5_1 + x6_3)), (by first | rfl | (simp; done) | (simp [*]; done)), H', ⟨by have := HK1.out; have := HJ3.out; have := HK3.out; omega⟩, ⟨by (with_reducible repeat (first | apply Kd.R_alloc | apply Kd.R_drewN | apply Kd.R_drew)); exact HO153.out⟩, ⟨by repeat (first | (with_reducible first | exact HB.out | apply below_alloc | apply pw_below_drewN | apply below_drew1) | exact HB.out)⟩⟩
                      · rw [if_neg c12] at H
                        exact absurd H (by simp)
                  · rw [if_neg c8] at H
                    have c8b0 : decide (x8_3 < x6_3) = false := decide_eq_false c8
                    clear c8
                    by_cases c14 : x4_1.length < 35184372088832
                    · rw [if_pos c14] at H
                      have LMc14 := Aside0.mk c14
                      clear c14
                      obtain ⟨y154, hy154⟩ : ∃ y_ : List Int, y_ = (x4_1 ++ [x7_3]) := ⟨_, rfl⟩
                      replace H : (rf02_Chars.l0 k3 l0 y154 (wrap64 (x5_1 + x6_3))) = some (r1, r2) := by first | (rw [hy154]; with_reducible exact H) | (have H2_ := (Option.bind_some _ _).symm.trans H; rw [hy154]; with_reducible exact H2_) | (have H2_ := (Option.bind_some _ _).symm.trans H; with_reducible exact H2_) | with_reducible exact H | (rw [hy154]; exact H) | exact H
                      have Ny154 := Aside0.mk hy154
                      clear hy154
                      have H' := Aside0.mk H
                      clear H
                      go_wp2_with (first | ((with_reducible refine gate_builtin (b := .append) (xs := #[.tmp 59, .tmp 61]) rfl ?_); (try (refine gate_guard (by rfl) ?_; dsimp only)); at_builtin; refine Kd.R_append (Kd.int .u32) (w0 := w) w.heap.size rfl (.tmp 59) (.tmp 61) 22 32 (.int .u32 0) 4 rfl Tryd.underlying22 info32 rfl (by decide) (by omega) u4 x4_1 x7_3 [.int .u32 x7_3] (fun _ => True) (fun _ => False) rfl rfl ?aP (fun _ hk => hk.elim) ?aF ?aO ?aB ?aS ?aL ?_; (case aP => exact rfl); (case aB => exact (by repeat (first | (with_reducible first | exact HB.out | apply below_alloc | apply pw_below_drewN | apply below_drew1) | exact HB.out))); (case aF => exact (fun _ _ => trivial)); (case aO => exact (by (with_reducible repeat (first | apply Kd.R_alloc | apply Kd.R_drewN | apply Kd.R_drew)); exact HO_4.out)); (case aS => exact (below_size (by repeat (first | (with_reducible first | exact HB.out | apply below_alloc | apply pw_below_drewN | apply below_drew1) | exact HB.out)))); (case aL => have := LMc14.out; omega); intro v155 w15 ho hb hg hat; rw [← Ny154.out] at ho; have n0_ := Aside0.mk (hb); have n1_ := Aside0.mk (ho); clear HB; clear HO_4; have HB := n0_; have HO156 := n1_; clear n0_ n1_; clear ho hb hg hat))
                      go_roundg k3
                      case measure => have := HK1.out; have := HJ3.out; have := HK3.out; omega
                      case rel => exact ⟨(y154), (wrap64 (x5_1 + x6_3)), (by first | rfl | (simp; done) | (simp [*]; done)), H', ⟨by have := HK1.out; have := HJ3.out; have := HK3.out; omega⟩, ⟨by (with_reducible repeat (first | apply Kd.R_alloc | apply Kd.R_drewN | apply Kd.R_drew)); exact HO156.out⟩, ⟨by repeat (first | (with_reducible first | exact HB.out | apply below_alloc | apply pw_below_drewN | apply below_drew1) | exact HB.out)⟩⟩
                    · rw [if_neg c14] at H
                      exact absurd H (by simp)
        · rw [if_neg c3] at H
          exact absurd H (by simp)
      · rw [if_neg c2] at H
        have c2b0 : decide (x5_1 < (l0.length : Int)) = false := decide_eq_false c2
        clear c2
        replace H := Option.bind_eq_some_iff.mp H
        obtain ⟨⟨t157, t158⟩, A160, H⟩ := H
        replace H : (if t158 = true then ((rf00_EqBytes.f t157 l0).bind fun t161 => (if t161 = true then (some (x4_1, true)) else (some (([] : List Int), false)))) else (some (([] : List Int), false))) = some (r1, r2) := H
        have A16 := Aside0.mk A160
        clear A160
        by_cases c17 : t158 = true
        · subst c17
          have H1 : ((rf00_EqBytes.f t157 l0).bind fun t161 => (if t161 = true then (some (x4_1, true)) else (some (([] : List Int), false)))) = some (r1, r2) := by rw [if_pos rfl] at H; exact H
          clear H
          have H := H1
          clear H1
          replace H := Option.bind_eq_some_iff.mp H
          obtain ⟨t161, A180, H⟩ := H
          replace H : (if t161 = true then (some (x4_1, true)) else (some (([] : List Int), false))) = some (r1, r2) := H
          have A18 := Aside0.mk A180
          clear A180
          by_cases c19 : t161 = true
          · subst c19
            have H1 : (some (x4_1, true)) = some (r1, r2) := by rw [if_pos rfl] at H; exact H
            clear H
            have H := H1
            clear H1
            simp only [Option.some.injEq, Prod.mk.injEq] at H
            obtain ⟨rfl, rfl⟩ := H
            obtain ⟨Ao20, co20, eo20⟩ := Kd.R_slice HO_4.out
            subst eo20
            go_wp2_with (first | ((with_reducible refine gate_callee (f := 12) rfl ?_); refine goesL_ (some 68) rfl rfl Tryd.func12 (by kernel_rfl) rfl #[.slice Ao20 x4_1.length co20] rfl (by (try simp only [List.map_toArray, List.map_cons, List.map_nil]); first | done | rfl | (simp only [List.length_drop, List.length_take]; rfl)) ?_; (with_reducible refine (rf02_Text.calls k1 _ _ x4_1 t157 true _ ?side1 ?side2 A16.out).mono ?_); (case side1 => repeat (first | exact (Kd.R_reads' HO_4.out).2.2 | (with_reducible refine Kd.C_alloc ?_ _) | (with_reducible refine Kd.C_drewN ?_ _) | (with_reducible refine Kd.C_drew ?_))); (case side2 => exact (Kd.R_reads' HO_4.out).2.1); rintro e w21 ⟨v159, rfl, ho0, hb⟩; refine ⟨_, rfl, ?_⟩; have n0_ := Aside0.mk (Kd.R_below (by (with_reducible repeat (first | apply Kd.R_alloc | apply Kd.R_drewN | apply Kd.R_drew)); exact HO_4.out) hb); have n1_ := Aside0.mk (Kd.R_lower ho0 (below_size (by repeat (first | (with_reducible first | exact HB.out | apply below_alloc | apply pw_below_drewN | apply below_drew1) | exact HB.out)))); have n2_ := Aside0.mk (below_step (by repeat (first | (with_reducible first | exact HB.out | apply below_alloc | apply pw_below_drewN | apply below_drew1) | exact HB.out)) hb); clear HO_4; clear HB; have HO_4 := n0_; have HO160 := n1_; have HB := n2_; clear n0_ n1_ n2_; (try clear hb); (try clear hb2); (try clear hk); (try clear hi); (try clear hgw); (try clear ho0); obtain ⟨Ao22, co22, eo22⟩ := Kd.R_slice HO160.out; subst eo22) | (go_at_call 13; (with_reducible refine (rf00_EqBytes.calls _ _ t157 _ _ l0 true _ ?side1 ?side2 ?side3 ?side4 A18.out).mono ?_); (case side1 => repeat (first | exact (Kd.R_reads' HO160.out).2.2 | (with_reducible refine Kd.C_alloc ?_ _) | (with_reducible refine Kd.C_drewN ?_ _) | (with_reducible refine Kd.C_drew ?_))); (case side2 => exact (Kd.R_reads' HO160.out).2.1); (case side3 => repeat (first | exact (Kd.C_below HR0.out HB.out) | (with_reducible refine Kd.C_alloc ?_ _) | (with_reducible refine Kd.C_drewN ?_ _) | (with_reducible refine Kd.C_drew ?_))); (case side4 => exact HC0.out); rintro e w' ⟨rfl, ⟨nd, rfl⟩⟩))
            go_ret2
            exact ⟨_, by first | rfl | (simp [errW_none, errW_some] <;> rfl) | (simp [*, errW_none, errW_some] <;> rfl), by (with_reducible repeat (first | apply Kd.R_alloc | apply Kd.R_drewN | apply Kd.R_drew)); exact HO_4.out, by repeat (first | (with_reducible first | exact HB.out | apply below_alloc | apply pw_below_drewN | apply below_drew1) | exact HB.out)⟩
          · replace c19 := Bool.eq_false_iff.mpr c19
            subst c19
            have H1 : (some (([] : List Int), false)) = some (r1, r2) := by rw [if_neg (show ¬ (false = true) by decide)] at H; exact H
            clear H
            have H := H1
            clear H1
            simp only [Option.some.injEq, Prod.mk.injEq] at H
            obtain ⟨rfl, rfl⟩ := H
            obtain ⟨Ao23, co23, eo23⟩ := Kd.R_slice HO_4.out
            subst eo23
            go_wp2_with (first | ((with_reducible refine gate_callee (f := 12) rfl ?_); refine goesL_ (some 68) rfl rfl Tryd.func12 (by kernel_rfl) rfl #[.slice Ao23 x4_1.length co23] rfl (by (try simp only [List.map_toArray, List.map_cons, List.map_nil]); first | done | rfl | (simp only [List.length_drop, List.length_take]; rfl)) ?_; (with_reducible refine (rf02_Text.calls k1 _ _ x4_1 t157 true _ ?side1 ?side2 A16.out).mono ?_); (case side1 => repeat (first | exact (Kd.R_reads' HO_4.out).2.2 | (with_reducible refine Kd.C_alloc ?_ _) | (with_reducible refine Kd.C_drewN ?_ _) | (with_reducible refine Kd.C_drew ?_))); (case side2 => exact (Kd.R_reads' HO_4.out).2.1); rintro e w24 ⟨v159, rfl, ho0, hb⟩; refine ⟨_, rfl, ?_⟩; have n0_ := Aside0.mk (Kd.R_below (by (with_reducible repeat (first | apply Kd.R_alloc | apply Kd.R_drewN | apply Kd.R_drew)); exact HO_4.out) hb); have n1_ := Aside0.mk (Kd.R_lower ho0 (below_size (by repeat (first | (with_reducible first | exact HB.out | apply below_alloc | apply pw_below_drewN | apply below_drew1) | exact HB.out)))); have n2_ := Aside0.mk (below_step (by repeat (first | (with_reducible first | exact HB.out | apply below_alloc | apply pw_below_drewN | apply below_drew1) | exact HB.out)) hb); clear HO_4; clear HB; have HO_4 := n0_; have HO160 := n1_; have HB := n2_; clear n0_ n1_ n2_; (try clear hb); (try clear hb2); (try clear hk); (try clear hi); (try clear hgw); (try clear ho0); obtain ⟨Ao25, co25, eo25⟩ := Kd.R_slice HO160.out; subst eo25) | (go_at_call 13; (with_reducible refine (rf00_EqBytes.calls _ _ t157 _ _ l0 false _ ?side1 ?side2 ?side3 ?side4 A18.out).mono ?_); (case side1 => repeat (first | exact (Kd.R_reads' HO160.out).2.2 | (with_reducible refine Kd.C_alloc ?_ _) | (with_reducible refine Kd.C_drewN ?_ _) | (with_reducible refine Kd.C_drew ?_))); (case side2 => exact (Kd.R_reads' HO160.out).2.1); (case side3 => repeat (first | exact (Kd.C_below HR0.out HB.out) | (with_reducible refine Kd.C_alloc ?_ _) | (with_reducible refine Kd.C_drewN ?_ _) | (with_reducible refine Kd.C_drew ?_))); (case side4 => exact HC0.out); rintro e w' ⟨rfl, ⟨nd, rfl⟩⟩))
            go_ret2
            exact ⟨_, by first | rfl | (simp [errW_none, errW_some] <;> rfl) | (simp [*, errW_none, errW_some] <;> rfl), by first | exact Kd.R_nil _ _ _ _ _ | exact Kd.N_nil _ _ _ _ _ | exact Kd.V_nil _ _ _ _ _ | exact Kd.Q_nil _ _ _ _ _ | exact Kd.S_nil _ _ _ _ _, by repeat (first | (with_reducible first | exact HB.out | apply below_alloc | apply pw_below_drewN | apply below_drew1) | exact HB.out)⟩
        · replace c17 := Bool.eq_false_iff.mpr c17
          subst c17
          have H1 : (some (([] : List Int), false)) = some (r1, r2) := by rw [if_neg (show ¬ (false = true) by decide)] at H; exact H
          clear H
          have H := H1
          clear H1
          simp only [Option.some.injEq, Prod.mk.injEq] at H
          obtain ⟨rfl, rfl⟩ := H
          obtain ⟨Ao26, co26, eo26⟩ := Kd.R_slice HO_4.out
          subst eo26
          go_wp2_with (first | ((with_reducible refine gate_callee (f := 12) rfl ?_); refine goesL_ (some 68) rfl rfl Tryd.func12 (by kernel_rfl) rfl #[.slice Ao26 x4_1.length co26] rfl (by (try simp only [List.map_toArray, List.map_cons, List.map_nil]); first | done | rfl | (simp only [List.length_drop, List.length_take]; rfl)) ?_; (with_reducible refine (rf02_Text.calls k1 _ _ x4_1 t157 false _ ?side1 ?side2 A16.out).mono ?_); (case side1 => repeat (first | exact (Kd.R_reads' HO_4.out).2.2 | (with_reducible refine Kd.C_alloc ?_ _) | (with_reducible refine Kd.C_drewN ?_ _) | (with_reducible refine Kd.C_drew ?_))); (case side2 => exact (Kd.R_reads' HO_4.out).2.1); rintro e w27 ⟨v159, rfl, ho0, hb⟩; refine ⟨_, rfl, ?_⟩; have n0_ := Aside0.mk (Kd.R_below (by (with_reducible repeat (first | apply Kd.R_alloc | apply Kd.R_drewN | apply Kd.R_drew)); exact HO_4.out) hb); have n1_ := Aside0.mk (Kd.R_lower ho0 (below_size (by repeat (first | (with_reducible first | exact HB.out | apply below_alloc | apply pw_below_drewN | apply below_drew1) | exact HB.out)))); have n2_ := Aside0.mk (below_step (by repeat (first | (with_reducible first | exact HB.out | apply below_alloc | apply pw_below_drewN | apply below_drew1) | exact HB.out)) hb); clear HO_4; clear HB; have HO_4 := n0_; have HO160 := n1_; have HB := n2_; clear n0_ n1_ n2_; (try clear hb); (try clear hb2); (try clear hk); (try clear hi); (try clear hgw); (try clear ho0)))
          go_ret2
          exact ⟨_, by first | rfl | (simp [errW_none, errW_some] <;> rfl) | (simp [*, errW_none, errW_some] <;> rfl), by first | exact Kd.R_nil _ _ _ _ _ | exact Kd.N_nil _ _ _ _ _ | exact Kd.V_nil _ _ _ _ _ | exact Kd.Q_nil _ _ _ _ _ | exact Kd.S_nil _ _ _ _ _, by repeat (first | (with_reducible first | exact HB.out | apply below_alloc | apply pw_below_drewN | apply below_drew1) | exact HB.out)⟩

/-! ### utf_Ascii: function 22 -/
def utf_Ascii.l0 : Nat → List Int → Int → Int → Option (Bool)
  | 0, _, _, _ => none
  | k + 1, x5, x6, x7 => if x7 < x6 then (if 0 ≤ x7 then (if x7 < (x5.length : Int) then (if (rd x5 x7) ≥ 128 then (some false) else (utf_Ascii.l0 k x5 x6 (wrap64 (x7 + 1)))) else (none)) else (none)) else (some true)
def utf_Ascii.f (k : Nat) (l0 : List Int) : Option (Bool) := utf_Ascii.l0 k l0 (l0.length : Int) 0
theorem utf_Ascii.mono_l : ∀ k, (∀ y0 y1 y2, LeO (utf_Ascii.l0 k y0 y1 y2) (utf_Ascii.l0 (k + 1) y0 y1 y2))
  | 0 => fun _ _ _ r h => by simp [utf_Ascii.l0] at h
  | k + 1 => by
    have ih0 := utf_Ascii.mono_l k
    · intro y0 y1 y2
      unfold utf_Ascii.l0
      repeat' first
      | (with_reducible exact ih0 _ _ _)
      | (with_reducible exact LeO.refl _)
      | (with_reducible exact LeO.none _)
      | (with_reducible refine LeO.ite ?_ ?_)
      | (with_reducible refine LeO.bind ?_ (fun _ => ?_))
      | exact ih0 _ _ _
      | exact LeO.none _
      | refine LeO.ite ?_ ?_
      | refine LeO.bind ?_ (fun _ => ?_)
theorem utf_Ascii.mono : ∀ a0 k, LeO (utf_Ascii.f k a0) (utf_Ascii.f (k + 1) a0) := by
  intro a0 k
  have ih0 := utf_Ascii.mono_l k
  unfold utf_Ascii.f
  repeat' first
      | (with_reducible exact ih0 _ _ _)
      | (with_reducible exact LeO.refl _)
      | (with_reducible exact LeO.none _)
      | (with_reducible refine LeO.ite ?_ ?_)
      | (with_reducible refine LeO.bind ?_ (fun _ => ?_))
      | exact ih0 _ _ _
      | exact LeO.none _
      | refine LeO.ite ?_ ?_
      | refine LeO.bind ?_ (fun _ => ?_)
set_option maxHeartbeats 8000000 in
set_option maxRecDepth 100000 in
theorem utf_Ascii.calls (k : Nat) (A0 : Option Addr) (c0 : Nat) (l0 : List Int) (r : Bool) (w : World) (hr0 : Kd.C (Kd.int .u8) w A0 l0.length l0) (hc0 : l0.length ≤ c0) (h : utf_Ascii.f k l0 = some r) :
    Calls Tryd.prog 22 #[.slice A0 l0.length c0] w fun e w' => e = .returned (.bool r) ∧ Drawn0 w w' := by
  have HR0 := Aside0.mk hr0
  have HC0 := Aside0.mk hc0
  clear hr0 hc0
  have H : (utf_Ascii.l0 k l0 (l0.length : Int) 0) = some r := h
  clear h
  have H' := Aside0.mk H
  clear H
  go_enter Tryd.func22, Tryd.ntmps22
  go_wp2
  go_loopg [7] k (fun kq v7 w' => ∃ (x7_1 : Int), v7 = .int .i64 x7_1 ∧ Aside0 (utf_Ascii.l0 kq l0 (l0.length : Int) x7_1 = some r) ∧ Aside0 (kq ≤ k) ∧ Drawn0 w w')
  case atStart => exact ⟨(0), (by first | rfl | (simp; done) | (simp [*]; done)), H', ⟨Nat.le_refl _⟩, by repeat (first | exact Drawn0.refl _ | apply Drawn0.step)⟩
  case round =>
    clear H'
    obtain ⟨x7_1, rfl, HA, HK1, ⟨m1, rfl⟩⟩ := hrel
    cases gk with
    | zero => exact absurd HA.out (by simp [utf_Ascii.l0])
    | succ k1 =>
      have H := HA.out
      clear HA
      simp only [utf_Ascii.l0] at H
      by_cases c2 : x7_1 < (l0.length : Int)
      · rw [if_pos c2] at H
        have c2b0 : decide (x7_1 < (l0.length : Int)) = true := decide_eq_true c2
        clear c2
        by_cases c3 : 0 ≤ x7_1
        · rw [if_pos c3] at H
          have c3b0 : decide (0 ≤ x7_1) = true := decide_eq_true c3
          clear c3
          by_cases c4 : x7_1 < (l0.length : Int)
          · rw [if_pos c4] at H
            have c4b0 : decide (x7_1 < (l0.length : Int)) = true := decide_eq_true c4
            clear c4
            by_cases c5 : (rd l0 x7_1) ≥ 128
            · rw [if_pos c5] at H
              have c5b0 : decide (128 ≤ (rd l0 x7_1)) = true := decide_eq_true c5
              clear c5
              obtain rfl := Option.some.inj H
              have p162 : 0 ≤ (x7_1 : Int) := of_decide_eq_true (by first | (with_reducible assumption) | assumption)
              have q162 : x7_1 < (l0.length : Int) := of_decide_eq_true (by first | (with_reducible assumption) | assumption)
              obtain ⟨ad162, e162, hx162_0⟩ := Kd.at_int HR0.out x7_1 p162 q162
              cases e162
              replace p162 := eq_true p162
              replace q162 := eq_true q162
              go_wp2
              go_ret
              exact ⟨by first | rfl | (simp; done) | (simp [*]; done), by repeat (first | exact Drawn0.refl _ | apply Drawn0.step)⟩
            · rw [if_neg c5] at H
              have c5b0 : decide (128 ≤ (rd l0 x7_1)) = false := decide_eq_false c5
              clear c5
              have H' := Aside0.mk H
              clear H
              have p162 : 0 ≤ (x7_1 : Int) := of_decide_eq_true (by first | (with_reducible assumption) | assumption)
              have q162 : x7_1 < (l0.length : Int) := of_decide_eq_true (by first | (with_reducible assumption) | assumption)
              obtain ⟨ad162, e162, hx162_0⟩ := Kd.at_int HR0.out x7_1 p162 q162
              cases e162
              replace p162 := eq_true p162
              replace q162 := eq_true q162
              go_wp2
              go_roundg k1
              case measure => have := HK1.out; omega
              case rel => exact ⟨(wrap64 (x7_1 + 1)), (by first | rfl | (simp; done) | (simp [*]; done)), H', ⟨by have := HK1.out; omega⟩, by repeat (first | exact Drawn0.refl _ | apply Drawn0.step)⟩
          · rw [if_neg c4] at H
            exact absurd H (by simp)
        · rw [if_neg c3] at H
          exact absurd H (by simp)
      · rw [if_neg c2] at H
        have c2b0 : decide (x7_1 < (l0.length : Int)) = false := decide_eq_false c2
        clear c2
        obtain rfl := Option.some.inj H
        go_wp2
        go_ret
        exact ⟨by first | rfl | (simp; done) | (simp [*]; done), by repeat (first | exact Drawn0.refl _ | apply Drawn0.step)⟩

/-! ### rf02_Ascii: function 23 -/
def rf02_Ascii.l0 : Nat → List Int → Int → Option (Bool)
  | 0, _, _ => none
  | k + 1, x0, x3 => if x3 < (x0.length : Int) then (if 0 ≤ x3 then (if (rd x0 x3) > 127 then (some false) else (rf02_Ascii.l0 k x0 (wrap64 (x3 + 1)))) else (none)) else (some true)
def rf02_Ascii.f (k : Nat) (l0 : List Int) : Option (Bool) := rf02_Ascii.l0 k l0 0
theorem rf02_Ascii.mono_l : ∀ k, (∀ y0 y1, LeO (rf02_Ascii.l0 k y0 y1) (rf02_Ascii.l0 (k + 1) y0 y1))
  | 0 => fun _ _ r h => by simp [rf02_Ascii.l0] at h
  | k + 1 => by
    have ih0 := rf02_Ascii.mono_l k
    · intro y0 y1
      unfold rf02_Ascii.l0
      repeat' first
      | (with_reducible exact ih0 _ _)
      | (with_reducible exact LeO.refl _)
      | (with_reducible exact LeO.none _)
      | (with_reducible refine LeO.ite ?_ ?_)
      | (with_reducible refine LeO.bind ?_ (fun _ => ?_))
      | exact ih0 _ _
      | exact LeO.none _
      | refine LeO.ite ?_ ?_
      | refine LeO.bind ?_ (fun _ => ?_)
theorem rf02_Ascii.mono : ∀ a0 k, LeO (rf02_Ascii.f k a0) (rf02_Ascii.f (k + 1) a0) := by
  intro a0 k
  have ih0 := rf02_Ascii.mono_l k
  unfold rf02_Ascii.f
  repeat' first
      | (with_reducible exact ih0 _ _)
      | (with_reducible exact LeO.refl _)
      | (with_reducible exact LeO.none _)
      | (with_reducible refine LeO.ite ?_ ?_)
      | (with_reducible refine LeO.bind ?_ (fun _ => ?_))
      | exact ih0 _ _
      | exact LeO.none _
      | refine LeO.ite ?_ ?_
      | refine LeO.bind ?_ (fun _ => ?_)
set_option maxHeartbeats 8000000 in
set_option maxRecDepth 100000 in
theorem rf02_Ascii.calls (k : Nat) (A0 : Option Addr) (c0 : Nat) (l0 : List Int) (r : Bool) (w : World) (hr0 : Kd.C (Kd.int .u8) w A0 l0.length l0) (hc0 : l0.length ≤ c0) (h : rf02_Ascii.f k l0 = some r) :
    Calls Tryd.prog 23 #[.slice A0 l0.length c0] w fun e w' => e = .returned (.bool r) ∧ Drawn0 w w' := by
  have HR0 := Aside0.mk hr0
  have HC0 := Aside0.mk hc0
  clear hr0 hc0
  have H : (rf02_Ascii.l0 k l0 0) = some r := h
  clear h
  have H' := Aside0.mk H
  clear H
  go_enter Tryd.func23, Tryd.ntmps23
  go_wp2
  go_loopg [3] k (fun kq v3 w' => ∃ (x3_1 : Int), v3 = .int .i64 x3_1 ∧ Aside0 (rf02_Ascii.l0 kq l0 x3_1 = some r) ∧ Aside0 (kq ≤ k) ∧ Drawn0 w w')
  case atStart => exact ⟨(0), (by first | rfl | (simp; done) | (simp [*]; done)), H', ⟨Nat.le_refl _⟩, by repeat (first | exact Drawn0.refl _ | apply Drawn0.step)⟩
  case round =>
    clear H'
    obtain ⟨x3_1, rfl, HA, HK1, ⟨m1, rfl⟩⟩ := hrel
    cases gk with
    | zero => exact absurd HA.out (by simp [rf02_Ascii.l0])
    | succ k1 =>
      have H := HA.out
      clear HA
      simp only [rf02_Ascii.l0] at H
      by_cases c2 : x3_1 < (l0.length : Int)
      · rw [if_pos c2] at H
        have c2b0 : decide (x3_1 < (l0.length : Int)) = true := decide_eq_true c2
        clear c2
        by_cases c3 : 0 ≤ x3_1
        · rw [if_pos c3] at H
          have c3b0 : decide (0 ≤ x3_1) = true := decide_eq_true c3
          clear c3
          by_cases c4 : (rd l0 x3_1) > 127
          · rw [if_pos c4] at H
            have c4b0 : decide (127 < (rd l0 x3_1)) = true := decide_eq_true c4
            clear c4
            obtain rfl := Option.some.inj H
            have p163 : 0 ≤ (x3_1 : Int) := of_decide_eq_true (by first | (with_reducible assumption) | assumption)
            have q163 : x3_1 < (l0.length : Int) := of_decide_eq_true (by first | (with_reducible assumption) | assumption)
            obtain ⟨ad163, e163, hx163_0⟩ := Kd.at_int HR0.out x3_1 p163 q163
            cases e163
            replace p163 := eq_true p163
            replace q163 := eq_true q163
            go_wp2
            go_ret
            exact ⟨by first | rfl | (simp; done) | (simp [*]; done), by repeat (first | exact Drawn0.refl _ | apply Drawn0.step)⟩
          · rw [if_neg c4] at H
            have c4b0 : decide (127 < (rd l0 x3_1)) = false := decide_eq_false c4
            clear c4
            have H' := Aside0.mk H
            clear H
            have p163 : 0 ≤ (x3_1 : Int) := of_decide_eq_true (by first | (with_reducible assumption) | assumption)
            have q163 : x3_1 < (l0.length : Int) := of_decide_eq_true (by first | (with_reducible assumption) | assumption)
            obtain ⟨ad163, e163, hx163_0⟩ := Kd.at_int HR0.out x3_1 p163 q163
            cases e163
            replace p163 := eq_true p163
            replace q163 := eq_true q163
            go_wp2
            go_roundg k1
            case measure => have := HK1.out; omega
            case rel => exact ⟨(wrap64 (x3_1 + 1)), (by first | rfl | (simp; done) | (simp [*]; done)), H', ⟨by have := HK1.out; omega⟩, by repeat (first | exact Drawn0.refl _ | apply Drawn0.step)⟩
        · rw [if_neg c3] at H
          exact absurd H (by simp)
      · rw [if_neg c2] at H
        have c2b0 : decide (x3_1 < (l0.length : Int)) = false := decide_eq_false c2
        clear c2
        obtain rfl := Option.some.inj H
        go_wp2
        go_ret
        exact ⟨by first | rfl | (simp; done) | (simp [*]; done), by repeat (first | exact Drawn0.refl _ | apply Drawn0.step)⟩


/-! ### rf00_Kept: function 24, by hand -/
theorem cut_cap {P : Program} (t e : TypeId) {i : TypeInfo} (ht : P.underlying t = some (.slice e)) (hi : P.info? e = some i) (A : Option Addr) (n c : Nat) (hc : n ≤ c) :
    ∀ W : World, (Instr.slice t (.slice A n c) none (some (.int .i64 (c : Int))) none).run P W = .ok (.slice A c c) W := by
  intro W
  have hel : P.elem t = e := by simp [Program.elem, ht]
  have hu : P.underlying t = some (.slice (P.elem t)) := by rw [hel]; exact ht
  have ha : (A.map fun x => x.add 0) = A := by cases A <;> simp [Addr.add]
  rw [run_slice_h W t A n c hu .i64 (c : Int) (by omega) (by omega), hel]
  simp [sizeOf, typeInfo, hi, sliced, Result.andThen, ha]
set_option maxHeartbeats 8000000 in
set_option maxRecDepth 100000 in
theorem rf00_Kept.calls (g c : Nat) (A1 : Option Addr) (c1 : Nat) (l0 : List Int) (w : World) (hr0 : Kd.C (Kd.int .u8) w (some ⟨g, 0, none⟩) l0.length l0) (hr1 : Kd.C (Kd.int .u8) w A1 l0.length l0) (hcap : l0.length + 11 ≤ c) (hn : l0.length ≤ 100000)
    (hcells : ∀ i : Nat, l0.length ≤ i → i < l0.length + 11 → w.cell? ⟨g, i, none⟩ = some (.int .u8 (wrap64 (3 * (i : Int)) % 256))) :
    Calls Tryd.prog 24 #[.slice (some ⟨g, 0, none⟩) l0.length c, .slice A1 l0.length c1] w fun e w' => e = .returned (.bool true) ∧ Drawn0 w w' := by
  have hcv4 := Kd.C_string (P := Tryd.prog) (A := some ⟨g, 0, none⟩) (c := c) Tryd.underlying25 Tryd.underlying5 Tryd.underlying9 hr0
  have hcv5 := Kd.C_string (P := Tryd.prog) (A := A1) (c := c1) Tryd.underlying25 Tryd.underlying5 Tryd.underlying9 hr1
  have HC := Aside0.mk hcells
  obtain ⟨i0, hi0, _, _, _⟩ := info_parts info5
  have hcut := cut_cap (P := Tryd.prog) 25 5 Tryd.underlying25 hi0 (some ⟨g, 0, none⟩) l0.length c (by omega)
  have HN := Aside0.mk hn
  have HP := Aside0.mk hcap
  have hsum : IntKind.i64.wrap ((l0.length : Int) + 11) = (l0.length : Int) + 11 := by rw [IntKind.wrap_i64]; omega
  clear hr0 hr1 hcells hi0 hn hcap
  go_enter Tryd.func24, Tryd.ntmps24
  go_wp2
  go_loopg [5] 11 (fun kq v5 w' => ∃ i : Nat, v5 = .int .i64 (i : Int) ∧ Aside0 (i + kq = l0.length + 11) ∧ Aside0 (kq ≤ 11) ∧ Aside0 (Drawn0 w w'))
  case atStart => exact ⟨l0.length, rfl, ⟨rfl⟩, ⟨Nat.le_refl _⟩, ⟨by repeat (first | exact Drawn0.refl _ | apply Drawn0.step)⟩⟩
  case round =>
    obtain ⟨i, rfl, HI, HK, HD⟩ := hrel
    obtain ⟨q, rfl⟩ := HD.out
    cases gk with
    | zero =>
      have d1 : decide ((i : Int) < (l0.length : Int) + 11) = false := decide_eq_false (by have := HI.out; omega)
      go_wp2
      go_ret
      exact ⟨rfl, HD.out⟩
    | succ k1 =>
      have d1 : decide ((i : Int) < (l0.length : Int) + 11) = true := decide_eq_true (by have := HI.out; omega)
      have d2 : decide ((c : Int) ≤ (i : Int)) = false := decide_eq_false (by have := HI.out; have := HP.out; omega)
      have d3 : (0 ≤ (i : Int)) = True := eq_true (by omega)
      have d4 : ((i : Int) < (c : Int)) = True := eq_true (by have := HI.out; have := HP.out; omega)
      have e1 : (i < c) = True := eq_true (by have := HI.out; have := HP.out; omega)
      have e2 : decide (c ≤ i) = false := decide_eq_false (by have := HI.out; have := HP.out; omega)
      have e3 : (c ≤ i) = False := eq_false (by have := HI.out; have := HP.out; omega)
      have d5 : IntKind.i64.wrap ((i : Int) + 1) = ((i + 1 : Nat) : Int) := by rw [IntKind.wrap_i64]; have := HI.out; have := HN.out; omega
      have hx : w.cell? ⟨g, i, none⟩ = some (.int .u8 (wrap64 (3 * (i : Int)) % 256)) := HC.out i (by have := HI.out; have := HK.out; omega) (by have := HI.out; omega)
      go_wp2
      go_roundg k1
      case measure => omega
      case rel => exact ⟨i + 1, by first | rfl | (simp; done), ⟨by have := HI.out; omega⟩, ⟨by have := HK.out; omega⟩, ⟨by repeat (first | exact Drawn0.refl _ | apply Drawn0.step)⟩⟩


/-! ### lw02_UtfChars: function 8, by hand -/
-- HANDROUNDS HG HANDMAKES
/-- What stands behind the row that Roomy makes: its places. -/
def tailR (n : Nat) : List Int := (List.range 11).map fun j => wrap64 (3 * ((n + j : Nat) : Int)) % 256
theorem tailR_get (n i : Nat) (h0 : n ≤ i) (h1 : i < n + 11) : (tailR n)[i - n]? = some (wrap64 (3 * (i : Int)) % 256) := by
  unfold tailR
  rw [List.getElem?_map, List.getElem?_range (by omega)]
  simp only [Option.map_some]
  rw [show n + (i - n) = i by omega]
/-- What stays between the law's calls. -/
structure St (w : World) (A0 : Option Addr) (l0 : List Int) (g c : Nat) (W : World) : Prop where
  bel : Below w.heap.size w W
  hd : Hd W
  arg : Kd.C (Kd.int .u8) W A0 l0.length l0
  row : Kd.C (Kd.int .u8) W (some ⟨g, 0, none⟩) l0.length l0
  lt : g < W.heap.size
  rest : ∀ i : Nat, l0.length ≤ i → i < l0.length + 11 → W.cell? ⟨g, i, none⟩ = some (.int .u8 (wrap64 (3 * (i : Int)) % 256))
theorem St.step {w : World} {A0 : Option Addr} {l0 : List Int} {g c : Nat} {W W' : World} (h : St w A0 l0 g c W) (hb : Below W.heap.size W W') : St w A0 l0 g c W' :=
  ⟨below_step h.bel hb, h.hd.below h.hd.size hb, Kd.C_below h.arg hb, Kd.C_below h.row hb, Nat.lt_of_lt_of_le h.lt hb.size, fun i h0 h1 => (hb.cell (show (⟨g, i, none⟩ : Addr).block < W.heap.size from h.lt)).trans (h.rest i h0 h1)⟩
def lw02_UtfChars.g (k : Nat) (l0 : List Int) (m : List Int) (so x : Bool) : Prop :=
  rf00_Roomy.f k l0 = some (l0 ++ tailR l0.length) ∧ utf_Chars.f k l0 = some (m, so) ∧ rf02_Chars.f k l0 = some (m, so) ∧ lw02_same.f k m m = some true ∧ utf_Right.f k l0 = some so ∧ utf_Ascii.f k l0 = some x ∧ rf02_Ascii.f k l0 = some x ∧ lw02_works.f k = some true
/-- The law's answer: behind the bound the anchor's; below it 'true' just where both sides tell the same. -/
noncomputable def lw02_UtfChars.f (k : Nat) (l0 : List Int) : Option (Bool) :=
  open Classical in if (l0.length : Int) > 16384 then lw02_works.f k else (if ∃ m so x, lw02_UtfChars.g k l0 m so x then some true else none)
theorem tail_cell {w1 : World} {base g c : Nat} {ok : Nat → Prop} {l0 : List Int} (hR : Kd.R (Kd.int .u8) 5 w1 base ok (.slice (some ⟨g, 0, none⟩) (l0 ++ tailR l0.length).length c) (l0 ++ tailR l0.length)) (hT : (l0 ++ tailR l0.length).length = l0.length + 11) {i : Nat} (h0 : l0.length ≤ i) (h1 : i < l0.length + 11) : w1.cell? ⟨g, i, none⟩ = some (.int .u8 (wrap64 (3 * (i : Int)) % 256)) := by
  have z := (Kd.R_celln (0 : Int) hR (i : Int) (by omega) (by omega)).1
  rw [Int.toNat_natCast] at z
  have e : rdOf (0 : Int) (l0 ++ tailR l0.length) (i : Int) = wrap64 (3 * (i : Int)) % 256 := by
    unfold rdOf
    rw [Int.toNat_natCast, List.getD_eq_getElem?_getD, List.getElem?_append_right h0, tailR_get l0.length i h0 h1, Option.getD_some]
  generalize wrap64 (3 * (i : Int)) % 256 = q at e ⊢
  rw [e] at z
  exact z
set_option maxHeartbeats 8000000 in
set_option maxRecDepth 100000 in
theorem chars_go (k : Nat) (A0 : Option Addr) (c0 : Nat) (l0 : List Int) (w : World) (hG : Hd w) (hr0 : Kd.C (Kd.int .u8) w A0 l0.length l0) (hc0 : l0.length ≤ c0) (hn : ¬ (l0.length : Int) > 16384) (m : List Int) (so x : Bool) (h : lw02_UtfChars.g k l0 m so x) :
    Calls Tryd.prog 8 #[.slice A0 l0.length c0] w fun e w' => e = .returned (.bool true) ∧ Below w.heap.size w w' := by
  obtain ⟨f1, f2, f3, f4, f5, f6, f7, f8⟩ := h
  have d1 : decide (16384 < (l0.length : Int)) = false := decide_eq_false hn
  have d2 : decide (16384 < l0.length) = false := decide_eq_false (by omega)
  have F1 := Aside0.mk f1
  have F2 := Aside0.mk f2
  have F3 := Aside0.mk f3
  have F4 := Aside0.mk f4
  have F5 := Aside0.mk f5
  have F6 := Aside0.mk f6
  have F7 := Aside0.mk f7
  have F8 := Aside0.mk f8
  have HN := Aside0.mk hn
  have HG := Aside0.mk hG
  have HR := Aside0.mk hr0
  have HC := Aside0.mk hc0
  have HT : Aside0 ((l0 ++ tailR l0.length).length = l0.length + 11) := ⟨by simp [tailR]⟩
  clear f1 f2 f3 f4 f5 f6 f7 f8 hn hG hr0 hc0
  cases so
  all_goals
    cases x
  all_goals
    go_enter Tryd.func8, Tryd.ntmps8
    go_wp2_with (first
      | (go_at_call 20; refine (rf00_Roomy.calls k _ _ l0 (l0 ++ tailR l0.length) _ HR.out HC.out HT.out F1.out).mono ?_; rintro e w1 ⟨g, c, rfl, hR, hb⟩; have hcap := Aside0.mk (Nat.le_trans (Nat.le_of_eq HT.out.symm) (Kd.R_reads' hR).2.1); have hC := (Kd.R_reads' hR).2.2; have S := Aside0.mk (show St w A0 l0 g c w1 from ⟨hb, HG.out.below HG.out.size hb, Kd.C_below HR.out hb, (by have z := Kd.C_take (m := l0.length) hC (by rw [List.length_append]; omega); simpa using z), (Kd.R_lt hR) g (by simp [Value.ownBlock]), (fun i h0 h1 => by exact tail_cell hR HT.out h0 h1)⟩); clear hR hb hC)
      | (go_at_call 17; refine (utf_Chars.calls k _ _ l0 m _ _ S.out.row (by have := hcap.out; omega) F2.out).mono ?_; rintro e w2 ⟨v2, rfl, ho2, hb⟩; obtain ⟨A2, c2, e2⟩ := Kd.R_slice ho2; subst e2; have M2 := Aside0.mk (Kd.R_reads' ho2).2.2; have L2 := Aside0.mk (Kd.R_reads' ho2).2.1; have S2 := Aside0.mk (S.out.step hb); clear S ho2 hb; have S := S2; clear S2)
      | (go_at_call 21; refine (rf02_Chars.calls k _ _ l0 m _ _ S.out.arg HC.out F3.out).mono ?_; rintro e w3 ⟨v3, rfl, ho3, hb⟩; obtain ⟨A3, c3, e3⟩ := Kd.R_slice ho3; subst e3; have M3 := Aside0.mk (Kd.R_reads' ho3).2.2; have L3 := Aside0.mk (Kd.R_reads' ho3).2.1; have M4 := Aside0.mk (Kd.C_below M2.out hb); have S2 := Aside0.mk (S.out.step hb); clear S ho3 hb; have S := S2; clear S2)
      | (go_at_call 14; refine (lw02_same.calls k _ _ m _ _ m true _ M4.out L2.out M3.out L3.out F4.out).mono ?_; rintro e w4 ⟨rfl, hd⟩; have S2 := Aside0.mk (S.out.step hd.below); clear S hd; have S := S2; clear S2)
      | (go_at_call 18; refine (utf_Right.calls k _ _ l0 _ _ S.out.row (by have := hcap.out; omega) F5.out).mono ?_; rintro e w5 ⟨rfl, hb⟩; have S2 := Aside0.mk (S.out.step hb); clear S hb; have S := S2; clear S2)
      | (go_at_call 22; refine (utf_Ascii.calls k _ _ l0 _ _ S.out.row (by have := hcap.out; omega) F6.out).mono ?_; rintro e w6 ⟨rfl, hd⟩; have S2 := Aside0.mk (S.out.step hd.below); clear S hd; have S := S2; clear S2)
      | (go_at_call 23; refine (rf02_Ascii.calls k _ _ l0 _ _ S.out.arg HC.out F7.out).mono ?_; rintro e w7 ⟨rfl, hd⟩; have S2 := Aside0.mk (S.out.step hd.below); clear S hd; have S := S2; clear S2)
      | (go_at_call 24; refine (rf00_Kept.calls _ _ _ _ l0 _ S.out.row S.out.arg hcap.out (by have := HN.out; omega) S.out.rest).mono ?_; rintro e w8 ⟨rfl, hd⟩; have S2 := Aside0.mk (S.out.step hd.below); clear S hd; have S := S2; clear S2)
      | (go_at_call 10; refine (lw02_works.calls k true _ S.out.hd F8.out).mono ?_; rintro e w9 ⟨rfl, hb⟩; have S2 := Aside0.mk (S.out.step hb); clear S hb; have S := S2; clear S2))
    go_ret
    exact ⟨rfl, S.out.bel⟩
set_option maxHeartbeats 8000000 in
set_option maxRecDepth 100000 in
theorem lw02_UtfChars.calls (k : Nat) (A0 : Option Addr) (c0 : Nat) (l0 : List Int) (r : Bool) (w : World) (hG : Hd w) (hr0 : Kd.C (Kd.int .u8) w A0 l0.length l0) (hc0 : l0.length ≤ c0) (h : lw02_UtfChars.f k l0 = some r) :
    Calls Tryd.prog 8 #[.slice A0 l0.length c0] w fun e w' => e = .returned (.bool r) ∧ Below w.heap.size w w' := by
  unfold lw02_UtfChars.f at h
  by_cases c : (l0.length : Int) > 16384
  · rw [if_pos c] at h
    have d1 : decide (16384 < (l0.length : Int)) = true := decide_eq_true c
    have d2 : decide (16384 < l0.length) = true := decide_eq_true (by omega)
    clear hr0 hc0 c
    go_enter Tryd.func8, Tryd.ntmps8
    go_wp2_with (first | (go_at_call 10; refine (lw02_works.calls k r _ hG h).mono ?_; rintro e w9 ⟨rfl, hb⟩))
    go_ret
    exact ⟨rfl, hb⟩
  · rw [if_neg c] at h
    split at h
    · rename_i hx
      obtain ⟨m, so, x, hg⟩ := hx
      obtain rfl := Option.some.inj h
      exact chars_go k A0 c0 l0 w hG hr0 hc0 c m so x hg
    · cases h

/-- THE ONE PURE STATEMENT of lw02_UtfChars: yours. -/
def lw02_UtfChars.Pure : Prop := ∀ (l0 : List Int), l0.length ≤ maxLen → (∀ x ∈ l0, (Lit.int .u8 x).wf = true) → ∃ k, lw02_UtfChars.f k l0 = some true

end Go.Proofs.YtbbgmokpniigfaaDoor.PUtfChars
