/- Written by a program of this session (a turned copy of the print; not the kit's own print): the walks of the functions that one law reaches, or that law's row; the plain law stands in the Pure text; no condition of our own. -/
import Derived.Test.YtfnoldogodfinaaPIdleSilentx0
import Derived.Test.YtfnoldogodfinaaPIdleSilentx1
namespace Go.Proofs.Ytfnoldogodfinaa.PIdleSilent
open Go.RowKit Go.Proofs.YtfnoldogodfinaaW.PrintWords Go.Proofs.YtfnoldogodfinaaW.PrintLast Go.Proofs.YtfnoldogodfinaaW.PrintMore
attribute [local go_sem] max2_int min2_int max_two min_two max_three min_three max_four min_four   -- for this text's walks alone
set_option linter.unusedVariables false
set_option linter.unusedSimpArgs false

/-! ### lw14_IdleSilent: function 4 -/
mutual
def lw14_IdleSilent.j0 : Nat → Int → Int → Option (Bool)
  | 0, _, _ => none
  | k + 1, x5, x6 => (idle_New.f x5 0 x6).bind fun bt217 => ((idle_Idle_When.f bt217.1 bt217.2.1 bt217.2.2.1 bt217.2.2.2.1 bt217.2.2.2.2).bind fun bt223 => ((idle_Idle_Late.f bt223.2.2.1 bt223.2.2.2.1 bt223.2.2.2.2.1 bt223.2.2.2.2.2.1 bt223.2.2.2.2.2.2 (wrap64 ((wrap64 (x6 + x5)) - 1))).bind fun bt230 => (if bt230.1 = true then (lw14_IdleSilent.j1 k x5 x6 true bt230.2.1 bt230.2.2.1 bt230.2.2.2.1 bt230.2.2.2.2.1 bt230.2.2.2.2.2) else ((idle_Idle_Late.f bt230.2.1 bt230.2.2.1 bt230.2.2.2.1 bt230.2.2.2.2.1 bt230.2.2.2.2.2 (wrap64 (x6 + x5))).bind fun bt236 => (if bt236.1 = true then ((idle_Idle_Late.f bt236.2.1 bt236.2.2.1 bt236.2.2.2.1 bt236.2.2.2.2.1 bt236.2.2.2.2.2 (wrap64 ((wrap64 (x6 + x5)) + 1000))).bind fun bt242 => (if bt242.1 = true then ((idle_Idle_Due.f bt242.2.1 bt242.2.2.1 bt242.2.2.2.1 bt242.2.2.2.2.1 bt242.2.2.2.2.2 (wrap64 ((wrap64 (x6 + x5)) + 1000))).bind fun bt248 => (if bt248.1 = true then (lw14_IdleSilent.j1 k x5 x6 true bt248.2.1 bt248.2.2.1 bt248.2.2.2.1 bt248.2.2.2.2.1 bt248.2.2.2.2.2) else (if bt223.1 = (wrap64 (x6 + x5)) then (lw14_IdleSilent.j1 k x5 x6 (!bt223.2.1) bt248.2.1 bt248.2.2.1 bt248.2.2.2.1 bt248.2.2.2.2.1 bt248.2.2.2.2.2) else (lw14_IdleSilent.j1 k x5 x6 true bt248.2.1 bt248.2.2.1 bt248.2.2.2.1 bt248.2.2.2.2.1 bt248.2.2.2.2.2)))) else (lw14_IdleSilent.j1 k x5 x6 true bt242.2.1 bt242.2.2.1 bt242.2.2.2.1 bt242.2.2.2.2.1 bt242.2.2.2.2.2))) else (lw14_IdleSilent.j1 k x5 x6 true bt236.2.1 bt236.2.2.1 bt236.2.2.2.1 bt236.2.2.2.2.1 bt236.2.2.2.2.2))))))
def lw14_IdleSilent.j1 : Nat → Int → Int → Bool → Int → Int → Int → Int → Int → Option (Bool)
  | 0, _, _, _, _, _, _, _, _ => none
  | k + 1, x5, x6, x70, x223000, x223001, x223002, x223003, x223004 => if x70 = true then (some false) else ((idle_Idle_Got.f x223000 x223001 x223002 x223003 x223004 (wrap64 ((wrap64 (x6 + x5)) + 2000))).bind fun bt254 => ((idle_Idle_Late.f bt254.1 bt254.2.1 bt254.2.2.1 bt254.2.2.2.1 bt254.2.2.2.2 (wrap64 ((wrap64 (x6 + x5)) + 2000))).bind fun bt259 => (if bt259.1 = true then (some false) else ((lw14_works.f k).bind fun t265 => (some t265)))))
end
def lw14_IdleSilent.f (k : Nat) (a0 : Int) (a1 : Int) : Option (Bool) := if (Int.tmod a1 1099511627776) < 0 then (lw14_IdleSilent.j0 k ((1 + (Int.tmod a0 5000)) % 4294967296) (wrap64 (-(Int.tmod a1 1099511627776)))) else (lw14_IdleSilent.j0 k ((1 + (Int.tmod a0 5000)) % 4294967296) (Int.tmod a1 1099511627776))
theorem lw14_IdleSilent.mono_l : ∀ k, (∀ y0 y1, LeO (lw14_IdleSilent.j0 k y0 y1) (lw14_IdleSilent.j0 (k + 1) y0 y1)) ∧ (∀ y0 y1 y2 y3 y4 y5 y6 y7, LeO (lw14_IdleSilent.j1 k y0 y1 y2 y3 y4 y5 y6 y7) (lw14_IdleSilent.j1 (k + 1) y0 y1 y2 y3 y4 y5 y6 y7))
  | 0 => ⟨fun _ _ r h => by simp [lw14_IdleSilent.j0] at h, fun _ _ _ _ _ _ _ _ r h => by simp [lw14_IdleSilent.j1] at h⟩
  | k + 1 => by
    obtain ⟨ih0, ih1⟩ := lw14_IdleSilent.mono_l k
    refine ⟨?_, ?_⟩
    · intro y0 y1
      unfold lw14_IdleSilent.j0
      repeat' first
      | (with_reducible exact ih0 _ _)
      | (with_reducible exact ih1 _ _ _ _ _ _ _ _)
      | (with_reducible exact lw14_works.mono _)
      | (with_reducible exact LeO.refl _)
      | (with_reducible exact LeO.none _)
      | (with_reducible refine LeO.ite ?_ ?_)
      | (with_reducible refine LeO.bind ?_ (fun _ => ?_))
      | exact ih0 _ _
      | exact ih1 _ _ _ _ _ _ _ _
      | exact lw14_works.mono _
      | exact LeO.none _
      | refine LeO.ite ?_ ?_
      | refine LeO.bind ?_ (fun _ => ?_)
    · intro y0 y1 y2 y3 y4 y5 y6 y7
      unfold lw14_IdleSilent.j1
      repeat' first
      | (with_reducible exact ih0 _ _)
      | (with_reducible exact ih1 _ _ _ _ _ _ _ _)
      | (with_reducible exact lw14_works.mono _)
      | (with_reducible exact LeO.refl _)
      | (with_reducible exact LeO.none _)
      | (with_reducible refine LeO.ite ?_ ?_)
      | (with_reducible refine LeO.bind ?_ (fun _ => ?_))
      | exact ih0 _ _
      | exact ih1 _ _ _ _ _ _ _ _
      | exact lw14_works.mono _
      | exact LeO.none _
      | refine LeO.ite ?_ ?_
      | refine LeO.bind ?_ (fun _ => ?_)
theorem lw14_IdleSilent.mono : ∀ a0 a1 k, LeO (lw14_IdleSilent.f k a0 a1) (lw14_IdleSilent.f (k + 1) a0 a1) := by
  intro a0 a1 k
  obtain ⟨ih0, ih1⟩ := lw14_IdleSilent.mono_l k
  unfold lw14_IdleSilent.f
  repeat' first
      | (with_reducible exact ih0 _ _)
      | (with_reducible exact ih1 _ _ _ _ _ _ _ _)
      | (with_reducible exact lw14_works.mono _)
      | (with_reducible exact LeO.refl _)
      | (with_reducible exact LeO.none _)
      | (with_reducible refine LeO.ite ?_ ?_)
      | (with_reducible refine LeO.bind ?_ (fun _ => ?_))
      | exact ih0 _ _
      | exact ih1 _ _ _ _ _ _ _ _
      | exact lw14_works.mono _
      | exact LeO.none _
      | refine LeO.ite ?_ ?_
      | refine LeO.bind ?_ (fun _ => ?_)
set_option maxHeartbeats 8000000 in
set_option maxRecDepth 100000 in
theorem lw14_IdleSilent.calls (k : Nat) (a0 : Int) (a1 : Int) (r : Bool) (w : World) (h : lw14_IdleSilent.f k a0 a1 = some r) :
    Calls Try.prog 4 #[.int .u32 a0, .int .i64 a1] w fun e w' => e = .returned (.bool r) ∧ Below w.heap.size w w' := by
  have HB := Aside0.mk (Below.refl w.heap.size w)
  have H : (if (Int.tmod a1 1099511627776) < 0 then (lw14_IdleSilent.j0 k ((1 + (Int.tmod a0 5000)) % 4294967296) (wrap64 (-(Int.tmod a1 1099511627776)))) else (lw14_IdleSilent.j0 k ((1 + (Int.tmod a0 5000)) % 4294967296) (Int.tmod a1 1099511627776))) = some r := h
  clear h
  have HC3 := Aside0.mk H
  clear H
  go_enter Try.func4, Try.ntmps4
  go_upto_if 17 with (fail)
  go_cut [6] (fun v6 wc => ∃ (kq : Nat) (x6_2 : Int), v6 = .int .i64 x6_2 ∧ Aside0 (lw14_IdleSilent.j0 kq ((1 + (Int.tmod a0 5000)) % 4294967296) x6_2 = some r) ∧ Aside0 (kq ≤ k) ∧ Aside0 (Below w.heap.size w wc))
  case first =>
    have H := HC3.out
    clear HC3
    by_cases c4 : (Int.tmod a1 1099511627776) < 0
    · rw [if_pos c4] at H
      have c4b0 : decide ((Int.tmod a1 1099511627776) < 0) = true := decide_eq_true c4
      clear c4
      (first | rw [c4b0] | (simp only [i64_w, i32_w]; rw [c4b0]) | skip)
      have H' := Aside0.mk H
      clear H
      go_wp2
      go_meet
      case rel => exact ⟨_, (wrap64 (-(Int.tmod a1 1099511627776))), (by first | rfl | (simp; done) | (simp [*]; done)), H', ⟨by first | omega | exact Nat.le_refl _⟩, ⟨by repeat (first | (with_reducible first | exact HB.out | apply below_alloc | apply pw_below_drewN | apply below_drew1) | exact HB.out)⟩⟩
    · rw [if_neg c4] at H
      have c4b0 : decide ((Int.tmod a1 1099511627776) < 0) = false := decide_eq_false c4
      clear c4
      (first | rw [c4b0] | (simp only [i64_w, i32_w]; rw [c4b0]) | skip)
      have H' := Aside0.mk H
      clear H
      go_wp2
      go_meet
      case rel => exact ⟨_, (Int.tmod a1 1099511627776), (by first | rfl | (simp; done) | (simp [*]; done)), H', ⟨by first | omega | exact Nat.le_refl _⟩, ⟨by repeat (first | (with_reducible first | exact HB.out | apply below_alloc | apply pw_below_drewN | apply below_drew1) | exact HB.out)⟩⟩
  case rest =>
    clear HC3
    try clear p2
    try clear c4
    try clear c4b0
    obtain ⟨kq, x6_2, rfl, HA, HJ2, HB⟩ := hcut
    cases kq with
    | zero => exact absurd HA.out (by simp [lw14_IdleSilent.j0])
    | succ kj2 =>
      have H := HA.out
      clear HA
      simp only [lw14_IdleSilent.j0] at H
      replace H := Option.bind_eq_some_iff.mp H
      obtain ⟨⟨t217, t218, t219, t220, t221⟩, A50, H⟩ := H
      replace H : ((idle_Idle_When.f t217 t218 t219 t220 t221).bind fun bt223 => ((idle_Idle_Late.f bt223.2.2.1 bt223.2.2.2.1 bt223.2.2.2.2.1 bt223.2.2.2.2.2.1 bt223.2.2.2.2.2.2 (wrap64 ((wrap64 (x6_2 + ((1 + (Int.tmod a0 5000)) % 4294967296))) - 1))).bind fun bt230 => (if bt230.1 = true then (lw14_IdleSilent.j1 kj2 ((1 + (Int.tmod a0 5000)) % 4294967296) x6_2 true bt230.2.1 bt230.2.2.1 bt230.2.2.2.1 bt230.2.2.2.2.1 bt230.2.2.2.2.2) else ((idle_Idle_Late.f bt230.2.1 bt230.2.2.1 bt230.2.2.2.1 bt230.2.2.2.2.1 bt230.2.2.2.2.2 (wrap64 (x6_2 + ((1 + (Int.tmod a0 5000)) % 4294967296)))).bind fun bt236 => (if bt236.1 = true then ((idle_Idle_Late.f bt236.2.1 bt236.2.2.1 bt236.2.2.2.1 bt236.2.2.2.2.1 bt236.2.2.2.2.2 (wrap64 ((wrap64 (x6_2 + ((1 + (Int.tmod a0 5000)) % 4294967296))) + 1000))).bind fun bt242 => (if bt242.1 = true then ((idle_Idle_Due.f bt242.2.1 bt242.2.2.1 bt242.2.2.2.1 bt242.2.2.2.2.1 bt242.2.2.2.2.2 (wrap64 ((wrap64 (x6_2 + ((1 + (Int.tmod a0 5000)) % 4294967296))) + 1000))).bind fun bt248 => (if bt248.1 = true then (lw14_IdleSilent.j1 kj2 ((1 + (Int.tmod a0 5000)) % 4294967296) x6_2 true bt248.2.1 bt248.2.2.1 bt248.2.2.2.1 bt248.2.2.2.2.1 bt248.2.2.2.2.2) else (if bt223.1 = (wrap64 (x6_2 + ((1 + (Int.tmod a0 5000)) % 4294967296))) then (lw14_IdleSilent.j1 kj2 ((1 + (Int.tmod a0 5000)) % 4294967296) x6_2 (!bt223.2.1) bt248.2.1 bt248.2.2.1 bt248.2.2.2.1 bt248.2.2.2.2.1 bt248.2.2.2.2.2) else (lw14_IdleSilent.j1 kj2 ((1 + (Int.tmod a0 5000)) % 4294967296) x6_2 true bt248.2.1 bt248.2.2.1 bt248.2.2.2.1 bt248.2.2.2.2.1 bt248.2.2.2.2.2)))) else (lw14_IdleSilent.j1 kj2 ((1 + (Int.tmod a0 5000)) % 4294967296) x6_2 true bt242.2.1 bt242.2.2.1 bt242.2.2.2.1 bt242.2.2.2.2.1 bt242.2.2.2.2.2))) else (lw14_IdleSilent.j1 kj2 ((1 + (Int.tmod a0 5000)) % 4294967296) x6_2 true bt236.2.1 bt236.2.2.1 bt236.2.2.2.1 bt236.2.2.2.2.1 bt236.2.2.2.2.2)))))) = some r := H
      have A5 := Aside0.mk A50
      clear A50
      replace H := Option.bind_eq_some_iff.mp H
      obtain ⟨⟨t223, t224, t225, t226, t227, t228, t229⟩, A60, H⟩ := H
      replace H : ((idle_Idle_Late.f t225 t226 t227 t228 t229 (wrap64 ((wrap64 (x6_2 + ((1 + (Int.tmod a0 5000)) % 4294967296))) - 1))).bind fun bt230 => (if bt230.1 = true then (lw14_IdleSilent.j1 kj2 ((1 + (Int.tmod a0 5000)) % 4294967296) x6_2 true bt230.2.1 bt230.2.2.1 bt230.2.2.2.1 bt230.2.2.2.2.1 bt230.2.2.2.2.2) else ((idle_Idle_Late.f bt230.2.1 bt230.2.2.1 bt230.2.2.2.1 bt230.2.2.2.2.1 bt230.2.2.2.2.2 (wrap64 (x6_2 + ((1 + (Int.tmod a0 5000)) % 4294967296)))).bind fun bt236 => (if bt236.1 = true then ((idle_Idle_Late.f bt236.2.1 bt236.2.2.1 bt236.2.2.2.1 bt236.2.2.2.2.1 bt236.2.2.2.2.2 (wrap64 ((wrap64 (x6_2 + ((1 + (Int.tmod a0 5000)) % 4294967296))) + 1000))).bind fun bt242 => (if bt242.1 = true then ((idle_Idle_Due.f bt242.2.1 bt242.2.2.1 bt242.2.2.2.1 bt242.2.2.2.2.1 bt242.2.2.2.2.2 (wrap64 ((wrap64 (x6_2 + ((1 + (Int.tmod a0 5000)) % 4294967296))) + 1000))).bind fun bt248 => (if bt248.1 = true then (lw14_IdleSilent.j1 kj2 ((1 + (Int.tmod a0 5000)) % 4294967296) x6_2 true bt248.2.1 bt248.2.2.1 bt248.2.2.2.1 bt248.2.2.2.2.1 bt248.2.2.2.2.2) else (if t223 = (wrap64 (x6_2 + ((1 + (Int.tmod a0 5000)) % 4294967296))) then (lw14_IdleSilent.j1 kj2 ((1 + (Int.tmod a0 5000)) % 4294967296) x6_2 (!t224) bt248.2.1 bt248.2.2.1 bt248.2.2.2.1 bt248.2.2.2.2.1 bt248.2.2.2.2.2) else (lw14_IdleSilent.j1 kj2 ((1 + (Int.tmod a0 5000)) % 4294967296) x6_2 true bt248.2.1 bt248.2.2.1 bt248.2.2.2.1 bt248.2.2.2.2.1 bt248.2.2.2.2.2)))) else (lw14_IdleSilent.j1 kj2 ((1 + (Int.tmod a0 5000)) % 4294967296) x6_2 true bt242.2.1 bt242.2.2.1 bt242.2.2.2.1 bt242.2.2.2.2.1 bt242.2.2.2.2.2))) else (lw14_IdleSilent.j1 kj2 ((1 + (Int.tmod a0 5000)) % 4294967296) x6_2 true bt236.2.1 bt236.2.2.1 bt236.2.2.2.1 bt236.2.2.2.2.1 bt236.2.2.2.2.2))))) = some r := H
      have A6 := Aside0.mk A60
      clear A60
      have HC7 := Aside0.mk H
      clear H
      go_upto_region 7 with (first | ((with_reducible refine gate_callee (f := 8) rfl ?_); refine goesL_ (some 23) rfl rfl Try.func8 (by kernel_rfl) rfl #[.int .u32 ((1 + (Int.tmod a0 5000)) % 4294967296), .int .u32 0, .int .i64 x6_2] rfl (by (try simp only [List.map_toArray, List.map_cons, List.map_nil]); first | done | rfl | (simp only [List.length_drop, List.length_take]; rfl)) ?_; (with_reducible refine (idle_New.calls ((1 + (Int.tmod a0 5000)) % 4294967296) 0 x6_2 t217 t218 t219 t220 t221 w _ ?side1 A5.out).mono ?_); (case side1 => repeat (first | (with_reducible first | exact HB.out | apply below_alloc | apply pw_below_drewN | apply below_drew1) | exact HB.out)); rintro e w8 ⟨g222, rfl, hi, hb, hb2, hgw⟩; refine ⟨_, rfl, ?_⟩; have n0_ := Aside0.mk (hb); have n1_ := Aside0.mk (hi); clear HB; have HB := n0_; have HI222 := n1_; clear n0_ n1_; (try clear hb); (try clear hb2); (try clear hk); (try clear hi); (try clear hgw)) | ((with_reducible refine gate_callee (f := 14) rfl ?_); refine goesL_ (some 26) rfl rfl Try.func14 (by kernel_rfl) rfl #[.pointer (some ⟨g222, 0, none⟩)] rfl (by (try simp only [List.map_toArray, List.map_cons, List.map_nil]); first | done | rfl | (simp only [List.length_drop, List.length_take]; rfl)) ?_; (with_reducible refine (idle_Idle_When.calls g222 t217 t218 t219 t220 t221 t223 t224 t225 t226 t227 t228 t229 w _ ?side1 ?side2 A6.out).mono ?_); (case side1 => repeat (first | (with_reducible first | exact HI222.out | apply IsS43.alloc | apply IsS43.drewN | apply IsS43.drew | apply IsS43.set_0 | apply IsS43.set_1 | apply IsS43.set_2 | apply IsS43.set_3 | apply IsS43.set_4) | exact HI222.out)); (case side2 => repeat (first | (with_reducible first | exact HB.out | apply below_alloc | apply pw_below_drewN | apply below_drew1 | refine below_set ?_ (IsS43.ge HI222.out)) | exact HB.out)); rintro e w9 ⟨rfl, hi, hb, hk⟩; refine ⟨_, rfl, ?_⟩; have n0_ := Aside0.mk (hb); have n1_ := Aside0.mk (hi); clear HB; clear HI222; have HB := n0_; have HI222 := n1_; clear n0_ n1_; (try clear hb); (try clear hb2); (try clear hk); (try clear hi); (try clear hgw)))
      (try simp only [Act.put, List.setIfInBounds_toArray, List.set_cons_zero, List.set_cons_succ])
      go_cut [70] (fun v70 wc => ∃ (kq : Nat) (x70_6 : Bool) (x223000_6 : Int) (x223001_6 : Int) (x223002_6 : Int) (x223003_6 : Int) (x223004_6 : Int), v70 = .bool x70_6 ∧ Aside0 (lw14_IdleSilent.j1 kq ((1 + (Int.tmod a0 5000)) % 4294967296) x6_2 x70_6 x223000_6 x223001_6 x223002_6 x223003_6 x223004_6 = some r) ∧ Aside0 (kq ≤ kj2) ∧ Aside0 (IsS43 w wc g222 x223000_6 x223001_6 x223002_6 x223003_6 x223004_6) ∧ Aside0 (Below w.heap.size w wc))
      case first =>
        have H := HC7.out
        clear HC7
        replace H := Option.bind_eq_some_iff.mp H
        obtain ⟨⟨t230, t231, t232, t233, t234, t235⟩, A100, H⟩ := H
        replace H : (if t230 = true then (lw14_IdleSilent.j1 kj2 ((1 + (Int.tmod a0 5000)) % 4294967296) x6_2 true t231 t232 t233 t234 t235) else ((idle_Idle_Late.f t231 t232 t233 t234 t235 (wrap64 (x6_2 + ((1 + (Int.tmod a0 5000)) % 4294967296)))).bind fun bt236 => (if bt236.1 = true then ((idle_Idle_Late.f bt236.2.1 bt236.2.2.1 bt236.2.2.2.1 bt236.2.2.2.2.1 bt236.2.2.2.2.2 (wrap64 ((wrap64 (x6_2 + ((1 + (Int.tmod a0 5000)) % 4294967296))) + 1000))).bind fun bt242 => (if bt242.1 = true then ((idle_Idle_Due.f bt242.2.1 bt242.2.2.1 bt242.2.2.2.1 bt242.2.2.2.2.1 bt242.2.2.2.2.2 (wrap64 ((wrap64 (x6_2 + ((1 + (Int.tmod a0 5000)) % 4294967296))) + 1000))).bind fun bt248 => (if bt248.1 = true then (lw14_IdleSilent.j1 kj2 ((1 + (Int.tmod a0 5000)) % 4294967296) x6_2 true bt248.2.1 bt248.2.2.1 bt248.2.2.2.1 bt248.2.2.2.2.1 bt248.2.2.2.2.2) else (if t223 = (wrap64 (x6_2 + ((1 + (Int.tmod a0 5000)) % 4294967296))) then (lw14_IdleSilent.j1 kj2 ((1 + (Int.tmod a0 5000)) % 4294967296) x6_2 (!t224) bt248.2.1 bt248.2.2.1 bt248.2.2.2.1 bt248.2.2.2.2.1 bt248.2.2.2.2.2) else (lw14_IdleSilent.j1 kj2 ((1 + (Int.tmod a0 5000)) % 4294967296) x6_2 true bt248.2.1 bt248.2.2.1 bt248.2.2.2.1 bt248.2.2.2.2.1 bt248.2.2.2.2.2)))) else (lw14_IdleSilent.j1 kj2 ((1 + (Int.tmod a0 5000)) % 4294967296) x6_2 true bt242.2.1 bt242.2.2.1 bt242.2.2.2.1 bt242.2.2.2.2.1 bt242.2.2.2.2.2))) else (lw14_IdleSilent.j1 kj2 ((1 + (Int.tmod a0 5000)) % 4294967296) x6_2 true bt236.2.1 bt236.2.2.1 bt236.2.2.2.1 bt236.2.2.2.2.1 bt236.2.2.2.2.2)))) = some r := H
        have A10 := Aside0.mk A100
        clear A100
        by_cases c11 : t230 = true
        · subst c11
          have H1 : (lw14_IdleSilent.j1 kj2 ((1 + (Int.tmod a0 5000)) % 4294967296) x6_2 true t231 t232 t233 t234 t235) = some r := by rw [if_pos rfl] at H; exact H
          clear H
          have H := H1
          clear H1
          have H' := Aside0.mk H
          clear H
          go_wp2_with (first | ((with_reducible refine gate_callee (f := 12) rfl ?_); refine goesL_ (some 34) rfl rfl Try.func12 (by kernel_rfl) rfl #[.pointer (some ⟨g222, 0, none⟩), .int .i64 (wrap64 ((wrap64 (x6_2 + ((1 + (Int.tmod a0 5000)) % 4294967296))) - 1))] rfl (by (try simp only [List.map_toArray, List.map_cons, List.map_nil]); first | done | rfl | (simp only [List.length_drop, List.length_take]; rfl)) ?_; (with_reducible refine (idle_Idle_Late.calls g222 t225 t226 t227 t228 t229 (wrap64 ((wrap64 (x6_2 + ((1 + (Int.tmod a0 5000)) % 4294967296))) - 1)) true t231 t232 t233 t234 t235 w _ ?side1 ?side2 A10.out).mono ?_); (case side1 => repeat (first | (with_reducible first | exact HI222.out | apply IsS43.alloc | apply IsS43.drewN | apply IsS43.drew | apply IsS43.set_0 | apply IsS43.set_1 | apply IsS43.set_2 | apply IsS43.set_3 | apply IsS43.set_4) | exact HI222.out)); (case side2 => repeat (first | (with_reducible first | exact HB.out | apply below_alloc | apply pw_below_drewN | apply below_drew1 | refine below_set ?_ (IsS43.ge HI222.out)) | exact HB.out)); rintro e w12 ⟨rfl, hi, hb, hk⟩; refine ⟨_, rfl, ?_⟩; have n0_ := Aside0.mk (hb); have n1_ := Aside0.mk (hi); clear HB; clear HI222; have HB := n0_; have HI222 := n1_; clear n0_ n1_; (try clear hb); (try clear hb2); (try clear hk); (try clear hi); (try clear hgw)))
          go_meet
          case rel => exact ⟨_, (true), (t231), (t232), (t233), (t234), (t235), (by first | rfl | (simp; done) | (simp [*]; done)), H', ⟨by have := HJ2.out; first | omega | exact Nat.le_refl _⟩, ⟨by repeat (first | (with_reducible first | exact HI222.out | apply IsS43.alloc | apply IsS43.drewN | apply IsS43.drew | apply IsS43.set_0 | apply IsS43.set_1 | apply IsS43.set_2 | apply IsS43.set_3 | apply IsS43.set_4) | exact HI222.out)⟩, ⟨by repeat (first | (with_reducible first | exact HB.out | apply below_alloc | apply pw_below_drewN | apply below_drew1 | refine below_set ?_ (IsS43.ge HI222.out)) | exact HB.out)⟩⟩
        · replace c11 := Bool.eq_false_iff.mpr c11
          subst c11
          have H1 : ((idle_Idle_Late.f t231 t232 t233 t234 t235 (wrap64 (x6_2 + ((1 + (Int.tmod a0 5000)) % 4294967296)))).bind fun bt236 => (if bt236.1 = true then ((idle_Idle_Late.f bt236.2.1 bt236.2.2.1 bt236.2.2.2.1 bt236.2.2.2.2.1 bt236.2.2.2.2.2 (wrap64 ((wrap64 (x6_2 + ((1 + (Int.tmod a0 5000)) % 4294967296))) + 1000))).bind fun bt242 => (if bt242.1 = true then ((idle_Idle_Due.f bt242.2.1 bt242.2.2.1 bt242.2.2.2.1 bt242.2.2.2.2.1 bt242.2.2.2.2.2 (wrap64 ((wrap64 (x6_2 + ((1 + (Int.tmod a0 5000)) % 4294967296))) + 1000))).bind fun bt248 => (if bt248.1 = true then (lw14_IdleSilent.j1 kj2 ((1 + (Int.tmod a0 5000)) % 4294967296) x6_2 true bt248.2.1 bt248.2.2.1 bt248.2.2.2.1 bt248.2.2.2.2.1 bt248.2.2.2.2.2) else (if t223 = (wrap64 (x6_2 + ((1 + (Int.tmod a0 5000)) % 4294967296))) then (lw14_IdleSilent.j1 kj2 ((1 + (Int.tmod a0 5000)) % 4294967296) x6_2 (!t224) bt248.2.1 bt248.2.2.1 bt248.2.2.2.1 bt248.2.2.2.2.1 bt248.2.2.2.2.2) else (lw14_IdleSilent.j1 kj2 ((1 + (Int.tmod a0 5000)) % 4294967296) x6_2 true bt248.2.1 bt248.2.2.1 bt248.2.2.2.1 bt248.2.2.2.2.1 bt248.2.2.2.2.2)))) else (lw14_IdleSilent.j1 kj2 ((1 + (Int.tmod a0 5000)) % 4294967296) x6_2 true bt242.2.1 bt242.2.2.1 bt242.2.2.2.1 bt242.2.2.2.2.1 bt242.2.2.2.2.2))) else (lw14_IdleSilent.j1 kj2 ((1 + (Int.tmod a0 5000)) % 4294967296) x6_2 true bt236.2.1 bt236.2.2.1 bt236.2.2.2.1 bt236.2.2.2.2.1 bt236.2.2.2.2.2))) = some r := by rw [if_neg (show ¬ (false = true) by decide)] at H; exact H
          clear H
          have H := H1
          clear H1
          replace H := Option.bind_eq_some_iff.mp H
          obtain ⟨⟨t236, t237, t238, t239, t240, t241⟩, A130, H⟩ := H
          replace H : (if t236 = true then ((idle_Idle_Late.f t237 t238 t239 t240 t241 (wrap64 ((wrap64 (x6_2 + ((1 + (Int.tmod a0 5000)) % 4294967296))) + 1000))).bind fun bt242 => (if bt242.1 = true then ((idle_Idle_Due.f bt242.2.1 bt242.2.2.1 bt242.2.2.2.1 bt242.2.2.2.2.1 bt242.2.2.2.2.2 (wrap64 ((wrap64 (x6_2 + ((1 + (Int.tmod a0 5000)) % 4294967296))) + 1000))).bind fun bt248 => (if bt248.1 = true then (lw14_IdleSilent.j1 kj2 ((1 + (Int.tmod a0 5000)) % 4294967296) x6_2 true bt248.2.1 bt248.2.2.1 bt248.2.2.2.1 bt248.2.2.2.2.1 bt248.2.2.2.2.2) else (if t223 = (wrap64 (x6_2 + ((1 + (Int.tmod a0 5000)) % 4294967296))) then (lw14_IdleSilent.j1 kj2 ((1 + (Int.tmod a0 5000)) % 4294967296) x6_2 (!t224) bt248.2.1 bt248.2.2.1 bt248.2.2.2.1 bt248.2.2.2.2.1 bt248.2.2.2.2.2) else (lw14_IdleSilent.j1 kj2 ((1 + (Int.tmod a0 5000)) % 4294967296) x6_2 true bt248.2.1 bt248.2.2.1 bt248.2.2.2.1 bt248.2.2.2.2.1 bt248.2.2.2.2.2)))) else (lw14_IdleSilent.j1 kj2 ((1 + (Int.tmod a0 5000)) % 4294967296) x6_2 true bt242.2.1 bt242.2.2.1 bt242.2.2.2.1 bt242.2.2.2.2.1 bt242.2.2.2.2.2))) else (lw14_IdleSilent.j1 kj2 ((1 + (Int.tmod a0 5000)) % 4294967296) x6_2 true t237 t238 t239 t240 t241)) = some r := H
          have A13 := Aside0.mk A130
          clear A130
          by_cases c14 : t236 = true
          · subst c14
            have H1 : ((idle_Idle_Late.f t237 t238 t239 t240 t241 (wrap64 ((wrap64 (x6_2 + ((1 + (Int.tmod a0 5000)) % 4294967296))) + 1000))).bind fun bt242 => (if bt242.1 = true then ((idle_Idle_Due.f bt242.2.1 bt242.2.2.1 bt242.2.2.2.1 bt242.2.2.2.2.1 bt242.2.2.2.2.2 (wrap64 ((wrap64 (x6_2 + ((1 + (Int.tmod a0 5000)) % 4294967296))) + 1000))).bind fun bt248 => (if bt248.1 = true then (lw14_IdleSilent.j1 kj2 ((1 + (Int.tmod a0 5000)) % 4294967296) x6_2 true bt248.2.1 bt248.2.2.1 bt248.2.2.2.1 bt248.2.2.2.2.1 bt248.2.2.2.2.2) else (if t223 = (wrap64 (x6_2 + ((1 + (Int.tmod a0 5000)) % 4294967296))) then (lw14_IdleSilent.j1 kj2 ((1 + (Int.tmod a0 5000)) % 4294967296) x6_2 (!t224) bt248.2.1 bt248.2.2.1 bt248.2.2.2.1 bt248.2.2.2.2.1 bt248.2.2.2.2.2) else (lw14_IdleSilent.j1 kj2 ((1 + (Int.tmod a0 5000)) % 4294967296) x6_2 true bt248.2.1 bt248.2.2.1 bt248.2.2.2.1 bt248.2.2.2.2.1 bt248.2.2.2.2.2)))) else (lw14_IdleSilent.j1 kj2 ((1 + (Int.tmod a0 5000)) % 4294967296) x6_2 true bt242.2.1 bt242.2.2.1 bt242.2.2.2.1 bt242.2.2.2.2.1 bt242.2.2.2.2.2))) = some r := by rw [if_pos rfl] at H; exact H
            clear H
            have H := H1
            clear H1
            replace H := Option.bind_eq_some_iff.mp H
            obtain ⟨⟨t242, t243, t244, t245, t246, t247⟩, A150, H⟩ := H
            replace H : (if t242 = true then ((idle_Idle_Due.f t243 t244 t245 t246 t247 (wrap64 ((wrap64 (x6_2 + ((1 + (Int.tmod a0 5000)) % 4294967296))) + 1000))).bind fun bt248 => (if bt248.1 = true then (lw14_IdleSilent.j1 kj2 ((1 + (Int.tmod a0 5000)) % 4294967296) x6_2 true bt248.2.1 bt248.2.2.1 bt248.2.2.2.1 bt248.2.2.2.2.1 bt248.2.2.2.2.2) else (if t223 = (wrap64 (x6_2 + ((1 + (Int.tmod a0 5000)) % 4294967296))) then (lw14_IdleSilent.j1 kj2 ((1 + (Int.tmod a0 5000)) % 4294967296) x6_2 (!t224) bt248.2.1 bt248.2.2.1 bt248.2.2.2.1 bt248.2.2.2.2.1 bt248.2.2.2.2.2) else (lw14_IdleSilent.j1 kj2 ((1 + (Int.tmod a0 5000)) % 4294967296) x6_2 true bt248.2.1 bt248.2.2.1 bt248.2.2.2.1 bt248.2.2.2.2.1 bt248.2.2.2.2.2)))) else (lw14_IdleSilent.j1 kj2 ((1 + (Int.tmod a0 5000)) % 4294967296) x6_2 true t243 t244 t245 t246 t247)) = some r := H
            have A15 := Aside0.mk A150
            clear A150
            by_cases c16 : t242 = true
            · subst c16
              have H1 : ((idle_Idle_Due.f t243 t244 t245 t246 t247 (wrap64 ((wrap64 (x6_2 + ((1 + (Int.tmod a0 5000)) % 4294967296))) + 1000))).bind fun bt248 => (if bt248.1 = true then (lw14_IdleSilent.j1 kj2 ((1 + (Int.tmod a0 5000)) % 4294967296) x6_2 true bt248.2.1 bt248.2.2.1 bt248.2.2.2.1 bt248.2.2.2.2.1 bt248.2.2.2.2.2) else (if t223 = (wrap64 (x6_2 + ((1 + (Int.tmod a0 5000)) % 4294967296))) then (lw14_IdleSilent.j1 kj2 ((1 + (Int.tmod a0 5000)) % 4294967296) x6_2 (!t224) bt248.2.1 bt248.2.2.1 bt248.2.2.2.1 bt248.2.2.2.2.1 bt248.2.2.2.2.2) else (lw14_IdleSilent.j1 kj2 ((1 + (Int.tmod a0 5000)) % 4294967296) x6_2 true bt248.2.1 bt248.2.2.1 bt248.2.2.2.1 bt248.2.2.2.2.1 bt248.2.2.2.2.2)))) = some r := by rw [if_pos rfl] at H; exact H
              clear H
              have H := H1
              clear H1
              replace H := Option.bind_eq_some_iff.mp H
              obtain ⟨⟨t248, t249, t250, t251, t252, t253⟩, A170, H⟩ := H
              replace H : (if t248 = true then (lw14_IdleSilent.j1 kj2 ((1 + (Int.tmod a0 5000)) % 4294967296) x6_2 true t249 t250 t251 t252 t253) else (if t223 = (wrap64 (x6_2 + ((1 + (Int.tmod a0 5000)) % 4294967296))) then (lw14_IdleSilent.j1 kj2 ((1 + (Int.tmod a0 5000)) % 4294967296) x6_2 (!t224) t249 t250 t251 t252 t253) else (lw14_IdleSilent.j1 kj2 ((1 + (Int.tmod a0 5000)) % 4294967296) x6_2 true t249 t250 t251 t252 t253))) = some r := H
              have A17 := Aside0.mk A170
              clear A170
              by_cases c18 : t248 = true
              · subst c18
                have H1 : (lw14_IdleSilent.j1 kj2 ((1 + (Int.tmod a0 5000)) % 4294967296) x6_2 true t249 t250 t251 t252 t253) = some r := by rw [if_pos rfl] at H; exact H
                clear H
                have H := H1
                clear H1
                have H' := Aside0.mk H
                clear H
                go_wp2_with (first | ((with_reducible refine gate_callee (f := 12) rfl ?_); refine goesL_ (some 34) rfl rfl Try.func12 (by kernel_rfl) rfl #[.pointer (some ⟨g222, 0, none⟩), .int .i64 (wrap64 ((wrap64 (x6_2 + ((1 + (Int.tmod a0 5000)) % 4294967296))) - 1))] rfl (by (try simp only [List.map_toArray, List.map_cons, List.map_nil]); first | done | rfl | (simp only [List.length_drop, List.length_take]; rfl)) ?_; (with_reducible refine (idle_Idle_Late.calls g222 t225 t226 t227 t228 t229 (wrap64 ((wrap64 (x6_2 + ((1 + (Int.tmod a0 5000)) % 4294967296))) - 1)) false t231 t232 t233 t234 t235 w _ ?side1 ?side2 A10.out).mono ?_); (case side1 => repeat (first | (with_reducible first | exact HI222.out | apply IsS43.alloc | apply IsS43.drewN | apply IsS43.drew | apply IsS43.set_0 | apply IsS43.set_1 | apply IsS43.set_2 | apply IsS43.set_3 | apply IsS43.set_4) | exact HI222.out)); (case side2 => repeat (first | (with_reducible first | exact HB.out | apply below_alloc | apply pw_below_drewN | apply below_drew1 | refine below_set ?_ (IsS43.ge HI222.out)) | exact HB.out)); rintro e w19 ⟨rfl, hi, hb, hk⟩; refine ⟨_, rfl, ?_⟩; have n0_ := Aside0.mk (hb); have n1_ := Aside0.mk (hi); clear HB; clear HI222; have HB := n0_; have HI222 := n1_; clear n0_ n1_; (try clear hb); (try clear hb2); (try clear hk); (try clear hi); (try clear hgw)) | (go_at_call 12; (with_reducible refine (idle_Idle_Late.calls g222 t231 t232 t233 t234 t235 (wrap64 (x6_2 + ((1 + (Int.tmod a0 5000)) % 4294967296))) true t237 t238 t239 t240 t241 w _ ?side1 ?side2 A13.out).mono ?_); (case side1 => repeat (first | (with_reducible first | exact HI222.out | apply IsS43.alloc | apply IsS43.drewN | apply IsS43.drew | apply IsS43.set_0 | apply IsS43.set_1 | apply IsS43.set_2 | apply IsS43.set_3 | apply IsS43.set_4) | exact HI222.out)); (case side2 => repeat (first | (with_reducible first | exact HB.out | apply below_alloc | apply pw_below_drewN | apply below_drew1 | refine below_set ?_ (IsS43.ge HI222.out)) | exact HB.out)); rintro e w20 ⟨rfl, hi, hb, hk⟩; have n0_ := Aside0.mk (hb); have n1_ := Aside0.mk (hi); clear HB; clear HI222; have HB := n0_; have HI222 := n1_; clear n0_ n1_; (try clear hb); (try clear hb2); (try clear hk); (try clear hi); (try clear hgw)) | (go_at_call 12; (with_reducible refine (idle_Idle_Late.calls g222 t237 t238 t239 t240 t241 (wrap64 ((wrap64 (x6_2 + ((1 + (Int.tmod a0 5000)) % 4294967296))) + 1000)) true t243 t244 t245 t246 t247 w _ ?side1 ?side2 A15.out).mono ?_); (case side1 => repeat (first | (with_reducible first | exact HI222.out | apply IsS43.alloc | apply IsS43.drewN | apply IsS43.drew | apply IsS43.set_0 | apply IsS43.set_1 | apply IsS43.set_2 | apply IsS43.set_3 | apply IsS43.set_4) | exact HI222.out)); (case side2 => repeat (first | (with_reducible first | exact HB.out | apply below_alloc | apply pw_below_drewN | apply below_drew1 | refine below_set ?_ (IsS43.ge HI222.out)) | exact HB.out)); rintro e w21 ⟨rfl, hi, hb, hk⟩; have n0_ := Aside0.mk (hb); have n1_ := Aside0.mk (hi); clear HB; clear HI222; have HB := n0_; have HI222 := n1_; clear n0_ n1_; (try clear hb); (try clear hb2); (try clear hk); (try clear hi); (try clear hgw)) | (go_at_call 9; (with_reducible refine (idle_Idle_Due.calls g222 t243 t244 t245 t246 t247 (wrap64 ((wrap64 (x6_2 + ((1 + (Int.tmod a0 5000)) % 4294967296))) + 1000)) true t249 t250 t251 t252 t253 w _ ?side1 ?side2 A17.out).mono ?_); (case side1 => repeat (first | (with_reducible first | exact HI222.out | apply IsS43.alloc | apply IsS43.drewN | apply IsS43.drew | apply IsS43.set_0 | apply IsS43.set_1 | apply IsS43.set_2 | apply IsS43.set_3 | apply IsS43.set_4) | exact HI222.out)); (case side2 => repeat (first | (with_reducible first | exact HB.out | apply below_alloc | apply pw_below_drewN | apply below_drew1 | refine below_set ?_ (IsS43.ge HI222.out)) | exact HB.out)); rintro e w22 ⟨rfl, hi, hb, hk⟩; have n0_ := Aside0.mk (hb); have n1_ := Aside0.mk (hi); clear HB; clear HI222; have HB := n0_; have HI222 := n1_; clear n0_ n1_; (try clear hb); (try clear hb2); (try clear hk); (try clear hi); (try clear hgw)))
                go_meet
                case rel => exact ⟨_, (true), (t249), (t250), (t251), (t252), (t253), (by first | rfl | (simp; done) | (simp [*]; done)), H', ⟨by have := HJ2.out; first | omega | exact Nat.le_refl _⟩, ⟨by repeat (first | (with_reducible first | exact HI222.out | apply IsS43.alloc | apply IsS43.drewN | apply IsS43.drew | apply IsS43.set_0 | apply IsS43.set_1 | apply IsS43.set_2 | apply IsS43.set_3 | apply IsS43.set_4) | exact HI222.out)⟩, ⟨by repeat (first | (with_reducible first | exact HB.out | apply below_alloc | apply pw_below_drewN | apply below_drew1 | refine below_set ?_ (IsS43.ge HI222.out)) | exact HB.out)⟩⟩
              · replace c18 := Bool.eq_false_iff.mpr c18
                subst c18
                have H1 : (if t223 = (wrap64 (x6_2 + ((1 + (Int.tmod a0 5000)) % 4294967296))) then (lw14_IdleSilent.j1 kj2 ((1 + (Int.tmod a0 5000)) % 4294967296) x6_2 (!t224) t249 t250 t251 t252 t253) else (lw14_IdleSilent.j1 kj2 ((1 + (Int.tmod a0 5000)) % 4294967296) x6_2 true t249 t250 t251 t252 t253)) = some r := by rw [if_neg (show ¬ (false = true) by decide)] at H; exact H
                clear H
                have H := H1
                clear H1
                by_cases c23 : t223 = (wrap64 (x6_2 + ((1 + (Int.tmod a0 5000)) % 4294967296)))
                · rw [if_pos c23] at H
                  have c23b0 : (t223 == (wrap64 (x6_2 + ((1 + (Int.tmod a0 5000)) % 4294967296)))) = true := beq_iff_eq.mpr c23
                  have c23b1 : (t223 != (wrap64 (x6_2 + ((1 + (Int.tmod a0 5000)) % 4294967296)))) = false := bne_eq_false_iff_eq.mpr c23
                  clear c23
                  (first | rw [c23b0] | (simp only [i64_w, i32_w]; rw [c23b0]) | skip)
                  have H' := Aside0.mk H
                  clear H
                  go_wp2_with (first | ((with_reducible refine gate_callee (f := 12) rfl ?_); refine goesL_ (some 34) rfl rfl Try.func12 (by kernel_rfl) rfl #[.pointer (some ⟨g222, 0, none⟩), .int .i64 (wrap64 ((wrap64 (x6_2 + ((1 + (Int.tmod a0 5000)) % 4294967296))) - 1))] rfl (by (try simp only [List.map_toArray, List.map_cons, List.map_nil]); first | done | rfl | (simp only [List.length_drop, List.length_take]; rfl)) ?_; (with_reducible refine (idle_Idle_Late.calls g222 t225 t226 t227 t228 t229 (wrap64 ((wrap64 (x6_2 + ((1 + (Int.tmod a0 5000)) % 4294967296))) - 1)) false t231 t232 t233 t234 t235 w _ ?side1 ?side2 A10.out).mono ?_); (case side1 => repeat (first | (with_reducible first | exact HI222.out | apply IsS43.alloc | apply IsS43.drewN | apply IsS43.drew | apply IsS43.set_0 | apply IsS43.set_1 | apply IsS43.set_2 | apply IsS43.set_3 | apply IsS43.set_4) | exact HI222.out)); (case side2 => repeat (first | (with_reducible first | exact HB.out | apply below_alloc | apply pw_below_drewN | apply below_drew1 | refine below_set ?_ (IsS43.ge HI222.out)) | exact HB.out)); rintro e w24 ⟨rfl, hi, hb, hk⟩; refine ⟨_, rfl, ?_⟩; have n0_ := Aside0.mk (hb); have n1_ := Aside0.mk (hi); clear HB; clear HI222; have HB := n0_; have HI222 := n1_; clear n0_ n1_; (try clear hb); (try clear hb2); (try clear hk); (try clear hi); (try clear hgw)) | (go_at_call 12; (with_reducible refine (idle_Idle_Late.calls g222 t231 t232 t233 t234 t235 (wrap64 (x6_2 + ((1 + (Int.tmod a0 5000)) % 4294967296))) true t237 t238 t239 t240 t241 w _ ?side1 ?side2 A13.out).mono ?_); (case side1 => repeat (first | (with_reducible first | exact HI222.out | apply IsS43.alloc | apply IsS43.drewN | apply IsS43.drew | apply IsS43.set_0 | apply IsS43.set_1 | apply IsS43.set_2 | apply IsS43.set_3 | apply IsS43.set_4) | exact HI222.out)); (case side2 => repeat (first | (with_reducible first | exact HB.out | apply below_alloc | apply pw_below_drewN | apply below_drew1 | refine below_set ?_ (IsS43.ge HI222.out)) | exact HB.out)); rintro e w25 ⟨rfl, hi, hb, hk⟩; have n0_ := Aside0.mk (hb); have n1_ := Aside0.mk (hi); clear HB; clear HI222; have HB := n0_; have HI222 := n1_; clear n0_ n1_; (try clear hb); (try clear hb2); (try clear hk); (try clear hi); (try clear hgw)) | (go_at_call 12; (with_reducible refine (idle_Idle_Late.calls g222 t237 t238 t239 t240 t241 (wrap64 ((wrap64 (x6_2 + ((1 + (Int.tmod a0 5000)) % 4294967296))) + 1000)) true t243 t244 t245 t246 t247 w _ ?side1 ?side2 A15.out).mono ?_); (case side1 => repeat (first | (with_reducible first | exact HI222.out | apply IsS43.alloc | apply IsS43.drewN | apply IsS43.drew | apply IsS43.set_0 | apply IsS43.set_1 | apply IsS43.set_2 | apply IsS43.set_3 | apply IsS43.set_4) | exact HI222.out)); (case side2 => repeat (first | (with_reducible first | exact HB.out | apply below_alloc | apply pw_below_drewN | apply below_drew1 | refine below_set ?_ (IsS43.ge HI222.out)) | exact HB.out)); rintro e w26 ⟨rfl, hi, hb, hk⟩; have n0_ := Aside0.mk (hb); have n1_ := Aside0.mk (hi); clear HB; clear HI222; have HB := n0_; have HI222 := n1_; clear n0_ n1_; (try clear hb); (try clear hb2); (try clear hk); (try clear hi); (try clear hgw)) | (go_at_call 9; (with_reducible refine (idle_Idle_Due.calls g222 t243 t244 t245 t246 t247 (wrap64 ((wrap64 (x6_2 + ((1 + (Int.tmod a0 5000)) % 4294967296))) + 1000)) false t249 t250 t251 t252 t253 w _ ?side1 ?side2 A17.out).mono ?_); (case side1 => repeat (first | (with_reducible first | exact HI222.out | apply IsS43.alloc | apply IsS43.drewN | apply IsS43.drew | apply IsS43.set_0 | apply IsS43.set_1 | apply IsS43.set_2 | apply IsS43.set_3 | apply IsS43.set_4) | exact HI222.out)); (case side2 => repeat (first | (with_reducible first | exact HB.out | apply below_alloc | apply pw_below_drewN | apply below_drew1 | refine below_set ?_ (IsS43.ge HI222.out)) | exact HB.out)); rintro e w27 ⟨rfl, hi, hb, hk⟩; have n0_ := Aside0.mk (hb); have n1_ := Aside0.mk (hi); clear HB; clear HI222; have HB := n0_; have HI222 := n1_; clear n0_ n1_; (try clear hb); (try clear hb2); (try clear hk); (try clear hi); (try clear hgw)))
                  go_meet
                  case rel => exact ⟨_, (!t224), (t249), (t250), (t251), (t252), (t253), (by first | rfl | (simp; done) | (simp [*]; done)), H', ⟨by have := HJ2.out; first | omega | exact Nat.le_refl _⟩, ⟨by repeat (first | (with_reducible first | exact HI222.out | apply IsS43.alloc | apply IsS43.drewN | apply IsS43.drew | apply IsS43.set_0 | apply IsS43.set_1 | apply IsS43.set_2 | apply IsS43.set_3 | apply IsS43.set_4) | exact HI222.out)⟩, ⟨by repeat (first | (with_reducible first | exact HB.out | apply below_alloc | apply pw_below_drewN | apply below_drew1 | refine below_set ?_ (IsS43.ge HI222.out)) | exact HB.out)⟩⟩
                · rw [if_neg c23] at H
                  have c23b0 : (t223 == (wrap64 (x6_2 + ((1 + (Int.tmod a0 5000)) % 4294967296)))) = false := beq_eq_false_iff_ne.mpr c23
                  have c23b1 : (t223 != (wrap64 (x6_2 + ((1 + (Int.tmod a0 5000)) % 4294967296)))) = true := bne_iff_ne.mpr c23
                  (first | rw [c23b0] | (simp only [i64_w, i32_w]; rw [c23b0]) | skip)
                  have H' := Aside0.mk H
                  clear H
                  go_wp2_with (first | ((with_reducible refine gate_callee (f := 12) rfl ?_); refine goesL_ (some 34) rfl rfl Try.func12 (by kernel_rfl) rfl #[.pointer (some ⟨g222, 0, none⟩), .int .i64 (wrap64 ((wrap64 (x6_2 + ((1 + (Int.tmod a0 5000)) % 4294967296))) - 1))] rfl (by (try simp only [List.map_toArray, List.map_cons, List.map_nil]); first | done | rfl | (simp only [List.length_drop, List.length_take]; rfl)) ?_; (with_reducible refine (idle_Idle_Late.calls g222 t225 t226 t227 t228 t229 (wrap64 ((wrap64 (x6_2 + ((1 + (Int.tmod a0 5000)) % 4294967296))) - 1)) false t231 t232 t233 t234 t235 w _ ?side1 ?side2 A10.out).mono ?_); (case side1 => repeat (first | (with_reducible first | exact HI222.out | apply IsS43.alloc | apply IsS43.drewN | apply IsS43.drew | apply IsS43.set_0 | apply IsS43.set_1 | apply IsS43.set_2 | apply IsS43.set_3 | apply IsS43.set_4) | exact HI222.out)); (case side2 => repeat (first | (with_reducible first | exact HB.out | apply below_alloc | apply pw_below_drewN | apply below_drew1 | refine below_set ?_ (IsS43.ge HI222.out)) | exact HB.out)); rintro e w28 ⟨rfl, hi, hb, hk⟩; refine ⟨_, rfl, ?_⟩; have n0_ := Aside0.mk (hb); have n1_ := Aside0.mk (hi); clear HB; clear HI222; have HB := n0_; have HI222 := n1_; clear n0_ n1_; (try clear hb); (try clear hb2); (try clear hk); (try clear hi); (try clear hgw)) | (go_at_call 12; (with_reducible refine (idle_Idle_Late.calls g222 t231 t232 t233 t234 t235 (wrap64 (x6_2 + ((1 + (Int.tmod a0 5000)) % 4294967296))) true t237 t238 t239 t240 t241 w _ ?side1 ?side2 A13.out).mono ?_); (case side1 => repeat (first | (with_reducible first | exact HI222.out | apply IsS43.alloc | apply IsS43.drewN | apply IsS43.drew | apply IsS43.set_0 | apply IsS43.set_1 | apply IsS43.set_2 | apply IsS43.set_3 | apply IsS43.set_4) | exact HI222.out)); (case side2 => repeat (first | (with_reducible first | exact HB.out | apply below_alloc | apply pw_below_drewN | apply below_drew1 | refine below_set ?_ (IsS43.ge HI222.out)) | exact HB.out)); rintro e w29 ⟨rfl, hi, hb, hk⟩; have n0_ := Aside0.mk (hb); have n1_ := Aside0.mk (hi); clear HB; clear HI222; have HB := n0_; have HI222 := n1_; clear n0_ n1_; (try clear hb); (try clear hb2); (try clear hk); (try clear hi); (try clear hgw)) | (go_at_call 12; (with_reducible refine (idle_Idle_Late.calls g222 t237 t238 t239 t240 t241 (wrap64 ((wrap64 (x6_2 + ((1 + (Int.tmod a0 5000)) % 4294967296))) + 1000)) true t243 t244 t245 t246 t247 w _ ?side1 ?side2 A15.out).mono ?_); (case side1 => repeat (first | (with_reducible first | exact HI222.out | apply IsS43.alloc | apply IsS43.drewN | apply IsS43.drew | apply IsS43.set_0 | apply IsS43.set_1 | apply IsS43.set_2 | apply IsS43.set_3 | apply IsS43.set_4) | exact HI222.out)); (case side2 => repeat (first | (with_reducible first | exact HB.out | apply below_alloc | apply pw_below_drewN | apply below_drew1 | refine below_set ?_ (IsS43.ge HI222.out)) | exact HB.out)); rintro e w30 ⟨rfl, hi, hb, hk⟩; have n0_ := Aside0.mk (hb); have n1_ := Aside0.mk (hi); clear HB; clear HI222; have HB := n0_; have HI222 := n1_; clear n0_ n1_; (try clear hb); (try clear hb2); (try clear hk); (try clear hi); (try clear hgw)) | (go_at_call 9; (with_reducible refine (idle_Idle_Due.calls g222 t243 t244 t245 t246 t247 (wrap64 ((wrap64 (x6_2 + ((1 + (Int.tmod a0 5000)) % 4294967296))) + 1000)) false t249 t250 t251 t252 t253 w _ ?side1 ?side2 A17.out).mono ?_); (case side1 => repeat (first | (with_reducible first | exact HI222.out | apply IsS43.alloc | apply IsS43.drewN | apply IsS43.drew | apply IsS43.set_0 | apply IsS43.set_1 | apply IsS43.set_2 | apply IsS43.set_3 | apply IsS43.set_4) | exact HI222.out)); (case side2 => repeat (first | (with_reducible first | exact HB.out | apply below_alloc | apply pw_below_drewN | apply below_drew1 | refine below_set ?_ (IsS43.ge HI222.out)) | exact HB.out)); rintro e w31 ⟨rfl, hi, hb, hk⟩; have n0_ := Aside0.mk (hb); have n1_ := Aside0.mk (hi); clear HB; clear HI222; have HB := n0_; have HI222 := n1_; clear n0_ n1_; (try clear hb); (try clear hb2); (try clear hk); (try clear hi); (try clear hgw)))
                  go_meet
                  case rel => exact ⟨_, (true), (t249), (t250), (t251), (t252), (t253), (by first | rfl | (simp; done) | (simp [*]; done)), H', ⟨by have := HJ2.out; first | omega | exact Nat.le_refl _⟩, ⟨by repeat (first | (with_reducible first | exact HI222.out | apply IsS43.alloc | apply IsS43.drewN | apply IsS43.drew | apply IsS43.set_0 | apply IsS43.set_1 | apply IsS43.set_2 | apply IsS43.set_3 | apply IsS43.set_4) | exact HI222.out)⟩, ⟨by repeat (first | (with_reducible first | exact HB.out | apply below_alloc | apply pw_below_drewN | apply below_drew1 | refine below_set ?_ (IsS43.ge HI222.out)) | exact HB.out)⟩⟩
            · replace c16 := Bool.eq_false_iff.mpr c16
              subst c16
              have H1 : (lw14_IdleSilent.j1 kj2 ((1 + (Int.tmod a0 5000)) % 4294967296) x6_2 true t243 t244 t245 t246 t247) = some r := by rw [if_neg (show ¬ (false = true) by decide)] at H; exact H
              clear H
              have H := H1
              clear H1
              have H' := Aside0.mk H
              clear H
              go_wp2_with (first | ((with_reducible refine gate_callee (f := 12) rfl ?_); refine goesL_ (some 34) rfl rfl Try.func12 (by kernel_rfl) rfl #[.pointer (some ⟨g222, 0, none⟩), .int .i64 (wrap64 ((wrap64 (x6_2 + ((1 + (Int.tmod a0 5000)) % 4294967296))) - 1))] rfl (by (try simp only [List.map_toArray, List.map_cons, List.map_nil]); first | done | rfl | (simp only [List.length_drop, List.length_take]; rfl)) ?_; (with_reducible refine (idle_Idle_Late.calls g222 t225 t226 t227 t228 t229 (wrap64 ((wrap64 (x6_2 + ((1 + (Int.tmod a0 5000)) % 4294967296))) - 1)) false t231 t232 t233 t234 t235 w _ ?side1 ?side2 A10.out).mono ?_); (case side1 => repeat (first | (with_reducible first | exact HI222.out | apply IsS43.alloc | apply IsS43.drewN | apply IsS43.drew | apply IsS43.set_0 | apply IsS43.set_1 | apply IsS43.set_2 | apply IsS43.set_3 | apply IsS43.set_4) | exact HI222.out)); (case side2 => repeat (first | (with_reducible first | exact HB.out | apply below_alloc | apply pw_below_drewN | apply below_drew1 | refine below_set ?_ (IsS43.ge HI222.out)) | exact HB.out)); rintro e w32 ⟨rfl, hi, hb, hk⟩; refine ⟨_, rfl, ?_⟩; have n0_ := Aside0.mk (hb); have n1_ := Aside0.mk (hi); clear HB; clear HI222; have HB := n0_; have HI222 := n1_; clear n0_ n1_; (try clear hb); (try clear hb2); (try clear hk); (try clear hi); (try clear hgw)) | (go_at_call 12; (with_reducible refine (idle_Idle_Late.calls g222 t231 t232 t233 t234 t235 (wrap64 (x6_2 + ((1 + (Int.tmod a0 5000)) % 4294967296))) true t237 t238 t239 t240 t241 w _ ?side1 ?side2 A13.out).mono ?_); (case side1 => repeat (first | (with_reducible first | exact HI222.out | apply IsS43.alloc | apply IsS43.drewN | apply IsS43.drew | apply IsS43.set_0 | apply IsS43.set_1 | apply IsS43.set_2 | apply IsS43.set_3 | apply IsS43.set_4) | exact HI222.out)); (case side2 => repeat (first | (with_reducible first | exact HB.out | apply below_alloc | apply pw_below_drewN | apply below_drew1 | refine below_set ?_ (IsS43.ge HI222.out)) | exact HB.out)); rintro e w33 ⟨rfl, hi, hb, hk⟩; have n0_ := Aside0.mk (hb); have n1_ := Aside0.mk (hi); clear HB; clear HI222; have HB := n0_; have HI222 := n1_; clear n0_ n1_; (try clear hb); (try clear hb2); (try clear hk); (try clear hi); (try clear hgw)) | (go_at_call 12; (with_reducible refine (idle_Idle_Late.calls g222 t237 t238 t239 t240 t241 (wrap64 ((wrap64 (x6_2 + ((1 + (Int.tmod a0 5000)) % 4294967296))) + 1000)) false t243 t244 t245 t246 t247 w _ ?side1 ?side2 A15.out).mono ?_); (case side1 => repeat (first | (with_reducible first | exact HI222.out | apply IsS43.alloc | apply IsS43.drewN | apply IsS43.drew | apply IsS43.set_0 | apply IsS43.set_1 | apply IsS43.set_2 | apply IsS43.set_3 | apply IsS43.set_4) | exact HI222.out)); (case side2 => repeat (first | (with_reducible first | exact HB.out | apply below_alloc | apply pw_below_drewN | apply below_drew1 | refine below_set ?_ (IsS43.ge HI222.out)) | exact HB.out)); rintro e w34 ⟨rfl, hi, hb, hk⟩; have n0_ := Aside0.mk (hb); have n1_ := Aside0.mk (hi); clear HB; clear HI222; have HB := n0_; have HI222 := n1_; clear n0_ n1_; (try clear hb); (try clear hb2); (try clear hk); (try clear hi); (try clear hgw)))
              go_meet
              case rel => exact ⟨_, (true), (t243), (t244), (t245), (t246), (t247), (by first | rfl | (simp; done) | (simp [*]; done)), H', ⟨by have := HJ2.out; first | omega | exact Nat.le_refl _⟩, ⟨by repeat (first | (with_reducible first | exact HI222.out | apply IsS43.alloc | apply IsS43.drewN | apply IsS43.drew | apply IsS43.set_0 | apply IsS43.set_1 | apply IsS43.set_2 | apply IsS43.set_3 | apply IsS43.set_4) | exact HI222.out)⟩, ⟨by repeat (first | (with_reducible first | exact HB.out | apply below_alloc | apply pw_below_drewN | apply below_drew1 | refine below_set ?_ (IsS43.ge HI222.out)) | exact HB.out)⟩⟩
          · replace c14 := Bool.eq_false_iff.mpr c14
            subst c14
            have H1 : (lw14_IdleSilent.j1 kj2 ((1 + (Int.tmod a0 5000)) % 4294967296) x6_2 true t237 t238 t239 t240 t241) = some r := by rw [if_neg (show ¬ (false = true) by decide)] at H; exact H
            clear H
            have H := H1
            clear H1
            have H' := Aside0.mk H
            clear H
            go_wp2_with (first | ((with_reducible refine gate_callee (f := 12) rfl ?_); refine goesL_ (some 34) rfl rfl Try.func12 (by kernel_rfl) rfl #[.pointer (some ⟨g222, 0, none⟩), .int .i64 (wrap64 ((wrap64 (x6_2 + ((1 + (Int.tmod a0 5000)) % 4294967296))) - 1))] rfl (by (try simp only [List.map_toArray, List.map_cons, List.map_nil]); first | done | rfl | (simp only [List.length_drop, List.length_take]; rfl)) ?_; (with_reducible refine (idle_Idle_Late.calls g222 t225 t226 t227 t228 t229 (wrap64 ((wrap64 (x6_2 + ((1 + (Int.tmod a0 5000)) % 4294967296))) - 1)) false t231 t232 t233 t234 t235 w _ ?side1 ?side2 A10.out).mono ?_); (case side1 => repeat (first | (with_reducible first | exact HI222.out | apply IsS43.alloc | apply IsS43.drewN | apply IsS43.drew | apply IsS43.set_0 | apply IsS43.set_1 | apply IsS43.set_2 | apply IsS43.set_3 | apply IsS43.set_4) | exact HI222.out)); (case side2 => repeat (first | (with_reducible first | exact HB.out | apply below_alloc | apply pw_below_drewN | apply below_drew1 | refine below_set ?_ (IsS43.ge HI222.out)) | exact HB.out)); rintro e w35 ⟨rfl, hi, hb, hk⟩; refine ⟨_, rfl, ?_⟩; have n0_ := Aside0.mk (hb); have n1_ := Aside0.mk (hi); clear HB; clear HI222; have HB := n0_; have HI222 := n1_; clear n0_ n1_; (try clear hb); (try clear hb2); (try clear hk); (try clear hi); (try clear hgw)) | (go_at_call 12; (with_reducible refine (idle_Idle_Late.calls g222 t231 t232 t233 t234 t235 (wrap64 (x6_2 + ((1 + (Int.tmod a0 5000)) % 4294967296))) false t237 t238 t239 t240 t241 w _ ?side1 ?side2 A13.out).mono ?_); (case side1 => repeat (first | (with_reducible first | exact HI222.out | apply IsS43.alloc | apply IsS43.drewN | apply IsS43.drew | apply IsS43.set_0 | apply IsS43.set_1 | apply IsS43.set_2 | apply IsS43.set_3 | apply IsS43.set_4) | exact HI222.out)); (case side2 => repeat (first | (with_reducible first | exact HB.out | apply below_alloc | apply pw_below_drewN | apply below_drew1 | refine below_set ?_ (IsS43.ge HI222.out)) | exact HB.out)); rintro e w36 ⟨rfl, hi, hb, hk⟩; have n0_ := Aside0.mk (hb); have n1_ := Aside0.mk (hi); clear HB; clear HI222; have HB := n0_; have HI222 := n1_; clear n0_ n1_; (try clear hb); (try clear hb2); (try clear hk); (try clear hi); (try clear hgw)))
            go_meet
            case rel => exact ⟨_, (true), (t237), (t238), (t239), (t240), (t241), (by first | rfl | (simp; done) | (simp [*]; done)), H', ⟨by have := HJ2.out; first | omega | exact Nat.le_refl _⟩, ⟨by repeat (first | (with_reducible first | exact HI222.out | apply IsS43.alloc | apply IsS43.drewN | apply IsS43.drew | apply IsS43.set_0 | apply IsS43.set_1 | apply IsS43.set_2 | apply IsS43.set_3 | apply IsS43.set_4) | exact HI222.out)⟩, ⟨by repeat (first | (with_reducible first | exact HB.out | apply below_alloc | apply pw_below_drewN | apply below_drew1 | refine below_set ?_ (IsS43.ge HI222.out)) | exact HB.out)⟩⟩
      case rest =>
        clear HC7
        try clear c1
        try clear c2
        try clear p2
        try clear c4
        try clear c4b0
        try clear p6
        try clear c8
        try clear c11
        try clear c12
        try clear c14
        try clear c16
        try clear c18
        try clear c23
        try clear c23b0
        try clear c23b1
        try clear p2
        obtain ⟨kq, x70_6, x223000_6, x223001_6, x223002_6, x223003_6, x223004_6, rfl, HA, HJ6, HI222, HB⟩ := hcut
        cases kq with
        | zero => exact absurd HA.out (by simp [lw14_IdleSilent.j1])
        | succ kj6 =>
          have H := HA.out
          clear HA
          simp only [lw14_IdleSilent.j1] at H
          by_cases c37 : x70_6 = true
          · subst c37
            have H1 : (some false) = some r := by rw [if_pos rfl] at H; exact H
            clear H
            have H := H1
            clear H1
            obtain rfl := Option.some.inj H
            go_wp2
            go_ret
            exact ⟨by first | rfl | (simp [errW_none, errW_some] <;> rfl) | (simp [*, errW_none, errW_some] <;> rfl), by repeat (first | (with_reducible first | exact HB.out | apply below_alloc | apply pw_below_drewN | apply below_drew1 | refine below_set ?_ (IsS43.ge HI222.out)) | exact HB.out)⟩
          · replace c37 := Bool.eq_false_iff.mpr c37
            subst c37
            have H1 : ((idle_Idle_Got.f x223000_6 x223001_6 x223002_6 x223003_6 x223004_6 (wrap64 ((wrap64 (x6_2 + ((1 + (Int.tmod a0 5000)) % 4294967296))) + 2000))).bind fun bt254 => ((idle_Idle_Late.f bt254.1 bt254.2.1 bt254.2.2.1 bt254.2.2.2.1 bt254.2.2.2.2 (wrap64 ((wrap64 (x6_2 + ((1 + (Int.tmod a0 5000)) % 4294967296))) + 2000))).bind fun bt259 => (if bt259.1 = true then (some false) else ((lw14_works.f kj6).bind fun t265 => (some t265))))) = some r := by rw [if_neg (show ¬ (false = true) by decide)] at H; exact H
            clear H
            have H := H1
            clear H1
            replace H := Option.bind_eq_some_iff.mp H
            obtain ⟨⟨t254, t255, t256, t257, t258⟩, A380, H⟩ := H
            replace H : ((idle_Idle_Late.f t254 t255 t256 t257 t258 (wrap64 ((wrap64 (x6_2 + ((1 + (Int.tmod a0 5000)) % 4294967296))) + 2000))).bind fun bt259 => (if bt259.1 = true then (some false) else ((lw14_works.f kj6).bind fun t265 => (some t265)))) = some r := H
            have A38 := Aside0.mk A380
            clear A380
            replace H := Option.bind_eq_some_iff.mp H
            obtain ⟨⟨t259, t260, t261, t262, t263, t264⟩, A390, H⟩ := H
            replace H : (if t259 = true then (some false) else ((lw14_works.f kj6).bind fun t265 => (some t265))) = some r := H
            have A39 := Aside0.mk A390
            clear A390
            by_cases c40 : t259 = true
            · subst c40
              have H1 : (some false) = some r := by rw [if_pos rfl] at H; exact H
              clear H
              have H := H1
              clear H1
              obtain rfl := Option.some.inj H
              go_wp2_with (first | ((with_reducible refine gate_callee (f := 11) rfl ?_); refine goesL_ (some 76) rfl rfl Try.func11 (by kernel_rfl) rfl #[.pointer (some ⟨g222, 0, none⟩), .int .i64 (wrap64 ((wrap64 (x6_2 + ((1 + (Int.tmod a0 5000)) % 4294967296))) + 2000))] rfl (by (try simp only [List.map_toArray, List.map_cons, List.map_nil]); first | done | rfl | (simp only [List.length_drop, List.length_take]; rfl)) ?_; (with_reducible refine (idle_Idle_Got.calls g222 x223000_6 x223001_6 x223002_6 x223003_6 x223004_6 (wrap64 ((wrap64 (x6_2 + ((1 + (Int.tmod a0 5000)) % 4294967296))) + 2000)) t254 t255 t256 t257 t258 w _ ?side1 ?side2 A38.out).mono ?_); (case side1 => repeat (first | (with_reducible first | exact HI222.out | apply IsS43.alloc | apply IsS43.drewN | apply IsS43.drew | apply IsS43.set_0 | apply IsS43.set_1 | apply IsS43.set_2 | apply IsS43.set_3 | apply IsS43.set_4) | exact HI222.out)); (case side2 => repeat (first | (with_reducible first | exact HB.out | apply below_alloc | apply pw_below_drewN | apply below_drew1 | refine below_set ?_ (IsS43.ge HI222.out)) | exact HB.out)); rintro e w41 ⟨rfl, hi, hb, hk⟩; refine ⟨_, rfl, ?_⟩; have n0_ := Aside0.mk (hb); have n1_ := Aside0.mk (hi); clear HB; clear HI222; have HB := n0_; have HI222 := n1_; clear n0_ n1_; (try clear hb); (try clear hb2); (try clear hk); (try clear hi); (try clear hgw)) | ((with_reducible refine gate_callee (f := 12) rfl ?_); refine goesL_ (some 82) rfl rfl Try.func12 (by kernel_rfl) rfl #[.pointer (some ⟨g222, 0, none⟩), .int .i64 (wrap64 ((wrap64 (x6_2 + ((1 + (Int.tmod a0 5000)) % 4294967296))) + 2000))] rfl (by (try simp only [List.map_toArray, List.map_cons, List.map_nil]); first | done | rfl | (simp only [List.length_drop, List.length_take]; rfl)) ?_; (with_reducible refine (idle_Idle_Late.calls g222 t254 t255 t256 t257 t258 (wrap64 ((wrap64 (x6_2 + ((1 + (Int.tmod a0 5000)) % 4294967296))) + 2000)) true t260 t261 t262 t263 t264 w _ ?side1 ?side2 A39.out).mono ?_); (case side1 => repeat (first | (with_reducible first | exact HI222.out | apply IsS43.alloc | apply IsS43.drewN | apply IsS43.drew | apply IsS43.set_0 | apply IsS43.set_1 | apply IsS43.set_2 | apply IsS43.set_3 | apply IsS43.set_4) | exact HI222.out)); (case side2 => repeat (first | (with_reducible first | exact HB.out | apply below_alloc | apply pw_below_drewN | apply below_drew1 | refine below_set ?_ (IsS43.ge HI222.out)) | exact HB.out)); rintro e w42 ⟨rfl, hi, hb, hk⟩; refine ⟨_, rfl, ?_⟩; have n0_ := Aside0.mk (hb); have n1_ := Aside0.mk (hi); clear HB; clear HI222; have HB := n0_; have HI222 := n1_; clear n0_ n1_; (try clear hb); (try clear hb2); (try clear hk); (try clear hi); (try clear hgw)))
              go_ret
              exact ⟨by first | rfl | (simp [errW_none, errW_some] <;> rfl) | (simp [*, errW_none, errW_some] <;> rfl), by repeat (first | (with_reducible first | exact HB.out | apply below_alloc | apply pw_below_drewN | apply below_drew1 | refine below_set ?_ (IsS43.ge HI222.out)) | exact HB.out)⟩
            · replace c40 := Bool.eq_false_iff.mpr c40
              subst c40
              have H1 : ((lw14_works.f kj6).bind fun t265 => (some t265)) = some r := by rw [if_neg (show ¬ (false = true) by decide)] at H; exact H
              clear H
              have H := H1
              clear H1
              replace H := Option.bind_eq_some_iff.mp H
              obtain ⟨t265, A430, H⟩ := H
              replace H : (some t265) = some r := H
              have A43 := Aside0.mk A430
              clear A430
              obtain rfl := Option.some.inj H
              go_wp2_with (first | ((with_reducible refine gate_callee (f := 11) rfl ?_); refine goesL_ (some 76) rfl rfl Try.func11 (by kernel_rfl) rfl #[.pointer (some ⟨g222, 0, none⟩), .int .i64 (wrap64 ((wrap64 (x6_2 + ((1 + (Int.tmod a0 5000)) % 4294967296))) + 2000))] rfl (by (try simp only [List.map_toArray, List.map_cons, List.map_nil]); first | done | rfl | (simp only [List.length_drop, List.length_take]; rfl)) ?_; (with_reducible refine (idle_Idle_Got.calls g222 x223000_6 x223001_6 x223002_6 x223003_6 x223004_6 (wrap64 ((wrap64 (x6_2 + ((1 + (Int.tmod a0 5000)) % 4294967296))) + 2000)) t254 t255 t256 t257 t258 w _ ?side1 ?side2 A38.out).mono ?_); (case side1 => repeat (first | (with_reducible first | exact HI222.out | apply IsS43.alloc | apply IsS43.drewN | apply IsS43.drew | apply IsS43.set_0 | apply IsS43.set_1 | apply IsS43.set_2 | apply IsS43.set_3 | apply IsS43.set_4) | exact HI222.out)); (case side2 => repeat (first | (with_reducible first | exact HB.out | apply below_alloc | apply pw_below_drewN | apply below_drew1 | refine below_set ?_ (IsS43.ge HI222.out)) | exact HB.out)); rintro e w44 ⟨rfl, hi, hb, hk⟩; refine ⟨_, rfl, ?_⟩; have n0_ := Aside0.mk (hb); have n1_ := Aside0.mk (hi); clear HB; clear HI222; have HB := n0_; have HI222 := n1_; clear n0_ n1_; (try clear hb); (try clear hb2); (try clear hk); (try clear hi); (try clear hgw)) | ((with_reducible refine gate_callee (f := 12) rfl ?_); refine goesL_ (some 82) rfl rfl Try.func12 (by kernel_rfl) rfl #[.pointer (some ⟨g222, 0, none⟩), .int .i64 (wrap64 ((wrap64 (x6_2 + ((1 + (Int.tmod a0 5000)) % 4294967296))) + 2000))] rfl (by (try simp only [List.map_toArray, List.map_cons, List.map_nil]); first | done | rfl | (simp only [List.length_drop, List.length_take]; rfl)) ?_; (with_reducible refine (idle_Idle_Late.calls g222 t254 t255 t256 t257 t258 (wrap64 ((wrap64 (x6_2 + ((1 + (Int.tmod a0 5000)) % 4294967296))) + 2000)) false t260 t261 t262 t263 t264 w _ ?side1 ?side2 A39.out).mono ?_); (case side1 => repeat (first | (with_reducible first | exact HI222.out | apply IsS43.alloc | apply IsS43.drewN | apply IsS43.drew | apply IsS43.set_0 | apply IsS43.set_1 | apply IsS43.set_2 | apply IsS43.set_3 | apply IsS43.set_4) | exact HI222.out)); (case side2 => repeat (first | (with_reducible first | exact HB.out | apply below_alloc | apply pw_below_drewN | apply below_drew1 | refine below_set ?_ (IsS43.ge HI222.out)) | exact HB.out)); rintro e w45 ⟨rfl, hi, hb, hk⟩; refine ⟨_, rfl, ?_⟩; have n0_ := Aside0.mk (hb); have n1_ := Aside0.mk (hi); clear HB; clear HI222; have HB := n0_; have HI222 := n1_; clear n0_ n1_; (try clear hb); (try clear hb2); (try clear hk); (try clear hi); (try clear hgw)) | (go_at_call 13; (with_reducible refine (lw14_works.calls kj6  t265 _ A43.out).mono ?_); rintro e w46 ⟨rfl, hb⟩; have n0_ := Aside0.mk (IsS43.below (by repeat (first | (with_reducible first | exact HI222.out | apply IsS43.alloc | apply IsS43.drewN | apply IsS43.drew | apply IsS43.set_0 | apply IsS43.set_1 | apply IsS43.set_2 | apply IsS43.set_3 | apply IsS43.set_4) | exact HI222.out)) hb); have n1_ := Aside0.mk (below_step (by repeat (first | (with_reducible first | exact HB.out | apply below_alloc | apply pw_below_drewN | apply below_drew1 | refine below_set ?_ (IsS43.ge HI222.out)) | exact HB.out)) hb); clear HI222; clear HB; have HI222 := n0_; have HB := n1_; clear n0_ n1_; (try clear hb); (try clear hb2); (try clear hk); (try clear hi); (try clear hgw)))
              go_ret
              exact ⟨by first | rfl | (simp [errW_none, errW_some] <;> rfl) | (simp [*, errW_none, errW_some] <;> rfl), by repeat (first | (with_reducible first | exact HB.out | apply below_alloc | apply pw_below_drewN | apply below_drew1 | refine below_set ?_ (IsS43.ge HI222.out)) | exact HB.out)⟩

/-- THE ONE PURE STATEMENT of lw14_IdleSilent: yours. -/
def lw14_IdleSilent.Pure : Prop := ∀ (a0 : Int) (a1 : Int), (Lit.int .u32 a0).wf = true → (Lit.int .i64 a1).wf = true → ∃ k, lw14_IdleSilent.f k a0 a1 = some true
theorem lw14_IdleSilent.walk (P : lw14_IdleSilent.Pure) (a0 : Int) (a1 : Int) (w : World) (w0 : (Lit.int .u32 a0).wf = true) (w1 : (Lit.int .i64 a1).wf = true) :
    Calls Try.prog 4 #[.int .u32 a0, .int .i64 a1] w fun e w' => e = .returned (.bool true) ∧ Below w.heap.size w w' := by
  obtain ⟨k, h⟩ := P a0 a1 w0 w1
  refine (lw14_IdleSilent.calls k a0 a1 true w h).mono ?_
  rintro e w' ⟨rfl, hd⟩
  exact ⟨rfl, hd⟩

end Go.Proofs.Ytfnoldogodfinaa.PIdleSilent
