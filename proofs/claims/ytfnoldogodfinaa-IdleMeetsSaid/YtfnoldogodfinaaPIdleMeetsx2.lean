/- Written by a program of this session (a turned copy of the print; not the kit's own print): the walks of the functions that one law reaches, or that law's row; the plain law stands in the Pure text; no condition of our own. -/
import Derived.Test.YtfnoldogodfinaaPIdleMeetsx0
import Derived.Test.YtfnoldogodfinaaPIdleMeetsx1
namespace Go.Proofs.Ytfnoldogodfinaa.PIdleMeets
open Go.RowKit Go.Proofs.YtfnoldogodfinaaW.PrintWords Go.Proofs.YtfnoldogodfinaaW.PrintLast Go.Proofs.YtfnoldogodfinaaW.PrintMore
attribute [local go_sem] max2_int min2_int max_two min_two max_three min_three max_four min_four   -- for this text's walks alone
set_option linter.unusedVariables false
set_option linter.unusedSimpArgs false

/-! ### lw14_IdleMeets: function 3 -/
mutual
def lw14_IdleMeets.j0 : Nat → Int → Int → Int → Int → Option (Bool)
  | 0, _, _, _, _ => none
  | k + 1, x3, x9, x10, x11 => (idle_New.f x9 x10 x11).bind fun bt217 => ((idle_New.f x10 x9 x11).bind fun bt223 => (lw14_IdleMeets.l0 k x3 x11 1 bt217.1 bt217.2.1 bt217.2.2.1 bt217.2.2.2.1 bt217.2.2.2.2 bt223.1 bt223.2.1 bt223.2.2.1 bt223.2.2.2.1 bt223.2.2.2.2))
def lw14_IdleMeets.l0 : Nat → Int → Int → Int → Int → Int → Int → Int → Int → Int → Int → Int → Int → Int → Option (Bool)
  | 0, _, _, _, _, _, _, _, _, _, _, _, _, _ => none
  | k + 1, x3, x11, x14, x223000, x223001, x223002, x223003, x223004, x229000, x229001, x229002, x229003, x229004 => if x14 ≤ (wrap64 (Int.tmod x3 500)) then ((idle_Idle_Due.f x223000 x223001 x223002 x223003 x223004 (wrap64 (x11 + x14))).bind fun bt230 => (if bt230.1 = true then ((idle_Idle_Sent.f bt230.2.1 bt230.2.2.1 bt230.2.2.2.1 bt230.2.2.2.2.1 bt230.2.2.2.2.2 (wrap64 (x11 + x14))).bind fun bt236 => ((idle_Idle_Got.f x229000 x229001 x229002 x229003 x229004 (wrap64 (x11 + x14))).bind fun bt241 => (lw14_IdleMeets.j2 k x3 x11 x14 bt236.1 bt236.2.1 bt236.2.2.1 bt236.2.2.2.1 bt236.2.2.2.2 bt241.1 bt241.2.1 bt241.2.2.1 bt241.2.2.2.1 bt241.2.2.2.2))) else (lw14_IdleMeets.j2 k x3 x11 x14 bt230.2.1 bt230.2.2.1 bt230.2.2.2.1 bt230.2.2.2.2.1 bt230.2.2.2.2.2 x229000 x229001 x229002 x229003 x229004))) else ((lw14_works.f k).bind fun t229 => (some t229))
def lw14_IdleMeets.j2 : Nat → Int → Int → Int → Int → Int → Int → Int → Int → Int → Int → Int → Int → Int → Option (Bool)
  | 0, _, _, _, _, _, _, _, _, _, _, _, _, _ => none
  | k + 1, x3, x11, x14, x223000, x223001, x223002, x223003, x223004, x229000, x229001, x229002, x229003, x229004 => (idle_Idle_Due.f x229000 x229001 x229002 x229003 x229004 (wrap64 (x11 + x14))).bind fun bt246 => (if bt246.1 = true then ((idle_Idle_Sent.f bt246.2.1 bt246.2.2.1 bt246.2.2.2.1 bt246.2.2.2.2.1 bt246.2.2.2.2.2 (wrap64 (x11 + x14))).bind fun bt252 => ((idle_Idle_Got.f x223000 x223001 x223002 x223003 x223004 (wrap64 (x11 + x14))).bind fun bt257 => (lw14_IdleMeets.j3 k x3 x11 x14 bt257.1 bt257.2.1 bt257.2.2.1 bt257.2.2.2.1 bt257.2.2.2.2 bt252.1 bt252.2.1 bt252.2.2.1 bt252.2.2.2.1 bt252.2.2.2.2))) else (lw14_IdleMeets.j3 k x3 x11 x14 x223000 x223001 x223002 x223003 x223004 bt246.2.1 bt246.2.2.1 bt246.2.2.2.1 bt246.2.2.2.2.1 bt246.2.2.2.2.2))
def lw14_IdleMeets.j3 : Nat → Int → Int → Int → Int → Int → Int → Int → Int → Int → Int → Int → Int → Int → Option (Bool)
  | 0, _, _, _, _, _, _, _, _, _, _, _, _, _ => none
  | k + 1, x3, x11, x14, x223000, x223001, x223002, x223003, x223004, x229000, x229001, x229002, x229003, x229004 => (idle_Idle_Late.f x223000 x223001 x223002 x223003 x223004 (wrap64 (x11 + x14))).bind fun bt262 => (if bt262.1 = true then (some false) else ((idle_Idle_Late.f x229000 x229001 x229002 x229003 x229004 (wrap64 (x11 + x14))).bind fun bt268 => (if bt268.1 = true then (some false) else (lw14_IdleMeets.l0 k x3 x11 (wrap64 (x14 + 1)) bt262.2.1 bt262.2.2.1 bt262.2.2.2.1 bt262.2.2.2.2.1 bt262.2.2.2.2.2 bt268.2.1 bt268.2.2.1 bt268.2.2.2.1 bt268.2.2.2.2.1 bt268.2.2.2.2.2))))
end
def lw14_IdleMeets.f (k : Nat) (a0 : Int) (a1 : Int) (a2 : Int) (a3 : Int) : Option (Bool) := if (Int.tmod a2 1099511627776) < 0 then (lw14_IdleMeets.j0 k a3 ((2 + (Int.tmod a0 1000)) % 4294967296) ((2 + (Int.tmod a1 1000)) % 4294967296) (wrap64 (-(Int.tmod a2 1099511627776)))) else (lw14_IdleMeets.j0 k a3 ((2 + (Int.tmod a0 1000)) % 4294967296) ((2 + (Int.tmod a1 1000)) % 4294967296) (Int.tmod a2 1099511627776))
theorem lw14_IdleMeets.mono_l : ∀ k, (∀ y0 y1 y2 y3, LeO (lw14_IdleMeets.j0 k y0 y1 y2 y3) (lw14_IdleMeets.j0 (k + 1) y0 y1 y2 y3)) ∧ (∀ y0 y1 y2 y3 y4 y5 y6 y7 y8 y9 y10 y11 y12, LeO (lw14_IdleMeets.l0 k y0 y1 y2 y3 y4 y5 y6 y7 y8 y9 y10 y11 y12) (lw14_IdleMeets.l0 (k + 1) y0 y1 y2 y3 y4 y5 y6 y7 y8 y9 y10 y11 y12)) ∧ (∀ y0 y1 y2 y3 y4 y5 y6 y7 y8 y9 y10 y11 y12, LeO (lw14_IdleMeets.j2 k y0 y1 y2 y3 y4 y5 y6 y7 y8 y9 y10 y11 y12) (lw14_IdleMeets.j2 (k + 1) y0 y1 y2 y3 y4 y5 y6 y7 y8 y9 y10 y11 y12)) ∧ (∀ y0 y1 y2 y3 y4 y5 y6 y7 y8 y9 y10 y11 y12, LeO (lw14_IdleMeets.j3 k y0 y1 y2 y3 y4 y5 y6 y7 y8 y9 y10 y11 y12) (lw14_IdleMeets.j3 (k + 1) y0 y1 y2 y3 y4 y5 y6 y7 y8 y9 y10 y11 y12))
  | 0 => ⟨fun _ _ _ _ r h => by simp [lw14_IdleMeets.j0] at h, fun _ _ _ _ _ _ _ _ _ _ _ _ _ r h => by simp [lw14_IdleMeets.l0] at h, fun _ _ _ _ _ _ _ _ _ _ _ _ _ r h => by simp [lw14_IdleMeets.j2] at h, fun _ _ _ _ _ _ _ _ _ _ _ _ _ r h => by simp [lw14_IdleMeets.j3] at h⟩
  | k + 1 => by
    obtain ⟨ih0, ih1, ih2, ih3⟩ := lw14_IdleMeets.mono_l k
    refine ⟨?_, ?_, ?_, ?_⟩
    · intro y0 y1 y2 y3
      unfold lw14_IdleMeets.j0
      repeat' first
      | (with_reducible exact ih0 _ _ _ _)
      | (with_reducible exact ih1 _ _ _ _ _ _ _ _ _ _ _ _ _)
      | (with_reducible exact ih2 _ _ _ _ _ _ _ _ _ _ _ _ _)
      | (with_reducible exact ih3 _ _ _ _ _ _ _ _ _ _ _ _ _)
      | (with_reducible exact lw14_works.mono _)
      | (with_reducible exact LeO.refl _)
      | (with_reducible exact LeO.none _)
      | (with_reducible refine LeO.ite ?_ ?_)
      | (with_reducible refine LeO.bind ?_ (fun _ => ?_))
      | exact ih0 _ _ _ _
      | exact ih1 _ _ _ _ _ _ _ _ _ _ _ _ _
      | exact ih2 _ _ _ _ _ _ _ _ _ _ _ _ _
      | exact ih3 _ _ _ _ _ _ _ _ _ _ _ _ _
      | exact lw14_works.mono _
      | exact LeO.none _
      | refine LeO.ite ?_ ?_
      | refine LeO.bind ?_ (fun _ => ?_)
    · intro y0 y1 y2 y3 y4 y5 y6 y7 y8 y9 y10 y11 y12
      unfold lw14_IdleMeets.l0
      repeat' first
      | (with_reducible exact ih0 _ _ _ _)
      | (with_reducible exact ih1 _ _ _ _ _ _ _ _ _ _ _ _ _)
      | (with_reducible exact ih2 _ _ _ _ _ _ _ _ _ _ _ _ _)
      | (with_reducible exact ih3 _ _ _ _ _ _ _ _ _ _ _ _ _)
      | (with_reducible exact lw14_works.mono _)
      | (with_reducible exact LeO.refl _)
      | (with_reducible exact LeO.none _)
      | (with_reducible refine LeO.ite ?_ ?_)
      | (with_reducible refine LeO.bind ?_ (fun _ => ?_))
      | exact ih0 _ _ _ _
      | exact ih1 _ _ _ _ _ _ _ _ _ _ _ _ _
      | exact ih2 _ _ _ _ _ _ _ _ _ _ _ _ _
      | exact ih3 _ _ _ _ _ _ _ _ _ _ _ _ _
      | exact lw14_works.mono _
      | exact LeO.none _
      | refine LeO.ite ?_ ?_
      | refine LeO.bind ?_ (fun _ => ?_)
    · intro y0 y1 y2 y3 y4 y5 y6 y7 y8 y9 y10 y11 y12
      unfold lw14_IdleMeets.j2
      repeat' first
      | (with_reducible exact ih0 _ _ _ _)
      | (with_reducible exact ih1 _ _ _ _ _ _ _ _ _ _ _ _ _)
      | (with_reducible exact ih2 _ _ _ _ _ _ _ _ _ _ _ _ _)
      | (with_reducible exact ih3 _ _ _ _ _ _ _ _ _ _ _ _ _)
      | (with_reducible exact lw14_works.mono _)
      | (with_reducible exact LeO.refl _)
      | (with_reducible exact LeO.none _)
      | (with_reducible refine LeO.ite ?_ ?_)
      | (with_reducible refine LeO.bind ?_ (fun _ => ?_))
      | exact ih0 _ _ _ _
      | exact ih1 _ _ _ _ _ _ _ _ _ _ _ _ _
      | exact ih2 _ _ _ _ _ _ _ _ _ _ _ _ _
      | exact ih3 _ _ _ _ _ _ _ _ _ _ _ _ _
      | exact lw14_works.mono _
      | exact LeO.none _
      | refine LeO.ite ?_ ?_
      | refine LeO.bind ?_ (fun _ => ?_)
    · intro y0 y1 y2 y3 y4 y5 y6 y7 y8 y9 y10 y11 y12
      unfold lw14_IdleMeets.j3
      repeat' first
      | (with_reducible exact ih0 _ _ _ _)
      | (with_reducible exact ih1 _ _ _ _ _ _ _ _ _ _ _ _ _)
      | (with_reducible exact ih2 _ _ _ _ _ _ _ _ _ _ _ _ _)
      | (with_reducible exact ih3 _ _ _ _ _ _ _ _ _ _ _ _ _)
      | (with_reducible exact lw14_works.mono _)
      | (with_reducible exact LeO.refl _)
      | (with_reducible exact LeO.none _)
      | (with_reducible refine LeO.ite ?_ ?_)
      | (with_reducible refine LeO.bind ?_ (fun _ => ?_))
      | exact ih0 _ _ _ _
      | exact ih1 _ _ _ _ _ _ _ _ _ _ _ _ _
      | exact ih2 _ _ _ _ _ _ _ _ _ _ _ _ _
      | exact ih3 _ _ _ _ _ _ _ _ _ _ _ _ _
      | exact lw14_works.mono _
      | exact LeO.none _
      | refine LeO.ite ?_ ?_
      | refine LeO.bind ?_ (fun _ => ?_)
theorem lw14_IdleMeets.mono : ∀ a0 a1 a2 a3 k, LeO (lw14_IdleMeets.f k a0 a1 a2 a3) (lw14_IdleMeets.f (k + 1) a0 a1 a2 a3) := by
  intro a0 a1 a2 a3 k
  obtain ⟨ih0, ih1, ih2, ih3⟩ := lw14_IdleMeets.mono_l k
  unfold lw14_IdleMeets.f
  repeat' first
      | (with_reducible exact ih0 _ _ _ _)
      | (with_reducible exact ih1 _ _ _ _ _ _ _ _ _ _ _ _ _)
      | (with_reducible exact ih2 _ _ _ _ _ _ _ _ _ _ _ _ _)
      | (with_reducible exact ih3 _ _ _ _ _ _ _ _ _ _ _ _ _)
      | (with_reducible exact lw14_works.mono _)
      | (with_reducible exact LeO.refl _)
      | (with_reducible exact LeO.none _)
      | (with_reducible refine LeO.ite ?_ ?_)
      | (with_reducible refine LeO.bind ?_ (fun _ => ?_))
      | exact ih0 _ _ _ _
      | exact ih1 _ _ _ _ _ _ _ _ _ _ _ _ _
      | exact ih2 _ _ _ _ _ _ _ _ _ _ _ _ _
      | exact ih3 _ _ _ _ _ _ _ _ _ _ _ _ _
      | exact lw14_works.mono _
      | exact LeO.none _
      | refine LeO.ite ?_ ?_
      | refine LeO.bind ?_ (fun _ => ?_)
set_option maxHeartbeats 8000000 in
set_option maxRecDepth 100000 in
theorem lw14_IdleMeets.calls (k : Nat) (a0 : Int) (a1 : Int) (a2 : Int) (a3 : Int) (r : Bool) (w : World) (h : lw14_IdleMeets.f k a0 a1 a2 a3 = some r) :
    Calls Try.prog 3 #[.int .u32 a0, .int .u32 a1, .int .i64 a2, .int .u16 a3] w fun e w' => e = .returned (.bool r) ∧ Below w.heap.size w w' := by
  have HB := Aside0.mk (Below.refl w.heap.size w)
  have H : (if (Int.tmod a2 1099511627776) < 0 then (lw14_IdleMeets.j0 k a3 ((2 + (Int.tmod a0 1000)) % 4294967296) ((2 + (Int.tmod a1 1000)) % 4294967296) (wrap64 (-(Int.tmod a2 1099511627776)))) else (lw14_IdleMeets.j0 k a3 ((2 + (Int.tmod a0 1000)) % 4294967296) ((2 + (Int.tmod a1 1000)) % 4294967296) (Int.tmod a2 1099511627776))) = some r := h
  clear h
  have HC5 := Aside0.mk H
  clear H
  go_enter Try.func3, Try.ntmps3
  go_upto_if 24 with (fail)
  go_cut [11] (fun v11 wc => ∃ (kq : Nat) (x11_4 : Int), v11 = .int .i64 x11_4 ∧ Aside0 (lw14_IdleMeets.j0 kq a3 ((2 + (Int.tmod a0 1000)) % 4294967296) ((2 + (Int.tmod a1 1000)) % 4294967296) x11_4 = some r) ∧ Aside0 (kq ≤ k) ∧ Aside0 (Below w.heap.size w wc))
  case first =>
    have H := HC5.out
    clear HC5
    by_cases c6 : (Int.tmod a2 1099511627776) < 0
    · rw [if_pos c6] at H
      have c6b0 : decide ((Int.tmod a2 1099511627776) < 0) = true := decide_eq_true c6
      clear c6
      (first | rw [c6b0] | (simp only [i64_w, i32_w]; rw [c6b0]) | skip)
      have H' := Aside0.mk H
      clear H
      go_wp2
      go_meet
      case rel => exact ⟨_, (wrap64 (-(Int.tmod a2 1099511627776))), (by first | rfl | (simp; done) | (simp [*]; done)), H', ⟨by first | omega | exact Nat.le_refl _⟩, ⟨by repeat (first | (with_reducible first | exact HB.out | apply below_alloc | apply pw_below_drewN | apply below_drew1) | exact HB.out)⟩⟩
    · rw [if_neg c6] at H
      have c6b0 : decide ((Int.tmod a2 1099511627776) < 0) = false := decide_eq_false c6
      clear c6
      (first | rw [c6b0] | (simp only [i64_w, i32_w]; rw [c6b0]) | skip)
      have H' := Aside0.mk H
      clear H
      go_wp2
      go_meet
      case rel => exact ⟨_, (Int.tmod a2 1099511627776), (by first | rfl | (simp; done) | (simp [*]; done)), H', ⟨by first | omega | exact Nat.le_refl _⟩, ⟨by repeat (first | (with_reducible first | exact HB.out | apply below_alloc | apply pw_below_drewN | apply below_drew1) | exact HB.out)⟩⟩
  case rest =>
    clear HC5
    try clear p2
    try clear c3
    try clear c6
    try clear c6b0
    try clear p6
    obtain ⟨kq, x11_4, rfl, HA, HJ4, HB⟩ := hcut
    cases kq with
    | zero => exact absurd HA.out (by simp [lw14_IdleMeets.j0])
    | succ kj4 =>
      have H := HA.out
      clear HA
      simp only [lw14_IdleMeets.j0] at H
      replace H := Option.bind_eq_some_iff.mp H
      obtain ⟨⟨t217, t218, t219, t220, t221⟩, A70, H⟩ := H
      replace H : ((idle_New.f ((2 + (Int.tmod a1 1000)) % 4294967296) ((2 + (Int.tmod a0 1000)) % 4294967296) x11_4).bind fun bt223 => (lw14_IdleMeets.l0 kj4 a3 x11_4 1 t217 t218 t219 t220 t221 bt223.1 bt223.2.1 bt223.2.2.1 bt223.2.2.2.1 bt223.2.2.2.2)) = some r := H
      have A7 := Aside0.mk A70
      clear A70
      replace H := Option.bind_eq_some_iff.mp H
      obtain ⟨⟨t223, t224, t225, t226, t227⟩, A80, H⟩ := H
      replace H : (lw14_IdleMeets.l0 kj4 a3 x11_4 1 t217 t218 t219 t220 t221 t223 t224 t225 t226 t227) = some r := H
      have A8 := Aside0.mk A80
      clear A80
      have H' := Aside0.mk H
      clear H
      go_wp2_with (first | ((with_reducible refine gate_callee (f := 8) rfl ?_); refine goesL_ (some 30) rfl rfl Try.func8 (by kernel_rfl) rfl #[.int .u32 ((2 + (Int.tmod a0 1000)) % 4294967296), .int .u32 ((2 + (Int.tmod a1 1000)) % 4294967296), .int .i64 x11_4] rfl (by (try simp only [List.map_toArray, List.map_cons, List.map_nil]); first | done | rfl | (simp only [List.length_drop, List.length_take]; rfl)) ?_; (with_reducible refine (idle_New.calls ((2 + (Int.tmod a0 1000)) % 4294967296) ((2 + (Int.tmod a1 1000)) % 4294967296) x11_4 t217 t218 t219 t220 t221 w _ ?side1 A7.out).mono ?_); (case side1 => repeat (first | (with_reducible first | exact HB.out | apply below_alloc | apply pw_below_drewN | apply below_drew1) | exact HB.out)); rintro e w9 ⟨g222, rfl, hi, hb, hb2, hgw⟩; refine ⟨_, rfl, ?_⟩; have n0_ := Aside0.mk (hb); have n1_ := Aside0.mk (hi); clear HB; have HB := n0_; have HI222 := n1_; clear n0_ n1_; (try clear hb); (try clear hb2); (try clear hk); (try clear hi); (try clear hgw)) | ((with_reducible refine gate_callee (f := 8) rfl ?_); refine goesL_ (some 34) rfl rfl Try.func8 (by kernel_rfl) rfl #[.int .u32 ((2 + (Int.tmod a1 1000)) % 4294967296), .int .u32 ((2 + (Int.tmod a0 1000)) % 4294967296), .int .i64 x11_4] rfl (by (try simp only [List.map_toArray, List.map_cons, List.map_nil]); first | done | rfl | (simp only [List.length_drop, List.length_take]; rfl)) ?_; (with_reducible refine (idle_New.calls ((2 + (Int.tmod a1 1000)) % 4294967296) ((2 + (Int.tmod a0 1000)) % 4294967296) x11_4 t223 t224 t225 t226 t227 w _ ?side1 A8.out).mono ?_); (case side1 => repeat (first | (with_reducible first | exact HB.out | apply below_alloc | apply pw_below_drewN | apply below_drew1 | refine below_set ?_ (IsS43.ge HI222.out)) | exact HB.out)); rintro e w10 ⟨g228, rfl, hi, hb, hb2, hgw⟩; refine ⟨_, rfl, ?_⟩; have n0_ := Aside0.mk (IsS43.below (by repeat (first | (with_reducible first | exact HI222.out | apply IsS43.alloc | apply IsS43.drewN | apply IsS43.drew | apply IsS43.set_0 | apply IsS43.set_1 | apply IsS43.set_2 | apply IsS43.set_3 | apply IsS43.set_4) | exact HI222.out)) hb2); have n1_ := Aside0.mk (hb); have n2_ := Aside0.mk (hi); have n3_ := Aside0.mk (Nat.ne_of_lt (Nat.lt_of_lt_of_le (IsS43.lt (show IsS43 w _ g222 t217 t218 t219 t220 t221 from by repeat (first | (with_reducible first | exact HI222.out | apply IsS43.alloc | apply IsS43.drewN | apply IsS43.drew | apply IsS43.set_0 | apply IsS43.set_1 | apply IsS43.set_2 | apply IsS43.set_3 | apply IsS43.set_4) | exact HI222.out))) hgw)); have n4_ := Aside0.mk (Nat.ne_of_gt (Nat.lt_of_lt_of_le (IsS43.lt (show IsS43 w _ g222 t217 t218 t219 t220 t221 from by repeat (first | (with_reducible first | exact HI222.out | apply IsS43.alloc | apply IsS43.drewN | apply IsS43.drew | apply IsS43.set_0 | apply IsS43.set_1 | apply IsS43.set_2 | apply IsS43.set_3 | apply IsS43.set_4) | exact HI222.out))) hgw)); clear HI222; clear HB; have HI222 := n0_; have HB := n1_; have HI228 := n2_; have NS222_228 := n3_; have NS228_222 := n4_; clear n0_ n1_ n2_ n3_ n4_; (try clear hb); (try clear hb2); (try clear hk); (try clear hi); (try clear hgw)))
      go_loopg [14] kj4 (fun kq v14 w' => ∃ (x14_2 : Int) (x223000_2 : Int) (x223001_2 : Int) (x223002_2 : Int) (x223003_2 : Int) (x223004_2 : Int) (x229000_2 : Int) (x229001_2 : Int) (x229002_2 : Int) (x229003_2 : Int) (x229004_2 : Int), v14 = .int .i64 x14_2 ∧ Aside0 (lw14_IdleMeets.l0 kq a3 x11_4 x14_2 x223000_2 x223001_2 x223002_2 x223003_2 x223004_2 x229000_2 x229001_2 x229002_2 x229003_2 x229004_2 = some r) ∧ Aside0 (kq ≤ kj4) ∧ Aside0 (IsS43 w w' g222 x223000_2 x223001_2 x223002_2 x223003_2 x223004_2) ∧ Aside0 (IsS43 w w' g228 x229000_2 x229001_2 x229002_2 x229003_2 x229004_2) ∧ Aside0 (Below w.heap.size w w'))
      case atStart => exact ⟨(1), (t217), (t218), (t219), (t220), (t221), (t223), (t224), (t225), (t226), (t227), (by first | rfl | (simp; done) | (simp [*]; done)), H', ⟨Nat.le_refl _⟩, ⟨by repeat (first | (with_reducible first | exact HI222.out | apply IsS43.alloc | apply IsS43.drewN | apply IsS43.drew | apply IsS43.set_0 | apply IsS43.set_1 | apply IsS43.set_2 | apply IsS43.set_3 | apply IsS43.set_4) | exact HI222.out)⟩, ⟨by repeat (first | (with_reducible first | exact HI228.out | apply IsS43.alloc | apply IsS43.drewN | apply IsS43.drew | apply IsS43.set_0 | apply IsS43.set_1 | apply IsS43.set_2 | apply IsS43.set_3 | apply IsS43.set_4) | exact HI228.out)⟩, ⟨by repeat (first | (with_reducible first | exact HB.out | apply below_alloc | apply pw_below_drewN | apply below_drew1 | refine below_set ?_ (IsS43.ge HI222.out) | refine below_set ?_ (IsS43.ge HI228.out)) | exact HB.out)⟩⟩
      case round =>
        clear H'
        try clear p2
        try clear c3
        try clear c6
        try clear c6b0
        try clear p6
        try clear c8
        try clear p2
        try clear p6
        obtain ⟨x14_2, x223000_2, x223001_2, x223002_2, x223003_2, x223004_2, x229000_2, x229001_2, x229002_2, x229003_2, x229004_2, rfl, HA, HK2, HI222, HI228, HB⟩ := hrel
        cases gk with
        | zero => exact absurd HA.out (by simp [lw14_IdleMeets.l0])
        | succ k2 =>
          have H := HA.out
          clear HA
          simp only [lw14_IdleMeets.l0] at H
          by_cases c11 : x14_2 ≤ (wrap64 (Int.tmod a3 500))
          · rw [if_pos c11] at H
            have c11b0 : decide (x14_2 ≤ (wrap64 (Int.tmod a3 500))) = true := decide_eq_true c11
            clear c11
            replace H := Option.bind_eq_some_iff.mp H
            obtain ⟨⟨t230, t231, t232, t233, t234, t235⟩, A120, H⟩ := H
            replace H : (if t230 = true then ((idle_Idle_Sent.f t231 t232 t233 t234 t235 (wrap64 (x11_4 + x14_2))).bind fun bt236 => ((idle_Idle_Got.f x229000_2 x229001_2 x229002_2 x229003_2 x229004_2 (wrap64 (x11_4 + x14_2))).bind fun bt241 => (lw14_IdleMeets.j2 k2 a3 x11_4 x14_2 bt236.1 bt236.2.1 bt236.2.2.1 bt236.2.2.2.1 bt236.2.2.2.2 bt241.1 bt241.2.1 bt241.2.2.1 bt241.2.2.2.1 bt241.2.2.2.2))) else (lw14_IdleMeets.j2 k2 a3 x11_4 x14_2 t231 t232 t233 t234 t235 x229000_2 x229001_2 x229002_2 x229003_2 x229004_2)) = some r := H
            have A12 := Aside0.mk A120
            clear A120
            have HC13 := Aside0.mk H
            clear H
            go_upto_if 46 with (first | ((with_reducible refine gate_callee (f := 9) rfl ?_); refine goesL_ (some 46) rfl rfl Try.func9 (by kernel_rfl) rfl #[.pointer (some ⟨g222, 0, none⟩), .int .i64 (wrap64 (x11_4 + x14_2))] rfl (by (try simp only [List.map_toArray, List.map_cons, List.map_nil]); first | done | rfl | (simp only [List.length_drop, List.length_take]; rfl)) ?_; (with_reducible refine (idle_Idle_Due.calls g222 x223000_2 x223001_2 x223002_2 x223003_2 x223004_2 (wrap64 (x11_4 + x14_2)) t230 t231 t232 t233 t234 t235 w _ ?side1 ?side2 A12.out).mono ?_); (case side1 => repeat (first | (with_reducible first | exact HI222.out | apply IsS43.alloc | apply IsS43.drewN | apply IsS43.drew | apply IsS43.set_0 | apply IsS43.set_1 | apply IsS43.set_2 | apply IsS43.set_3 | apply IsS43.set_4) | exact HI222.out)); (case side2 => repeat (first | (with_reducible first | exact HB.out | apply below_alloc | apply pw_below_drewN | apply below_drew1 | refine below_set ?_ (IsS43.ge HI222.out) | refine below_set ?_ (IsS43.ge HI228.out)) | exact HB.out)); rintro e w14 ⟨rfl, hi, hb, hk⟩; refine ⟨_, rfl, ?_⟩; have n0_ := Aside0.mk (IsS43.beside (show IsS43 w _ g228 x229000_2 x229001_2 x229002_2 x229003_2 x229004_2 from by repeat (first | (with_reducible first | exact HI228.out | apply IsS43.alloc | apply IsS43.drewN | apply IsS43.drew | apply IsS43.set_0 | apply IsS43.set_1 | apply IsS43.set_2 | apply IsS43.set_3 | apply IsS43.set_4) | exact HI228.out)) hk NS228_222.out); have n1_ := Aside0.mk (hb); have n2_ := Aside0.mk (hi); clear HI228; clear HB; clear HI222; have HI228 := n0_; have HB := n1_; have HI222 := n2_; clear n0_ n1_ n2_; (try clear hb); (try clear hb2); (try clear hk); (try clear hi); (try clear hgw)))
            (try simp only [Act.put, List.setIfInBounds_toArray, List.set_cons_zero, List.set_cons_succ])
            go_cut [] (fun wc => ∃ (kq : Nat) (x223000_12 : Int) (x223001_12 : Int) (x223002_12 : Int) (x223003_12 : Int) (x223004_12 : Int) (x229000_12 : Int) (x229001_12 : Int) (x229002_12 : Int) (x229003_12 : Int) (x229004_12 : Int), Aside0 (lw14_IdleMeets.j2 kq a3 x11_4 x14_2 x223000_12 x223001_12 x223002_12 x223003_12 x223004_12 x229000_12 x229001_12 x229002_12 x229003_12 x229004_12 = some r) ∧ Aside0 (kq ≤ k2) ∧ Aside0 (IsS43 w wc g222 x223000_12 x223001_12 x223002_12 x223003_12 x223004_12) ∧ Aside0 (IsS43 w wc g228 x229000_12 x229001_12 x229002_12 x229003_12 x229004_12) ∧ Aside0 (Below w.heap.size w wc))
            case first =>
              have H := HC13.out
              clear HC13
              by_cases c15 : t230 = true
              · subst c15
                have H1 : ((idle_Idle_Sent.f t231 t232 t233 t234 t235 (wrap64 (x11_4 + x14_2))).bind fun bt236 => ((idle_Idle_Got.f x229000_2 x229001_2 x229002_2 x229003_2 x229004_2 (wrap64 (x11_4 + x14_2))).bind fun bt241 => (lw14_IdleMeets.j2 k2 a3 x11_4 x14_2 bt236.1 bt236.2.1 bt236.2.2.1 bt236.2.2.2.1 bt236.2.2.2.2 bt241.1 bt241.2.1 bt241.2.2.1 bt241.2.2.2.1 bt241.2.2.2.2))) = some r := by rw [if_pos rfl] at H; exact H
                clear H
                have H := H1
                clear H1
                replace H := Option.bind_eq_some_iff.mp H
                obtain ⟨⟨t236, t237, t238, t239, t240⟩, A160, H⟩ := H
                replace H : ((idle_Idle_Got.f x229000_2 x229001_2 x229002_2 x229003_2 x229004_2 (wrap64 (x11_4 + x14_2))).bind fun bt241 => (lw14_IdleMeets.j2 k2 a3 x11_4 x14_2 t236 t237 t238 t239 t240 bt241.1 bt241.2.1 bt241.2.2.1 bt241.2.2.2.1 bt241.2.2.2.2)) = some r := H
                have A16 := Aside0.mk A160
                clear A160
                replace H := Option.bind_eq_some_iff.mp H
                obtain ⟨⟨t241, t242, t243, t244, t245⟩, A170, H⟩ := H
                replace H : (lw14_IdleMeets.j2 k2 a3 x11_4 x14_2 t236 t237 t238 t239 t240 t241 t242 t243 t244 t245) = some r := H
                have A17 := Aside0.mk A170
                clear A170
                have H' := Aside0.mk H
                clear H
                go_wp2_with (first | ((with_reducible refine gate_callee (f := 10) rfl ?_); refine goesL_ (some 51) rfl rfl Try.func10 (by kernel_rfl) rfl #[.pointer (some ⟨g222, 0, none⟩), .int .i64 (wrap64 (x11_4 + x14_2))] rfl (by (try simp only [List.map_toArray, List.map_cons, List.map_nil]); first | done | rfl | (simp only [List.length_drop, List.length_take]; rfl)) ?_; (with_reducible refine (idle_Idle_Sent.calls g222 t231 t232 t233 t234 t235 (wrap64 (x11_4 + x14_2)) t236 t237 t238 t239 t240 w _ ?side1 ?side2 A16.out).mono ?_); (case side1 => repeat (first | (with_reducible first | exact HI222.out | apply IsS43.alloc | apply IsS43.drewN | apply IsS43.drew | apply IsS43.set_0 | apply IsS43.set_1 | apply IsS43.set_2 | apply IsS43.set_3 | apply IsS43.set_4) | exact HI222.out)); (case side2 => repeat (first | (with_reducible first | exact HB.out | apply below_alloc | apply pw_below_drewN | apply below_drew1 | refine below_set ?_ (IsS43.ge HI222.out) | refine below_set ?_ (IsS43.ge HI228.out)) | exact HB.out)); rintro e w18 ⟨rfl, hi, hb, hk⟩; refine ⟨_, rfl, ?_⟩; have n0_ := Aside0.mk (IsS43.beside (show IsS43 w _ g228 x229000_2 x229001_2 x229002_2 x229003_2 x229004_2 from by repeat (first | (with_reducible first | exact HI228.out | apply IsS43.alloc | apply IsS43.drewN | apply IsS43.drew | apply IsS43.set_0 | apply IsS43.set_1 | apply IsS43.set_2 | apply IsS43.set_3 | apply IsS43.set_4) | exact HI228.out)) hk NS228_222.out); have n1_ := Aside0.mk (hb); have n2_ := Aside0.mk (hi); clear HI228; clear HB; clear HI222; have HI228 := n0_; have HB := n1_; have HI222 := n2_; clear n0_ n1_ n2_; (try clear hb); (try clear hb2); (try clear hk); (try clear hi); (try clear hgw)) | ((with_reducible refine gate_callee (f := 11) rfl ?_); refine goesL_ (some 56) rfl rfl Try.func11 (by kernel_rfl) rfl #[.pointer (some ⟨g228, 0, none⟩), .int .i64 (wrap64 (x11_4 + x14_2))] rfl (by (try simp only [List.map_toArray, List.map_cons, List.map_nil]); first | done | rfl | (simp only [List.length_drop, List.length_take]; rfl)) ?_; (with_reducible refine (idle_Idle_Got.calls g228 x229000_2 x229001_2 x229002_2 x229003_2 x229004_2 (wrap64 (x11_4 + x14_2)) t241 t242 t243 t244 t245 w _ ?side1 ?side2 A17.out).mono ?_); (case side1 => repeat (first | (with_reducible first | exact HI228.out | apply IsS43.alloc | apply IsS43.drewN | apply IsS43.drew | apply IsS43.set_0 | apply IsS43.set_1 | apply IsS43.set_2 | apply IsS43.set_3 | apply IsS43.set_4) | exact HI228.out)); (case side2 => repeat (first | (with_reducible first | exact HB.out | apply below_alloc | apply pw_below_drewN | apply below_drew1 | refine below_set ?_ (IsS43.ge HI222.out) | refine below_set ?_ (IsS43.ge HI228.out)) | exact HB.out)); rintro e w19 ⟨rfl, hi, hb, hk⟩; refine ⟨_, rfl, ?_⟩; have n0_ := Aside0.mk (IsS43.beside (show IsS43 w _ g222 t236 t237 t238 t239 t240 from by repeat (first | (with_reducible first | exact HI222.out | apply IsS43.alloc | apply IsS43.drewN | apply IsS43.drew | apply IsS43.set_0 | apply IsS43.set_1 | apply IsS43.set_2 | apply IsS43.set_3 | apply IsS43.set_4) | exact HI222.out)) hk NS222_228.out); have n1_ := Aside0.mk (hb); have n2_ := Aside0.mk (hi); clear HI222; clear HB; clear HI228; have HI222 := n0_; have HB := n1_; have HI228 := n2_; clear n0_ n1_ n2_; (try clear hb); (try clear hb2); (try clear hk); (try clear hi); (try clear hgw)))
                go_meet
                case rel => exact ⟨_, (t236), (t237), (t238), (t239), (t240), (t241), (t242), (t243), (t244), (t245), H', ⟨by have := HJ4.out; have := HK2.out; first | omega | exact Nat.le_refl _⟩, ⟨by repeat (first | (with_reducible first | exact HI222.out | apply IsS43.alloc | apply IsS43.drewN | apply IsS43.drew | apply IsS43.set_0 | apply IsS43.set_1 | apply IsS43.set_2 | apply IsS43.set_3 | apply IsS43.set_4) | exact HI222.out)⟩, ⟨by repeat (first | (with_reducible first | exact HI228.out | apply IsS43.alloc | apply IsS43.drewN | apply IsS43.drew | apply IsS43.set_0 | apply IsS43.set_1 | apply IsS43.set_2 | apply IsS43.set_3 | apply IsS43.set_4) | exact HI228.out)⟩, ⟨by repeat (first | (with_reducible first | exact HB.out | apply below_alloc | apply pw_below_drewN | apply below_drew1 | refine below_set ?_ (IsS43.ge HI222.out) | refine below_set ?_ (IsS43.ge HI228.out)) | exact HB.out)⟩⟩
              · replace c15 := Bool.eq_false_iff.mpr c15
                subst c15
                have H1 : (lw14_IdleMeets.j2 k2 a3 x11_4 x14_2 t231 t232 t233 t234 t235 x229000_2 x229001_2 x229002_2 x229003_2 x229004_2) = some r := by rw [if_neg (show ¬ (false = true) by decide)] at H; exact H
                clear H
                have H := H1
                clear H1
                have H' := Aside0.mk H
                clear H
                go_wp2
                go_meet
                case rel => exact ⟨_, (t231), (t232), (t233), (t234), (t235), (x229000_2), (x229001_2), (x229002_2), (x229003_2), (x229004_2), H', ⟨by have := HJ4.out; have := HK2.out; first | omega | exact Nat.le_refl _⟩, ⟨by repeat (first | (with_reducible first | exact HI222.out | apply IsS43.alloc | apply IsS43.drewN | apply IsS43.drew | apply IsS43.set_0 | apply IsS43.set_1 | apply IsS43.set_2 | apply IsS43.set_3 | apply IsS43.set_4) | exact HI222.out)⟩, ⟨by repeat (first | (with_reducible first | exact HI228.out | apply IsS43.alloc | apply IsS43.drewN | apply IsS43.drew | apply IsS43.set_0 | apply IsS43.set_1 | apply IsS43.set_2 | apply IsS43.set_3 | apply IsS43.set_4) | exact HI228.out)⟩, ⟨by repeat (first | (with_reducible first | exact HB.out | apply below_alloc | apply pw_below_drewN | apply below_drew1 | refine below_set ?_ (IsS43.ge HI222.out) | refine below_set ?_ (IsS43.ge HI228.out)) | exact HB.out)⟩⟩
            case rest =>
              clear HC13
              try clear c1
              try clear p2
              try clear c3
              try clear c6
              try clear c6b0
              try clear p6
              try clear c8
              try clear c9
              try clear c10
              try clear c11
              try clear c11b0
              try clear c15
              try clear p2
              try clear p6
              obtain ⟨kq, x223000_12, x223001_12, x223002_12, x223003_12, x223004_12, x229000_12, x229001_12, x229002_12, x229003_12, x229004_12, HA, HJ12, HI222, HI228, HB⟩ := hcut
              cases kq with
              | zero => exact absurd HA.out (by simp [lw14_IdleMeets.j2])
              | succ kj12 =>
                have H := HA.out
                clear HA
                simp only [lw14_IdleMeets.j2] at H
                replace H := Option.bind_eq_some_iff.mp H
                obtain ⟨⟨t246, t247, t248, t249, t250, t251⟩, A200, H⟩ := H
                replace H : (if t246 = true then ((idle_Idle_Sent.f t247 t248 t249 t250 t251 (wrap64 (x11_4 + x14_2))).bind fun bt252 => ((idle_Idle_Got.f x223000_12 x223001_12 x223002_12 x223003_12 x223004_12 (wrap64 (x11_4 + x14_2))).bind fun bt257 => (lw14_IdleMeets.j3 kj12 a3 x11_4 x14_2 bt257.1 bt257.2.1 bt257.2.2.1 bt257.2.2.2.1 bt257.2.2.2.2 bt252.1 bt252.2.1 bt252.2.2.1 bt252.2.2.2.1 bt252.2.2.2.2))) else (lw14_IdleMeets.j3 kj12 a3 x11_4 x14_2 x223000_12 x223001_12 x223002_12 x223003_12 x223004_12 t247 t248 t249 t250 t251)) = some r := H
                have A20 := Aside0.mk A200
                clear A200
                have HC21 := Aside0.mk H
                clear H
                go_upto_if 61 with (first | ((with_reducible refine gate_callee (f := 9) rfl ?_); refine goesL_ (some 61) rfl rfl Try.func9 (by kernel_rfl) rfl #[.pointer (some ⟨g228, 0, none⟩), .int .i64 (wrap64 (x11_4 + x14_2))] rfl (by (try simp only [List.map_toArray, List.map_cons, List.map_nil]); first | done | rfl | (simp only [List.length_drop, List.length_take]; rfl)) ?_; (with_reducible refine (idle_Idle_Due.calls g228 x229000_12 x229001_12 x229002_12 x229003_12 x229004_12 (wrap64 (x11_4 + x14_2)) t246 t247 t248 t249 t250 t251 w _ ?side1 ?side2 A20.out).mono ?_); (case side1 => repeat (first | (with_reducible first | exact HI228.out | apply IsS43.alloc | apply IsS43.drewN | apply IsS43.drew | apply IsS43.set_0 | apply IsS43.set_1 | apply IsS43.set_2 | apply IsS43.set_3 | apply IsS43.set_4) | exact HI228.out)); (case side2 => repeat (first | (with_reducible first | exact HB.out | apply below_alloc | apply pw_below_drewN | apply below_drew1 | refine below_set ?_ (IsS43.ge HI222.out) | refine below_set ?_ (IsS43.ge HI228.out)) | exact HB.out)); rintro e w22 ⟨rfl, hi, hb, hk⟩; refine ⟨_, rfl, ?_⟩; have n0_ := Aside0.mk (IsS43.beside (show IsS43 w _ g222 x223000_12 x223001_12 x223002_12 x223003_12 x223004_12 from by repeat (first | (with_reducible first | exact HI222.out | apply IsS43.alloc | apply IsS43.drewN | apply IsS43.drew | apply IsS43.set_0 | apply IsS43.set_1 | apply IsS43.set_2 | apply IsS43.set_3 | apply IsS43.set_4) | exact HI222.out)) hk NS222_228.out); have n1_ := Aside0.mk (hb); have n2_ := Aside0.mk (hi); clear HI222; clear HB; clear HI228; have HI222 := n0_; have HB := n1_; have HI228 := n2_; clear n0_ n1_ n2_; (try clear hb); (try clear hb2); (try clear hk); (try clear hi); (try clear hgw)))
                (try simp only [Act.put, List.setIfInBounds_toArray, List.set_cons_zero, List.set_cons_succ])
                go_cut [] (fun wc => ∃ (kq : Nat) (x223000_20 : Int) (x223001_20 : Int) (x223002_20 : Int) (x223003_20 : Int) (x223004_20 : Int) (x229000_20 : Int) (x229001_20 : Int) (x229002_20 : Int) (x229003_20 : Int) (x229004_20 : Int), Aside0 (lw14_IdleMeets.j3 kq a3 x11_4 x14_2 x223000_20 x223001_20 x223002_20 x223003_20 x223004_20 x229000_20 x229001_20 x229002_20 x229003_20 x229004_20 = some r) ∧ Aside0 (kq ≤ kj12) ∧ Aside0 (IsS43 w wc g222 x223000_20 x223001_20 x223002_20 x223003_20 x223004_20) ∧ Aside0 (IsS43 w wc g228 x229000_20 x229001_20 x229002_20 x229003_20 x229004_20) ∧ Aside0 (Below w.heap.size w wc))
                case first =>
                  have H := HC21.out
                  clear HC21
                  by_cases c23 : t246 = true
                  · subst c23
                    have H1 : ((idle_Idle_Sent.f t247 t248 t249 t250 t251 (wrap64 (x11_4 + x14_2))).bind fun bt252 => ((idle_Idle_Got.f x223000_12 x223001_12 x223002_12 x223003_12 x223004_12 (wrap64 (x11_4 + x14_2))).bind fun bt257 => (lw14_IdleMeets.j3 kj12 a3 x11_4 x14_2 bt257.1 bt257.2.1 bt257.2.2.1 bt257.2.2.2.1 bt257.2.2.2.2 bt252.1 bt252.2.1 bt252.2.2.1 bt252.2.2.2.1 bt252.2.2.2.2))) = some r := by rw [if_pos rfl] at H; exact H
                    clear H
                    have H := H1
                    clear H1
                    replace H := Option.bind_eq_some_iff.mp H
                    obtain ⟨⟨t252, t253, t254, t255, t256⟩, A240, H⟩ := H
                    replace H : ((idle_Idle_Got.f x223000_12 x223001_12 x223002_12 x223003_12 x223004_12 (wrap64 (x11_4 + x14_2))).bind fun bt257 => (lw14_IdleMeets.j3 kj12 a3 x11_4 x14_2 bt257.1 bt257.2.1 bt257.2.2.1 bt257.2.2.2.1 bt257.2.2.2.2 t252 t253 t254 t255 t256)) = some r := H
                    have A24 := Aside0.mk A240
                    clear A240
                    replace H := Option.bind_eq_some_iff.mp H
                    obtain ⟨⟨t257, t258, t259, t260, t261⟩, A250, H⟩ := H
                    replace H : (lw14_IdleMeets.j3 kj12 a3 x11_4 x14_2 t257 t258 t259 t260 t261 t252 t253 t254 t255 t256) = some r := H
                    have A25 := Aside0.mk A250
                    clear A250
                    have H' := Aside0.mk H
                    clear H
                    go_wp2_with (first | ((with_reducible refine gate_callee (f := 10) rfl ?_); refine goesL_ (some 66) rfl rfl Try.func10 (by kernel_rfl) rfl #[.pointer (some ⟨g228, 0, none⟩), .int .i64 (wrap64 (x11_4 + x14_2))] rfl (by (try simp only [List.map_toArray, List.map_cons, List.map_nil]); first | done | rfl | (simp only [List.length_drop, List.length_take]; rfl)) ?_; (with_reducible refine (idle_Idle_Sent.calls g228 t247 t248 t249 t250 t251 (wrap64 (x11_4 + x14_2)) t252 t253 t254 t255 t256 w _ ?side1 ?side2 A24.out).mono ?_); (case side1 => repeat (first | (with_reducible first | exact HI228.out | apply IsS43.alloc | apply IsS43.drewN | apply IsS43.drew | apply IsS43.set_0 | apply IsS43.set_1 | apply IsS43.set_2 | apply IsS43.set_3 | apply IsS43.set_4) | exact HI228.out)); (case side2 => repeat (first | (with_reducible first | exact HB.out | apply below_alloc | apply pw_below_drewN | apply below_drew1 | refine below_set ?_ (IsS43.ge HI222.out) | refine below_set ?_ (IsS43.ge HI228.out)) | exact HB.out)); rintro e w26 ⟨rfl, hi, hb, hk⟩; refine ⟨_, rfl, ?_⟩; have n0_ := Aside0.mk (IsS43.beside (show IsS43 w _ g222 x223000_12 x223001_12 x223002_12 x223003_12 x223004_12 from by repeat (first | (with_reducible first | exact HI222.out | apply IsS43.alloc | apply IsS43.drewN | apply IsS43.drew | apply IsS43.set_0 | apply IsS43.set_1 | apply IsS43.set_2 | apply IsS43.set_3 | apply IsS43.set_4) | exact HI222.out)) hk NS222_228.out); have n1_ := Aside0.mk (hb); have n2_ := Aside0.mk (hi); clear HI222; clear HB; clear HI228; have HI222 := n0_; have HB := n1_; have HI228 := n2_; clear n0_ n1_ n2_; (try clear hb); (try clear hb2); (try clear hk); (try clear hi); (try clear hgw)) | ((with_reducible refine gate_callee (f := 11) rfl ?_); refine goesL_ (some 71) rfl rfl Try.func11 (by kernel_rfl) rfl #[.pointer (some ⟨g222, 0, none⟩), .int .i64 (wrap64 (x11_4 + x14_2))] rfl (by (try simp only [List.map_toArray, List.map_cons, List.map_nil]); first | done | rfl | (simp only [List.length_drop, List.length_take]; rfl)) ?_; (with_reducible refine (idle_Idle_Got.calls g222 x223000_12 x223001_12 x223002_12 x223003_12 x223004_12 (wrap64 (x11_4 + x14_2)) t257 t258 t259 t260 t261 w _ ?side1 ?side2 A25.out).mono ?_); (case side1 => repeat (first | (with_reducible first | exact HI222.out | apply IsS43.alloc | apply IsS43.drewN | apply IsS43.drew | apply IsS43.set_0 | apply IsS43.set_1 | apply IsS43.set_2 | apply IsS43.set_3 | apply IsS43.set_4) | exact HI222.out)); (case side2 => repeat (first | (with_reducible first | exact HB.out | apply below_alloc | apply pw_below_drewN | apply below_drew1 | refine below_set ?_ (IsS43.ge HI222.out) | refine below_set ?_ (IsS43.ge HI228.out)) | exact HB.out)); rintro e w27 ⟨rfl, hi, hb, hk⟩; refine ⟨_, rfl, ?_⟩; have n0_ := Aside0.mk (IsS43.beside (show IsS43 w _ g228 t252 t253 t254 t255 t256 from by repeat (first | (with_reducible first | exact HI228.out | apply IsS43.alloc | apply IsS43.drewN | apply IsS43.drew | apply IsS43.set_0 | apply IsS43.set_1 | apply IsS43.set_2 | apply IsS43.set_3 | apply IsS43.set_4) | exact HI228.out)) hk NS228_222.out); have n1_ := Aside0.mk (hb); have n2_ := Aside0.mk (hi); clear HI228; clear HB; clear HI222; have HI228 := n0_; have HB := n1_; have HI222 := n2_; clear n0_ n1_ n2_; (try clear hb); (try clear hb2); (try clear hk); (try clear hi); (try clear hgw)))
                    go_meet
                    case rel => exact ⟨_, (t257), (t258), (t259), (t260), (t261), (t252), (t253), (t254), (t255), (t256), H', ⟨by have := HJ4.out; have := HK2.out; have := HJ12.out; first | omega | exact Nat.le_refl _⟩, ⟨by repeat (first | (with_reducible first | exact HI222.out | apply IsS43.alloc | apply IsS43.drewN | apply IsS43.drew | apply IsS43.set_0 | apply IsS43.set_1 | apply IsS43.set_2 | apply IsS43.set_3 | apply IsS43.set_4) | exact HI222.out)⟩, ⟨by repeat (first | (with_reducible first | exact HI228.out | apply IsS43.alloc | apply IsS43.drewN | apply IsS43.drew | apply IsS43.set_0 | apply IsS43.set_1 | apply IsS43.set_2 | apply IsS43.set_3 | apply IsS43.set_4) | exact HI228.out)⟩, ⟨by repeat (first | (with_reducible first | exact HB.out | apply below_alloc | apply pw_below_drewN | apply below_drew1 | refine below_set ?_ (IsS43.ge HI222.out) | refine below_set ?_ (IsS43.ge HI228.out)) | exact HB.out)⟩⟩
                  · replace c23 := Bool.eq_false_iff.mpr c23
                    subst c23
                    have H1 : (lw14_IdleMeets.j3 kj12 a3 x11_4 x14_2 x223000_12 x223001_12 x223002_12 x223003_12 x223004_12 t247 t248 t249 t250 t251) = some r := by rw [if_neg (show ¬ (false = true) by decide)] at H; exact H
                    clear H
                    have H := H1
                    clear H1
                    have H' := Aside0.mk H
                    clear H
                    go_wp2
                    go_meet
                    case rel => exact ⟨_, (x223000_12), (x223001_12), (x223002_12), (x223003_12), (x223004_12), (t247), (t248), (t249), (t250), (t251), H', ⟨by have := HJ4.out; have := HK2.out; have := HJ12.out; first | omega | exact Nat.le_refl _⟩, ⟨by repeat (first | (with_reducible first | exact HI222.out | apply IsS43.alloc | apply IsS43.drewN | apply IsS43.drew | apply IsS43.set_0 | apply IsS43.set_1 | apply IsS43.set_2 | apply IsS43.set_3 | apply IsS43.set_4) | exact HI222.out)⟩, ⟨by repeat (first | (with_reducible first | exact HI228.out | apply IsS43.alloc | apply IsS43.drewN | apply IsS43.drew | apply IsS43.set_0 | apply IsS43.set_1 | apply IsS43.set_2 | apply IsS43.set_3 | apply IsS43.set_4) | exact HI228.out)⟩, ⟨by repeat (first | (with_reducible first | exact HB.out | apply below_alloc | apply pw_below_drewN | apply below_drew1 | refine below_set ?_ (IsS43.ge HI222.out) | refine below_set ?_ (IsS43.ge HI228.out)) | exact HB.out)⟩⟩
                case rest =>
                  clear HC21
                  try clear c1
                  try clear c2
                  try clear p2
                  try clear c3
                  try clear c6
                  try clear c6b0
                  try clear p6
                  try clear c8
                  try clear c9
                  try clear c10
                  try clear c11
                  try clear c11b0
                  try clear c15
                  try clear c23
                  try clear p2
                  try clear p6
                  obtain ⟨kq, x223000_20, x223001_20, x223002_20, x223003_20, x223004_20, x229000_20, x229001_20, x229002_20, x229003_20, x229004_20, HA, HJ20, HI222, HI228, HB⟩ := hcut
                  cases kq with
                  | zero => exact absurd HA.out (by simp [lw14_IdleMeets.j3])
                  | succ kj20 =>
                    have H := HA.out
                    clear HA
                    simp only [lw14_IdleMeets.j3] at H
                    replace H := Option.bind_eq_some_iff.mp H
                    obtain ⟨⟨t262, t263, t264, t265, t266, t267⟩, A280, H⟩ := H
                    replace H : (if t262 = true then (some false) else ((idle_Idle_Late.f x229000_20 x229001_20 x229002_20 x229003_20 x229004_20 (wrap64 (x11_4 + x14_2))).bind fun bt268 => (if bt268.1 = true then (some false) else (lw14_IdleMeets.l0 kj20 a3 x11_4 (wrap64 (x14_2 + 1)) t263 t264 t265 t266 t267 bt268.2.1 bt268.2.2.1 bt268.2.2.2.1 bt268.2.2.2.2.1 bt268.2.2.2.2.2)))) = some r := H
                    have A28 := Aside0.mk A280
                    clear A280
                    by_cases c29 : t262 = true
                    · subst c29
                      have H1 : (some false) = some r := by rw [if_pos rfl] at H; exact H
                      clear H
                      have H := H1
                      clear H1
                      obtain rfl := Option.some.inj H
                      go_wp2_with (first | ((with_reducible refine gate_callee (f := 12) rfl ?_); refine goesL_ (some 76) rfl rfl Try.func12 (by kernel_rfl) rfl #[.pointer (some ⟨g222, 0, none⟩), .int .i64 (wrap64 (x11_4 + x14_2))] rfl (by (try simp only [List.map_toArray, List.map_cons, List.map_nil]); first | done | rfl | (simp only [List.length_drop, List.length_take]; rfl)) ?_; (with_reducible refine (idle_Idle_Late.calls g222 x223000_20 x223001_20 x223002_20 x223003_20 x223004_20 (wrap64 (x11_4 + x14_2)) true t263 t264 t265 t266 t267 w _ ?side1 ?side2 A28.out).mono ?_); (case side1 => repeat (first | (with_reducible first | exact HI222.out | apply IsS43.alloc | apply IsS43.drewN | apply IsS43.drew | apply IsS43.set_0 | apply IsS43.set_1 | apply IsS43.set_2 | apply IsS43.set_3 | apply IsS43.set_4) | exact HI222.out)); (case side2 => repeat (first | (with_reducible first | exact HB.out | apply below_alloc | apply pw_below_drewN | apply below_drew1 | refine below_set ?_ (IsS43.ge HI222.out) | refine below_set ?_ (IsS43.ge HI228.out)) | exact HB.out)); rintro e w30 ⟨rfl, hi, hb, hk⟩; refine ⟨_, rfl, ?_⟩; have n0_ := Aside0.mk (IsS43.beside (show IsS43 w _ g228 x229000_20 x229001_20 x229002_20 x229003_20 x229004_20 from by repeat (first | (with_reducible first | exact HI228.out | apply IsS43.alloc | apply IsS43.drewN | apply IsS43.drew | apply IsS43.set_0 | apply IsS43.set_1 | apply IsS43.set_2 | apply IsS43.set_3 | apply IsS43.set_4) | exact HI228.out)) hk NS228_222.out); have n1_ := Aside0.mk (hb); have n2_ := Aside0.mk (hi); clear HI228; clear HB; clear HI222; have HI228 := n0_; have HB := n1_; have HI222 := n2_; clear n0_ n1_ n2_; (try clear hb); (try clear hb2); (try clear hk); (try clear hi); (try clear hgw)))
                      go_ret
                      exact ⟨by first | rfl | (simp [errW_none, errW_some] <;> rfl) | (simp [*, errW_none, errW_some] <;> rfl), by repeat (first | (with_reducible first | exact HB.out | apply below_alloc | apply pw_below_drewN | apply below_drew1 | refine below_set ?_ (IsS43.ge HI222.out) | refine below_set ?_ (IsS43.ge HI228.out)) | exact HB.out)⟩
                    · replace c29 := Bool.eq_false_iff.mpr c29
                      subst c29
                      have H1 : ((idle_Idle_Late.f x229000_20 x229001_20 x229002_20 x229003_20 x229004_20 (wrap64 (x11_4 + x14_2))).bind fun bt268 => (if bt268.1 = true then (some false) else (lw14_IdleMeets.l0 kj20 a3 x11_4 (wrap64 (x14_2 + 1)) t263 t264 t265 t266 t267 bt268.2.1 bt268.2.2.1 bt268.2.2.2.1 bt268.2.2.2.2.1 bt268.2.2.2.2.2))) = some r := by rw [if_neg (show ¬ (false = true) by decide)] at H; exact H
                      clear H
                      have H := H1
                      clear H1
                      replace H := Option.bind_eq_some_iff.mp H
                      obtain ⟨⟨t268, t269, t270, t271, t272, t273⟩, A310, H⟩ := H
                      replace H : (if t268 = true then (some false) else (lw14_IdleMeets.l0 kj20 a3 x11_4 (wrap64 (x14_2 + 1)) t263 t264 t265 t266 t267 t269 t270 t271 t272 t273)) = some r := H
                      have A31 := Aside0.mk A310
                      clear A310
                      by_cases c32 : t268 = true
                      · subst c32
                        have H1 : (some false) = some r := by rw [if_pos rfl] at H; exact H
                        clear H
                        have H := H1
                        clear H1
                        obtain rfl := Option.some.inj H
                        go_wp2_with (first | ((with_reducible refine gate_callee (f := 12) rfl ?_); refine goesL_ (some 76) rfl rfl Try.func12 (by kernel_rfl) rfl #[.pointer (some ⟨g222, 0, none⟩), .int .i64 (wrap64 (x11_4 + x14_2))] rfl (by (try simp only [List.map_toArray, List.map_cons, List.map_nil]); first | done | rfl | (simp only [List.length_drop, List.length_take]; rfl)) ?_; (with_reducible refine (idle_Idle_Late.calls g222 x223000_20 x223001_20 x223002_20 x223003_20 x223004_20 (wrap64 (x11_4 + x14_2)) false t263 t264 t265 t266 t267 w _ ?side1 ?side2 A28.out).mono ?_); (case side1 => repeat (first | (with_reducible first | exact HI222.out | apply IsS43.alloc | apply IsS43.drewN | apply IsS43.drew | apply IsS43.set_0 | apply IsS43.set_1 | apply IsS43.set_2 | apply IsS43.set_3 | apply IsS43.set_4) | exact HI222.out)); (case side2 => repeat (first | (with_reducible first | exact HB.out | apply below_alloc | apply pw_below_drewN | apply below_drew1 | refine below_set ?_ (IsS43.ge HI222.out) | refine below_set ?_ (IsS43.ge HI228.out)) | exact HB.out)); rintro e w33 ⟨rfl, hi, hb, hk⟩; refine ⟨_, rfl, ?_⟩; have n0_ := Aside0.mk (IsS43.beside (show IsS43 w _ g228 x229000_20 x229001_20 x229002_20 x229003_20 x229004_20 from by repeat (first | (with_reducible first | exact HI228.out | apply IsS43.alloc | apply IsS43.drewN | apply IsS43.drew | apply IsS43.set_0 | apply IsS43.set_1 | apply IsS43.set_2 | apply IsS43.set_3 | apply IsS43.set_4) | exact HI228.out)) hk NS228_222.out); have n1_ := Aside0.mk (hb); have n2_ := Aside0.mk (hi); clear HI228; clear HB; clear HI222; have HI228 := n0_; have HB := n1_; have HI222 := n2_; clear n0_ n1_ n2_; (try clear hb); (try clear hb2); (try clear hk); (try clear hi); (try clear hgw)) | (go_at_call 12; (with_reducible refine (idle_Idle_Late.calls g228 x229000_20 x229001_20 x229002_20 x229003_20 x229004_20 (wrap64 (x11_4 + x14_2)) true t269 t270 t271 t272 t273 w _ ?side1 ?side2 A31.out).mono ?_); (case side1 => repeat (first | (with_reducible first | exact HI228.out | apply IsS43.alloc | apply IsS43.drewN | apply IsS43.drew | apply IsS43.set_0 | apply IsS43.set_1 | apply IsS43.set_2 | apply IsS43.set_3 | apply IsS43.set_4) | exact HI228.out)); (case side2 => repeat (first | (with_reducible first | exact HB.out | apply below_alloc | apply pw_below_drewN | apply below_drew1 | refine below_set ?_ (IsS43.ge HI222.out) | refine below_set ?_ (IsS43.ge HI228.out)) | exact HB.out)); rintro e w34 ⟨rfl, hi, hb, hk⟩; have n0_ := Aside0.mk (IsS43.beside (show IsS43 w _ g222 t263 t264 t265 t266 t267 from by repeat (first | (with_reducible first | exact HI222.out | apply IsS43.alloc | apply IsS43.drewN | apply IsS43.drew | apply IsS43.set_0 | apply IsS43.set_1 | apply IsS43.set_2 | apply IsS43.set_3 | apply IsS43.set_4) | exact HI222.out)) hk NS222_228.out); have n1_ := Aside0.mk (hb); have n2_ := Aside0.mk (hi); clear HI222; clear HB; clear HI228; have HI222 := n0_; have HB := n1_; have HI228 := n2_; clear n0_ n1_ n2_; (try clear hb); (try clear hb2); (try clear hk); (try clear hi); (try clear hgw)))
                        go_ret
                        exact ⟨by first | rfl | (simp [errW_none, errW_some] <;> rfl) | (simp [*, errW_none, errW_some] <;> rfl), by repeat (first | (with_reducible first | exact HB.out | apply below_alloc | apply pw_below_drewN | apply below_drew1 | refine below_set ?_ (IsS43.ge HI222.out) | refine below_set ?_ (IsS43.ge HI228.out)) | exact HB.out)⟩
                      · replace c32 := Bool.eq_false_iff.mpr c32
                        subst c32
                        have H1 : (lw14_IdleMeets.l0 kj20 a3 x11_4 (wrap64 (x14_2 + 1)) t263 t264 t265 t266 t267 t269 t270 t271 t272 t273) = some r := by rw [if_neg (show ¬ (false = true) by decide)] at H; exact H
                        clear H
                        have H := H1
                        clear H1
                        have H' := Aside0.mk H
                        clear H
                        go_wp2_with (first | ((with_reducible refine gate_callee (f := 12) rfl ?_); refine goesL_ (some 76) rfl rfl Try.func12 (by kernel_rfl) rfl #[.pointer (some ⟨g222, 0, none⟩), .int .i64 (wrap64 (x11_4 + x14_2))] rfl (by (try simp only [List.map_toArray, List.map_cons, List.map_nil]); first | done | rfl | (simp only [List.length_drop, List.length_take]; rfl)) ?_; (with_reducible refine (idle_Idle_Late.calls g222 x223000_20 x223001_20 x223002_20 x223003_20 x223004_20 (wrap64 (x11_4 + x14_2)) false t263 t264 t265 t266 t267 w _ ?side1 ?side2 A28.out).mono ?_); (case side1 => repeat (first | (with_reducible first | exact HI222.out | apply IsS43.alloc | apply IsS43.drewN | apply IsS43.drew | apply IsS43.set_0 | apply IsS43.set_1 | apply IsS43.set_2 | apply IsS43.set_3 | apply IsS43.set_4) | exact HI222.out)); (case side2 => repeat (first | (with_reducible first | exact HB.out | apply below_alloc | apply pw_below_drewN | apply below_drew1 | refine below_set ?_ (IsS43.ge HI222.out) | refine below_set ?_ (IsS43.ge HI228.out)) | exact HB.out)); rintro e w35 ⟨rfl, hi, hb, hk⟩; refine ⟨_, rfl, ?_⟩; have n0_ := Aside0.mk (IsS43.beside (show IsS43 w _ g228 x229000_20 x229001_20 x229002_20 x229003_20 x229004_20 from by repeat (first | (with_reducible first | exact HI228.out | apply IsS43.alloc | apply IsS43.drewN | apply IsS43.drew | apply IsS43.set_0 | apply IsS43.set_1 | apply IsS43.set_2 | apply IsS43.set_3 | apply IsS43.set_4) | exact HI228.out)) hk NS228_222.out); have n1_ := Aside0.mk (hb); have n2_ := Aside0.mk (hi); clear HI228; clear HB; clear HI222; have HI228 := n0_; have HB := n1_; have HI222 := n2_; clear n0_ n1_ n2_; (try clear hb); (try clear hb2); (try clear hk); (try clear hi); (try clear hgw)) | (go_at_call 12; (with_reducible refine (idle_Idle_Late.calls g228 x229000_20 x229001_20 x229002_20 x229003_20 x229004_20 (wrap64 (x11_4 + x14_2)) false t269 t270 t271 t272 t273 w _ ?side1 ?side2 A31.out).mono ?_); (case side1 => repeat (first | (with_reducible first | exact HI228.out | apply IsS43.alloc | apply IsS43.drewN | apply IsS43.drew | apply IsS43.set_0 | apply IsS43.set_1 | apply IsS43.set_2 | apply IsS43.set_3 | apply IsS43.set_4) | exact HI228.out)); (case side2 => repeat (first | (with_reducible first | exact HB.out | apply below_alloc | apply pw_below_drewN | apply below_drew1 | refine below_set ?_ (IsS43.ge HI222.out) | refine below_set ?_ (IsS43.ge HI228.out)) | exact HB.out)); rintro e w36 ⟨rfl, hi, hb, hk⟩; have n0_ := Aside0.mk (IsS43.beside (show IsS43 w _ g222 t263 t264 t265 t266 t267 from by repeat (first | (with_reducible first | exact HI222.out | apply IsS43.alloc | apply IsS43.drewN | apply IsS43.drew | apply IsS43.set_0 | apply IsS43.set_1 | apply IsS43.set_2 | apply IsS43.set_3 | apply IsS43.set_4) | exact HI222.out)) hk NS222_228.out); have n1_ := Aside0.mk (hb); have n2_ := Aside0.mk (hi); clear HI222; clear HB; clear HI228; have HI222 := n0_; have HB := n1_; have HI228 := n2_; clear n0_ n1_ n2_; (try clear hb); (try clear hb2); (try clear hk); (try clear hi); (try clear hgw)))
                        go_roundg kj20
                        case measure => have := HJ4.out; have := HK2.out; have := HJ12.out; have := HJ20.out; omega
                        case rel => exact ⟨(wrap64 (x14_2 + 1)), (t263), (t264), (t265), (t266), (t267), (t269), (t270), (t271), (t272), (t273), (by first | rfl | (simp; done) | (simp [*]; done)), H', ⟨by have := HJ4.out; have := HK2.out; have := HJ12.out; have := HJ20.out; omega⟩, ⟨by repeat (first | (with_reducible first | exact HI222.out | apply IsS43.alloc | apply IsS43.drewN | apply IsS43.drew | apply IsS43.set_0 | apply IsS43.set_1 | apply IsS43.set_2 | apply IsS43.set_3 | apply IsS43.set_4) | exact HI222.out)⟩, ⟨by repeat (first | (with_reducible first | exact HI228.out | apply IsS43.alloc | apply IsS43.drewN | apply IsS43.drew | apply IsS43.set_0 | apply IsS43.set_1 | apply IsS43.set_2 | apply IsS43.set_3 | apply IsS43.set_4) | exact HI228.out)⟩, ⟨by repeat (first | (with_reducible first | exact HB.out | apply below_alloc | apply pw_below_drewN | apply below_drew1 | refine below_set ?_ (IsS43.ge HI222.out) | refine below_set ?_ (IsS43.ge HI228.out)) | exact HB.out)⟩⟩
          · rw [if_neg c11] at H
            have c11b0 : decide (x14_2 ≤ (wrap64 (Int.tmod a3 500))) = false := decide_eq_false c11
            clear c11
            replace H := Option.bind_eq_some_iff.mp H
            obtain ⟨t229, A370, H⟩ := H
            replace H : (some t229) = some r := H
            have A37 := Aside0.mk A370
            clear A370
            obtain rfl := Option.some.inj H
            go_wp2_with (first | ((with_reducible refine gate_callee (f := 13) rfl ?_); refine goesL_ (some 84) rfl rfl Try.func13 (by kernel_rfl) rfl #[] rfl (by (try simp only [List.map_toArray, List.map_cons, List.map_nil]); first | done | rfl | (simp only [List.length_drop, List.length_take]; rfl)) ?_; (with_reducible refine (lw14_works.calls k2  t229 _ A37.out).mono ?_); rintro e w38 ⟨rfl, hb⟩; refine ⟨_, rfl, ?_⟩; have n0_ := Aside0.mk (IsS43.below (by repeat (first | (with_reducible first | exact HI222.out | apply IsS43.alloc | apply IsS43.drewN | apply IsS43.drew | apply IsS43.set_0 | apply IsS43.set_1 | apply IsS43.set_2 | apply IsS43.set_3 | apply IsS43.set_4) | exact HI222.out)) hb); have n1_ := Aside0.mk (IsS43.below (by repeat (first | (with_reducible first | exact HI228.out | apply IsS43.alloc | apply IsS43.drewN | apply IsS43.drew | apply IsS43.set_0 | apply IsS43.set_1 | apply IsS43.set_2 | apply IsS43.set_3 | apply IsS43.set_4) | exact HI228.out)) hb); have n2_ := Aside0.mk (below_step (by repeat (first | (with_reducible first | exact HB.out | apply below_alloc | apply pw_below_drewN | apply below_drew1 | refine below_set ?_ (IsS43.ge HI222.out) | refine below_set ?_ (IsS43.ge HI228.out)) | exact HB.out)) hb); clear HI222; clear HI228; clear HB; have HI222 := n0_; have HI228 := n1_; have HB := n2_; clear n0_ n1_ n2_; (try clear hb); (try clear hb2); (try clear hk); (try clear hi); (try clear hgw)))
            go_ret
            exact ⟨by first | rfl | (simp [errW_none, errW_some] <;> rfl) | (simp [*, errW_none, errW_some] <;> rfl), by repeat (first | (with_reducible first | exact HB.out | apply below_alloc | apply pw_below_drewN | apply below_drew1 | refine below_set ?_ (IsS43.ge HI222.out) | refine below_set ?_ (IsS43.ge HI228.out)) | exact HB.out)⟩

/-- THE ONE PURE STATEMENT of lw14_IdleMeets: yours. -/
def lw14_IdleMeets.Pure : Prop := ∀ (a0 : Int) (a1 : Int) (a2 : Int) (a3 : Int), (Lit.int .u32 a0).wf = true → (Lit.int .u32 a1).wf = true → (Lit.int .i64 a2).wf = true → (Lit.int .u16 a3).wf = true → ∃ k, lw14_IdleMeets.f k a0 a1 a2 a3 = some true
theorem lw14_IdleMeets.walk (P : lw14_IdleMeets.Pure) (a0 : Int) (a1 : Int) (a2 : Int) (a3 : Int) (w : World) (w0 : (Lit.int .u32 a0).wf = true) (w1 : (Lit.int .u32 a1).wf = true) (w2 : (Lit.int .i64 a2).wf = true) (w3 : (Lit.int .u16 a3).wf = true) :
    Calls Try.prog 3 #[.int .u32 a0, .int .u32 a1, .int .i64 a2, .int .u16 a3] w fun e w' => e = .returned (.bool true) ∧ Below w.heap.size w w' := by
  obtain ⟨k, h⟩ := P a0 a1 a2 a3 w0 w1 w2 w3
  refine (lw14_IdleMeets.calls k a0 a1 a2 a3 true w h).mono ?_
  rintro e w' ⟨rfl, hd⟩
  exact ⟨rfl, hd⟩

end Go.Proofs.Ytfnoldogodfinaa.PIdleMeets
