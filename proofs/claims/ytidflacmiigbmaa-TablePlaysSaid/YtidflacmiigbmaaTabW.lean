/- What a law's own small functions do with a table: no table at all, a step, and the anchor. No condition of our own. -/
import Derived.Test.YtidflacmiigbmaaTabAll
namespace Go.Proofs.Ytidflacmiigbmaa.Tab
open Go.RowKit Go.Maps Go.Proofs.YtidflacmiigbmaaW.PrintWords Go.Proofs.YtidflacmiigbmaaW.PrintMore
set_option linter.unusedVariables false
variable {w0 W W' : World} {g bm : Nat} {most : Int} {h : Int → Bool} {N : Nat}
/-! ### no table -/
set_option maxHeartbeats 4000000 in
set_option maxRecDepth 100000 in
theorem nil_most (W : World) : Calls Try.prog 17 #[.pointer none] W fun e W' => e = .returned (.int .i64 (-1)) ∧ W' = W := by
  go_enter Try.func17, Try.ntmps17
  go_wp2
  go_ret
  exact ⟨rfl, rfl⟩
set_option maxHeartbeats 4000000 in
set_option maxRecDepth 100000 in
theorem nil_has (W : World) (x : Int) : Calls Try.prog 12 #[.pointer none, .int .i64 x] W fun e W' => e = .returned (.bool false) ∧ W' = W := by
  go_enter Try.func12, Try.ntmps12
  go_wp2
  go_ret
  exact ⟨rfl, rfl⟩
set_option maxHeartbeats 4000000 in
set_option maxRecDepth 100000 in
theorem nil_hold (W : World) (x : Int) : Calls Try.prog 15 #[.pointer none, .int .i64 x] W fun e W' => e = .returned (.bool false) ∧ W' = W := by
  by_cases a : x < 0
  · have a1 : decide (x < 0) = true := decide_eq_true a
    go_enter Try.func15, Try.ntmps15
    go_wp2
    go_ret
    exact ⟨rfl, rfl⟩
  · have a1 : decide (x < 0) = false := decide_eq_false a
    have a2 : decide (-1 < x) = true := decide_eq_true (by omega)
    go_enter Try.func15, Try.ntmps15
    go_wp2_with (first | (go_at_call 17; refine (nil_most _).mono ?_; rintro e W1 ⟨rfl, rfl⟩))
    go_ret
    exact ⟨rfl, rfl⟩
set_option maxHeartbeats 4000000 in
set_option maxRecDepth 100000 in
theorem nil_free (W : World) (x : Int) : Calls Try.prog 16 #[.pointer none, .int .i64 x] W fun e W' => e = .returned (.bool false) ∧ W' = W := by
  go_enter Try.func16, Try.ntmps16
  go_wp2_with (first | (go_at_call 12; refine (nil_has _ _).mono ?_; rintro e W1 ⟨rfl, rfl⟩))
  go_ret
  exact ⟨rfl, rfl⟩
set_option maxHeartbeats 4000000 in
set_option maxRecDepth 100000 in
theorem nil_all (W : World) : Calls Try.prog 11 #[.pointer none] W fun e W' => e = .returned (.slice none 0 0) ∧ W' = W := by
  go_enter Try.func11, Try.ntmps11
  go_wp2
  go_ret
  exact ⟨rfl, rfl⟩
set_option maxHeartbeats 4000000 in
set_option maxRecDepth 100000 in
theorem nil_count (W : World) : Calls Try.prog 13 #[.pointer none] W fun e W' => e = .returned (.int .i64 0) ∧ W' = W := by
  go_enter Try.func13, Try.ntmps13
  go_wp2_with (first | (go_at_call 11; refine (nil_all _).mono ?_; rintro e W1 ⟨rfl, rfl⟩))
  go_ret
  exact ⟨rfl, rfl⟩
set_option maxHeartbeats 4000000 in
set_option maxRecDepth 100000 in
theorem nil_take (W : World) : Calls Try.prog 14 #[.pointer none] W fun e W' => e = .returned (.tuple #[.int .i64 0, .bool false]) ∧ W' = W := by
  go_enter Try.func14, Try.ntmps14
  go_wp2
  go_loopg [4] 1 (fun kq v4 w' => v4 = .int .i64 0 ∧ w' = W)
  case atStart => exact ⟨rfl, rfl⟩
  case round =>
    obtain ⟨rfl, rfl⟩ := hrel
    go_wp2_with (first | (go_at_call 17; refine (nil_most _).mono ?_; rintro e W1 ⟨rfl, rfl⟩))
    go_ret2
    exact ⟨rfl, rfl⟩
/-! ### a step -/
def holdH (h : Int → Bool) (most x : Int) : Int → Bool := if holdR h most x = true then put1 h x true else h
def doA (h : Int → Bool) (most k n : Int) : Int := if k = 1 then takeA h most else 0
def doB (h : Int → Bool) (most k n : Int) : Bool := if k = 0 then holdR h most n else if k = 1 then takeB h most else if k = 2 then h n else true
def doH (h : Int → Bool) (most k n : Int) : Int → Bool := if k = 0 then holdH h most n else if k = 1 then takeH h most else if k = 2 then put1 h n false else h
theorem takeN_le : takeN h most N ≤ N + 1 := by unfold takeN; split <;> omega
theorem hold_calls2 (T : Tb w0 W g bm most h N) (x : Int) (hx : (Lit.int .i64 x).wf = true) (hN : N < 1000000) : Calls Try.prog 15 #[.pointer (some ⟨g, 0, none⟩), .int .i64 x] W fun e W' => e = .returned (.bool (holdR h most x)) ∧ Tb w0 W' g bm most (holdH h most x) (N + 1) ∧ W.grownBy W' (some bm) :=
  (hold_calls T x hx hN).mono fun e W' ⟨h1, h2, h3⟩ => ⟨h1, h2.more (by split <;> omega), h3⟩
theorem grown_alloc {b : Option Nat} {o : Obj} {W2 : World} (hg : (W.alloc o).grownBy W2 b) : W.grownBy W2 b := grown_trans (grown_weak (grown_of_below (below_alloc (Below.refl _ _) o))) hg
set_option maxHeartbeats 4000000 in
set_option maxRecDepth 100000 in
theorem do_calls (T : Tb w0 W g bm most h N) (k n : Int) (hn : (Lit.int .i64 n).wf = true) (hN : N < 1000000) : Calls Try.prog 10 #[.pointer (some ⟨g, 0, none⟩), .agg #[.int .i64 k, .int .i64 n]] W fun e W' => e = .returned (.tuple #[.int .i64 (doA h most k n), .bool (doB h most k n)]) ∧ Tb w0 W' g bm most (doH h most k n) (N + 1) ∧ W.grownBy W' (some bm) := by
  have T0 := Aside0.mk (T.kept (below_alloc (Below.refl _ _) (Obj.cells #[.int .i64 k, .int .i64 n] 31)))
  have hu31 := Try.underlying31
  clear T
  by_cases k0 : k = 0
  · subst k0
    have e1 : doA h most 0 n = 0 := rfl
    have e2 : doB h most 0 n = holdR h most n := rfl
    have e3 : doH h most 0 n = holdH h most n := rfl
    rw [e1, e2, e3]
    go_enter Try.func10, Try.ntmps10
    go_wp2_with (first | (go_at_call 15; refine (hold_calls2 T0.out n hn hN).mono ?_; rintro e W1 ⟨rfl, hT, hg⟩; have T2 := Aside0.mk hT; have G2 := Aside0.mk hg; clear hT hg))
    all_goals (go_ret2; exact ⟨rfl, T2.out, grown_alloc G2.out⟩)
  by_cases k1 : k = 1
  · subst k1
    have e1 : doA h most 1 n = takeA h most := rfl
    have e2 : doB h most 1 n = takeB h most := rfl
    have e3 : doH h most 1 n = takeH h most := rfl
    rw [e1, e2, e3]
    go_enter Try.func10, Try.ntmps10
    go_wp2_with (first | (go_at_call 14; refine (take_calls T0.out hN).mono ?_; rintro e W1 ⟨rfl, hT, hg⟩; have T2 := Aside0.mk (hT.more takeN_le); have G2 := Aside0.mk hg; clear hT hg))
    all_goals (go_ret2; exact ⟨rfl, T2.out, grown_alloc G2.out⟩)
  by_cases k2 : k = 2
  · subst k2
    have e1 : doA h most 2 n = 0 := rfl
    have e2 : doB h most 2 n = h n := rfl
    have e3 : doH h most 2 n = put1 h n false := rfl
    rw [e1, e2, e3]
    go_enter Try.func10, Try.ntmps10
    go_wp2_with (first | (go_at_call 16; refine (free_calls T0.out n hn).mono ?_; rintro e W1 ⟨rfl, hT, hg⟩; have T2 := Aside0.mk (hT.more (Nat.le_succ N)); have G2 := Aside0.mk hg; clear hT hg))
    all_goals (go_ret2; exact ⟨rfl, T2.out, grown_alloc G2.out⟩)
  · have e1 : doA h most k n = 0 := by unfold doA; rw [if_neg k1]
    have e2 : doB h most k n = true := by unfold doB; rw [if_neg k0, if_neg k1, if_neg k2]
    have e3 : doH h most k n = h := by unfold doH; rw [if_neg k0, if_neg k1, if_neg k2]
    rw [e1, e2, e3]
    have b0 : (k == 0) = false := beq_eq_false_iff_ne.mpr k0
    have b1 : (k == 1) = false := beq_eq_false_iff_ne.mpr k1
    have b2 : (k == 2) = false := beq_eq_false_iff_ne.mpr k2
    go_enter Try.func10, Try.ntmps10
    go_wp2
    all_goals (go_ret2; exact ⟨rfl, T0.out.more (Nat.le_succ N), grown_weak (grown_of_below (below_alloc (Below.refl _ _) _))⟩)
/-! ### the anchor -/
def g0 : Int → Bool := fun _ => false
def g1 : Int → Bool := put1 g0 0 true
def g2 : Int → Bool := put1 g1 1 true
def g3 : Int → Bool := put1 g2 2 true
def g4 : Int → Bool := put1 g3 1 false
def g5 : Int → Bool := put1 g4 1 true
theorem w_take (h h' : Int → Bool) (a : Int) (b : Bool) (ha : takeA h 2 = a) (hb : takeB h 2 = b) (hh : takeH h 2 = h') (T : Tb w0 W g bm 2 h N) (hN : N < 1000000) : Calls Try.prog 14 #[.pointer (some ⟨g, 0, none⟩)] W fun e W' => e = .returned (.tuple #[.int .i64 a, .bool b]) ∧ Tb w0 W' g bm 2 h' (N + 1) ∧ W.grownBy W' (some bm) :=
  (take_calls T hN).mono fun e W' ⟨h1, h2, h3⟩ => ⟨by rw [h1, ha, hb], by rw [← hh]; exact h2.more takeN_le, h3⟩
theorem w_hold (h h' : Int → Bool) (x : Int) (b : Bool) (hx : (Lit.int .i64 x).wf = true) (hb : holdR h 2 x = b) (hh : holdH h 2 x = h') (T : Tb w0 W g bm 2 h N) (hN : N < 1000000) : Calls Try.prog 15 #[.pointer (some ⟨g, 0, none⟩), .int .i64 x] W fun e W' => e = .returned (.bool b) ∧ Tb w0 W' g bm 2 h' (N + 1) ∧ W.grownBy W' (some bm) :=
  (hold_calls2 T x hx hN).mono fun e W' ⟨h1, h2, h3⟩ => ⟨by rw [h1, hb], by rw [← hh]; exact h2, h3⟩
set_option maxHeartbeats 8000000 in
set_option maxRecDepth 100000 in
theorem works_calls (W : World) : Calls Try.prog 8 #[] W fun e W' => e = .returned (.bool true) ∧ Below W.heap.size W W' := by
  have C0 := Aside0.mk (fun W1 (hB : Below W.heap.size W W1) => new_calls (w0 := W) (W := W1) 2 (by decide) (by decide) hB)
  have HS := Aside0.mk (Below.refl W.heap.size W)
  go_enter Try.func8, Try.ntmps8
  go_wp2_with (first
    | (go_at_call 9; refine (C0.out _ HS.out).mono ?_; rintro e W1 ⟨g, bm, rfl, hT, _⟩; have T0 := Aside0.mk (show Tb W W1 g bm 2 g0 0 from hT); clear hT)
    | (go_at_call 14; have _t := T0; refine (w_take g0 g1 0 true (by decide) (by decide) rfl T0.out (by decide)).mono ?_; rintro e W2 ⟨rfl, hT, _⟩; have T1 := Aside0.mk hT; clear hT T0 _t)
    | (go_at_call 15; have _t := T1; refine (w_hold g1 g2 1 true (by decide) (by decide) rfl T1.out (by decide)).mono ?_; rintro e W3 ⟨rfl, hT, _⟩; have T2 := Aside0.mk hT; clear hT T1 _t)
    | (go_at_call 14; have _t := T2; refine (w_take g2 g3 2 true (by decide) (by decide) rfl T2.out (by decide)).mono ?_; rintro e W4 ⟨rfl, hT, _⟩; have T3 := Aside0.mk hT; clear hT T2 _t)
    | (go_at_call 14; have _t := T3; refine (w_take g3 g3 0 false (by decide) (by decide) rfl T3.out (by decide)).mono ?_; rintro e W5 ⟨rfl, hT, _⟩; have T4 := Aside0.mk hT; clear hT T3 _t)
    | (go_at_call 16; have _t := T4; refine (free_calls T4.out 1 (by decide)).mono ?_; rintro e W6 ⟨rfl, hT, _⟩; rw [show g3 1 = true from rfl]; have T5 := Aside0.mk (show Tb W W6 g bm 2 g4 _ from hT); clear hT T4 _t)
    | (go_at_call 14; have _t := T5; refine (w_take g4 g5 1 true (by decide) (by decide) rfl T5.out (by decide)).mono ?_; rintro e W7 ⟨rfl, hT, _⟩; have T6 := Aside0.mk hT; clear hT T5 _t)
    | (go_at_call 13; have _t := T6; refine (count_calls T6.out (by decide)).mono ?_; rintro e W8 ⟨rfl, hb⟩; rw [show ((heldL g5 2).length : Int) = 3 from by decide]; have T7 := Aside0.mk (T6.out.kept hb); clear hb T6 _t)
    | (go_at_call 17; have _t := T7; refine (most_calls T7.out).mono ?_; rintro e W9 ⟨rfl, hb⟩; have T8 := Aside0.mk (T7.out.kept hb); clear hb T7 _t))
  all_goals (go_ret; exact ⟨rfl, T8.out.bel⟩)
end Go.Proofs.Ytidflacmiigbmaa.Tab
