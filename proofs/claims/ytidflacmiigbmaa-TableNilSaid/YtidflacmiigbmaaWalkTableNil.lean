/- The walk of TableNil: where there is no table each answer is the one of none; and of which numbers there may be one; for all inputs. No condition of our own. -/
import Derived.Test.YtidflacmiigbmaaTabW
namespace Go.Proofs.Ytidflacmiigbmaa.Tab
open Go.RowKit Go.Maps Go.Proofs.YtidflacmiigbmaaW.PrintWords Go.Proofs.YtidflacmiigbmaaW.PrintMore
set_option linter.unusedVariables false
set_option maxHeartbeats 8000000 in
set_option maxRecDepth 100000 in
theorem TableNil_walk (n m : Int) (W : World) (hn : (Lit.int .i64 n).wf = true) (hm : (Lit.int .i64 m).wf = true) : Calls Try.prog 4 #[.int .i64 n, .int .i64 m] W fun e W' => e = .returned (.bool true) ∧ Below W.heap.size W W' := by
  by_cases a : 0 ≤ m ∧ m ≤ 65535
  · have b1 : decide (0 ≤ m) = true := decide_eq_true a.1
    have b2 : decide (m ≤ 65535) = true := decide_eq_true a.2
    have C0 := Aside0.mk (fun W1 (hB : Below W.heap.size W W1) => new_calls (w0 := W) (W := W1) m a.1 a.2 hB)
    have HS := Aside0.mk (Below.refl W.heap.size W)
    clear a
    go_enter Try.func4, Try.ntmps4
    go_wp2_with (first
      | (go_at_call 14; refine (nil_take _).mono ?_; rintro e W1 ⟨rfl, rfl⟩)
      | (go_at_call 12; refine (nil_has _ _).mono ?_; rintro e W1 ⟨rfl, rfl⟩)
      | (go_at_call 15; refine (nil_hold _ _).mono ?_; rintro e W1 ⟨rfl, rfl⟩)
      | (go_at_call 16; refine (nil_free _ _).mono ?_; rintro e W1 ⟨rfl, rfl⟩)
      | (go_at_call 13; refine (nil_count _).mono ?_; rintro e W1 ⟨rfl, rfl⟩)
      | (go_at_call 11; refine (nil_all _).mono ?_; rintro e W1 ⟨rfl, rfl⟩)
      | (go_at_call 17; refine (nil_most _).mono ?_; rintro e W1 ⟨rfl, rfl⟩)
      | (go_at_call 9; refine (C0.out _ HS.out).mono ?_; rintro e W2 ⟨g, bm, rfl, hT, hb, _⟩; have H2 := Aside0.mk hb; clear hT hb)
      | (go_at_call 8; refine (works_calls _).mono ?_; rintro e W3 ⟨rfl, hb⟩; have H3 := Aside0.mk (below_step H2.out hb); clear hb))
    all_goals (go_ret; exact ⟨rfl, H3.out⟩)
  · have b1 : (decide (0 ≤ m) && decide (m ≤ 65535)) = false := by simpa using a
    have HS := Aside0.mk (Below.refl W.heap.size W)
    by_cases c : 0 ≤ m
    · have b2 : decide (0 ≤ m) = true := decide_eq_true c
      have b3 : decide (m ≤ 65535) = false := decide_eq_false (fun z => a ⟨c, z⟩)
      go_enter Try.func4, Try.ntmps4
      go_wp2_with (first
        | (go_at_call 14; refine (nil_take _).mono ?_; rintro e W1 ⟨rfl, rfl⟩)
        | (go_at_call 12; refine (nil_has _ _).mono ?_; rintro e W1 ⟨rfl, rfl⟩)
        | (go_at_call 15; refine (nil_hold _ _).mono ?_; rintro e W1 ⟨rfl, rfl⟩)
        | (go_at_call 16; refine (nil_free _ _).mono ?_; rintro e W1 ⟨rfl, rfl⟩)
        | (go_at_call 13; refine (nil_count _).mono ?_; rintro e W1 ⟨rfl, rfl⟩)
        | (go_at_call 11; refine (nil_all _).mono ?_; rintro e W1 ⟨rfl, rfl⟩)
        | (go_at_call 17; refine (nil_most _).mono ?_; rintro e W1 ⟨rfl, rfl⟩)
        | (go_at_call 9; refine (new_none m a).mono ?_; rintro e W2 ⟨rfl, hb⟩; have H2 := Aside0.mk hb; clear hb)
        | (go_at_call 8; refine (works_calls _).mono ?_; rintro e W3 ⟨rfl, hb⟩; have H3 := Aside0.mk (below_step H2.out hb); clear hb))
      all_goals (go_ret; exact ⟨rfl, H3.out⟩)
    · have b2 : decide (0 ≤ m) = false := decide_eq_false c
      go_enter Try.func4, Try.ntmps4
      go_wp2_with (first
        | (go_at_call 14; refine (nil_take _).mono ?_; rintro e W1 ⟨rfl, rfl⟩)
        | (go_at_call 12; refine (nil_has _ _).mono ?_; rintro e W1 ⟨rfl, rfl⟩)
        | (go_at_call 15; refine (nil_hold _ _).mono ?_; rintro e W1 ⟨rfl, rfl⟩)
        | (go_at_call 16; refine (nil_free _ _).mono ?_; rintro e W1 ⟨rfl, rfl⟩)
        | (go_at_call 13; refine (nil_count _).mono ?_; rintro e W1 ⟨rfl, rfl⟩)
        | (go_at_call 11; refine (nil_all _).mono ?_; rintro e W1 ⟨rfl, rfl⟩)
        | (go_at_call 17; refine (nil_most _).mono ?_; rintro e W1 ⟨rfl, rfl⟩)
        | (go_at_call 9; refine (new_none m a).mono ?_; rintro e W2 ⟨rfl, hb⟩; have H2 := Aside0.mk hb; clear hb)
        | (go_at_call 8; refine (works_calls _).mono ?_; rintro e W3 ⟨rfl, hb⟩; have H3 := Aside0.mk (below_step H2.out hb); clear hb))
      all_goals (go_ret; exact ⟨rfl, H3.out⟩)
end Go.Proofs.Ytidflacmiigbmaa.Tab
