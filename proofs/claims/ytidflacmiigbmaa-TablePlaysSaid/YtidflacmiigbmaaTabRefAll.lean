/- The reference's All, and the law's same: the numbers that are held, rising. No condition of our own. -/
import Derived.Test.YtidflacmiigbmaaTabRef
import Derived.Deep.Draws
import Derived.Deep.QuietTactic
import Derived.BigQuiet
import Derived.OrdersHeld
import Derived.Test.YtidflacmiigbmaaWLast
namespace Go.Proofs.Ytidflacmiigbmaa.Tab
open Go.RowKit Go.Maps Go.Proofs.YtidflacmiigbmaaW.PrintWords Go.Proofs.YtidflacmiigbmaaW.PrintLast Go.Proofs.YtidflacmiigbmaaW.PrintMore
set_option linter.unusedVariables false
theorem info3 : (Try.prog.info? 3).map (fun i => (i.zero, i.size, i.bytes)) = some (some (.int .i64 0), 1, 8) := by kernel_rfl
/-- The numbers below k that are held, rising. -/
def heldK (h : Int → Bool) (k : Nat) : List Int := ((List.range k).map fun i : Nat => (i : Int)).filter h
theorem heldK_succ (h : Int → Bool) (k : Nat) : heldK h (k + 1) = heldK h k ++ (if h (k : Int) = true then [(k : Int)] else []) := by
  unfold heldK
  rw [List.range_succ, List.map_append, List.filter_append]
  congr 1
  cases e : h (k : Int) <;> simp [e]
theorem heldK_length (h : Int → Bool) (k : Nat) : (heldK h k).length ≤ k := by
  unfold heldK
  have := List.length_filter_le h ((List.range k).map fun i : Nat => (i : Int))
  simpa using this
variable {w0 W W' : World} {r gh ch m : Nat} {most : Int} {h : Int → Bool}
set_option maxHeartbeats 8000000 in
set_option maxRecDepth 100000 in
theorem rall_calls (T : Rb w0 W r gh ch m most h) : Calls Try.prog 21 #[.pointer (some ⟨r, 0, none⟩)] W fun e W' => ∃ v, e = .returned v ∧ Kd.R (Kd.int .i64) 3 W' W.heap.size (fun _ => True) v (heldL h most) ∧ Below W.heap.size W W' := by
  have HT := Aside0.mk T
  have M0 := Aside0.mk T.m0
  have ME := Aside0.mk T.me
  have hL : heldL h most = heldK h m := by
    have : m = most.toNat + 1 := by have := T.me; have := T.m0; omega
    rw [this]; rfl
  rw [hL]
  clear T hL
  go_enter Try.func21, Try.ntmps21
  go_wp2
  go_loopg [3, 4] m (fun kq v3 v4 w' => ∃ i : Nat, v4 = .int .i64 (i : Int) ∧ Aside0 (i + kq = m) ∧ Aside0 (Kd.R (Kd.int .i64) 3 w' W.heap.size (fun _ => True) v3 (heldK h i)) ∧ Aside0 (Below W.heap.size W w'))
  case atStart => exact ⟨0, rfl, ⟨by omega⟩, ⟨Kd.R_nil _ _ _ _ _⟩, ⟨Below.refl _ _⟩⟩
  case round =>
    obtain ⟨i, rfl, HI, HO, HB⟩ := hrel
    have T1 := HT.out.kept HB.out
    have c0 := T1.cell0
    cases gk with
    | zero =>
      have d1 : decide ((i : Int) < (m : Int)) = false := decide_eq_false (by have := HI.out; omega)
      have d1n : decide (i < m) = false := decide_eq_false (by have := HI.out; omega)
      obtain ⟨e5⟩ : Aside0 (i = m) := ⟨by have := HI.out; omega⟩
      clear T1
      go_wp2
      go_ret
      exact ⟨_, rfl, by rw [← e5]; exact HO.out, HB.out⟩
    | succ k1 =>
      have d1 : decide ((i : Int) < (m : Int)) = true := decide_eq_true (by have := HI.out; omega)
      have d1n : decide (i < m) = true := decide_eq_true (by have := HI.out; omega)
      have p1 : (0 ≤ (i : Int)) = True := eq_true (by omega)
      have p2 : ((i : Int) < (m : Int)) = True := eq_true (by have := HI.out; omega)
      have p3 : (i < m) = True := eq_true (by have := HI.out; omega)
      have d5 : IntKind.i64.wrap ((i : Int) + 1) = ((i + 1 : Nat) : Int) := by rw [IntKind.wrap_i64]; have := HI.out; have := M0.out; have := ME.out; omega
      obtain ⟨hcl, hfz⟩ := T1.at_ (i : Int) (by omega) (by have := HI.out; have := ME.out; omega)
      rw [Int.toNat_natCast] at hcl
      have hs := heldK_succ h i
      have HLn := Aside0.mk (heldK_length h i)
      clear T1 hfz
      cases hx : h (i : Int) with
      | false =>
        rw [hx] at hcl
        rw [if_neg (by rw [hx]; decide), List.append_nil] at hs
        have HS := Aside0.mk hs
        clear hs
        go_wp2
        go_roundg k1
        case measure => omega
        case rel => exact ⟨i + 1, by first | rfl | (simp; done), ⟨by have := HI.out; omega⟩, ⟨by rw [HS.out]; exact HO.out⟩, HB⟩
      | true =>
        rw [hx] at hcl
        rw [if_pos hx] at hs
        have HS := Aside0.mk hs
        clear hs
        go_wp2_with (first | ((with_reducible refine gate_builtin (b := .append) (xs := #[.tmp 21, .tmp 23]) rfl ?_); at_builtin; refine Kd.R_append (Kd.int .i64) (w0 := W) W.heap.size rfl (.tmp 21) (.tmp 23) 32 3 (.int .i64 0) 8 rfl Try.underlying32 info3 rfl (by decide) (by omega) _ (heldK h i) (i : Int) [.int .i64 (i : Int)] (fun _ => True) (fun _ => False) rfl rfl ?aP (fun _ hk => hk.elim) (fun _ _ => trivial) ?aO ?aB ?aS ?aL ?_; (case aP => exact rfl); (case aO => exact HO.out); (case aB => exact HB.out); (case aS => exact HB.out.size); (case aL => have := HLn.out; have := HI.out; have := ME.out; have := M0.out; omega); intro v1 w10 ho hb hg hat; rw [← HS.out] at ho; have O1 := Aside0.mk ho; have B1 := Aside0.mk hb; clear ho hb hg hat))
        go_roundg k1
        case measure => omega
        case rel => exact ⟨i + 1, by first | rfl | (simp; done), ⟨by have := HI.out; omega⟩, O1, B1⟩
set_option maxHeartbeats 8000000 in
set_option maxRecDepth 100000 in
theorem same_calls (A0 : Option Addr) (c0 : Nat) (A1 : Option Addr) (c1 : Nat) (l : List Int) (hl : l.length ≤ maxLen) (hr0 : Kd.C (Kd.int .i64) W A0 l.length l) (hr1 : Kd.C (Kd.int .i64) W A1 l.length l) :
    Calls Try.prog 22 #[.slice A0 l.length c0, .slice A1 l.length c1] W fun e W' => e = .returned (.bool true) ∧ Below W.heap.size W W' := by
  have HR0 := Aside0.mk hr0
  have HR1 := Aside0.mk hr1
  have HL := Aside0.mk hl
  clear hr0 hr1 hl
  go_enter Try.func22, Try.ntmps22
  go_wp2
  repeat (go_quiet (fail); try go_wp2)
  go_loopg [5] l.length (fun kq v5 w' => ∃ i : Nat, v5 = .int .i64 (i : Int) ∧ Aside0 (i + kq = l.length) ∧ Drawn0 W w')
  case atStart => exact ⟨0, rfl, ⟨by omega⟩, by repeat (first | exact Drawn0.refl _ | apply Drawn0.step)⟩
  case round =>
    obtain ⟨i, rfl, HI, ⟨m1, rfl⟩⟩ := hrel
    cases gk with
    | zero =>
      have d1 : decide ((i : Int) < (l.length : Int)) = false := decide_eq_false (by have := HI.out; omega)
      have d1n : decide (i < l.length) = false := decide_eq_false (by have := HI.out; omega)
      go_wp2
      go_ret
      exact ⟨rfl, by repeat (first | exact Below.refl _ _ | apply below_alloc | apply pw_below_drewN | apply below_drew1)⟩
    | succ k1 =>
      have d1 : decide ((i : Int) < (l.length : Int)) = true := decide_eq_true (by have := HI.out; omega)
      have d1n : decide (i < l.length) = true := decide_eq_true (by have := HI.out; omega)
      have d5 : IntKind.i64.wrap ((i : Int) + 1) = ((i + 1 : Nat) : Int) := by rw [IntKind.wrap_i64]; have := HI.out; have := HL.out; unfold maxLen at this; omega
      have p1 : 0 ≤ (i : Int) := by omega
      have p2 : (i : Int) < (l.length : Int) := by have := HI.out; omega
      obtain ⟨ad0, e0, hx0⟩ := Kd.at_int HR0.out (i : Int) p1 p2
      cases e0
      obtain ⟨ad1, e1, hx1⟩ := Kd.at_int HR1.out (i : Int) p1 p2
      cases e1
      replace p1 := eq_true p1
      replace p2 := eq_true p2
      have p3 : (i < l.length) = True := eq_true (by have := HI.out; omega)
      rw [Int.toNat_natCast] at hx0 hx1
      go_wp2
      repeat (go_quiet (fail); try go_wp2)
      go_roundg k1
      case measure => omega
      case rel => exact ⟨i + 1, by first | rfl | (simp; done), ⟨by have := HI.out; omega⟩, by repeat (first | exact Drawn0.refl _ | apply Drawn0.step)⟩
end Go.Proofs.Ytidflacmiigbmaa.Tab
