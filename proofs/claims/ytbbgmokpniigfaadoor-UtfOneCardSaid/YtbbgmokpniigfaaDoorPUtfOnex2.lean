/- Written by a program of this session (a turned copy of the print; not the kit's own print): the walks of the functions that one law reaches, or that law's row; the plain law stands in the Pure text; no condition of our own. -/
import Derived.Test.YtbbgmokpniigfaaDoorPUtfOnex0
import Derived.Test.YtbbgmokpniigfaaDoorPUtfOnex1
namespace Go.Proofs.YtbbgmokpniigfaaDoor.PUtfOne
open Go.RowKit Go.Proofs.YtbbgmokpniigfaaDoorW.PrintWords Go.Proofs.YtbbgmokpniigfaaDoorW.PrintLast Go.Proofs.YtbbgmokpniigfaaDoorW.PrintMore
attribute [local go_sem] max2_int min2_int max_two min_two max_three min_three max_four min_four   -- for this text's walks alone
set_option linter.unusedVariables false
set_option linter.unusedSimpArgs false


/-! ### utf_char: function 27, by hand -/
-- HANDROUNDS
def utf_char.e (c n : Int) : Option (Int × Int) := (utf_Char.f (IntKind.u64.wrap c)).bind fun b => if b = true then ((utf_more.f c).bind fun m => if m = n then some (c, n + 1) else some (0, 0)) else some (0, 0)
def utf_char.l0 : Nat → List Int → Int → Int → Int → Option (Int × Int)
  | 0, _, _, _, _ => none
  | k + 1, l, n, i, c => if i ≤ n then (if 0 ≤ i then (if i < (l.length : Int) then (if rd l i / 64 = 2 then utf_char.l0 k l n (wrap64 (i + 1)) (Go.bits .or .u32 ((c * 64) % 4294967296) (rd l i % 64)) else some (0, 0)) else none) else none) else utf_char.e c n
def utf_char.f (k : Nat) (l : List Int) : Option (Int × Int) := if 0 < (l.length : Int) then (utf_first.f k (rd l 0)).bind fun t => (if t.2.2 = true then (if t.2.1 ≥ (l.length : Int) then some (0, 0) else utf_char.l0 k l t.2.1 1 t.1) else some (0, 0)) else none
def slot (a : Act) (i : Nat) : Value := a.tmps.getD i undef
def slotI : Value → Int | .int _ q => q | _ => 0
set_option maxHeartbeats 8000000 in
set_option maxRecDepth 100000 in
theorem char_go (A0 : Option Addr) (c0 : Nat) (l0 : List Int) (w : World) (hr0 : Kd.C (Kd.int .u8) w A0 l0.length l0) (hc0 : l0.length ≤ c0) (h1 : 0 < l0.length) (t1 t2 r1 r2 : Int) (kf k : Nat) (hf : utf_first.f kf (rd l0 0) = some (t1, t2, true)) (ht0 : 0 ≤ t2) (ht3 : t2 ≤ 3) (hlt : t2 < (l0.length : Int)) (h : utf_char.l0 k l0 t2 1 t1 = some (r1, r2)) :
    Calls Tryd.prog 27 #[.slice A0 l0.length c0] w fun e w' => e = .returned (.tuple #[.int .u32 r1, .int .i64 r2]) ∧ Drawn0 w w' := by
  obtain ⟨ad, hA, hc⟩ := Kd.reads_of_C (d := (0 : Int)) hr0 |>.2.2 h1
  subst hA
  have hx0 : w.cell? ad = some (.int .u8 (rd l0 0)) := by have := hc 0 h1; simpa [rd, Addr.add] using this
  have F1 := Aside0.mk (fun W => utf_first.calls kf (rd l0 0) t1 t2 true W hf)
  have hl : decide ((l0.length : Int) ≤ t2) = false := decide_eq_false (by omega)
  have HR := Aside0.mk hr0
  have H := Aside0.mk h
  clear hf hc hr0 h
  go_enter Tryd.func27, Tryd.ntmps27
  go_wp2
  refine wp_scope_jumps 0 (fun a' w' => Drawn0 w w' ∧ ∃ (c i : Int) (kq : Nat), slot a' 4 = .int .u32 c ∧ slot a' 7 = .int .i64 i ∧ slot a' 5 = .int .i64 t2 ∧ slot a' 0 = .slice (some ad) l0.length c0 ∧ a'.defers = [] ∧ a'.tmps.size = Tryd.f27.ntmps ∧ Aside0 (utf_char.l0 kq l0 t2 i c = some (r1, r2))) (fun a' _ => (t2 + 1 - slotI (slot a' 7)).toNat) rfl ?_ ?_
  · go_wp2_with (first | (go_at_call 29; (with_reducible refine (F1.out _).mono ?_); rintro e w' ⟨rfl, ⟨nd, rfl⟩⟩) | (go_at_call 15; (with_reducible refine (F2.out _).mono ?_); rintro e w' ⟨rfl, ⟨nd2, rfl⟩⟩) | (go_at_call 28; (with_reducible refine (F3.out _).mono ?_); rintro e w' ⟨rfl, ⟨nd3, rfl⟩⟩))
    go_step3
    obtain ⟨kq, HK⟩ : ∃ kq, Aside0 (utf_char.l0 kq l0 t2 1 t1 = some (r1, r2)) := ⟨k, H⟩
    cases kq with
    | zero => exact absurd HK.out (by simp [utf_char.l0])
    | succ kq =>
      have H := HK.out
      clear HK
      simp only [utf_char.l0] at H
      by_cases d1 : (1 : Int) ≤ t2
      · rw [if_pos d1] at H
        have d1b : decide ((1 : Int) ≤ t2) = true := decide_eq_true d1
        by_cases d2 : 0 ≤ (1 : Int)
        · rw [if_pos d2] at H
          by_cases d3 : (1 : Int) < (l0.length : Int)
          · rw [if_pos d3] at H
            have hw : wrap64 ((1 : Int) + 1) = (1 : Int) + 1 := by unfold wrap64; omega
            rw [hw] at H
            obtain ⟨adi, ei, hxi⟩ := Kd.at_int HR.out ((1 : Int)) d2 d3
            cases ei
            try (have hxi1 : w.cell? { block := ad.block, off := ad.off + 1 } = some (.int .u8 (rd l0 1)) := by first | exact hxi | (simpa [Addr.add] using hxi))
            have qi : ((1 : Int).toNat < l0.length) = True := eq_true (by omega)
            have e2 := d2
            replace d2 := eq_true d2
            replace d3 := eq_true d3
            by_cases d4 : rd l0 (1 : Int) / 64 = 2
            · rw [if_pos d4] at H
              have d4b : (rd l0 (1 : Int) / 64 == 2) = true := by simp [d4]
              have HK := Aside0.mk H
              clear H
              go_wp2
              go_step3
              exact ⟨rfl, ⟨nd, rfl⟩, _, _, kq, rfl, rfl, rfl, rfl, rfl, rfl, HK⟩
            · rw [if_neg d4] at H
              have d4b : (rd l0 (1 : Int) / 64 == 2) = false := by simp [d4]
              obtain ⟨rfl, rfl⟩ := Prod.mk.inj (Option.some.inj H)
              go_wp2
              simp only [Exit.then, Exit.jump]
              go_ret2
              exact ⟨by first | rfl | (simp; done), by repeat (first | exact Drawn0.refl _ | apply Drawn0.step)⟩
          · rw [if_neg d3] at H; exact absurd H (by simp)
        · rw [if_neg d2] at H; exact absurd H (by simp)
      · rw [if_neg d1] at H
        have d1b : decide ((1 : Int) ≤ t2) = false := decide_eq_false d1
        unfold utf_char.e at H
        obtain ⟨b, hb, H⟩ := Option.bind_eq_some_iff.1 H
        have F2 := Aside0.mk (fun W => utf_Char.calls _ b W hb)
        clear hb
        cases b with
        | false =>
          simp only [Bool.false_eq_true, if_false] at H
          obtain ⟨rfl, rfl⟩ := Prod.mk.inj (Option.some.inj H)
          go_wp2_with (first | (go_at_call 29; (with_reducible refine (F1.out _).mono ?_); rintro e w' ⟨rfl, ⟨nd, rfl⟩⟩) | (go_at_call 15; (with_reducible refine (F2.out _).mono ?_); rintro e w' ⟨rfl, ⟨nd2, rfl⟩⟩) | (go_at_call 28; (with_reducible refine (F3.out _).mono ?_); rintro e w' ⟨rfl, ⟨nd3, rfl⟩⟩))
          simp only [Exit.then, Exit.jump]
          go_ret2
          exact ⟨by first | rfl | (simp; done) | (simp [wrap64]; done), by repeat (first | exact Drawn0.refl _ | apply Drawn0.step)⟩
        | true =>
          simp only [if_true] at H
          obtain ⟨q, hq, H⟩ := Option.bind_eq_some_iff.1 H
          have F3 := Aside0.mk (fun W => utf_more.calls t1 q W hq)
          clear hq
          by_cases d5 : q = t2
          · rw [if_pos d5] at H
            have d5b : (q == t2) = true := by simp [d5]
            obtain ⟨rfl, rfl⟩ := Prod.mk.inj (Option.some.inj H)
            go_wp2_with (first | (go_at_call 29; (with_reducible refine (F1.out _).mono ?_); rintro e w' ⟨rfl, ⟨nd, rfl⟩⟩) | (go_at_call 15; (with_reducible refine (F2.out _).mono ?_); rintro e w' ⟨rfl, ⟨nd2, rfl⟩⟩) | (go_at_call 28; (with_reducible refine (F3.out _).mono ?_); rintro e w' ⟨rfl, ⟨nd3, rfl⟩⟩))
            simp only [Exit.then, Exit.jump]
            go_ret2
            exact ⟨by first | rfl | (simp; done) | (simp [wrap64]; done), by repeat (first | exact Drawn0.refl _ | apply Drawn0.step)⟩
          · rw [if_neg d5] at H
            have d5b : (q == t2) = false := by simp [d5]
            obtain ⟨rfl, rfl⟩ := Prod.mk.inj (Option.some.inj H)
            go_wp2_with (first | (go_at_call 29; (with_reducible refine (F1.out _).mono ?_); rintro e w' ⟨rfl, ⟨nd, rfl⟩⟩) | (go_at_call 15; (with_reducible refine (F2.out _).mono ?_); rintro e w' ⟨rfl, ⟨nd2, rfl⟩⟩) | (go_at_call 28; (with_reducible refine (F3.out _).mono ?_); rintro e w' ⟨rfl, ⟨nd3, rfl⟩⟩))
            simp only [Exit.then, Exit.jump]
            go_ret2
            exact ⟨by first | rfl | (simp; done) | (simp [wrap64]; done), by repeat (first | exact Drawn0.refl _ | apply Drawn0.step)⟩
  · rintro ⟨⟨L⟩, df⟩ w' hJ
    have hL : L.length = 57 := by obtain ⟨_, _, _, _, _, _, _, _, _, hsz, _⟩ := hJ; exact hsz
    obtain ⟨x0, L, rfl⟩ := List.exists_cons_of_ne_nil (show L ≠ [] by intro h; rw [h] at hL; simp at hL)
    simp only [List.length_cons, Nat.add_right_cancel_iff] at hL
    obtain ⟨x1, L, rfl⟩ := List.exists_cons_of_ne_nil (show L ≠ [] by intro h; rw [h] at hL; simp at hL)
    simp only [List.length_cons, Nat.add_right_cancel_iff] at hL
    obtain ⟨x2, L, rfl⟩ := List.exists_cons_of_ne_nil (show L ≠ [] by intro h; rw [h] at hL; simp at hL)
    simp only [List.length_cons, Nat.add_right_cancel_iff] at hL
    obtain ⟨x3, L, rfl⟩ := List.exists_cons_of_ne_nil (show L ≠ [] by intro h; rw [h] at hL; simp at hL)
    simp only [List.length_cons, Nat.add_right_cancel_iff] at hL
    obtain ⟨x4, L, rfl⟩ := List.exists_cons_of_ne_nil (show L ≠ [] by intro h; rw [h] at hL; simp at hL)
    simp only [List.length_cons, Nat.add_right_cancel_iff] at hL
    obtain ⟨x5, L, rfl⟩ := List.exists_cons_of_ne_nil (show L ≠ [] by intro h; rw [h] at hL; simp at hL)
    simp only [List.length_cons, Nat.add_right_cancel_iff] at hL
    obtain ⟨x6, L, rfl⟩ := List.exists_cons_of_ne_nil (show L ≠ [] by intro h; rw [h] at hL; simp at hL)
    simp only [List.length_cons, Nat.add_right_cancel_iff] at hL
    obtain ⟨x7, L, rfl⟩ := List.exists_cons_of_ne_nil (show L ≠ [] by intro h; rw [h] at hL; simp at hL)
    simp only [List.length_cons, Nat.add_right_cancel_iff] at hL
    obtain ⟨x8, L, rfl⟩ := List.exists_cons_of_ne_nil (show L ≠ [] by intro h; rw [h] at hL; simp at hL)
    simp only [List.length_cons, Nat.add_right_cancel_iff] at hL
    obtain ⟨x9, L, rfl⟩ := List.exists_cons_of_ne_nil (show L ≠ [] by intro h; rw [h] at hL; simp at hL)
    simp only [List.length_cons, Nat.add_right_cancel_iff] at hL
    obtain ⟨x10, L, rfl⟩ := List.exists_cons_of_ne_nil (show L ≠ [] by intro h; rw [h] at hL; simp at hL)
    simp only [List.length_cons, Nat.add_right_cancel_iff] at hL
    obtain ⟨x11, L, rfl⟩ := List.exists_cons_of_ne_nil (show L ≠ [] by intro h; rw [h] at hL; simp at hL)
    simp only [List.length_cons, Nat.add_right_cancel_iff] at hL
    obtain ⟨x12, L, rfl⟩ := List.exists_cons_of_ne_nil (show L ≠ [] by intro h; rw [h] at hL; simp at hL)
    simp only [List.length_cons, Nat.add_right_cancel_iff] at hL
    obtain ⟨x13, L, rfl⟩ := List.exists_cons_of_ne_nil (show L ≠ [] by intro h; rw [h] at hL; simp at hL)
    simp only [List.length_cons, Nat.add_right_cancel_iff] at hL
    obtain ⟨x14, L, rfl⟩ := List.exists_cons_of_ne_nil (show L ≠ [] by intro h; rw [h] at hL; simp at hL)
    simp only [List.length_cons, Nat.add_right_cancel_iff] at hL
    obtain ⟨x15, L, rfl⟩ := List.exists_cons_of_ne_nil (show L ≠ [] by intro h; rw [h] at hL; simp at hL)
    simp only [List.length_cons, Nat.add_right_cancel_iff] at hL
    obtain ⟨x16, L, rfl⟩ := List.exists_cons_of_ne_nil (show L ≠ [] by intro h; rw [h] at hL; simp at hL)
    simp only [List.length_cons, Nat.add_right_cancel_iff] at hL
    obtain ⟨x17, L, rfl⟩ := List.exists_cons_of_ne_nil (show L ≠ [] by intro h; rw [h] at hL; simp at hL)
    simp only [List.length_cons, Nat.add_right_cancel_iff] at hL
    obtain ⟨x18, L, rfl⟩ := List.exists_cons_of_ne_nil (show L ≠ [] by intro h; rw [h] at hL; simp at hL)
    simp only [List.length_cons, Nat.add_right_cancel_iff] at hL
    obtain ⟨x19, L, rfl⟩ := List.exists_cons_of_ne_nil (show L ≠ [] by intro h; rw [h] at hL; simp at hL)
    simp only [List.length_cons, Nat.add_right_cancel_iff] at hL
    obtain ⟨x20, L, rfl⟩ := List.exists_cons_of_ne_nil (show L ≠ [] by intro h; rw [h] at hL; simp at hL)
    simp only [List.length_cons, Nat.add_right_cancel_iff] at hL
    obtain ⟨x21, L, rfl⟩ := List.exists_cons_of_ne_nil (show L ≠ [] by intro h; rw [h] at hL; simp at hL)
    simp only [List.length_cons, Nat.add_right_cancel_iff] at hL
    obtain ⟨x22, L, rfl⟩ := List.exists_cons_of_ne_nil (show L ≠ [] by intro h; rw [h] at hL; simp at hL)
    simp only [List.length_cons, Nat.add_right_cancel_iff] at hL
    obtain ⟨x23, L, rfl⟩ := List.exists_cons_of_ne_nil (show L ≠ [] by intro h; rw [h] at hL; simp at hL)
    simp only [List.length_cons, Nat.add_right_cancel_iff] at hL
    obtain ⟨x24, L, rfl⟩ := List.exists_cons_of_ne_nil (show L ≠ [] by intro h; rw [h] at hL; simp at hL)
    simp only [List.length_cons, Nat.add_right_cancel_iff] at hL
    obtain ⟨x25, L, rfl⟩ := List.exists_cons_of_ne_nil (show L ≠ [] by intro h; rw [h] at hL; simp at hL)
    simp only [List.length_cons, Nat.add_right_cancel_iff] at hL
    obtain ⟨x26, L, rfl⟩ := List.exists_cons_of_ne_nil (show L ≠ [] by intro h; rw [h] at hL; simp at hL)
    simp only [List.length_cons, Nat.add_right_cancel_iff] at hL
    obtain ⟨x27, L, rfl⟩ := List.exists_cons_of_ne_nil (show L ≠ [] by intro h; rw [h] at hL; simp at hL)
    simp only [List.length_cons, Nat.add_right_cancel_iff] at hL
    obtain ⟨x28, L, rfl⟩ := List.exists_cons_of_ne_nil (show L ≠ [] by intro h; rw [h] at hL; simp at hL)
    simp only [List.length_cons, Nat.add_right_cancel_iff] at hL
    obtain ⟨x29, L, rfl⟩ := List.exists_cons_of_ne_nil (show L ≠ [] by intro h; rw [h] at hL; simp at hL)
    simp only [List.length_cons, Nat.add_right_cancel_iff] at hL
    obtain ⟨x30, L, rfl⟩ := List.exists_cons_of_ne_nil (show L ≠ [] by intro h; rw [h] at hL; simp at hL)
    simp only [List.length_cons, Nat.add_right_cancel_iff] at hL
    obtain ⟨x31, L, rfl⟩ := List.exists_cons_of_ne_nil (show L ≠ [] by intro h; rw [h] at hL; simp at hL)
    simp only [List.length_cons, Nat.add_right_cancel_iff] at hL
    obtain ⟨x32, L, rfl⟩ := List.exists_cons_of_ne_nil (show L ≠ [] by intro h; rw [h] at hL; simp at hL)
    simp only [List.length_cons, Nat.add_right_cancel_iff] at hL
    obtain ⟨x33, L, rfl⟩ := List.exists_cons_of_ne_nil (show L ≠ [] by intro h; rw [h] at hL; simp at hL)
    simp only [List.length_cons, Nat.add_right_cancel_iff] at hL
    obtain ⟨x34, L, rfl⟩ := List.exists_cons_of_ne_nil (show L ≠ [] by intro h; rw [h] at hL; simp at hL)
    simp only [List.length_cons, Nat.add_right_cancel_iff] at hL
    obtain ⟨x35, L, rfl⟩ := List.exists_cons_of_ne_nil (show L ≠ [] by intro h; rw [h] at hL; simp at hL)
    simp only [List.length_cons, Nat.add_right_cancel_iff] at hL
    obtain ⟨x36, L, rfl⟩ := List.exists_cons_of_ne_nil (show L ≠ [] by intro h; rw [h] at hL; simp at hL)
    simp only [List.length_cons, Nat.add_right_cancel_iff] at hL
    obtain ⟨x37, L, rfl⟩ := List.exists_cons_of_ne_nil (show L ≠ [] by intro h; rw [h] at hL; simp at hL)
    simp only [List.length_cons, Nat.add_right_cancel_iff] at hL
    obtain ⟨x38, L, rfl⟩ := List.exists_cons_of_ne_nil (show L ≠ [] by intro h; rw [h] at hL; simp at hL)
    simp only [List.length_cons, Nat.add_right_cancel_iff] at hL
    obtain ⟨x39, L, rfl⟩ := List.exists_cons_of_ne_nil (show L ≠ [] by intro h; rw [h] at hL; simp at hL)
    simp only [List.length_cons, Nat.add_right_cancel_iff] at hL
    obtain ⟨x40, L, rfl⟩ := List.exists_cons_of_ne_nil (show L ≠ [] by intro h; rw [h] at hL; simp at hL)
    simp only [List.length_cons, Nat.add_right_cancel_iff] at hL
    obtain ⟨x41, L, rfl⟩ := List.exists_cons_of_ne_nil (show L ≠ [] by intro h; rw [h] at hL; simp at hL)
    simp only [List.length_cons, Nat.add_right_cancel_iff] at hL
    obtain ⟨x42, L, rfl⟩ := List.exists_cons_of_ne_nil (show L ≠ [] by intro h; rw [h] at hL; simp at hL)
    simp only [List.length_cons, Nat.add_right_cancel_iff] at hL
    obtain ⟨x43, L, rfl⟩ := List.exists_cons_of_ne_nil (show L ≠ [] by intro h; rw [h] at hL; simp at hL)
    simp only [List.length_cons, Nat.add_right_cancel_iff] at hL
    obtain ⟨x44, L, rfl⟩ := List.exists_cons_of_ne_nil (show L ≠ [] by intro h; rw [h] at hL; simp at hL)
    simp only [List.length_cons, Nat.add_right_cancel_iff] at hL
    obtain ⟨x45, L, rfl⟩ := List.exists_cons_of_ne_nil (show L ≠ [] by intro h; rw [h] at hL; simp at hL)
    simp only [List.length_cons, Nat.add_right_cancel_iff] at hL
    obtain ⟨x46, L, rfl⟩ := List.exists_cons_of_ne_nil (show L ≠ [] by intro h; rw [h] at hL; simp at hL)
    simp only [List.length_cons, Nat.add_right_cancel_iff] at hL
    obtain ⟨x47, L, rfl⟩ := List.exists_cons_of_ne_nil (show L ≠ [] by intro h; rw [h] at hL; simp at hL)
    simp only [List.length_cons, Nat.add_right_cancel_iff] at hL
    obtain ⟨x48, L, rfl⟩ := List.exists_cons_of_ne_nil (show L ≠ [] by intro h; rw [h] at hL; simp at hL)
    simp only [List.length_cons, Nat.add_right_cancel_iff] at hL
    obtain ⟨x49, L, rfl⟩ := List.exists_cons_of_ne_nil (show L ≠ [] by intro h; rw [h] at hL; simp at hL)
    simp only [List.length_cons, Nat.add_right_cancel_iff] at hL
    obtain ⟨x50, L, rfl⟩ := List.exists_cons_of_ne_nil (show L ≠ [] by intro h; rw [h] at hL; simp at hL)
    simp only [List.length_cons, Nat.add_right_cancel_iff] at hL
    obtain ⟨x51, L, rfl⟩ := List.exists_cons_of_ne_nil (show L ≠ [] by intro h; rw [h] at hL; simp at hL)
    simp only [List.length_cons, Nat.add_right_cancel_iff] at hL
    obtain ⟨x52, L, rfl⟩ := List.exists_cons_of_ne_nil (show L ≠ [] by intro h; rw [h] at hL; simp at hL)
    simp only [List.length_cons, Nat.add_right_cancel_iff] at hL
    obtain ⟨x53, L, rfl⟩ := List.exists_cons_of_ne_nil (show L ≠ [] by intro h; rw [h] at hL; simp at hL)
    simp only [List.length_cons, Nat.add_right_cancel_iff] at hL
    obtain ⟨x54, L, rfl⟩ := List.exists_cons_of_ne_nil (show L ≠ [] by intro h; rw [h] at hL; simp at hL)
    simp only [List.length_cons, Nat.add_right_cancel_iff] at hL
    obtain ⟨x55, L, rfl⟩ := List.exists_cons_of_ne_nil (show L ≠ [] by intro h; rw [h] at hL; simp at hL)
    simp only [List.length_cons, Nat.add_right_cancel_iff] at hL
    obtain ⟨x56, L, rfl⟩ := List.exists_cons_of_ne_nil (show L ≠ [] by intro h; rw [h] at hL; simp at hL)
    simp only [List.length_cons, Nat.add_right_cancel_iff] at hL
    obtain rfl := List.length_eq_zero_iff.1 (by omega : L.length = 0)
    clear hL
    obtain ⟨⟨m, rfl⟩, c, i, kq, s4, s7, s5, s0, hdf, hsz, HK⟩ := hJ
    simp only at hdf
    subst hdf
    clear hsz
    have e4 : x4 = .int .u32 c := s4
    have e7 : x7 = .int .i64 i := s7
    have e5 : x5 = .int .i64 t2 := s5
    have e0 : x0 = .slice (some ad) l0.length c0 := s0
    clear s4 s7 s5 s0
    subst e4 e7 e5 e0
    cases kq with
    | zero => exact absurd HK.out (by simp [utf_char.l0])
    | succ kq =>
      have H := HK.out
      clear HK
      simp only [utf_char.l0] at H
      by_cases d1 : i ≤ t2
      · rw [if_pos d1] at H
        have d1b : decide (i ≤ t2) = true := decide_eq_true d1
        by_cases d2 : 0 ≤ i
        · rw [if_pos d2] at H
          by_cases d3 : i < (l0.length : Int)
          · rw [if_pos d3] at H
            have hw : wrap64 (i + 1) = i + 1 := by unfold wrap64; omega
            rw [hw] at H
            obtain ⟨adi, ei, hxi⟩ := Kd.at_int HR.out (i) d2 d3
            cases ei
            try (have hxi1 : w.cell? { block := ad.block, off := ad.off + 1 } = some (.int .u8 (rd l0 1)) := by first | exact hxi | (simpa [Addr.add] using hxi))
            have qi : (i.toNat < l0.length) = True := eq_true (by omega)
            have e2 := d2
            replace d2 := eq_true d2
            replace d3 := eq_true d3
            by_cases d4 : rd l0 i / 64 = 2
            · rw [if_pos d4] at H
              have d4b : (rd l0 i / 64 == 2) = true := by simp [d4]
              have HK := Aside0.mk H
              clear H
              go_wp2
              go_step3
              refine ⟨rfl, ⟨⟨m, rfl⟩, _, _, kq, rfl, rfl, rfl, rfl, rfl, rfl, HK⟩, ?_⟩
              simp [slot, slotI]
              omega
            · rw [if_neg d4] at H
              have d4b : (rd l0 i / 64 == 2) = false := by simp [d4]
              obtain ⟨rfl, rfl⟩ := Prod.mk.inj (Option.some.inj H)
              go_wp2
              simp only [Exit.then, Exit.jump]
              go_ret2
              exact ⟨by first | rfl | (simp; done), by repeat (first | exact Drawn0.refl _ | apply Drawn0.step)⟩
          · rw [if_neg d3] at H; exact absurd H (by simp)
        · rw [if_neg d2] at H; exact absurd H (by simp)
      · rw [if_neg d1] at H
        have d1b : decide (i ≤ t2) = false := decide_eq_false d1
        unfold utf_char.e at H
        obtain ⟨b, hb, H⟩ := Option.bind_eq_some_iff.1 H
        have F2 := Aside0.mk (fun W => utf_Char.calls _ b W hb)
        clear hb
        cases b with
        | false =>
          simp only [Bool.false_eq_true, if_false] at H
          obtain ⟨rfl, rfl⟩ := Prod.mk.inj (Option.some.inj H)
          go_wp2_with (first | (go_at_call 29; (with_reducible refine (F1.out _).mono ?_); rintro e w' ⟨rfl, ⟨nd, rfl⟩⟩) | (go_at_call 15; (with_reducible refine (F2.out _).mono ?_); rintro e w' ⟨rfl, ⟨nd2, rfl⟩⟩) | (go_at_call 28; (with_reducible refine (F3.out _).mono ?_); rintro e w' ⟨rfl, ⟨nd3, rfl⟩⟩))
          simp only [Exit.then, Exit.jump]
          go_ret2
          exact ⟨by first | rfl | (simp; done) | (simp [wrap64]; done), by repeat (first | exact Drawn0.refl _ | apply Drawn0.step)⟩
        | true =>
          simp only [if_true] at H
          obtain ⟨q, hq, H⟩ := Option.bind_eq_some_iff.1 H
          have F3 := Aside0.mk (fun W => utf_more.calls c q W hq)
          clear hq
          by_cases d5 : q = t2
          · rw [if_pos d5] at H
            have d5b : (q == t2) = true := by simp [d5]
            obtain ⟨rfl, rfl⟩ := Prod.mk.inj (Option.some.inj H)
            go_wp2_with (first | (go_at_call 29; (with_reducible refine (F1.out _).mono ?_); rintro e w' ⟨rfl, ⟨nd, rfl⟩⟩) | (go_at_call 15; (with_reducible refine (F2.out _).mono ?_); rintro e w' ⟨rfl, ⟨nd2, rfl⟩⟩) | (go_at_call 28; (with_reducible refine (F3.out _).mono ?_); rintro e w' ⟨rfl, ⟨nd3, rfl⟩⟩))
            simp only [Exit.then, Exit.jump]
            go_ret2
            exact ⟨by first | rfl | (simp; done) | (simp [wrap64]; done), by repeat (first | exact Drawn0.refl _ | apply Drawn0.step)⟩
          · rw [if_neg d5] at H
            have d5b : (q == t2) = false := by simp [d5]
            obtain ⟨rfl, rfl⟩ := Prod.mk.inj (Option.some.inj H)
            go_wp2_with (first | (go_at_call 29; (with_reducible refine (F1.out _).mono ?_); rintro e w' ⟨rfl, ⟨nd, rfl⟩⟩) | (go_at_call 15; (with_reducible refine (F2.out _).mono ?_); rintro e w' ⟨rfl, ⟨nd2, rfl⟩⟩) | (go_at_call 28; (with_reducible refine (F3.out _).mono ?_); rintro e w' ⟨rfl, ⟨nd3, rfl⟩⟩))
            simp only [Exit.then, Exit.jump]
            go_ret2
            exact ⟨by first | rfl | (simp; done) | (simp [wrap64]; done), by repeat (first | exact Drawn0.refl _ | apply Drawn0.step)⟩
theorem utf_first_range (k : Nat) (a t1 t2 : Int) (h : utf_first.f k a = some (t1, t2, true)) : 0 ≤ t2 ∧ t2 ≤ 3 := by
  unfold utf_first.f at h
  cases k with
  | zero => simp only [utf_first.j0] at h; split at h <;> simp_all <;> omega
  | succ k =>
    simp only [utf_first.j0] at h
    repeat' (split at h)
    all_goals first | (simp at h; done) | (simp at h; omega)
set_option maxHeartbeats 8000000 in
set_option maxRecDepth 100000 in
theorem char_out (A0 : Option Addr) (c0 : Nat) (l0 : List Int) (w : World) (hr0 : Kd.C (Kd.int .u8) w A0 l0.length l0) (hc0 : l0.length ≤ c0) (h1 : 0 < l0.length) (t1 t2 : Int) (t3 : Bool) (kf : Nat) (hf : utf_first.f kf (rd l0 0) = some (t1, t2, t3)) (ho : t3 = false ∨ t2 ≥ (l0.length : Int)) :
    Calls Tryd.prog 27 #[.slice A0 l0.length c0] w fun e w' => e = .returned (.tuple #[.int .u32 0, .int .i64 0]) ∧ Drawn0 w w' := by
  obtain ⟨ad, hA, hc⟩ := Kd.reads_of_C (d := (0 : Int)) hr0 |>.2.2 h1
  subst hA
  have hx0 : w.cell? ad = some (.int .u8 (rd l0 0)) := by have := hc 0 h1; simpa [rd, Addr.add] using this
  have F1 := Aside0.mk (fun W => utf_first.calls kf (rd l0 0) t1 t2 t3 W hf)
  clear hf hc hr0
  cases t3 with
  | false =>
    clear ho
    go_enter Tryd.func27, Tryd.ntmps27
    go_wp2
    go_step3
    go_wp2_with (first | (go_at_call 29; (with_reducible refine (F1.out _).mono ?_); rintro e w' ⟨rfl, ⟨nd, rfl⟩⟩))
    simp only [Exit.then, Exit.noGoto_ret]
    go_ret2
    exact ⟨by first | rfl | (simp; done), by repeat (first | exact Drawn0.refl _ | apply Drawn0.step)⟩
  | true =>
    have hl : decide ((l0.length : Int) ≤ t2) = true := decide_eq_true (by rcases ho with h | h; cases h; omega)
    clear ho
    go_enter Tryd.func27, Tryd.ntmps27
    go_wp2
    go_step3
    go_wp2_with (first | (go_at_call 29; (with_reducible refine (F1.out _).mono ?_); rintro e w' ⟨rfl, ⟨nd, rfl⟩⟩))
    simp only [Exit.then, Exit.noGoto_ret]
    go_ret2
    exact ⟨by first | rfl | (simp; done), by repeat (first | exact Drawn0.refl _ | apply Drawn0.step)⟩
theorem utf_char.calls (k : Nat) (A0 : Option Addr) (c0 : Nat) (l0 : List Int) (r1 r2 : Int) (w : World) (hr0 : Kd.C (Kd.int .u8) w A0 l0.length l0) (hc0 : l0.length ≤ c0) (h : utf_char.f k l0 = some (r1, r2)) :
    Calls Tryd.prog 27 #[.slice A0 l0.length c0] w fun e w' => e = .returned (.tuple #[.int .u32 r1, .int .i64 r2]) ∧ Drawn0 w w' := by
  unfold utf_char.f at h
  by_cases h1 : 0 < (l0.length : Int)
  · rw [if_pos h1] at h
    obtain ⟨⟨t1, t2, t3⟩, hf, h⟩ := Option.bind_eq_some_iff.1 h
    by_cases h3 : t3 = true
    · rw [if_pos h3] at h
      subst h3
      by_cases h2 : t2 ≥ (l0.length : Int)
      · rw [if_pos h2] at h
        obtain ⟨rfl, rfl⟩ := Prod.mk.inj (Option.some.inj h)
        exact char_out A0 c0 l0 w hr0 hc0 (by omega) t1 t2 true k hf (.inr h2)
      · rw [if_neg h2] at h
        have hr := utf_first_range k _ t1 t2 hf
        exact char_go A0 c0 l0 w hr0 hc0 (by omega) t1 t2 r1 r2 k k hf hr.1 hr.2 (by omega) h
    · rw [if_neg h3] at h
      obtain ⟨rfl, rfl⟩ := Prod.mk.inj (Option.some.inj h)
      exact char_out A0 c0 l0 w hr0 hc0 (by omega) t1 t2 t3 k hf (.inl (by simpa using h3))
  · rw [if_neg h1] at h
    cases h
theorem utf_char.mono_l : ∀ k, (∀ y0 y1 y2 y3, LeO (utf_char.l0 k y0 y1 y2 y3) (utf_char.l0 (k + 1) y0 y1 y2 y3))
  | 0 => fun _ _ _ _ r h => by simp [utf_char.l0] at h
  | k + 1 => by
    have ih0 := utf_char.mono_l k
    intro y0 y1 y2 y3
    unfold utf_char.l0
    repeat' first
      | (with_reducible exact ih0 _ _ _ _)
      | (with_reducible exact LeO.refl _)
      | (with_reducible exact LeO.none _)
      | (with_reducible refine LeO.ite ?_ ?_)
      | (with_reducible refine LeO.bind ?_ (fun _ => ?_))
theorem utf_char.mono : ∀ a0 k, LeO (utf_char.f k a0) (utf_char.f (k + 1) a0) := by
  intro a0 k
  have ih0 := utf_char.mono_l k
  unfold utf_char.f
  repeat' first
      | (with_reducible exact ih0 _ _ _ _)
      | (with_reducible exact utf_first.mono _ _)
      | (with_reducible exact LeO.refl _)
      | (with_reducible exact LeO.none _)
      | (with_reducible refine LeO.ite ?_ ?_)
      | (with_reducible refine LeO.bind ?_ (fun _ => ?_))


/-! ### utf_Chars: function 17, by hand -/
-- HANDROUNDS HANDMAKES
def utf_Chars.l0 : Nat → List Int → List Int → Option (List Int × Bool)
  | 0, _, _ => none
  | k + 1, x0, x4 => if (x0.length : Int) > 0 then ((utf_char.f k x0).bind fun bt101 => (if bt101.2 = 0 then (some (([] : List Int), false)) else (if x4.length < 35184372088832 then (if 0 ≤ bt101.2 then (if bt101.2 ≤ (x0.length : Int) then (utf_Chars.l0 k (x0.drop (bt101.2 : Int).toNat) (x4 ++ [bt101.1])) else (none)) else (none)) else (none)))) else (some (x4, true))
def utf_Chars.f (k : Nat) (l0 : List Int) : Option (List Int × Bool) := utf_Chars.l0 k l0 ([] : List Int)
theorem utf_Chars.mono_l : ∀ k, (∀ y0 y1, LeO (utf_Chars.l0 k y0 y1) (utf_Chars.l0 (k + 1) y0 y1))
  | 0 => fun _ _ r h => by simp [utf_Chars.l0] at h
  | k + 1 => by
    have ih0 := utf_Chars.mono_l k
    · intro y0 y1
      unfold utf_Chars.l0
      repeat' first
      | (with_reducible exact ih0 _ _)
      | (with_reducible exact utf_char.mono _ _)
      | (with_reducible exact LeO.refl _)
      | (with_reducible exact LeO.none _)
      | (with_reducible refine LeO.ite ?_ ?_)
      | (with_reducible refine LeO.bind ?_ (fun _ => ?_))
      | exact ih0 _ _
      | exact utf_char.mono _ _
      | exact LeO.none _
      | refine LeO.ite ?_ ?_
      | refine LeO.bind ?_ (fun _ => ?_)
theorem utf_Chars.mono : ∀ a0 k, LeO (utf_Chars.f k a0) (utf_Chars.f (k + 1) a0) := by
  intro a0 k
  have ih0 := utf_Chars.mono_l k
  unfold utf_Chars.f
  repeat' first
      | (with_reducible exact ih0 _ _)
      | (with_reducible exact utf_char.mono _ _)
      | (with_reducible exact LeO.refl _)
      | (with_reducible exact LeO.none _)
      | (with_reducible refine LeO.ite ?_ ?_)
      | (with_reducible refine LeO.bind ?_ (fun _ => ?_))
      | exact ih0 _ _
      | exact utf_char.mono _ _
      | exact LeO.none _
      | refine LeO.ite ?_ ?_
      | refine LeO.bind ?_ (fun _ => ?_)
set_option maxHeartbeats 8000000 in
set_option maxRecDepth 100000 in
theorem utf_Chars.calls_sh (k : Nat) (P0_ : Nat → Prop) (A0 : Option Addr) (c0 : Nat) (l0 : List Int) (r1 : List Int) (r2 : Bool) (w : World) (hs0 : Kd.V (Kd.int .u8) 5 w w.heap.size (fun k_ => P0_ k_) (.slice A0 l0.length c0) l0) (h : utf_Chars.f k l0 = some (r1, r2)) :
    Calls Tryd.prog 17 #[.slice A0 l0.length c0] w fun e w' => ∃ v0_ : Value, e = .returned (.tuple #[v0_, .bool r2]) ∧ Kd.R (Kd.int .u32) 32 w' w.heap.size (fun k_ => (w.heap.size ≤ k_)) v0_ r1 ∧ Below w.heap.size w w' := by
  have HO0 := Aside0.mk (show Kd.V (Kd.int .u8) 5 w w.heap.size (fun k_ => (P0_ k_ ∨ w.heap.size ≤ k_)) (.slice A0 l0.length c0) l0 from Kd.V_mono hs0 (fun k_ hk => .inl hk))
  have HB := Aside0.mk (Below.refl w.heap.size w)
  have H : (utf_Chars.l0 k l0 ([] : List Int)) = some (r1, r2) := h
  clear h
  have H' := Aside0.mk H
  clear H
  go_enter Tryd.func17, Tryd.ntmps17
  go_wp2
  go_loopg [0, 4] k (fun kq v0 v4 w' => ∃ (x0_1 : List Int) (x4_1 : List Int), Aside0 (utf_Chars.l0 kq x0_1 x4_1 = some (r1, r2)) ∧ Aside0 (kq ≤ k) ∧ Aside0 (Kd.V (Kd.int .u8) 5 w' w.heap.size (fun k_ => (P0_ k_ ∨ w.heap.size ≤ k_) ∧ some k_ ≠ (v4 : Value).ownBlock) v0 x0_1) ∧ Aside0 (Kd.R (Kd.int .u32) 32 w' w.heap.size (fun k_ => (w.heap.size ≤ k_)) v4 x4_1) ∧ Aside0 (Below w.heap.size w w'))
  case atStart => exact ⟨(l0), (([] : List Int)), H', ⟨Nat.le_refl _⟩, ⟨by (with_reducible repeat (first | apply Kd.V_alloc | apply Kd.V_drewN | apply Kd.V_drew)); exact Kd.V_mono HO0.out (fun _ hk => ⟨hk, (by simp [Value.ownBlock])⟩)⟩, ⟨by first | exact Kd.R_nil _ _ _ _ _ | exact Kd.N_nil _ _ _ _ _ | exact Kd.V_nil _ _ _ _ _ | exact Kd.Q_nil _ _ _ _ _ | exact Kd.S_nil _ _ _ _ _⟩, ⟨by repeat (first | (with_reducible first | exact HB.out | apply below_alloc | apply pw_below_drewN | apply below_drew1) | exact HB.out)⟩⟩
  case round =>
    clear H'
    try clear c1
    obtain ⟨x0_1, x4_1, HA, HK1, HO_0, HO_4, HB⟩ := hrel
    cases gk with
    | zero => exact absurd HA.out (by simp [utf_Chars.l0])
    | succ k1 =>
      have H := HA.out
      clear HA
      simp only [utf_Chars.l0] at H
      by_cases c2 : (x0_1.length : Int) > 0
      · rw [if_pos c2] at H
        have c2b0 : decide (0 < (x0_1.length : Int)) = true := decide_eq_true c2
        have c2b1 : decide (0 < x0_1.length) = true := decide_eq_true (by omega)
        clear c2
        replace H := Option.bind_eq_some_iff.mp H
        obtain ⟨⟨t101, t102⟩, A30, H⟩ := H
        replace H : (if t102 = 0 then (some (([] : List Int), false)) else (if x4_1.length < 35184372088832 then (if 0 ≤ t102 then (if t102 ≤ (x0_1.length : Int) then (utf_Chars.l0 k1 (x0_1.drop (t102 : Int).toNat) (x4_1 ++ [t101])) else (none)) else (none)) else (none))) = some (r1, r2) := H
        have A3 := Aside0.mk A30
        clear A30
        by_cases c4 : t102 = 0
        · rw [if_pos c4] at H
          have c4b0 : (t102 == 0) = true := beq_iff_eq.mpr c4
          have c4b1 : (t102 != 0) = false := bne_eq_false_iff_eq.mpr c4
          clear c4
          simp only [Option.some.injEq, Prod.mk.injEq] at H
          obtain ⟨rfl, rfl⟩ := H
          obtain ⟨Ao5, co5, eo5⟩ := Kd.V_slice HO_0.out
          subst eo5
          go_wp2_with (first | ((with_reducible refine gate_callee (f := 27) rfl ?_); refine goesL_ (some 12) rfl rfl Tryd.func27 (by kernel_rfl) rfl #[.slice Ao5 x0_1.length co5] rfl (by (try simp only [List.map_toArray, List.map_cons, List.map_nil]); first | done | rfl | (simp only [List.length_drop, List.length_take]; rfl)) ?_; (with_reducible refine (utf_char.calls k1 _ _ x0_1 t101 t102 _ ?side1 ?side2 A3.out).mono ?_); (case side1 => repeat (first | exact (Kd.V_reads' HO_0.out).2.2 | (with_reducible refine Kd.C_alloc ?_ _) | (with_reducible refine Kd.C_drewN ?_ _) | (with_reducible refine Kd.C_drew ?_))); (case side2 => exact (Kd.V_reads' HO_0.out).2.1); rintro e w' ⟨rfl, ⟨nd, rfl⟩⟩; refine ⟨_, rfl, ?_⟩))
          go_ret2
          exact ⟨_, by first | rfl | (simp [errW_none, errW_some] <;> rfl) | (simp [*, errW_none, errW_some] <;> rfl), by first | exact Kd.R_nil _ _ _ _ _ | exact Kd.N_nil _ _ _ _ _ | exact Kd.V_nil _ _ _ _ _ | exact Kd.Q_nil _ _ _ _ _ | exact Kd.S_nil _ _ _ _ _, by repeat (first | (with_reducible first | exact HB.out | apply below_alloc | apply pw_below_drewN | apply below_drew1) | exact HB.out)⟩
        · rw [if_neg c4] at H
          have c4b0 : (t102 == 0) = false := beq_eq_false_iff_ne.mpr c4
          have c4b1 : (t102 != 0) = true := bne_iff_ne.mpr c4
          by_cases c6 : x4_1.length < 35184372088832
          · rw [if_pos c6] at H
            have LMc6 := Aside0.mk c6
            clear c6
            obtain ⟨y103, hy103⟩ : ∃ y_ : List Int, y_ = (x4_1 ++ [t101]) := ⟨_, rfl⟩
            replace H : (if 0 ≤ t102 then (if t102 ≤ (x0_1.length : Int) then (utf_Chars.l0 k1 (x0_1.drop (t102 : Int).toNat) y103) else (none)) else (none)) = some (r1, r2) := by first | (rw [hy103]; with_reducible exact H) | (have H2_ := (Option.bind_some _ _).symm.trans H; rw [hy103]; with_reducible exact H2_) | (have H2_ := (Option.bind_some _ _).symm.trans H; with_reducible exact H2_) | with_reducible exact H | (rw [hy103]; exact H) | exact H
            have Ny103 := Aside0.mk hy103
            clear hy103
            by_cases c7 : 0 ≤ t102
            · rw [if_pos c7] at H
              have c7b0 := eq_true c7
              have c7b1 : decide (0 ≤ t102) = true := decide_eq_true c7
              clear c7
              by_cases c8 : t102 ≤ (x0_1.length : Int)
              · rw [if_pos c8] at H
                have c8b0 := eq_true c8
                have c8b1 : decide (t102 ≤ (x0_1.length : Int)) = true := decide_eq_true c8
                clear c8
                obtain ⟨y106, hy106⟩ : ∃ y_ : List Int, y_ = (x0_1.drop (t102 : Int).toNat) := ⟨_, rfl⟩
                replace H : (utf_Chars.l0 k1 y106 y103) = some (r1, r2) := by first | (rw [hy106]; with_reducible exact H) | (have H2_ := (Option.bind_some _ _).symm.trans H; rw [hy106]; with_reducible exact H2_) | (have H2_ := (Option.bind_some _ _).symm.trans H; with_reducible exact H2_) | with_reducible exact H | (rw [hy106]; exact H) | exact H
                have Ny106 := Aside0.mk hy106
                clear hy106
                have H' := Aside0.mk H
                clear H
                obtain ⟨Ao9, co9, eo9⟩ := Kd.V_slice HO_0.out
                subst eo9
                go_wp2_with (first | ((with_reducible refine gate_callee (f := 27) rfl ?_); refine goesL_ (some 12) rfl rfl Tryd.func27 (by kernel_rfl) rfl #[.slice Ao9 x0_1.length co9] rfl (by (try simp only [List.map_toArray, List.map_cons, List.map_nil]); first | done | rfl | (simp only [List.length_drop, List.length_take]; rfl)) ?_; (with_reducible refine (utf_char.calls k1 _ _ x0_1 t101 t102 _ ?side1 ?side2 A3.out).mono ?_); (case side1 => repeat (first | exact (Kd.V_reads' HO_0.out).2.2 | (with_reducible refine Kd.C_alloc ?_ _) | (with_reducible refine Kd.C_drewN ?_ _) | (with_reducible refine Kd.C_drew ?_))); (case side2 => exact (Kd.V_reads' HO_0.out).2.1); rintro e w' ⟨rfl, ⟨nd, rfl⟩⟩; refine ⟨_, rfl, ?_⟩) | ((with_reducible refine gate_builtin (b := .append) (xs := #[.tmp 17, .tmp 19]) rfl ?_); at_builtin; refine Kd.R_append (Kd.int .u32) (w0 := w) w.heap.size rfl (.tmp 17) (.tmp 19) 22 32 (.int .u32 0) 4 rfl Tryd.underlying22 info32 rfl (by decide) (by omega) u4 x4_1 t101 [.int .u32 t101] (fun k_ => (w.heap.size ≤ k_)) (fun _ => False) rfl rfl ?aP (fun _ hk => hk.elim) ?aF ?aO ?aB ?aS ?aL ?_; (case aP => exact rfl); (case aB => exact (by repeat (first | (with_reducible first | exact HB.out | apply below_alloc | apply pw_below_drewN | apply below_drew1) | exact HB.out))); (case aF => exact (fun k_ hk => (Nat.le_trans (below_size (by repeat (first | (with_reducible first | exact HB.out | apply below_alloc | apply pw_below_drewN | apply below_drew1) | exact HB.out))) hk))); (case aO => exact (by (with_reducible repeat (first | apply Kd.R_alloc | apply Kd.R_drewN | apply Kd.R_drew)); exact HO_4.out)); (case aS => exact (below_size (by repeat (first | (with_reducible first | exact HB.out | apply below_alloc | apply pw_below_drewN | apply below_drew1) | exact HB.out)))); (case aL => have := LMc6.out; omega); intro v104 w10 ho hb hg hat; rw [← Ny103.out] at ho; have n0_ := Aside0.mk (Kd.V_afterv (ok := (fun k_ => (P0_ k_ ∨ w.heap.size ≤ k_))) (by (with_reducible repeat (first | apply Kd.V_alloc | apply Kd.V_drewN | apply Kd.V_drew)); exact HO_0.out) hg hat); have n1_ := Aside0.mk (hb); have n2_ := Aside0.mk (ho); clear HO_0; clear HB; clear HO_4; have HO_0 := n0_; have HB := n1_; have HO105 := n2_; clear n0_ n1_ n2_; clear ho hb hg hat; have q11 : (t102 : Int) ≤ ((x0_1.length : Int) : Int) := of_decide_eq_true (by first | (with_reducible assumption) | assumption); obtain ⟨i011, hi011, _, hsz11, _⟩ := info_parts info5; have hroom11 : x0_1.length ≤ co9 := (Kd.V_reads' HO_0.out).2.1; have hC11 : Kd.F (Kd.int .u8) _ _ Ao9 x0_1.length x0_1 := (Kd.V_at (base := w.heap.size) HO_0.out).2.2; have q011 : (0 : Int) ≤ (t102 : Int) := of_decide_eq_true (by first | (with_reducible assumption) | assumption); have hcut11 := cut_from (P := Tryd.prog) 25 5 .i64 Tryd.underlying25 hi011 1 hsz11 Ao9 x0_1.length co9 t102 q011 q11; have hr11 := Kd.F_cut (m := (t102 : Int).toNat) (c := co9) hC11 (by omega) hroom11; obtain ⟨A11, hA11⟩ : ∃ A1, A1 = (if co9 = (t102 : Int).toNat then Ao9 else (Ao9 : Option Addr).map (·.add ((t102 : Int).toNat * 1))) := ⟨_, rfl⟩; obtain ⟨c11, hc11⟩ : ∃ c1, c1 = co9 - (t102 : Int).toNat := ⟨_, rfl⟩; have hy11 : y106.length = x0_1.length - (t102 : Int).toNat := (by rw [Ny106.out, List.length_drop] <;> omega); rw [show (x0_1).drop (t102 : Int).toNat = y106 from Ny106.out.symm] at hr11; replace hr11 : Kd.F (Kd.int .u8) _ _ A11 y106.length y106 := (by rw [hA11]; exact hr11); rw [← hy11, ← hA11, ← hc11] at hcut11; have HO110 := Aside0.mk (show Kd.V (Kd.int .u8) 5 _ w.heap.size _ (.slice A11 y106.length c11) y106 from Kd.V_mk (by rw [hy11, hc11]; exact Nat.sub_le_sub_right hroom11 _) hr11); have HC110 := Aside0.mk (show y106.length ≤ c11 from by rw [hy11, hc11]; exact Nat.sub_le_sub_right hroom11 _); clear hr11 hC11 hroom11 hi011 hsz11 hc11; have KY11 := Aside0.mk hy11; have KA11 := Aside0.mk hA11; clear hy11 hA11; replace q11 := eq_true q11))
                go_roundg k1
                case measure => have := HK1.out; omega
                case rel => exact ⟨(y106), (y103), H', ⟨by have := HK1.out; omega⟩, ⟨by (with_reducible repeat (first | apply Kd.V_alloc | apply Kd.V_drewN | apply Kd.V_drew)); exact HO110.out⟩, ⟨by (with_reducible repeat (first | apply Kd.R_alloc | apply Kd.R_drewN | apply Kd.R_drew)); exact HO105.out⟩, ⟨by repeat (first | (with_reducible first | exact HB.out | apply below_alloc | apply pw_below_drewN | apply below_drew1) | exact HB.out)⟩⟩
              · rw [if_neg c8] at H
                exact absurd H (by simp)
            · rw [if_neg c7] at H
              exact absurd H (by simp)
          · rw [if_neg c6] at H
            exact absurd H (by simp)
      · rw [if_neg c2] at H
        have c2b0 : decide (0 < (x0_1.length : Int)) = false := decide_eq_false c2
        have c2b1 : decide (0 < x0_1.length) = false := decide_eq_false (by omega)
        clear c2
        simp only [Option.some.injEq, Prod.mk.injEq] at H
        obtain ⟨rfl, rfl⟩ := H
        obtain ⟨Ao12, co12, eo12⟩ := Kd.V_slice HO_0.out
        subst eo12
        go_wp2
        go_ret2
        exact ⟨_, by first | rfl | (simp [errW_none, errW_some] <;> rfl) | (simp [*, errW_none, errW_some] <;> rfl), by (with_reducible repeat (first | apply Kd.R_alloc | apply Kd.R_drewN | apply Kd.R_drew)); exact HO_4.out, by repeat (first | (with_reducible first | exact HB.out | apply below_alloc | apply pw_below_drewN | apply below_drew1) | exact HB.out)⟩
theorem utf_Chars.calls (k : Nat) (A0 : Option Addr) (c0 : Nat) (l0 : List Int) (r1 : List Int) (r2 : Bool) (w : World) (hr0 : Kd.C (Kd.int .u8) w A0 l0.length l0) (hc0 : l0.length ≤ c0) (h : utf_Chars.f k l0 = some (r1, r2)) :
    Calls Tryd.prog 17 #[.slice A0 l0.length c0] w fun e w' => ∃ v0_ : Value, e = .returned (.tuple #[v0_, .bool r2]) ∧ Kd.R (Kd.int .u32) 32 w' w.heap.size (fun _ => True) v0_ r1 ∧ Below w.heap.size w w' := by
  refine (utf_Chars.calls_sh k (fun k_ => k_ < w.heap.size) A0 c0 l0 r1 r2 w (Kd.V_mk hc0 (Kd.F_below (Kd.C_F (Kd.heap_int .u8) hr0) (Below.refl w.heap.size w))) h).mono ?_
  rintro e w' ⟨v, rfl, ho, hb⟩
  exact ⟨v, rfl, Kd.R_mono ho (fun _ _ => trivial), hb⟩

/-! ### utf_Right: function 18 -/
def utf_Right.f (k : Nat) (l0 : List Int) : Option (Bool) := (utf_Chars.f k l0).bind fun bt101 => (some bt101.2)
theorem utf_Right.mono : ∀ a0 k, LeO (utf_Right.f k a0) (utf_Right.f (k + 1) a0) := by
  intro a0 k
  unfold utf_Right.f
  repeat' first
      | (with_reducible exact utf_Chars.mono _ _)
      | (with_reducible exact LeO.refl _)
      | (with_reducible exact LeO.none _)
      | (with_reducible refine LeO.ite ?_ ?_)
      | (with_reducible refine LeO.bind ?_ (fun _ => ?_))
      | exact utf_Chars.mono _ _
      | exact LeO.none _
      | refine LeO.ite ?_ ?_
      | refine LeO.bind ?_ (fun _ => ?_)
set_option maxHeartbeats 8000000 in
set_option maxRecDepth 100000 in
theorem utf_Right.calls (k : Nat) (A0 : Option Addr) (c0 : Nat) (l0 : List Int) (r : Bool) (w : World) (hr0 : Kd.C (Kd.int .u8) w A0 l0.length l0) (hc0 : l0.length ≤ c0) (h : utf_Right.f k l0 = some r) :
    Calls Tryd.prog 18 #[.slice A0 l0.length c0] w fun e w' => e = .returned (.bool r) ∧ Below w.heap.size w w' := by
  have HR0 := Aside0.mk hr0
  have HC0 := Aside0.mk hc0
  clear hr0 hc0
  have HB := Aside0.mk (Below.refl w.heap.size w)
  have H : ((utf_Chars.f k l0).bind fun bt101 => (some bt101.2)) = some r := h
  clear h
  replace H := Option.bind_eq_some_iff.mp H
  obtain ⟨⟨t101, t102⟩, A20, H⟩ := H
  replace H : (some t102) = some r := H
  have A2 := Aside0.mk A20
  clear A20
  obtain rfl := Option.some.inj H
  go_enter Tryd.func18, Tryd.ntmps18
  go_wp2_with (first | ((with_reducible refine gate_callee (f := 17) rfl ?_); refine goesL_ (some 7) rfl rfl Tryd.func17 (by kernel_rfl) rfl #[.slice A0 l0.length c0] rfl (by (try simp only [List.map_toArray, List.map_cons, List.map_nil]); first | done | rfl | (simp only [List.length_drop, List.length_take]; rfl)) ?_; (with_reducible refine (utf_Chars.calls k _ _ l0 t101 t102 _ ?side1 ?side2 A2.out).mono ?_); (case side1 => repeat (first | exact HR0.out | (with_reducible refine Kd.C_alloc ?_ _) | (with_reducible refine Kd.C_drewN ?_ _) | (with_reducible refine Kd.C_drew ?_))); (case side2 => exact HC0.out); rintro e w3 ⟨v103, rfl, ho0, hb⟩; refine ⟨_, rfl, ?_⟩; have n0_ := Aside0.mk (Kd.R_lower ho0 (below_size (by repeat (first | (with_reducible first | exact HB.out | apply below_alloc | apply pw_below_drewN | apply below_drew1) | exact HB.out)))); have n1_ := Aside0.mk (below_step (by repeat (first | (with_reducible first | exact HB.out | apply below_alloc | apply pw_below_drewN | apply below_drew1) | exact HB.out)) hb); clear HB; have HO104 := n0_; have HB := n1_; clear n0_ n1_; (try clear hb); (try clear hb2); (try clear hk); (try clear hi); (try clear hgw); (try clear ho0)))
  go_ret
  exact ⟨by first | rfl | (simp [errW_none, errW_some] <;> rfl) | (simp [*, errW_none, errW_some] <;> rfl), by repeat (first | (with_reducible first | exact HB.out | apply below_alloc | apply pw_below_drewN | apply below_drew1) | exact HB.out)⟩

/-! ### lw02_works: function 10 -/
def lw02_works.f (k : Nat)  : Option (Bool) := (utf_Text.f k (([65, 2047, 1114111] : List Int))).bind fun bt108 => ((utf_Chars.f k bt108.1).bind fun bt112 => (if bt108.2 = true then (if bt112.2 = true then (if (bt108.1.length : Int) = 7 then (if 1 < (bt108.1.length : Int) then (if (rd bt108.1 1) = 223 then (if 3 < (bt108.1.length : Int) then (if (rd bt108.1 3) = 244 then (if (bt112.1.length : Int) = 3 then (if 1 < (bt112.1.length : Int) then (if (rd bt112.1 1) = 2047 then ((utf_Right.f k (([192, 128] : List Int))).bind fun t122 => (if t122 = true then (some false) else ((utf_Right.f k ([] : List Int)).bind fun t123 => (if t123 = true then ((utf_Char.f 57344).bind fun t124 => (if t124 = true then ((utf_Char.f 55296).bind fun t125 => (some (!t125))) else (some false))) else (some false))))) else (some false)) else (none)) else (some false)) else (some false)) else (none)) else (some false)) else (none)) else (some false)) else (some false)) else (some false)))
theorem lw02_works.mono : ∀ k, LeO (lw02_works.f k ) (lw02_works.f (k + 1) ) := by
  intro  k
  unfold lw02_works.f
  repeat' first
      | (with_reducible exact utf_Chars.mono _ _)
      | (with_reducible exact utf_Right.mono _ _)
      | (with_reducible exact utf_Text.mono _ _)
      | (with_reducible exact LeO.refl _)
      | (with_reducible exact LeO.none _)
      | (with_reducible refine LeO.ite ?_ ?_)
      | (with_reducible refine LeO.bind ?_ (fun _ => ?_))
      | exact utf_Chars.mono _ _
      | exact utf_Right.mono _ _
      | exact utf_Text.mono _ _
      | exact LeO.none _
      | refine LeO.ite ?_ ?_
      | refine LeO.bind ?_ (fun _ => ?_)
set_option maxHeartbeats 8000000 in
set_option maxRecDepth 100000 in
theorem lw02_works.calls (k : Nat)  (r : Bool) (w : World) (hG : Hd w) (h : lw02_works.f k  = some r) :
    Calls Tryd.prog 10 #[] w fun e w' => e = .returned (.bool r) ∧ Below w.heap.size w w' := by
  have HB := Aside0.mk (Below.refl w.heap.size w)
  have HG := Aside0.mk hG
  clear hG
  have H : ((utf_Text.f k (([65, 2047, 1114111] : List Int))).bind fun bt108 => ((utf_Chars.f k bt108.1).bind fun bt112 => (if bt108.2 = true then (if bt112.2 = true then (if (bt108.1.length : Int) = 7 then (if 1 < (bt108.1.length : Int) then (if (rd bt108.1 1) = 223 then (if 3 < (bt108.1.length : Int) then (if (rd bt108.1 3) = 244 then (if (bt112.1.length : Int) = 3 then (if 1 < (bt112.1.length : Int) then (if (rd bt112.1 1) = 2047 then ((utf_Right.f k (([192, 128] : List Int))).bind fun t122 => (if t122 = true then (some false) else ((utf_Right.f k ([] : List Int)).bind fun t123 => (if t123 = true then ((utf_Char.f 57344).bind fun t124 => (if t124 = true then ((utf_Char.f 55296).bind fun t125 => (some (!t125))) else (some false))) else (some false))))) else (some false)) else (none)) else (some false)) else (some false)) else (none)) else (some false)) else (none)) else (some false)) else (some false)) else (some false)))) = some r := h
  clear h
  obtain ⟨y105, hy105⟩ : ∃ y_ : List Int, y_ = (([65, 2047, 1114111] : List Int)) := ⟨_, rfl⟩
  replace H : ((utf_Text.f k y105).bind fun bt108 => ((utf_Chars.f k bt108.1).bind fun bt112 => (if bt108.2 = true then (if bt112.2 = true then (if (bt108.1.length : Int) = 7 then (if 1 < (bt108.1.length : Int) then (if (rd bt108.1 1) = 223 then (if 3 < (bt108.1.length : Int) then (if (rd bt108.1 3) = 244 then (if (bt112.1.length : Int) = 3 then (if 1 < (bt112.1.length : Int) then (if (rd bt112.1 1) = 2047 then ((utf_Right.f k (([192, 128] : List Int))).bind fun t122 => (if t122 = true then (some false) else ((utf_Right.f k ([] : List Int)).bind fun t123 => (if t123 = true then ((utf_Char.f 57344).bind fun t124 => (if t124 = true then ((utf_Char.f 55296).bind fun t125 => (some (!t125))) else (some false))) else (some false))))) else (some false)) else (none)) else (some false)) else (some false)) else (none)) else (some false)) else (none)) else (some false)) else (some false)) else (some false)))) = some r := by first | (rw [hy105]; with_reducible exact H) | (have H2_ := (Option.bind_some _ _).symm.trans H; rw [hy105]; with_reducible exact H2_) | (have H2_ := (Option.bind_some _ _).symm.trans H; with_reducible exact H2_) | with_reducible exact H | (rw [hy105]; exact H) | exact H
  have Ny105 := Aside0.mk hy105
  clear hy105
  replace H := Option.bind_eq_some_iff.mp H
  obtain ⟨⟨t108, t109⟩, A10, H⟩ := H
  replace H : ((utf_Chars.f k t108).bind fun bt112 => (if t109 = true then (if bt112.2 = true then (if (t108.length : Int) = 7 then (if 1 < (t108.length : Int) then (if (rd t108 1) = 223 then (if 3 < (t108.length : Int) then (if (rd t108 3) = 244 then (if (bt112.1.length : Int) = 3 then (if 1 < (bt112.1.length : Int) then (if (rd bt112.1 1) = 2047 then ((utf_Right.f k (([192, 128] : List Int))).bind fun t122 => (if t122 = true then (some false) else ((utf_Right.f k ([] : List Int)).bind fun t123 => (if t123 = true then ((utf_Char.f 57344).bind fun t124 => (if t124 = true then ((utf_Char.f 55296).bind fun t125 => (some (!t125))) else (some false))) else (some false))))) else (some false)) else (none)) else (some false)) else (some false)) else (none)) else (some false)) else (none)) else (some false)) else (some false)) else (some false))) = some r := H
  have A1 := Aside0.mk A10
  clear A10
  replace H := Option.bind_eq_some_iff.mp H
  obtain ⟨⟨t112, t113⟩, A20, H⟩ := H
  replace H : (if t109 = true then (if t113 = true then (if (t108.length : Int) = 7 then (if 1 < (t108.length : Int) then (if (rd t108 1) = 223 then (if 3 < (t108.length : Int) then (if (rd t108 3) = 244 then (if (t112.length : Int) = 3 then (if 1 < (t112.length : Int) then (if (rd t112 1) = 2047 then ((utf_Right.f k (([192, 128] : List Int))).bind fun t122 => (if t122 = true then (some false) else ((utf_Right.f k ([] : List Int)).bind fun t123 => (if t123 = true then ((utf_Char.f 57344).bind fun t124 => (if t124 = true then ((utf_Char.f 55296).bind fun t125 => (some (!t125))) else (some false))) else (some false))))) else (some false)) else (none)) else (some false)) else (some false)) else (none)) else (some false)) else (none)) else (some false)) else (some false)) else (some false)) = some r := H
  have A2 := Aside0.mk A20
  clear A20
  by_cases c3 : t109 = true
  · subst c3
    have H1 : (if t113 = true then (if (t108.length : Int) = 7 then (if 1 < (t108.length : Int) then (if (rd t108 1) = 223 then (if 3 < (t108.length : Int) then (if (rd t108 3) = 244 then (if (t112.length : Int) = 3 then (if 1 < (t112.length : Int) then (if (rd t112 1) = 2047 then ((utf_Right.f k (([192, 128] : List Int))).bind fun t122 => (if t122 = true then (some false) else ((utf_Right.f k ([] : List Int)).bind fun t123 => (if t123 = true then ((utf_Char.f 57344).bind fun t124 => (if t124 = true then ((utf_Char.f 55296).bind fun t125 => (some (!t125))) else (some false))) else (some false))))) else (some false)) else (none)) else (some false)) else (some false)) else (none)) else (some false)) else (none)) else (some false)) else (some false)) = some r := by rw [if_pos rfl] at H; exact H
    clear H
    have H := H1
    clear H1
    by_cases c4 : t113 = true
    · subst c4
      have H1 : (if (t108.length : Int) = 7 then (if 1 < (t108.length : Int) then (if (rd t108 1) = 223 then (if 3 < (t108.length : Int) then (if (rd t108 3) = 244 then (if (t112.length : Int) = 3 then (if 1 < (t112.length : Int) then (if (rd t112 1) = 2047 then ((utf_Right.f k (([192, 128] : List Int))).bind fun t122 => (if t122 = true then (some false) else ((utf_Right.f k ([] : List Int)).bind fun t123 => (if t123 = true then ((utf_Char.f 57344).bind fun t124 => (if t124 = true then ((utf_Char.f 55296).bind fun t125 => (some (!t125))) else (some false))) else (some false))))) else (some false)) else (none)) else (some false)) else (some false)) else (none)) else (some false)) else (none)) else (some false)) = some r := by rw [if_pos rfl] at H; exact H
      clear H
      have H := H1
      clear H1
      by_cases c5 : (t108.length : Int) = 7
      · rw [if_pos c5] at H
        have c5b0 : ((t108.length : Int) == 7) = true := beq_iff_eq.mpr c5
        have c5b1 : ((t108.length : Int) != 7) = false := bne_eq_false_iff_eq.mpr c5
        clear c5
        by_cases c6 : 1 < (t108.length : Int)
        · rw [if_pos c6] at H
          have c6b0 : decide (1 < (t108.length : Int)) = true := decide_eq_true c6
          have c6b1 : decide (1 < t108.length) = true := decide_eq_true (by omega)
          clear c6
          by_cases c7 : (rd t108 1) = 223
          · rw [if_pos c7] at H
            have c7b0 : ((rd t108 1) == 223) = true := beq_iff_eq.mpr c7
            have c7b1 : ((rd t108 1) != 223) = false := bne_eq_false_iff_eq.mpr c7
            clear c7
            by_cases c8 : 3 < (t108.length : Int)
            · rw [if_pos c8] at H
              have c8b0 : decide (3 < (t108.length : Int)) = true := decide_eq_true c8
              have c8b1 : decide (3 < t108.length) = true := decide_eq_true (by omega)
              clear c8
              by_cases c9 : (rd t108 3) = 244
              · rw [if_pos c9] at H
                have c9b0 : ((rd t108 3) == 244) = true := beq_iff_eq.mpr c9
                have c9b1 : ((rd t108 3) != 244) = false := bne_eq_false_iff_eq.mpr c9
                clear c9
                by_cases c10 : (t112.length : Int) = 3
                · rw [if_pos c10] at H
                  have c10b0 : ((t112.length : Int) == 3) = true := beq_iff_eq.mpr c10
                  have c10b1 : ((t112.length : Int) != 3) = false := bne_eq_false_iff_eq.mpr c10
                  clear c10
                  by_cases c11 : 1 < (t112.length : Int)
                  · rw [if_pos c11] at H
                    have c11b0 : decide (1 < (t112.length : Int)) = true := decide_eq_true c11
                    have c11b1 : decide (1 < t112.length) = true := decide_eq_true (by omega)
                    clear c11
                    by_cases c12 : (rd t112 1) = 2047
                    · rw [if_pos c12] at H
                      have c12b0 : ((rd t112 1) == 2047) = true := beq_iff_eq.mpr c12
                      have c12b1 : ((rd t112 1) != 2047) = false := bne_eq_false_iff_eq.mpr c12
                      clear c12
                      obtain ⟨y119, hy119⟩ : ∃ y_ : List Int, y_ = (([192, 128] : List Int)) := ⟨_, rfl⟩
                      replace H : ((utf_Right.f k y119).bind fun t122 => (if t122 = true then (some false) else ((utf_Right.f k ([] : List Int)).bind fun t123 => (if t123 = true then ((utf_Char.f 57344).bind fun t124 => (if t124 = true then ((utf_Char.f 55296).bind fun t125 => (some (!t125))) else (some false))) else (some false))))) = some r := by first | (rw [hy119]; with_reducible exact H) | (have H2_ := (Option.bind_some _ _).symm.trans H; rw [hy119]; with_reducible exact H2_) | (have H2_ := (Option.bind_some _ _).symm.trans H; with_reducible exact H2_) | with_reducible exact H | (rw [hy119]; exact H) | exact H
                      have Ny119 := Aside0.mk hy119
                      clear hy119
                      replace H := Option.bind_eq_some_iff.mp H
                      obtain ⟨t122, A130, H⟩ := H
                      replace H : (if t122 = true then (some false) else ((utf_Right.f k ([] : List Int)).bind fun t123 => (if t123 = true then ((utf_Char.f 57344).bind fun t124 => (if t124 = true then ((utf_Char.f 55296).bind fun t125 => (some (!t125))) else (some false))) else (some false)))) = some r := H
                      have A13 := Aside0.mk A130
                      clear A130
                      by_cases c14 : t122 = true
                      · subst c14
                        have H1 : (some false) = some r := by rw [if_pos rfl] at H; exact H
                        clear H
                        have H := H1
                        clear H1
                        obtain rfl := Option.some.inj H
                        go_enter Tryd.func10, Tryd.ntmps10
                        go_wp2_with (first | ((with_reducible refine gate_dst (N := 6) rfl ?_); (try (refine gate_guard (by rfl) ?_; dsimp only)); refine Kd.R_lit (Kd.int .u32) _ 32 ?hg (N := 6) ?hd (xs := ([65, 2047, 1114111] : List Int)) (inner := [.int .u32 65, .int .u32 2047, .int .u32 1114111]) (ok := fun _ => True) (okp := fun _ => True) ?hr ?hp (fun _ hk => hk) trivial (Below.refl _ _) (Nat.le_refl _) (by simp) ?_; (case hd => rfl); (case hg => rfl); (case hr => first | (go_simp; done) | (go_simp; rfl)); (case hp => exact (Reps.one (show Kd.M (Kd.int .u32) _ _ _ 65 [.int .u32 65] from rfl) (Reps.one (show Kd.M (Kd.int .u32) _ _ _ 2047 [.int .u32 2047] from rfl) (Reps.one (show Kd.M (Kd.int .u32) _ _ _ 1114111 [.int .u32 1114111] from rfl) (Reps.none _ _))))); intro v106 w15 ho16 hb hg_ hnew_; clear hg_ hnew_; (first | rw [← Ny105.out] at ho16 | (simp only [Int.reduceToNat] at ho16; rw [← Ny105.out] at ho16)); have n0_ := Aside0.mk (Kd.R_lower ho16 (below_size (by repeat (first | (with_reducible first | exact HB.out | apply below_alloc | apply pw_below_drewN | apply below_drew1) | exact HB.out)))); have n1_ := Aside0.mk (below_step (by repeat (first | (with_reducible first | exact HB.out | apply below_alloc | apply pw_below_drewN | apply below_drew1) | exact HB.out)) hb); clear HB; have HO107 := n0_; have HB := n1_; clear n0_ n1_; clear hb ho16; obtain ⟨Ao17, co17, eo17⟩ := Kd.R_slice HO107.out; subst eo17) | ((with_reducible refine gate_callee (f := 11) rfl ?_); refine goesL_ (some 7) rfl rfl Tryd.func11 (by kernel_rfl) rfl #[.slice Ao17 y105.length co17] rfl (by (try simp only [List.map_toArray, List.map_cons, List.map_nil]); first | done | rfl | (simp only [List.length_drop, List.length_take]; rfl)) ?_; (with_reducible refine (utf_Text.calls k _ _ y105 t108 true _ ?side1 ?side2 ?side3 A1.out).mono ?_); (case side1 => exact Hd.below HG.out HG.out.size (by repeat (first | (with_reducible first | exact HB.out | apply below_alloc | apply pw_below_drewN | apply below_drew1) | exact HB.out))); (case side2 => repeat (first | exact (Kd.R_reads' HO107.out).2.2 | (with_reducible refine Kd.C_alloc ?_ _) | (with_reducible refine Kd.C_drewN ?_ _) | (with_reducible refine Kd.C_drew ?_))); (case side3 => exact (Kd.R_reads' HO107.out).2.1); rintro e w18 ⟨v110, rfl, ho0, hb⟩; refine ⟨_, rfl, ?_⟩; have n0_ := Aside0.mk (Kd.R_below (by (with_reducible repeat (first | apply Kd.R_alloc | apply Kd.R_drewN | apply Kd.R_drew)); exact HO107.out) hb); have n1_ := Aside0.mk (Kd.R_lower ho0 (below_size (by repeat (first | (with_reducible first | exact HB.out | apply below_alloc | apply pw_below_drewN | apply below_drew1) | exact HB.out)))); have n2_ := Aside0.mk (below_step (by repeat (first | (with_reducible first | exact HB.out | apply below_alloc | apply pw_below_drewN | apply below_drew1) | exact HB.out)) hb); clear HO107; clear HB; have HO107 := n0_; have HO111 := n1_; have HB := n2_; clear n0_ n1_ n2_; (try clear hb); (try clear hb2); (try clear hk); (try clear hi); (try clear hgw); (try clear ho0); obtain ⟨Ao19, co19, eo19⟩ := Kd.R_slice HO111.out; subst eo19) | ((with_reducible refine gate_callee (f := 17) rfl ?_); refine goesL_ (some 12) rfl rfl Tryd.func17 (by kernel_rfl) rfl #[.slice Ao19 t108.length co19] rfl (by (try simp only [List.map_toArray, List.map_cons, List.map_nil]); first | done | rfl | (simp only [List.length_drop, List.length_take]; rfl)) ?_; (with_reducible refine (utf_Chars.calls k _ _ t108 t112 true _ ?side1 ?side2 A2.out).mono ?_); (case side1 => repeat (first | exact (Kd.R_reads' HO111.out).2.2 | (with_reducible refine Kd.C_alloc ?_ _) | (with_reducible refine Kd.C_drewN ?_ _) | (with_reducible refine Kd.C_drew ?_))); (case side2 => exact (Kd.R_reads' HO111.out).2.1); rintro e w20 ⟨v114, rfl, ho0, hb⟩; refine ⟨_, rfl, ?_⟩; have n0_ := Aside0.mk (Kd.R_elder' (by (with_reducible repeat (first | apply Kd.R_alloc | apply Kd.R_drewN | apply Kd.R_drew)); exact HO107.out) (Kd.R_base ho0) hb); have n1_ := Aside0.mk (Kd.R_below (by (with_reducible repeat (first | apply Kd.R_alloc | apply Kd.R_drewN | apply Kd.R_drew)); exact HO111.out) hb); have n2_ := Aside0.mk (Kd.R_lower (Kd.R_new' ho0 (Kd.R_lt (by (with_reducible repeat (first | apply Kd.R_alloc | apply Kd.R_drewN | apply Kd.R_drew)); exact HO107.out))) (below_size (by repeat (first | (with_reducible first | exact HB.out | apply below_alloc | apply pw_below_drewN | apply below_drew1) | exact HB.out)))); have n3_ := Aside0.mk (below_step (by repeat (first | (with_reducible first | exact HB.out | apply below_alloc | apply pw_below_drewN | apply below_drew1) | exact HB.out)) hb); clear HO107; clear HO111; clear HB; have HO107 := n0_; have HO111 := n1_; have HO115 := n2_; have HB := n3_; clear n0_ n1_ n2_ n3_; (try clear hb); (try clear hb2); (try clear hk); (try clear hi); (try clear hgw); (try clear ho0); have p116 : 0 ≤ (1 : Int) := (by omega); have q116 : 1 < (t108.length : Int) := of_decide_eq_true (by first | (with_reducible assumption) | assumption); obtain ⟨ad116, e116, hx116_0⟩ := Kd.at_int (Kd.R_reads' HO111.out).2.2 1 p116 q116; cases e116; (try simp only [show (1 : Int).toNat = 1 from rfl, Nat.reduceMul, Nat.reduceEqDiff, Go.Addr.add, ↓reduceIte] at hx116_0); have qi116 : (1 < t108.length) = True := eq_true (by omega); (try rw [show ((1 : Int)).toNat = 1 from rfl] at hx116_0); replace p116 := eq_true p116; replace q116 := eq_true q116; have p117 : 0 ≤ (3 : Int) := (by omega); have q117 : 3 < (t108.length : Int) := of_decide_eq_true (by first | (with_reducible assumption) | assumption); obtain ⟨ad117, e117, hx117_0⟩ := Kd.at_int (Kd.R_reads' HO111.out).2.2 3 p117 q117; obtain rfl : ad116 = ad117 := (by injection e117); (try simp only [show (3 : Int).toNat = 3 from rfl, Nat.reduceMul, Nat.reduceEqDiff, Go.Addr.add, ↓reduceIte] at hx117_0); have qi117 : (3 < t108.length) = True := eq_true (by omega); (try rw [show ((3 : Int)).toNat = 3 from rfl] at hx117_0); replace p117 := eq_true p117; replace q117 := eq_true q117; obtain ⟨Ao21, co21, eo21⟩ := Kd.R_slice HO115.out; subst eo21; have p118 : 0 ≤ (1 : Int) := (by omega); have q118 : 1 < (t112.length : Int) := of_decide_eq_true (by first | (with_reducible assumption) | assumption); obtain ⟨ad118, e118, hx118_0⟩ := Kd.at_int (Kd.R_reads' HO115.out).2.2 1 p118 q118; cases e118; (try simp only [show (1 : Int).toNat = 1 from rfl, Nat.reduceMul, Nat.reduceEqDiff, Go.Addr.add, ↓reduceIte] at hx118_0); have qi118 : (1 < t112.length) = True := eq_true (by omega); (try rw [show ((1 : Int)).toNat = 1 from rfl] at hx118_0); replace p118 := eq_true p118; replace q118 := eq_true q118) | ((with_reducible refine gate_dst (N := 48) rfl ?_); (try (refine gate_guard (by rfl) ?_; dsimp only)); refine Kd.R_lit (Kd.int .u8) _ 5 ?hg (N := 48) ?hd (xs := ([192, 128] : List Int)) (inner := [.int .u8 192, .int .u8 128]) (ok := fun _ => True) (okp := fun _ => True) ?hr ?hp (fun _ hk => hk) trivial (Below.refl _ _) (Nat.le_refl _) (by simp) ?_; (case hd => rfl); (case hg => rfl); (case hr => first | (go_simp; done) | (go_simp; rfl)); (case hp => exact (Reps.one (show Kd.M (Kd.int .u8) _ _ _ 192 [.int .u8 192] from rfl) (Reps.one (show Kd.M (Kd.int .u8) _ _ _ 128 [.int .u8 128] from rfl) (Reps.none _ _)))); intro v120 w22 ho23 hb hg_ hnew_; clear hg_ hnew_; (first | rw [← Ny119.out] at ho23 | (simp only [Int.reduceToNat] at ho23; rw [← Ny119.out] at ho23)); have n0_ := Aside0.mk (Kd.R_below (by (with_reducible repeat (first | apply Kd.R_alloc | apply Kd.R_drewN | apply Kd.R_drew)); exact HO107.out) hb); have n1_ := Aside0.mk (Kd.R_elder' (by (with_reducible repeat (first | apply Kd.R_alloc | apply Kd.R_drewN | apply Kd.R_drew)); exact HO111.out) (Kd.R_base ho23) hb); have n2_ := Aside0.mk (Kd.R_below (by (with_reducible repeat (first | apply Kd.R_alloc | apply Kd.R_drewN | apply Kd.R_drew)); exact HO115.out) hb); have n3_ := Aside0.mk (Kd.R_lower (Kd.R_new' ho23 (Kd.R_lt (by (with_reducible repeat (first | apply Kd.R_alloc | apply Kd.R_drewN | apply Kd.R_drew)); exact HO111.out))) (below_size (by repeat (first | (with_reducible first | exact HB.out | apply below_alloc | apply pw_below_drewN | apply below_drew1) | exact HB.out)))); have n4_ := Aside0.mk (below_step (by repeat (first | (with_reducible first | exact HB.out | apply below_alloc | apply pw_below_drewN | apply below_drew1) | exact HB.out)) hb); clear HO107; clear HO111; clear HO115; clear HB; have HO107 := n0_; have HO111 := n1_; have HO115 := n2_; have HO121 := n3_; have HB := n4_; clear n0_ n1_ n2_ n3_ n4_; clear hb ho23; obtain ⟨Ao24, co24, eo24⟩ := Kd.R_slice HO121.out; subst eo24) | (go_at_call 18; (with_reducible refine (utf_Right.calls k _ _ y119 true _ ?side1 ?side2 A13.out).mono ?_); (case side1 => repeat (first | exact (Kd.R_reads' HO121.out).2.2 | (with_reducible refine Kd.C_alloc ?_ _) | (with_reducible refine Kd.C_drewN ?_ _) | (with_reducible refine Kd.C_drew ?_))); (case side2 => exact (Kd.R_reads' HO121.out).2.1); rintro e w25 ⟨rfl, hb⟩; have n0_ := Aside0.mk (Kd.R_below (by (with_reducible repeat (first | apply Kd.R_alloc | apply Kd.R_drewN | apply Kd.R_drew)); exact HO107.out) hb); have n1_ := Aside0.mk (Kd.R_below (by (with_reducible repeat (first | apply Kd.R_alloc | apply Kd.R_drewN | apply Kd.R_drew)); exact HO111.out) hb); have n2_ := Aside0.mk (Kd.R_below (by (with_reducible repeat (first | apply Kd.R_alloc | apply Kd.R_drewN | apply Kd.R_drew)); exact HO115.out) hb); have n3_ := Aside0.mk (Kd.R_below (by (with_reducible repeat (first | apply Kd.R_alloc | apply Kd.R_drewN | apply Kd.R_drew)); exact HO121.out) hb); have n4_ := Aside0.mk (below_step (by repeat (first | (with_reducible first | exact HB.out | apply below_alloc | apply pw_below_drewN | apply below_drew1) | exact HB.out)) hb); clear HO107; clear HO111; clear HO115; clear HO121; clear HB; have HO107 := n0_; have HO111 := n1_; have HO115 := n2_; have HO121 := n3_; have HB := n4_; clear n0_ n1_ n2_ n3_ n4_; (try clear hb); (try clear hb2); (try clear hk); (try clear hi); (try clear hgw)))
                        go_ret
                        exact ⟨by first | rfl | (simp [errW_none, errW_some] <;> rfl) | (simp [*, errW_none, errW_some] <;> rfl), by repeat (first | (with_reducible first | exact HB.out | apply below_alloc | apply pw_below_drewN | apply below_drew1) | exact HB.out)⟩
                      · replace c14 := Bool.eq_false_iff.mpr c14
                        subst c14
                        have H1 : ((utf_Right.f k ([] : List Int)).bind fun t123 => (if t123 = true then ((utf_Char.f 57344).bind fun t124 => (if t124 = true then ((utf_Char.f 55296).bind fun t125 => (some (!t125))) else (some false))) else (some false))) = some r := by rw [if_neg (show ¬ (false = true) by decide)] at H; exact H
                        clear H
                        have H := H1
                        clear H1
                        replace H := Option.bind_eq_some_iff.mp H
                        obtain ⟨t123, A260, H⟩ := H
                        replace H : (if t123 = true then ((utf_Char.f 57344).bind fun t124 => (if t124 = true then ((utf_Char.f 55296).bind fun t125 => (some (!t125))) else (some false))) else (some false)) = some r := H
                        have A26 := Aside0.mk A260
                        clear A260
                        by_cases c27 : t123 = true
                        · subst c27
                          have H1 : ((utf_Char.f 57344).bind fun t124 => (if t124 = true then ((utf_Char.f 55296).bind fun t125 => (some (!t125))) else (some false))) = some r := by rw [if_pos rfl] at H; exact H
                          clear H
                          have H := H1
                          clear H1
                          replace H := Option.bind_eq_some_iff.mp H
                          obtain ⟨t124, A280, H⟩ := H
                          replace H : (if t124 = true then ((utf_Char.f 55296).bind fun t125 => (some (!t125))) else (some false)) = some r := H
                          have A28 := Aside0.mk A280
                          clear A280
                          by_cases c29 : t124 = true
                          · subst c29
                            have H1 : ((utf_Char.f 55296).bind fun t125 => (some (!t125))) = some r := by rw [if_pos rfl] at H; exact H
                            clear H
                            have H := H1
                            clear H1
                            replace H := Option.bind_eq_some_iff.mp H
                            obtain ⟨t125, A300, H⟩ := H
                            replace H : (some (!t125)) = some r := H
                            have A30 := Aside0.mk A300
                            clear A300
                            obtain rfl := Option.some.inj H
                            go_enter Tryd.func10, Tryd.ntmps10
                            go_wp2_with (first | ((with_reducible refine gate_dst (N := 6) rfl ?_); (try (refine gate_guard (by rfl) ?_; dsimp only)); refine Kd.R_lit (Kd.int .u32) _ 32 ?hg (N := 6) ?hd (xs := ([65, 2047, 1114111] : List Int)) (inner := [.int .u32 65, .int .u32 2047, .int .u32 1114111]) (ok := fun _ => True) (okp := fun _ => True) ?hr ?hp (fun _ hk => hk) trivial (Below.refl _ _) (Nat.le_refl _) (by simp) ?_; (case hd => rfl); (case hg => rfl); (case hr => first | (go_simp; done) | (go_simp; rfl)); (case hp => exact (Reps.one (show Kd.M (Kd.int .u32) _ _ _ 65 [.int .u32 65] from rfl) (Reps.one (show Kd.M (Kd.int .u32) _ _ _ 2047 [.int .u32 2047] from rfl) (Reps.one (show Kd.M (Kd.int .u32) _ _ _ 1114111 [.int .u32 1114111] from rfl) (Reps.none _ _))))); intro v106 w31 ho32 hb hg_ hnew_; clear hg_ hnew_; (first | rw [← Ny105.out] at ho32 | (simp only [Int.reduceToNat] at ho32; rw [← Ny105.out] at ho32)); have n0_ := Aside0.mk (Kd.R_lower ho32 (below_size (by repeat (first | (with_reducible first | exact HB.out | apply below_alloc | apply pw_below_drewN | apply below_drew1) | exact HB.out)))); have n1_ := Aside0.mk (below_step (by repeat (first | (with_reducible first | exact HB.out | apply below_alloc | apply pw_below_drewN | apply below_drew1) | exact HB.out)) hb); clear HB; have HO107 := n0_; have HB := n1_; clear n0_ n1_; clear hb ho32; obtain ⟨Ao33, co33, eo33⟩ := Kd.R_slice HO107.out; subst eo33) | ((with_reducible refine gate_callee (f := 11) rfl ?_); refine goesL_ (some 7) rfl rfl Tryd.func11 (by kernel_rfl) rfl #[.slice Ao33 y105.length co33] rfl (by (try simp only [List.map_toArray, List.map_cons, List.map_nil]); first | done | rfl | (simp only [List.length_drop, List.length_take]; rfl)) ?_; (with_reducible refine (utf_Text.calls k _ _ y105 t108 true _ ?side1 ?side2 ?side3 A1.out).mono ?_); (case side1 => exact Hd.below HG.out HG.out.size (by repeat (first | (with_reducible first | exact HB.out | apply below_alloc | apply pw_below_drewN | apply below_drew1) | exact HB.out))); (case side2 => repeat (first | exact (Kd.R_reads' HO107.out).2.2 | (with_reducible refine Kd.C_alloc ?_ _) | (with_reducible refine Kd.C_drewN ?_ _) | (with_reducible refine Kd.C_drew ?_))); (case side3 => exact (Kd.R_reads' HO107.out).2.1); rintro e w34 ⟨v110, rfl, ho0, hb⟩; refine ⟨_, rfl, ?_⟩; have n0_ := Aside0.mk (Kd.R_below (by (with_reducible repeat (first | apply Kd.R_alloc | apply Kd.R_drewN | apply Kd.R_drew)); exact HO107.out) hb); have n1_ := Aside0.mk (Kd.R_lower ho0 (below_size (by repeat (first | (with_reducible first | exact HB.out | apply below_alloc | apply pw_below_drewN | apply below_drew1) | exact HB.out)))); have n2_ := Aside0.mk (below_step (by repeat (first | (with_reducible first | exact HB.out | apply below_alloc | apply pw_below_drewN | apply below_drew1) | exact HB.out)) hb); clear HO107; clear HB; have HO107 := n0_; have HO111 := n1_; have HB := n2_; clear n0_ n1_ n2_; (try clear hb); (try clear hb2); (try clear hk); (try clear hi); (try clear hgw); (try clear ho0); obtain ⟨Ao35, co35, eo35⟩ := Kd.R_slice HO111.out; subst eo35) | ((with_reducible refine gate_callee (f := 17) rfl ?_); refine goesL_ (some 12) rfl rfl Tryd.func17 (by kernel_rfl) rfl #[.slice Ao35 t108.length co35] rfl (by (try simp only [List.map_toArray, List.map_cons, List.map_nil]); first | done | rfl | (simp only [List.length_drop, List.length_take]; rfl)) ?_; (with_reducible refine (utf_Chars.calls k _ _ t108 t112 true _ ?side1 ?side2 A2.out).mono ?_); (case side1 => repeat (first | exact (Kd.R_reads' HO111.out).2.2 | (with_reducible refine Kd.C_alloc ?_ _) | (with_reducible refine Kd.C_drewN ?_ _) | (with_reducible refine Kd.C_drew ?_))); (case side2 => exact (Kd.R_reads' HO111.out).2.1); rintro e w36 ⟨v114, rfl, ho0, hb⟩; refine ⟨_, rfl, ?_⟩; have n0_ := Aside0.mk (Kd.R_elder' (by (with_reducible repeat (first | apply Kd.R_alloc | apply Kd.R_drewN | apply Kd.R_drew)); exact HO107.out) (Kd.R_base ho0) hb); have n1_ := Aside0.mk (Kd.R_below (by (with_reducible repeat (first | apply Kd.R_alloc | apply Kd.R_drewN | apply Kd.R_drew)); exact HO111.out) hb); have n2_ := Aside0.mk (Kd.R_lower (Kd.R_new' ho0 (Kd.R_lt (by (with_reducible repeat (first | apply Kd.R_alloc | apply Kd.R_drewN | apply Kd.R_drew)); exact HO107.out))) (below_size (by repeat (first | (with_reducible first | exact HB.out | apply below_alloc | apply pw_below_drewN | apply below_drew1) | exact HB.out)))); have n3_ := Aside0.mk (below_step (by repeat (first | (with_reducible first | exact HB.out | apply below_alloc | apply pw_below_drewN | apply below_drew1) | exact HB.out)) hb); clear HO107; clear HO111; clear HB; have HO107 := n0_; have HO111 := n1_; have HO115 := n2_; have HB := n3_; clear n0_ n1_ n2_ n3_; (try clear hb); (try clear hb2); (try clear hk); (try clear hi); (try clear hgw); (try clear ho0); have p116 : 0 ≤ (1 : Int) := (by omega); have q116 : 1 < (t108.length : Int) := of_decide_eq_true (by first | (with_reducible assumption) | assumption); obtain ⟨ad116, e116, hx116_0⟩ := Kd.at_int (Kd.R_reads' HO111.out).2.2 1 p116 q116; cases e116; (try simp only [show (1 : Int).toNat = 1 from rfl, Nat.reduceMul, Nat.reduceEqDiff, Go.Addr.add, ↓reduceIte] at hx116_0); have qi116 : (1 < t108.length) = True := eq_true (by omega); (try rw [show ((1 : Int)).toNat = 1 from rfl] at hx116_0); replace p116 := eq_true p116; replace q116 := eq_true q116; have p117 : 0 ≤ (3 : Int) := (by omega); have q117 : 3 < (t108.length : Int) := of_decide_eq_true (by first | (with_reducible assumption) | assumption); obtain ⟨ad117, e117, hx117_0⟩ := Kd.at_int (Kd.R_reads' HO111.out).2.2 3 p117 q117; obtain rfl : ad116 = ad117 := (by injection e117); (try simp only [show (3 : Int).toNat = 3 from rfl, Nat.reduceMul, Nat.reduceEqDiff, Go.Addr.add, ↓reduceIte] at hx117_0); have qi117 : (3 < t108.length) = True := eq_true (by omega); (try rw [show ((3 : Int)).toNat = 3 from rfl] at hx117_0); replace p117 := eq_true p117; replace q117 := eq_true q117; obtain ⟨Ao37, co37, eo37⟩ := Kd.R_slice HO115.out; subst eo37; have p118 : 0 ≤ (1 : Int) := (by omega); have q118 : 1 < (t112.length : Int) := of_decide_eq_true (by first | (with_reducible assumption) | assumption); obtain ⟨ad118, e118, hx118_0⟩ := Kd.at_int (Kd.R_reads' HO115.out).2.2 1 p118 q118; cases e118; (try simp only [show (1 : Int).toNat = 1 from rfl, Nat.reduceMul, Nat.reduceEqDiff, Go.Addr.add, ↓reduceIte] at hx118_0); have qi118 : (1 < t112.length) = True := eq_true (by omega); (try rw [show ((1 : Int)).toNat = 1 from rfl] at hx118_0); replace p118 := eq_true p118; replace q118 := eq_true q118) | ((with_reducible refine gate_dst (N := 48) rfl ?_); (try (refine gate_guard (by rfl) ?_; dsimp only)); refine Kd.R_lit (Kd.int .u8) _ 5 ?hg (N := 48) ?hd (xs := ([192, 128] : List Int)) (inner := [.int .u8 192, .int .u8 128]) (ok := fun _ => True) (okp := fun _ => True) ?hr ?hp (fun _ hk => hk) trivial (Below.refl _ _) (Nat.le_refl _) (by simp) ?_; (case hd => rfl); (case hg => rfl); (case hr => first | (go_simp; done) | (go_simp; rfl)); (case hp => exact (Reps.one (show Kd.M (Kd.int .u8) _ _ _ 192 [.int .u8 192] from rfl) (Reps.one (show Kd.M (Kd.int .u8) _ _ _ 128 [.int .u8 128] from rfl) (Reps.none _ _)))); intro v120 w38 ho39 hb hg_ hnew_; clear hg_ hnew_; (first | rw [← Ny119.out] at ho39 | (simp only [Int.reduceToNat] at ho39; rw [← Ny119.out] at ho39)); have n0_ := Aside0.mk (Kd.R_below (by (with_reducible repeat (first | apply Kd.R_alloc | apply Kd.R_drewN | apply Kd.R_drew)); exact HO107.out) hb); have n1_ := Aside0.mk (Kd.R_elder' (by (with_reducible repeat (first | apply Kd.R_alloc | apply Kd.R_drewN | apply Kd.R_drew)); exact HO111.out) (Kd.R_base ho39) hb); have n2_ := Aside0.mk (Kd.R_below (by (with_reducible repeat (first | apply Kd.R_alloc | apply Kd.R_drewN | apply Kd.R_drew)); exact HO115.out) hb); have n3_ := Aside0.mk (Kd.R_lower (Kd.R_new' ho39 (Kd.R_lt (by (with_reducible repeat (first | apply Kd.R_alloc | apply Kd.R_drewN | apply Kd.R_drew)); exact HO111.out))) (below_size (by repeat (first | (with_reducible first | exact HB.out | apply below_alloc | apply pw_below_drewN | apply below_drew1) | exact HB.out)))); have n4_ := Aside0.mk (below_step (by repeat (first | (with_reducible first | exact HB.out | apply below_alloc | apply pw_below_drewN | apply below_drew1) | exact HB.out)) hb); clear HO107; clear HO111; clear HO115; clear HB; have HO107 := n0_; have HO111 := n1_; have HO115 := n2_; have HO121 := n3_; have HB := n4_; clear n0_ n1_ n2_ n3_ n4_; clear hb ho39; obtain ⟨Ao40, co40, eo40⟩ := Kd.R_slice HO121.out; subst eo40) | (go_at_call 18; (with_reducible refine (utf_Right.calls k _ _ y119 false _ ?side1 ?side2 A13.out).mono ?_); (case side1 => repeat (first | exact (Kd.R_reads' HO121.out).2.2 | (with_reducible refine Kd.C_alloc ?_ _) | (with_reducible refine Kd.C_drewN ?_ _) | (with_reducible refine Kd.C_drew ?_))); (case side2 => exact (Kd.R_reads' HO121.out).2.1); rintro e w41 ⟨rfl, hb⟩; have n0_ := Aside0.mk (Kd.R_below (by (with_reducible repeat (first | apply Kd.R_alloc | apply Kd.R_drewN | apply Kd.R_drew)); exact HO107.out) hb); have n1_ := Aside0.mk (Kd.R_below (by (with_reducible repeat (first | apply Kd.R_alloc | apply Kd.R_drewN | apply Kd.R_drew)); exact HO111.out) hb); have n2_ := Aside0.mk (Kd.R_below (by (with_reducible repeat (first | apply Kd.R_alloc | apply Kd.R_drewN | apply Kd.R_drew)); exact HO115.out) hb); have n3_ := Aside0.mk (Kd.R_below (by (with_reducible repeat (first | apply Kd.R_alloc | apply Kd.R_drewN | apply Kd.R_drew)); exact HO121.out) hb); have n4_ := Aside0.mk (below_step (by repeat (first | (with_reducible first | exact HB.out | apply below_alloc | apply pw_below_drewN | apply below_drew1) | exact HB.out)) hb); clear HO107; clear HO111; clear HO115; clear HO121; clear HB; have HO107 := n0_; have HO111 := n1_; have HO115 := n2_; have HO121 := n3_; have HB := n4_; clear n0_ n1_ n2_ n3_ n4_; (try clear hb); (try clear hb2); (try clear hk); (try clear hi); (try clear hgw)) | (go_at_call 18; (refine (utf_Right.calls k _ _ ([] : List Int) true _ ?side1 ?side2 A26.out).mono ?_); (case side1 => exact Kd.C_nil _ _); (case side2 => exact Nat.le_refl _); rintro e w42 ⟨rfl, hb⟩; have n0_ := Aside0.mk (Kd.R_below (by (with_reducible repeat (first | apply Kd.R_alloc | apply Kd.R_drewN | apply Kd.R_drew)); exact HO107.out) hb); have n1_ := Aside0.mk (Kd.R_below (by (with_reducible repeat (first | apply Kd.R_alloc | apply Kd.R_drewN | apply Kd.R_drew)); exact HO111.out) hb); have n2_ := Aside0.mk (Kd.R_below (by (with_reducible repeat (first | apply Kd.R_alloc | apply Kd.R_drewN | apply Kd.R_drew)); exact HO115.out) hb); have n3_ := Aside0.mk (Kd.R_below (by (with_reducible repeat (first | apply Kd.R_alloc | apply Kd.R_drewN | apply Kd.R_drew)); exact HO121.out) hb); have n4_ := Aside0.mk (below_step (by repeat (first | (with_reducible first | exact HB.out | apply below_alloc | apply pw_below_drewN | apply below_drew1) | exact HB.out)) hb); clear HO107; clear HO111; clear HO115; clear HO121; clear HB; have HO107 := n0_; have HO111 := n1_; have HO115 := n2_; have HO121 := n3_; have HB := n4_; clear n0_ n1_ n2_ n3_ n4_; (try clear hb); (try clear hb2); (try clear hk); (try clear hi); (try clear hgw)) | (go_at_call 15; (with_reducible refine (utf_Char.calls 57344 true _ A28.out).mono ?_); rintro e w' ⟨rfl, ⟨nd, rfl⟩⟩) | (go_at_call 15; (with_reducible refine (utf_Char.calls 55296 t125 _ A30.out).mono ?_); rintro e w' ⟨rfl, ⟨nd, rfl⟩⟩))
                            go_ret
                            exact ⟨by first | rfl | (simp [errW_none, errW_some] <;> rfl) | (simp [*, errW_none, errW_some] <;> rfl), by repeat (first | (with_reducible first | exact HB.out | apply below_alloc | apply pw_below_drewN | apply below_drew1) | exact HB.out)⟩
                          · replace c29 := Bool.eq_false_iff.mpr c29
                            subst c29
                            have H1 : (some false) = some r := by rw [if_neg (show ¬ (false = true) by decide)] at H; exact H
                            clear H
                            have H := H1
                            clear H1
                            obtain rfl := Option.some.inj H
                            go_enter Tryd.func10, Tryd.ntmps10
                            go_wp2_with (first | ((with_reducible refine gate_dst (N := 6) rfl ?_); (try (refine gate_guard (by rfl) ?_; dsimp only)); refine Kd.R_lit (Kd.int .u32) _ 32 ?hg (N := 6) ?hd (xs := ([65, 2047, 1114111] : List Int)) (inner := [.int .u32 65, .int .u32 2047, .int .u32 1114111]) (ok := fun _ => True) (okp := fun _ => True) ?hr ?hp (fun _ hk => hk) trivial (Below.refl _ _) (Nat.le_refl _) (by simp) ?_; (case hd => rfl); (case hg => rfl); (case hr => first | (go_simp; done) | (go_simp; rfl)); (case hp => exact (Reps.one (show Kd.M (Kd.int .u32) _ _ _ 65 [.int .u32 65] from rfl) (Reps.one (show Kd.M (Kd.int .u32) _ _ _ 2047 [.int .u32 2047] from rfl) (Reps.one (show Kd.M (Kd.int .u32) _ _ _ 1114111 [.int .u32 1114111] from rfl) (Reps.none _ _))))); intro v106 w43 ho44 hb hg_ hnew_; clear hg_ hnew_; (first | rw [← Ny105.out] at ho44 | (simp only [Int.reduceToNat] at ho44; rw [← Ny105.out] at ho44)); have n0_ := Aside0.mk (Kd.R_lower ho44 (below_size (by repeat (first | (with_reducible first | exact HB.out | apply below_alloc | apply pw_below_drewN | apply below_drew1) | exact HB.out)))); have n1_ := Aside0.mk (below_step (by repeat (first | (with_reducible first | exact HB.out | apply below_alloc | apply pw_below_drewN | apply below_drew1) | exact HB.out)) hb); clear HB; have HO107 := n0_; have HB := n1_; clear n0_ n1_; clear hb ho44; obtain ⟨Ao45, co45, eo45⟩ := Kd.R_slice HO107.out; subst eo45) | ((with_reducible refine gate_callee (f := 11) rfl ?_); refine goesL_ (some 7) rfl rfl Tryd.func11 (by kernel_rfl) rfl #[.slice Ao45 y105.length co45] rfl (by (try simp only [List.map_toArray, List.map_cons, List.map_nil]); first | done | rfl | (simp only [List.length_drop, List.length_take]; rfl)) ?_; (with_reducible refine (utf_Text.calls k _ _ y105 t108 true _ ?side1 ?side2 ?side3 A1.out).mono ?_); (case side1 => exact Hd.below HG.out HG.out.size (by repeat (first | (with_reducible first | exact HB.out | apply below_alloc | apply pw_below_drewN | apply below_drew1) | exact HB.out))); (case side2 => repeat (first | exact (Kd.R_reads' HO107.out).2.2 | (with_reducible refine Kd.C_alloc ?_ _) | (with_reducible refine Kd.C_drewN ?_ _) | (with_reducible refine Kd.C_drew ?_))); (case side3 => exact (Kd.R_reads' HO107.out).2.1); rintro e w46 ⟨v110, rfl, ho0, hb⟩; refine ⟨_, rfl, ?_⟩; have n0_ := Aside0.mk (Kd.R_below (by (with_reducible repeat (first | apply Kd.R_alloc | apply Kd.R_drewN | apply Kd.R_drew)); exact HO107.out) hb); have n1_ := Aside0.mk (Kd.R_lower ho0 (below_size (by repeat (first | (with_reducible first | exact HB.out | apply below_alloc | apply pw_below_drewN | apply below_drew1) | exact HB.out)))); have n2_ := Aside0.mk (below_step (by repeat (first | (with_reducible first | exact HB.out | apply below_alloc | apply pw_below_drewN | apply below_drew1) | exact HB.out)) hb); clear HO107; clear HB; have HO107 := n0_; have HO111 := n1_; have HB := n2_; clear n0_ n1_ n2_; (try clear hb); (try clear hb2); (try clear hk); (try clear hi); (try clear hgw); (try clear ho0); obtain ⟨Ao47, co47, eo47⟩ := Kd.R_slice HO111.out; subst eo47) | ((with_reducible refine gate_callee (f := 17) rfl ?_); refine goesL_ (some 12) rfl rfl Tryd.func17 (by kernel_rfl) rfl #[.slice Ao47 t108.length co47] rfl (by (try simp only [List.map_toArray, List.map_cons, List.map_nil]); first | done | rfl | (simp only [List.length_drop, List.length_take]; rfl)) ?_; (with_reducible refine (utf_Chars.calls k _ _ t108 t112 true _ ?side1 ?side2 A2.out).mono ?_); (case side1 => repeat (first | exact (Kd.R_reads' HO111.out).2.2 | (with_reducible refine Kd.C_alloc ?_ _) | (with_reducible refine Kd.C_drewN ?_ _) | (with_reducible refine Kd.C_drew ?_))); (case side2 => exact (Kd.R_reads' HO111.out).2.1); rintro e w48 ⟨v114, rfl, ho0, hb⟩; refine ⟨_, rfl, ?_⟩; have n0_ := Aside0.mk (Kd.R_elder' (by (with_reducible repeat (first | apply Kd.R_alloc | apply Kd.R_drewN | apply Kd.R_drew)); exact HO107.out) (Kd.R_base ho0) hb); have n1_ := Aside0.mk (Kd.R_below (by (with_reducible repeat (first | apply Kd.R_alloc | apply Kd.R_drewN | apply Kd.R_drew)); exact HO111.out) hb); have n2_ := Aside0.mk (Kd.R_lower (Kd.R_new' ho0 (Kd.R_lt (by (with_reducible repeat (first | apply Kd.R_alloc | apply Kd.R_drewN | apply Kd.R_drew)); exact HO107.out))) (below_size (by repeat (first | (with_reducible first | exact HB.out | apply below_alloc | apply pw_below_drewN | apply below_drew1) | exact HB.out)))); have n3_ := Aside0.mk (below_step (by repeat (first | (with_reducible first | exact HB.out | apply below_alloc | apply pw_below_drewN | apply below_drew1) | exact HB.out)) hb); clear HO107; clear HO111; clear HB; have HO107 := n0_; have HO111 := n1_; have HO115 := n2_; have HB := n3_; clear n0_ n1_ n2_ n3_; (try clear hb); (try clear hb2); (try clear hk); (try clear hi); (try clear hgw); (try clear ho0); have p116 : 0 ≤ (1 : Int) := (by omega); have q116 : 1 < (t108.length : Int) := of_decide_eq_true (by first | (with_reducible assumption) | assumption); obtain ⟨ad116, e116, hx116_0⟩ := Kd.at_int (Kd.R_reads' HO111.out).2.2 1 p116 q116; cases e116; (try simp only [show (1 : Int).toNat = 1 from rfl, Nat.reduceMul, Nat.reduceEqDiff, Go.Addr.add, ↓reduceIte] at hx116_0); have qi116 : (1 < t108.length) = True := eq_true (by omega); (try rw [show ((1 : Int)).toNat = 1 from rfl] at hx116_0); replace p116 := eq_true p116; replace q116 := eq_true q116; have p117 : 0 ≤ (3 : Int) := (by omega); have q117 : 3 < (t108.length : Int) := of_decide_eq_true (by first | (with_reducible assumption) | assumption); obtain ⟨ad117, e117, hx117_0⟩ := Kd.at_int (Kd.R_reads' HO111.out).2.2 3 p117 q117; obtain rfl : ad116 = ad117 := (by injection e117); (try simp only [show (3 : Int).toNat = 3 from rfl, Nat.reduceMul, Nat.reduceEqDiff, Go.Addr.add, ↓reduceIte] at hx117_0); have qi117 : (3 < t108.length) = True := eq_true (by omega); (try rw [show ((3 : Int)).toNat = 3 from rfl] at hx117_0); replace p117 := eq_true p117; replace q117 := eq_true q117; obtain ⟨Ao49, co49, eo49⟩ := Kd.R_slice HO115.out; subst eo49; have p118 : 0 ≤ (1 : Int) := (by omega); have q118 : 1 < (t112.length : Int) := of_decide_eq_true (by first | (with_reducible assumption) | assumption); obtain ⟨ad118, e118, hx118_0⟩ := Kd.at_int (Kd.R_reads' HO115.out).2.2 1 p118 q118; cases e118; (try simp only [show (1 : Int).toNat = 1 from rfl, Nat.reduceMul, Nat.reduceEqDiff, Go.Addr.add, ↓reduceIte] at hx118_0); have qi118 : (1 < t112.length) = True := eq_true (by omega); (try rw [show ((1 : Int)).toNat = 1 from rfl] at hx118_0); replace p118 := eq_true p118; replace q118 := eq_true q118) | ((with_reducible refine gate_dst (N := 48) rfl ?_); (try (refine gate_guard (by rfl) ?_; dsimp only)); refine Kd.R_lit (Kd.int .u8) _ 5 ?hg (N := 48) ?hd (xs := ([192, 128] : List Int)) (inner := [.int .u8 192, .int .u8 128]) (ok := fun _ => True) (okp := fun _ => True) ?hr ?hp (fun _ hk => hk) trivial (Below.refl _ _) (Nat.le_refl _) (by simp) ?_; (case hd => rfl); (case hg => rfl); (case hr => first | (go_simp; done) | (go_simp; rfl)); (case hp => exact (Reps.one (show Kd.M (Kd.int .u8) _ _ _ 192 [.int .u8 192] from rfl) (Reps.one (show Kd.M (Kd.int .u8) _ _ _ 128 [.int .u8 128] from rfl) (Reps.none _ _)))); intro v120 w50 ho51 hb hg_ hnew_; clear hg_ hnew_; (first | rw [← Ny119.out] at ho51 | (simp only [Int.reduceToNat] at ho51; rw [← Ny119.out] at ho51)); have n0_ := Aside0.mk (Kd.R_below (by (with_reducible repeat (first | apply Kd.R_alloc | apply Kd.R_drewN | apply Kd.R_drew)); exact HO107.out) hb); have n1_ := Aside0.mk (Kd.R_elder' (by (with_reducible repeat (first | apply Kd.R_alloc | apply Kd.R_drewN | apply Kd.R_drew)); exact HO111.out) (Kd.R_base ho51) hb); have n2_ := Aside0.mk (Kd.R_below (by (with_reducible repeat (first | apply Kd.R_alloc | apply Kd.R_drewN | apply Kd.R_drew)); exact HO115.out) hb); have n3_ := Aside0.mk (Kd.R_lower (Kd.R_new' ho51 (Kd.R_lt (by (with_reducible repeat (first | apply Kd.R_alloc | apply Kd.R_drewN | apply Kd.R_drew)); exact HO111.out))) (below_size (by repeat (first | (with_reducible first | exact HB.out | apply below_alloc | apply pw_below_drewN | apply below_drew1) | exact HB.out)))); have n4_ := Aside0.mk (below_step (by repeat (first | (with_reducible first | exact HB.out | apply below_alloc | apply pw_below_drewN | apply below_drew1) | exact HB.out)) hb); clear HO107; clear HO111; clear HO115; clear HB; have HO107 := n0_; have HO111 := n1_; have HO115 := n2_; have HO121 := n3_; have HB := n4_; clear n0_ n1_ n2_ n3_ n4_; clear hb ho51; obtain ⟨Ao52, co52, eo52⟩ := Kd.R_slice HO121.out; subst eo52) | (go_at_call 18; (with_reducible refine (utf_Right.calls k _ _ y119 false _ ?side1 ?side2 A13.out).mono ?_); (case side1 => repeat (first | exact (Kd.R_reads' HO121.out).2.2 | (with_reducible refine Kd.C_alloc ?_ _) | (with_reducible refine Kd.C_drewN ?_ _) | (with_reducible refine Kd.C_drew ?_))); (case side2 => exact (Kd.R_reads' HO121.out).2.1); rintro e w53 ⟨rfl, hb⟩; have n0_ := Aside0.mk (Kd.R_below (by (with_reducible repeat (first | apply Kd.R_alloc | apply Kd.R_drewN | apply Kd.R_drew)); exact HO107.out) hb); have n1_ := Aside0.mk (Kd.R_below (by (with_reducible repeat (first | apply Kd.R_alloc | apply Kd.R_drewN | apply Kd.R_drew)); exact HO111.out) hb); have n2_ := Aside0.mk (Kd.R_below (by (with_reducible repeat (first | apply Kd.R_alloc | apply Kd.R_drewN | apply Kd.R_drew)); exact HO115.out) hb); have n3_ := Aside0.mk (Kd.R_below (by (with_reducible repeat (first | apply Kd.R_alloc | apply Kd.R_drewN | apply Kd.R_drew)); exact HO121.out) hb); have n4_ := Aside0.mk (below_step (by repeat (first | (with_reducible first | exact HB.out | apply below_alloc | apply pw_below_drewN | apply below_drew1) | exact HB.out)) hb); clear HO107; clear HO111; clear HO115; clear HO121; clear HB; have HO107 := n0_; have HO111 := n1_; have HO115 := n2_; have HO121 := n3_; have HB := n4_; clear n0_ n1_ n2_ n3_ n4_; (try clear hb); (try clear hb2); (try clear hk); (try clear hi); (try clear hgw)) | (go_at_call 18; (refine (utf_Right.calls k _ _ ([] : List Int) true _ ?side1 ?side2 A26.out).mono ?_); (case side1 => exact Kd.C_nil _ _); (case side2 => exact Nat.le_refl _); rintro e w54 ⟨rfl, hb⟩; have n0_ := Aside0.mk (Kd.R_below (by (with_reducible repeat (first | apply Kd.R_alloc | apply Kd.R_drewN | apply Kd.R_drew)); exact HO107.out) hb); have n1_ := Aside0.mk (Kd.R_below (by (with_reducible repeat (first | apply Kd.R_alloc | apply Kd.R_drewN | apply Kd.R_drew)); exact HO111.out) hb); have n2_ := Aside0.mk (Kd.R_below (by (with_reducible repeat (first | apply Kd.R_alloc | apply Kd.R_drewN | apply Kd.R_drew)); exact HO115.out) hb); have n3_ := Aside0.mk (Kd.R_below (by (with_reducible repeat (first | apply Kd.R_alloc | apply Kd.R_drewN | apply Kd.R_drew)); exact HO121.out) hb); have n4_ := Aside0.mk (below_step (by repeat (first | (with_reducible first | exact HB.out | apply below_alloc | apply pw_below_drewN | apply below_drew1) | exact HB.out)) hb); clear HO107; clear HO111; clear HO115; clear HO121; clear HB; have HO107 := n0_; have HO111 := n1_; have HO115 := n2_; have HO121 := n3_; have HB := n4_; clear n0_ n1_ n2_ n3_ n4_; (try clear hb); (try clear hb2); (try clear hk); (try clear hi); (try clear hgw)) | (go_at_call 15; (with_reducible refine (utf_Char.calls 57344 false _ A28.out).mono ?_); rintro e w' ⟨rfl, ⟨nd, rfl⟩⟩))
                            go_ret
                            exact ⟨by first | rfl | (simp [errW_none, errW_some] <;> rfl) | (simp [*, errW_none, errW_some] <;> rfl), by repeat (first | (with_reducible first | exact HB.out | apply below_alloc | apply pw_below_drewN | apply below_drew1) | exact HB.out)⟩
                        · replace c27 := Bool.eq_false_iff.mpr c27
                          subst c27
                          have H1 : (some false) = some r := by rw [if_neg (show ¬ (false = true) by decide)] at H; exact H
                          clear H
                          have H := H1
                          clear H1
                          obtain rfl := Option.some.inj H
                          go_enter Tryd.func10, Tryd.ntmps10
                          go_wp2_with (first | ((with_reducible refine gate_dst (N := 6) rfl ?_); (try (refine gate_guard (by rfl) ?_; dsimp only)); refine Kd.R_lit (Kd.int .u32) _ 32 ?hg (N := 6) ?hd (xs := ([65, 2047, 1114111] : List Int)) (inner := [.int .u32 65, .int .u32 2047, .int .u32 1114111]) (ok := fun _ => True) (okp := fun _ => True) ?hr ?hp (fun _ hk => hk) trivial (Below.refl _ _) (Nat.le_refl _) (by simp) ?_; (case hd => rfl); (case hg => rfl); (case hr => first | (go_simp; done) | (go_simp; rfl)); (case hp => exact (Reps.one (show Kd.M (Kd.int .u32) _ _ _ 65 [.int .u32 65] from rfl) (Reps.one (show Kd.M (Kd.int .u32) _ _ _ 2047 [.int .u32 2047] from rfl) (Reps.one (show Kd.M (Kd.int .u32) _ _ _ 1114111 [.int .u32 1114111] from rfl) (Reps.none _ _))))); intro v106 w55 ho56 hb hg_ hnew_; clear hg_ hnew_; (first | rw [← Ny105.out] at ho56 | (simp only [Int.reduceToNat] at ho56; rw [← Ny105.out] at ho56)); have n0_ := Aside0.mk (Kd.R_lower ho56 (below_size (by repeat (first | (with_reducible first | exact HB.out | apply below_alloc | apply pw_below_drewN | apply below_drew1) | exact HB.out)))); have n1_ := Aside0.mk (below_step (by repeat (first | (with_reducible first | exact HB.out | apply below_alloc | apply pw_below_drewN | apply below_drew1) | exact HB.out)) hb); clear HB; have HO107 := n0_; have HB := n1_; clear n0_ n1_; clear hb ho56; obtain ⟨Ao57, co57, eo57⟩ := Kd.R_slice HO107.out; subst eo57) | ((with_reducible refine gate_callee (f := 11) rfl ?_); refine goesL_ (some 7) rfl rfl Tryd.func11 (by kernel_rfl) rfl #[.slice Ao57 y105.length co57] rfl (by (try simp only [List.map_toArray, List.map_cons, List.map_nil]); first | done | rfl | (simp only [List.length_drop, List.length_take]; rfl)) ?_; (with_reducible refine (utf_Text.calls k _ _ y105 t108 true _ ?side1 ?side2 ?side3 A1.out).mono ?_); (case side1 => exact Hd.below HG.out HG.out.size (by repeat (first | (with_reducible first | exact HB.out | apply below_alloc | apply pw_below_drewN | apply below_drew1) | exact HB.out))); (case side2 => repeat (first | exact (Kd.R_reads' HO107.out).2.2 | (with_reducible refine Kd.C_alloc ?_ _) | (with_reducible refine Kd.C_drewN ?_ _) | (with_reducible refine Kd.C_drew ?_))); (case side3 => exact (Kd.R_reads' HO107.out).2.1); rintro e w58 ⟨v110, rfl, ho0, hb⟩; refine ⟨_, rfl, ?_⟩; have n0_ := Aside0.mk (Kd.R_below (by (with_reducible repeat (first | apply Kd.R_alloc | apply Kd.R_drewN | apply Kd.R_drew)); exact HO107.out) hb); have n1_ := Aside0.mk (Kd.R_lower ho0 (below_size (by repeat (first | (with_reducible first | exact HB.out | apply below_alloc | apply pw_below_drewN | apply below_drew1) | exact HB.out)))); have n2_ := Aside0.mk (below_step (by repeat (first | (with_reducible first | exact HB.out | apply below_alloc | apply pw_below_drewN | apply below_drew1) | exact HB.out)) hb); clear HO107; clear HB; have HO107 := n0_; have HO111 := n1_; have HB := n2_; clear n0_ n1_ n2_; (try clear hb); (try clear hb2); (try clear hk); (try clear hi); (try clear hgw); (try clear ho0); obtain ⟨Ao59, co59, eo59⟩ := Kd.R_slice HO111.out; subst eo59) | ((with_reducible refine gate_callee (f := 17) rfl ?_); refine goesL_ (some 12) rfl rfl Tryd.func17 (by kernel_rfl) rfl #[.slice Ao59 t108.length co59] rfl (by (try simp only [List.map_toArray, List.map_cons, List.map_nil]); first | done | rfl | (simp only [List.length_drop, List.length_take]; rfl)) ?_; (with_reducible refine (utf_Chars.calls k _ _ t108 t112 true _ ?side1 ?side2 A2.out).mono ?_); (case side1 => repeat (first | exact (Kd.R_reads' HO111.out).2.2 | (with_reducible refine Kd.C_alloc ?_ _) | (with_reducible refine Kd.C_drewN ?_ _) | (with_reducible refine Kd.C_drew ?_))); (case side2 => exact (Kd.R_reads' HO111.out).2.1); rintro e w60 ⟨v114, rfl, ho0, hb⟩; refine ⟨_, rfl, ?_⟩; have n0_ := Aside0.mk (Kd.R_elder' (by (with_reducible repeat (first | apply Kd.R_alloc | apply Kd.R_drewN | apply Kd.R_drew)); exact HO107.out) (Kd.R_base ho0) hb); have n1_ := Aside0.mk (Kd.R_below (by (with_reducible repeat (first | apply Kd.R_alloc | apply Kd.R_drewN | apply Kd.R_drew)); exact HO111.out) hb); have n2_ := Aside0.mk (Kd.R_lower (Kd.R_new' ho0 (Kd.R_lt (by (with_reducible repeat (first | apply Kd.R_alloc | apply Kd.R_drewN | apply Kd.R_drew)); exact HO107.out))) (below_size (by repeat (first | (with_reducible first | exact HB.out | apply below_alloc | apply pw_below_drewN | apply below_drew1) | exact HB.out)))); have n3_ := Aside0.mk (below_step (by repeat (first | (with_reducible first | exact HB.out | apply below_alloc | apply pw_below_drewN | apply below_drew1) | exact HB.out)) hb); clear HO107; clear HO111; clear HB; have HO107 := n0_; have HO111 := n1_; have HO115 := n2_; have HB := n3_; clear n0_ n1_ n2_ n3_; (try clear hb); (try clear hb2); (try clear hk); (try clear hi); (try clear hgw); (try clear ho0); have p116 : 0 ≤ (1 : Int) := (by omega); have q116 : 1 < (t108.length : Int) := of_decide_eq_true (by first | (with_reducible assumption) | assumption); obtain ⟨ad116, e116, hx116_0⟩ := Kd.at_int (Kd.R_reads' HO111.out).2.2 1 p116 q116; cases e116; (try simp only [show (1 : Int).toNat = 1 from rfl, Nat.reduceMul, Nat.reduceEqDiff, Go.Addr.add, ↓reduceIte] at hx116_0); have qi116 : (1 < t108.length) = True := eq_true (by omega); (try rw [show ((1 : Int)).toNat = 1 from rfl] at hx116_0); replace p116 := eq_true p116; replace q116 := eq_true q116; have p117 : 0 ≤ (3 : Int) := (by omega); have q117 : 3 < (t108.length : Int) := of_decide_eq_true (by first | (with_reducible assumption) | assumption); obtain ⟨ad117, e117, hx117_0⟩ := Kd.at_int (Kd.R_reads' HO111.out).2.2 3 p117 q117; obtain rfl : ad116 = ad117 := (by injection e117); (try simp only [show (3 : Int).toNat = 3 from rfl, Nat.reduceMul, Nat.reduceEqDiff, Go.Addr.add, ↓reduceIte] at hx117_0); have qi117 : (3 < t108.length) = True := eq_true (by omega); (try rw [show ((3 : Int)).toNat = 3 from rfl] at hx117_0); replace p117 := eq_true p117; replace q117 := eq_true q117; obtain ⟨Ao61, co61, eo61⟩ := Kd.R_slice HO115.out; subst eo61; have p118 : 0 ≤ (1 : Int) := (by omega); have q118 : 1 < (t112.length : Int) := of_decide_eq_true (by first | (with_reducible assumption) | assumption); obtain ⟨ad118, e118, hx118_0⟩ := Kd.at_int (Kd.R_reads' HO115.out).2.2 1 p118 q118; cases e118; (try simp only [show (1 : Int).toNat = 1 from rfl, Nat.reduceMul, Nat.reduceEqDiff, Go.Addr.add, ↓reduceIte] at hx118_0); have qi118 : (1 < t112.length) = True := eq_true (by omega); (try rw [show ((1 : Int)).toNat = 1 from rfl] at hx118_0); replace p118 := eq_true p118; replace q118 := eq_true q118) | ((with_reducible refine gate_dst (N := 48) rfl ?_); (try (refine gate_guard (by rfl) ?_; dsimp only)); refine Kd.R_lit (Kd.int .u8) _ 5 ?hg (N := 48) ?hd (xs := ([192, 128] : List Int)) (inner := [.int .u8 192, .int .u8 128]) (ok := fun _ => True) (okp := fun _ => True) ?hr ?hp (fun _ hk => hk) trivial (Below.refl _ _) (Nat.le_refl _) (by simp) ?_; (case hd => rfl); (case hg => rfl); (case hr => first | (go_simp; done) | (go_simp; rfl)); (case hp => exact (Reps.one (show Kd.M (Kd.int .u8) _ _ _ 192 [.int .u8 192] from rfl) (Reps.one (show Kd.M (Kd.int .u8) _ _ _ 128 [.int .u8 128] from rfl) (Reps.none _ _)))); intro v120 w62 ho63 hb hg_ hnew_; clear hg_ hnew_; (first | rw [← Ny119.out] at ho63 | (simp only [Int.reduceToNat] at ho63; rw [← Ny119.out] at ho63)); have n0_ := Aside0.mk (Kd.R_below (by (with_reducible repeat (first | apply Kd.R_alloc | apply Kd.R_drewN | apply Kd.R_drew)); exact HO107.out) hb); have n1_ := Aside0.mk (Kd.R_elder' (by (with_reducible repeat (first | apply Kd.R_alloc | apply Kd.R_drewN | apply Kd.R_drew)); exact HO111.out) (Kd.R_base ho63) hb); have n2_ := Aside0.mk (Kd.R_below (by (with_reducible repeat (first | apply Kd.R_alloc | apply Kd.R_drewN | apply Kd.R_drew)); exact HO115.out) hb); have n3_ := Aside0.mk (Kd.R_lower (Kd.R_new' ho63 (Kd.R_lt (by (with_reducible repeat (first | apply Kd.R_alloc | apply Kd.R_drewN | apply Kd.R_drew)); exact HO111.out))) (below_size (by repeat (first | (with_reducible first | exact HB.out | apply below_alloc | apply pw_below_drewN | apply below_drew1) | exact HB.out)))); have n4_ := Aside0.mk (below_step (by repeat (first | (with_reducible first | exact HB.out | apply below_alloc | apply pw_below_drewN | apply below_drew1) | exact HB.out)) hb); clear HO107; clear HO111; clear HO115; clear HB; have HO107 := n0_; have HO111 := n1_; have HO115 := n2_; have HO121 := n3_; have HB := n4_; clear n0_ n1_ n2_ n3_ n4_; clear hb ho63; obtain ⟨Ao64, co64, eo64⟩ := Kd.R_slice HO121.out; subst eo64) | (go_at_call 18; (with_reducible refine (utf_Right.calls k _ _ y119 false _ ?side1 ?side2 A13.out).mono ?_); (case side1 => repeat (first | exact (Kd.R_reads' HO121.out).2.2 | (with_reducible refine Kd.C_alloc ?_ _) | (with_reducible refine Kd.C_drewN ?_ _) | (with_reducible refine Kd.C_drew ?_))); (case side2 => exact (Kd.R_reads' HO121.out).2.1); rintro e w65 ⟨rfl, hb⟩; have n0_ := Aside0.mk (Kd.R_below (by (with_reducible repeat (first | apply Kd.R_alloc | apply Kd.R_drewN | apply Kd.R_drew)); exact HO107.out) hb); have n1_ := Aside0.mk (Kd.R_below (by (with_reducible repeat (first | apply Kd.R_alloc | apply Kd.R_drewN | apply Kd.R_drew)); exact HO111.out) hb); have n2_ := Aside0.mk (Kd.R_below (by (with_reducible repeat (first | apply Kd.R_alloc | apply Kd.R_drewN | apply Kd.R_drew)); exact HO115.out) hb); have n3_ := Aside0.mk (Kd.R_below (by (with_reducible repeat (first | apply Kd.R_alloc | apply Kd.R_drewN | apply Kd.R_drew)); exact HO121.out) hb); have n4_ := Aside0.mk (below_step (by repeat (first | (with_reducible first | exact HB.out | apply below_alloc | apply pw_below_drewN | apply below_drew1) | exact HB.out)) hb); clear HO107; clear HO111; clear HO115; clear HO121; clear HB; have HO107 := n0_; have HO111 := n1_; have HO115 := n2_; have HO121 := n3_; have HB := n4_; clear n0_ n1_ n2_ n3_ n4_; (try clear hb); (try clear hb2); (try clear hk); (try clear hi); (try clear hgw)) | (go_at_call 18; (refine (utf_Right.calls k _ _ ([] : List Int) false _ ?side1 ?side2 A26.out).mono ?_); (case side1 => exact Kd.C_nil _ _); (case side2 => exact Nat.le_refl _); rintro e w66 ⟨rfl, hb⟩; have n0_ := Aside0.mk (Kd.R_below (by (with_reducible repeat (first | apply Kd.R_alloc | apply Kd.R_drewN | apply Kd.R_drew)); exact HO107.out) hb); have n1_ := Aside0.mk (Kd.R_below (by (with_reducible repeat (first | apply Kd.R_alloc | apply Kd.R_drewN | apply Kd.R_drew)); exact HO111.out) hb); have n2_ := Aside0.mk (Kd.R_below (by (with_reducible repeat (first | apply Kd.R_alloc | apply Kd.R_drewN | apply Kd.R_drew)); exact HO115.out) hb); have n3_ := Aside0.mk (Kd.R_below (by (with_reducible repeat (first | apply Kd.R_alloc | apply Kd.R_drewN | apply Kd.R_drew)); exact HO121.out) hb); have n4_ := Aside0.mk (below_step (by repeat (first | (with_reducible first | exact HB.out | apply below_alloc | apply pw_below_drewN | apply below_drew1) | exact HB.out)) hb); clear HO107; clear HO111; clear HO115; clear HO121; clear HB; have HO107 := n0_; have HO111 := n1_; have HO115 := n2_; have HO121 := n3_; have HB := n4_; clear n0_ n1_ n2_ n3_ n4_; (try clear hb); (try clear hb2); (try clear hk); (try clear hi); (try clear hgw)))
                          go_ret
                          exact ⟨by first | rfl | (simp [errW_none, errW_some] <;> rfl) | (simp [*, errW_none, errW_some] <;> rfl), by repeat (first | (with_reducible first | exact HB.out | apply below_alloc | apply pw_below_drewN | apply below_drew1) | exact HB.out)⟩
                    · rw [if_neg c12] at H
                      have c12b0 : ((rd t112 1) == 2047) = false := beq_eq_false_iff_ne.mpr c12
                      have c12b1 : ((rd t112 1) != 2047) = true := bne_iff_ne.mpr c12
                      obtain rfl := Option.some.inj H
                      go_enter Tryd.func10, Tryd.ntmps10
                      go_wp2_with (first | ((with_reducible refine gate_dst (N := 6) rfl ?_); (try (refine gate_guard (by rfl) ?_; dsimp only)); refine Kd.R_lit (Kd.int .u32) _ 32 ?hg (N := 6) ?hd (xs := ([65, 2047, 1114111] : List Int)) (inner := [.int .u32 65, .int .u32 2047, .int .u32 1114111]) (ok := fun _ => True) (okp := fun _ => True) ?hr ?hp (fun _ hk => hk) trivial (Below.refl _ _) (Nat.le_refl _) (by simp) ?_; (case hd => rfl); (case hg => rfl); (case hr => first | (go_simp; done) | (go_simp; rfl)); (case hp => exact (Reps.one (show Kd.M (Kd.int .u32) _ _ _ 65 [.int .u32 65] from rfl) (Reps.one (show Kd.M (Kd.int .u32) _ _ _ 2047 [.int .u32 2047] from rfl) (Reps.one (show Kd.M (Kd.int .u32) _ _ _ 1114111 [.int .u32 1114111] from rfl) (Reps.none _ _))))); intro v106 w67 ho68 hb hg_ hnew_; clear hg_ hnew_; (first | rw [← Ny105.out] at ho68 | (simp only [Int.reduceToNat] at ho68; rw [← Ny105.out] at ho68)); have n0_ := Aside0.mk (Kd.R_lower ho68 (below_size (by repeat (first | (with_reducible first | exact HB.out | apply below_alloc | apply pw_below_drewN | apply below_drew1) | exact HB.out)))); have n1_ := Aside0.mk (below_step (by repeat (first | (with_reducible first | exact HB.out | apply below_alloc | apply pw_below_drewN | apply below_drew1) | exact HB.out)) hb); clear HB; have HO107 := n0_; have HB := n1_; clear n0_ n1_; clear hb ho68; obtain ⟨Ao69, co69, eo69⟩ := Kd.R_slice HO107.out; subst eo69) | ((with_reducible refine gate_callee (f := 11) rfl ?_); refine goesL_ (some 7) rfl rfl Tryd.func11 (by kernel_rfl) rfl #[.slice Ao69 y105.length co69] rfl (by (try simp only [List.map_toArray, List.map_cons, List.map_nil]); first | done | rfl | (simp only [List.length_drop, List.length_take]; rfl)) ?_; (with_reducible refine (utf_Text.calls k _ _ y105 t108 true _ ?side1 ?side2 ?side3 A1.out).mono ?_); (case side1 => exact Hd.below HG.out HG.out.size (by repeat (first | (with_reducible first | exact HB.out | apply below_alloc | apply pw_below_drewN | apply below_drew1) | exact HB.out))); (case side2 => repeat (first | exact (Kd.R_reads' HO107.out).2.2 | (with_reducible refine Kd.C_alloc ?_ _) | (with_reducible refine Kd.C_drewN ?_ _) | (with_reducible refine Kd.C_drew ?_))); (case side3 => exact (Kd.R_reads' HO107.out).2.1); rintro e w70 ⟨v110, rfl, ho0, hb⟩; refine ⟨_, rfl, ?_⟩; have n0_ := Aside0.mk (Kd.R_below (by (with_reducible repeat (first | apply Kd.R_alloc | apply Kd.R_drewN | apply Kd.R_drew)); exact HO107.out) hb); have n1_ := Aside0.mk (Kd.R_lower ho0 (below_size (by repeat (first | (with_reducible first | exact HB.out | apply below_alloc | apply pw_below_drewN | apply below_drew1) | exact HB.out)))); have n2_ := Aside0.mk (below_step (by repeat (first | (with_reducible first | exact HB.out | apply below_alloc | apply pw_below_drewN | apply below_drew1) | exact HB.out)) hb); clear HO107; clear HB; have HO107 := n0_; have HO111 := n1_; have HB := n2_; clear n0_ n1_ n2_; (try clear hb); (try clear hb2); (try clear hk); (try clear hi); (try clear hgw); (try clear ho0); obtain ⟨Ao71, co71, eo71⟩ := Kd.R_slice HO111.out; subst eo71) | ((with_reducible refine gate_callee (f := 17) rfl ?_); refine goesL_ (some 12) rfl rfl Tryd.func17 (by kernel_rfl) rfl #[.slice Ao71 t108.length co71] rfl (by (try simp only [List.map_toArray, List.map_cons, List.map_nil]); first | done | rfl | (simp only [List.length_drop, List.length_take]; rfl)) ?_; (with_reducible refine (utf_Chars.calls k _ _ t108 t112 true _ ?side1 ?side2 A2.out).mono ?_); (case side1 => repeat (first | exact (Kd.R_reads' HO111.out).2.2 | (with_reducible refine Kd.C_alloc ?_ _) | (with_reducible refine Kd.C_drewN ?_ _) | (with_reducible refine Kd.C_drew ?_))); (case side2 => exact (Kd.R_reads' HO111.out).2.1); rintro e w72 ⟨v114, rfl, ho0, hb⟩; refine ⟨_, rfl, ?_⟩; have n0_ := Aside0.mk (Kd.R_elder' (by (with_reducible repeat (first | apply Kd.R_alloc | apply Kd.R_drewN | apply Kd.R_drew)); exact HO107.out) (Kd.R_base ho0) hb); have n1_ := Aside0.mk (Kd.R_below (by (with_reducible repeat (first | apply Kd.R_alloc | apply Kd.R_drewN | apply Kd.R_drew)); exact HO111.out) hb); have n2_ := Aside0.mk (Kd.R_lower (Kd.R_new' ho0 (Kd.R_lt (by (with_reducible repeat (first | apply Kd.R_alloc | apply Kd.R_drewN | apply Kd.R_drew)); exact HO107.out))) (below_size (by repeat (first | (with_reducible first | exact HB.out | apply below_alloc | apply pw_below_drewN | apply below_drew1) | exact HB.out)))); have n3_ := Aside0.mk (below_step (by repeat (first | (with_reducible first | exact HB.out | apply below_alloc | apply pw_below_drewN | apply below_drew1) | exact HB.out)) hb); clear HO107; clear HO111; clear HB; have HO107 := n0_; have HO111 := n1_; have HO115 := n2_; have HB := n3_; clear n0_ n1_ n2_ n3_; (try clear hb); (try clear hb2); (try clear hk); (try clear hi); (try clear hgw); (try clear ho0); have p116 : 0 ≤ (1 : Int) := (by omega); have q116 : 1 < (t108.length : Int) := of_decide_eq_true (by first | (with_reducible assumption) | assumption); obtain ⟨ad116, e116, hx116_0⟩ := Kd.at_int (Kd.R_reads' HO111.out).2.2 1 p116 q116; cases e116; (try simp only [show (1 : Int).toNat = 1 from rfl, Nat.reduceMul, Nat.reduceEqDiff, Go.Addr.add, ↓reduceIte] at hx116_0); have qi116 : (1 < t108.length) = True := eq_true (by omega); (try rw [show ((1 : Int)).toNat = 1 from rfl] at hx116_0); replace p116 := eq_true p116; replace q116 := eq_true q116; have p117 : 0 ≤ (3 : Int) := (by omega); have q117 : 3 < (t108.length : Int) := of_decide_eq_true (by first | (with_reducible assumption) | assumption); obtain ⟨ad117, e117, hx117_0⟩ := Kd.at_int (Kd.R_reads' HO111.out).2.2 3 p117 q117; obtain rfl : ad116 = ad117 := (by injection e117); (try simp only [show (3 : Int).toNat = 3 from rfl, Nat.reduceMul, Nat.reduceEqDiff, Go.Addr.add, ↓reduceIte] at hx117_0); have qi117 : (3 < t108.length) = True := eq_true (by omega); (try rw [show ((3 : Int)).toNat = 3 from rfl] at hx117_0); replace p117 := eq_true p117; replace q117 := eq_true q117; obtain ⟨Ao73, co73, eo73⟩ := Kd.R_slice HO115.out; subst eo73; have p118 : 0 ≤ (1 : Int) := (by omega); have q118 : 1 < (t112.length : Int) := of_decide_eq_true (by first | (with_reducible assumption) | assumption); obtain ⟨ad118, e118, hx118_0⟩ := Kd.at_int (Kd.R_reads' HO115.out).2.2 1 p118 q118; cases e118; (try simp only [show (1 : Int).toNat = 1 from rfl, Nat.reduceMul, Nat.reduceEqDiff, Go.Addr.add, ↓reduceIte] at hx118_0); have qi118 : (1 < t112.length) = True := eq_true (by omega); (try rw [show ((1 : Int)).toNat = 1 from rfl] at hx118_0); replace p118 := eq_true p118; replace q118 := eq_true q118))
                      go_ret
                      exact ⟨by first | rfl | (simp [errW_none, errW_some] <;> rfl) | (simp [*, errW_none, errW_some] <;> rfl), by repeat (first | (with_reducible first | exact HB.out | apply below_alloc | apply pw_below_drewN | apply below_drew1) | exact HB.out)⟩
                  · rw [if_neg c11] at H
                    exact absurd H (by simp)
                · rw [if_neg c10] at H
                  have c10b0 : ((t112.length : Int) == 3) = false := beq_eq_false_iff_ne.mpr c10
                  have c10b1 : ((t112.length : Int) != 3) = true := bne_iff_ne.mpr c10
                  obtain rfl := Option.some.inj H
                  go_enter Tryd.func10, Tryd.ntmps10
                  go_wp2_with (first | ((with_reducible refine gate_dst (N := 6) rfl ?_); (try (refine gate_guard (by rfl) ?_; dsimp only)); refine Kd.R_lit (Kd.int .u32) _ 32 ?hg (N := 6) ?hd (xs := ([65, 2047, 1114111] : List Int)) (inner := [.int .u32 65, .int .u32 2047, .int .u32 1114111]) (ok := fun _ => True) (okp := fun _ => True) ?hr ?hp (fun _ hk => hk) trivial (Below.refl _ _) (Nat.le_refl _) (by simp) ?_; (case hd => rfl); (case hg => rfl); (case hr => first | (go_simp; done) | (go_simp; rfl)); (case hp => exact (Reps.one (show Kd.M (Kd.int .u32) _ _ _ 65 [.int .u32 65] from rfl) (Reps.one (show Kd.M (Kd.int .u32) _ _ _ 2047 [.int .u32 2047] from rfl) (Reps.one (show Kd.M (Kd.int .u32) _ _ _ 1114111 [.int .u32 1114111] from rfl) (Reps.none _ _))))); intro v106 w74 ho75 hb hg_ hnew_; clear hg_ hnew_; (first | rw [← Ny105.out] at ho75 | (simp only [Int.reduceToNat] at ho75; rw [← Ny105.out] at ho75)); have n0_ := Aside0.mk (Kd.R_lower ho75 (below_size (by repeat (first | (with_reducible first | exact HB.out | apply below_alloc | apply pw_below_drewN | apply below_drew1) | exact HB.out)))); have n1_ := Aside0.mk (below_step (by repeat (first | (with_reducible first | exact HB.out | apply below_alloc | apply pw_below_drewN | apply below_drew1) | exact HB.out)) hb); clear HB; have HO107 := n0_; have HB := n1_; clear n0_ n1_; clear hb ho75; obtain ⟨Ao76, co76, eo76⟩ := Kd.R_slice HO107.out; subst eo76) | ((with_reducible refine gate_callee (f := 11) rfl ?_); refine goesL_ (some 7) rfl rfl Tryd.func11 (by kernel_rfl) rfl #[.slice Ao76 y105.length co76] rfl (by (try simp only [List.map_toArray, List.map_cons, List.map_nil]); first | done | rfl | (simp only [List.length_drop, List.length_take]; rfl)) ?_; (with_reducible refine (utf_Text.calls k _ _ y105 t108 true _ ?side1 ?side2 ?side3 A1.out).mono ?_); (case side1 => exact Hd.below HG.out HG.out.size (by repeat (first | (with_reducible first | exact HB.out | apply below_alloc | apply pw_below_drewN | apply below_drew1) | exact HB.out))); (case side2 => repeat (first | exact (Kd.R_reads' HO107.out).2.2 | (with_reducible refine Kd.C_alloc ?_ _) | (with_reducible refine Kd.C_drewN ?_ _) | (with_reducible refine Kd.C_drew ?_))); (case side3 => exact (Kd.R_reads' HO107.out).2.1); rintro e w77 ⟨v110, rfl, ho0, hb⟩; refine ⟨_, rfl, ?_⟩; have n0_ := Aside0.mk (Kd.R_below (by (with_reducible repeat (first | apply Kd.R_alloc | apply Kd.R_drewN | apply Kd.R_drew)); exact HO107.out) hb); have n1_ := Aside0.mk (Kd.R_lower ho0 (below_size (by repeat (first | (with_reducible first | exact HB.out | apply below_alloc | apply pw_below_drewN | apply below_drew1) | exact HB.out)))); have n2_ := Aside0.mk (below_step (by repeat (first | (with_reducible first | exact HB.out | apply below_alloc | apply pw_below_drewN | apply below_drew1) | exact HB.out)) hb); clear HO107; clear HB; have HO107 := n0_; have HO111 := n1_; have HB := n2_; clear n0_ n1_ n2_; (try clear hb); (try clear hb2); (try clear hk); (try clear hi); (try clear hgw); (try clear ho0); obtain ⟨Ao78, co78, eo78⟩ := Kd.R_slice HO111.out; subst eo78) | ((with_reducible refine gate_callee (f := 17) rfl ?_); refine goesL_ (some 12) rfl rfl Tryd.func17 (by kernel_rfl) rfl #[.slice Ao78 t108.length co78] rfl (by (try simp only [List.map_toArray, List.map_cons, List.map_nil]); first | done | rfl | (simp only [List.length_drop, List.length_take]; rfl)) ?_; (with_reducible refine (utf_Chars.calls k _ _ t108 t112 true _ ?side1 ?side2 A2.out).mono ?_); (case side1 => repeat (first | exact (Kd.R_reads' HO111.out).2.2 | (with_reducible refine Kd.C_alloc ?_ _) | (with_reducible refine Kd.C_drewN ?_ _) | (with_reducible refine Kd.C_drew ?_))); (case side2 => exact (Kd.R_reads' HO111.out).2.1); rintro e w79 ⟨v114, rfl, ho0, hb⟩; refine ⟨_, rfl, ?_⟩; have n0_ := Aside0.mk (Kd.R_elder' (by (with_reducible repeat (first | apply Kd.R_alloc | apply Kd.R_drewN | apply Kd.R_drew)); exact HO107.out) (Kd.R_base ho0) hb); have n1_ := Aside0.mk (Kd.R_below (by (with_reducible repeat (first | apply Kd.R_alloc | apply Kd.R_drewN | apply Kd.R_drew)); exact HO111.out) hb); have n2_ := Aside0.mk (Kd.R_lower (Kd.R_new' ho0 (Kd.R_lt (by (with_reducible repeat (first | apply Kd.R_alloc | apply Kd.R_drewN | apply Kd.R_drew)); exact HO107.out))) (below_size (by repeat (first | (with_reducible first | exact HB.out | apply below_alloc | apply pw_below_drewN | apply below_drew1) | exact HB.out)))); have n3_ := Aside0.mk (below_step (by repeat (first | (with_reducible first | exact HB.out | apply below_alloc | apply pw_below_drewN | apply below_drew1) | exact HB.out)) hb); clear HO107; clear HO111; clear HB; have HO107 := n0_; have HO111 := n1_; have HO115 := n2_; have HB := n3_; clear n0_ n1_ n2_ n3_; (try clear hb); (try clear hb2); (try clear hk); (try clear hi); (try clear hgw); (try clear ho0); have p116 : 0 ≤ (1 : Int) := (by omega); have q116 : 1 < (t108.length : Int) := of_decide_eq_true (by first | (with_reducible assumption) | assumption); obtain ⟨ad116, e116, hx116_0⟩ := Kd.at_int (Kd.R_reads' HO111.out).2.2 1 p116 q116; cases e116; (try simp only [show (1 : Int).toNat = 1 from rfl, Nat.reduceMul, Nat.reduceEqDiff, Go.Addr.add, ↓reduceIte] at hx116_0); have qi116 : (1 < t108.length) = True := eq_true (by omega); (try rw [show ((1 : Int)).toNat = 1 from rfl] at hx116_0); replace p116 := eq_true p116; replace q116 := eq_true q116; have p117 : 0 ≤ (3 : Int) := (by omega); have q117 : 3 < (t108.length : Int) := of_decide_eq_true (by first | (with_reducible assumption) | assumption); obtain ⟨ad117, e117, hx117_0⟩ := Kd.at_int (Kd.R_reads' HO111.out).2.2 3 p117 q117; obtain rfl : ad116 = ad117 := (by injection e117); (try simp only [show (3 : Int).toNat = 3 from rfl, Nat.reduceMul, Nat.reduceEqDiff, Go.Addr.add, ↓reduceIte] at hx117_0); have qi117 : (3 < t108.length) = True := eq_true (by omega); (try rw [show ((3 : Int)).toNat = 3 from rfl] at hx117_0); replace p117 := eq_true p117; replace q117 := eq_true q117; obtain ⟨Ao80, co80, eo80⟩ := Kd.R_slice HO115.out; subst eo80))
                  go_ret
                  exact ⟨by first | rfl | (simp [errW_none, errW_some] <;> rfl) | (simp [*, errW_none, errW_some] <;> rfl), by repeat (first | (with_reducible first | exact HB.out | apply below_alloc | apply pw_below_drewN | apply below_drew1) | exact HB.out)⟩
              · rw [if_neg c9] at H
                have c9b0 : ((rd t108 3) == 244) = false := beq_eq_false_iff_ne.mpr c9
                have c9b1 : ((rd t108 3) != 244) = true := bne_iff_ne.mpr c9
                obtain rfl := Option.some.inj H
                go_enter Tryd.func10, Tryd.ntmps10
                go_wp2_with (first | ((with_reducible refine gate_dst (N := 6) rfl ?_); (try (refine gate_guard (by rfl) ?_; dsimp only)); refine Kd.R_lit (Kd.int .u32) _ 32 ?hg (N := 6) ?hd (xs := ([65, 2047, 1114111] : List Int)) (inner := [.int .u32 65, .int .u32 2047, .int .u32 1114111]) (ok := fun _ => True) (okp := fun _ => True) ?hr ?hp (fun _ hk => hk) trivial (Below.refl _ _) (Nat.le_refl _) (by simp) ?_; (case hd => rfl); (case hg => rfl); (case hr => first | (go_simp; done) | (go_simp; rfl)); (case hp => exact (Reps.one (show Kd.M (Kd.int .u32) _ _ _ 65 [.int .u32 65] from rfl) (Reps.one (show Kd.M (Kd.int .u32) _ _ _ 2047 [.int .u32 2047] from rfl) (Reps.one (show Kd.M (Kd.int .u32) _ _ _ 1114111 [.int .u32 1114111] from rfl) (Reps.none _ _))))); intro v106 w81 ho82 hb hg_ hnew_; clear hg_ hnew_; (first | rw [← Ny105.out] at ho82 | (simp only [Int.reduceToNat] at ho82; rw [← Ny105.out] at ho82)); have n0_ := Aside0.mk (Kd.R_lower ho82 (below_size (by repeat (first | (with_reducible first | exact HB.out | apply below_alloc | apply pw_below_drewN | apply below_drew1) | exact HB.out)))); have n1_ := Aside0.mk (below_step (by repeat (first | (with_reducible first | exact HB.out | apply below_alloc | apply pw_below_drewN | apply below_drew1) | exact HB.out)) hb); clear HB; have HO107 := n0_; have HB := n1_; clear n0_ n1_; clear hb ho82; obtain ⟨Ao83, co83, eo83⟩ := Kd.R_slice HO107.out; subst eo83) | ((with_reducible refine gate_callee (f := 11) rfl ?_); refine goesL_ (some 7) rfl rfl Tryd.func11 (by kernel_rfl) rfl #[.slice Ao83 y105.length co83] rfl (by (try simp only [List.map_toArray, List.map_cons, List.map_nil]); first | done | rfl | (simp only [List.length_drop, List.length_take]; rfl)) ?_; (with_reducible refine (utf_Text.calls k _ _ y105 t108 true _ ?side1 ?side2 ?side3 A1.out).mono ?_); (case side1 => exact Hd.below HG.out HG.out.size (by repeat (first | (with_reducible first | exact HB.out | apply below_alloc | apply pw_below_drewN | apply below_drew1) | exact HB.out))); (case side2 => repeat (first | exact (Kd.R_reads' HO107.out).2.2 | (with_reducible refine Kd.C_alloc ?_ _) | (with_reducible refine Kd.C_drewN ?_ _) | (with_reducible refine Kd.C_drew ?_))); (case side3 => exact (Kd.R_reads' HO107.out).2.1); rintro e w84 ⟨v110, rfl, ho0, hb⟩; refine ⟨_, rfl, ?_⟩; have n0_ := Aside0.mk (Kd.R_below (by (with_reducible repeat (first | apply Kd.R_alloc | apply Kd.R_drewN | apply Kd.R_drew)); exact HO107.out) hb); have n1_ := Aside0.mk (Kd.R_lower ho0 (below_size (by repeat (first | (with_reducible first | exact HB.out | apply below_alloc | apply pw_below_drewN | apply below_drew1) | exact HB.out)))); have n2_ := Aside0.mk (below_step (by repeat (first | (with_reducible first | exact HB.out | apply below_alloc | apply pw_below_drewN | apply below_drew1) | exact HB.out)) hb); clear HO107; clear HB; have HO107 := n0_; have HO111 := n1_; have HB := n2_; clear n0_ n1_ n2_; (try clear hb); (try clear hb2); (try clear hk); (try clear hi); (try clear hgw); (try clear ho0); obtain ⟨Ao85, co85, eo85⟩ := Kd.R_slice HO111.out; subst eo85) | ((with_reducible refine gate_callee (f := 17) rfl ?_); refine goesL_ (some 12) rfl rfl Tryd.func17 (by kernel_rfl) rfl #[.slice Ao85 t108.length co85] rfl (by (try simp only [List.map_toArray, List.map_cons, List.map_nil]); first | done | rfl | (simp only [List.length_drop, List.length_take]; rfl)) ?_; (with_reducible refine (utf_Chars.calls k _ _ t108 t112 true _ ?side1 ?side2 A2.out).mono ?_); (case side1 => repeat (first | exact (Kd.R_reads' HO111.out).2.2 | (with_reducible refine Kd.C_alloc ?_ _) | (with_reducible refine Kd.C_drewN ?_ _) | (with_reducible refine Kd.C_drew ?_))); (case side2 => exact (Kd.R_reads' HO111.out).2.1); rintro e w86 ⟨v114, rfl, ho0, hb⟩; refine ⟨_, rfl, ?_⟩; have n0_ := Aside0.mk (Kd.R_elder' (by (with_reducible repeat (first | apply Kd.R_alloc | apply Kd.R_drewN | apply Kd.R_drew)); exact HO107.out) (Kd.R_base ho0) hb); have n1_ := Aside0.mk (Kd.R_below (by (with_reducible repeat (first | apply Kd.R_alloc | apply Kd.R_drewN | apply Kd.R_drew)); exact HO111.out) hb); have n2_ := Aside0.mk (Kd.R_lower (Kd.R_new' ho0 (Kd.R_lt (by (with_reducible repeat (first | apply Kd.R_alloc | apply Kd.R_drewN | apply Kd.R_drew)); exact HO107.out))) (below_size (by repeat (first | (with_reducible first | exact HB.out | apply below_alloc | apply pw_below_drewN | apply below_drew1) | exact HB.out)))); have n3_ := Aside0.mk (below_step (by repeat (first | (with_reducible first | exact HB.out | apply below_alloc | apply pw_below_drewN | apply below_drew1) | exact HB.out)) hb); clear HO107; clear HO111; clear HB; have HO107 := n0_; have HO111 := n1_; have HO115 := n2_; have HB := n3_; clear n0_ n1_ n2_ n3_; (try clear hb); (try clear hb2); (try clear hk); (try clear hi); (try clear hgw); (try clear ho0); have p116 : 0 ≤ (1 : Int) := (by omega); have q116 : 1 < (t108.length : Int) := of_decide_eq_true (by first | (with_reducible assumption) | assumption); obtain ⟨ad116, e116, hx116_0⟩ := Kd.at_int (Kd.R_reads' HO111.out).2.2 1 p116 q116; cases e116; (try simp only [show (1 : Int).toNat = 1 from rfl, Nat.reduceMul, Nat.reduceEqDiff, Go.Addr.add, ↓reduceIte] at hx116_0); have qi116 : (1 < t108.length) = True := eq_true (by omega); (try rw [show ((1 : Int)).toNat = 1 from rfl] at hx116_0); replace p116 := eq_true p116; replace q116 := eq_true q116; have p117 : 0 ≤ (3 : Int) := (by omega); have q117 : 3 < (t108.length : Int) := of_decide_eq_true (by first | (with_reducible assumption) | assumption); obtain ⟨ad117, e117, hx117_0⟩ := Kd.at_int (Kd.R_reads' HO111.out).2.2 3 p117 q117; obtain rfl : ad116 = ad117 := (by injection e117); (try simp only [show (3 : Int).toNat = 3 from rfl, Nat.reduceMul, Nat.reduceEqDiff, Go.Addr.add, ↓reduceIte] at hx117_0); have qi117 : (3 < t108.length) = True := eq_true (by omega); (try rw [show ((3 : Int)).toNat = 3 from rfl] at hx117_0); replace p117 := eq_true p117; replace q117 := eq_true q117))
                go_ret
                exact ⟨by first | rfl | (simp [errW_none, errW_some] <;> rfl) | (simp [*, errW_none, errW_some] <;> rfl), by repeat (first | (with_reducible first | exact HB.out | apply below_alloc | apply pw_below_drewN | apply below_drew1) | exact HB.out)⟩
            · rw [if_neg c8] at H
              exact absurd H (by simp)
          · rw [if_neg c7] at H
            have c7b0 : ((rd t108 1) == 223) = false := beq_eq_false_iff_ne.mpr c7
            have c7b1 : ((rd t108 1) != 223) = true := bne_iff_ne.mpr c7
            obtain rfl := Option.some.inj H
            go_enter Tryd.func10, Tryd.ntmps10
            go_wp2_with (first | ((with_reducible refine gate_dst (N := 6) rfl ?_); (try (refine gate_guard (by rfl) ?_; dsimp only)); refine Kd.R_lit (Kd.int .u32) _ 32 ?hg (N := 6) ?hd (xs := ([65, 2047, 1114111] : List Int)) (inner := [.int .u32 65, .int .u32 2047, .int .u32 1114111]) (ok := fun _ => True) (okp := fun _ => True) ?hr ?hp (fun _ hk => hk) trivial (Below.refl _ _) (Nat.le_refl _) (by simp) ?_; (case hd => rfl); (case hg => rfl); (case hr => first | (go_simp; done) | (go_simp; rfl)); (case hp => exact (Reps.one (show Kd.M (Kd.int .u32) _ _ _ 65 [.int .u32 65] from rfl) (Reps.one (show Kd.M (Kd.int .u32) _ _ _ 2047 [.int .u32 2047] from rfl) (Reps.one (show Kd.M (Kd.int .u32) _ _ _ 1114111 [.int .u32 1114111] from rfl) (Reps.none _ _))))); intro v106 w87 ho88 hb hg_ hnew_; clear hg_ hnew_; (first | rw [← Ny105.out] at ho88 | (simp only [Int.reduceToNat] at ho88; rw [← Ny105.out] at ho88)); have n0_ := Aside0.mk (Kd.R_lower ho88 (below_size (by repeat (first | (with_reducible first | exact HB.out | apply below_alloc | apply pw_below_drewN | apply below_drew1) | exact HB.out)))); have n1_ := Aside0.mk (below_step (by repeat (first | (with_reducible first | exact HB.out | apply below_alloc | apply pw_below_drewN | apply below_drew1) | exact HB.out)) hb); clear HB; have HO107 := n0_; have HB := n1_; clear n0_ n1_; clear hb ho88; obtain ⟨Ao89, co89, eo89⟩ := Kd.R_slice HO107.out; subst eo89) | ((with_reducible refine gate_callee (f := 11) rfl ?_); refine goesL_ (some 7) rfl rfl Tryd.func11 (by kernel_rfl) rfl #[.slice Ao89 y105.length co89] rfl (by (try simp only [List.map_toArray, List.map_cons, List.map_nil]); first | done | rfl | (simp only [List.length_drop, List.length_take]; rfl)) ?_; (with_reducible refine (utf_Text.calls k _ _ y105 t108 true _ ?side1 ?side2 ?side3 A1.out).mono ?_); (case side1 => exact Hd.below HG.out HG.out.size (by repeat (first | (with_reducible first | exact HB.out | apply below_alloc | apply pw_below_drewN | apply below_drew1) | exact HB.out))); (case side2 => repeat (first | exact (Kd.R_reads' HO107.out).2.2 | (with_reducible refine Kd.C_alloc ?_ _) | (with_reducible refine Kd.C_drewN ?_ _) | (with_reducible refine Kd.C_drew ?_))); (case side3 => exact (Kd.R_reads' HO107.out).2.1); rintro e w90 ⟨v110, rfl, ho0, hb⟩; refine ⟨_, rfl, ?_⟩; have n0_ := Aside0.mk (Kd.R_below (by (with_reducible repeat (first | apply Kd.R_alloc | apply Kd.R_drewN | apply Kd.R_drew)); exact HO107.out) hb); have n1_ := Aside0.mk (Kd.R_lower ho0 (below_size (by repeat (first | (with_reducible first | exact HB.out | apply below_alloc | apply pw_below_drewN | apply below_drew1) | exact HB.out)))); have n2_ := Aside0.mk (below_step (by repeat (first | (with_reducible first | exact HB.out | apply below_alloc | apply pw_below_drewN | apply below_drew1) | exact HB.out)) hb); clear HO107; clear HB; have HO107 := n0_; have HO111 := n1_; have HB := n2_; clear n0_ n1_ n2_; (try clear hb); (try clear hb2); (try clear hk); (try clear hi); (try clear hgw); (try clear ho0); obtain ⟨Ao91, co91, eo91⟩ := Kd.R_slice HO111.out; subst eo91) | ((with_reducible refine gate_callee (f := 17) rfl ?_); refine goesL_ (some 12) rfl rfl Tryd.func17 (by kernel_rfl) rfl #[.slice Ao91 t108.length co91] rfl (by (try simp only [List.map_toArray, List.map_cons, List.map_nil]); first | done | rfl | (simp only [List.length_drop, List.length_take]; rfl)) ?_; (with_reducible refine (utf_Chars.calls k _ _ t108 t112 true _ ?side1 ?side2 A2.out).mono ?_); (case side1 => repeat (first | exact (Kd.R_reads' HO111.out).2.2 | (with_reducible refine Kd.C_alloc ?_ _) | (with_reducible refine Kd.C_drewN ?_ _) | (with_reducible refine Kd.C_drew ?_))); (case side2 => exact (Kd.R_reads' HO111.out).2.1); rintro e w92 ⟨v114, rfl, ho0, hb⟩; refine ⟨_, rfl, ?_⟩; have n0_ := Aside0.mk (Kd.R_elder' (by (with_reducible repeat (first | apply Kd.R_alloc | apply Kd.R_drewN | apply Kd.R_drew)); exact HO107.out) (Kd.R_base ho0) hb); have n1_ := Aside0.mk (Kd.R_below (by (with_reducible repeat (first | apply Kd.R_alloc | apply Kd.R_drewN | apply Kd.R_drew)); exact HO111.out) hb); have n2_ := Aside0.mk (Kd.R_lower (Kd.R_new' ho0 (Kd.R_lt (by (with_reducible repeat (first | apply Kd.R_alloc | apply Kd.R_drewN | apply Kd.R_drew)); exact HO107.out))) (below_size (by repeat (first | (with_reducible first | exact HB.out | apply below_alloc | apply pw_below_drewN | apply below_drew1) | exact HB.out)))); have n3_ := Aside0.mk (below_step (by repeat (first | (with_reducible first | exact HB.out | apply below_alloc | apply pw_below_drewN | apply below_drew1) | exact HB.out)) hb); clear HO107; clear HO111; clear HB; have HO107 := n0_; have HO111 := n1_; have HO115 := n2_; have HB := n3_; clear n0_ n1_ n2_ n3_; (try clear hb); (try clear hb2); (try clear hk); (try clear hi); (try clear hgw); (try clear ho0); have p116 : 0 ≤ (1 : Int) := (by omega); have q116 : 1 < (t108.length : Int) := of_decide_eq_true (by first | (with_reducible assumption) | assumption); obtain ⟨ad116, e116, hx116_0⟩ := Kd.at_int (Kd.R_reads' HO111.out).2.2 1 p116 q116; cases e116; (try simp only [show (1 : Int).toNat = 1 from rfl, Nat.reduceMul, Nat.reduceEqDiff, Go.Addr.add, ↓reduceIte] at hx116_0); have qi116 : (1 < t108.length) = True := eq_true (by omega); (try rw [show ((1 : Int)).toNat = 1 from rfl] at hx116_0); replace p116 := eq_true p116; replace q116 := eq_true q116))
            go_ret
            exact ⟨by first | rfl | (simp [errW_none, errW_some] <;> rfl) | (simp [*, errW_none, errW_some] <;> rfl), by repeat (first | (with_reducible first | exact HB.out | apply below_alloc | apply pw_below_drewN | apply below_drew1) | exact HB.out)⟩
        · rw [if_neg c6] at H
          exact absurd H (by simp)
      · rw [if_neg c5] at H
        have c5b0 : ((t108.length : Int) == 7) = false := beq_eq_false_iff_ne.mpr c5
        have c5b1 : ((t108.length : Int) != 7) = true := bne_iff_ne.mpr c5
        obtain rfl := Option.some.inj H
        go_enter Tryd.func10, Tryd.ntmps10
        go_wp2_with (first | ((with_reducible refine gate_dst (N := 6) rfl ?_); (try (refine gate_guard (by rfl) ?_; dsimp only)); refine Kd.R_lit (Kd.int .u32) _ 32 ?hg (N := 6) ?hd (xs := ([65, 2047, 1114111] : List Int)) (inner := [.int .u32 65, .int .u32 2047, .int .u32 1114111]) (ok := fun _ => True) (okp := fun _ => True) ?hr ?hp (fun _ hk => hk) trivial (Below.refl _ _) (Nat.le_refl _) (by simp) ?_; (case hd => rfl); (case hg => rfl); (case hr => first | (go_simp; done) | (go_simp; rfl)); (case hp => exact (Reps.one (show Kd.M (Kd.int .u32) _ _ _ 65 [.int .u32 65] from rfl) (Reps.one (show Kd.M (Kd.int .u32) _ _ _ 2047 [.int .u32 2047] from rfl) (Reps.one (show Kd.M (Kd.int .u32) _ _ _ 1114111 [.int .u32 1114111] from rfl) (Reps.none _ _))))); intro v106 w93 ho94 hb hg_ hnew_; clear hg_ hnew_; (first | rw [← Ny105.out] at ho94 | (simp only [Int.reduceToNat] at ho94; rw [← Ny105.out] at ho94)); have n0_ := Aside0.mk (Kd.R_lower ho94 (below_size (by repeat (first | (with_reducible first | exact HB.out | apply below_alloc | apply pw_below_drewN | apply below_drew1) | exact HB.out)))); have n1_ := Aside0.mk (below_step (by repeat (first | (with_reducible first | exact HB.out | apply below_alloc | apply pw_below_drewN | apply below_drew1) | exact HB.out)) hb); clear HB; have HO107 := n0_; have HB := n1_; clear n0_ n1_; clear hb ho94; obtain ⟨Ao95, co95, eo95⟩ := Kd.R_slice HO107.out; subst eo95) | ((with_reducible refine gate_callee (f := 11) rfl ?_); refine goesL_ (some 7) rfl rfl Tryd.func11 (by kernel_rfl) rfl #[.slice Ao95 y105.length co95] rfl (by (try simp only [List.map_toArray, List.map_cons, List.map_nil]); first | done | rfl | (simp only [List.length_drop, List.length_take]; rfl)) ?_; (with_reducible refine (utf_Text.calls k _ _ y105 t108 true _ ?side1 ?side2 ?side3 A1.out).mono ?_); (case side1 => exact Hd.below HG.out HG.out.size (by repeat (first | (with_reducible first | exact HB.out | apply below_alloc | apply pw_below_drewN | apply below_drew1) | exact HB.out))); (case side2 => repeat (first | exact (Kd.R_reads' HO107.out).2.2 | (with_reducible refine Kd.C_alloc ?_ _) | (with_reducible refine Kd.C_drewN ?_ _) | (with_reducible refine Kd.C_drew ?_))); (case side3 => exact (Kd.R_reads' HO107.out).2.1); rintro e w96 ⟨v110, rfl, ho0, hb⟩; refine ⟨_, rfl, ?_⟩; have n0_ := Aside0.mk (Kd.R_below (by (with_reducible repeat (first | apply Kd.R_alloc | apply Kd.R_drewN | apply Kd.R_drew)); exact HO107.out) hb); have n1_ := Aside0.mk (Kd.R_lower ho0 (below_size (by repeat (first | (with_reducible first | exact HB.out | apply below_alloc | apply pw_below_drewN | apply below_drew1) | exact HB.out)))); have n2_ := Aside0.mk (below_step (by repeat (first | (with_reducible first | exact HB.out | apply below_alloc | apply pw_below_drewN | apply below_drew1) | exact HB.out)) hb); clear HO107; clear HB; have HO107 := n0_; have HO111 := n1_; have HB := n2_; clear n0_ n1_ n2_; (try clear hb); (try clear hb2); (try clear hk); (try clear hi); (try clear hgw); (try clear ho0); obtain ⟨Ao97, co97, eo97⟩ := Kd.R_slice HO111.out; subst eo97) | ((with_reducible refine gate_callee (f := 17) rfl ?_); refine goesL_ (some 12) rfl rfl Tryd.func17 (by kernel_rfl) rfl #[.slice Ao97 t108.length co97] rfl (by (try simp only [List.map_toArray, List.map_cons, List.map_nil]); first | done | rfl | (simp only [List.length_drop, List.length_take]; rfl)) ?_; (with_reducible refine (utf_Chars.calls k _ _ t108 t112 true _ ?side1 ?side2 A2.out).mono ?_); (case side1 => repeat (first | exact (Kd.R_reads' HO111.out).2.2 | (with_reducible refine Kd.C_alloc ?_ _) | (with_reducible refine Kd.C_drewN ?_ _) | (with_reducible refine Kd.C_drew ?_))); (case side2 => exact (Kd.R_reads' HO111.out).2.1); rintro e w98 ⟨v114, rfl, ho0, hb⟩; refine ⟨_, rfl, ?_⟩; have n0_ := Aside0.mk (Kd.R_elder' (by (with_reducible repeat (first | apply Kd.R_alloc | apply Kd.R_drewN | apply Kd.R_drew)); exact HO107.out) (Kd.R_base ho0) hb); have n1_ := Aside0.mk (Kd.R_below (by (with_reducible repeat (first | apply Kd.R_alloc | apply Kd.R_drewN | apply Kd.R_drew)); exact HO111.out) hb); have n2_ := Aside0.mk (Kd.R_lower (Kd.R_new' ho0 (Kd.R_lt (by (with_reducible repeat (first | apply Kd.R_alloc | apply Kd.R_drewN | apply Kd.R_drew)); exact HO107.out))) (below_size (by repeat (first | (with_reducible first | exact HB.out | apply below_alloc | apply pw_below_drewN | apply below_drew1) | exact HB.out)))); have n3_ := Aside0.mk (below_step (by repeat (first | (with_reducible first | exact HB.out | apply below_alloc | apply pw_below_drewN | apply below_drew1) | exact HB.out)) hb); clear HO107; clear HO111; clear HB; have HO107 := n0_; have HO111 := n1_; have HO115 := n2_; have HB := n3_; clear n0_ n1_ n2_ n3_; (try clear hb); (try clear hb2); (try clear hk); (try clear hi); (try clear hgw); (try clear ho0)))
        go_ret
        exact ⟨by first | rfl | (simp [errW_none, errW_some] <;> rfl) | (simp [*, errW_none, errW_some] <;> rfl), by repeat (first | (with_reducible first | exact HB.out | apply below_alloc | apply pw_below_drewN | apply below_drew1) | exact HB.out)⟩
    · replace c4 := Bool.eq_false_iff.mpr c4
      subst c4
      have H1 : (some false) = some r := by rw [if_neg (show ¬ (false = true) by decide)] at H; exact H
      clear H
      have H := H1
      clear H1
      obtain rfl := Option.some.inj H
      go_enter Tryd.func10, Tryd.ntmps10
      go_wp2_with (first | ((with_reducible refine gate_dst (N := 6) rfl ?_); (try (refine gate_guard (by rfl) ?_; dsimp only)); refine Kd.R_lit (Kd.int .u32) _ 32 ?hg (N := 6) ?hd (xs := ([65, 2047, 1114111] : List Int)) (inner := [.int .u32 65, .int .u32 2047, .int .u32 1114111]) (ok := fun _ => True) (okp := fun _ => True) ?hr ?hp (fun _ hk => hk) trivial (Below.refl _ _) (Nat.le_refl _) (by simp) ?_; (case hd => rfl); (case hg => rfl); (case hr => first | (go_simp; done) | (go_simp; rfl)); (case hp => exact (Reps.one (show Kd.M (Kd.int .u32) _ _ _ 65 [.int .u32 65] from rfl) (Reps.one (show Kd.M (Kd.int .u32) _ _ _ 2047 [.int .u32 2047] from rfl) (Reps.one (show Kd.M (Kd.int .u32) _ _ _ 1114111 [.int .u32 1114111] from rfl) (Reps.none _ _))))); intro v106 w99 ho100 hb hg_ hnew_; clear hg_ hnew_; (first | rw [← Ny105.out] at ho100 | (simp only [Int.reduceToNat] at ho100; rw [← Ny105.out] at ho100)); have n0_ := Aside0.mk (Kd.R_lower ho100 (below_size (by repeat (first | (with_reducible first | exact HB.out | apply below_alloc | apply pw_below_drewN | apply below_drew1) | exact HB.out)))); have n1_ := Aside0.mk (below_step (by repeat (first | (with_reducible first | exact HB.out | apply below_alloc | apply pw_below_drewN | apply below_drew1) | exact HB.out)) hb); clear HB; have HO107 := n0_; have HB := n1_; clear n0_ n1_; clear hb ho100; obtain ⟨Ao101, co101, eo101⟩ := Kd.R_slice HO107.out; subst eo101) | ((with_reducible refine gate_callee (f := 11) rfl ?_); refine goesL_ (some 7) rfl rfl Tryd.func11 (by kernel_rfl) rfl #[.slice Ao101 y105.length co101] rfl (by (try simp only [List.map_toArray, List.map_cons, List.map_nil]); first | done | rfl | (simp only [List.length_drop, List.length_take]; rfl)) ?_; (with_reducible refine (utf_Text.calls k _ _ y105 t108 true _ ?side1 ?side2 ?side3 A1.out).mono ?_); (case side1 => exact Hd.below HG.out HG.out.size (by repeat (first | (with_reducible first | exact HB.out | apply below_alloc | apply pw_below_drewN | apply below_drew1) | exact HB.out))); (case side2 => repeat (first | exact (Kd.R_reads' HO107.out).2.2 | (with_reducible refine Kd.C_alloc ?_ _) | (with_reducible refine Kd.C_drewN ?_ _) | (with_reducible refine Kd.C_drew ?_))); (case side3 => exact (Kd.R_reads' HO107.out).2.1); rintro e w102 ⟨v110, rfl, ho0, hb⟩; refine ⟨_, rfl, ?_⟩; have n0_ := Aside0.mk (Kd.R_below (by (with_reducible repeat (first | apply Kd.R_alloc | apply Kd.R_drewN | apply Kd.R_drew)); exact HO107.out) hb); have n1_ := Aside0.mk (Kd.R_lower ho0 (below_size (by repeat (first | (with_reducible first | exact HB.out | apply below_alloc | apply pw_below_drewN | apply below_drew1) | exact HB.out)))); have n2_ := Aside0.mk (below_step (by repeat (first | (with_reducible first | exact HB.out | apply below_alloc | apply pw_below_drewN | apply below_drew1) | exact HB.out)) hb); clear HO107; clear HB; have HO107 := n0_; have HO111 := n1_; have HB := n2_; clear n0_ n1_ n2_; (try clear hb); (try clear hb2); (try clear hk); (try clear hi); (try clear hgw); (try clear ho0); obtain ⟨Ao103, co103, eo103⟩ := Kd.R_slice HO111.out; subst eo103) | ((with_reducible refine gate_callee (f := 17) rfl ?_); refine goesL_ (some 12) rfl rfl Tryd.func17 (by kernel_rfl) rfl #[.slice Ao103 t108.length co103] rfl (by (try simp only [List.map_toArray, List.map_cons, List.map_nil]); first | done | rfl | (simp only [List.length_drop, List.length_take]; rfl)) ?_; (with_reducible refine (utf_Chars.calls k _ _ t108 t112 false _ ?side1 ?side2 A2.out).mono ?_); (case side1 => repeat (first | exact (Kd.R_reads' HO111.out).2.2 | (with_reducible refine Kd.C_alloc ?_ _) | (with_reducible refine Kd.C_drewN ?_ _) | (with_reducible refine Kd.C_drew ?_))); (case side2 => exact (Kd.R_reads' HO111.out).2.1); rintro e w104 ⟨v114, rfl, ho0, hb⟩; refine ⟨_, rfl, ?_⟩; have n0_ := Aside0.mk (Kd.R_elder' (by (with_reducible repeat (first | apply Kd.R_alloc | apply Kd.R_drewN | apply Kd.R_drew)); exact HO107.out) (Kd.R_base ho0) hb); have n1_ := Aside0.mk (Kd.R_below (by (with_reducible repeat (first | apply Kd.R_alloc | apply Kd.R_drewN | apply Kd.R_drew)); exact HO111.out) hb); have n2_ := Aside0.mk (Kd.R_lower (Kd.R_new' ho0 (Kd.R_lt (by (with_reducible repeat (first | apply Kd.R_alloc | apply Kd.R_drewN | apply Kd.R_drew)); exact HO107.out))) (below_size (by repeat (first | (with_reducible first | exact HB.out | apply below_alloc | apply pw_below_drewN | apply below_drew1) | exact HB.out)))); have n3_ := Aside0.mk (below_step (by repeat (first | (with_reducible first | exact HB.out | apply below_alloc | apply pw_below_drewN | apply below_drew1) | exact HB.out)) hb); clear HO107; clear HO111; clear HB; have HO107 := n0_; have HO111 := n1_; have HO115 := n2_; have HB := n3_; clear n0_ n1_ n2_ n3_; (try clear hb); (try clear hb2); (try clear hk); (try clear hi); (try clear hgw); (try clear ho0)))
      go_ret
      exact ⟨by first | rfl | (simp [errW_none, errW_some] <;> rfl) | (simp [*, errW_none, errW_some] <;> rfl), by repeat (first | (with_reducible first | exact HB.out | apply below_alloc | apply pw_below_drewN | apply below_drew1) | exact HB.out)⟩
  · replace c3 := Bool.eq_false_iff.mpr c3
    subst c3
    have H1 : (some false) = some r := by rw [if_neg (show ¬ (false = true) by decide)] at H; exact H
    clear H
    have H := H1
    clear H1
    obtain rfl := Option.some.inj H
    go_enter Tryd.func10, Tryd.ntmps10
    go_wp2_with (first | ((with_reducible refine gate_dst (N := 6) rfl ?_); (try (refine gate_guard (by rfl) ?_; dsimp only)); refine Kd.R_lit (Kd.int .u32) _ 32 ?hg (N := 6) ?hd (xs := ([65, 2047, 1114111] : List Int)) (inner := [.int .u32 65, .int .u32 2047, .int .u32 1114111]) (ok := fun _ => True) (okp := fun _ => True) ?hr ?hp (fun _ hk => hk) trivial (Below.refl _ _) (Nat.le_refl _) (by simp) ?_; (case hd => rfl); (case hg => rfl); (case hr => first | (go_simp; done) | (go_simp; rfl)); (case hp => exact (Reps.one (show Kd.M (Kd.int .u32) _ _ _ 65 [.int .u32 65] from rfl) (Reps.one (show Kd.M (Kd.int .u32) _ _ _ 2047 [.int .u32 2047] from rfl) (Reps.one (show Kd.M (Kd.int .u32) _ _ _ 1114111 [.int .u32 1114111] from rfl) (Reps.none _ _))))); intro v106 w105 ho106 hb hg_ hnew_; clear hg_ hnew_; (first | rw [← Ny105.out] at ho106 | (simp only [Int.reduceToNat] at ho106; rw [← Ny105.out] at ho106)); have n0_ := Aside0.mk (Kd.R_lower ho106 (below_size (by repeat (first | (with_reducible first | exact HB.out | apply below_alloc | apply pw_below_drewN | apply below_drew1) | exact HB.out)))); have n1_ := Aside0.mk (below_step (by repeat (first | (with_reducible first | exact HB.out | apply below_alloc | apply pw_below_drewN | apply below_drew1) | exact HB.out)) hb); clear HB; have HO107 := n0_; have HB := n1_; clear n0_ n1_; clear hb ho106; obtain ⟨Ao107, co107, eo107⟩ := Kd.R_slice HO107.out; subst eo107) | ((with_reducible refine gate_callee (f := 11) rfl ?_); refine goesL_ (some 7) rfl rfl Tryd.func11 (by kernel_rfl) rfl #[.slice Ao107 y105.length co107] rfl (by (try simp only [List.map_toArray, List.map_cons, List.map_nil]); first | done | rfl | (simp only [List.length_drop, List.length_take]; rfl)) ?_; (with_reducible refine (utf_Text.calls k _ _ y105 t108 false _ ?side1 ?side2 ?side3 A1.out).mono ?_); (case side1 => exact Hd.below HG.out HG.out.size (by repeat (first | (with_reducible first | exact HB.out | apply below_alloc | apply pw_below_drewN | apply below_drew1) | exact HB.out))); (case side2 => repeat (first | exact (Kd.R_reads' HO107.out).2.2 | (with_reducible refine Kd.C_alloc ?_ _) | (with_reducible refine Kd.C_drewN ?_ _) | (with_reducible refine Kd.C_drew ?_))); (case side3 => exact (Kd.R_reads' HO107.out).2.1); rintro e w108 ⟨v110, rfl, ho0, hb⟩; refine ⟨_, rfl, ?_⟩; have n0_ := Aside0.mk (Kd.R_below (by (with_reducible repeat (first | apply Kd.R_alloc | apply Kd.R_drewN | apply Kd.R_drew)); exact HO107.out) hb); have n1_ := Aside0.mk (Kd.R_lower ho0 (below_size (by repeat (first | (with_reducible first | exact HB.out | apply below_alloc | apply pw_below_drewN | apply below_drew1) | exact HB.out)))); have n2_ := Aside0.mk (below_step (by repeat (first | (with_reducible first | exact HB.out | apply below_alloc | apply pw_below_drewN | apply below_drew1) | exact HB.out)) hb); clear HO107; clear HB; have HO107 := n0_; have HO111 := n1_; have HB := n2_; clear n0_ n1_ n2_; (try clear hb); (try clear hb2); (try clear hk); (try clear hi); (try clear hgw); (try clear ho0); obtain ⟨Ao109, co109, eo109⟩ := Kd.R_slice HO111.out; subst eo109) | ((with_reducible refine gate_callee (f := 17) rfl ?_); refine goesL_ (some 12) rfl rfl Tryd.func17 (by kernel_rfl) rfl #[.slice Ao109 t108.length co109] rfl (by (try simp only [List.map_toArray, List.map_cons, List.map_nil]); first | done | rfl | (simp only [List.length_drop, List.length_take]; rfl)) ?_; (with_reducible refine (utf_Chars.calls k _ _ t108 t112 t113 _ ?side1 ?side2 A2.out).mono ?_); (case side1 => repeat (first | exact (Kd.R_reads' HO111.out).2.2 | (with_reducible refine Kd.C_alloc ?_ _) | (with_reducible refine Kd.C_drewN ?_ _) | (with_reducible refine Kd.C_drew ?_))); (case side2 => exact (Kd.R_reads' HO111.out).2.1); rintro e w110 ⟨v114, rfl, ho0, hb⟩; refine ⟨_, rfl, ?_⟩; have n0_ := Aside0.mk (Kd.R_elder' (by (with_reducible repeat (first | apply Kd.R_alloc | apply Kd.R_drewN | apply Kd.R_drew)); exact HO107.out) (Kd.R_base ho0) hb); have n1_ := Aside0.mk (Kd.R_below (by (with_reducible repeat (first | apply Kd.R_alloc | apply Kd.R_drewN | apply Kd.R_drew)); exact HO111.out) hb); have n2_ := Aside0.mk (Kd.R_lower (Kd.R_new' ho0 (Kd.R_lt (by (with_reducible repeat (first | apply Kd.R_alloc | apply Kd.R_drewN | apply Kd.R_drew)); exact HO107.out))) (below_size (by repeat (first | (with_reducible first | exact HB.out | apply below_alloc | apply pw_below_drewN | apply below_drew1) | exact HB.out)))); have n3_ := Aside0.mk (below_step (by repeat (first | (with_reducible first | exact HB.out | apply below_alloc | apply pw_below_drewN | apply below_drew1) | exact HB.out)) hb); clear HO107; clear HO111; clear HB; have HO107 := n0_; have HO111 := n1_; have HO115 := n2_; have HB := n3_; clear n0_ n1_ n2_ n3_; (try clear hb); (try clear hb2); (try clear hk); (try clear hi); (try clear hgw); (try clear ho0)))
    go_ret
    exact ⟨by first | rfl | (simp [errW_none, errW_some] <;> rfl) | (simp [*, errW_none, errW_some] <;> rfl), by repeat (first | (with_reducible first | exact HB.out | apply below_alloc | apply pw_below_drewN | apply below_drew1) | exact HB.out)⟩

end Go.Proofs.YtbbgmokpniigfaaDoor.PUtfOne
