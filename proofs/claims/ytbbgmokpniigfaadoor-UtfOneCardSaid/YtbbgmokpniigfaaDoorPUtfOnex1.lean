/- Written by a program of this session (a turned copy of the print; not the kit's own print): the walks of the functions that one law reaches, or that law's row; the plain law stands in the Pure text; no condition of our own. -/
import Derived.Test.YtbbgmokpniigfaaDoorPUtfOnex0
namespace Go.Proofs.YtbbgmokpniigfaaDoor.PUtfOne
open Go.RowKit Go.Proofs.YtbbgmokpniigfaaDoorW.PrintWords Go.Proofs.YtbbgmokpniigfaaDoorW.PrintLast Go.Proofs.YtbbgmokpniigfaaDoorW.PrintMore
attribute [local go_sem] max2_int min2_int max_two min_two max_three min_three max_four min_four   -- for this text's walks alone
set_option linter.unusedVariables false
set_option linter.unusedSimpArgs false

/-! ### utf_Char: function 15 -/
def utf_Char.f (a0 : Int) : Option (Bool) := if a0 ≤ 1114111 then (if a0 < 55296 then (some true) else (some (decide (a0 > 57343)))) else (some false)
set_option maxHeartbeats 8000000 in
set_option maxRecDepth 100000 in
theorem utf_Char.calls (a0 : Int) (r : Bool) (w : World) (h : utf_Char.f a0 = some r) :
    Calls Tryd.prog 15 #[.int .u64 a0] w fun e w' => e = .returned (.bool r) ∧ Drawn0 w w' := by
  have H : (if a0 ≤ 1114111 then (if a0 < 55296 then (some true) else (some (decide (a0 > 57343)))) else (some false)) = some r := h
  clear h
  by_cases c2 : a0 ≤ 1114111
  · rw [if_pos c2] at H
    have c2b0 : decide (a0 ≤ 1114111) = true := decide_eq_true c2
    clear c2
    by_cases c3 : a0 < 55296
    · rw [if_pos c3] at H
      have c3b0 : decide (a0 < 55296) = true := decide_eq_true c3
      clear c3
      obtain rfl := Option.some.inj H
      go_enter Tryd.func15, Tryd.ntmps15
      go_wp2
      go_ret
      exact ⟨by first | rfl | (simp; done) | (simp [*]; done), by repeat (first | exact Drawn0.refl _ | apply Drawn0.step)⟩
    · rw [if_neg c3] at H
      have c3b0 : decide (a0 < 55296) = false := decide_eq_false c3
      clear c3
      obtain rfl := Option.some.inj H
      go_enter Tryd.func15, Tryd.ntmps15
      go_wp2
      go_ret
      exact ⟨by first | rfl | (simp; done) | (simp [*]; done), by repeat (first | exact Drawn0.refl _ | apply Drawn0.step)⟩
  · rw [if_neg c2] at H
    have c2b0 : decide (a0 ≤ 1114111) = false := decide_eq_false c2
    clear c2
    obtain rfl := Option.some.inj H
    go_enter Tryd.func15, Tryd.ntmps15
    go_wp2
    go_ret
    exact ⟨by first | rfl | (simp; done) | (simp [*]; done), by repeat (first | exact Drawn0.refl _ | apply Drawn0.step)⟩

/-! ### utf_more: function 28 -/
def utf_more.f (a0 : Int) : Option (Int) := if a0 ≤ 127 then (some 0) else (if a0 ≤ 2047 then (some 1) else (if a0 ≤ 65535 then (some 2) else (some 3)))
set_option maxHeartbeats 8000000 in
set_option maxRecDepth 100000 in
theorem utf_more.calls (a0 : Int) (r : Int) (w : World) (h : utf_more.f a0 = some r) :
    Calls Tryd.prog 28 #[.int .u32 a0] w fun e w' => e = .returned (.int .i64 r) ∧ Drawn0 w w' := by
  have H : (if a0 ≤ 127 then (some 0) else (if a0 ≤ 2047 then (some 1) else (if a0 ≤ 65535 then (some 2) else (some 3)))) = some r := h
  clear h
  by_cases c2 : a0 ≤ 127
  · rw [if_pos c2] at H
    have c2b0 : decide (a0 ≤ 127) = true := decide_eq_true c2
    clear c2
    obtain rfl := Option.some.inj H
    go_enter Tryd.func28, Tryd.ntmps28
    go_wp2
    go_ret
    exact ⟨by first | rfl | (simp; done) | (simp [*]; done), by repeat (first | exact Drawn0.refl _ | apply Drawn0.step)⟩
  · rw [if_neg c2] at H
    have c2b0 : decide (a0 ≤ 127) = false := decide_eq_false c2
    clear c2
    by_cases c3 : a0 ≤ 2047
    · rw [if_pos c3] at H
      have c3b0 : decide (a0 ≤ 2047) = true := decide_eq_true c3
      clear c3
      obtain rfl := Option.some.inj H
      go_enter Tryd.func28, Tryd.ntmps28
      go_wp2
      go_ret
      exact ⟨by first | rfl | (simp; done) | (simp [*]; done), by repeat (first | exact Drawn0.refl _ | apply Drawn0.step)⟩
    · rw [if_neg c3] at H
      have c3b0 : decide (a0 ≤ 2047) = false := decide_eq_false c3
      clear c3
      by_cases c4 : a0 ≤ 65535
      · rw [if_pos c4] at H
        have c4b0 : decide (a0 ≤ 65535) = true := decide_eq_true c4
        clear c4
        obtain rfl := Option.some.inj H
        go_enter Tryd.func28, Tryd.ntmps28
        go_wp2
        go_ret
        exact ⟨by first | rfl | (simp; done) | (simp [*]; done), by repeat (first | exact Drawn0.refl _ | apply Drawn0.step)⟩
      · rw [if_neg c4] at H
        have c4b0 : decide (a0 ≤ 65535) = false := decide_eq_false c4
        clear c4
        obtain rfl := Option.some.inj H
        go_enter Tryd.func28, Tryd.ntmps28
        go_wp2
        go_ret
        exact ⟨by first | rfl | (simp; done) | (simp [*]; done), by repeat (first | exact Drawn0.refl _ | apply Drawn0.step)⟩


/-! ### utf_put: function 25, by hand -/
theorem i64w0 : IntKind.i64.wrap 0 = 0 := rfl
theorem i64w6 : IntKind.i64.wrap 6 = 6 := rfl
theorem i64w12 : IntKind.i64.wrap 12 = 12 := rfl
theorem i64w18 : IntKind.i64.wrap 18 = 18 := rfl
attribute [local go_sem] i64w0 i64w6 i64w12 i64w18
/-- The heads' cells. -/
def Hd (w : World) : Prop := w.cell? ⟨0, 0, none⟩ = some (.int .u8 0) ∧ w.cell? ⟨0, 1, none⟩ = some (.int .u8 192) ∧ w.cell? ⟨0, 2, none⟩ = some (.int .u8 224) ∧ w.cell? ⟨0, 3, none⟩ = some (.int .u8 240)
theorem Hd.below {base : Nat} {w w' : World} (h : Hd w) (h0 : 0 < base) (hb : Below base w w') : Hd w' := ⟨(hb.cell h0).trans h.1, (hb.cell h0).trans h.2.1, (hb.cell h0).trans h.2.2.1, (hb.cell h0).trans h.2.2.2⟩
theorem Hd.size {w : World} (h : Hd w) : 0 < w.heap.size := World.block_lt_of_cell? w _ h.1
/-- The bytes behind the first one. -/
def conts (c : Int) : Nat → List Int
  | 0 => []
  | m + 1 => (128 + c / (64 : Int) ^ m % 64) :: conts c m
def head (c : Int) : Nat → Int
  | 0 => c % 256
  | 1 => 192 + c / 64
  | 2 => 224 + c / 4096
  | _ => 240 + c / 262144
theorem u8_or0 : ∀ y : Fin 128, Go.bits .or .u8 0 (y.val : Int) = (y.val : Int) := by decide +kernel
theorem more0 (c : Int) (h : utf_more.f c = some 0) : c ≤ 127 := by
  unfold utf_more.f at h
  repeat' split at h
  all_goals (first | omega | (injection h; omega) | simp at h)
theorem more1 (c : Int) (h : utf_more.f c = some 1) : 127 < c ∧ c ≤ 2047 := by
  unfold utf_more.f at h
  repeat' split at h
  all_goals (first | omega | (injection h; omega) | simp at h)
theorem more2 (c : Int) (h : utf_more.f c = some 2) : 2047 < c ∧ c ≤ 65535 := by
  unfold utf_more.f at h
  repeat' split at h
  all_goals (first | omega | (injection h; omega) | simp at h)
theorem more3 (c : Int) (h : utf_more.f c = some 3) : 65535 < c := by
  unfold utf_more.f at h
  repeat' split at h
  all_goals (first | omega | (injection h; omega) | simp at h)
theorem head_or0 (c : Int) (c0 : 0 ≤ c) (c1 : c ≤ 1114111) (h : c ≤ 127) : Go.bits .or .u8 0 (IntKind.u8.wrap c) = head c 0 := by
  rw [IntKind.wrap_u8]
  have h1 : c % 256 = c := by omega
  have h2 := u8_or0 ⟨c.toNat, by omega⟩
  rw [show ((⟨c.toNat, by omega⟩ : Fin 128).val : Int) = c from Int.toNat_of_nonneg c0] at h2
  rw [h1, h2]; simp only [head]; omega
theorem head_or1 (c : Int) (c0 : 0 ≤ c) (c1 : c ≤ 1114111) (h : 127 < c ∧ c ≤ 2047) : Go.bits .or .u8 192 (IntKind.u8.wrap (c / 64)) = head c 1 := by
  rw [IntKind.wrap_u8, show c / 64 % 256 = c / 64 by omega]
  exact u8_or192 _ (by omega) (by omega)
theorem head_or2 (c : Int) (c0 : 0 ≤ c) (c1 : c ≤ 1114111) (h : 2047 < c ∧ c ≤ 65535) : Go.bits .or .u8 224 (IntKind.u8.wrap (c / 4096)) = head c 2 := by
  rw [IntKind.wrap_u8, show c / 4096 % 256 = c / 4096 by omega]
  exact u8_or224 _ (by omega) (by omega)
theorem head_or3 (c : Int) (c0 : 0 ≤ c) (c1 : c ≤ 1114111) (h : 65535 < c) : Go.bits .or .u8 240 (IntKind.u8.wrap (c / 262144)) = head c 3 := by
  rw [IntKind.wrap_u8, show c / 262144 % 256 = c / 262144 by omega]
  exact u8_or240 _ (by omega) (by omega)
theorem and63 (x : Int) (h0 : 0 ≤ x) (h1 : x < 4294967296) : Go.bits .and .u32 x 63 = x % 64 := bits_mask .u32 32 (by decide) (fun n a b => by rw [IntKind.wrap_u32]; omega) 6 (by decide) x h0 h1
theorem cont_or (x : Int) (h0 : 0 ≤ x) (h1 : x < 4294967296) : Go.bits .or .u8 128 (Go.bits .and .u32 x 63 % 256) = 128 + x % 64 := by
  rw [and63 x h0 h1, show x % 64 % 256 = x % 64 by omega]
  exact u8_or128 _ (by omega) (by omega)
set_option maxHeartbeats 8000000 in
set_option maxRecDepth 100000 in
theorem put0 (v : Value) (xs : List Int) (c : Int) (w0 w : World) (hG : Hd w0) (hB : Below w0.heap.size w0 w) (hR : Kd.R (Kd.int .u8) 5 w w0.heap.size (fun _ => True) v xs) (hc : utf_more.f c = some 0) (c0 : 0 ≤ c) (c1 : c ≤ 1114111) (hl : xs.length + 4 < 140737488355328) :
    Calls Tryd.prog 25 #[v, .int .u32 c] w fun e w' => ∃ v1, e = .returned v1 ∧ Kd.R (Kd.int .u8) 5 w' w0.heap.size (fun _ => True) v1 (xs ++ (head c 0 :: conts c 0)) ∧ Below w0.heap.size w0 w' := by
  have F := Aside0.mk (fun W => utf_more.calls c 0 W hc)
  have h0 := hG.size
  obtain ⟨g0, g1, g2, g3⟩ := hG
  have G00 := g0
  have HC := Aside0.mk (more0 c hc)
  clear g0 g1 g2 g3 hc
  go_enter Tryd.func25, Tryd.ntmps25
  go_wp2_with (first | (go_at_call 28; (with_reducible refine (F.out _).mono ?_); rintro e w' ⟨rfl, ⟨nd, rfl⟩⟩))
  generalize hw1 : w.drewN nd = w1 at *
  have B1 : Below w0.heap.size w0 w1 := by subst hw1; exact pw_below_drewN hB nd
  have R1 : Kd.R (Kd.int .u8) 5 w1 w0.heap.size (fun _ => True) v xs := by subst hw1; exact Kd.R_drewN hR nd
  have G0 : w1.cell? { block := 0, off := 0 } = some (Value.int IntKind.u8 0) := (B1.cell h0).trans G00
  have hb1 : w0.heap.size ≤ w1.heap.size := below_size B1
  have HL := Aside0.mk hl
  have HU := Aside0.mk c1
  have R2 := Kd.R_drew R1
  have B2 := below_drew1 B1
  have hb2 : w0.heap.size ≤ w1.drew.heap.size := hb1
  clear hB hR hw1 R1 B1 hb1 hl F c1
  go_region_held3 (fun w' => w'.cell? { block := 0, off := 0 } = some (Value.int IntKind.u8 0)) (first | exact (hbb.cell h0).trans G00 | go_keep) ((refine Kd.R_append_step (Kd.int .u8) (w0 := w0) w0.heap.size (by rfl) (.tmp 8) (.tmp 18) 25 5 (.int .u8 0) 1 (by rfl) Tryd.underlying25 info5 rfl (by decide) (by omega) v xs _ [.int .u8 _] (fun _ => True) (fun _ => False) (by rfl) (by rfl) (by rfl) (fun _ hk => hk.elim) (fun _ _ => trivial) R2 B2 hb2 (by have := HL.out; omega) ?_; intro v1 w3 ho hbb hg hat))
  clear hg hat R2 B2 hb2 G0
  have HO1 := Aside0.mk ho
  have HB1 := Aside0.mk hbb
  clear ho hbb
  go_wp2
  go_loopg [0, 5] 0 (fun kq v0 v5 w' => ∃ (ys : List Int), v5 = .int .i64 (kq : Int) ∧ Aside0 (kq ≤ 0) ∧ Aside0 (ys ++ conts c kq = xs ++ (head c 0 :: conts c 0)) ∧ Aside0 (Kd.R (Kd.int .u8) 5 w' w0.heap.size (fun _ => True) v0 ys) ∧ Aside0 (Below w0.heap.size w0 w'))
  case atStart => exact ⟨_, rfl, ⟨Nat.le_refl _⟩, ⟨by rw [List.append_assoc]; congr 1; simp only [List.cons_append, List.nil_append]; congr 1; exact head_or0 c c0 HU.out HC.out⟩, HO1, HB1⟩
  case round =>
    clear HO1 HB1
    obtain ⟨ys, rfl, HK, HY, HO, HB⟩ := hrel
    match gk, HK with
    | 0, HK =>
      go_wp2
      go_ret
      have hy := HY.out
      simp only [conts, List.append_nil] at hy
      exact ⟨_, rfl, hy ▸ HO.out, HB.out⟩
    | q + 1, HK => exact absurd HK.out (by omega)
set_option maxHeartbeats 8000000 in
set_option maxRecDepth 100000 in
theorem put1 (v : Value) (xs : List Int) (c : Int) (w0 w : World) (hG : Hd w0) (hB : Below w0.heap.size w0 w) (hR : Kd.R (Kd.int .u8) 5 w w0.heap.size (fun _ => True) v xs) (hc : utf_more.f c = some 1) (c0 : 0 ≤ c) (c1 : c ≤ 1114111) (hl : xs.length + 4 < 140737488355328) :
    Calls Tryd.prog 25 #[v, .int .u32 c] w fun e w' => ∃ v1, e = .returned v1 ∧ Kd.R (Kd.int .u8) 5 w' w0.heap.size (fun _ => True) v1 (xs ++ (head c 1 :: conts c 1)) ∧ Below w0.heap.size w0 w' := by
  have F := Aside0.mk (fun W => utf_more.calls c 1 W hc)
  have h0 := hG.size
  obtain ⟨g0, g1, g2, g3⟩ := hG
  have G00 := g1
  have HC := Aside0.mk (more1 c hc)
  clear g0 g1 g2 g3 hc
  go_enter Tryd.func25, Tryd.ntmps25
  go_wp2_with (first | (go_at_call 28; (with_reducible refine (F.out _).mono ?_); rintro e w' ⟨rfl, ⟨nd, rfl⟩⟩))
  generalize hw1 : w.drewN nd = w1 at *
  have B1 : Below w0.heap.size w0 w1 := by subst hw1; exact pw_below_drewN hB nd
  have R1 : Kd.R (Kd.int .u8) 5 w1 w0.heap.size (fun _ => True) v xs := by subst hw1; exact Kd.R_drewN hR nd
  have G0 : w1.cell? { block := 0, off := 1 } = some (Value.int IntKind.u8 192) := (B1.cell h0).trans G00
  have hb1 : w0.heap.size ≤ w1.heap.size := below_size B1
  have HL := Aside0.mk hl
  have HU := Aside0.mk c1
  have R2 := Kd.R_drew R1
  have B2 := below_drew1 B1
  have hb2 : w0.heap.size ≤ w1.drew.heap.size := hb1
  clear hB hR hw1 R1 B1 hb1 hl F c1
  go_region_held3 (fun w' => w'.cell? { block := 0, off := 1 } = some (Value.int IntKind.u8 192)) (first | exact (hbb.cell h0).trans G00 | go_keep) ((refine Kd.R_append_step (Kd.int .u8) (w0 := w0) w0.heap.size (by rfl) (.tmp 8) (.tmp 18) 25 5 (.int .u8 0) 1 (by rfl) Tryd.underlying25 info5 rfl (by decide) (by omega) v xs _ [.int .u8 _] (fun _ => True) (fun _ => False) (by rfl) (by rfl) (by rfl) (fun _ hk => hk.elim) (fun _ _ => trivial) R2 B2 hb2 (by have := HL.out; omega) ?_; intro v1 w3 ho hbb hg hat))
  clear hg hat R2 B2 hb2 G0
  have HO1 := Aside0.mk ho
  have HB1 := Aside0.mk hbb
  clear ho hbb
  go_wp2
  go_loopg [0, 5] 1 (fun kq v0 v5 w' => ∃ (ys : List Int), v5 = .int .i64 (kq : Int) ∧ Aside0 (kq ≤ 1) ∧ Aside0 (ys ++ conts c kq = xs ++ (head c 1 :: conts c 1)) ∧ Aside0 (Kd.R (Kd.int .u8) 5 w' w0.heap.size (fun _ => True) v0 ys) ∧ Aside0 (Below w0.heap.size w0 w'))
  case atStart => exact ⟨_, rfl, ⟨Nat.le_refl _⟩, ⟨by rw [List.append_assoc]; congr 1; simp only [List.cons_append, List.nil_append]; congr 1; exact head_or1 c c0 HU.out HC.out⟩, HO1, HB1⟩
  case round =>
    clear HO1 HB1
    obtain ⟨ys, rfl, HK, HY, HO, HB⟩ := hrel
    match gk, HK with
    | 0, HK =>
      go_wp2
      go_ret
      have hy := HY.out
      simp only [conts, List.append_nil] at hy
      exact ⟨_, rfl, hy ▸ HO.out, HB.out⟩
    | 1, HK =>
      go_wp2_with (first | ((with_reducible refine gate_builtin (b := .append) (xs := #[.tmp 24, .tmp 32]) rfl ?_); at_builtin; refine Kd.R_append (Kd.int .u8) (w0 := w0) w0.heap.size rfl (.tmp 24) (.tmp 32) 25 5 (.int .u8 0) 1 rfl Tryd.underlying25 info5 rfl (by decide) (by omega) u0 ys (Go.bits .or .u8 128 (Go.bits .and .u32 c 63 % 256)) [.int .u8 (Go.bits .or .u8 128 (Go.bits .and .u32 c 63 % 256))] (fun _ => True) (fun _ => False) rfl rfl ?aP (fun _ hk => hk.elim) (fun _ _ => trivial) ?aO ?aB ?aS ?aL ?_; (case aP => exact rfl); (case aB => exact (by repeat (first | (with_reducible first | exact HB.out | apply below_alloc | apply pw_below_drewN | apply below_drew1) | exact HB.out))); (case aO => exact (by (with_reducible repeat (first | apply Kd.R_alloc | apply Kd.R_drewN | apply Kd.R_drew)); exact HO.out)); (case aS => exact below_size (by repeat (first | (with_reducible first | exact HB.out | apply below_alloc | apply pw_below_drewN | apply below_drew1) | exact HB.out))); (case aL => have := HY.out; have h2 := congrArg List.length this; have := HL.out; simp [conts] at h2; omega); intro v1 w10 ho hb hg hat))
      go_roundg 0
      case measure => omega
      case rel => exact ⟨_, by rfl, ⟨by omega⟩, ⟨by rw [List.append_assoc]; rw [← HY.out]; congr 1; simp only [conts, List.cons_append, List.nil_append]; congr 1; exact by rw [cont_or _ (by omega) (by have := HU.out; omega)]; congr 2 <;> first | simp | omega⟩, ⟨ho⟩, ⟨hb⟩⟩
    | q + 2, HK => exact absurd HK.out (by omega)
set_option maxHeartbeats 8000000 in
set_option maxRecDepth 100000 in
theorem put2 (v : Value) (xs : List Int) (c : Int) (w0 w : World) (hG : Hd w0) (hB : Below w0.heap.size w0 w) (hR : Kd.R (Kd.int .u8) 5 w w0.heap.size (fun _ => True) v xs) (hc : utf_more.f c = some 2) (c0 : 0 ≤ c) (c1 : c ≤ 1114111) (hl : xs.length + 4 < 140737488355328) :
    Calls Tryd.prog 25 #[v, .int .u32 c] w fun e w' => ∃ v1, e = .returned v1 ∧ Kd.R (Kd.int .u8) 5 w' w0.heap.size (fun _ => True) v1 (xs ++ (head c 2 :: conts c 2)) ∧ Below w0.heap.size w0 w' := by
  have F := Aside0.mk (fun W => utf_more.calls c 2 W hc)
  have h0 := hG.size
  obtain ⟨g0, g1, g2, g3⟩ := hG
  have G00 := g2
  have HC := Aside0.mk (more2 c hc)
  clear g0 g1 g2 g3 hc
  go_enter Tryd.func25, Tryd.ntmps25
  go_wp2_with (first | (go_at_call 28; (with_reducible refine (F.out _).mono ?_); rintro e w' ⟨rfl, ⟨nd, rfl⟩⟩))
  generalize hw1 : w.drewN nd = w1 at *
  have B1 : Below w0.heap.size w0 w1 := by subst hw1; exact pw_below_drewN hB nd
  have R1 : Kd.R (Kd.int .u8) 5 w1 w0.heap.size (fun _ => True) v xs := by subst hw1; exact Kd.R_drewN hR nd
  have G0 : w1.cell? { block := 0, off := 2 } = some (Value.int IntKind.u8 224) := (B1.cell h0).trans G00
  have hb1 : w0.heap.size ≤ w1.heap.size := below_size B1
  have HL := Aside0.mk hl
  have HU := Aside0.mk c1
  have R2 := Kd.R_drew R1
  have B2 := below_drew1 B1
  have hb2 : w0.heap.size ≤ w1.drew.heap.size := hb1
  clear hB hR hw1 R1 B1 hb1 hl F c1
  go_region_held3 (fun w' => w'.cell? { block := 0, off := 2 } = some (Value.int IntKind.u8 224)) (first | exact (hbb.cell h0).trans G00 | go_keep) ((refine Kd.R_append_step (Kd.int .u8) (w0 := w0) w0.heap.size (by rfl) (.tmp 8) (.tmp 18) 25 5 (.int .u8 0) 1 (by rfl) Tryd.underlying25 info5 rfl (by decide) (by omega) v xs _ [.int .u8 _] (fun _ => True) (fun _ => False) (by rfl) (by rfl) (by rfl) (fun _ hk => hk.elim) (fun _ _ => trivial) R2 B2 hb2 (by have := HL.out; omega) ?_; intro v1 w3 ho hbb hg hat))
  clear hg hat R2 B2 hb2 G0
  have HO1 := Aside0.mk ho
  have HB1 := Aside0.mk hbb
  clear ho hbb
  go_wp2
  go_loopg [0, 5] 2 (fun kq v0 v5 w' => ∃ (ys : List Int), v5 = .int .i64 (kq : Int) ∧ Aside0 (kq ≤ 2) ∧ Aside0 (ys ++ conts c kq = xs ++ (head c 2 :: conts c 2)) ∧ Aside0 (Kd.R (Kd.int .u8) 5 w' w0.heap.size (fun _ => True) v0 ys) ∧ Aside0 (Below w0.heap.size w0 w'))
  case atStart => exact ⟨_, rfl, ⟨Nat.le_refl _⟩, ⟨by rw [List.append_assoc]; congr 1; simp only [List.cons_append, List.nil_append]; congr 1; exact head_or2 c c0 HU.out HC.out⟩, HO1, HB1⟩
  case round =>
    clear HO1 HB1
    obtain ⟨ys, rfl, HK, HY, HO, HB⟩ := hrel
    match gk, HK with
    | 0, HK =>
      go_wp2
      go_ret
      have hy := HY.out
      simp only [conts, List.append_nil] at hy
      exact ⟨_, rfl, hy ▸ HO.out, HB.out⟩
    | 1, HK =>
      go_wp2_with (first | ((with_reducible refine gate_builtin (b := .append) (xs := #[.tmp 24, .tmp 32]) rfl ?_); at_builtin; refine Kd.R_append (Kd.int .u8) (w0 := w0) w0.heap.size rfl (.tmp 24) (.tmp 32) 25 5 (.int .u8 0) 1 rfl Tryd.underlying25 info5 rfl (by decide) (by omega) u0 ys (Go.bits .or .u8 128 (Go.bits .and .u32 c 63 % 256)) [.int .u8 (Go.bits .or .u8 128 (Go.bits .and .u32 c 63 % 256))] (fun _ => True) (fun _ => False) rfl rfl ?aP (fun _ hk => hk.elim) (fun _ _ => trivial) ?aO ?aB ?aS ?aL ?_; (case aP => exact rfl); (case aB => exact (by repeat (first | (with_reducible first | exact HB.out | apply below_alloc | apply pw_below_drewN | apply below_drew1) | exact HB.out))); (case aO => exact (by (with_reducible repeat (first | apply Kd.R_alloc | apply Kd.R_drewN | apply Kd.R_drew)); exact HO.out)); (case aS => exact below_size (by repeat (first | (with_reducible first | exact HB.out | apply below_alloc | apply pw_below_drewN | apply below_drew1) | exact HB.out))); (case aL => have := HY.out; have h2 := congrArg List.length this; have := HL.out; simp [conts] at h2; omega); intro v1 w10 ho hb hg hat))
      go_roundg 0
      case measure => omega
      case rel => exact ⟨_, by rfl, ⟨by omega⟩, ⟨by rw [List.append_assoc]; rw [← HY.out]; congr 1; simp only [conts, List.cons_append, List.nil_append]; congr 1; exact by rw [cont_or _ (by omega) (by have := HU.out; omega)]; congr 2 <;> first | simp | omega⟩, ⟨ho⟩, ⟨hb⟩⟩
    | 2, HK =>
      go_wp2_with (first | ((with_reducible refine gate_builtin (b := .append) (xs := #[.tmp 24, .tmp 32]) rfl ?_); at_builtin; refine Kd.R_append (Kd.int .u8) (w0 := w0) w0.heap.size rfl (.tmp 24) (.tmp 32) 25 5 (.int .u8 0) 1 rfl Tryd.underlying25 info5 rfl (by decide) (by omega) u0 ys (Go.bits .or .u8 128 (Go.bits .and .u32 (c / 64) 63 % 256)) [.int .u8 (Go.bits .or .u8 128 (Go.bits .and .u32 (c / 64) 63 % 256))] (fun _ => True) (fun _ => False) rfl rfl ?aP (fun _ hk => hk.elim) (fun _ _ => trivial) ?aO ?aB ?aS ?aL ?_; (case aP => exact rfl); (case aB => exact (by repeat (first | (with_reducible first | exact HB.out | apply below_alloc | apply pw_below_drewN | apply below_drew1) | exact HB.out))); (case aO => exact (by (with_reducible repeat (first | apply Kd.R_alloc | apply Kd.R_drewN | apply Kd.R_drew)); exact HO.out)); (case aS => exact below_size (by repeat (first | (with_reducible first | exact HB.out | apply below_alloc | apply pw_below_drewN | apply below_drew1) | exact HB.out))); (case aL => have := HY.out; have h2 := congrArg List.length this; have := HL.out; simp [conts] at h2; omega); intro v1 w10 ho hb hg hat))
      go_roundg 1
      case measure => omega
      case rel => exact ⟨_, by rfl, ⟨by omega⟩, ⟨by rw [List.append_assoc]; rw [← HY.out]; congr 1; simp only [conts, List.cons_append, List.nil_append]; congr 1; exact by rw [cont_or _ (by omega) (by have := HU.out; omega)]; congr 2 <;> first | simp | omega⟩, ⟨ho⟩, ⟨hb⟩⟩
    | q + 3, HK => exact absurd HK.out (by omega)
set_option maxHeartbeats 8000000 in
set_option maxRecDepth 100000 in
theorem put3 (v : Value) (xs : List Int) (c : Int) (w0 w : World) (hG : Hd w0) (hB : Below w0.heap.size w0 w) (hR : Kd.R (Kd.int .u8) 5 w w0.heap.size (fun _ => True) v xs) (hc : utf_more.f c = some 3) (c0 : 0 ≤ c) (c1 : c ≤ 1114111) (hl : xs.length + 4 < 140737488355328) :
    Calls Tryd.prog 25 #[v, .int .u32 c] w fun e w' => ∃ v1, e = .returned v1 ∧ Kd.R (Kd.int .u8) 5 w' w0.heap.size (fun _ => True) v1 (xs ++ (head c 3 :: conts c 3)) ∧ Below w0.heap.size w0 w' := by
  have F := Aside0.mk (fun W => utf_more.calls c 3 W hc)
  have h0 := hG.size
  obtain ⟨g0, g1, g2, g3⟩ := hG
  have G00 := g3
  have HC := Aside0.mk (more3 c hc)
  clear g0 g1 g2 g3 hc
  go_enter Tryd.func25, Tryd.ntmps25
  go_wp2_with (first | (go_at_call 28; (with_reducible refine (F.out _).mono ?_); rintro e w' ⟨rfl, ⟨nd, rfl⟩⟩))
  generalize hw1 : w.drewN nd = w1 at *
  have B1 : Below w0.heap.size w0 w1 := by subst hw1; exact pw_below_drewN hB nd
  have R1 : Kd.R (Kd.int .u8) 5 w1 w0.heap.size (fun _ => True) v xs := by subst hw1; exact Kd.R_drewN hR nd
  have G0 : w1.cell? { block := 0, off := 3 } = some (Value.int IntKind.u8 240) := (B1.cell h0).trans G00
  have hb1 : w0.heap.size ≤ w1.heap.size := below_size B1
  have HL := Aside0.mk hl
  have HU := Aside0.mk c1
  have R2 := Kd.R_drew R1
  have B2 := below_drew1 B1
  have hb2 : w0.heap.size ≤ w1.drew.heap.size := hb1
  clear hB hR hw1 R1 B1 hb1 hl F c1
  go_region_held3 (fun w' => w'.cell? { block := 0, off := 3 } = some (Value.int IntKind.u8 240)) (first | exact (hbb.cell h0).trans G00 | go_keep) ((refine Kd.R_append_step (Kd.int .u8) (w0 := w0) w0.heap.size (by rfl) (.tmp 8) (.tmp 18) 25 5 (.int .u8 0) 1 (by rfl) Tryd.underlying25 info5 rfl (by decide) (by omega) v xs _ [.int .u8 _] (fun _ => True) (fun _ => False) (by rfl) (by rfl) (by rfl) (fun _ hk => hk.elim) (fun _ _ => trivial) R2 B2 hb2 (by have := HL.out; omega) ?_; intro v1 w3 ho hbb hg hat))
  clear hg hat R2 B2 hb2 G0
  have HO1 := Aside0.mk ho
  have HB1 := Aside0.mk hbb
  clear ho hbb
  go_wp2
  go_loopg [0, 5] 3 (fun kq v0 v5 w' => ∃ (ys : List Int), v5 = .int .i64 (kq : Int) ∧ Aside0 (kq ≤ 3) ∧ Aside0 (ys ++ conts c kq = xs ++ (head c 3 :: conts c 3)) ∧ Aside0 (Kd.R (Kd.int .u8) 5 w' w0.heap.size (fun _ => True) v0 ys) ∧ Aside0 (Below w0.heap.size w0 w'))
  case atStart => exact ⟨_, rfl, ⟨Nat.le_refl _⟩, ⟨by rw [List.append_assoc]; congr 1; simp only [List.cons_append, List.nil_append]; congr 1; exact head_or3 c c0 HU.out HC.out⟩, HO1, HB1⟩
  case round =>
    clear HO1 HB1
    obtain ⟨ys, rfl, HK, HY, HO, HB⟩ := hrel
    match gk, HK with
    | 0, HK =>
      go_wp2
      go_ret
      have hy := HY.out
      simp only [conts, List.append_nil] at hy
      exact ⟨_, rfl, hy ▸ HO.out, HB.out⟩
    | 1, HK =>
      go_wp2_with (first | ((with_reducible refine gate_builtin (b := .append) (xs := #[.tmp 24, .tmp 32]) rfl ?_); at_builtin; refine Kd.R_append (Kd.int .u8) (w0 := w0) w0.heap.size rfl (.tmp 24) (.tmp 32) 25 5 (.int .u8 0) 1 rfl Tryd.underlying25 info5 rfl (by decide) (by omega) u0 ys (Go.bits .or .u8 128 (Go.bits .and .u32 c 63 % 256)) [.int .u8 (Go.bits .or .u8 128 (Go.bits .and .u32 c 63 % 256))] (fun _ => True) (fun _ => False) rfl rfl ?aP (fun _ hk => hk.elim) (fun _ _ => trivial) ?aO ?aB ?aS ?aL ?_; (case aP => exact rfl); (case aB => exact (by repeat (first | (with_reducible first | exact HB.out | apply below_alloc | apply pw_below_drewN | apply below_drew1) | exact HB.out))); (case aO => exact (by (with_reducible repeat (first | apply Kd.R_alloc | apply Kd.R_drewN | apply Kd.R_drew)); exact HO.out)); (case aS => exact below_size (by repeat (first | (with_reducible first | exact HB.out | apply below_alloc | apply pw_below_drewN | apply below_drew1) | exact HB.out))); (case aL => have := HY.out; have h2 := congrArg List.length this; have := HL.out; simp [conts] at h2; omega); intro v1 w10 ho hb hg hat))
      go_roundg 0
      case measure => omega
      case rel => exact ⟨_, by rfl, ⟨by omega⟩, ⟨by rw [List.append_assoc]; rw [← HY.out]; congr 1; simp only [conts, List.cons_append, List.nil_append]; congr 1; exact by rw [cont_or _ (by omega) (by have := HU.out; omega)]; congr 2 <;> first | simp | omega⟩, ⟨ho⟩, ⟨hb⟩⟩
    | 2, HK =>
      go_wp2_with (first | ((with_reducible refine gate_builtin (b := .append) (xs := #[.tmp 24, .tmp 32]) rfl ?_); at_builtin; refine Kd.R_append (Kd.int .u8) (w0 := w0) w0.heap.size rfl (.tmp 24) (.tmp 32) 25 5 (.int .u8 0) 1 rfl Tryd.underlying25 info5 rfl (by decide) (by omega) u0 ys (Go.bits .or .u8 128 (Go.bits .and .u32 (c / 64) 63 % 256)) [.int .u8 (Go.bits .or .u8 128 (Go.bits .and .u32 (c / 64) 63 % 256))] (fun _ => True) (fun _ => False) rfl rfl ?aP (fun _ hk => hk.elim) (fun _ _ => trivial) ?aO ?aB ?aS ?aL ?_; (case aP => exact rfl); (case aB => exact (by repeat (first | (with_reducible first | exact HB.out | apply below_alloc | apply pw_below_drewN | apply below_drew1) | exact HB.out))); (case aO => exact (by (with_reducible repeat (first | apply Kd.R_alloc | apply Kd.R_drewN | apply Kd.R_drew)); exact HO.out)); (case aS => exact below_size (by repeat (first | (with_reducible first | exact HB.out | apply below_alloc | apply pw_below_drewN | apply below_drew1) | exact HB.out))); (case aL => have := HY.out; have h2 := congrArg List.length this; have := HL.out; simp [conts] at h2; omega); intro v1 w10 ho hb hg hat))
      go_roundg 1
      case measure => omega
      case rel => exact ⟨_, by rfl, ⟨by omega⟩, ⟨by rw [List.append_assoc]; rw [← HY.out]; congr 1; simp only [conts, List.cons_append, List.nil_append]; congr 1; exact by rw [cont_or _ (by omega) (by have := HU.out; omega)]; congr 2 <;> first | simp | omega⟩, ⟨ho⟩, ⟨hb⟩⟩
    | 3, HK =>
      go_wp2_with (first | ((with_reducible refine gate_builtin (b := .append) (xs := #[.tmp 24, .tmp 32]) rfl ?_); at_builtin; refine Kd.R_append (Kd.int .u8) (w0 := w0) w0.heap.size rfl (.tmp 24) (.tmp 32) 25 5 (.int .u8 0) 1 rfl Tryd.underlying25 info5 rfl (by decide) (by omega) u0 ys (Go.bits .or .u8 128 (Go.bits .and .u32 (c / 4096) 63 % 256)) [.int .u8 (Go.bits .or .u8 128 (Go.bits .and .u32 (c / 4096) 63 % 256))] (fun _ => True) (fun _ => False) rfl rfl ?aP (fun _ hk => hk.elim) (fun _ _ => trivial) ?aO ?aB ?aS ?aL ?_; (case aP => exact rfl); (case aB => exact (by repeat (first | (with_reducible first | exact HB.out | apply below_alloc | apply pw_below_drewN | apply below_drew1) | exact HB.out))); (case aO => exact (by (with_reducible repeat (first | apply Kd.R_alloc | apply Kd.R_drewN | apply Kd.R_drew)); exact HO.out)); (case aS => exact below_size (by repeat (first | (with_reducible first | exact HB.out | apply below_alloc | apply pw_below_drewN | apply below_drew1) | exact HB.out))); (case aL => have := HY.out; have h2 := congrArg List.length this; have := HL.out; simp [conts] at h2; omega); intro v1 w10 ho hb hg hat))
      go_roundg 2
      case measure => omega
      case rel => exact ⟨_, by rfl, ⟨by omega⟩, ⟨by rw [List.append_assoc]; rw [← HY.out]; congr 1; simp only [conts, List.cons_append, List.nil_append]; congr 1; exact by rw [cont_or _ (by omega) (by have := HU.out; omega)]; congr 2 <;> first | simp | omega⟩, ⟨ho⟩, ⟨hb⟩⟩
    | q + 4, HK => exact absurd HK.out (by omega)
/-- utf.put of a character: its bytes stand behind. -/
def encP (c : Int) : List Int := if c ≤ 127 then head c 0 :: conts c 0 else if c ≤ 2047 then head c 1 :: conts c 1 else if c ≤ 65535 then head c 2 :: conts c 2 else head c 3 :: conts c 3
theorem encP_length (c : Int) : (encP c).length ≤ 4 := by
  unfold encP
  repeat' split
  all_goals simp [conts]
theorem utf_put.calls (v : Value) (xs : List Int) (c : Int) (w0 w : World) (hG : Hd w0) (hB : Below w0.heap.size w0 w) (hR : Kd.R (Kd.int .u8) 5 w w0.heap.size (fun _ => True) v xs) (c0 : 0 ≤ c) (c1 : c ≤ 1114111) (hl : xs.length + 4 < 140737488355328) :
    Calls Tryd.prog 25 #[v, .int .u32 c] w fun e w' => ∃ v1, e = .returned v1 ∧ Kd.R (Kd.int .u8) 5 w' w0.heap.size (fun _ => True) v1 (xs ++ encP c) ∧ Below w0.heap.size w0 w' := by
  unfold encP
  by_cases h1 : c ≤ 127
  · rw [if_pos h1]; exact put0 v xs c w0 w hG hB hR (by unfold utf_more.f; rw [if_pos h1]) c0 c1 hl
  · by_cases h2 : c ≤ 2047
    · rw [if_neg h1, if_pos h2]; exact put1 v xs c w0 w hG hB hR (by unfold utf_more.f; rw [if_neg h1, if_pos h2]) c0 c1 hl
    · by_cases h3 : c ≤ 65535
      · rw [if_neg h1, if_neg h2, if_pos h3]; exact put2 v xs c w0 w hG hB hR (by unfold utf_more.f; rw [if_neg h1, if_neg h2, if_pos h3]) c0 c1 hl
      · rw [if_neg h1, if_neg h2, if_neg h3]; exact put3 v xs c w0 w hG hB hR (by unfold utf_more.f; rw [if_neg h1, if_neg h2, if_neg h3]) c0 c1 hl


/-! ### utf_Text: function 11, by hand -/
-- HANDROUNDS HG HANDMAKES
def utf_Text.l0 : Nat → List Int → List Int → Int → Option (List Int × Bool)
  | 0, _, _, _ => none
  | k + 1, x0, x4, x5 => if x5 < (x0.length : Int) then (if 0 ≤ x5 then ((utf_Char.f (IntKind.u64.wrap (rd x0 x5))).bind fun t134 => (if t134 = true then (if 0 ≤ rd x0 x5 ∧ rd x0 x5 ≤ 1114111 then (if x4.length + 4 < 140737488355328 then (utf_Text.l0 k x0 (x4 ++ encP (rd x0 x5)) (wrap64 (x5 + 1))) else (none)) else none) else (some (([] : List Int), false)))) else (none)) else (some (x4, true))
def utf_Text.f (k : Nat) (l0 : List Int) : Option (List Int × Bool) := utf_Text.l0 k l0 ([] : List Int) 0
theorem utf_Text.mono_l : ∀ k, (∀ y0 y1 y2, LeO (utf_Text.l0 k y0 y1 y2) (utf_Text.l0 (k + 1) y0 y1 y2))
  | 0 => fun _ _ _ r h => by simp [utf_Text.l0] at h
  | k + 1 => by
    have ih0 := utf_Text.mono_l k
    intro y0 y1 y2
    unfold utf_Text.l0
    repeat' first
      | (with_reducible exact ih0 _ _ _)
      | (with_reducible exact LeO.refl _)
      | (with_reducible exact LeO.none _)
      | (with_reducible refine LeO.ite ?_ ?_)
      | (with_reducible refine LeO.bind ?_ (fun _ => ?_))
theorem utf_Text.mono : ∀ a0 k, LeO (utf_Text.f k a0) (utf_Text.f (k + 1) a0) := by
  intro a0 k
  exact utf_Text.mono_l k _ _ _
set_option maxHeartbeats 8000000 in
set_option maxRecDepth 100000 in
theorem utf_Text.calls (k : Nat) (A0 : Option Addr) (c0 : Nat) (l0 : List Int) (r1 : List Int) (r2 : Bool) (w : World) (hG : Hd w) (hr0 : Kd.C (Kd.int .u32) w A0 l0.length l0) (hc0 : l0.length ≤ c0) (h : utf_Text.f k l0 = some (r1, r2)) :
    Calls Tryd.prog 11 #[.slice A0 l0.length c0] w fun e w' => ∃ v0_ : Value, e = .returned (.tuple #[v0_, .bool r2]) ∧ Kd.R (Kd.int .u8) 5 w' w.heap.size (fun _ => True) v0_ r1 ∧ Below w.heap.size w w' := by
  have HG := Aside0.mk hG
  have HR0 := Aside0.mk hr0
  have HC0 := Aside0.mk hc0
  clear hr0 hc0 hG
  have HB := Aside0.mk (Below.refl w.heap.size w)
  have H : (utf_Text.l0 k l0 ([] : List Int) 0) = some (r1, r2) := h
  clear h
  have H' := Aside0.mk H
  clear H
  go_enter Tryd.func11, Tryd.ntmps11
  go_wp2
  go_loopg [4, 9] k (fun kq v4 v9 w' => ∃ (x4_1 : List Int) (x5_1 : Int), v9 = .int .i64 x5_1 ∧ Aside0 (utf_Text.l0 kq l0 x4_1 x5_1 = some (r1, r2)) ∧ Aside0 (kq ≤ k) ∧ Aside0 (Kd.R (Kd.int .u8) 5 w' w.heap.size (fun _ => True) v4 x4_1) ∧ Aside0 (Below w.heap.size w w'))
  case atStart => exact ⟨(([] : List Int)), (0), (by first | rfl | (simp; done) | (simp [*]; done)), H', ⟨Nat.le_refl _⟩, ⟨by first | exact Kd.R_nil _ _ _ _ _⟩, ⟨by repeat (first | (with_reducible first | exact HB.out | apply below_alloc | apply pw_below_drewN | apply below_drew1) | exact HB.out)⟩⟩
  case round =>
    clear H'
    obtain ⟨x4_1, x5_1, rfl, HA, HK1, HO_4, HB⟩ := hrel
    cases gk with
    | zero => exact absurd HA.out (by simp [utf_Text.l0])
    | succ k1 =>
      have H := HA.out
      clear HA
      simp only [utf_Text.l0] at H
      by_cases c2 : x5_1 < (l0.length : Int)
      · rw [if_pos c2] at H
        have c2b0 : decide (x5_1 < (l0.length : Int)) = true := decide_eq_true c2
        by_cases c3 : 0 ≤ x5_1
        · rw [if_pos c3] at H
          obtain ⟨ad133, e133, hx133_0⟩ := Kd.at_int HR0.out x5_1 c3 c2
          cases e133
          replace hx133_0 := (HB.out.cell (World.block_lt_of_cell? w _ hx133_0)).trans hx133_0
          have c3b0 : decide (0 ≤ x5_1) = true := decide_eq_true c3
          obtain ⟨t134, A40, H⟩ := Option.bind_eq_some_iff.mp H
          have A4 := Aside0.mk A40
          clear A40
          replace c2 := eq_true c2
          replace c3 := eq_true c3
          cases t134 with
          | true =>
            rw [if_pos rfl] at H
            by_cases c6 : 0 ≤ rd l0 x5_1 ∧ rd l0 x5_1 ≤ 1114111
            · rw [if_pos c6] at H
              have C6 := Aside0.mk c6
              clear c6
              by_cases c7 : x4_1.length + 4 < 140737488355328
              · rw [if_pos c7] at H
                have LMc7 := Aside0.mk c7
                clear c7
                have H' := Aside0.mk H
                clear H
                go_wp2_with (first | ((with_reducible refine gate_callee (f := 15) rfl ?_); refine goesL_ (some 15) rfl rfl Tryd.func15 (by kernel_rfl) rfl #[.int .u64 (IntKind.u64.wrap (rd l0 x5_1))] rfl (by (try simp only [List.map_toArray, List.map_cons, List.map_nil]); first | done | rfl | (simp only [List.length_drop, List.length_take]; rfl)) ?_; (with_reducible refine (utf_Char.calls (IntKind.u64.wrap (rd l0 x5_1)) true _ A4.out).mono ?_); rintro e w' ⟨rfl, ⟨nd, rfl⟩⟩; refine ⟨_, rfl, ?_⟩) | (go_at_call 25; refine (utf_put.calls u4 x4_1 (rd l0 x5_1) w _ HG.out (by repeat (first | (with_reducible first | exact HB.out | apply below_alloc | apply pw_below_drewN | apply below_drew1) | exact HB.out)) (by (with_reducible repeat (first | apply Kd.R_alloc | apply Kd.R_drewN | apply Kd.R_drew)); exact HO_4.out) C6.out.1 C6.out.2 LMc7.out).mono ?_; rintro e w8 ⟨v137, rfl, ho0, hb⟩))
                go_roundg k1
                case measure => have := HK1.out; omega
                case rel => exact ⟨_, _, (by first | rfl | (simp; done) | (simp [*]; done)), H', ⟨by have := HK1.out; omega⟩, ⟨ho0⟩, ⟨hb⟩⟩
              · rw [if_neg c7] at H
                exact absurd H (by simp)
            · rw [if_neg c6] at H
              exact absurd H (by simp)
          | false =>
            rw [if_neg (show ¬ (false = true) by decide)] at H
            simp only [Option.some.injEq, Prod.mk.injEq] at H
            obtain ⟨rfl, rfl⟩ := H
            go_wp2_with (first | ((with_reducible refine gate_callee (f := 15) rfl ?_); refine goesL_ (some 15) rfl rfl Tryd.func15 (by kernel_rfl) rfl #[.int .u64 (IntKind.u64.wrap (rd l0 x5_1))] rfl (by (try simp only [List.map_toArray, List.map_cons, List.map_nil]); first | done | rfl | (simp only [List.length_drop, List.length_take]; rfl)) ?_; (with_reducible refine (utf_Char.calls (IntKind.u64.wrap (rd l0 x5_1)) false _ A4.out).mono ?_); rintro e w' ⟨rfl, ⟨nd, rfl⟩⟩; refine ⟨_, rfl, ?_⟩))
            go_ret2
            exact ⟨_, rfl, Kd.R_nil _ _ _ _ _, by repeat (first | (with_reducible first | exact HB.out | apply below_alloc | apply pw_below_drewN | apply below_drew1) | exact HB.out)⟩
        · rw [if_neg c3] at H
          exact absurd H (by simp)
      · rw [if_neg c2] at H
        have c2b0 : decide (x5_1 < (l0.length : Int)) = false := decide_eq_false c2
        clear c2
        simp only [Option.some.injEq, Prod.mk.injEq] at H
        obtain ⟨rfl, rfl⟩ := H
        go_wp2
        go_ret2
        exact ⟨_, rfl, HO_4.out, by repeat (first | (with_reducible first | exact HB.out | apply below_alloc | apply pw_below_drewN | apply below_drew1) | exact HB.out)⟩

/-! ### utf_first: function 29 -/
def utf_first.j0 : Nat → Int → Bool → Option (Int × Int × Bool)
  | 0, _, _ => none
  | k + 1, x0, x10 => if x10 = true then (some (0, 0, false)) else (if x0 ≥ 240 then (some ((Go.bits .and .u8 x0 7) % 4294967296, 3, true)) else (if x0 ≥ 224 then (some ((Go.bits .and .u8 x0 15) % 4294967296, 2, true)) else (some ((Go.bits .and .u8 x0 31) % 4294967296, 1, true))))
def utf_first.f (k : Nat) (a0 : Int) : Option (Int × Int × Bool) := if a0 < 128 then (some ((a0) % 4294967296, 0, true)) else (if a0 ≥ 248 then (utf_first.j0 k a0 true) else (utf_first.j0 k a0 (decide (a0 < 192))))
theorem utf_first.mono_l : ∀ k, (∀ y0 y1, LeO (utf_first.j0 k y0 y1) (utf_first.j0 (k + 1) y0 y1))
  | 0 => fun _ _ r h => by simp [utf_first.j0] at h
  | k + 1 => by
    have ih0 := utf_first.mono_l k
    · intro y0 y1
      unfold utf_first.j0
      repeat' first
      | (with_reducible exact ih0 _ _)
      | (with_reducible exact LeO.refl _)
      | (with_reducible exact LeO.none _)
      | (with_reducible refine LeO.ite ?_ ?_)
      | (with_reducible refine LeO.bind ?_ (fun _ => ?_))
      | exact ih0 _ _
      | exact LeO.none _
      | refine LeO.ite ?_ ?_
      | refine LeO.bind ?_ (fun _ => ?_)
theorem utf_first.mono : ∀ a0 k, LeO (utf_first.f k a0) (utf_first.f (k + 1) a0) := by
  intro a0 k
  have ih0 := utf_first.mono_l k
  unfold utf_first.f
  repeat' first
      | (with_reducible exact ih0 _ _)
      | (with_reducible exact LeO.refl _)
      | (with_reducible exact LeO.none _)
      | (with_reducible refine LeO.ite ?_ ?_)
      | (with_reducible refine LeO.bind ?_ (fun _ => ?_))
      | exact ih0 _ _
      | exact LeO.none _
      | refine LeO.ite ?_ ?_
      | refine LeO.bind ?_ (fun _ => ?_)
set_option maxHeartbeats 8000000 in
set_option maxRecDepth 100000 in
theorem utf_first.calls (k : Nat) (a0 : Int) (r1 : Int) (r2 : Int) (r3 : Bool) (w : World) (h : utf_first.f k a0 = some (r1, r2, r3)) :
    Calls Tryd.prog 29 #[.int .u8 a0] w fun e w' => e = .returned (.tuple #[.int .u32 r1, .int .i64 r2, .bool r3]) ∧ Drawn0 w w' := by
  have H : (if a0 < 128 then (some ((a0) % 4294967296, 0, true)) else (if a0 ≥ 248 then (utf_first.j0 k a0 true) else (utf_first.j0 k a0 (decide (a0 < 192))))) = some (r1, r2, r3) := h
  clear h
  by_cases c2 : a0 < 128
  · rw [if_pos c2] at H
    have c2b0 : decide (a0 < 128) = true := decide_eq_true c2
    clear c2
    simp only [Option.some.injEq, Prod.mk.injEq] at H
    obtain ⟨rfl, rfl, rfl⟩ := H
    go_enter Tryd.func29, Tryd.ntmps29
    go_wp2
    go_ret3
    exact ⟨by first | rfl | (simp; done) | (simp [*]; done), by repeat (first | exact Drawn0.refl _ | apply Drawn0.step)⟩
  · rw [if_neg c2] at H
    have c2b0 : decide (a0 < 128) = false := decide_eq_false c2
    clear c2
    have HC3 := Aside0.mk H
    clear H
    go_enter Tryd.func29, Tryd.ntmps29
    go_upto_region 3 with (fail)
    go_cut [10] (fun v10 wc => ∃ (kq : Nat) (x10_2 : Bool), v10 = .bool x10_2 ∧ Aside0 (utf_first.j0 kq a0 x10_2 = some (r1, r2, r3)) ∧ Aside0 (kq ≤ k) ∧ Drawn0 w wc)
    case first =>
      have H := HC3.out
      clear HC3
      by_cases c4 : a0 ≥ 248
      · rw [if_pos c4] at H
        have c4b0 : decide (248 ≤ a0) = true := decide_eq_true c4
        clear c4
        (first | rw [c4b0] | (simp only [i64_w, i32_w]; rw [c4b0]) | skip)
        have H' := Aside0.mk H
        clear H
        go_wp2
        go_meet
        case rel => exact ⟨_, (true), (by first | rfl | (simp; done) | (simp [*]; done)), H', ⟨by first | omega | exact Nat.le_refl _⟩, by repeat (first | exact Drawn0.refl _ | apply Drawn0.step)⟩
      · rw [if_neg c4] at H
        have c4b0 : decide (248 ≤ a0) = false := decide_eq_false c4
        clear c4
        (first | rw [c4b0] | (simp only [i64_w, i32_w]; rw [c4b0]) | skip)
        have H' := Aside0.mk H
        clear H
        go_wp2
        go_meet
        case rel => exact ⟨_, (decide (a0 < 192)), (by first | rfl | (simp; done) | (simp [*]; done)), H', ⟨by first | omega | exact Nat.le_refl _⟩, by repeat (first | exact Drawn0.refl _ | apply Drawn0.step)⟩
    case rest =>
      clear HC3
      try clear c2
      try clear c2b0
      try clear p2
      try clear c4
      try clear c4b0
      obtain ⟨kq, x10_2, rfl, HA, HJ2, ⟨mc2, rfl⟩⟩ := hcut
      cases kq with
      | zero => exact absurd HA.out (by simp [utf_first.j0])
      | succ kj2 =>
        have H := HA.out
        clear HA
        simp only [utf_first.j0] at H
        by_cases c5 : x10_2 = true
        · subst c5
          have H1 : (some (0, 0, false)) = some (r1, r2, r3) := by rw [if_pos rfl] at H; exact H
          clear H
          have H := H1
          clear H1
          simp only [Option.some.injEq, Prod.mk.injEq] at H
          obtain ⟨rfl, rfl, rfl⟩ := H
          go_wp2
          go_ret3
          exact ⟨by first | rfl | (simp; done) | (simp [*]; done), by repeat (first | exact Drawn0.refl _ | apply Drawn0.step)⟩
        · replace c5 := Bool.eq_false_iff.mpr c5
          subst c5
          have H1 : (if a0 ≥ 240 then (some ((Go.bits .and .u8 a0 7) % 4294967296, 3, true)) else (if a0 ≥ 224 then (some ((Go.bits .and .u8 a0 15) % 4294967296, 2, true)) else (some ((Go.bits .and .u8 a0 31) % 4294967296, 1, true)))) = some (r1, r2, r3) := by rw [if_neg (show ¬ (false = true) by decide)] at H; exact H
          clear H
          have H := H1
          clear H1
          by_cases c6 : a0 ≥ 240
          · rw [if_pos c6] at H
            have c6b0 : decide (240 ≤ a0) = true := decide_eq_true c6
            clear c6
            simp only [Option.some.injEq, Prod.mk.injEq] at H
            obtain ⟨rfl, rfl, rfl⟩ := H
            go_wp2
            go_ret3
            exact ⟨by first | rfl | (simp; done) | (simp [*]; done), by repeat (first | exact Drawn0.refl _ | apply Drawn0.step)⟩
          · rw [if_neg c6] at H
            have c6b0 : decide (240 ≤ a0) = false := decide_eq_false c6
            clear c6
            by_cases c7 : a0 ≥ 224
            · rw [if_pos c7] at H
              have c7b0 : decide (224 ≤ a0) = true := decide_eq_true c7
              clear c7
              simp only [Option.some.injEq, Prod.mk.injEq] at H
              obtain ⟨rfl, rfl, rfl⟩ := H
              go_wp2
              go_ret3
              exact ⟨by first | rfl | (simp; done) | (simp [*]; done), by repeat (first | exact Drawn0.refl _ | apply Drawn0.step)⟩
            · rw [if_neg c7] at H
              have c7b0 : decide (224 ≤ a0) = false := decide_eq_false c7
              clear c7
              simp only [Option.some.injEq, Prod.mk.injEq] at H
              obtain ⟨rfl, rfl, rfl⟩ := H
              go_wp2
              go_ret3
              exact ⟨by first | rfl | (simp; done) | (simp [*]; done), by repeat (first | exact Drawn0.refl _ | apply Drawn0.step)⟩

end Go.Proofs.YtbbgmokpniigfaaDoor.PUtfOne
