/- The reference's table by hand: what its memory is (one block of one cell, one row of bools), and what its New, Has, Hold, Take, Free and the law's meant do to it. No condition of our own. -/
import Derived.Test.YtidflacmiigbmaaTabSteps
import Derived.Test.YtidflacmiigbmaaWNEv
namespace Go.Proofs.Ytidflacmiigbmaa.Tab
open Go.RowKit Go.Maps Go.Proofs.YtidflacmiigbmaaW.PrintWords Go.Proofs.YtidflacmiigbmaaW.PrintMore
set_option linter.unusedVariables false
theorem info4 : (Try.prog.info? 4).map (fun i => (i.zero, i.size, i.bytes)) = some (some (.bool false), 1, 1) := by kernel_rfl
/-- Of each number below m whether it is held. -/
def heldB (h : Int → Bool) (m : Nat) : List Bool := (List.range m).map fun i : Nat => h (i : Int)
theorem heldB_length (h : Int → Bool) (m : Nat) : (heldB h m).length = m := by simp [heldB]
theorem heldB_rd (h : Int → Bool) (m : Nat) (x : Int) (h0 : 0 ≤ x) (h1 : x < m) : rdOf false (heldB h m) x = h x := by
  unfold rdOf heldB
  rw [List.getD_eq_getElem?_getD, List.getElem?_map, List.getElem?_range (by omega)]
  simp only [Option.map_some, Option.getD_some]
  rw [Int.toNat_of_nonneg h0]
theorem heldB_set (h : Int → Bool) (m : Nat) (x : Int) (b : Bool) (h0 : 0 ≤ x) : (heldB h m).set x.toNat b = heldB (put1 h x b) m := by
  apply List.ext_getElem?
  intro q
  unfold heldB
  by_cases c : q < m
  · by_cases e : q = x.toNat
    · rw [e, List.getElem?_set_self (by simp; omega), List.getElem?_map, List.getElem?_range (by omega)]
      simp only [Option.map_some, put1]
      rw [if_pos (by omega)]
    · rw [List.getElem?_set_ne (by omega), List.getElem?_map, List.getElem?_map, List.getElem?_range c]
      simp only [Option.map_some, put1]
      rw [if_neg (by omega)]
  · rw [List.getElem?_eq_none (by simp; omega), List.getElem?_eq_none (by simp; omega)]
theorem heldB_none (m : Nat) : heldB (fun _ => false) m = List.replicate m false := by
  unfold heldB
  apply List.ext_getElem?
  intro q
  rw [List.getElem?_map, List.getElem?_replicate]
  by_cases c : q < m
  · rw [List.getElem?_range c, if_pos c]; rfl
  · rw [List.getElem?_eq_none (by simp; omega), if_neg c]; rfl
/-- The reference's table's memory: r its block, gh its row's; h tells which numbers are held. -/
structure Rb (w0 W : World) (r gh ch m : Nat) (most : Int) (h : Int → Bool) : Prop where
  c0 : W.heap[r]? = some (.cells #[.slice (some ⟨gh, 0, none⟩) m ch] 58 (0, 0))
  rb : w0.heap.size ≤ r
  R : Kd.R Kd.bool 4 W w0.heap.size (fun _ => True) (.slice (some ⟨gh, 0, none⟩) m ch) (heldB h m)
  ne : r ≠ gh
  me : (m : Int) = most + 1
  m0 : 0 ≤ most ∧ most ≤ 65535
  dom : ∀ x, h x = true → 0 ≤ x ∧ x ≤ most
variable {w0 W W' : World} {r gh ch m : Nat} {most : Int} {h : Int → Bool}
theorem Rb.lt (T : Rb w0 W r gh ch m most h) : r < W.heap.size := (Array.getElem?_eq_some_iff.1 T.c0).1
theorem Rb.ltm (T : Rb w0 W r gh ch m most h) : gh < W.heap.size := Kd.R_lt T.R gh rfl
theorem Rb.gb (T : Rb w0 W r gh ch m most h) : w0.heap.size ≤ gh := Kd.R_base T.R gh rfl
theorem Rb.cell0 (T : Rb w0 W r gh ch m most h) : W.cell? ⟨r, 0, none⟩ = some (.slice (some ⟨gh, 0, none⟩) m ch) := by simp only [World.cell?, T.c0]; rfl
theorem Rb.at_ (T : Rb w0 W r gh ch m most h) (x : Int) (h0 : 0 ≤ x) (h1 : x ≤ most) : W.cell? ⟨gh, x.toNat, none⟩ = some (.bool (h x)) ∧ W.frozen? ⟨gh, x.toNat, none⟩ = false := by
  have hx : x < (m : Int) := by have := T.me; omega
  obtain ⟨hcl, hfz⟩ := Kd.R_celln false T.R x h0 hx
  rw [heldB_rd h m x h0 hx] at hcl
  exact ⟨hcl, hfz⟩
/-- It stays behind what writes other blocks alone. -/
theorem Rb.grown {row : Option Nat} (T : Rb w0 W r gh ch m most h) (hg : W.grownBy W' row) (h1 : some r ≠ row) (h2 : some gh ≠ row) : Rb w0 W' r gh ch m most h :=
  ⟨(hg.block r T.lt h1).trans T.c0, T.rb, Kd.R_grown1 T.R rfl hg (fun e => h2 e.symm), T.ne, T.me, T.m0, T.dom⟩
theorem Rb.kept (T : Rb w0 W r gh ch m most h) (hb : Below W.heap.size W W') : Rb w0 W' r gh ch m most h := T.grown (grown_of_below hb) (by simp) (by simp)
theorem Rb.same {h' : Int → Bool} (T : Rb w0 W r gh ch m most h) (e : ∀ x, h x = h' x) : Rb w0 W r gh ch m most h' := by
  have : h = h' := funext e
  rw [← this]; exact T
theorem Rb.put (T : Rb w0 W r gh ch m most h) (x : Int) (b : Bool) (h0 : 0 ≤ x) (h1 : x ≤ most) : Rb w0 (W.setCell ⟨gh, x.toNat, none⟩ (.bool b)) r gh ch m most (put1 h x b) ∧ W.grownBy (W.setCell ⟨gh, x.toNat, none⟩ (.bool b)) (some gh) := by
  have hp := Kd.R_putg T.R x b
  rw [heldB_set h m x b h0] at hp
  refine ⟨⟨(hp.2.block r T.lt (fun e => T.ne (Option.some.inj e))).trans T.c0, T.rb, hp.1, T.ne, T.me, T.m0, fun y hy => ?_⟩, hp.2⟩
  unfold put1 at hy
  by_cases e : y = x
  · subst e; exact ⟨h0, h1⟩
  · rw [if_neg e] at hy; exact T.dom y hy
theorem grown_refl {b : Option Nat} : W.grownBy W b := ⟨rfl, rfl, rfl, Nat.le_refl _, fun _ _ _ => rfl⟩
set_option maxHeartbeats 4000000 in
set_option maxRecDepth 100000 in
theorem rhas_calls (T : Rb w0 W r gh ch m most h) (x : Int) : Calls Try.prog 20 #[.pointer (some ⟨r, 0, none⟩), .int .i64 x] W fun e W' => e = .returned (.bool (h x)) ∧ Below W.heap.size W W' := by
  have c0 := T.cell0
  have rng : x < 0 ∨ most < x ∨ (0 ≤ x ∧ x ≤ most) := by omega
  rcases rng with c1 | c1 | c1
  · have g1 : decide (0 ≤ x) = false := decide_eq_false (by omega)
    have hxf : h x = false := by cases e : h x with | false => rfl | true => exact absurd (T.dom x e).1 (by omega)
    rw [hxf]
    clear T c1
    go_enter Try.func20, Try.ntmps20
    go_wp2
    go_ret
    exact ⟨rfl, by repeat (first | exact Below.refl _ _ | apply below_alloc | apply pw_below_drewN | apply below_drew1)⟩
  · have g1 : decide (0 ≤ x) = true := decide_eq_true (by have := T.m0; omega)
    have g2 : decide (x < (m : Int)) = false := decide_eq_false (by have := T.me; omega)
    have hxf : h x = false := by cases e : h x with | false => rfl | true => exact absurd (T.dom x e).2 (by omega)
    rw [hxf]
    clear T c1
    go_enter Try.func20, Try.ntmps20
    go_wp2
    go_ret
    exact ⟨rfl, by repeat (first | exact Below.refl _ _ | apply below_alloc | apply pw_below_drewN | apply below_drew1)⟩
  · have g1 : decide (0 ≤ x) = true := decide_eq_true c1.1
    have g2 : decide (x < (m : Int)) = true := decide_eq_true (by have := T.me; omega)
    have j1 : (0 ≤ x) = True := eq_true c1.1
    have j2 : (x < (m : Int)) = True := eq_true (by have := T.me; omega)
    obtain ⟨hcl, hfz⟩ := T.at_ x c1.1 c1.2
    clear T c1 hfz
    go_enter Try.func20, Try.ntmps20
    go_wp2
    go_ret
    exact ⟨rfl, by repeat (first | exact Below.refl _ _ | apply below_alloc | apply pw_below_drewN | apply below_drew1)⟩
set_option maxHeartbeats 4000000 in
set_option maxRecDepth 100000 in
theorem rhold_calls (T : Rb w0 W r gh ch m most h) (x : Int) : Calls Try.prog 25 #[.pointer (some ⟨r, 0, none⟩), .int .i64 x] W fun e W' => e = .returned (.bool (holdR h most x)) ∧ Rb w0 W' r gh ch m most (holdH h most x) ∧ W.grownBy W' (some gh) := by
  have c0 := T.cell0
  have HT := Aside0.mk T
  have rng : x < 0 ∨ most < x ∨ (0 ≤ x ∧ x ≤ most) := by omega
  rcases rng with c1 | c1 | c1
  · have g1 : decide (x < 0) = true := decide_eq_true c1
    have hR : holdR h most x = false := by unfold holdR; simp; omega
    have hH : holdH h most x = h := by unfold holdH; rw [hR]; rfl
    rw [hR, hH]
    clear T c1
    go_enter Try.func25, Try.ntmps25
    go_wp2
    go_ret
    exact ⟨rfl, HT.out, grown_refl⟩
  · have g1 : decide (x < 0) = false := decide_eq_false (by have := T.m0; omega)
    have g2 : decide ((m : Int) ≤ x) = true := decide_eq_true (by have := T.me; omega)
    have hR : holdR h most x = false := by unfold holdR; simp; omega
    have hH : holdH h most x = h := by unfold holdH; rw [hR]; rfl
    rw [hR, hH]
    clear T c1
    go_enter Try.func25, Try.ntmps25
    go_wp2
    go_ret
    exact ⟨rfl, HT.out, grown_refl⟩
  · have g1 : decide (x < 0) = false := decide_eq_false (by omega)
    have g2 : decide ((m : Int) ≤ x) = false := decide_eq_false (by have := T.me; omega)
    have j1 : (0 ≤ x) = True := eq_true c1.1
    have j2 : (x < (m : Int)) = True := eq_true (by have := T.me; omega)
    obtain ⟨hcl, hfz⟩ := T.at_ x c1.1 c1.2
    cases hx : h x with
    | true =>
      have hR : holdR h most x = false := by unfold holdR; rw [hx]; simp
      have hH : holdH h most x = h := by unfold holdH; rw [hR]; rfl
      rw [hR, hH]
      rw [hx] at hcl
      clear T c1
      go_enter Try.func25, Try.ntmps25
      go_wp2
      go_ret
      exact ⟨rfl, HT.out, grown_refl⟩
    | false =>
      have hR : holdR h most x = true := by unfold holdR; rw [hx]; simp; omega
      have hH : holdH h most x = put1 h x true := by unfold holdH; rw [hR]; rfl
      rw [hR, hH]
      rw [hx] at hcl
      have HP := Aside0.mk (T.put x true c1.1 c1.2)
      clear T c1
      go_enter Try.func25, Try.ntmps25
      go_wp2_with (first | ((with_reducible refine gate_store (t := 4) (p := 30) rfl ?_); refine store_event (t := 4) (p := 30) (v := ?vo) (w1 := (W.setCell ⟨gh, x.toNat, none⟩ (.bool true))) ?hg ?ho ?hn ?hr ?_; (case ho => rfl); (case hg => rfl); (case hn => rfl); (case hr => first | (go_simp; done) | (go_simp; rfl)); intro w15 hw15; subst hw15))
      go_ret
      exact ⟨rfl, HP.out⟩
set_option maxHeartbeats 4000000 in
set_option maxRecDepth 100000 in
theorem rfree_calls (T : Rb w0 W r gh ch m most h) (x : Int) : Calls Try.prog 27 #[.pointer (some ⟨r, 0, none⟩), .int .i64 x] W fun e W' => e = .returned (.bool (h x)) ∧ Rb w0 W' r gh ch m most (put1 h x false) ∧ W.grownBy W' (some gh) := by
  have HT := Aside0.mk T
  cases hx : h x with
  | false =>
    have hH : put1 h x false = h := by funext y; unfold put1; split; (rename_i e; rw [e, hx]); rfl
    rw [hH]
    clear T
    go_enter Try.func27, Try.ntmps27
    go_wp2_with (first | (go_at_call 20; refine (rhas_calls HT.out x).mono ?_; rintro e W2 ⟨rfl, hb⟩; rw [hx]))
    go_ret
    exact ⟨rfl, HT.out.kept hb, grown_weak (grown_of_below hb)⟩
  | true =>
    have hd := T.dom x hx
    have j1 : (0 ≤ x) = True := eq_true hd.1
    have j2 : (x < (m : Int)) = True := eq_true (by have := T.me; omega)
    have HD := Aside0.mk hd
    clear T hd
    go_enter Try.func27, Try.ntmps27
    go_wp2_with (first
      | (go_at_call 20; refine (rhas_calls HT.out x).mono ?_; rintro e W2 ⟨rfl, hb⟩; rw [hx]; have T2 := Aside0.mk (HT.out.kept hb); have G2 := Aside0.mk (grown_of_below hb); clear hb; have c0 := T2.out.cell0; obtain ⟨hcl, hfz⟩ := T2.out.at_ x HD.out.1 HD.out.2; rw [hx] at hcl; have HP := Aside0.mk (T2.out.put x false HD.out.1 HD.out.2))
      | ((with_reducible refine gate_store (t := 4) (p := 14) rfl ?_); refine store_event (t := 4) (p := 14) (v := ?vo) (w1 := (W2.setCell ⟨gh, x.toNat, none⟩ (.bool false))) ?hg ?ho ?hn ?hr ?_; (case ho => rfl); (case hg => rfl); (case hn => rfl); (case hr => first | (go_simp; done) | (go_simp; rfl)); intro w15 hw15; subst hw15))
    go_ret
    exact ⟨rfl, HP.out.1, grown_trans (grown_weak G2.out) HP.out.2⟩
set_option maxHeartbeats 4000000 in
set_option maxRecDepth 100000 in
theorem rtake_calls (T : Rb w0 W r gh ch m most h) : Calls Try.prog 26 #[.pointer (some ⟨r, 0, none⟩)] W fun e W' => e = .returned (.tuple #[.int .i64 (takeA h most), .bool (takeB h most)]) ∧ Rb w0 W' r gh ch m most (takeH h most) ∧ W.grownBy W' (some gh) := by
  have HT := Aside0.mk T
  have M0 := Aside0.mk T.m0
  have ME := Aside0.mk T.me
  have hL0 : low h m 0 = takeL h most := by
    have : m = most.toNat + 1 := by have := T.me; have := T.m0; omega
    rw [this]; rfl
  have HL0 := Aside0.mk hL0
  clear hL0 T
  go_enter Try.func26, Try.ntmps26
  go_wp2
  go_loopg [4] m (fun kq v4 w' => ∃ i : Nat, v4 = .int .i64 (i : Int) ∧ Aside0 (i + kq = m) ∧ Aside0 (low h kq (i : Int) = takeL h most) ∧ Aside0 (Rb w0 w' r gh ch m most h) ∧ Aside0 (W.grownBy w' (some gh)))
  case atStart => exact ⟨0, rfl, ⟨by omega⟩, HL0, HT, ⟨grown_refl⟩⟩
  case round =>
    clear HT HL0
    obtain ⟨i, rfl, HI, HL, HT, HG⟩ := hrel
    have c0 := HT.out.cell0
    cases gk with
    | zero =>
      have d1 : decide ((i : Int) < (m : Int)) = false := decide_eq_false (by have := HI.out; omega)
      have d1n : decide (i < m) = false := decide_eq_false (by have := HI.out; omega)
      have eL : takeL h most = (i : Int) := HL.out.symm
      have eB : takeB h most = false := by unfold takeB; rw [eL]; exact decide_eq_false (by have := HI.out; have := ME.out; omega)
      have eA : takeA h most = 0 := by unfold takeA; rw [eB]; rfl
      have eH : takeH h most = h := by unfold takeH; rw [eB]; rfl
      go_wp2
      go_ret2
      exact ⟨by first | rfl | (rw [eA, eB]; rfl), by first | exact HT.out | (rw [eH]; exact HT.out), HG.out⟩
    | succ k1 =>
      have d1 : decide ((i : Int) < (m : Int)) = true := decide_eq_true (by have := HI.out; omega)
      have d1n : decide (i < m) = true := decide_eq_true (by have := HI.out; omega)
      have hM : (i : Int) ≤ most := by have := HI.out; have := ME.out; omega
      cases a : h (i : Int) with
      | true =>
        have eR : holdR h most (i : Int) = false := by unfold holdR; simp [a]
        have eH : holdH h most (i : Int) = h := by unfold holdH; rw [eR]; rfl
        have eL : low h k1 ((i + 1 : Nat) : Int) = takeL h most := by
          have := HL.out
          simp only [low, a, if_true] at this
          rw [← this]; rfl
        have d5 : IntKind.i64.wrap ((i : Int) + 1) = ((i + 1 : Nat) : Int) := by rw [IntKind.wrap_i64]; have := HI.out; have := M0.out; omega
        go_wp2_with (first
          | (go_at_call 25; refine (rhold_calls HT.out (i : Int)).mono ?_; rintro e W2 ⟨rfl, hT, hg⟩; rw [eR]; rw [eH] at hT; have T2 := Aside0.mk hT; have G2 := Aside0.mk (grown_trans HG.out hg); clear hT hg))
        go_roundg k1
        case measure => omega
        case rel => exact ⟨i + 1, by first | rfl | (simp; done), ⟨by have := HI.out; omega⟩, ⟨eL⟩, T2, G2⟩
      | false =>
        have eR : holdR h most (i : Int) = true := by unfold holdR; simp [a]; omega
        have eH : holdH h most (i : Int) = put1 h (i : Int) true := by unfold holdH; rw [eR]; rfl
        have eL : takeL h most = (i : Int) := by
          have := HL.out
          simp only [low, a] at this
          simpa using this.symm
        have eB : takeB h most = true := by unfold takeB; rw [eL]; exact decide_eq_true hM
        have eA : takeA h most = (i : Int) := by unfold takeA; rw [eB, eL]; rfl
        have eH2 : takeH h most = put1 h (i : Int) true := by unfold takeH; rw [eB, eL]; rfl
        go_wp2_with (first
          | (go_at_call 25; refine (rhold_calls HT.out (i : Int)).mono ?_; rintro e W2 ⟨rfl, hT, hg⟩; rw [eR]; rw [eH] at hT; have T2 := Aside0.mk hT; have G2 := Aside0.mk (grown_trans HG.out hg); clear hT hg))
        go_ret2
        exact ⟨by first | rfl | (rw [eA, eB]; rfl), by first | exact T2.out | (rw [eH2]; exact T2.out), G2.out⟩
set_option maxHeartbeats 4000000 in
set_option maxRecDepth 100000 in
theorem meant_calls (T : Rb w0 W r gh ch m most h) (k n : Int) : Calls Try.prog 19 #[.pointer (some ⟨r, 0, none⟩), .agg #[.int .i64 k, .int .i64 n]] W fun e W' => e = .returned (.tuple #[.int .i64 (doA h most k n), .bool (doB h most k n)]) ∧ Rb w0 W' r gh ch m most (doH h most k n) ∧ W.grownBy W' (some gh) := by
  have T0 := Aside0.mk (T.kept (below_alloc (Below.refl _ _) (Obj.cells #[.int .i64 k, .int .i64 n] 31)))
  have hu31 := Try.underlying31
  clear T
  by_cases k0 : k = 0
  · subst k0
    have e1 : doA h most 0 n = 0 := rfl
    have e2 : doB h most 0 n = holdR h most n := rfl
    have e3 : doH h most 0 n = holdH h most n := rfl
    rw [e1, e2, e3]
    go_enter Try.func19, Try.ntmps19
    go_wp2_with (first | (go_at_call 25; refine (rhold_calls T0.out n).mono ?_; rintro e W1 ⟨rfl, hT, hg⟩; have T2 := Aside0.mk hT; have G2 := Aside0.mk hg; clear hT hg))
    all_goals (go_ret2; exact ⟨rfl, T2.out, grown_alloc G2.out⟩)
  by_cases k1 : k = 1
  · subst k1
    have e1 : doA h most 1 n = takeA h most := rfl
    have e2 : doB h most 1 n = takeB h most := rfl
    have e3 : doH h most 1 n = takeH h most := rfl
    rw [e1, e2, e3]
    go_enter Try.func19, Try.ntmps19
    go_wp2_with (first | (go_at_call 26; refine (rtake_calls T0.out).mono ?_; rintro e W1 ⟨rfl, hT, hg⟩; have T2 := Aside0.mk hT; have G2 := Aside0.mk hg; clear hT hg))
    all_goals (go_ret2; exact ⟨rfl, T2.out, grown_alloc G2.out⟩)
  by_cases k2 : k = 2
  · subst k2
    have e1 : doA h most 2 n = 0 := rfl
    have e2 : doB h most 2 n = h n := rfl
    have e3 : doH h most 2 n = put1 h n false := rfl
    rw [e1, e2, e3]
    go_enter Try.func19, Try.ntmps19
    go_wp2_with (first | (go_at_call 27; refine (rfree_calls T0.out n).mono ?_; rintro e W1 ⟨rfl, hT, hg⟩; have T2 := Aside0.mk hT; have G2 := Aside0.mk hg; clear hT hg))
    all_goals (go_ret2; exact ⟨rfl, T2.out, grown_alloc G2.out⟩)
  · have e1 : doA h most k n = 0 := by unfold doA; rw [if_neg k1]
    have e2 : doB h most k n = true := by unfold doB; rw [if_neg k0, if_neg k1, if_neg k2]
    have e3 : doH h most k n = h := by unfold doH; rw [if_neg k0, if_neg k1, if_neg k2]
    rw [e1, e2, e3]
    have b0 : (k == 0) = false := beq_eq_false_iff_ne.mpr k0
    have b1 : (k == 1) = false := beq_eq_false_iff_ne.mpr k1
    have b2 : (k == 2) = false := beq_eq_false_iff_ne.mpr k2
    go_enter Try.func19, Try.ntmps19
    go_wp2
    all_goals (go_ret2; exact ⟨rfl, T0.out, grown_weak (grown_of_below (below_alloc (Below.refl _ _) _))⟩)
set_option maxHeartbeats 4000000 in
set_option maxRecDepth 100000 in
theorem rnew_calls (n : Int) (h0 : 0 ≤ n) (h1 : n ≤ 65535) (hB : Below w0.heap.size w0 W) : Calls Try.prog 18 #[.int .i64 n] W fun e W' => ∃ r gh ch, e = .returned (.tuple #[.pointer (some ⟨r, 0, none⟩), .int .i64 0]) ∧ Rb w0 W' r gh ch (n.toNat + 1) n (fun _ => false) ∧ Below W.heap.size W W' ∧ W.heap.size ≤ r ∧ W.heap.size ≤ gh := by
  have a1 : decide (n < 0) = false := decide_eq_false (by omega)
  have a2 : decide (65536 ≤ n) = false := decide_eq_false (by omega)
  have hw2 : IntKind.i64.wrap (n + 1) = n + 1 := by rw [IntKind.wrap_i64]; omega
  have HN := Aside0.mk (show 0 ≤ n ∧ n ≤ 65535 from ⟨h0, h1⟩)
  have HS := Aside0.mk hB.size
  have hz : (0 ≤ n + 1) = True := eq_true (by omega)
  clear h0 h1 hB
  go_enter Try.func18, Try.ntmps18
  go_wp2_with (first
    | ((with_reducible refine gate_dst (N := 12) rfl ?_); refine Kd.R_make Kd.bool _ 4 rfl (N := 12) rfl 45 _ _ rfl (n + 1) rfl rfl Try.underlying45 (.bool false) 1 info4 rfl (by decide) (by omega) false (ok := fun _ => True) (okp := fun _ => True) rfl (fun _ hk => hk) trivial (by have := HN.out; omega) (by have := HN.out; omega) (Below.refl _ _) (Nat.le_refl _) ?_; intro v7 W5 ho6 hb hg_ hnew_; have ho7 : Kd.R Kd.bool 4 W5 W.heap.size (fun _ => True) v7 (heldB (fun _ => false) (n.toNat + 1)) := (by rw [heldB_none]; have e : (n + 1).toNat = n.toNat + 1 := (by have := HN.out; omega); rw [e] at ho6; exact ho6); clear hg_ hnew_ ho6; obtain ⟨gh, ch, ea, hgb, hgl, hgc⟩ := Kd.R_form ho7 (by rw [heldB_length]; omega); rw [heldB_length] at ea; subst ea))
  go_ret2
  refine ⟨W5.heap.size, gh, ch, rfl, ⟨heap_alloc_new _ _, ?_, Kd.R_alloc (Kd.R_lower ho7 HS.out) _, ?_, ?_, HN.out, fun x hx => by cases hx⟩, below_alloc hb _, hb.size, hgb⟩
  · have := hb.size; have := HS.out; omega
  · omega
  · have := HN.out; omega
set_option maxHeartbeats 4000000 in
set_option maxRecDepth 100000 in
theorem rnew_none (n : Int) (h0 : ¬ (0 ≤ n ∧ n ≤ 65535)) : Calls Try.prog 18 #[.int .i64 n] W fun e W' => e = .returned (.tuple #[.pointer none, .int .i64 1]) ∧ Below W.heap.size W W' := by
  by_cases a : n < 0
  · have a1 : decide (n < 0) = true := decide_eq_true a
    go_enter Try.func18, Try.ntmps18
    go_wp2
    go_ret2
    exact ⟨rfl, Below.refl _ _⟩
  · have a1 : decide (n < 0) = false := decide_eq_false a
    have a2 : decide (65536 ≤ n) = true := decide_eq_true (by omega)
    go_enter Try.func18, Try.ntmps18
    go_wp2
    go_ret2
    exact ⟨rfl, Below.refl _ _⟩
end Go.Proofs.Ytidflacmiigbmaa.Tab
