/- The walk of TableAll: All tells just what is held, rising, and Count how many; for all inputs (of more than 300 steps: that the anchor holds). No condition of our own. -/
import Derived.Test.YtidflacmiigbmaaTabSteps
import Derived.Deep.RegionHeld3
namespace Go.Proofs.Ytidflacmiigbmaa.Tab
open Go.RowKit Go.Maps Go.Proofs.YtidflacmiigbmaaW.PrintWords Go.Proofs.YtidflacmiigbmaaW.PrintMore
set_option linter.unusedVariables false
theorem ub8 {a : Int} (h : (Lit.int .u8 a).wf = true) : 0 ≤ a ∧ a < 256 := by
  simp [Lit.wf, IntKind.min, IntKind.max, IntKind.bits, IntKind.signed] at h
  omega
set_option maxHeartbeats 16000000 in
set_option maxRecDepth 100000 in
theorem TableAll_walk (n : Int) (A : Option Addr) (c : Nat) (l : List Step) (W : World) (hn : (Lit.int .u8 n).wf = true) (hm : l.length ≤ maxLen) (hr : Kd.C kStep W A l.length l) (hc : l.length ≤ c) (hg : ∀ s ∈ l, (fun x : Step => (Lit.int .i64 x.k).wf = true ∧ (Lit.int .i64 x.n).wf = true) s) :
    Calls Try.prog 3 #[.int .u8 n, .slice A l.length c] W fun e W' => e = .returned (.bool true) ∧ Below W.heap.size W W' := by
  have hn' := ub8 hn
  have hw : wrap64 n = n := by unfold wrap64; omega
  have C0 := Aside0.mk (fun W1 (hB : Below W.heap.size W W1) => new_calls (w0 := W) (W := W1) n hn'.1 (by omega) hB)
  have HS := Aside0.mk (Below.refl W.heap.size W)
  have HR := Aside0.mk hr
  have HG := Aside0.mk hg
  have HN := Aside0.mk hn'
  have hu31 := Try.underlying31
  by_cases big : 300 < (l.length : Int)
  · have b1 : decide (300 < (l.length : Int)) = true := decide_eq_true big
    have b2 : decide (300 < l.length) = true := decide_eq_true (by omega)
    clear hn hn' hr hg hm big
    go_enter Try.func3, Try.ntmps3
    go_wp2_with (first
      | (go_at_call 8; refine (works_calls _).mono ?_; rintro e W3 ⟨rfl, hb⟩))
    all_goals (go_ret; exact ⟨rfl, hb⟩)
  have b1 : decide (300 < (l.length : Int)) = false := decide_eq_false big
  have b2 : decide (300 < l.length) = false := decide_eq_false (by omega)
  have HL := Aside0.mk (show l.length ≤ 300 by omega)
  clear hn hn' hr hg hm big
  go_enter Try.func3, Try.ntmps3
  go_wp2_with (first
    | (go_at_call 9; refine (C0.out _ HS.out).mono ?_; rintro e W2 ⟨g, bm, rfl, hT, hb, _⟩; have T0 := Aside0.mk hT; clear hT hb))
  go_loopg [7] l.length (fun kq v7 w' => ∃ (i : Nat) (h : Int → Bool), v7 = .int .i64 (i : Int) ∧ Aside0 (i + kq = l.length) ∧ Aside0 (Tb W w' g bm n h i))
  case atStart => exact ⟨0, _, rfl, ⟨by omega⟩, T0⟩
  case round =>
    clear T0 HS C0
    obtain ⟨i, h, rfl, HI, T⟩ := hrel
    cases gk with
    | succ k1 =>
      have d1 : decide ((i : Int) < (l.length : Int)) = true := decide_eq_true (by have := HI.out; omega)
      have d1n : decide (i < l.length) = true := decide_eq_true (by have := HI.out; omega)
      have hi : i < l.length := by have := HI.out; omega
      have HW := Aside0.mk (rdS_wf l HG.out i hi)
      obtain ⟨ad, eA, hx0, hx1⟩ := at_step (Kd.C_below HR.out T.out.bel) (i : Int) (by omega) (by omega)
      subst eA
      have p1 : (0 ≤ (i : Int)) = True := eq_true (by omega)
      have p2 : ((i : Int) < (l.length : Int)) = True := eq_true (by omega)
      have p3 : (i < l.length) = True := eq_true hi
      rw [Int.toNat_natCast] at hx0 hx1
      have d5 : IntKind.i64.wrap ((i : Int) + 1) = ((i + 1 : Nat) : Int) := by rw [IntKind.wrap_i64]; have := HL.out; omega
      clear hi
      go_wp2_with (first
        | (go_at_call 10; refine (do_calls T.out _ _ HW.out.2 (by have := HI.out; have := HL.out; omega)).mono ?_; rintro e W1 ⟨rfl, hT, _⟩; have T1 := Aside0.mk hT; clear hT))
      go_roundg k1
      case measure => omega
      case rel => exact ⟨i + 1, _, by first | rfl | (simp; done), ⟨by have := HI.out; omega⟩, T1⟩
    | zero =>
      have d1 : decide ((i : Int) < (l.length : Int)) = false := decide_eq_false (by have := HI.out; omega)
      have d1n : decide (i < l.length) = false := decide_eq_false (by have := HI.out; omega)
      have TN := Aside0.mk (T.out.more (M := 300) (by have := HI.out; have := HL.out; omega))
      clear T
      go_wp2_with (first
        | (go_at_call 11; refine (all_calls TN.out (by decide)).mono ?_; rintro e W3 ⟨v, rfl, hR, hb⟩; have T := Aside0.mk (TN.out.kept hb); obtain ⟨A3, c3, e3⟩ := Kd.R_slice hR; subst e3; have HO := Aside0.mk hR; clear hR))
      generalize hks : heldL h n = ks at HO ⊢
      have HK := Aside0.mk hks
      have HB := Aside0.mk hb
      have hlk : ks.length ≤ 256 := by
        have := held_frees h n HN.out.1
        rw [hks] at this
        have := HN.out
        omega
      have HLK := Aside0.mk hlk
      obtain ⟨B, hB⟩ : ∃ B, B = wr.heap.size := ⟨_, rfl⟩
      rw [← hB] at HO
      have HBG := Aside0.mk (show g < B ∧ bm < B ∧ W.heap.size ≤ B by rw [hB]; exact ⟨TN.out.lt, TN.out.ltm, TN.out.bel.size⟩)
      clear hks hb hlk hB TN HB
      go_loopg [9] ks.length (fun kq v9 w' => ∃ (j : Nat), v9 = .int .i64 (j : Int) ∧ Aside0 (j + kq = ks.length) ∧ Aside0 (Kd.R (Kd.int .i64) 3 w' B (fun _ => True) (.slice A3 ks.length c3) (List.replicate j (-7) ++ ks.drop j)) ∧ Aside0 (Tb W w' g bm n h 300))
      case atStart => exact ⟨0, rfl, ⟨by omega⟩, ⟨by simpa using HO.out⟩, T⟩
      case round =>
        clear T HO
        obtain ⟨j, rfl, HJ, HO, T⟩ := hrel
        cases gk with
        | succ k1 =>
          have hj : j < ks.length := by have := HJ.out; omega
          obtain ⟨xs, hxs⟩ : ∃ xs : List Int, xs = List.replicate j (-7) ++ ks.drop j := ⟨_, rfl⟩
          rw [← hxs] at HO
          have hxl : xs.length = ks.length := by rw [hxs]; simp; omega
          have hx : rdOf (0 : Int) xs (j : Int) = ks[j] := by
            unfold rdOf
            rw [Int.toNat_natCast, List.getD_eq_getElem?_getD, hxs, List.getElem?_append_right (by simp), List.length_replicate, Nat.sub_self, List.getElem?_drop, Nat.add_zero, List.getElem?_eq_getElem hj]; rfl
          have hset : Aside0 (xs.set j (-7) = List.replicate (j + 1) (-7) ++ ks.drop (j + 1)) := ⟨by
            rw [hxs]
            apply List.ext_getElem?
            intro q
            rcases Nat.lt_trichotomy q j with z | z | z
            · rw [List.getElem?_set_ne (by omega), List.getElem?_append_left (by simp; omega), List.getElem?_append_left (by simp; omega), List.getElem?_replicate_of_lt (by omega), List.getElem?_replicate_of_lt (by omega)]
            · subst z
              rw [List.getElem?_set_self (by simp; omega), List.getElem?_append_left (by simp), List.getElem?_replicate_of_lt (by omega)]
            · rw [List.getElem?_set_ne (by omega), List.getElem?_append_right (by simp; omega), List.getElem?_append_right (by simp; omega), List.getElem?_drop, List.getElem?_drop]
              simp only [List.length_replicate]
              congr 1; omega⟩
          have hmem : h ks[j] = true := (mem_heldL T.out.dom ks[j]).1 (by rw [HK.out]; exact List.getElem_mem hj)
          have hrng := T.out.dom _ hmem
          obtain ⟨ga, ca, ea, hgb, hgl, cl, hgc⟩ := Kd.R_form HO.out (by omega)
          injection ea with ea1 en ec
          subst ea1
          subst ec
          obtain ⟨hcell, hfr⟩ := Kd.R_celln (0 : Int) HO.out (j : Int) (by omega) (by omega)
          rw [Int.toNat_natCast, hx] at hcell
          have hlast : 0 < j → wr.cell? ⟨ga, j - 1, none⟩ = some (.int .i64 (-7)) := by
            intro hp
            obtain ⟨hc2, _⟩ := Kd.R_celln (0 : Int) HO.out ((j - 1 : Nat) : Int) (by omega) (by omega)
            rw [Int.toNat_natCast] at hc2
            have e7 : rdOf (0 : Int) xs ((j - 1 : Nat) : Int) = -7 := by
              unfold rdOf
              rw [Int.toNat_natCast, List.getD_eq_getElem?_getD, hxs, List.getElem?_append_left (by simp; omega), List.getElem?_replicate_of_lt (by omega)]; rfl
            rw [e7] at hc2
            exact hc2
          generalize ks[j] = x at hcell hmem hrng hx
          have HM := Aside0.mk hmem
          have HX := Aside0.mk (show (Lit.int .i64 x).wf = true from wf_of (by have := hrng.1; omega) (by have := hrng.2; have := HN.out; omega))
          have HGA := Aside0.mk (show B ≤ ga from hgb)
          have TD := Aside0.mk (T.out.kept (below_drew1 (Below.refl _ _)))
          have OD := Aside0.mk (Kd.R_drew HO.out)
          have hglt : (⟨ga, j, none⟩ : Addr).block < wr.drew.heap.size := hgl
          have hglt2 : (⟨ga, j - 1, none⟩ : Addr).block < wr.drew.heap.size := hgl
          have d1 : decide ((j : Int) < (ks.length : Int)) = true := decide_eq_true (by omega)
          have d1n : decide (j < ks.length) = true := decide_eq_true hj
          have p1 : (0 ≤ (j : Int)) = True := eq_true (by omega)
          have p2 : ((j : Int) < (ks.length : Int)) = True := eq_true (by omega)
          have p3 : (j < ks.length) = True := eq_true hj
          have d3 : decide (n < x) = false := decide_eq_false (by have := hrng.2; omega)
          have d3b : decide (IntKind.i64.wrap n < x) = false := by rw [IntKind.wrap_i64]; exact decide_eq_false (by have := hrng.2; have := HN.out; omega)
          have d4 : decide (x ≤ -7) = false := decide_eq_false (by have := hrng.1; omega)
          have d5 : IntKind.i64.wrap ((j : Int) + 1) = ((j + 1 : Nat) : Int) := by rw [IntKind.wrap_i64]; have := HLK.out; omega
          clear hgc hgb en hx hxl hrng hmem hfr
          rcases Nat.eq_zero_or_pos j with j0 | jp
          · have g1 : decide (0 < (j : Int)) = false := decide_eq_false (by omega)
            have g2 : decide (0 < j) = false := decide_eq_false (by omega)
            clear hlast hglt2 j0
            go_wp2
            refine wp_region_noPanic ?_
            refine wp_region_held_drew (S := (fun w' => w'.cell? ⟨ga, j, none⟩ = some (.int .i64 x))) (by kernel_rfl) ?_ (fun hHeld => ?_)
            · go_keep
            refine wpAnyH_take (i := 0) (oi := ⟨some 48, _, _, _, _, _⟩) (v := ?v0) rfl (by kernel_rfl) (by kernel_rfl) (by kernel_rfl) (fun _ _ _ h => h) (Or.inl ⟨by rfl, ?hy0⟩) (by assumption) ?rest0
            case hy0 => (intro w hSw; (try dsimp only at hSw); go_simp; (try (with_reducible rfl)))
            try simp only [Act.put, List.setIfInBounds_toArray, List.set_cons_zero, List.set_cons_succ]
            refine wpAnyH_take (i := 1) (oi := ⟨some 49, _, _, _, _, _⟩) (v := ?v1) rfl (by kernel_rfl) (by kernel_rfl) (by kernel_rfl) (fun _ _ _ h => h) (Or.inl ⟨by rfl, ?hy1⟩) (by assumption) ?rest1
            case hy1 => (intro w hSw; (try dsimp only at hSw); go_simp; (try (with_reducible rfl)))
            try simp only [Act.put, List.setIfInBounds_toArray, List.set_cons_zero, List.set_cons_succ]
            refine wpAnyH_take (i := 2) (oi := ⟨some 50, _, _, _, _, _⟩) (v := ?v2) rfl (by kernel_rfl) (by kernel_rfl) (by kernel_rfl) (fun _ _ _ h => h) (Or.inl ⟨by rfl, ?hy2⟩) (by assumption) ?rest2
            case hy2 => (intro w hSw; (try dsimp only at hSw); go_simp; (try (with_reducible rfl)))
            try simp only [Act.put, List.setIfInBounds_toArray, List.set_cons_zero, List.set_cons_succ]
            refine wpAnyH_take (i := 3) (oi := ⟨some 51, _, _, _, _, _⟩) (v := ?v3) rfl (by kernel_rfl) (by kernel_rfl) (by kernel_rfl) (fun _ _ _ h => h) (Or.inl ⟨by rfl, ?hy3⟩) (by assumption) ?rest3
            case hy3 => (intro w hSw; (try dsimp only at hSw); go_simp; (try (with_reducible rfl)))
            try simp only [Act.put, List.setIfInBounds_toArray, List.set_cons_zero, List.set_cons_succ]
            refine wpAnyH_take (i := 4) (oi := ⟨some 52, _, _, _, _, _⟩) (v := ?v4) rfl (by kernel_rfl) (by kernel_rfl) (by kernel_rfl) (fun _ _ _ h => h) (Or.inl ⟨by rfl, ?hy4⟩) (by assumption) ?rest4
            case hy4 => (intro w hSw; (try dsimp only at hSw); go_simp; (try (with_reducible rfl)))
            try simp only [Act.put, List.setIfInBounds_toArray, List.set_cons_zero, List.set_cons_succ]
            refine wpAnyH_ready (rs := [5]) (by kernel_rfl) (by simp) ?_
            refine AllReadyH.cons rfl (fun K hK => ?_) AllReadyH.nil
            go_simp
            (go_at_call 12; refine (has_calls TD.out x HX.out).mono ?_; rintro e W5 ⟨rfl, hb⟩; rw [HM.out]; have hS5 : W5.cell? ⟨ga, j, none⟩ = some (.int .i64 x) := (hb.cell hglt).trans hcell)
            go_wp2_with fail
            refine hK.out _ _ ?_ (fun hHeld2 => ?_)
            · exact hS5
            clear hK K hHeld
            try simp only [Act.put, List.setIfInBounds_toArray, List.set_cons_zero, List.set_cons_succ]
            refine wpAnyH_take (i := 6) (oi := ⟨some 54, _, _, _, _, _⟩) (v := ?v6) rfl (by kernel_rfl) (by kernel_rfl) (by kernel_rfl) (fun _ _ _ h => h) (Or.inl ⟨by rfl, ?hy6⟩) (by assumption) ?rest6
            case hy6 => (intro w hSw; (try dsimp only at hSw); go_simp; (try (with_reducible rfl)))
            try simp only [Act.put, List.setIfInBounds_toArray, List.set_cons_zero, List.set_cons_succ]
            refine wpAnyH_take (i := 7) (oi := ⟨some 55, _, _, _, _, _⟩) (v := ?v7) rfl (by kernel_rfl) (by kernel_rfl) (by kernel_rfl) (fun _ _ _ h => h) (Or.inl ⟨by rfl, ?hy7⟩) (by assumption) ?rest7
            case hy7 => (intro w hSw; (try dsimp only at hSw); go_simp; (try (with_reducible rfl)))
            try simp only [Act.put, List.setIfInBounds_toArray, List.set_cons_zero, List.set_cons_succ]
            refine wpAnyH_take (i := 8) (oi := ⟨some 56, _, _, _, _, _⟩) (v := ?v8) rfl (by kernel_rfl) (by kernel_rfl) (by kernel_rfl) (fun _ _ _ h => h) (Or.inl ⟨by rfl, ?hy8⟩) (by assumption) ?rest8
            case hy8 => (intro w hSw; (try dsimp only at hSw); go_simp; (try (with_reducible rfl)))
            try simp only [Act.put, List.setIfInBounds_toArray, List.set_cons_zero, List.set_cons_succ]
            refine wpAnyH_take (i := 9) (oi := ⟨some 57, _, _, _, _, _⟩) (v := ?v9) rfl (by kernel_rfl) (by kernel_rfl) (by kernel_rfl) (fun _ _ _ h => h) (Or.inl ⟨by rfl, ?hy9⟩) (by assumption) ?rest9
            case hy9 => (intro w hSw; (try dsimp only at hSw); go_simp; (try (with_reducible rfl)))
            try simp only [Act.put, List.setIfInBounds_toArray, List.set_cons_zero, List.set_cons_succ]
            refine wpAnyH_take (i := 10) (oi := ⟨some 58, _, _, _, _, _⟩) (v := ?v10) rfl (by kernel_rfl) (by kernel_rfl) (by kernel_rfl) (fun _ _ _ h => h) (Or.inl ⟨by rfl, ?hy10⟩) (by assumption) ?rest10
            case hy10 => (intro w hSw; (try dsimp only at hSw); go_simp; (try (with_reducible rfl)))
            try simp only [Act.put, List.setIfInBounds_toArray, List.set_cons_zero, List.set_cons_succ]
            refine wpAnyH_take (i := 11) (oi := ⟨some 59, _, _, _, _, _⟩) (v := undef) rfl (by kernel_rfl) (by kernel_rfl) (by kernel_rfl) (fun _ _ _ h => h) (Or.inr ⟨by kernel_rfl, rfl⟩) (by assumption) ?_
            try simp only [Act.put, List.setIfInBounds_toArray, List.set_cons_zero, List.set_cons_succ]
            refine wpAnyH_take (i := 12) (oi := ⟨some 60, _, _, _, _, _⟩) (v := undef) rfl (by kernel_rfl) (by kernel_rfl) (by kernel_rfl) (fun _ _ _ h => h) (Or.inr ⟨by kernel_rfl, rfl⟩) (by assumption) ?_
            try simp only [Act.put, List.setIfInBounds_toArray, List.set_cons_zero, List.set_cons_succ]
            refine wpAnyH_take (i := 13) (oi := ⟨some 61, _, _, _, _, _⟩) (v := undef) rfl (by kernel_rfl) (by kernel_rfl) (by kernel_rfl) (fun _ _ _ h => h) (Or.inr ⟨by kernel_rfl, rfl⟩) (by assumption) ?_
            try simp only [Act.put, List.setIfInBounds_toArray, List.set_cons_zero, List.set_cons_succ]
            refine wpAnyH_take (i := 16) (oi := ⟨some 64, _, _, _, _, _⟩) (v := undef) rfl (by kernel_rfl) (by kernel_rfl) (by kernel_rfl) (fun _ _ _ h => h) (Or.inr ⟨by kernel_rfl, rfl⟩) (by assumption) ?_
            try simp only [Act.put, List.setIfInBounds_toArray, List.set_cons_zero, List.set_cons_succ]
            refine wpAnyH_take (i := 17) (oi := ⟨some 65, _, _, _, _, _⟩) (v := undef) rfl (by kernel_rfl) (by kernel_rfl) (by kernel_rfl) (fun _ _ _ h => h) (Or.inr ⟨by kernel_rfl, rfl⟩) (by assumption) ?_
            try simp only [Act.put, List.setIfInBounds_toArray, List.set_cons_zero, List.set_cons_succ]
            refine wpAnyH_take (i := 18) (oi := ⟨some 66, _, _, _, _, _⟩) (v := undef) rfl (by kernel_rfl) (by kernel_rfl) (by kernel_rfl) (fun _ _ _ h => h) (Or.inr ⟨by kernel_rfl, rfl⟩) (by assumption) ?_
            try simp only [Act.put, List.setIfInBounds_toArray, List.set_cons_zero, List.set_cons_succ]
            refine wpAnyH_take (i := 19) (oi := ⟨some 67, _, _, _, _, _⟩) (v := undef) rfl (by kernel_rfl) (by kernel_rfl) (by kernel_rfl) (fun _ _ _ h => h) (Or.inr ⟨by kernel_rfl, rfl⟩) (by assumption) ?_
            try simp only [Act.put, List.setIfInBounds_toArray, List.set_cons_zero, List.set_cons_succ]
            refine wpAnyH_take (i := 14) (oi := ⟨some 62, _, _, _, _, _⟩) (v := undef) rfl (by kernel_rfl) (by kernel_rfl) (by kernel_rfl) (fun _ _ _ h => h) (Or.inr ⟨by kernel_rfl, rfl⟩) (by assumption) ?_
            try simp only [Act.put, List.setIfInBounds_toArray, List.set_cons_zero, List.set_cons_succ]
            refine wpAnyH_take (i := 15) (oi := ⟨some 63, _, _, _, _, _⟩) (v := undef) rfl (by kernel_rfl) (by kernel_rfl) (by kernel_rfl) (fun _ _ _ h => h) (Or.inr ⟨by kernel_rfl, rfl⟩) (by assumption) ?_
            try simp only [Act.put, List.setIfInBounds_toArray, List.set_cons_zero, List.set_cons_succ]
            refine wpAnyH_take (i := 20) (oi := ⟨some 68, _, _, _, _, _⟩) (v := undef) rfl (by kernel_rfl) (by kernel_rfl) (by kernel_rfl) (fun _ _ _ h => h) (Or.inr ⟨by kernel_rfl, rfl⟩) (by assumption) ?_
            try simp only [Act.put, List.setIfInBounds_toArray, List.set_cons_zero, List.set_cons_succ]
            refine wpAnyH_take (i := 21) (oi := ⟨some 69, _, _, _, _, _⟩) (v := ?v21) rfl (by kernel_rfl) (by kernel_rfl) (by kernel_rfl) (fun _ _ _ h => h) (Or.inl ⟨by rfl, ?hy21⟩) (by assumption) ?rest21
            case hy21 => (intro w hSw; (try dsimp only at hSw); go_simp; (try (with_reducible rfl)))
            try simp only [Act.put, List.setIfInBounds_toArray, List.set_cons_zero, List.set_cons_succ]
            refine wpAnyH_take (i := 22) (oi := ⟨some 70, _, _, _, _, _⟩) (v := ?v22) rfl (by kernel_rfl) (by kernel_rfl) (by kernel_rfl) (fun _ _ _ h => h) (Or.inl ⟨by rfl, ?hy22⟩) (by assumption) ?rest22
            case hy22 => (intro w hSw; (try dsimp only at hSw); go_simp; (try (with_reducible rfl)))
            try simp only [Act.put, List.setIfInBounds_toArray, List.set_cons_zero, List.set_cons_succ]
            refine wpAnyH_take (i := 23) (oi := ⟨some 71, _, _, _, _, _⟩) (v := ?v23) rfl (by kernel_rfl) (by kernel_rfl) (by kernel_rfl) (fun _ _ _ h => h) (Or.inl ⟨by rfl, ?hy23⟩) (by assumption) ?rest23
            case hy23 => (intro w hSw; (try dsimp only at hSw); go_simp; (try (with_reducible rfl)))
            try simp only [Act.put, List.setIfInBounds_toArray, List.set_cons_zero, List.set_cons_succ]
            refine wpAnyH_take (i := 24) (oi := ⟨some 72, _, _, _, _, _⟩) (v := ?v24) rfl (by kernel_rfl) (by kernel_rfl) (by kernel_rfl) (fun _ _ _ h => h) (Or.inl ⟨by rfl, ?hy24⟩) (by assumption) ?rest24
            case hy24 => (intro w hSw; (try dsimp only at hSw); go_simp; (try (with_reducible rfl)))
            try simp only [Act.put, List.setIfInBounds_toArray, List.set_cons_zero, List.set_cons_succ]
            refine wpAnyH_take (i := 25) (oi := ⟨some 73, _, _, _, _, _⟩) (v := ?v25) rfl (by kernel_rfl) (by kernel_rfl) (by kernel_rfl) (fun _ _ _ h => h) (Or.inl ⟨by rfl, ?hy25⟩) (by assumption) ?rest25
            case hy25 => (intro w hSw; (try dsimp only at hSw); go_simp; (try (with_reducible rfl)))
            try simp only [Act.put, List.setIfInBounds_toArray, List.set_cons_zero, List.set_cons_succ]
            refine wpAnyH_take (i := 26) (oi := ⟨some 74, _, _, _, _, _⟩) (v := ?v26) rfl (by kernel_rfl) (by kernel_rfl) (by kernel_rfl) (fun _ _ _ h => h) (Or.inl ⟨by rfl, ?hy26⟩) (by assumption) ?rest26
            case hy26 => (intro w hSw; (try dsimp only at hSw); go_simp; (try (with_reducible rfl)))
            try simp only [Act.put, List.setIfInBounds_toArray, List.set_cons_zero, List.set_cons_succ]
            refine wpAnyH_take (i := 27) (oi := ⟨some 75, _, _, _, _, _⟩) (v := ?v27) rfl (by kernel_rfl) (by kernel_rfl) (by kernel_rfl) (fun _ _ _ h => h) (Or.inl ⟨by rfl, ?hy27⟩) (by assumption) ?rest27
            case hy27 => (intro w hSw; (try dsimp only at hSw); go_simp; (try (with_reducible rfl)))
            try simp only [Act.put, List.setIfInBounds_toArray, List.set_cons_zero, List.set_cons_succ]
            refine wpAnyH_take (i := 28) (oi := ⟨some 76, _, _, _, _, _⟩) (v := ?v28) rfl (by kernel_rfl) (by kernel_rfl) (by kernel_rfl) (fun _ _ _ h => h) (Or.inl ⟨by rfl, ?hy28⟩) (by assumption) ?rest28
            case hy28 => (intro w hSw; (try dsimp only at hSw); go_simp; (try (with_reducible rfl)))
            try simp only [Act.put, List.setIfInBounds_toArray, List.set_cons_zero, List.set_cons_succ]
            refine wpAnyH_take (i := 29) (oi := ⟨some 77, _, _, _, _, _⟩) (v := ?v29) rfl (by kernel_rfl) (by kernel_rfl) (by kernel_rfl) (fun _ _ _ h => h) (Or.inl ⟨by rfl, ?hy29⟩) (by assumption) ?rest29
            case hy29 => (intro w hSw; (try dsimp only at hSw); go_simp; (try (with_reducible rfl)))
            try simp only [Act.put, List.setIfInBounds_toArray, List.set_cons_zero, List.set_cons_succ]
            refine wpAnyH_take (i := 30) (oi := ⟨some 78, _, _, _, _, _⟩) (v := ?v30) rfl (by kernel_rfl) (by kernel_rfl) (by kernel_rfl) (fun _ _ _ h => h) (Or.inl ⟨by rfl, ?hy30⟩) (by assumption) ?rest30
            case hy30 => (intro w hSw; (try dsimp only at hSw); go_simp; (try (with_reducible rfl)))
            try simp only [Act.put, List.setIfInBounds_toArray, List.set_cons_zero, List.set_cons_succ]
            refine wpAnyH_take (i := 31) (oi := ⟨some 79, _, _, _, _, _⟩) (v := ?v31) rfl (by kernel_rfl) (by kernel_rfl) (by kernel_rfl) (fun _ _ _ h => h) (Or.inl ⟨by rfl, ?hy31⟩) (by assumption) ?rest31
            case hy31 => (intro w hSw; (try dsimp only at hSw); go_simp; (try (with_reducible rfl)))
            try simp only [Act.put, List.setIfInBounds_toArray, List.set_cons_zero, List.set_cons_succ]
            refine wpAnyH_done (by kernel_rfl) ?_ _
            refine NoPanic.normal ?_
            have O5 := Kd.R_below OD.out hb
            have T5 := Aside0.mk (TD.out.kept hb)
            have HP := Kd.R_putg O5 ((j : Nat) : Int) (-7)
            obtain ⟨hc5, hf5⟩ := Kd.R_celln (0 : Int) O5 ((j : Nat) : Int) (by omega) (by omega)
            rw [Int.toNat_natCast] at HP hc5 hf5
            have HP1 := Aside0.mk (show Kd.R (Kd.int .i64) 3 (W5.setCell ⟨ga, j, none⟩ (.int .i64 (-7))) B (fun _ => True) (.slice (some ⟨ga, 0, none⟩) ks.length c3) (List.replicate (j + 1) (-7) ++ ks.drop (j + 1)) from hset.out ▸ HP.1)
            have HP2 := Aside0.mk (T5.out.grown HP.2 (fun e => by have := HBG.out.1; have := HGA.out; have := Option.some.inj e; omega) (fun e => by have := HBG.out.2.1; have := HGA.out; have := Option.some.inj e; omega) (fun k e => by have := HBG.out.2.2; have := HGA.out; have := Option.some.inj e; omega))
            clear HP O5 hcell hb
            go_wp2_with (first | ((with_reducible refine gate_store (t := 3) (p := 82) rfl ?_); refine store_event (t := 3) (p := 82) (v := ?vo) (w1 := (W5.setCell ⟨ga, j, none⟩ (.int .i64 (-7)))) ?hg ?ho ?hn ?hr ?_; (case ho => rfl); (case hg => rfl); (case hn => rfl); (case hr => first | (go_simp; done) | (go_simp; rfl)); intro w15 hw; subst hw))
            go_roundg k1
            case measure => omega
            case rel => exact ⟨j + 1, by first | rfl | (simp; done), ⟨by have := HJ.out; omega⟩, HP1, HP2⟩
          · have g1 : decide (0 < (j : Int)) = true := decide_eq_true (by omega)
            have g2 : decide (0 < j) = true := decide_eq_true jp
            have hl := hlast jp
            obtain ⟨i2, rfl⟩ : ∃ i2, j = i2 + 1 := ⟨j - 1, by omega⟩
            simp only [Nat.add_sub_cancel] at hl hglt2
            have q1 : (0 ≤ (i2 : Int)) = True := eq_true (by omega)
            have q2 : ((i2 : Int) < (ks.length : Int)) = True := eq_true (by omega)
            have q3 : (i2 < ks.length) = True := eq_true (by omega)
            have q4 : IntKind.i64.wrap (i2 : Int) = (i2 : Int) := by rw [IntKind.wrap_i64]; have := HLK.out; omega
            have q5 : IntKind.i64.wrap ((i2 : Int) + 1 - 1) = (i2 : Int) := by rw [IntKind.wrap_i64]; have := HLK.out; omega
            have q6 : (0 ≤ (i2 : Int) + 1) = True := eq_true (by omega)
            have q7 : ((i2 : Int) + 1 < (ks.length : Int)) = True := eq_true (by omega)
            have q8 : (i2 + 1 < ks.length) = True := eq_true (by omega)
            have q9 : ((i2 : Int) + 1).toNat = i2 + 1 := by omega
            clear hlast jp
            go_wp2
            go_region_held3 (fun w' => w'.cell? ⟨ga, i2 + 1, none⟩ = some (.int .i64 x) ∧ w'.cell? ⟨ga, i2, none⟩ = some (.int .i64 (-7))) (first | exact ⟨(hb.cell hglt).trans hcell, (hb.cell hglt2).trans hl⟩ | go_keep) ((first | (go_at_call 12; refine (has_calls TD.out x HX.out).mono ?_; rintro e W5 ⟨rfl, hb⟩; rw [HM.out])))
            have O5 := Kd.R_below OD.out hb
            have T5 := Aside0.mk (TD.out.kept hb)
            have HP := Kd.R_putg O5 (((i2 + 1) : Nat) : Int) (-7)
            obtain ⟨hc5, hf5⟩ := Kd.R_celln (0 : Int) O5 (((i2 + 1) : Nat) : Int) (by omega) (by omega)
            rw [Int.toNat_natCast] at HP hc5 hf5
            have HP1 := Aside0.mk (show Kd.R (Kd.int .i64) 3 (W5.setCell ⟨ga, (i2 + 1), none⟩ (.int .i64 (-7))) B (fun _ => True) (.slice (some ⟨ga, 0, none⟩) ks.length c3) (List.replicate ((i2 + 1) + 1) (-7) ++ ks.drop ((i2 + 1) + 1)) from hset.out ▸ HP.1)
            have HP2 := Aside0.mk (T5.out.grown HP.2 (fun e => by have := HBG.out.1; have := HGA.out; have := Option.some.inj e; omega) (fun e => by have := HBG.out.2.1; have := HGA.out; have := Option.some.inj e; omega) (fun k e => by have := HBG.out.2.2; have := HGA.out; have := Option.some.inj e; omega))
            clear HP O5 hcell hb
            have d6 : IntKind.i64.wrap ((i2 : Int) + 1 + 1) = ((i2 + 1 + 1 : Nat) : Int) := by rw [IntKind.wrap_i64]; have := HLK.out; omega
            go_wp2_with (first | ((with_reducible refine gate_store (t := 3) (p := 82) rfl ?_); refine store_event (t := 3) (p := 82) (v := ?vo) (w1 := (W5.setCell ⟨ga, (i2 + 1), none⟩ (.int .i64 (-7)))) ?hg ?ho ?hn ?hr ?_; (case ho => rfl); (case hg => rfl); (case hn => rfl); (case hr => first | (go_simp; done) | (go_simp; rfl)); intro w15 hw; subst hw))
            go_roundg k1
            case measure => omega
            case rel => exact ⟨(i2 + 1) + 1, by first | rfl | (simp; done), ⟨by have := HJ.out; omega⟩, HP1, HP2⟩
        | zero =>
          have d1 : decide ((j : Int) < (ks.length : Int)) = false := decide_eq_false (by have := HJ.out; omega)
          have d1n : decide (j < ks.length) = false := decide_eq_false (by have := HJ.out; omega)
          clear HO
          go_wp2
          go_loopg [10, 11] (n.toNat + 1) (fun kq v10 v11 w' => ∃ q : Nat, v11 = .int .i64 (q : Int) ∧ v10 = .int .i64 (cnt h q : Int) ∧ Aside0 (q + kq = n.toNat + 1) ∧ Aside0 (Tb W w' g bm n h 300))
          case atStart => exact ⟨0, rfl, rfl, ⟨by omega⟩, T⟩
          case round =>
            clear T HJ d1 d1n
            obtain ⟨q, rfl, rfl, HQ, T⟩ := hrel
            cases gk with
            | succ k1 =>
              have d1 : decide ((q : Int) ≤ n) = true := decide_eq_true (by have := HQ.out; have := HN.out; omega)
              have HX := Aside0.mk (show (Lit.int .i64 (q : Int)).wf = true from wf_of (by omega) (by have := HQ.out; have := HN.out; omega))
              have d5 : IntKind.i64.wrap ((q : Int) + 1) = ((q + 1 : Nat) : Int) := by rw [IntKind.wrap_i64]; have := HQ.out; have := HN.out; omega
              have d6 : IntKind.i64.wrap ((cnt h q : Int) + 1) = ((cnt h q + 1 : Nat) : Int) := by rw [IntKind.wrap_i64]; have := cnt_le h q; have := HQ.out; have := HN.out; omega
              have hs := cnt_succ h q
              cases hx : h (q : Int) with
              | true =>
                rw [if_pos hx] at hs
                have HS := Aside0.mk hs
                clear hs
                go_wp2_with (first
                  | (go_at_call 12; refine (has_calls T.out _ HX.out).mono ?_; rintro e W5 ⟨rfl, hb⟩; rw [hx]; have T5 := Aside0.mk (T.out.kept hb); clear hb))
                go_roundg k1
                case measure => omega
                case rel => exact ⟨q + 1, by first | rfl | (simp; done), by rw [HS.out]; first | rfl | (simp; done), ⟨by have := HQ.out; omega⟩, T5⟩
              | false =>
                rw [if_neg (by rw [hx]; decide), Nat.add_zero] at hs
                have HS := Aside0.mk hs
                clear hs
                go_wp2_with (first
                  | (go_at_call 12; refine (has_calls T.out _ HX.out).mono ?_; rintro e W5 ⟨rfl, hb⟩; rw [hx]; have T5 := Aside0.mk (T.out.kept hb); clear hb))
                go_roundg k1
                case measure => omega
                case rel => exact ⟨q + 1, by first | rfl | (simp; done), by rw [HS.out]; first | rfl | (simp; done), ⟨by have := HQ.out; omega⟩, T5⟩
            | zero =>
              have d1 : decide ((q : Int) ≤ n) = false := decide_eq_false (by have := HQ.out; have := HN.out; omega)
              have hk : cnt h q = ks.length := by
                rw [← HK.out, cnt_held]
                congr 1
                have := HQ.out
                omega
              have hcount : ((heldL h n).length : Int) = (ks.length : Int) := by rw [HK.out]
              rw [hk]
              go_wp2_with (first
                | (go_at_call 13; refine (count_calls T.out (by decide)).mono ?_; rintro e W8 ⟨rfl, hb⟩; rw [hcount]; have T2 := Aside0.mk (T.out.kept hb); clear hb)
                | (go_at_call 8; refine (works_calls _).mono ?_; rintro e W9 ⟨rfl, hb⟩; have H3 := Aside0.mk (below_step T2.out.bel hb); clear hb))
              all_goals (go_ret; exact ⟨rfl, H3.out⟩)
end Go.Proofs.Ytidflacmiigbmaa.Tab
