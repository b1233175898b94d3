/- The walk of TablePlays: whatever is held, taken and freed, every answer is the document's; for all inputs (of more than 300 steps: that the anchor holds). No condition of our own. -/
import Derived.Test.YtidflacmiigbmaaTabRefAll
namespace Go.Proofs.Ytidflacmiigbmaa.Tab
open Go.RowKit Go.Maps Go.Proofs.YtidflacmiigbmaaW.PrintWords Go.Proofs.YtidflacmiigbmaaW.PrintLast Go.Proofs.YtidflacmiigbmaaW.PrintMore
set_option linter.unusedVariables false
set_option maxHeartbeats 16000000 in
set_option maxRecDepth 100000 in
theorem TablePlays_walk (n : Int) (A : Option Addr) (c : Nat) (l : List Step) (ask : Int) (W : World) (hn : (Lit.int .i64 n).wf = true) (hm : l.length ≤ maxLen) (hr : Kd.C kStep W A l.length l) (hc : l.length ≤ c) (hg : ∀ s ∈ l, (fun x : Step => (Lit.int .i64 x.k).wf = true ∧ (Lit.int .i64 x.n).wf = true) s) (ha : (Lit.int .i64 ask).wf = true) :
    Calls Try.prog 5 #[.int .i64 n, .slice A l.length c, .int .i64 ask] W fun e W' => e = .returned (.bool true) ∧ Below W.heap.size W W' := by
  have HS := Aside0.mk (Below.refl W.heap.size W)
  have HR := Aside0.mk hr
  have HG := Aside0.mk hg
  have HA := Aside0.mk ha
  have hu31 := Try.underlying31
  by_cases big : 300 < (l.length : Int)
  · have b1 : decide (300 < (l.length : Int)) = true := decide_eq_true big
    have b2 : decide (300 < l.length) = true := decide_eq_true (by omega)
    clear hn hr hg hm big ha
    go_enter Try.func5, Try.ntmps5
    go_wp2_with (first
      | (go_at_call 8; refine (works_calls _).mono ?_; rintro e W3 ⟨rfl, hb⟩))
    all_goals (go_ret; exact ⟨rfl, hb⟩)
  have b1 : decide (300 < (l.length : Int)) = false := decide_eq_false big
  have b2 : decide (300 < l.length) = false := decide_eq_false (by omega)
  have HL := Aside0.mk (show l.length ≤ 300 by omega)
  by_cases may : 0 ≤ n ∧ n ≤ 65535
  rotate_left
  · have HM := Aside0.mk may
    clear hn hr hg hm big ha may
    have hz : decide ((0 : Int) < (l.length : Int)) = true ∨ decide ((0 : Int) < (l.length : Int)) = false := by cases decide ((0 : Int) < (l.length : Int)) <;> simp
    go_enter Try.func5, Try.ntmps5
    go_wp2_with (first
      | (go_at_call 9; refine (new_none n HM.out).mono ?_; rintro e W2 ⟨rfl, hb⟩; have B2 := Aside0.mk hb; clear hb)
      | (go_at_call 18; refine (rnew_none n HM.out).mono ?_; rintro e W3 ⟨rfl, hb⟩; have B3 := Aside0.mk (below_step B2.out hb); clear hb))
    go_loopg [11] 0 (fun kq v11 w' => v11 = .int .i64 0 ∧ Aside0 (Below W.heap.size W w'))
    case atStart => exact ⟨rfl, B3⟩
    case round =>
      obtain ⟨rfl, HB⟩ := hrel
      rcases hz with hz | hz
      · have hz2 : decide (0 < l.length) = true := decide_eq_true (by have := of_decide_eq_true hz; omega)
        go_wp2_with (first
          | (go_at_call 8; refine (works_calls _).mono ?_; rintro e W9 ⟨rfl, hb⟩; have H3 := Aside0.mk (below_step HB.out hb); clear hb))
        all_goals (go_ret; exact ⟨rfl, H3.out⟩)
      · have hz2 : decide (0 < l.length) = false := decide_eq_false (by have := of_decide_eq_false hz; omega)
        go_wp2_with (first
          | (go_at_call 8; refine (works_calls _).mono ?_; rintro e W9 ⟨rfl, hb⟩; have H3 := Aside0.mk (below_step HB.out hb); clear hb))
        all_goals (go_ret; exact ⟨rfl, H3.out⟩)
  have HN := Aside0.mk may
  have C0 := Aside0.mk (fun W1 (hB : Below W.heap.size W W1) => new_calls (w0 := W) (W := W1) n may.1 may.2 hB)
  have C1 := Aside0.mk (fun W1 (hB : Below W.heap.size W W1) => rnew_calls (w0 := W) (W := W1) n may.1 may.2 hB)
  clear hn hr hg hm big ha may
  go_enter Try.func5, Try.ntmps5
  go_wp2_with (first
    | (go_at_call 9; refine (C0.out _ HS.out).mono ?_; rintro e W2 ⟨g, bm, rfl, hT, hb, _⟩; have T0 := Aside0.mk hT; clear hT hb)
    | (go_at_call 18; refine (C1.out _ T0.out.bel).mono ?_; rintro e W3 ⟨r, gh, ch, rfl, hR, hb, hb1, hb2⟩; have R0 := Aside0.mk hR; have T1 := Aside0.mk (T0.out.kept hb); have HNE := Aside0.mk (show g ≠ r ∧ g ≠ gh ∧ bm ≠ r ∧ bm ≠ gh from ⟨by have := T0.out.lt; omega, by have := T0.out.lt; omega, by have := T0.out.ltm; omega, by have := T0.out.ltm; omega⟩); clear hR hb hb1 hb2 T0))
  generalize n.toNat + 1 = m at R0
  clear HS C0 C1
  go_loopg [11] l.length (fun kq v11 w' => ∃ (i : Nat) (h : Int → Bool), v11 = .int .i64 (i : Int) ∧ Aside0 (i + kq = l.length) ∧ Aside0 (Tb W w' g bm n h i) ∧ Aside0 (Rb W w' r gh ch m n h))
  case atStart => exact ⟨0, _, rfl, ⟨by omega⟩, T1, R0⟩
  case round =>
    clear T1 R0
    obtain ⟨i, h, rfl, HI, T, R⟩ := hrel
    cases gk with
    | succ k1 =>
      have d1 : decide ((i : Int) < (l.length : Int)) = true := decide_eq_true (by have := HI.out; omega)
      have d1n : decide (i < l.length) = true := decide_eq_true (by have := HI.out; omega)
      have hi : i < l.length := by have := HI.out; omega
      have hW := rdS_wf l HG.out i hi
      obtain ⟨ad, eA, hx0, hx1⟩ := at_step HR.out (i : Int) (by omega) (by omega)
      subst eA
      have p1 : (0 ≤ (i : Int)) = True := eq_true (by omega)
      have p2 : ((i : Int) < (l.length : Int)) = True := eq_true (by omega)
      have p3 : (i < l.length) = True := eq_true hi
      rw [Int.toNat_natCast] at hx0 hx1
      have d5 : IntKind.i64.wrap ((i : Int) + 1) = ((i + 1 : Nat) : Int) := by rw [IntKind.wrap_i64]; have := HL.out; omega
      generalize (rdS l (i : Int)).k = k at hx0 hW
      generalize (rdS l (i : Int)).n = x at hx1 hW
      have HX := Aside0.mk hW.2
      have HI3 := Aside0.mk (show i < 1000000 by have := HL.out; omega)
      have bl0 := World.block_lt_of_cell? W _ hx0
      have bl1 := World.block_lt_of_cell? W _ hx1
      have hr0 := (T.out.bel.cell bl0).trans hx0
      have hr1 := (T.out.bel.cell bl1).trans hx1
      have HX0 := Aside0.mk hx0
      have HX1 := Aside0.mk hx1
      obtain ⟨ra, hra⟩ : ∃ ra, doA h n k x = ra := ⟨_, rfl⟩
      obtain ⟨rb, hrb⟩ : ∃ rb, doB h n k x = rb := ⟨_, rfl⟩
      obtain ⟨h2, hh2⟩ : ∃ h2, doH h n k x = h2 := ⟨_, rfl⟩
      obtain ⟨rc, hrc⟩ : ∃ rc, h2 ask = rc := ⟨_, rfl⟩
      clear hi hW hx0 hx1
      go_wp2_with (first
        | (go_at_call 20; refine (rhas_calls R3.out ask).mono ?_; rintro e W4 ⟨rfl, hb⟩; rw [hrc]; have T4 := Aside0.mk (T3.out.kept hb); have R4 := Aside0.mk (R3.out.kept hb); clear hb)
        | (go_at_call 12; refine (has_calls T2.out ask HA.out).mono ?_; rintro e W3 ⟨rfl, hb⟩; rw [hrc]; have T3 := Aside0.mk (T2.out.kept hb); have R3 := Aside0.mk (R2.out.kept hb); clear hb)
        | (go_at_call 19; refine (meant_calls R1.out k x).mono ?_; rintro e W2 ⟨rfl, hR, hgr⟩; rw [hra, hrb]; rw [hh2] at hR; have R2 := Aside0.mk hR; have T2 := Aside0.mk (T1.out.grown hgr (fun e => HNE.out.2.1 (Option.some.inj e)) (fun e => HNE.out.2.2.2 (Option.some.inj e)) (fun k e => by have := R1.out.gb; have := Option.some.inj e; omega)); clear hR hgr)
        | (go_at_call 10; refine (do_calls T.out k x HX.out HI3.out).mono ?_; rintro e W1 ⟨rfl, hT, hgr⟩; rw [hra, hrb]; rw [hh2] at hT; have T1 := Aside0.mk hT; have R1 := Aside0.mk (R.out.grown hgr (fun e => HNE.out.2.2.1 (Option.some.inj e).symm) (fun e => HNE.out.2.2.2 (Option.some.inj e).symm)); have y0 := (T1.out.bel.cell bl0).trans HX0.out; have y1 := (T1.out.bel.cell bl1).trans HX1.out; clear hT hgr))
      go_roundg k1
      case measure => omega
      case rel => exact ⟨i + 1, h2, by first | rfl | (simp; done), ⟨by have := HI.out; omega⟩, T4, R4⟩
    | zero =>
      have d1 : decide ((i : Int) < (l.length : Int)) = false := decide_eq_false (by have := HI.out; omega)
      have d1n : decide (i < l.length) = false := decide_eq_false (by have := HI.out; omega)
      have HI3 := Aside0.mk (show i ≤ 1000000 by have := HI.out; have := HL.out; omega)
      have HLn := Aside0.mk (show (heldL h n).length ≤ maxLen by
        have h1 := held_frees h n HN.out.1
        have := HN.out
        unfold maxLen; omega)
      obtain ⟨ks, hks⟩ : ∃ ks, heldL h n = ks := ⟨_, rfl⟩
      rw [hks] at HLn
      go_wp2_with (first
        | (go_at_call 8; refine (works_calls _).mono ?_; rintro e W9 ⟨rfl, hb⟩; have H3 := Aside0.mk (below_step T5.out.bel hb); clear hb)
        | (go_at_call 17; refine (most_calls T4.out).mono ?_; rintro e W8 ⟨rfl, hb⟩; have T5 := Aside0.mk (T4.out.kept hb); clear hb)
        | (go_at_call 13; refine (count_calls T3.out HI3.out).mono ?_; rintro e W7 ⟨rfl, hb⟩; rw [hks]; have T4 := Aside0.mk (T3.out.kept hb); clear hb)
        | (go_at_call 22; refine (same_calls _ _ _ _ ks HLn.out K2.out K1.out).mono ?_; rintro e W6 ⟨rfl, hb⟩; have T3 := Aside0.mk (T2.out.kept hb); clear hb)
        | (go_at_call 11; refine (all_calls T1.out HI3.out).mono ?_; rintro e W5 ⟨v2, rfl, hR2, hb⟩; rw [hks] at hR2; obtain ⟨A2, c2, e2⟩ := Kd.R_slice hR2; subst e2; have K2 := Aside0.mk (Kd.R_reads' hR2).2.2; have K1 := Aside0.mk (Kd.C_below K0.out hb); have T2 := Aside0.mk (T1.out.kept hb); clear hR2 hb)
        | (go_at_call 21; refine (rall_calls R.out).mono ?_; rintro e W4 ⟨v1, rfl, hR1, hb⟩; rw [hks] at hR1; obtain ⟨A1, c1, e1⟩ := Kd.R_slice hR1; subst e1; have K0 := Aside0.mk (Kd.R_reads' hR1).2.2; have T1 := Aside0.mk (T.out.kept hb); clear hR1 hb))
      all_goals (go_ret; exact ⟨rfl, H3.out⟩)
end Go.Proofs.Ytidflacmiigbmaa.Tab
