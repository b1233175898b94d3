/- The walk of TableFull: all numbers are given, rising, and then none; those that are freed are given again, the lowest first; for all inputs (of more than 300 freed ones: that the anchor holds). No condition of our own. -/
import Derived.Test.YtidflacmiigbmaaTabLaw
namespace Go.Proofs.Ytidflacmiigbmaa.Tab
open Go.RowKit Go.Maps Go.Proofs.YtidflacmiigbmaaW.PrintWords Go.Proofs.YtidflacmiigbmaaW.PrintMore
set_option linter.unusedVariables false
/-- The numbers below i. -/
def hI (i : Nat) : Int → Bool := fun y => decide (0 ≤ y ∧ y < (i : Int))
theorem hI_take (i : Nat) (m : Int) (h1 : (i : Int) ≤ m) : takeB (hI i) m = true ∧ takeA (hI i) m = (i : Int) ∧ takeH (hI i) m = hI (i + 1) := by
  obtain ⟨a1, a2, a3, a4⟩ := takeL_spec (hI i) m (by omega)
  have e : takeL (hI i) m = (i : Int) := by
    rcases Int.lt_or_le (takeL (hI i) m) (i : Int) with c | c
    · have := a4 (by omega)
      unfold hI at this
      rw [decide_eq_false_iff_not] at this
      exact absurd ⟨a1, c⟩ this
    · rcases Int.lt_or_le (i : Int) (takeL (hI i) m) with c2 | c2
      · have := a3 (i : Int) (by omega) c2
        unfold hI at this
        rw [decide_eq_true_eq] at this
        omega
      · omega
  have b : takeB (hI i) m = true := by unfold takeB; rw [e]; exact decide_eq_true h1
  refine ⟨b, by unfold takeA; rw [b, e]; rfl, ?_⟩
  unfold takeH
  rw [b, e]
  funext y
  simp only [if_true]
  unfold put1 hI
  split
  · rename_i c
    rw [eq_comm, decide_eq_true_eq]; omega
  · rename_i c
    rw [decide_eq_decide]; omega
theorem hI_all (i : Nat) (m : Int) (h0 : 0 ≤ m) (h1 : (i : Int) = m + 1) : frees (hI i) m = 0 := frees_all _ _ h0 (fun y g0 g1 => by unfold hI; rw [decide_eq_true_eq]; omega)
theorem take_none (h : Int → Bool) (m : Int) (h0 : 0 ≤ m) (hf : frees h m = 0) : takeB h m = false ∧ takeA h m = 0 ∧ takeH h m = h := by
  have b : takeB h m = false := by rw [takeB_of h m h0, hf]; rfl
  exact ⟨b, by unfold takeA; rw [b]; rfl, by unfold takeH; rw [b]; rfl⟩
theorem wf8 {a : Int} (h : (Lit.int .u8 a).wf = true) : 0 ≤ a ∧ a < 256 := by
  simp [Lit.wf, IntKind.min, IntKind.max, IntKind.bits, IntKind.signed] at h
  omega
theorem rd_wf (l : List Int) (hg : ∀ s ∈ l, (fun x : Int => (Lit.int .u8 x).wf = true) s) (i : Nat) (hi : i < l.length) : 0 ≤ rd l (i : Int) ∧ rd l (i : Int) < 256 := by
  have e : rd l (i : Int) = l[i] := by simp [rd, hi]
  rw [e]; exact wf8 (hg _ (List.getElem_mem hi))
set_option maxHeartbeats 16000000 in
set_option maxRecDepth 100000 in
theorem TableFull_walk (n : Int) (A : Option Addr) (c : Nat) (l : List Int) (W : World) (hn : (Lit.int .u8 n).wf = true) (hm : l.length ≤ maxLen) (hr : Kd.C (Kd.int .u8) W A l.length l) (hc : l.length ≤ c) (hg : ∀ s ∈ l, (fun x : Int => (Lit.int .u8 x).wf = true) s) :
    Calls Try.prog 7 #[.int .u8 n, .slice A l.length c] W fun e W' => e = .returned (.bool true) ∧ Below W.heap.size W W' := by
  have hn' := wf8 hn
  have hw : wrap64 n = n := by unfold wrap64; omega
  have C0 := Aside0.mk (fun W1 (hB : Below W.heap.size W W1) => new_calls (w0 := W) (W := W1) n hn'.1 (by omega) hB)
  have HS := Aside0.mk (Below.refl W.heap.size W)
  have HR := Aside0.mk hr
  have HG := Aside0.mk hg
  have HN := Aside0.mk hn'
  by_cases big : 300 < (l.length : Int)
  · have b1 : decide (300 < (l.length : Int)) = true := decide_eq_true big
    have b2 : decide (300 < l.length) = true := decide_eq_true (by omega)
    clear hn hn' hr hg hm big
    go_enter Try.func7, Try.ntmps7
    go_wp2_with (first
      | (go_at_call 9; refine (C0.out _ HS.out).mono ?_; rintro e W2 ⟨g, bm, rfl, hT, hb, _⟩; have H2 := Aside0.mk hb; clear hT hb)
      | (go_at_call 8; refine (works_calls _).mono ?_; rintro e W3 ⟨rfl, hb⟩; have H3 := Aside0.mk (below_step H2.out hb); clear hb))
    all_goals (go_ret; exact ⟨rfl, H3.out⟩)
  have b1 : decide (300 < (l.length : Int)) = false := decide_eq_false big
  have b2 : decide (300 < l.length) = false := decide_eq_false (by omega)
  have HL := Aside0.mk (show l.length ≤ 300 by omega)
  clear hn hn' hr hg hm big
  go_enter Try.func7, Try.ntmps7
  go_wp2_with (first
    | (go_at_call 9; refine (C0.out _ HS.out).mono ?_; rintro e W2 ⟨g, bm, rfl, hT, hb, _⟩; have T0 := Aside0.mk hT; clear hT hb))
  go_loopg [7] (n.toNat + 1) (fun kq v7 w' => ∃ i : Nat, v7 = .int .i64 (i : Int) ∧ Aside0 (i + kq = n.toNat + 1) ∧ Aside0 (Tb W w' g bm n (hI i) i))
  case atStart => exact ⟨0, rfl, ⟨by omega⟩, ⟨T0.out.same (fun y => by unfold hI; rw [eq_comm, decide_eq_false_iff_not]; omega)⟩⟩
  case round =>
    clear T0 HS C0
    obtain ⟨i, rfl, HI, T⟩ := hrel
    cases gk with
    | succ k1 =>
      have d1 : decide ((i : Int) ≤ n) = true := decide_eq_true (by have := HI.out; have := HN.out; omega)
      obtain ⟨t1, t2, t3⟩ := hI_take i n (of_decide_eq_true d1)
      have d5 : IntKind.i64.wrap ((i : Int) + 1) = ((i + 1 : Nat) : Int) := by rw [IntKind.wrap_i64]; have := HI.out; have := HN.out; omega
      go_wp2_with (first
        | (go_at_call 14; refine (take_calls T.out (by have := HI.out; have := HN.out; omega)).mono ?_; rintro e W1 ⟨rfl, hT, _⟩; rw [t1, t2]; rw [t3] at hT; have T1 := Aside0.mk (hT.more takeN_le); clear hT))
      go_roundg k1
      case measure => omega
      case rel => exact ⟨i + 1, by first | rfl | (simp; done), ⟨by have := HI.out; omega⟩, T1⟩
    | zero =>
      have d1 : decide ((i : Int) ≤ n) = false := decide_eq_false (by have := HI.out; have := HN.out; omega)
      have hf := hI_all i n (HN.out.1) (by have := HI.out; have := HN.out; omega)
      obtain ⟨t1, t2, t3⟩ := take_none _ n HN.out.1 hf
      have HF := Aside0.mk hf
      clear hf
      go_wp2_with (first
        | (go_at_call 14; refine (take_calls T.out (by have := HI.out; have := HN.out; omega)).mono ?_; rintro e W1 ⟨rfl, hT, _⟩; rw [t1, t2]; rw [t3] at hT; have T1 := Aside0.mk (hT.more (M := 300) (Nat.le_trans takeN_le (by have := HI.out; have := HN.out; omega))); clear hT))
      go_loopg [12, 13] l.length (fun kq v12 v13 w' => ∃ (j : Nat) (h : Int → Bool), v13 = .int .i64 (j : Int) ∧ v12 = .int .i64 (frees h n : Int) ∧ Aside0 (j + kq = l.length) ∧ Aside0 (frees h n ≤ j) ∧ Aside0 (Tb W w' g bm n h 300))
      case atStart => exact ⟨0, hI i, rfl, by rw [HF.out]; rfl, ⟨by omega⟩, ⟨by rw [HF.out]; exact Nat.le_refl _⟩, T1⟩
      case round =>
        clear T1 HF T t1 t2 t3 d1 HI
        obtain ⟨j, h, rfl, rfl, HJ, HF, T⟩ := hrel
        cases gk with
        | succ k1 =>
          have d1 : decide ((j : Int) < (l.length : Int)) = true := decide_eq_true (by have := HJ.out; omega)
          have d1n : decide (j < l.length) = true := decide_eq_true (by have := HJ.out; omega)
          have hj : j < l.length := by have := HJ.out; omega
          obtain ⟨x0, x1⟩ := rd_wf l HG.out j hj
          obtain ⟨ad, eA, hcell⟩ := Kd.at_int (Kd.C_below HR.out T.out.bel) (j : Int) (by omega) (by omega)
          subst eA
          have p1 : (0 ≤ (j : Int)) = True := eq_true (by omega)
          have p2 : ((j : Int) < (l.length : Int)) = True := eq_true (by omega)
          have p3 : (j < l.length) = True := eq_true hj
          rw [Int.toNat_natCast] at hcell
          have hwx : wrap64 (rd l (j : Int)) = rd l (j : Int) := by unfold wrap64; omega
          have d5 : IntKind.i64.wrap ((j : Int) + 1) = ((j + 1 : Nat) : Int) := by rw [IntKind.wrap_i64]; have := HL.out; omega
          have d6 : IntKind.i64.wrap ((frees h n : Int) + 1) = ((frees h n + 1 : Nat) : Int) := by rw [IntKind.wrap_i64]; have := HF.out; have := HL.out; omega
          have HX := Aside0.mk (show (Lit.int .i64 (rd l (j : Int))).wf = true from wf_of (by omega) (by omega))
          cases hx : h (rd l (j : Int)) with
          | true =>
            have hd := T.out.dom _ hx
            have hfr := Aside0.mk (frees_free h n _ hd.1 hd.2 hx)
            clear hd x0 x1 hj
            go_wp2_with (first
              | (go_at_call 16; refine (free_calls T.out _ HX.out).mono ?_; rintro e W1 ⟨rfl, hT, _⟩; rw [hx]; have T1 := Aside0.mk hT; clear hT))
            go_roundg k1
            case measure => omega
            case rel => exact ⟨j + 1, put1 h (rd l (j : Int)) false, by first | rfl | (simp; done), by rw [hfr.out]; first | rfl | (simp; done), ⟨by have := HJ.out; omega⟩, ⟨by rw [hfr.out]; have := HF.out; omega⟩, T1⟩
          | false =>
            clear x0 x1 hj
            have ehp : ∀ y, put1 h (rd l (j : Int)) false y = h y := fun y => by
              unfold put1
              split
              · rename_i e; rw [e, hx]
              · rfl
            go_wp2_with (first
              | (go_at_call 16; refine (free_calls T.out _ HX.out).mono ?_; rintro e W1 ⟨rfl, hT, _⟩; rw [hx]; have T1 := Aside0.mk (hT.same ehp); clear hT))
            go_roundg k1
            case measure => omega
            case rel => exact ⟨j + 1, h, by first | rfl | (simp; done), rfl, ⟨by have := HJ.out; omega⟩, ⟨by have := HF.out; omega⟩, T1⟩
        | zero =>
          have d1 : decide ((j : Int) < (l.length : Int)) = false := decide_eq_false (by have := HJ.out; omega)
          have d1n : decide (j < l.length) = false := decide_eq_false (by have := HJ.out; omega)
          go_wp2
          have HM := Aside0.mk (show frees h n ≤ 300 by have := HF.out; have := HJ.out; have := HL.out; omega)
          generalize hq : frees h n = q at HM ⊢
          go_loopg [14, 15] q (fun kq v14 v15 w' => ∃ (j : Nat) (last : Int) (h : Int → Bool), v15 = .int .i64 (j : Int) ∧ v14 = .int .i64 last ∧ Aside0 (j + kq = q) ∧ Aside0 (frees h n = kq) ∧ Aside0 (-1 ≤ last ∧ last ≤ n ∧ ∀ y, 0 ≤ y → y ≤ last → h y = true) ∧ Aside0 (Tb W w' g bm n h (300 + j)))
          case atStart => exact ⟨0, -1, h, rfl, rfl, ⟨by omega⟩, ⟨hq⟩, ⟨Int.le_refl _, by have := HN.out; omega, fun y g0 g1 => by omega⟩, T⟩
          case round =>
            clear T HF HJ d1 d1n hq
            obtain ⟨j2, last, h2, rfl, rfl, HJ, HF, HLA, T⟩ := hrel
            cases gk with
            | succ k1 =>
              have d1 : decide ((j2 : Int) < (q : Int)) = true := decide_eq_true (by have := HJ.out; omega)
              have d1n : decide (j2 < q) = true := decide_eq_true (by have := HJ.out; omega)
              obtain ⟨a1, a2, a3, a4⟩ := takeL_spec h2 n HN.out.1
              have t1 : takeB h2 n = true := by rw [takeB_of h2 n HN.out.1, HF.out]; rfl
              have hk : takeL h2 n ≤ n := by unfold takeB at t1; exact of_decide_eq_true t1
              have hnot := a4 hk
              have t2 : takeA h2 n = takeL h2 n := by unfold takeA; rw [t1]; rfl
              have t3 : takeH h2 n = put1 h2 (takeL h2 n) true := by unfold takeH; rw [t1]; rfl
              have hlast : last < takeL h2 n := by
                rcases Int.lt_or_le last (takeL h2 n) with z | z
                · exact z
                · have := HLA.out.2.2 _ a1 z
                  rw [hnot] at this; cases this
              have d2 : decide (takeL h2 n ≤ last) = false := decide_eq_false (by omega)
              have hfr := frees_take h2 n _ a1 hk hnot
              have HA := Aside0.mk (show -1 ≤ takeL h2 n ∧ takeL h2 n ≤ n ∧ ∀ y, 0 ≤ y → y ≤ takeL h2 n → put1 h2 (takeL h2 n) true y = true from ⟨by omega, hk, fun y g0 g1 => by
                unfold put1
                split
                · rfl
                · exact a3 y g0 (by omega)⟩)
              have HF2 := Aside0.mk (show frees (put1 h2 (takeL h2 n) true) n = k1 by have := HF.out; omega)
              have d5 : IntKind.i64.wrap ((j2 : Int) + 1) = ((j2 + 1 : Nat) : Int) := by rw [IntKind.wrap_i64]; have := HJ.out; have := HM.out; omega
              clear hfr hnot hk a1 a2 a3 a4 hlast
              go_wp2_with (first
                | (go_at_call 14; refine (take_calls T.out (by have := HJ.out; have := HM.out; omega)).mono ?_; rintro e W1 ⟨rfl, hT, _⟩; rw [t1, t2]; rw [t3] at hT; have T1 := Aside0.mk (hT.more (M := 300 + (j2 + 1)) takeN_le); clear hT))
              go_roundg k1
              case measure => omega
              case rel => exact ⟨j2 + 1, takeL h2 n, put1 h2 (takeL h2 n) true, by first | rfl | (simp; done), rfl, ⟨by have := HJ.out; omega⟩, HF2, HA, T1⟩
            | zero =>
              have d1 : decide ((j2 : Int) < (q : Int)) = false := decide_eq_false (by have := HJ.out; omega)
              have d1n : decide (j2 < q) = false := decide_eq_false (by have := HJ.out; omega)
              obtain ⟨t1, t2, t3⟩ := take_none h2 n HN.out.1 HF.out
              have hcount : ((heldL h2 n).length : Int) = n + 1 := by have := held_frees h2 n HN.out.1; have := HF.out; have := HN.out; omega
              have d6 : IntKind.i64.wrap (n + 1) = n + 1 := by rw [IntKind.wrap_i64]; have := HN.out; omega
              go_wp2_with (first
                | (go_at_call 14; refine (take_calls T.out (by have := HJ.out; have := HM.out; omega)).mono ?_; rintro e W1 ⟨rfl, hT, _⟩; rw [t1, t2]; rw [t3] at hT; have T1 := Aside0.mk (hT.more (M := 1000) (Nat.le_trans takeN_le (by have := HJ.out; have := HM.out; omega))); clear hT)
                | (go_at_call 13; refine (count_calls T1.out (by decide)).mono ?_; rintro e W8 ⟨rfl, hb⟩; rw [hcount]; have T2 := Aside0.mk (T1.out.kept hb); clear hb)
                | (go_at_call 8; refine (works_calls _).mono ?_; rintro e W9 ⟨rfl, hb⟩; have H3 := Aside0.mk (below_step T2.out.bel hb); clear hb))
              all_goals (go_ret; exact ⟨rfl, H3.out⟩)
end Go.Proofs.Ytidflacmiigbmaa.Tab
