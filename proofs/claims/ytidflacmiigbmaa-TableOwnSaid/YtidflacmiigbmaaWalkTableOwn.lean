/- The walk of TableOwn: what is given nobody else has, till it is freed, and what is given is the lowest that is not held; for all inputs (of more than 300 steps: that the anchor holds). No condition of our own. -/
import Derived.Test.YtidflacmiigbmaaTabSteps
import Derived.Test.YtidflacmiigbmaaWNEv
import Derived.Deep.RegionHeld3
namespace Go.Proofs.Ytidflacmiigbmaa.Tab
open Go.RowKit Go.Maps Go.Proofs.YtidflacmiigbmaaW.PrintWords Go.Proofs.YtidflacmiigbmaaW.PrintMore
attribute [local go_sem] max2_int min2_int max_two min_two
set_option linter.unusedVariables false
theorem info4 : (Try.prog.info? 4).map (fun i => (i.zero, i.size, i.bytes)) = some (some (.bool false), 1, 1) := by kernel_rfl
theorem ubO {a : Int} (h : (Lit.int .u8 a).wf = true) : 0 ≤ a ∧ a < 256 := by
  simp [Lit.wf, IntKind.min, IntKind.max, IntKind.bits, IntKind.signed] at h
  omega
/-- The law's own list: of each number below m whether it is held. -/
def heldB (h : Int → Bool) (m : Nat) : List Bool := (List.range m).map fun i : Nat => h (i : Int)
theorem heldB_length (h : Int → Bool) (m : Nat) : (heldB h m).length = m := by simp [heldB]
theorem heldB_rd (h : Int → Bool) (m : Nat) (x : Int) (h0 : 0 ≤ x) (h1 : x < m) : rdOf false (heldB h m) x = h x := by
  unfold rdOf heldB
  rw [List.getD_eq_getElem?_getD, List.getElem?_map, List.getElem?_range (by omega)]
  simp only [Option.map_some, Option.getD_some]
  rw [Int.toNat_of_nonneg h0]
theorem heldB_set (h : Int → Bool) (m : Nat) (x : Int) (b : Bool) (h0 : 0 ≤ x) : (heldB h m).set x.toNat b = heldB (put1 h x b) m := by
  apply List.ext_getElem?
  intro q
  unfold heldB
  by_cases c : q < m
  · by_cases e : q = x.toNat
    · rw [e, List.getElem?_set_self (by simp; omega), List.getElem?_map, List.getElem?_range (by omega)]
      simp only [Option.map_some, put1]
      rw [if_pos (by omega)]
    · rw [List.getElem?_set_ne (by omega), List.getElem?_map, List.getElem?_map, List.getElem?_range c]
      simp only [Option.map_some, put1]
      rw [if_neg (by omega)]
  · rw [List.getElem?_eq_none (by simp; omega), List.getElem?_eq_none (by simp; omega)]
theorem heldB_none (m : Nat) : heldB (fun _ => false) m = List.replicate m false := by
  unfold heldB
  apply List.ext_getElem?
  intro q
  rw [List.getElem?_map, List.getElem?_replicate]
  by_cases c : q < m
  · rw [List.getElem?_range c, if_pos c]; rfl
  · rw [List.getElem?_eq_none (by simp; omega), if_neg c]; rfl
set_option maxHeartbeats 16000000 in
set_option maxRecDepth 100000 in
theorem TableOwn_walk (n : Int) (A : Option Addr) (c : Nat) (l : List Step) (W : World) (hn : (Lit.int .u8 n).wf = true) (hm : l.length ≤ maxLen) (hr : Kd.C kStep W A l.length l) (hc : l.length ≤ c) (hg : ∀ s ∈ l, (fun x : Step => (Lit.int .i64 x.k).wf = true ∧ (Lit.int .i64 x.n).wf = true) s) :
    Calls Try.prog 6 #[.int .u8 n, .slice A l.length c] W fun e W' => e = .returned (.bool true) ∧ Below W.heap.size W W' := by
  have hn' := ubO hn
  have hw : wrap64 n = n := by unfold wrap64; omega
  have hw1 : IntKind.i64.wrap n = n := by rw [IntKind.wrap_i64]; omega
  have hw2 : IntKind.i64.wrap (n + 1) = n + 1 := by rw [IntKind.wrap_i64]; omega
  have C0 := Aside0.mk (fun W1 (hB : Below W.heap.size W W1) => new_calls (w0 := W) (W := W1) n hn'.1 (by omega) hB)
  have HS := Aside0.mk (Below.refl W.heap.size W)
  have HR := Aside0.mk hr
  have HG := Aside0.mk hg
  have HN := Aside0.mk hn'
  have hu31 := Try.underlying31
  by_cases big : 300 < (l.length : Int)
  · have b1 : decide (300 < (l.length : Int)) = true := decide_eq_true big
    have b2 : decide (300 < l.length) = true := decide_eq_true (by omega)
    clear hn hn' hr hg hm big
    go_enter Try.func6, Try.ntmps6
    go_wp2_with (first
      | (go_at_call 8; refine (works_calls _).mono ?_; rintro e W3 ⟨rfl, hb⟩))
    all_goals (go_ret; exact ⟨rfl, hb⟩)
  have b1 : decide (300 < (l.length : Int)) = false := decide_eq_false big
  have b2 : decide (300 < l.length) = false := decide_eq_false (by omega)
  have HL := Aside0.mk (show l.length ≤ 300 by omega)
  have hz : (0 ≤ n + 1) = True := eq_true (by omega)
  clear hn hn' hr hg hm big
  go_enter Try.func6, Try.ntmps6
  go_wp2_with (first
    | (go_at_call 9; refine (C0.out _ HS.out).mono ?_; rintro e W2 ⟨g, bm, rfl, hT, hb, _⟩; have T0 := Aside0.mk hT; clear hT hb)
    | ((with_reducible refine gate_dst (N := 34) rfl ?_); refine Kd.R_make Kd.bool _ 4 rfl (N := 34) rfl 45 _ _ rfl (n + 1) rfl rfl Try.underlying45 (.bool false) 1 info4 rfl (by decide) (by omega) false (ok := fun _ => True) (okp := fun _ => True) rfl (fun _ hk => hk) trivial (by have := HN.out; omega) (by have := HN.out; omega) (Below.refl _ _) (Nat.le_refl _) ?_; intro v7 W5 ho6 hb hg_ hnew_; have T1 := Aside0.mk (T0.out.kept hb); have HBG := Aside0.mk (show g < W2.heap.size ∧ bm < W2.heap.size ∧ W.heap.size ≤ W2.heap.size from ⟨T0.out.lt, T0.out.ltm, T0.out.bel.size⟩); have ho7 : Kd.R Kd.bool 4 W5 W2.heap.size (fun _ => True) v7 (heldB (fun _ => false) (n.toNat + 1)) := (by rw [heldB_none]; have e : (n + 1).toNat = n.toNat + 1 := (by have := HN.out; omega); rw [e] at ho6; exact ho6); clear hg_ hnew_ ho6 hb T0))
  obtain ⟨gh, ch, ea, hgb, hgl, cl, hgc⟩ := Kd.R_form ho7 (by rw [heldB_length]; omega)
  rw [heldB_length] at ea
  subst ea
  have HO := Aside0.mk ho7
  have HGH := Aside0.mk (show W2.heap.size ≤ gh from hgb)
  obtain ⟨m, hm⟩ : ∃ m, m = n.toNat + 1 := ⟨_, rfl⟩
  rw [← hm] at HO ⊢
  have HM := Aside0.mk hm
  have HME := Aside0.mk (show (m : Int) = n + 1 by have := HN.out; omega)
  have HNB := Aside0.mk (show some bm ≠ (Value.slice (some ⟨gh, 0, none⟩) m ch).ownBlock from fun e => by have := HBG.out.2.1; have := HGH.out; have := Option.some.inj (show some bm = some gh from e); omega)
  clear hgb hgl hgc ho7 HS C0 hm
  generalize W2.heap.size = B at HO HBG HGH
  go_loopg [8] l.length (fun kq v8 w' => ∃ (i : Nat) (h : Int → Bool), v8 = .int .i64 (i : Int) ∧ Aside0 (i + kq = l.length) ∧ Aside0 (Tb W w' g bm n h i) ∧ Aside0 (Kd.R Kd.bool 4 w' B (fun _ => True) (.slice (some ⟨gh, 0, none⟩) m ch) (heldB h m)))
  case atStart => exact ⟨0, _, rfl, ⟨by omega⟩, T1, HO⟩
  case round =>
    clear T1 HO
    obtain ⟨i, h, rfl, HI, T, HO⟩ := hrel
    cases gk with
    | succ k1 =>
      have d1 : decide ((i : Int) < (l.length : Int)) = true := decide_eq_true (by have := HI.out; omega)
      have d1n : decide (i < l.length) = true := decide_eq_true (by have := HI.out; omega)
      have hi : i < l.length := by have := HI.out; omega
      have hW := rdS_wf l HG.out i hi
      obtain ⟨ad, eA, hx0, hx1⟩ := at_step HR.out (i : Int) (by omega) (by omega)
      subst eA
      have p1 : (0 ≤ (i : Int)) = True := eq_true (by omega)
      have p2 : ((i : Int) < (l.length : Int)) = True := eq_true (by omega)
      have p3 : (i < l.length) = True := eq_true hi
      rw [Int.toNat_natCast] at hx0 hx1
      have d5 : IntKind.i64.wrap ((i : Int) + 1) = ((i + 1 : Nat) : Int) := by rw [IntKind.wrap_i64]; have := HL.out; omega
      generalize (rdS l (i : Int)).k = k at hx0 hW
      generalize (rdS l (i : Int)).n = x at hx1 hW
      have HX := Aside0.mk hW.2
      have HI3 := Aside0.mk (show i < 1000000 by have := HL.out; omega)
      have bl0 := World.block_lt_of_cell? W _ hx0
      have bl1 := World.block_lt_of_cell? W _ hx1
      have hr0 := (T.out.bel.cell bl0).trans hx0
      have hr1 := (T.out.bel.cell bl1).trans hx1
      have HX0 := Aside0.mk hx0
      have HX1 := Aside0.mk hx1
      clear hi hW hx0 hx1
      have rng : x < 0 ∨ n < x ∨ (0 ≤ x ∧ x ≤ n) := by omega
      by_cases k0 : k = 0
      · subst k0
        have q0 : (0 == 0) = true := rfl
        rcases rng with c1 | c1 | c1
        · have g1 : decide (0 ≤ x) = false := decide_eq_false (by omega)
          have hxf : h x = false := by cases e : h x with | false => rfl | true => exact absurd (T.out.dom x e).1 (by omega)
          have hR : holdR h n x = false := by unfold holdR; simp; omega
          have eA : doA h n 0 x = 0 := rfl
          have eB : doB h n 0 x = false := hR
          have eH : doH h n 0 x = h := by show holdH h n x = h; unfold holdH; rw [hR]; rfl
          clear c1 hxf
          go_wp2_with (first
            | (go_at_call 10; refine (do_calls T.out 0 x HX.out HI3.out).mono ?_; rintro e W1 ⟨rfl, hT, hgr⟩; rw [eA, eB]; rw [eH] at hT; have T1 := Aside0.mk hT; have O1 := Aside0.mk (Kd.R_grown1 HO.out rfl hgr HNB.out); have y0 := (T1.out.bel.cell bl0).trans HX0.out; have y1 := (T1.out.bel.cell bl1).trans HX1.out; clear hT hgr))
          go_roundg k1
          case measure => omega
          case rel => exact ⟨i + 1, h, by first | rfl | (simp; done), ⟨by have := HI.out; omega⟩, T1, O1⟩
        · have g1 : decide (0 ≤ x) = true := decide_eq_true (by have := HN.out; omega)
          have g2 : decide (x ≤ n) = false := decide_eq_false (by omega)
          have hxf : h x = false := by cases e : h x with | false => rfl | true => exact absurd (T.out.dom x e).2 (by omega)
          have hR : holdR h n x = false := by unfold holdR; simp; omega
          have eA : doA h n 0 x = 0 := rfl
          have eB : doB h n 0 x = false := hR
          have eH : doH h n 0 x = h := by show holdH h n x = h; unfold holdH; rw [hR]; rfl
          clear c1 hxf
          go_wp2_with (first
            | (go_at_call 10; refine (do_calls T.out 0 x HX.out HI3.out).mono ?_; rintro e W1 ⟨rfl, hT, hgr⟩; rw [eA, eB]; rw [eH] at hT; have T1 := Aside0.mk hT; have O1 := Aside0.mk (Kd.R_grown1 HO.out rfl hgr HNB.out); have y0 := (T1.out.bel.cell bl0).trans HX0.out; have y1 := (T1.out.bel.cell bl1).trans HX1.out; clear hT hgr))
          go_roundg k1
          case measure => omega
          case rel => exact ⟨i + 1, h, by first | rfl | (simp; done), ⟨by have := HI.out; omega⟩, T1, O1⟩
        · have g1 : decide (0 ≤ x) = true := decide_eq_true c1.1
          have g2 : decide (x ≤ n) = true := decide_eq_true c1.2
          have HIN := Aside0.mk c1
          have e1 : (if n < x then n else x) = x := by split <;> omega
          have e2 : (if 0 < x then x else 0) = x := by split <;> omega
          have j1 : (0 ≤ x) = True := eq_true c1.1
          have j2 : (x < (m : Int)) = True := eq_true (by have := HME.out; omega)
          cases hx : h x with
          | true =>
            have hR : holdR h n x = false := by unfold holdR; rw [hx]; simp
            have eA : doA h n 0 x = 0 := rfl
            have eB : doB h n 0 x = false := hR
            have eH : doH h n 0 x = h := by show holdH h n x = h; unfold holdH; rw [hR]; rfl
            clear c1
            go_wp2_with (first
              | (go_at_call 10; refine (do_calls T.out 0 x HX.out HI3.out).mono ?_; rintro e W1 ⟨rfl, hT, hgr⟩; rw [eA, eB]; rw [eH] at hT; have T1 := Aside0.mk hT; have O1 := Aside0.mk (Kd.R_grown1 HO.out rfl hgr HNB.out); have y0 := (T1.out.bel.cell bl0).trans HX0.out; have y1 := (T1.out.bel.cell bl1).trans HX1.out; clear hT hgr; obtain ⟨hcl, hfz⟩ := Kd.R_celln false O1.out x HIN.out.1 (by have := HME.out; have := HIN.out.2; omega); rw [heldB_rd h m x HIN.out.1 (by have := HME.out; have := HIN.out.2; omega), hx] at hcl))
            go_roundg k1
            case measure => omega
            case rel => exact ⟨i + 1, h, by first | rfl | (simp; done), ⟨by have := HI.out; omega⟩, T1, O1⟩
          | false =>
            have hR : holdR h n x = true := by unfold holdR; rw [hx]; simp; omega
            have eA : doA h n 0 x = 0 := rfl
            have eB : doB h n 0 x = true := hR
            have eH : doH h n 0 x = put1 h x true := by show holdH h n x = _; unfold holdH; rw [hR]; rfl
            clear c1
            go_wp2_with (first
              | (go_at_call 10; refine (do_calls T.out 0 x HX.out HI3.out).mono ?_; rintro e W1 ⟨rfl, hT, hgr⟩; rw [eA, eB]; rw [eH] at hT; have T1 := Aside0.mk hT; have O1 := Aside0.mk (Kd.R_grown1 HO.out rfl hgr HNB.out); have y0 := (T1.out.bel.cell bl0).trans HX0.out; have y1 := (T1.out.bel.cell bl1).trans HX1.out; clear hT hgr; obtain ⟨hcl, hfz⟩ := Kd.R_celln false O1.out x HIN.out.1 (by have := HME.out; have := HIN.out.2; omega); rw [heldB_rd h m x HIN.out.1 (by have := HME.out; have := HIN.out.2; omega), hx] at hcl; have hp := Kd.R_putg O1.out x true; rw [heldB_set h m x true HIN.out.1] at hp; have HP1 := Aside0.mk hp.1; have HP2 := Aside0.mk (T1.out.grown hp.2 (fun e => by have := HBG.out.1; have := HGH.out; have := Option.some.inj e; omega) (fun e => by have := HBG.out.2.1; have := HGH.out; have := Option.some.inj e; omega) (fun k e => by have := HBG.out.2.2; have := HGH.out; have := Option.some.inj e; omega)); clear hp)
              | ((with_reducible refine gate_store (t := 4) (p := 98) rfl ?_); refine store_event (t := 4) (p := 98) (v := ?vo) (w1 := (W1.setCell ⟨gh, x.toNat, none⟩ (.bool true))) ?hg ?ho ?hn ?hr ?_; (case ho => rfl); (case hg => rfl); (case hn => rfl); (case hr => first | (go_simp; done) | (go_simp; rfl)); intro w15 hw15; subst hw15))
            go_roundg k1
            case measure => omega
            case rel => exact ⟨i + 1, put1 h x true, by first | rfl | (simp; done), ⟨by have := HI.out; omega⟩, HP2, HP1⟩
      by_cases k2 : k = 2
      · subst k2
        rcases rng with c1 | c1 | c1
        · have g1 : decide (0 ≤ x) = false := decide_eq_false (by omega)
          have hxf : h x = false := by cases e : h x with | false => rfl | true => exact absurd (T.out.dom x e).1 (by omega)
          have eA : doA h n 2 x = 0 := rfl
          have eB : doB h n 2 x = false := hxf
          have eH : doH h n 2 x = h := by show put1 h x false = h; funext y; unfold put1; split; (rename_i e; rw [e, hxf]); rfl
          clear c1 hxf
          go_wp2_with (first
            | (go_at_call 10; refine (do_calls T.out 2 x HX.out HI3.out).mono ?_; rintro e W1 ⟨rfl, hT, hgr⟩; rw [eA, eB]; rw [eH] at hT; have T1 := Aside0.mk hT; have O1 := Aside0.mk (Kd.R_grown1 HO.out rfl hgr HNB.out); have y0 := (T1.out.bel.cell bl0).trans HX0.out; have y1 := (T1.out.bel.cell bl1).trans HX1.out; clear hT hgr))
          go_roundg k1
          case measure => omega
          case rel => exact ⟨i + 1, h, by first | rfl | (simp; done), ⟨by have := HI.out; omega⟩, T1, O1⟩
        · have g1 : decide (0 ≤ x) = true := decide_eq_true (by have := HN.out; omega)
          have g2 : decide (x ≤ n) = false := decide_eq_false (by omega)
          have hxf : h x = false := by cases e : h x with | false => rfl | true => exact absurd (T.out.dom x e).2 (by omega)
          have eA : doA h n 2 x = 0 := rfl
          have eB : doB h n 2 x = false := hxf
          have eH : doH h n 2 x = h := by show put1 h x false = h; funext y; unfold put1; split; (rename_i e; rw [e, hxf]); rfl
          clear c1 hxf
          go_wp2_with (first
            | (go_at_call 10; refine (do_calls T.out 2 x HX.out HI3.out).mono ?_; rintro e W1 ⟨rfl, hT, hgr⟩; rw [eA, eB]; rw [eH] at hT; have T1 := Aside0.mk hT; have O1 := Aside0.mk (Kd.R_grown1 HO.out rfl hgr HNB.out); have y0 := (T1.out.bel.cell bl0).trans HX0.out; have y1 := (T1.out.bel.cell bl1).trans HX1.out; clear hT hgr))
          go_roundg k1
          case measure => omega
          case rel => exact ⟨i + 1, h, by first | rfl | (simp; done), ⟨by have := HI.out; omega⟩, T1, O1⟩
        · have g1 : decide (0 ≤ x) = true := decide_eq_true c1.1
          have g2 : decide (x ≤ n) = true := decide_eq_true c1.2
          have HIN := Aside0.mk c1
          have e1 : (if n < x then n else x) = x := by split <;> omega
          have e2 : (if 0 < x then x else 0) = x := by split <;> omega
          have j1 : (0 ≤ x) = True := eq_true c1.1
          have j2 : (x < (m : Int)) = True := eq_true (by have := HME.out; omega)
          cases hx : h x with
          | true =>
            have eA : doA h n 2 x = 0 := rfl
            have eB : doB h n 2 x = true := hx
            have eH : doH h n 2 x = put1 h x false := rfl
            clear c1
            go_wp2_with (first
              | (go_at_call 10; refine (do_calls T.out 2 x HX.out HI3.out).mono ?_; rintro e W1 ⟨rfl, hT, hgr⟩; rw [eA, eB]; rw [eH] at hT; have T1 := Aside0.mk hT; have O1 := Aside0.mk (Kd.R_grown1 HO.out rfl hgr HNB.out); have y0 := (T1.out.bel.cell bl0).trans HX0.out; have y1 := (T1.out.bel.cell bl1).trans HX1.out; clear hT hgr; obtain ⟨hcl, hfz⟩ := Kd.R_celln false O1.out x HIN.out.1 (by have := HME.out; have := HIN.out.2; omega); rw [heldB_rd h m x HIN.out.1 (by have := HME.out; have := HIN.out.2; omega), hx] at hcl; have hp := Kd.R_putg O1.out x false; rw [heldB_set h m x false HIN.out.1] at hp; have HP1 := Aside0.mk hp.1; have HP2 := Aside0.mk (T1.out.grown hp.2 (fun e => by have := HBG.out.1; have := HGH.out; have := Option.some.inj e; omega) (fun e => by have := HBG.out.2.1; have := HGH.out; have := Option.some.inj e; omega) (fun k e => by have := HBG.out.2.2; have := HGH.out; have := Option.some.inj e; omega)); clear hp)
              | ((with_reducible refine gate_store (t := 4) (p := 125) rfl ?_); refine store_event (t := 4) (p := 125) (v := ?vo) (w1 := (W1.setCell ⟨gh, x.toNat, none⟩ (.bool false))) ?hg ?ho ?hn ?hr ?_; (case ho => rfl); (case hg => rfl); (case hn => rfl); (case hr => first | (go_simp; done) | (go_simp; rfl)); intro w15 hw15; subst hw15))
            go_roundg k1
            case measure => omega
            case rel => exact ⟨i + 1, put1 h x false, by first | rfl | (simp; done), ⟨by have := HI.out; omega⟩, HP2, HP1⟩
          | false =>
            have eA : doA h n 2 x = 0 := rfl
            have eB : doB h n 2 x = false := hx
            have eH : doH h n 2 x = h := by show put1 h x false = h; funext y; unfold put1; split; (rename_i e; rw [e, hx]); rfl
            clear c1
            go_wp2_with (first
              | (go_at_call 10; refine (do_calls T.out 2 x HX.out HI3.out).mono ?_; rintro e W1 ⟨rfl, hT, hgr⟩; rw [eA, eB]; rw [eH] at hT; have T1 := Aside0.mk hT; have O1 := Aside0.mk (Kd.R_grown1 HO.out rfl hgr HNB.out); have y0 := (T1.out.bel.cell bl0).trans HX0.out; have y1 := (T1.out.bel.cell bl1).trans HX1.out; clear hT hgr; obtain ⟨hcl, hfz⟩ := Kd.R_celln false O1.out x HIN.out.1 (by have := HME.out; have := HIN.out.2; omega); rw [heldB_rd h m x HIN.out.1 (by have := HME.out; have := HIN.out.2; omega), hx] at hcl))
            go_roundg k1
            case measure => omega
            case rel => exact ⟨i + 1, h, by first | rfl | (simp; done), ⟨by have := HI.out; omega⟩, T1, O1⟩
      have inn : ∃ b1 b2 : Bool, decide (0 ≤ x) = b1 ∧ decide (x ≤ n) = b2 := ⟨_, _, rfl, rfl⟩
      obtain ⟨b1, b2, f1, f2⟩ := inn
      clear rng
      by_cases k1c : k = 1
      · subst k1c
        have q0 : ((1 : Int) == 0) = false := by decide
        have q1 : ((1 : Int) == 1) = true := by decide
        obtain ⟨L0, L1, L2, L3⟩ := takeL_spec h n HN.out.1
        obtain ⟨lo, hlo⟩ : ∃ lo : Nat, takeL h n = (lo : Int) := ⟨(takeL h n).toNat, by omega⟩
        rw [hlo] at L0 L1 L2 L3
        have LL := Aside0.mk (show ∀ y : Int, 0 ≤ y → y < (lo : Int) → h y = true from L2)
        have LB := Aside0.mk (show (lo : Int) ≤ n + 1 from L1)
        rcases Int.lt_or_le n (lo : Int) with cL | cL
        · have bB : takeB h n = false := by unfold takeB; rw [hlo]; exact decide_eq_false (by omega)
          have eA : doA h n 1 x = 0 := by show takeA h n = 0; unfold takeA; rw [bB]; rfl
          have eB : doB h n 1 x = false := bB
          have eH : doH h n 1 x = h := by show takeH h n = h; unfold takeH; rw [bB]; rfl
          have d8 : decide ((lo : Int) ≤ n) = false := decide_eq_false (by omega)
          have CL := Aside0.mk cL
          clear L0 L1 L2 L3 hlo bB cL k0 k2
          cases b1
          all_goals
            cases b2
          all_goals
            go_wp2_with (first
              | (go_at_call 10; refine (do_calls T.out 1 x HX.out HI3.out).mono ?_; rintro e W1 ⟨rfl, hT, hgr⟩; rw [eA, eB]; rw [eH] at hT; have T1 := Aside0.mk hT; have O1 := Aside0.mk (Kd.R_grown1 HO.out rfl hgr HNB.out); have y0 := (T1.out.bel.cell bl0).trans HX0.out; have y1 := (T1.out.bel.cell bl1).trans HX1.out; clear hT hgr))
            clear T HO
            go_loopg [12] lo (fun kq v12 w' => ∃ q : Nat, v12 = .int .i64 (q : Int) ∧ Aside0 (q + kq = lo) ∧ Aside0 (Tb W w' g bm n h (i + 1)) ∧ Aside0 (Kd.R Kd.bool 4 w' B (fun _ => True) (.slice (some ⟨gh, 0, none⟩) m ch) (heldB h m)))
            case atStart => exact ⟨0, rfl, ⟨by omega⟩, T1, O1⟩
            case round =>
              clear T1 O1 y0 y1 d8
              obtain ⟨q, rfl, HQ, T1, O1⟩ := hrel
              cases gk with
              | succ k3 =>
                have d8 : decide ((q : Int) ≤ n) = true := decide_eq_true (by have := HQ.out; have := LB.out; omega)
                obtain ⟨hcl, hfz⟩ := Kd.R_celln false O1.out (q : Int) (by omega) (by have := HQ.out; have := LB.out; have := HME.out; omega)
                rw [heldB_rd h m (q : Int) (by omega) (by have := HQ.out; have := LB.out; have := HME.out; omega), Int.toNat_natCast, LL.out (q : Int) (by omega) (by have := HQ.out; omega)] at hcl
                have p4 : (0 ≤ (q : Int)) = True := eq_true (by omega)
                have p5 : ((q : Int) < (m : Int)) = True := eq_true (by have := HQ.out; have := LB.out; have := HME.out; omega)
                have p6 : (q < m) = True := eq_true (by have := HQ.out; have := LB.out; have := HME.out; omega)
                have d9 : IntKind.i64.wrap ((q : Int) + 1) = ((q + 1 : Nat) : Int) := by rw [IntKind.wrap_i64]; have := HQ.out; have := LB.out; have := HN.out; omega
                clear hfz
                go_wp2
                go_roundg k3
                case measure => omega
                case rel => exact ⟨q + 1, by first | rfl | (simp; done), ⟨by have := HQ.out; omega⟩, T1, O1⟩
              | zero =>
                obtain ⟨e5⟩ : Aside0 (q = lo) := ⟨by have := HQ.out; omega⟩
                subst e5
                have d8 : decide ((q : Int) ≤ n) = false := decide_eq_false (by have := CL.out; omega)
                go_wp2
                go_roundg k1
                case measure => omega
                case rel => exact ⟨i + 1, h, by first | rfl | (simp; done), ⟨by have := HI.out; omega⟩, T1, O1⟩
        · have bB : takeB h n = true := by unfold takeB; rw [hlo]; exact decide_eq_true (by omega)
          have eA : doA h n 1 x = (lo : Int) := by show takeA h n = _; unfold takeA; rw [bB, hlo]; rfl
          have eB : doB h n 1 x = true := bB
          have eH : doH h n 1 x = put1 h (lo : Int) true := by show takeH h n = _; unfold takeH; rw [bB, hlo]; rfl
          have d8 : decide ((lo : Int) ≤ n) = true := decide_eq_true cL
          have CL := Aside0.mk cL
          have LF := Aside0.mk (L3 cL)
          clear L0 L1 L2 L3 hlo bB cL k0 k2
          cases b1
          all_goals
            cases b2
          all_goals
            go_wp2_with (first
              | (go_at_call 10; refine (do_calls T.out 1 x HX.out HI3.out).mono ?_; rintro e W1 ⟨rfl, hT, hgr⟩; rw [eA, eB]; rw [eH] at hT; have T1 := Aside0.mk hT; have O1 := Aside0.mk (Kd.R_grown1 HO.out rfl hgr HNB.out); have y0 := (T1.out.bel.cell bl0).trans HX0.out; have y1 := (T1.out.bel.cell bl1).trans HX1.out; clear hT hgr))
            clear T HO
            go_loopg [12] lo (fun kq v12 w' => ∃ q : Nat, v12 = .int .i64 (q : Int) ∧ Aside0 (q + kq = lo) ∧ Aside0 (Tb W w' g bm n (put1 h (lo : Int) true) (i + 1)) ∧ Aside0 (Kd.R Kd.bool 4 w' B (fun _ => True) (.slice (some ⟨gh, 0, none⟩) m ch) (heldB h m)))
            case atStart => exact ⟨0, rfl, ⟨by omega⟩, T1, O1⟩
            case round =>
              clear T1 O1 y0 y1 d8
              obtain ⟨q, rfl, HQ, T1, O1⟩ := hrel
              cases gk with
              | succ k3 =>
                have d8 : decide ((q : Int) ≤ n) = true := decide_eq_true (by have := HQ.out; have := LB.out; omega)
                obtain ⟨hcl, hfz⟩ := Kd.R_celln false O1.out (q : Int) (by omega) (by have := HQ.out; have := LB.out; have := HME.out; omega)
                rw [heldB_rd h m (q : Int) (by omega) (by have := HQ.out; have := LB.out; have := HME.out; omega), Int.toNat_natCast, LL.out (q : Int) (by omega) (by have := HQ.out; omega)] at hcl
                have p4 : (0 ≤ (q : Int)) = True := eq_true (by omega)
                have p5 : ((q : Int) < (m : Int)) = True := eq_true (by have := HQ.out; have := LB.out; have := HME.out; omega)
                have p6 : (q < m) = True := eq_true (by have := HQ.out; have := LB.out; have := HME.out; omega)
                have d9 : IntKind.i64.wrap ((q : Int) + 1) = ((q + 1 : Nat) : Int) := by rw [IntKind.wrap_i64]; have := HQ.out; have := LB.out; have := HN.out; omega
                clear hfz
                go_wp2
                go_roundg k3
                case measure => omega
                case rel => exact ⟨q + 1, by first | rfl | (simp; done), ⟨by have := HQ.out; omega⟩, T1, O1⟩
              | zero =>
                obtain ⟨e5⟩ : Aside0 (q = lo) := ⟨by have := HQ.out; omega⟩
                subst e5
                have d8 : decide ((q : Int) ≤ n) = true := decide_eq_true CL.out
                obtain ⟨hcl, hfz⟩ := Kd.R_celln false O1.out (q : Int) (by omega) (by have := CL.out; have := HME.out; omega)
                rw [heldB_rd h m (q : Int) (by omega) (by have := CL.out; have := HME.out; omega), Int.toNat_natCast, LF.out] at hcl
                rw [Int.toNat_natCast] at hfz
                have hp := Kd.R_putg O1.out (q : Int) true
                rw [heldB_set h m (q : Int) true (by omega), Int.toNat_natCast] at hp
                have HP1 := Aside0.mk hp.1
                have HP2 := Aside0.mk (T1.out.grown hp.2 (fun e => by have := HBG.out.1; have := HGH.out; have := Option.some.inj e; omega) (fun e => by have := HBG.out.2.1; have := HGH.out; have := Option.some.inj e; omega) (fun k e => by have := HBG.out.2.2; have := HGH.out; have := Option.some.inj e; omega))
                have p4 : (0 ≤ (q : Int)) = True := eq_true (by omega)
                have p5 : ((q : Int) < (m : Int)) = True := eq_true (by have := CL.out; have := HME.out; omega)
                have p6 : (q < m) = True := eq_true (by have := CL.out; have := HME.out; omega)
                clear hp
                go_wp2_with (first | ((with_reducible refine gate_store (t := 4) (p := 165) rfl ?_); refine store_event (t := 4) (p := 165) (v := ?vo) (w1 := (wr.setCell ⟨gh, q, none⟩ (.bool true))) ?hg ?ho ?hn ?hr ?_; (case ho => rfl); (case hg => rfl); (case hn => rfl); (case hr => first | (go_simp; done) | (go_simp; rfl)); intro w15 hw15; subst hw15))
                go_roundg k1
                case measure => omega
                case rel => exact ⟨i + 1, _, by first | rfl | (simp; done), ⟨by have := HI.out; omega⟩, HP2, HP1⟩
      · have q0 : (k == 0) = false := beq_eq_false_iff_ne.mpr k0
        have q1 : (k == 1) = false := beq_eq_false_iff_ne.mpr k1c
        have q2 : (k == 2) = false := beq_eq_false_iff_ne.mpr k2
        have eA : doA h n k x = 0 := by unfold doA; rw [if_neg k1c]
        have eB : doB h n k x = true := by unfold doB; rw [if_neg k0, if_neg k1c, if_neg k2]
        have eH : doH h n k x = h := by unfold doH; rw [if_neg k0, if_neg k1c, if_neg k2]
        cases b1
        all_goals
          cases b2
        all_goals
          go_wp2_with (first
            | (go_at_call 10; refine (do_calls T.out k x HX.out HI3.out).mono ?_; rintro e W1 ⟨rfl, hT, hgr⟩; rw [eA, eB]; rw [eH] at hT; have T1 := Aside0.mk hT; have O1 := Aside0.mk (Kd.R_grown1 HO.out rfl hgr HNB.out); have y0 := (T1.out.bel.cell bl0).trans HX0.out; have y1 := (T1.out.bel.cell bl1).trans HX1.out; clear hT hgr))
          go_roundg k1
          case measure => omega
          case rel => exact ⟨i + 1, h, by first | rfl | (simp; done), ⟨by have := HI.out; omega⟩, T1, O1⟩
    | zero =>
      have d1 : decide ((i : Int) < (l.length : Int)) = false := decide_eq_false (by have := HI.out; omega)
      have d1n : decide (i < l.length) = false := decide_eq_false (by have := HI.out; omega)
      have HI3 := Aside0.mk (show i < 1000000 by have := HI.out; have := HL.out; omega)
      go_wp2
      go_loopg [13, 14] m (fun kq v13 v14 w' => ∃ q : Nat, v14 = .int .i64 (q : Int) ∧ v13 = .int .i64 (cnt h q : Int) ∧ Aside0 (q + kq = m) ∧ Aside0 (Tb W w' g bm n h i) ∧ Aside0 (Kd.R Kd.bool 4 w' B (fun _ => True) (.slice (some ⟨gh, 0, none⟩) m ch) (heldB h m)))
      case atStart => exact ⟨0, rfl, rfl, ⟨by omega⟩, T, HO⟩
      case round =>
        clear T HO HI d1 d1n
        obtain ⟨q, rfl, rfl, HQ, T, HO⟩ := hrel
        cases gk with
        | succ k3 =>
          have d1 : decide ((q : Int) ≤ n) = true := decide_eq_true (by have := HQ.out; have := HME.out; omega)
          have HX := Aside0.mk (show (Lit.int .i64 (q : Int)).wf = true from wf_of (by omega) (by have := HQ.out; have := HME.out; have := HN.out; omega))
          have d5 : IntKind.i64.wrap ((q : Int) + 1) = ((q + 1 : Nat) : Int) := by rw [IntKind.wrap_i64]; have := HQ.out; have := HME.out; have := HN.out; omega
          have d6 : IntKind.i64.wrap ((cnt h q : Int) + 1) = ((cnt h q + 1 : Nat) : Int) := by rw [IntKind.wrap_i64]; have := cnt_le h q; have := HQ.out; have := HME.out; have := HN.out; omega
          have hq : q < m := by have := HQ.out; omega
          obtain ⟨hcl, hfz⟩ := Kd.R_celln false HO.out (q : Int) (by omega) (by omega)
          rw [heldB_rd h m (q : Int) (by omega) (by omega), Int.toNat_natCast] at hcl
          have hglt : (⟨gh, q, none⟩ : Addr).block < wr.drew.heap.size := World.block_lt_of_cell? wr _ hcl
          have TD := Aside0.mk (T.out.kept (below_drew1 (Below.refl _ _)))
          have OD := Aside0.mk (Kd.R_drew HO.out)
          have p1 : (0 ≤ (q : Int)) = True := eq_true (by omega)
          have p2 : ((q : Int) < (m : Int)) = True := eq_true (by omega)
          have p3 : (q < m) = True := eq_true hq
          clear hfz hq
          have hs := cnt_succ h q
          cases hx : h (q : Int) with
          | true =>
            rw [hx] at hcl
            rw [if_pos hx] at hs
            have HS := Aside0.mk hs
            clear hs
            go_wp2
            go_region_held3 (fun w' => w'.cell? ⟨gh, q, none⟩ = some (.bool true)) (first | exact (hb.cell hglt).trans hcl | go_keep) ((first | (go_at_call 12; refine (has_calls TD.out (q : Int) HX.out).mono ?_; rintro e W5 ⟨rfl, hb⟩; rw [hx])))
            have O5 := Aside0.mk (Kd.R_below OD.out hb)
            have T5 := Aside0.mk (TD.out.kept hb)
            have hc5 : W5.cell? ⟨gh, q, none⟩ = some (.bool true) := (hb.cell hglt).trans hcl
            clear hcl hb
            go_wp2
            go_roundg k3
            case measure => omega
            case rel => exact ⟨q + 1, by first | rfl | (simp; done), by rw [HS.out]; first | rfl | (simp; done), ⟨by have := HQ.out; omega⟩, T5, O5⟩
          | false =>
            rw [hx] at hcl
            rw [if_neg (by rw [hx]; decide), Nat.add_zero] at hs
            have HS := Aside0.mk hs
            clear hs
            go_wp2
            go_region_held3 (fun w' => w'.cell? ⟨gh, q, none⟩ = some (.bool false)) (first | exact (hb.cell hglt).trans hcl | go_keep) ((first | (go_at_call 12; refine (has_calls TD.out (q : Int) HX.out).mono ?_; rintro e W5 ⟨rfl, hb⟩; rw [hx])))
            have O5 := Aside0.mk (Kd.R_below OD.out hb)
            have T5 := Aside0.mk (TD.out.kept hb)
            have hc5 : W5.cell? ⟨gh, q, none⟩ = some (.bool false) := (hb.cell hglt).trans hcl
            clear hcl hb
            go_wp2
            go_roundg k3
            case measure => omega
            case rel => exact ⟨q + 1, by first | rfl | (simp; done), by rw [HS.out]; first | rfl | (simp; done), ⟨by have := HQ.out; omega⟩, T5, O5⟩
        | zero =>
          have d1 : decide ((q : Int) ≤ n) = false := decide_eq_false (by have := HQ.out; have := HME.out; omega)
          have hk : cnt h q = (heldL h n).length := by
            rw [cnt_held]
            congr 1
            have := HQ.out; have := HM.out; omega
          have HX1 := Aside0.mk (show (Lit.int .i64 (-1)).wf = true from wf_of (by omega) (by omega))
          have HX2 := Aside0.mk (show (Lit.int .i64 (n + 1)).wf = true from wf_of (by have := HN.out; omega) (by have := HN.out; omega))
          have u1 : h (-1) = false := by cases e : h (-1) with | false => rfl | true => exact absurd (T.out.dom _ e).1 (by omega)
          have u2 : h (n + 1) = false := by cases e : h (n + 1) with | false => rfl | true => exact absurd (T.out.dom _ e).2 (by omega)
          rw [hk]
          go_wp2_with (first
            | (go_at_call 13; refine (count_calls T.out (Nat.le_of_lt HI3.out)).mono ?_; rintro e W8 ⟨rfl, hb⟩; have T2 := Aside0.mk (T.out.kept hb); clear hb)
            | (go_at_call 12; refine (has_calls T3.out (n + 1) HX2.out).mono ?_; rintro e W10 ⟨rfl, hb⟩; rw [u2]; have T4 := Aside0.mk (T3.out.kept hb); clear hb)
            | (go_at_call 12; refine (has_calls T2.out (-1) HX1.out).mono ?_; rintro e W9 ⟨rfl, hb⟩; rw [u1]; have T3 := Aside0.mk (T2.out.kept hb); clear hb)
            | (go_at_call 8; refine (works_calls _).mono ?_; rintro e W11 ⟨rfl, hb⟩; have H3 := Aside0.mk (below_step T4.out.bel hb); clear hb))
          all_goals (go_ret; exact ⟨rfl, H3.out⟩)
end Go.Proofs.Ytidflacmiigbmaa.Tab
