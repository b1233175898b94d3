/- WindowMeets' walk: of two windows whose transfers and flows come in order, however late, none that comes is refused; for all inputs (of more than 300 acts: that the anchor holds). No condition of our own. -/
import Derived.Test.YtgamlcmjmlllaaaWmCome
import Derived.Deep.DeepCutAuto
import Derived.Deep.CutBlock
import Derived.Deep.RegionHeld3
namespace Go.Proofs.Ytgamlcmjmlllaaa.Wm
open Go.RowKit Go.Proofs.YtgamlcmjmlllaaaW.PrintWords Go.Proofs.YtgamlcmjmlllaaaW.PrintLast Go.Proofs.YtgamlcmjmlllaaaW.PrintMore Go.Proofs.Ytgamlcmjmlllaaa.PWindowMeets
set_option linter.unusedVariables false
def newS (a : Int) : Win := ⟨mn (mx a 1) 256, 0, 0, false, 0, mn (mx a 1) 256⟩
theorem new_calls {w0 W : World} (a : Int) (hB : Below w0.heap.size w0 W) : Calls Try.prog 10 #[.int .u32 a] W fun e W' => ∃ b : Nat, e = .returned (.pointer (some ⟨b, 0, none⟩)) ∧ IsW w0 W' b (newS a) ∧ Below w0.heap.size w0 W' ∧ Below W.heap.size W W' ∧ W.heap.size ≤ b :=
  window_New.calls a _ _ _ _ _ _ w0 W hB rfl
theorem Ws.made {w0 W : World} {g : Nat → Nat} {S : Nat → Win} (hB : Below w0.heap.size w0 W) (h0 : IsW w0 W (g 0) (S 0)) (h1 : IsW w0 W (g 1) (S 1)) (hne : g 0 ≠ g 1) : Ws w0 (W.alloc (.cells #[.pointer (some ⟨g 0, 0, none⟩), .pointer (some ⟨g 1, 0, none⟩)] 39)) W.heap.size g S := by
  refine ⟨hB.alloc hB.size _, heap_alloc_new W _, hB.size, fun k hk => ?_, hne⟩
  obtain rfl | rfl : k = 0 ∨ k = 1 := by omega
  · exact h0.alloc _
  · exact h1.alloc _
theorem St.made {w0 W : World} {pa : Nat} {g : Nat → Nat} {S : Nat → Win} (T : Ws w0 W pa g S) : St w0 (W.alloc (.cells #[.slice none 0 0, .slice none 0 0] 42)) pa W.heap.size g S (fun _ => .slice none 0 0) (fun _ => []) :=
  ⟨T.below (below_alloc (Below.refl _ _) _), heap_alloc_new W _, T.bel.size, fun k hk => Kd.R_nil _ _ _ _ _, fun b h => by simp [Value.ownBlock] at h⟩
theorem newS_G (a : Int) : 1 ≤ mn (mx a 1) 256 ∧ mn (mx a 1) 256 ≤ 256 := by
  constructor <;> unfold mn mx <;> (repeat' split) <;> omega
theorem mn_le (a b : Int) : mn a b ≤ a := by unfold mn; split <;> omega
theorem mn_0 (a b : Int) (ha : 0 ≤ a) (hb : 0 ≤ b) : 0 ≤ mn a b := by unfold mn; split <;> omega
theorem Inv.start {S : Nat → Win} {n0 n1 : Int} (h0 : S 0 = newS n0) (h1 : S 1 = newS n1) : Inv (upd (upd S 0 (begunS (S 0) (S 1).inn)) 1 (begunS (S 1) (S 0).inn)) (fun _ => []) 0 := by
  obtain ⟨a1, a2⟩ := newS_G n0
  obtain ⟨b1, b2⟩ := newS_G n1
  have e0 : upd (upd S 0 (begunS (S 0) (S 1).inn)) 1 (begunS (S 1) (S 0).inn) 0 = begunS (newS n0) (newS n1).inn := by rw [← h0, ← h1]; rfl
  have e1 : upd (upd S 0 (begunS (S 0) (S 1).inn)) 1 (begunS (S 1) (S 0).inn) 1 = begunS (newS n1) (newS n0).inn := by rw [← h0, ← h1]; rfl
  refine Inv.of_two ?_ ?_
  · rw [e0, e1]
    refine ⟨⟨rfl, ?_, Int.le_refl _, ?_, ?_, Int.le_refl _, b1, b2, fun f hf => by cases hf⟩, Int.le_refl _, Nat.le_refl _, rfl⟩
    · show 0 + mn (mn (mx n1 1) 256) 256 ≤ 0 + mn (mx n1 1) 256
      have := mn_le (mn (mx n1 1) 256) 256
      omega
    · exact mn_0 _ _ (by show 0 ≤ mn (mx n1 1) 256; omega) (by omega)
    · show 0 ≤ mn (mx n1 1) 256
      omega
  · rw [e0, e1]
    refine ⟨⟨rfl, ?_, Int.le_refl _, ?_, ?_, Int.le_refl _, a1, a2, fun f hf => by cases hf⟩, Int.le_refl _, Nat.le_refl _, rfl⟩
    · show 0 + mn (mn (mx n0 1) 256) 256 ≤ 0 + mn (mx n0 1) 256
      have := mn_le (mn (mx n0 1) 256) 256
      omega
    · exact mn_0 _ _ (by show 0 ≤ mn (mx n0 1) 256; omega) (by omega)
    · show 0 ≤ mn (mx n0 1) 256
      omega
theorem wf8 {a : Int} (h : (Lit.int .u8 a).wf = true) : 0 ≤ a ∧ a < 256 := by
  simp [Lit.wf, IntKind.min, IntKind.max, IntKind.bits, IntKind.signed] at h
  omega
theorem rd_wf (l : List Int) (hg : ∀ s ∈ l, (fun x : Int => (Lit.int .u8 x).wf = true) s) (i : Nat) (hi : i < l.length) : 0 ≤ rd l (i : Int) ∧ rd l (i : Int) < 256 := by
  have e : rd l (i : Int) = l[i] := by simp [rd, hi]
  rw [e]; exact wf8 (hg _ (List.getElem_mem hi))
theorem act_k (x : Int) (h0 : 0 ≤ x) (h1 : x < 256) : ∃ k : Nat, k < 2 ∧ Int.tmod x 2 = (k : Int) := by
  refine ⟨(Int.tmod x 2).toNat, ?_, ?_⟩
  · rw [Int.tmod_eq_emod_of_nonneg h0]; omega
  · rw [Int.tmod_eq_emod_of_nonneg h0]; omega
theorem act_m (x : Int) (h0 : 0 ≤ x) (h1 : x < 256) : ∃ m : Int, (m = 0 ∨ m = 1 ∨ m = 2 ∨ m = 3) ∧ Int.tmod (wrap64 (Int.tdiv x 2)) 4 = m := by
  have e : Int.tdiv x 2 = x / 2 := Int.tdiv_eq_ediv_of_nonneg h0
  have e2 : wrap64 (x / 2) = x / 2 := by unfold wrap64; omega
  refine ⟨_, ?_, rfl⟩
  rw [e, e2, Int.tmod_eq_emod_of_nonneg (by omega)]; omega
theorem cmp_le (a b : Int) (u : Nat) (ha : 0 ≤ a) (ha2 : a ≤ 1000000) (hb : 0 ≤ b) (hb2 : b ≤ 1000000) (h : a + (u : Int) ≤ b) : decide (wrap64 b < wrap64 (wrap64 a + (u : Int))) = false := by
  have e1 : wrap64 a = a := by unfold wrap64; omega
  have e2 : wrap64 b = b := by unfold wrap64; omega
  have e3 : wrap64 (a + (u : Int)) = a + (u : Int) := by unfold wrap64; omega
  rw [e1, e2, e3]
  exact decide_eq_false (by omega)
theorem msg_flow {w : World} {A : Option Addr} {n : Nat} {xs : List Msg} (h : Kd.C kMsg w A n xs) (j : Nat) (hj : j < n) : ∃ ad, A = some ad ∧ w.cell? (ad.add (j * 4)) = some (.bool (xs.getD j zMsg).flow) := by
  obtain ⟨ad, c, e, _, hK, hc0⟩ := Kd.C_get h zMsg (j : Int) (by omega) (by omega)
  have hc : ∀ i u, c[i]? = some u → w.cell? (ad.add (j * 4 + i)) = some u := hc0
  obtain rfl := kMsg_open hK
  exact ⟨ad, e, hc 0 _ rfl⟩
theorem under_take (l : List Msg) (j : Nat) (hj : j < l.length) : under (l.take (j + 1)) = under (l.take j) + (if (l.getD j zMsg).flow then 0 else 1) := by
  have e : l.getD j zMsg = l[j] := by simp [List.getD_eq_getElem?_getD, hj]
  rw [e, List.take_succ_eq_append_getElem hj, under_append]
theorem under_take_le (l : List Msg) (j : Nat) : under (l.take j) ≤ l.length :=
  Nat.le_trans (under_le _) (by rw [List.length_take]; exact Nat.min_le_right _ _)
theorem fin_two {S : Nat → Win} {i r r' : Nat} (h : Fin S i) (hr : r < 2) (e : r' = 1 - r) : ∃ S2 : Nat → Win, S2 = upd (upd S r (grantS (S r))) r' (toldS (upd S r (grantS (S r)) r') (S r).I (S r).G) ∧ Fin S2 i ∧ (S2 r').out = (S r).G ∧ (S2 r).inn = (S r).G ∧ (upd S r (grantS (S r)) r').kn = true ∧ 0 ≤ (S r).I ∧ (S r).I ≤ (upd S r (grantS (S r)) r').O ∧ (upd S r (grantS (S r)) r').O ≤ i ∧ 1 ≤ (S r).G ∧ (S r).G ≤ 256 := by
  subst e
  have e2 : upd S r (grantS (S r)) (1 - r) = S (1 - r) := upd_ne _ _ _ _ (by omega)
  obtain ⟨a1, a2, a3, a4, a5, a6⟩ := h r hr
  obtain ⟨b1, b2, b3, b4, b5, b6⟩ := h (1 - r) (by omega)
  rw [show 1 - (1 - r) = r by omega] at b1
  refine ⟨_, rfl, ?_, ?_, ?_, ?_, ?_, ?_, ?_, a4, a5⟩
  · rw [e2]; exact h.step hr
  · rw [upd_same, e2]; exact h.out hr
  · rw [upd_ne _ _ _ _ (by omega), upd_same]; rfl
  · rw [e2]; exact b6
  · omega
  · rw [e2]; omega
  · rw [e2]; exact b3
set_option maxHeartbeats 16000000 in
set_option maxRecDepth 100000 in
theorem WindowMeets_walk (n0 n1 : Int) (A : Option Addr) (c : Nat) (l : List Int) (W : World) (hn0 : (Lit.int .u32 n0).wf = true) (hn1 : (Lit.int .u32 n1).wf = true) (hm : l.length ≤ maxLen) (hr : Kd.C (Kd.int .u8) W A l.length l) (hc : l.length ≤ c) (hg : ∀ s ∈ l, (fun x : Int => (Lit.int .u8 x).wf = true) s) :
    Calls Try.prog 4 #[.int .u32 n0, .int .u32 n1, .slice A l.length c] W fun e W' => e = .returned (.bool true) ∧ Below W.heap.size W W' := by
  have HS := Aside0.mk (Below.refl W.heap.size W)
  have HR := Aside0.mk hr
  have HG := Aside0.mk hg
  by_cases big : 300 < (l.length : Int)
  · have b1 : decide (300 < (l.length : Int)) = true := decide_eq_true big
    have b2 : decide (300 < l.length) = true := decide_eq_true (by omega)
    clear hn0 hn1 hr hg hm big
    go_enter Try.func4, Try.ntmps4
    go_wp2_with (first
      | (go_at_call 9; refine (works_calls _).mono ?_; rintro e W3 ⟨rfl, hb⟩))
    all_goals (go_ret; exact ⟨rfl, hb⟩)
  have b1 : decide (300 < (l.length : Int)) = false := decide_eq_false big
  have b2 : decide (300 < l.length) = false := decide_eq_false (by omega)
  have HL := Aside0.mk (show l.length ≤ 300 by omega)
  have hu39 := Try.underlying39
  have hu42 := Try.underlying42
  have hu46 := Try.underlying46
  clear hn0 hn1 hr hg hm big
  go_enter Try.func4, Try.ntmps4
  go_wp2_with (first
    | (go_at_call 16; refine (begun_calls (k := 1) T3.out (by decide) (S 0).inn).mono ?_; rintro e W6 ⟨rfl, hT, hK⟩; have T4 := Aside0.mk hT; clear hT hK)
    | (go_at_call 16; refine (begun_calls (k := 0) T2.out (by decide) (S 1).inn).mono ?_; rintro e W5 ⟨rfl, hT, hK⟩; have T3 := Aside0.mk hT; clear hT hK; have cw3 := T3.out.cell (k := 1) (by decide))
    | (go_at_call 14; refine (left_calls (k := 1) T1.out (by decide)).mono ?_; rintro e W4 ⟨rfl, hT, hK⟩; have T2 := Aside0.mk hT; clear hT hK; have cw := T2.out.cell (k := 0) (by decide); have cw1 := T2.out.cell (k := 1) (by decide))
    | (go_at_call 14; refine (left_calls (k := 0) T0.out (by decide)).mono ?_; rintro e W3 ⟨rfl, hT, hK⟩; have T1 := Aside0.mk hT; clear hT hK; have cw := T1.out.cell (k := 1) (by decide))
    | (go_at_call 10; refine (new_calls n1 B0.out).mono ?_; rintro e W2 ⟨g1, rfl, hi, hb0, hb, hge⟩; obtain ⟨g, eg0, eg1⟩ : ∃ g : Nat → Nat, g 0 = g0 ∧ g 1 = g1 := ⟨fun j => if j = 0 then g0 else g1, rfl, rfl⟩; obtain ⟨S, es0, es1⟩ : ∃ S : Nat → Win, S 0 = newS n0 ∧ S 1 = newS n1 := ⟨fun j => if j = 0 then newS n0 else newS n1, rfl, rfl⟩; subst eg0; subst eg1; have T0 := Aside0.mk (Ws.made (S := S) hb0 (by rw [es0]; exact I0.out.below hb) (by rw [es1]; exact hi) (by have := I0.out.lt; omega)); have E0 := Aside0.mk es0; have E1 := Aside0.mk es1; clear hi hb0 hb hge es0 es1)
    | (go_at_call 10; refine (new_calls n0 HS.out).mono ?_; rintro e W1 ⟨g0, rfl, hi, hb0, hb, hge⟩; have B0 := Aside0.mk hb0; have I0 := Aside0.mk hi; clear hi hb0 hb hge))
  have HT := Aside0.mk (St.made T4.out)
  have HV := Aside0.mk (Inv.start E0.out E1.out)
  generalize W2.heap.size = pa at HT ⊢
  generalize W6.heap.size = wa at HT ⊢
  clear T0 T1 T2 T3 T4 E0 E1 B0 I0 HS cw cw1 cw3
  go_loopg [13] l.length (fun kq v13 w' => ∃ (i : Nat) (S : Nat → Win) (v : Nat → Value) (q : Nat → List Msg), v13 = .int .i64 (i : Int) ∧ Aside0 (i + kq = l.length) ∧ Aside0 (St W w' pa wa g S v q) ∧ Aside0 (Inv S q i))
  case atStart => exact ⟨0, _, _, _, rfl, ⟨by omega⟩, HT, HV⟩
  case round =>
    clear HT HV
    obtain ⟨i, S, v, q, rfl, HI, T, HV⟩ := hrel
    cases gk with
    | succ k1 =>
      have d1 : decide ((i : Int) < (l.length : Int)) = true := decide_eq_true (by have := HI.out; omega)
      have d1n : decide (i < l.length) = true := decide_eq_true (by have := HI.out; omega)
      have hi : i < l.length := by have := HI.out; omega
      obtain ⟨x0, x1⟩ := rd_wf l HG.out i hi
      obtain ⟨ad, eA, hcell⟩ := Kd.at_int (Kd.C_below HR.out T.out.ws.bel) (i : Int) (by omega) (by omega)
      subst eA
      have p1 : (0 ≤ (i : Int)) = True := eq_true (by omega)
      have p2 : ((i : Int) < (l.length : Int)) = True := eq_true (by omega)
      have p3 : (i < l.length) = True := eq_true hi
      rw [Int.toNat_natCast] at hcell
      have d5 : IntKind.i64.wrap ((i : Int) + 1) = ((i + 1 : Nat) : Int) := by rw [IntKind.wrap_i64]; have := HL.out; omega
      have hwx : wrap64 (rd l (i : Int)) = rd l (i : Int) := by unfold wrap64; omega
      obtain ⟨k, hk, ek⟩ := act_k _ x0 x1
      obtain ⟨m, hm, em⟩ := act_m _ x0 x1
      generalize rd l (i : Int) = x at hcell hwx ek em
      clear x0 x1 hi
      obtain ⟨k', ek'⟩ : ∃ k' : Nat, k' = 1 - k := ⟨_, rfl⟩
      have hk' : k' < 2 := by omega
      have w1 : IntKind.i64.wrap (1 - (k : Int)) = (k' : Int) := by rw [IntKind.wrap_i64]; omega
      have w2 : 1 - (k : Int) = (k' : Int) := by omega
      have j1 : (0 ≤ (k : Int)) = True := eq_true (by omega)
      have j2 : ((k : Int) < 2) = True := eq_true (by omega)
      have j3 : (k < 2) = True := eq_true hk
      have j4 : (0 ≤ (k' : Int)) = True := eq_true (by omega)
      have j5 : ((k' : Int) < 2) = True := eq_true (by omega)
      have j6 : (k' < 2) = True := eq_true hk'
      have HK := Aside0.mk (show k < 2 ∧ k' < 2 ∧ k' = 1 - k from ⟨hk, hk', ek'⟩)
      clear hk hk' ek'
      have cw := T.out.ws.cell HK.out.1
      have cy := T.out.cell HK.out.2.1
      have fy := T.out.frozen (k := k')
      go_upto_block 2 with fail
      go_cut [15] (fun v15 w' => ∃ (S : Nat → Win) (v : Nat → Value) (q : Nat → List Msg), Aside0 (St W w' pa wa g S v q) ∧ Aside0 (Inv S q (i + 1)))
      case first =>
        clear em hwx ek
        rcases hm with rfl | rfl | rfl | rfl
        · by_cases h0 : (S k).out = 0
          · have H0 := Aside0.mk h0
            clear h0
            go_wp2_with (first
              | (go_at_call 17; refine (sent_none T.out.ws HK.out.1 H0.out).mono ?_; rintro e w4 ⟨rfl, hs, hK⟩; have T1 := Aside0.mk (T.out.keep HK.out.1 hs hK); clear hs hK))
            go_meet
            case rel => exact ⟨_, _, _, T1, ⟨HV.out.more⟩⟩
          · have H0 := Aside0.mk h0
            have HB := Aside0.mk (HV.out.bounds HK.out.1)
            have HQ := Aside0.mk (show ((q k').length + 1) * 16 ≤ 140737488355328 by have := HV.out.len HK.out.2.1; have := HI.out; have := HL.out; omega)
            clear h0
            go_wp2_with (first
              | ((with_reducible refine gate_builtin (b := .append) (xs := #[.tmp 100, .tmp 102]) rfl ?_); at_builtin; refine Kd.R_append kMsg (w0 := W) W.heap.size rfl (.tmp 100) (.tmp 102) 41 46 (.agg #[.bool false, .int .u32 0, .int .u32 0, .int .u32 0]) 16 rfl Try.underlying41 info46 rfl (by decide) (by omega) (v k') (q k') zMsg [.bool false, .int .u32 0, .int .u32 0, .int .u32 0] (fun _ => True) (fun _ => False) rfl rfl ?aM (fun _ hk => hk.elim) (fun _ _ => trivial) ?aO ?aB ?aS ?aL ?_; (case aM => exact kMsg_made _ _ _ _); (case aO => exact T1.out.r k' HK.out.2.1); (case aB => exact T1.out.ws.bel); (case aS => exact T1.out.ws.bel.size); (case aL => have := HQ.out; omega); intro v22 w22 ho hb hg hat; obtain ⟨A22, c22, e22⟩ := Kd.R_slice ho; rw [List.length_append, List.length_singleton] at e22; subst e22; have T2 := Aside0.mk (T1.out.row HK.out.2.1 hb (fun b hlt hn => hg.block b hlt (fun e => hn e.symm)) ho (fun b e => by rcases hat with h | ⟨b2, h2, h3⟩; (exact Or.inl (h ▸ e)); (rw [h2] at e; injection e with e; omega))); have hw22 : w22.heap[wa]? = some (.cells #[v 0, v 1] 42 (0, 0)) := (hg.block wa (blk_lt T1.out.wy) (fun e => Kd.R_ne (T1.out.r k' HK.out.2.1) T1.out.wy (by decide) e)).trans T1.out.wy; have cw22 := blk_cell hw22 k'; have fw22 := blk_frozen hw22 k'; clear ho hb hg hat hw22)
              | ((with_reducible refine gate_store (t := 41) (p := 104) rfl ?_); refine store_event (t := 41) (p := 104) (v := ?vo) (w1 := (w22.setCell ⟨wa, k', none⟩ (.slice A22 _ c22))) ?hg ?ho ?hn ?hr ?_; (case ho => rfl); (case hg => rfl); (case hn => rfl); (case hr => first | (go_simp; done) | (go_simp; rfl)); intro w15 hw15; subst hw15)
              | (go_at_call 17; refine (sent_calls T.out.ws HK.out.1 (by have := HB.out; have := HI.out; have := HL.out; omega) (by have := HB.out; have := HI.out; have := HL.out; omega) H0.out).mono ?_; rintro e w4 ⟨rfl, hs, hK⟩; have T1 := Aside0.mk (T.out.keep HK.out.1 hs hK); clear hs hK; have cy1 := T1.out.cell HK.out.2.1))
            go_meet
            case rel => exact ⟨_, _, _, T2, ⟨by have h := HV.out.sent HK.out.1 H0.out; rw [← HK.out.2.2] at h; exact h⟩⟩
        · by_cases h0 : (S k).out = 0
          · have H0 := Aside0.mk h0
            clear h0
            go_wp2_with (first
              | (go_at_call 17; refine (sent_none T.out.ws HK.out.1 H0.out).mono ?_; rintro e w4 ⟨rfl, hs, hK⟩; have T1 := Aside0.mk (T.out.keep HK.out.1 hs hK); clear hs hK))
            go_meet
            case rel => exact ⟨_, _, _, T1, ⟨HV.out.more⟩⟩
          · have H0 := Aside0.mk h0
            have HB := Aside0.mk (HV.out.bounds HK.out.1)
            have HQ := Aside0.mk (show ((q k').length + 1) * 16 ≤ 140737488355328 by have := HV.out.len HK.out.2.1; have := HI.out; have := HL.out; omega)
            clear h0
            go_wp2_with (first
              | ((with_reducible refine gate_builtin (b := .append) (xs := #[.tmp 100, .tmp 102]) rfl ?_); at_builtin; refine Kd.R_append kMsg (w0 := W) W.heap.size rfl (.tmp 100) (.tmp 102) 41 46 (.agg #[.bool false, .int .u32 0, .int .u32 0, .int .u32 0]) 16 rfl Try.underlying41 info46 rfl (by decide) (by omega) (v k') (q k') zMsg [.bool false, .int .u32 0, .int .u32 0, .int .u32 0] (fun _ => True) (fun _ => False) rfl rfl ?aM (fun _ hk => hk.elim) (fun _ _ => trivial) ?aO ?aB ?aS ?aL ?_; (case aM => exact kMsg_made _ _ _ _); (case aO => exact T1.out.r k' HK.out.2.1); (case aB => exact T1.out.ws.bel); (case aS => exact T1.out.ws.bel.size); (case aL => have := HQ.out; omega); intro v22 w22 ho hb hg hat; obtain ⟨A22, c22, e22⟩ := Kd.R_slice ho; rw [List.length_append, List.length_singleton] at e22; subst e22; have T2 := Aside0.mk (T1.out.row HK.out.2.1 hb (fun b hlt hn => hg.block b hlt (fun e => hn e.symm)) ho (fun b e => by rcases hat with h | ⟨b2, h2, h3⟩; (exact Or.inl (h ▸ e)); (rw [h2] at e; injection e with e; omega))); have hw22 : w22.heap[wa]? = some (.cells #[v 0, v 1] 42 (0, 0)) := (hg.block wa (blk_lt T1.out.wy) (fun e => Kd.R_ne (T1.out.r k' HK.out.2.1) T1.out.wy (by decide) e)).trans T1.out.wy; have cw22 := blk_cell hw22 k'; have fw22 := blk_frozen hw22 k'; clear ho hb hg hat hw22)
              | ((with_reducible refine gate_store (t := 41) (p := 104) rfl ?_); refine store_event (t := 41) (p := 104) (v := ?vo) (w1 := (w22.setCell ⟨wa, k', none⟩ (.slice A22 _ c22))) ?hg ?ho ?hn ?hr ?_; (case ho => rfl); (case hg => rfl); (case hn => rfl); (case hr => first | (go_simp; done) | (go_simp; rfl)); intro w15 hw15; subst hw15)
              | (go_at_call 17; refine (sent_calls T.out.ws HK.out.1 (by have := HB.out; have := HI.out; have := HL.out; omega) (by have := HB.out; have := HI.out; have := HL.out; omega) H0.out).mono ?_; rintro e w4 ⟨rfl, hs, hK⟩; have T1 := Aside0.mk (T.out.keep HK.out.1 hs hK); clear hs hK; have cy1 := T1.out.cell HK.out.2.1))
            go_meet
            case rel => exact ⟨_, _, _, T2, ⟨by have h := HV.out.sent HK.out.1 H0.out; rw [← HK.out.2.2] at h; exact h⟩⟩
        · have HQ := Aside0.mk (show ((q k').length + 1) * 16 ≤ 140737488355328 by have := HV.out.len HK.out.2.1; have := HI.out; have := HL.out; omega)
          go_wp2_with (first
            | ((with_reducible refine gate_builtin (b := .append) (xs := #[.tmp 120, .tmp 125]) rfl ?_); at_builtin; refine Kd.R_append kMsg (w0 := W) W.heap.size rfl (.tmp 120) (.tmp 125) 41 46 (.agg #[.bool false, .int .u32 0, .int .u32 0, .int .u32 0]) 16 rfl Try.underlying41 info46 rfl (by decide) (by omega) (v k') (q k') (flowOf (S k)) [.bool true, .int .u32 (S k).I, .int .u32 (S k).G, .int .u32 (S k).O] (fun _ => True) (fun _ => False) rfl rfl ?aM (fun _ hk => hk.elim) (fun _ _ => trivial) ?aO ?aB ?aS ?aL ?_; (case aM => exact kMsg_made _ _ _ _); (case aO => exact T1.out.r k' HK.out.2.1); (case aB => exact T1.out.ws.bel); (case aS => exact T1.out.ws.bel.size); (case aL => have := HQ.out; omega); intro v22 w22 ho hb hg hat; obtain ⟨A22, c22, e22⟩ := Kd.R_slice ho; rw [List.length_append, List.length_singleton] at e22; subst e22; have T2 := Aside0.mk (T1.out.row HK.out.2.1 hb (fun b hlt hn => hg.block b hlt (fun e => hn e.symm)) ho (fun b e => by rcases hat with h | ⟨b2, h2, h3⟩; (exact Or.inl (h ▸ e)); (rw [h2] at e; injection e with e; omega))); have hw22 : w22.heap[wa]? = some (.cells #[v 0, v 1] 42 (0, 0)) := (hg.block wa (blk_lt T1.out.wy) (fun e => Kd.R_ne (T1.out.r k' HK.out.2.1) T1.out.wy (by decide) e)).trans T1.out.wy; have cw22 := blk_cell hw22 k'; have fw22 := blk_frozen hw22 k'; clear ho hb hg hat hw22)
            | ((with_reducible refine gate_store (t := 41) (p := 127) rfl ?_); refine store_event (t := 41) (p := 127) (v := ?vo) (w1 := (w22.setCell ⟨wa, k', none⟩ (.slice A22 _ c22))) ?hg ?ho ?hn ?hr ?_; (case ho => rfl); (case hg => rfl); (case hn => rfl); (case hr => first | (go_simp; done) | (go_simp; rfl)); intro w15 hw15; subst hw15)
            | (go_at_call 18; refine (grant_calls T.out.ws HK.out.1).mono ?_; rintro e w4 ⟨rfl, hs, hK⟩; have T1 := Aside0.mk (T.out.keep HK.out.1 hs hK); clear hs hK; have cy1 := T1.out.cell HK.out.2.1))
          go_meet
          case rel => exact ⟨_, _, _, T2, ⟨by have h := HV.out.grant HK.out.1; rw [← HK.out.2.2] at h; exact h⟩⟩
        · have TD := Aside0.mk (T.out.below (below_drew1 (Below.refl _ _)))
          go_wp2_with fail
          go_region_held3 (fun w' => w'.cell? ⟨pa, k, none⟩ = some (.pointer (some ⟨g k, 0, none⟩))) (first | exact T2.out.ws.cell HK.out.1 | go_keep) ((first | (go_at_call 19; refine (come_calls TD.out HK.out.1 HV.out (by have := HI.out; have := HL.out; omega)).mono ?_; rintro e w4 ⟨v4, rfl, hs⟩; have T2 := Aside0.mk hs; clear hs)))
          go_wp2_with fail
          go_meet
          case rel => exact ⟨_, _, _, T2, ⟨(HV.out.come HK.out.1).more⟩⟩
      case rest =>
        clear cw cy fy T HV em hwx ek w1 w2 j1 j2 j3 j4 j5 j6 HK hm hcell
        obtain ⟨S, v, q, T, HV⟩ := hcut
        go_wp2
        go_loopg [20] 2 (fun kq v20 w' => ∃ (r : Nat), v20 = .int .i64 (r : Int) ∧ Aside0 (r + kq = 2) ∧ Aside0 (St W w' pa wa g S v q))
        case atStart => exact ⟨0, rfl, ⟨rfl⟩, T⟩
        case round =>
          clear T
          obtain ⟨r, rfl, HRr, T⟩ := hrel
          cases gk with
          | succ k2 =>
            have hr2 : r < 2 := by have := HRr.out; omega
            obtain ⟨r', er'⟩ : ∃ r' : Nat, r' = 1 - r := ⟨_, rfl⟩
            have hr' : r' < 2 := by omega
            have c1 : decide ((r : Int) < 2) = true := decide_eq_true (by omega)
            have c2 : decide (r < 2) = true := decide_eq_true hr2
            have w1 : IntKind.i64.wrap (1 - (r : Int)) = (r' : Int) := by rw [IntKind.wrap_i64]; omega
            have w2 : 1 - (r : Int) = (r' : Int) := by omega
            have w3 : IntKind.i64.wrap ((r : Int) + 1) = ((r + 1 : Nat) : Int) := by rw [IntKind.wrap_i64]; omega
            have j1 : (0 ≤ (r : Int)) = True := eq_true (by omega)
            have j2 : ((r : Int) < 2) = True := eq_true (by omega)
            have j3 : (r < 2) = True := eq_true hr2
            have j4 : (0 ≤ (r' : Int)) = True := eq_true (by omega)
            have j5 : ((r' : Int) < 2) = True := eq_true (by omega)
            have j6 : (r' < 2) = True := eq_true hr'
            have HK := Aside0.mk (show r < 2 ∧ r' < 2 ∧ r' = 1 - r from ⟨hr2, hr', er'⟩)
            clear hr2 hr' er'
            have cw := T.out.ws.cell HK.out.1
            obtain ⟨A2, n2, ev2⟩ := Kd.R_slice (T.out.r r' HK.out.2.1)
            have EV := Aside0.mk ev2
            have HLq := Aside0.mk (show (q r').length ≤ 1000 by have := HV.out.len HK.out.2.1; have := HI.out; have := HL.out; omega)
            clear ev2
            go_wp2_with (first
              | (go_at_call 14; refine (left_calls T1.out.ws HK.out.2.1).mono ?_; rintro e w5 ⟨rfl, hs, hK⟩; have T2 := Aside0.mk (T1.out.keep HK.out.2.1 hs hK); clear hs hK; have cy2 := T2.out.cell HK.out.2.1; rw [EV.out] at cy2)
              | (go_at_call 14; refine (left_calls T.out.ws HK.out.1).mono ?_; rintro e w4 ⟨rfl, hs, hK⟩; have T1 := Aside0.mk (T.out.keep HK.out.1 hs hK); clear hs hK; have cw1 := T1.out.ws.cell HK.out.2.1))
            go_loopg [25, 26] (q r').length (fun kq v25 v26 w' => ∃ (j : Nat), v26 = .int .i64 (j : Int) ∧ v25 = .int .i64 ((under ((q r').take j) : Nat) : Int) ∧ Aside0 (j + kq = (q r').length) ∧ Aside0 (St W w' pa wa g S v q))
            case atStart => exact ⟨0, rfl, rfl, ⟨by omega⟩, T2⟩
            case round =>
              clear T T2 T1 cw cw1 cy2
              obtain ⟨j, rfl, rfl, HJ, T⟩ := hrel
              have cy2 := T.out.cell HK.out.2.1
              rw [EV.out] at cy2
              cases gk with
              | succ k3 =>
                have hj : j < (q r').length := by have := HJ.out; omega
                have d1 : decide ((j : Int) < ((q r').length : Int)) = true := decide_eq_true (by omega)
                have d1n : decide (j < (q r').length) = true := decide_eq_true hj
                have p1 : (0 ≤ (j : Int)) = True := eq_true (by omega)
                have p2 : ((j : Int) < ((q r').length : Int)) = True := eq_true (by omega)
                have p3 : (j < (q r').length) = True := eq_true hj
                have d5 : IntKind.i64.wrap ((j : Int) + 1) = ((j + 1 : Nat) : Int) := by rw [IntKind.wrap_i64]; have := HLq.out; omega
                have hR := T.out.r r' HK.out.2.1
                rw [EV.out] at hR
                obtain ⟨_, _, hC⟩ := Kd.R_reads' hR
                obtain ⟨ad2, eA2, hfl⟩ := msg_flow hC j hj
                subst eA2
                have hun := under_take (q r') j hj
                have HU := Aside0.mk (show under ((q r').take j) ≤ 1000 by have := under_take_le (q r') j; have := HLq.out; omega)
                cases hx : ((q r').getD j zMsg).flow with
                | true =>
                  rw [hx] at hfl hun
                  have HUN := Aside0.mk hun
                  clear hR hC hun hj hx
                  go_wp2
                  go_roundg k3
                  case measure => omega
                  case rel => exact ⟨j + 1, by first | rfl | (simp; done), by rw [HUN.out]; first | rfl | (simp; done), ⟨by have := HJ.out; omega⟩, T⟩
                | false =>
                  rw [hx] at hfl hun
                  have HUN := Aside0.mk hun
                  have d6 : IntKind.i64.wrap (((under ((q r').take j) : Nat) : Int) + 1) = ((under ((q r').take j) + 1 : Nat) : Int) := by rw [IntKind.wrap_i64]; have := HU.out; omega
                  clear hR hC hun hj hx
                  go_wp2
                  go_roundg k3
                  case measure => omega
                  case rel => exact ⟨j + 1, by first | rfl | (simp; done), by rw [HUN.out]; first | rfl | (simp; done), ⟨by have := HJ.out; omega⟩, T⟩
              | zero =>
                have d1 : decide ((j : Int) < ((q r').length : Int)) = false := decide_eq_false (by have := HJ.out; omega)
                have d1n : decide (j < (q r').length) = false := decide_eq_false (by have := HJ.out; omega)
                have hchk := HV.out.check HK.out.1
                rw [← HK.out.2.2] at hchk
                obtain ⟨_, _, _, _, b4, b5, _⟩ := HV.out.bounds HK.out.1
                obtain ⟨_, _, _, _, _, _, b6, b7, _⟩ := HV.out.bounds HK.out.2.1
                have hcmp : decide (wrap64 (S r').inn < wrap64 (wrap64 (S r).out + ((under ((q r').take j) : Nat) : Int))) = false := cmp_le _ _ _ (by omega) (by have := HI.out; have := HL.out; omega) (by omega) (by omega) (by rw [List.take_of_length_le (by have := HJ.out; omega)]; exact hchk)
                clear hchk b4 b5 b6 b7
                go_wp2
                go_roundg k2
                case measure => omega
                case rel => exact ⟨r + 1, by first | rfl | (simp; done), ⟨by have := HRr.out; omega⟩, T⟩
          | zero =>
            have c1 : decide ((r : Int) < 2) = false := decide_eq_false (by have := HRr.out; omega)
            have c2 : decide (r < 2) = false := decide_eq_false (by have := HRr.out; omega)
            go_wp2
            go_roundg k1
            case measure => omega
            case rel => exact ⟨i + 1, S, v, q, by first | rfl | (simp; done), ⟨by have := HI.out; omega⟩, T, HV⟩
    | zero =>
      have d1 : decide ((i : Int) < (l.length : Int)) = false := decide_eq_false (by have := HI.out; omega)
      have d1n : decide (i < l.length) = false := decide_eq_false (by have := HI.out; omega)
      have HI3 := Aside0.mk (show i ≤ 300 by have := HI.out; have := HL.out; omega)
      go_wp2
      go_loopg [27] 2 (fun kq v27 w' => ∃ (r : Nat) (S : Nat → Win) (v : Nat → Value) (q : Nat → List Msg), v27 = .int .i64 (r : Int) ∧ Aside0 (r + kq = 2) ∧ Aside0 (St W w' pa wa g S v q) ∧ Aside0 (Inv S q i) ∧ Aside0 (∀ r2, r2 < r → q r2 = []))
      case atStart => exact ⟨0, S, v, q, rfl, ⟨rfl⟩, T, HV, ⟨fun r2 h => absurd h (Nat.not_lt_zero _)⟩⟩
      case round =>
        clear T HV
        obtain ⟨r, S, v, q, rfl, HRr, T, HV, HE⟩ := hrel
        cases gk with
        | succ k2 =>
          have hr2 : r < 2 := by have := HRr.out; omega
          have c1 : decide ((r : Int) < 2) = true := decide_eq_true (by omega)
          have c2 : decide (r < 2) = true := decide_eq_true hr2
          have w3 : IntKind.i64.wrap ((r : Int) + 1) = ((r + 1 : Nat) : Int) := by rw [IntKind.wrap_i64]; omega
          have j1 : (0 ≤ (r : Int)) = True := eq_true (by omega)
          have j2 : ((r : Int) < 2) = True := eq_true (by omega)
          have j3 : (r < 2) = True := eq_true hr2
          have HK := Aside0.mk hr2
          clear hr2
          go_wp2
          go_loopg [191] (q r).length (fun kq v191 w' => ∃ (S : Nat → Win) (v : Nat → Value) (q : Nat → List Msg), Aside0 ((q r).length = kq) ∧ Aside0 (St W w' pa wa g S v q) ∧ Aside0 (Inv S q i) ∧ Aside0 (∀ r2, r2 < r → q r2 = []))
          case atStart => exact ⟨S, v, q, ⟨rfl⟩, T, HV, HE⟩
          case round =>
            clear T HV HE
            obtain ⟨S, v, q, HQ, T, HV, HE⟩ := hrel
            have cw := T.out.ws.cell HK.out
            have cy := T.out.cell HK.out
            obtain ⟨A2, n2, ev2⟩ := Kd.R_slice (T.out.r r HK.out)
            rw [HQ.out] at ev2
            rw [ev2] at cy
            clear ev2
            cases gk with
            | succ k3 =>
              have d2 : decide (0 < ((k3 + 1 : Nat) : Int)) = true := decide_eq_true (by omega)
              have d3 : decide (0 < (k3 : Int) + 1) = true := decide_eq_true (by omega)
              have TD := Aside0.mk (T.out.below (below_drew1 (Below.refl _ _)))
              go_wp2_with fail
              go_region_held3 (fun w' => w'.cell? ⟨pa, r, none⟩ = some (.pointer (some ⟨g r, 0, none⟩))) (first | exact T2.out.ws.cell HK.out | go_keep) ((first | (go_at_call 19; refine (come_calls TD.out HK.out HV.out (by have := HI3.out; omega)).mono ?_; rintro e w4 ⟨v4, rfl, hs⟩; have T2 := Aside0.mk hs; clear hs)))
              go_wp2_with fail
              go_roundg k3
              case measure => omega
              case rel => exact ⟨_, _, _, ⟨by rw [upd_same, List.length_tail, HQ.out]; rfl⟩, T2, ⟨HV.out.come HK.out⟩, ⟨fun r2 h => by rw [upd_ne _ _ _ _ (by omega)]; exact HE.out r2 h⟩⟩
            | zero =>
              have hnil := Aside0.mk (List.eq_nil_of_length_eq_zero HQ.out)
              go_wp2
              go_roundg k2
              case measure => omega
              case rel => exact ⟨r + 1, S, v, q, by first | rfl | (simp; done), ⟨by have := HRr.out; omega⟩, T, HV, ⟨fun r2 h => by
                rcases Nat.lt_or_ge r2 r with z | z
                · exact HE.out r2 z
                · obtain rfl : r2 = r := by omega
                  exact hnil.out⟩⟩
        | zero =>
          have c1 : decide ((r : Int) < 2) = false := decide_eq_false (by have := HRr.out; omega)
          have c2 : decide (r < 2) = false := decide_eq_false (by have := HRr.out; omega)
          have HF := Aside0.mk (HV.out.fin (fun k hk => HE.out k (by have := HRr.out; omega)))
          clear HV HE
          go_wp2
          go_loopg [28] 2 (fun kq v28 w' => ∃ (r : Nat) (S : Nat → Win), v28 = .int .i64 (r : Int) ∧ Aside0 (r + kq = 2) ∧ Aside0 (St W w' pa wa g S v q) ∧ Aside0 (Fin S i))
          case atStart => exact ⟨0, S, rfl, ⟨rfl⟩, T, HF⟩
          case round =>
            clear T HF c1 c2 HRr
            obtain ⟨r, S, rfl, HRr, T, HF⟩ := hrel
            cases gk with
            | succ k2 =>
              have hr2 : r < 2 := by have := HRr.out; omega
              obtain ⟨r', er'⟩ : ∃ r' : Nat, r' = 1 - r := ⟨_, rfl⟩
              have hr' : r' < 2 := by omega
              have c1 : decide ((r : Int) < 2) = true := decide_eq_true (by omega)
              have c2 : decide (r < 2) = true := decide_eq_true hr2
              have w1 : IntKind.i64.wrap (1 - (r : Int)) = (r' : Int) := by rw [IntKind.wrap_i64]; omega
              have w2 : 1 - (r : Int) = (r' : Int) := by omega
              have w3 : IntKind.i64.wrap ((r : Int) + 1) = ((r + 1 : Nat) : Int) := by rw [IntKind.wrap_i64]; omega
              have j1 : (0 ≤ (r : Int)) = True := eq_true (by omega)
              have j2 : ((r : Int) < 2) = True := eq_true (by omega)
              have j3 : (r < 2) = True := eq_true hr2
              have j4 : (0 ≤ (r' : Int)) = True := eq_true (by omega)
              have j5 : ((r' : Int) < 2) = True := eq_true (by omega)
              have j6 : (r' < 2) = True := eq_true hr'
              have HK := Aside0.mk (show r < 2 ∧ r' < 2 ∧ r' = 1 - r from ⟨hr2, hr', er'⟩)
              clear hr2 hr' er'
              obtain ⟨S2, hS2, hF2, eo, ei, f1, f2, f3, f4, f5, f6⟩ := fin_two HF.out HK.out.1 HK.out.2.2
              have HF2 := Aside0.mk hF2
              have HS2 := Aside0.mk hS2
              have FF := Aside0.mk (And.intro f1 (And.intro f2 (And.intro f3 (And.intro f4 (And.intro f5 f6)))))
              have d2 : ((S r).G == 0) = false := beq_eq_false_iff_ne.mpr (by omega)
              have d3 : decide ((S r).G = 0) = false := decide_eq_false (by omega)
              have hw : IntKind.i64.wrap (S r).I = (S r).I := by rw [IntKind.wrap_i64]; have := HI3.out; omega
              clear hF2 hS2 f1 f2 f3 f4 f5 f6 HF
              have cw := T.out.ws.cell HK.out.1
              go_wp2_with (first
                | (go_at_call 14; refine (left_calls T3.out.ws HK.out.1).mono ?_; rintro e w7 ⟨rfl, hs, hK⟩; have T4 := Aside0.mk (T3.out.keep HK.out.1 hs hK); clear hs hK; rw [ei])
                | (go_at_call 14; refine (left_calls T2.out.ws HK.out.2.1).mono ?_; rintro e w6 ⟨rfl, hs, hK⟩; have T3 := Aside0.mk (T2.out.keep HK.out.2.1 hs hK); clear hs hK; rw [eo]; have cw3 := T3.out.ws.cell HK.out.1)
                | (go_at_call 20; refine (told_calls T1.out.ws HK.out.2.1 (S r).I (S r).G (S r).O FF.out.1 ⟨FF.out.2.1, FF.out.2.2.1⟩ (by have := FF.out.2.2.2.1; have := HI3.out; omega) ⟨FF.out.2.2.2.2.1, FF.out.2.2.2.2.2⟩).mono ?_; rintro e w5 ⟨rfl, hs, hK⟩; rw [← HS2.out] at hs; have T2 := Aside0.mk (T1.out.keep HK.out.2.1 hs hK); clear hs hK; have cw2 := T2.out.ws.cell HK.out.2.1)
                | (go_at_call 18; refine (grant_calls T.out.ws HK.out.1).mono ?_; rintro e w4 ⟨rfl, hs, hK⟩; have T1 := Aside0.mk (T.out.keep HK.out.1 hs hK); clear hs hK; have cw1 := T1.out.ws.cell HK.out.2.1))
              go_roundg k2
              case measure => omega
              case rel => exact ⟨r + 1, S2, by first | rfl | (simp; done), ⟨by have := HRr.out; omega⟩, T4, HF2⟩
            | zero =>
              have c1 : decide ((r : Int) < 2) = false := decide_eq_false (by have := HRr.out; omega)
              have c2 : decide (r < 2) = false := decide_eq_false (by have := HRr.out; omega)
              go_wp2_with (first
                | (go_at_call 9; refine (works_calls _).mono ?_; rintro e W9 ⟨rfl, hb⟩; have H3 := Aside0.mk (below_step T.out.ws.bel hb); clear hb))
              all_goals (go_ret; exact ⟨rfl, H3.out⟩)
end Go.Proofs.Ytgamlcmjmlllaaa.Wm
