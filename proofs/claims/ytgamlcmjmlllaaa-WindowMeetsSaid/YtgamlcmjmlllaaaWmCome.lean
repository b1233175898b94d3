/- WindowMeets' come: the first that is on its way to a window comes. No condition of our own. -/
import Derived.Test.YtgamlcmjmlllaaaWmMem
namespace Go.Proofs.Ytgamlcmjmlllaaa.Wm
open Go.RowKit Go.Proofs.YtgamlcmjmlllaaaW.PrintWords Go.Proofs.YtgamlcmjmlllaaaW.PrintLast Go.Proofs.YtgamlcmjmlllaaaW.PrintMore Go.Proofs.Ytgamlcmjmlllaaa.PWindowMeets
set_option linter.unusedVariables false
theorem info46 : (Try.prog.info? 46).map (fun i => (i.zero, i.size, i.bytes)) = some (some (.agg #[.bool false, .int .u32 0, .int .u32 0, .int .u32 0]), 4, 16) := by kernel_rfl
variable {w0 W W' : World} {pa wa : Nat} {g : Nat → Nat} {S : Nat → Win} {v : Nat → Value} {q : Nat → List Msg} {k i : Nat}
/-- The cells of the first. -/
theorem first_cells {A : Option Addr} {n : Nat} {x : Msg} {rest : List Msg} (h : Kd.C kMsg W A n (x :: rest)) (hn : 0 < n) : ∃ ad, A = some ad ∧ W.cell? ad = some (.bool x.flow) ∧ W.cell? ⟨ad.block, ad.off + 1, none⟩ = some (.int .u32 x.n) ∧ W.cell? ⟨ad.block, ad.off + 2, none⟩ = some (.int .u32 x.g) ∧ W.cell? ⟨ad.block, ad.off + 3, none⟩ = some (.int .u32 x.o) := by
  obtain ⟨ad, c, e, _, hK, hc0⟩ := Kd.C_get h zMsg 0 (by omega) (by omega)
  have hc : ∀ j u, c[j]? = some u → W.cell? (ad.add (0 + j)) = some u := fun j u hu => by have := hc0 j u hu; simpa using this
  obtain rfl := kMsg_open hK
  refine ⟨ad, e, hc 0 _ rfl, ?_, ?_, ?_⟩
  · exact hc 1 _ rfl
  · exact hc 2 _ rfl
  · exact hc 3 _ rfl
theorem cut46 (A : Option Addr) (n c : Nat) (h : 1 ≤ n) : ∀ W : World, (Instr.slice 41 (.slice A n c) (some (.int .i64 1)) none none).run Try.prog W = .ok (.slice (if c = 1 then A else A.map (·.add 4)) (n - 1) (c - 1)) W := by
  obtain ⟨i0, hi, hzz⟩ := Option.map_eq_some_iff.1 info46
  simp only [Prod.mk.injEq] at hzz
  exact cut_from (P := Try.prog) 41 46 .i64 Try.underlying41 hi 4 hzz.2.1 A n c 1 (by omega) (by omega)
set_option maxHeartbeats 8000000 in
set_option maxRecDepth 100000 in
theorem come_calls (T : St w0 W pa wa g S v q) (hk : k < 2) (hV : Inv S q i) (hi : i ≤ 1000) : Calls Try.prog 19 #[.pointer (some ⟨g k, 0, none⟩), .pointer (some ⟨wa, k, none⟩)] W fun e W' => ∃ v', e = .returned (.bool true) ∧ St w0 W' pa wa g (upd S k (comeS (S k) (q k))) v' (upd q k (q k).tail) := by
  have HT := Aside0.mk T
  have HV := Aside0.mk hV
  have hu46 := Try.underlying46
  have cw := T.cell hk
  have fw := T.frozen (k := k)
  obtain ⟨A, c, ev⟩ := Kd.R_slice (T.r k hk)
  rw [ev] at cw
  have hR := (T.r k hk)
  rw [ev] at hR
  obtain ⟨_, hc0, hC⟩ := Kd.R_reads' hR
  cases hq : q k with
  | nil =>
    rw [hq] at cw
    have e1 : comeS (S k) [] = S k := rfl
    have e2 : upd q k ([] : List Msg) = q := by rw [← hq]; exact upd_self q k
    rw [e1, upd_self, List.tail_nil, e2]
    clear T hV ev hR hc0 hC
    go_enter Try.func19, Try.ntmps19
    go_wp2
    go_ret
    exact ⟨rfl, v, HT.out⟩
  | cons x rest =>
    rw [hq] at cw hC hc0
    obtain ⟨ad, eA, c1, c2, c3, c4⟩ := first_cells hC (by simp)
    subst eA
    have hlen := hV.len hk
    rw [hq] at hlen
    have HL := Aside0.mk (show rest.length + 1 ≤ 1000 by simp at hlen; omega)
    have hkn := hV.kn hk
    obtain ⟨bO0, bO1, bI0, bI1, _, _, _, bi1, _, _⟩ := hV.bounds hk
    have HBd := Aside0.mk (show (S k).O ≤ 1000000 ∧ 0 ≤ (S k).I ∧ (S k).I ≤ 1000000 ∧ (S k).inn ≤ 256 by omega)
    obtain ⟨A1, hA1⟩ : ∃ A1, (if c = 1 then some ad else (some ad).map (·.add 4)) = A1 := ⟨_, rfl⟩
    have hcut : ∀ W : World, (Instr.slice 41 (.slice (some ad) (rest.length + 1) c) (some (.int .i64 1)) none none).run Try.prog W = .ok (.slice A1 rest.length (c - 1)) W := fun W => by rw [← hA1]; exact cut46 (some ad) (rest.length + 1) c (by omega) W
    have hC1 : Kd.C kMsg W A1 rest.length rest := by
      have h := Kd.C_drop (m := 1) hC (by simp) hc0
      rw [← hA1]; exact h
    have HC1 := Aside0.mk hC1
    have cw1 : W.cell? ⟨wa, k, none⟩ = some (.slice (some ad) (rest.length + 1) c) := cw
    have ev1 : v k = .slice (some ad) (rest.length + 1) c := by rw [ev, hq]; rfl
    have EV := Aside0.mk ev1
    have l1 : ((x :: rest).length : Int) = (rest.length : Int) + 1 := by simp
    have p1 : (0 < (rest.length : Int) + 1) = True := eq_true (by omega)
    have d1 : ((rest.length : Int) + 1 == 0) = false := beq_eq_false_iff_ne.mpr (by omega)
    have HW := Aside0.mk T.ws.bel.size
    clear T hV ev hR hC hC1 cw hc0 hlen hA1 bO0 bO1 bI0 bI1 bi1 ev1
    cases hx : x.flow with
    | true =>
      have hf := HV.out.flow hk hq hx
      have HF := Aside0.mk hf
      have hw : IntKind.i64.wrap x.n = x.n := by rw [IntKind.wrap_i64]; have := HBd.out; omega
      rw [hx] at c1
      have e1 : comeS (S k) (x :: rest) = toldS (S k) x.n x.g := by simp [comeS, hx]
      rw [e1, List.tail_cons]
      clear hf
      go_enter Try.func19, Try.ntmps19
      go_wp2_with (first
        | ((with_reducible refine gate_dst (N := 17) rfl ?_); refine Kd.R_lit kMsg _ 46 ?hg (N := 17) ?hd (xs := ([] : List Msg)) (inner := []) (ok := fun _ => True) (okp := fun _ => True) ?hr ?hp (fun _ hk => hk) trivial (Below.refl _ _) (Nat.le_refl _) (by simp) ?_; (case hd => rfl); (case hg => rfl); (case hr => first | (go_simp; done) | (go_simp; rfl)); (case hp => exact Reps.none _ _); intro v17 w17 ho17 hb17 hg17 hnew17; have T1 := Aside0.mk (HT.out.below (below_alloc (Below.refl _ _) (Obj.cells #[.bool true, .int .u32 x.n, .int .u32 x.g, .int .u32 x.o] 46))); have HX1 := Aside0.mk (heap_alloc_new W (Obj.cells #[.bool true, .int .u32 x.n, .int .u32 x.g, .int .u32 x.o] 46)); have HB17 := Aside0.mk hb17; have HN17 := Aside0.mk hnew17; have O17 := Aside0.mk (Kd.R_lower ho17 T1.out.ws.bel.size); have T17 := Aside0.mk (T1.out.below hb17); have cw17 := T17.out.cell hk; rw [EV.out] at cw17; have C17 := Aside0.mk (Kd.C_below (Kd.C_below HC1.out (below_alloc (Below.refl _ _) (Obj.cells #[.bool true, .int .u32 x.n, .int .u32 x.g, .int .u32 x.o] 46))) hb17); clear ho17 hb17 hg17 hnew17)
        | ((with_reducible refine gate_builtin (b := .append) (xs := #[.tmp 17, .tmp 21]) rfl ?_); at_builtin; refine Kd.R_append_rows kMsg (Rr := kMsg.K w17) (w0 := w0) w0.heap.size rfl (.tmp 17) (.tmp 21) 41 46 (.agg #[.bool false, .int .u32 0, .int .u32 0, .int .u32 0]) 16 rfl Try.underlying41 info46 rfl (by decide) (by omega) v17 [] rest A1 rest.length (c - 1) (fun _ => True) (fun _ => False) rfl rfl ?aO ?aR ?aK (fun _ hk => hk.elim) (fun _ _ => trivial) ?aB ?aS ?aL ?_; (case aO => exact O17.out); (case aR => exact C17.out); (case aK => exact fun y cs hy => by rw [kMsg_open hy]; exact kMsg_made _ _ _ _); (case aB => exact T17.out.ws.bel); (case aS => exact T17.out.ws.bel.size); (case aL => have := HL.out; simp; omega); intro v22 w22 ho hb hg hat; rw [List.nil_append] at ho; obtain ⟨A22, c22, e22⟩ := Kd.R_slice ho; subst e22; have hlow : ∀ b, b < (W.alloc (Obj.cells #[.bool true, .int .u32 x.n, .int .u32 x.g, .int .u32 x.o] 46)).heap.size → w22.heap[b]? = (W.alloc (Obj.cells #[.bool true, .int .u32 x.n, .int .u32 x.g, .int .u32 x.o] 46)).heap[b]? := (fun b hlt => by obtain ⟨b17, e17, h17⟩ := HN17.out; refine (hg.block b (Nat.lt_of_lt_of_le hlt HB17.out.size) (fun e => ?_)).trans (HB17.out.block b hlt); rw [e17] at e; injection e with e; omega); have T23 := Aside0.mk (T1.out.row hk hb (fun b hlt _ => hlow b hlt) ho (fun b e => Or.inr (by obtain ⟨b17, e17, h17⟩ := HN17.out; rcases hat with h | ⟨b2, h2, h3⟩; (rw [h, e17] at e; injection e with e; omega); (rw [h2] at e; injection e with e; have := HB17.out.size; omega)))); have hw22 : w22.heap[wa]? = some (.cells #[v 0, v 1] 42 (0, 0)) := (hlow wa (blk_lt T1.out.wy)).trans T1.out.wy; have cw22 := blk_cell hw22 k; have fw22 := blk_frozen hw22 k; have hx22 : w22.heap[W.heap.size]? = some (.cells #[.bool true, .int .u32 x.n, .int .u32 x.g, .int .u32 x.o] 46 (0, 0)) := (hlow _ (by simp)).trans HX1.out; have hx23 := blk_far (p := ⟨wa, k, none⟩) hx22 (fun e => by have := blk_lt HT.out.wy; simp at e; omega) (.slice A22 rest.length c22); have x0 := blk_cell hx23 0; have x1 := blk_cell hx23 1; have x2 := blk_cell hx23 2; have x3 := blk_cell hx23 3; clear ho hb hg hat hlow hw22 hx22 hx23)
        | ((with_reducible refine gate_store (t := 41) (p := 23) rfl ?_); refine store_event (t := 41) (p := 23) (v := ?vo) (w1 := (w22.setCell ⟨wa, k, none⟩ (.slice A22 rest.length c22))) ?hg ?ho ?hn ?hr ?_; (case ho => rfl); (case hg => rfl); (case hn => rfl); (case hr => first | (go_simp; done) | (go_simp; rfl)); intro w15 hw15; subst hw15)
        | (go_at_call 20; refine (told_calls T23.out.ws hk x.n x.g x.o hkn HF.out.2.2 HBd.out.1 ⟨HF.out.1, HF.out.2.1⟩).mono ?_; rintro e w30 ⟨rfl, hs, hK⟩; have TF := Aside0.mk (T23.out.keep hk hs hK); clear hs hK))
      go_ret
      exact ⟨_, rfl, TF.out⟩
    | false =>
      have hroom := HV.out.room hk hq hx
      have HF := Aside0.mk hroom
      rw [hx] at c1
      have e1 : comeS (S k) (x :: rest) = gotS (S k) := by simp [comeS, hx]
      rw [e1, List.tail_cons]
      clear hroom
      go_enter Try.func19, Try.ntmps19
      go_wp2_with (first
        | ((with_reducible refine gate_dst (N := 17) rfl ?_); refine Kd.R_lit kMsg _ 46 ?hg (N := 17) ?hd (xs := ([] : List Msg)) (inner := []) (ok := fun _ => True) (okp := fun _ => True) ?hr ?hp (fun _ hk => hk) trivial (Below.refl _ _) (Nat.le_refl _) (by simp) ?_; (case hd => rfl); (case hg => rfl); (case hr => first | (go_simp; done) | (go_simp; rfl)); (case hp => exact Reps.none _ _); intro v17 w17 ho17 hb17 hg17 hnew17; have T1 := Aside0.mk (HT.out.below (below_alloc (Below.refl _ _) (Obj.cells #[.bool false, .int .u32 x.n, .int .u32 x.g, .int .u32 x.o] 46))); have HX1 := Aside0.mk (heap_alloc_new W (Obj.cells #[.bool false, .int .u32 x.n, .int .u32 x.g, .int .u32 x.o] 46)); have HB17 := Aside0.mk hb17; have HN17 := Aside0.mk hnew17; have O17 := Aside0.mk (Kd.R_lower ho17 T1.out.ws.bel.size); have T17 := Aside0.mk (T1.out.below hb17); have cw17 := T17.out.cell hk; rw [EV.out] at cw17; have C17 := Aside0.mk (Kd.C_below (Kd.C_below HC1.out (below_alloc (Below.refl _ _) (Obj.cells #[.bool false, .int .u32 x.n, .int .u32 x.g, .int .u32 x.o] 46))) hb17); clear ho17 hb17 hg17 hnew17)
        | ((with_reducible refine gate_builtin (b := .append) (xs := #[.tmp 17, .tmp 21]) rfl ?_); at_builtin; refine Kd.R_append_rows kMsg (Rr := kMsg.K w17) (w0 := w0) w0.heap.size rfl (.tmp 17) (.tmp 21) 41 46 (.agg #[.bool false, .int .u32 0, .int .u32 0, .int .u32 0]) 16 rfl Try.underlying41 info46 rfl (by decide) (by omega) v17 [] rest A1 rest.length (c - 1) (fun _ => True) (fun _ => False) rfl rfl ?aO ?aR ?aK (fun _ hk => hk.elim) (fun _ _ => trivial) ?aB ?aS ?aL ?_; (case aO => exact O17.out); (case aR => exact C17.out); (case aK => exact fun y cs hy => by rw [kMsg_open hy]; exact kMsg_made _ _ _ _); (case aB => exact T17.out.ws.bel); (case aS => exact T17.out.ws.bel.size); (case aL => have := HL.out; simp; omega); intro v22 w22 ho hb hg hat; rw [List.nil_append] at ho; obtain ⟨A22, c22, e22⟩ := Kd.R_slice ho; subst e22; have hlow : ∀ b, b < (W.alloc (Obj.cells #[.bool false, .int .u32 x.n, .int .u32 x.g, .int .u32 x.o] 46)).heap.size → w22.heap[b]? = (W.alloc (Obj.cells #[.bool false, .int .u32 x.n, .int .u32 x.g, .int .u32 x.o] 46)).heap[b]? := (fun b hlt => by obtain ⟨b17, e17, h17⟩ := HN17.out; refine (hg.block b (Nat.lt_of_lt_of_le hlt HB17.out.size) (fun e => ?_)).trans (HB17.out.block b hlt); rw [e17] at e; injection e with e; omega); have T23 := Aside0.mk (T1.out.row hk hb (fun b hlt _ => hlow b hlt) ho (fun b e => Or.inr (by obtain ⟨b17, e17, h17⟩ := HN17.out; rcases hat with h | ⟨b2, h2, h3⟩; (rw [h, e17] at e; injection e with e; omega); (rw [h2] at e; injection e with e; have := HB17.out.size; omega)))); have hw22 : w22.heap[wa]? = some (.cells #[v 0, v 1] 42 (0, 0)) := (hlow wa (blk_lt T1.out.wy)).trans T1.out.wy; have cw22 := blk_cell hw22 k; have fw22 := blk_frozen hw22 k; have hx22 : w22.heap[W.heap.size]? = some (.cells #[.bool false, .int .u32 x.n, .int .u32 x.g, .int .u32 x.o] 46 (0, 0)) := (hlow _ (by simp)).trans HX1.out; have hx23 := blk_far (p := ⟨wa, k, none⟩) hx22 (fun e => by have := blk_lt HT.out.wy; simp at e; omega) (.slice A22 rest.length c22); have x0 := blk_cell hx23 0; have x1 := blk_cell hx23 1; have x2 := blk_cell hx23 2; have x3 := blk_cell hx23 3; clear ho hb hg hat hlow hw22 hx22 hx23)
        | ((with_reducible refine gate_store (t := 41) (p := 23) rfl ?_); refine store_event (t := 41) (p := 23) (v := ?vo) (w1 := (w22.setCell ⟨wa, k, none⟩ (.slice A22 rest.length c22))) ?hg ?ho ?hn ?hr ?_; (case ho => rfl); (case hg => rfl); (case hn => rfl); (case hr => first | (go_simp; done) | (go_simp; rfl)); intro w15 hw15; subst hw15)
        | (go_at_call 21; refine (got_calls T23.out.ws hk hkn ⟨HBd.out.2.1, HBd.out.2.2.1⟩ ⟨HF.out, HBd.out.2.2.2⟩).mono ?_; rintro e w30 ⟨rfl, hs, hK⟩; have TF := Aside0.mk (T23.out.keep hk hs hK); clear hs hK))
      go_ret
      exact ⟨_, rfl, TF.out⟩
end Go.Proofs.Ytgamlcmjmlllaaa.Wm
