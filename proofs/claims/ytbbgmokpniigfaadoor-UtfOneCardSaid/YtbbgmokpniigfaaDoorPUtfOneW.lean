/- The walk of UtfOne: the four bytes in memory of their own, so many of them as a slice, Right and whole of it, and the anchor. No condition of our own. -/
import Derived.Test.YtbbgmokpniigfaaDoorPUtfOnex
namespace Go.Proofs.YtbbgmokpniigfaaDoor.PUtfOne
open Go.RowKit Go.Proofs.YtbbgmokpniigfaaDoorW.PrintWords Go.Proofs.YtbbgmokpniigfaaDoorW.PrintLast Go.Proofs.YtbbgmokpniigfaaDoorW.PrintMore
attribute [local go_sem] max2_int min2_int max_two min_two max_three min_three max_four min_four
set_option linter.unusedVariables false
/-- What stays of the four bytes between the law's calls. -/
structure St4 (w : World) (b0 b1 b2 b3 : Int) (g : Nat) (W : World) : Prop where
  bel : Below w.heap.size w W
  hd : Hd W
  lt : g < W.heap.size
  c0 : W.cell? ⟨g, 0, none⟩ = some (.int .u8 b0)
  c1 : W.cell? ⟨g, 1, none⟩ = some (.int .u8 b1)
  c2 : W.cell? ⟨g, 2, none⟩ = some (.int .u8 b2)
  c3 : W.cell? ⟨g, 3, none⟩ = some (.int .u8 b3)
theorem St4.step {w : World} {b0 b1 b2 b3 : Int} {g : Nat} {W W' : World} (h : St4 w b0 b1 b2 b3 g W) (hb : Below W.heap.size W W') : St4 w b0 b1 b2 b3 g W' :=
  ⟨below_step h.bel hb, h.hd.below h.hd.size hb, Nat.lt_of_lt_of_le h.lt hb.size, (hb.cell (show (⟨g, 0, none⟩ : Addr).block < W.heap.size from h.lt)).trans h.c0, (hb.cell (show (⟨g, 1, none⟩ : Addr).block < W.heap.size from h.lt)).trans h.c1, (hb.cell (show (⟨g, 2, none⟩ : Addr).block < W.heap.size from h.lt)).trans h.c2, (hb.cell (show (⟨g, 3, none⟩ : Addr).block < W.heap.size from h.lt)).trans h.c3⟩
theorem St4.row {w : World} {b0 b1 b2 b3 : Int} {g : Nat} {W : World} (h : St4 w b0 b1 b2 b3 g W) (q : Nat) (hq : q < 5) : Kd.C (Kd.int .u8) W (some ⟨g, 0, none⟩) (([b0, b1, b2, b3] : List Int).take q).length (([b0, b1, b2, b3] : List Int).take q) := by
  refine Kd.C_of_reads (d := (0 : Int)) ⟨rfl, by rw [List.length_take]; simp; omega, fun hn => ⟨⟨g, 0, none⟩, rfl, fun j hj => ?_⟩⟩
  have hj4 : j < q ∧ j < 4 := by rw [List.length_take] at hj; simp at hj; omega
  have e : (([b0, b1, b2, b3] : List Int).take q).getD j 0 = ([b0, b1, b2, b3] : List Int).getD j 0 := by
    rw [List.getD_eq_getElem?_getD, List.getD_eq_getElem?_getD, List.getElem?_take_of_lt hj4.1]
  rw [e]
  obtain ⟨_, h4⟩ := hj4
  match j, h4 with
  | 0, _ => exact h.c0
  | 1, _ => exact h.c1
  | 2, _ => exact h.c2
  | 3, _ => exact h.c3
set_option maxHeartbeats 8000000 in
set_option maxRecDepth 100000 in
theorem one_go (k : Nat) (b0 b1 b2 b3 n : Int) (w : World) (hG : Hd w) (q : Nat) (hq : q < 5) (hn : Int.tmod (wrap64 n) 5 = (q : Int)) (t : Bool) (l : List Int) (hl : l = ([b0, b1, b2, b3] : List Int).take q) (f1 : utf_Right.f k l = some t) (f2 : lw02_whole.f k l = some t) (f3 : lw02_works.f k = some true) :
    Calls Tryd.prog 7 #[.agg #[.int .u8 b0, .int .u8 b1, .int .u8 b2, .int .u8 b3], .int .u8 n] w fun e w' => e = .returned (.bool true) ∧ Below w.heap.size w w' := by
  have F1 := Aside0.mk f1
  have F2 := Aside0.mk f2
  have F3 := Aside0.mk f3
  have HG := Aside0.mk hG
  have el : l.length = q := by rw [hl, List.length_take]; simp; omega
  have HR := Aside0.mk (fun (W : World) (g : Nat) (S : St4 w b0 b1 b2 b3 g W) => (show Kd.C (Kd.int .u8) W (some ⟨g, 0, none⟩) l.length l from by rw [hl]; exact S.row q hq))
  have H4 := Aside0.mk (show l.length ≤ 4 by omega)
  have hcut : ∀ (W : World) (g : Nat), (Instr.sliceAt 39 (.pointer (some ⟨g, 0, none⟩)) none (some (.int .i64 (Int.tmod (wrap64 n) 5))) none).run Tryd.prog W = .ok (.slice (some ⟨g, 0, none⟩) l.length 4) W := by
    intro W g
    rw [hn, el]
    have e4 : Tryd.prog.arrayLen 39 = 4 := by kernel_rfl
    have eE : Tryd.prog.elem 39 = 5 := by kernel_rfl
    obtain ⟨i0, hi0, _, _, _⟩ := info_parts info5
    rw [run_sliceAt_array_h W 39 ⟨g, 0, none⟩ (by rw [e4, eE]; exact Tryd.underlying39) .i64 (q : Int) (by omega) (by rw [e4]; omega), eE, e4]
    simp [sizeOf, typeInfo, hi0, Result.andThen, slicedAt, Addr.add]
  have hs := hG.size
  clear f1 f2 f3 hq hn hl el
  go_enter Tryd.func7, Tryd.ntmps7
  have hS := Aside0.mk (show St4 w b0 b1 b2 b3 w.heap.size (w.alloc (Obj.cells #[.int .u8 b0, .int .u8 b1, .int .u8 b2, .int .u8 b3] 39)) from ⟨below_alloc (Below.refl _ _) _, HG.out.below HG.out.size (below_alloc (Below.refl _ _) _), by simp, by simp only [World.cell?, heap_alloc_new]; rfl, by simp only [World.cell?, heap_alloc_new]; rfl, by simp only [World.cell?, heap_alloc_new]; rfl, by simp only [World.cell?, heap_alloc_new]; rfl⟩)
  cases t
  all_goals
    go_wp2_with (first
      | (go_at_call 18; refine (utf_Right.calls k _ _ l _ _ (HR.out _ _ hS.out) H4.out F1.out).mono ?_; rintro e w5 ⟨rfl, hb⟩; have S := Aside0.mk (hS.out.step hb); clear hS hb)
      | (go_at_call 19; refine (lw02_whole.calls k (fun k_ => k_ < w5.heap.size) _ _ l _ _ (Kd.V_mk H4.out (Kd.C_F (Kd.heap_int .u8) (HR.out _ _ S.out))) F2.out).mono ?_; rintro e w6 ⟨rfl, hb⟩; have S2 := Aside0.mk (S.out.step hb); clear S hb; have S := S2; clear S2)
      | (go_at_call 10; refine (lw02_works.calls k true _ S.out.hd F3.out).mono ?_; rintro e w9 ⟨rfl, hb⟩; have S2 := Aside0.mk (S.out.step hb); clear S hb; have S := S2; clear S2))
    go_ret
    exact ⟨rfl, S.out.bel⟩
end Go.Proofs.YtbbgmokpniigfaaDoor.PUtfOne
