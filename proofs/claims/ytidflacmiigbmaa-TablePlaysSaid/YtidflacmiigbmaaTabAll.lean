/- All and Count of a table: the numbers that are held, rising (the library's maps.Keys and slices.Sorted by their contracts). No condition of our own. -/
import Derived.Test.YtidflacmiigbmaaTab
import Derived.Test.YtidflacmiigbmaaLaid
namespace Go.Proofs.Ytidflacmiigbmaa.Tab
open Go.RowKit Go.Maps Go.Sort Go.Shelf Go.Proofs.YtidflacmiigbmaaW.PrintWords Go.Proofs.YtidflacmiigbmaaW.PrintMore
set_option linter.unusedVariables false
variable {w0 W W' : World} {g bm : Nat} {most : Int} {h : Int → Bool} {N : Nat}
/-- The numbers that are held, rising. -/
def heldL (h : Int → Bool) (most : Int) : List Int := ((List.range (most.toNat + 1)).map fun i : Nat => (i : Int)).filter h
theorem mem_heldL (hd : ∀ x, h x = true → 0 ≤ x ∧ x ≤ most) (x : Int) : x ∈ heldL h most ↔ h x = true := by
  unfold heldL
  rw [List.mem_filter]
  constructor
  · exact fun z => z.2
  · intro z
    have := hd x z
    exact ⟨List.mem_map.2 ⟨x.toNat, List.mem_range.2 (by omega), by omega⟩, z⟩
theorem heldL_rising : (heldL h most).Pairwise (fun x y => x < y) := by
  unfold heldL
  refine List.Pairwise.filter _ ?_
  rw [List.pairwise_map]
  exact List.pairwise_lt_range.imp (fun hlt => by omega)
theorem heldL_sorted (l : List Int) (hp : l.Pairwise (fun x y => x < y)) : l.mergeSort (fun x y => decide (x ≤ y)) = l := by
  apply List.mergeSort_of_pairwise
  exact hp.imp (fun hlt => by simp; omega)
theorem Tb.perm (T : Tb w0 W g bm most h N) {n : Nat} {D : DataW Unit} (hown : W.ownsMap Try.prog 3 unitElem bm n D) (hh : ∀ x, (Lit.int .i64 x).wf = true → Maps.has D (.int .i64 x) = h x) : (heldL h most).Perm (intKeys D) := by
  have hnd : (heldL h most).Nodup := heldL_rising.imp (fun hlt => by omega)
  have hC : CollectedI D (fun _ => false) (heldL h most) := by
    refine ⟨hnd, fun x => ?_⟩
    rw [mem_heldL T.dom]
    by_cases c : (Lit.int .i64 x).wf = true
    · rw [hh x c]; simp
    · have hm : (Lit.int .i64 x).wf = true ∨ Maps.has D (.int .i64 x) = false := by
        cases e : Maps.has D (.int .i64 x) with
        | false => exact .inr rfl
        | true =>
          left
          obtain ⟨es, rfl, hko⟩ := hown.keysOf
          rw [has_eq, List.any_eq_true] at e
          obtain ⟨p, hp, hs⟩ := e
          obtain ⟨v, hv⟩ := hko p hp
          obtain ⟨y, _, hy, hl⟩ := Maps.keyOf_i64 Try.underlying3 hv
          rw [hy] at hs
          have : y = x := by simpa [Lit.sameKey] using hs
          rw [← this]; exact hl
      rcases hm with hm | hm
      · exact absurd hm c
      · rw [hm]
        constructor
        · intro z
          have := T.dom x z
          have := T.m0
          exact absurd (wf_of (by omega) (by omega)) c
        · intro z; exact absurd z.1 (by simp)
  exact hC.perm hown law3 Try.underlying3 (fun _ => rfl)
theorem sortsA (m : Nat) : AnyZI.SortsIn Try.prog Try.sortedA_ren Fence.wide m :=
  ⟨fun blk off cap ss W hH hblk hsz => callsIn_wide.2 (AnyM.slices_Sort_int Try.sortA blk off cap ss W hH hblk hsz),
   fun p cap W => callsIn_wide.2 (AnyM.slices_Sort_int_none Try.sortA p cap W)⟩
set_option maxHeartbeats 4000000 in
set_option maxRecDepth 100000 in
theorem all_calls (T : Tb w0 W g bm most h N) (hN : N ≤ 1000000) : Calls Try.prog 11 #[.pointer (some ⟨g, 0, none⟩)] W fun e W' => ∃ v, e = .returned v ∧ Kd.R (Kd.int .i64) 3 W' W.heap.size (fun _ => True) v (heldL h most) ∧ Below W.heap.size W W' := by
  have c1 := T.cell1
  obtain ⟨n, D, hn, hown, hh⟩ := T.map
  have hperm := Aside0.mk (T.perm hown hh)
  have hsz := hown.size_le
  clear hh T
  refine (callsIn_wide (n := 6)).1 ?_
  have hbl := hown.lt
  have hseq : SeqGives Fence.wide 2 Try.prog 30 #[.pointer (some ⟨W.heap.size, 0, none⟩)] encZ (fun ss => ss.Perm (intKeys D)) (Maps.size D) (W.alloc (.cells #[.map (some bm)] 48)) :=
    AnyZI.keys_gives (ρ := Try.keysA_ren) { Try.keysA with } Fence.wide _ trivial rfl (by omega) W.heap.size bm n D _ (by simp) (by simp) (by
      obtain ⟨es, clock, hb, Ft, hs, hD⟩ := hown
      exact ⟨es, clock, (Below.heap_alloc _ _ bm hbl).trans hb, Ft, hs, hD⟩)
  have cK : ∀ mb W, CallsIn Fence.wide 5 Try.prog 24 #[.map mb] W fun e w' => e = .returned (.func (.func 30) #[] #[.pointer (some ⟨W.heap.size, 0, none⟩)]) ∧ w' = W.alloc (.cells #[.map mb] 48) := fun mb W => AnyZI.keys_in Try.keysA Fence.wide 5 trivial rfl mb W
  have cS := AnyZI.sorted_in Try.sortedA Fence.wide 5 trivial trivial trivial trivial rfl (by omega) (sortsA _) (enters_of Try.func29 (by kernel_rfl) rfl) 30 #[.pointer (some ⟨W.heap.size, 0, none⟩)] trivial (enters_of Try.func30 (by kernel_rfl) rfl) _ _ (show Maps.size D ≤ maxLen by unfold maxLen; omega) (by omega) _ hseq
  change CallsIn _ _ Try.prog 23 _ _ _ at cS
  have hfK : Fence.wide.fn 24 := trivial
  have hfS : Fence.wide.fn 23 := trivial
  refine callsIn_of_wp Try.func11 rfl trivial ?_ rfl
  simp only [Try.ntmps11, List.size_toArray, List.length_cons, List.length_nil, Nat.reduceAdd, Nat.reduceSub, Array.replicate_succ, Array.replicate_zero, List.push_toArray, List.append_toArray, List.nil_append, List.cons_append]
  gi_wp2_with (first
    | (gi_at_call 24; refine (cK _ _).mono ?_; rintro e w' ⟨rfl, rfl⟩)
    | (gi_at_call 23; refine cS.mono ?_; rintro e w' ⟨v, ss, rfl, hS, hrow, hnil, hb⟩))
  go_ret
  have e1 : ss.mergeSort (fun x y => decide (x ≤ y)) = heldL h most := (mergeSort_of_perm_i (hS.trans hperm.out.symm)).trans (heldL_sorted _ heldL_rising)
  have e2 : ss.length = (heldL h most).length := (hS.trans hperm.out.symm).length_eq
  rw [e1, e2] at hrow
  exact ⟨v, rfl, Kd.R_of_own (ownsRow_base_a hrow (by simp)) (fun _ _ => trivial), ((Below.refl _ W).alloc (Nat.le_refl _) _).trans (hb.mono (by simp))⟩
set_option maxHeartbeats 4000000 in
set_option maxRecDepth 100000 in
theorem count_calls (T : Tb w0 W g bm most h N) (hN : N ≤ 1000000) : Calls Try.prog 13 #[.pointer (some ⟨g, 0, none⟩)] W fun e W' => e = .returned (.int .i64 ((heldL h most).length : Int)) ∧ Below W.heap.size W W' := by
  have HT := Aside0.mk T
  have HN := Aside0.mk hN
  clear T hN
  go_enter Try.func13, Try.ntmps13
  go_wp2_with (first | (go_at_call 11; refine (all_calls HT.out HN.out).mono ?_; rintro e W1 ⟨v, rfl, hR, hb⟩; obtain ⟨A, c, e1⟩ := Kd.R_slice hR; subst e1))
  go_ret
  exact ⟨rfl, hb⟩
end Go.Proofs.Ytidflacmiigbmaa.Tab
