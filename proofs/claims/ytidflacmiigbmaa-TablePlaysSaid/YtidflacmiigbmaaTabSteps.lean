/- Steps that came in, as they are read; and how many numbers below one are held. No condition of our own. -/
import Derived.Test.YtidflacmiigbmaaTabLaw
namespace Go.Proofs.Ytidflacmiigbmaa.Tab
open Go.RowKit Go.Maps Go.Proofs.YtidflacmiigbmaaW.PrintWords Go.Proofs.YtidflacmiigbmaaW.PrintMore
set_option linter.unusedVariables false
/-- What is done with a table. -/
structure Step where
  k : Int
  n : Int
def zStep : Step := ⟨0, 0⟩
def kStep : Kd Step := Kd.iso (Kd.pair (Kd.int .i64) (Kd.int .i64)) (fun x : Step => (x.k, x.n))
theorem kStep_open {w : World} {x : Step} {cs : List Value} (h : kStep.K w x cs) : cs = [.int .i64 x.k, .int .i64 x.n] := by
  obtain ⟨_, _, rfl, rfl, rfl⟩ := h
  exact rfl
theorem kStep_mk (w : World) (x : Step) : kStep.K w x [.int .i64 x.k, .int .i64 x.n] := ⟨[.int .i64 x.k], [.int .i64 x.n], rfl, rfl, rfl⟩
def rdS (xs : List Step) (i : Int) : Step := xs.getD i.toNat zStep
theorem at_step {w : World} {A : Option Addr} {n : Nat} {xs : List Step} (h : Kd.C kStep w A n xs) (i : Int) (h0 : 0 ≤ i) (h1 : i < n) : ∃ ad, A = some ad ∧ w.cell? (ad.add (i.toNat * 2)) = some (.int .i64 (rdS xs i).k) ∧ w.cell? ⟨(ad.add (i.toNat * 2)).block, (ad.add (i.toNat * 2)).off + 1, none⟩ = some (.int .i64 (rdS xs i).n) := by
  obtain ⟨ad, c, e, _, hK, hc0⟩ := Kd.C_get h zStep i h0 h1
  have hc : ∀ j u, c[j]? = some u → w.cell? (ad.add (i.toNat * 2 + j)) = some u := hc0
  obtain rfl := kStep_open hK
  exact ⟨ad, e, hc 0 _ rfl, by rw [← add_field _ _ 1 (by omega)]; exact hc 1 _ rfl⟩
theorem rdS_wf (l : List Step) (hg : ∀ s ∈ l, (fun x : Step => (Lit.int .i64 x.k).wf = true ∧ (Lit.int .i64 x.n).wf = true) s) (i : Nat) (hi : i < l.length) : (Lit.int .i64 (rdS l (i : Int)).k).wf = true ∧ (Lit.int .i64 (rdS l (i : Int)).n).wf = true := by
  have e : rdS l (i : Int) = l[i] := by simp [rdS, hi]
  rw [e]; exact hg _ (List.getElem_mem hi)
/-- So many numbers below j are held. -/
def cnt (h : Int → Bool) (j : Nat) : Nat := (List.range j).countP fun i : Nat => h (i : Int)
theorem cnt_le (h : Int → Bool) (j : Nat) : cnt h j ≤ j := by
  have := List.countP_le_length (p := fun i : Nat => h (i : Int)) (l := List.range j)
  rw [List.length_range] at this
  exact this
theorem cnt_succ (h : Int → Bool) (j : Nat) : cnt h (j + 1) = cnt h j + (if h (j : Int) = true then 1 else 0) := by
  unfold cnt
  rw [List.range_succ, List.countP_append]
  simp [List.countP_cons]
theorem cnt_held (h : Int → Bool) (most : Int) : (heldL h most).length = cnt h (most.toNat + 1) := by
  unfold heldL cnt
  rw [List.filter_map, List.length_map, ← List.countP_eq_length_filter]; rfl
end Go.Proofs.Ytidflacmiigbmaa.Tab
