/- The table of first bytes, of which the rows tell what it holds: what each of its four cells holds when a call begins, and a world in which it lies so (the witness). No condition of our own. -/
import Derived.Test.YtbbgmokpniigfaaDoorRows
import Derived.ChangeSame
import Derived.ChangeVars
import Derived.JoinedOf
import Derived.RowKit
import Derived.FnData
namespace Go.Proofs.YtbbgmokpniigfaaDoor.Heads
open Go.ChangeShapes Go.WideShapes Go.RowKit
theorem named : Tryd.prog.globalNamed "bellwether/utf.heads" = some 0 := by kernel_rfl
theorem typed : (Tryd.prog.globals[0]?).map (·.type) = some 39 := by kernel_rfl
theorem cells39 : Tryd.prog.cellsOf 39 = 4 := by kernel_rfl
theorem cells5 : Tryd.prog.cellsOf 5 = 1 := by kernel_rfl
theorem int_of_trod {H : Type} {enc : TypeId × Value → H} {P : Program} {w : World} {base : Nat} {sp : Nat → Bool} {held : Bool} {fuel : Nat} {t : TypeId} {k : IntKind} {c : Value} {y : DataW H × List MemPlace}
    (ht : P.underlying t = some (.int k)) (h : DataW.trod enc P w base sp held fuel t [c] = some y) : ∃ n, c = .int k n ∧ y = (.lit (.int k n), []) := by
  cases fuel with
  | zero => simp [DataW.trod] at h
  | succ fuel =>
    cases c <;> simp [DataW.trod, ht] at h
    rename_i k' n
    obtain ⟨⟨rfl, _⟩, rfl⟩ := h
    exact ⟨n, rfl, rfl⟩
def cells4 : Array Value := #[.int .u8 0, .int .u8 192, .int .u8 224, .int .u8 240]
theorem cells_of_laid {W : World} (h : laidMet Tryd.prog [("bellwether/utf.heads", Rows.laid_bellwether_utf_heads)] W) : W.var? Tryd.prog "bellwether/utf.heads" = some cells4 := by
  obtain ⟨ps, ⟨g, t, cs, fuel, p, q, hg, ht, hvar, hd, _, _⟩, _⟩ := h
  obtain rfl := Option.some.inj (named.symm.trans hg)
  obtain rfl := Option.some.inj (typed.symm.trans ht)
  rw [hvar]
  congr 1
  obtain ⟨l⟩ := cs
  cases fuel with
  | zero => simp [DataW.trod] at hd
  | succ fuel =>
    simp only [DataW.trod, Tryd.underlying39, cells39, cells5] at hd
    split at hd
    · rename_i hl
      obtain ⟨c0, c1, c2, c3, rfl⟩ : ∃ c0 c1 c2 c3, l = [c0, c1, c2, c3] := by
        match l, hl with
        | [a, b, c, d], _ => exact ⟨a, b, c, d, rfl⟩
      have e : List.range 4 = [0, 1, 2, 3] := rfl
      rw [e] at hd
      simp only [Option.map_eq_some_iff, List.mapM_cons, List.mapM_nil, Option.bind_eq_bind, Option.bind_eq_some_iff, Option.pure_def, Option.some.injEq] at hd
      obtain ⟨xs, ⟨y0, h0, _, ⟨y1, h1, _, ⟨y2, h2, _, ⟨y3, h3, _, rfl, rfl⟩, rfl⟩, rfl⟩, rfl⟩, hx⟩ := hd
      obtain ⟨n0, rfl, rfl⟩ := int_of_trod Tryd.underlying5 h0
      obtain ⟨n1, rfl, rfl⟩ := int_of_trod Tryd.underlying5 h1
      obtain ⟨n2, rfl, rfl⟩ := int_of_trod Tryd.underlying5 h2
      obtain ⟨n3, rfl, rfl⟩ := int_of_trod Tryd.underlying5 h3
      simp [Rows.laid_bellwether_utf_heads] at hx
      obtain ⟨⟨rfl, rfl, rfl, rfl⟩, _⟩ := hx
      rfl
    · cases hd
/-- What the four cells hold when a call begins. -/
theorem heads {W : World} (h : laidMet Tryd.prog [("bellwether/utf.heads", Rows.laid_bellwether_utf_heads)] W) :
    W.cell? ⟨0, 0, none⟩ = some (.int .u8 0) ∧ W.cell? ⟨0, 1, none⟩ = some (.int .u8 192) ∧ W.cell? ⟨0, 2, none⟩ = some (.int .u8 224) ∧ W.cell? ⟨0, 3, none⟩ = some (.int .u8 240) :=
  ⟨World.var?_cell named (cells_of_laid h) 0, World.var?_cell named (cells_of_laid h) 1, World.var?_cell named (cells_of_laid h) 2, World.var?_cell named (cells_of_laid h) 3⟩
/-- A world in which the table lies. -/
noncomputable def laidWorld (os : Os) : World :=
  { World.holding Tryd.prog os ⟨#[], #[], []⟩ with heap := (World.holding Tryd.prog os ⟨#[], #[], []⟩).heap.modify 0 fun
      | .cells _ t frozen => .cells cells4 t frozen
      | o => o }
theorem laidWorld_row (os : Os) (args : Array Value) : ((laidWorld os).forCall (fun _ _ => 0) ⟨#[], args, []⟩).memory.heap[0]? = some (.cells cells4 39 (0, 0)) := by kernel_rfl
theorem laidWorld_laid (os : Os) (args : Array Value) : laidMet Tryd.prog [("bellwether/utf.heads", Rows.laid_bellwether_utf_heads)] ((laidWorld os).forCall (fun _ _ => 0) ⟨#[], args, []⟩).memory :=
  ⟨_, ⟨0, 39, cells4, 8, [], [], by kernel_rfl, by kernel_rfl, by kernel_rfl, by kernel_rfl, rfl, rfl⟩, by decide, fun b off h => by
    have h' : MemPlace.cell b off ∈ [MemPlace.cell 0 0, .cell 0 1, .cell 0 2, .cell 0 3] := h
    have hb : b = 0 := by
      simp at h'
      omega
    subst hb
    refine ⟨⟨_, _, laidWorld_row os args⟩, fun u v hc => ?_⟩
    simp only [World.cell?, laidWorld_row os args] at hc
    simp at h'
    rcases h' with rfl | rfl | rfl | rfl <;> simp [cells4] at hc⟩
end Go.Proofs.YtbbgmokpniigfaaDoor.Heads
