/- A table by hand: what its memory is (one block of two cells, one map of the numbers that are held), and what New, Most, Has, Hold and Free do to it. No condition of our own. -/
import Derived.Test.YtidflacmiigbmaaProg
import Derived.Maps.OwnSet
import Derived.WideMake
import Derived.Maps.Ext
import Derived.Maps.Views
import Derived.WalkKit
import Derived.Below
import Derived.RowKit3
import Derived.OwnWalk
import Derived.Deep.LoopGhost
import Derived.Test.YtidflacmiigbmaaWWords
import Derived.Test.YtidflacmiigbmaaWMore
namespace Go.Proofs.Ytidflacmiigbmaa.Tab
open Go.RowKit Go.Maps Go.Proofs.YtidflacmiigbmaaW.PrintWords Go.Proofs.YtidflacmiigbmaaW.PrintMore
set_option linter.unusedVariables false
theorem law3 : Keyed Try.prog 3 := int_keyed Try.underlying3
theorem zero55 (w : World) : (zeroValue 55).run Try.prog w = .ok (.agg #[]) w := by kernel_rfl
/-- A table's memory: g its block, bm its map's; h tells which numbers are held. -/
structure Tb (w0 W : World) (g bm : Nat) (most : Int) (h : Int → Bool) (N : Nat) : Prop where
  bel : Below w0.heap.size w0 W
  gb : w0.heap.size ≤ g
  bb : w0.heap.size ≤ bm
  ne : g ≠ bm
  c0 : W.heap[g]? = some (.cells #[.int .i64 most, .map (some bm)] 50 (0, 0))
  map : ∃ (n : Nat) (D : DataW Unit), n ≤ N ∧ W.ownsMap Try.prog 3 unitElem bm n D ∧ (∀ x, (Lit.int .i64 x).wf = true → Maps.has D (.int .i64 x) = h x)
  m0 : 0 ≤ most ∧ most ≤ 65535
  dom : ∀ x, h x = true → 0 ≤ x ∧ x ≤ most
variable {w0 W W' : World} {g bm : Nat} {most : Int} {h : Int → Bool} {N : Nat}
theorem Tb.lt (T : Tb w0 W g bm most h N) : g < W.heap.size := (Array.getElem?_eq_some_iff.1 T.c0).1
theorem Tb.ltm (T : Tb w0 W g bm most h N) : bm < W.heap.size := by
  obtain ⟨n, D, _, ho, _⟩ := T.map
  exact ho.lt
theorem Tb.cell0 (T : Tb w0 W g bm most h N) : W.cell? ⟨g, 0, none⟩ = some (.int .i64 most) := by simp only [World.cell?, T.c0]; rfl
theorem Tb.cell1 (T : Tb w0 W g bm most h N) : W.cell? ⟨g, 1, none⟩ = some (.map (some bm)) := by simp only [World.cell?, T.c0]; rfl
/-- A table stays behind what writes other blocks alone. -/
theorem Tb.grown {row : Option Nat} (T : Tb w0 W g bm most h N) (hg : W.grownBy W' row) (h1 : some g ≠ row) (h2 : some bm ≠ row) (hr : ∀ k, row = some k → w0.heap.size ≤ k) : Tb w0 W' g bm most h N :=
  ⟨T.bel.grown hg T.bel.size hr, T.gb, T.bb, T.ne, (hg.block g T.lt h1).trans T.c0, by
    obtain ⟨n, D, hn, ho, hh⟩ := T.map
    exact ⟨n, D, hn, ho.kept hg h2, hh⟩, T.m0, T.dom⟩
theorem grown_of_below (hb : Below W.heap.size W W') : W.grownBy W' none := ⟨hb.os, hb.tape, hb.output, hb.size, fun k hk _ => hb.block k hk⟩
theorem Tb.kept (T : Tb w0 W g bm most h N) (hb : Below W.heap.size W W') : Tb w0 W' g bm most h N := T.grown (grown_of_below hb) (by simp) (by simp) (fun k e => by cases e)
theorem Tb.more {M : Nat} (T : Tb w0 W g bm most h N) (hm : N ≤ M) : Tb w0 W g bm most h M :=
  ⟨T.bel, T.gb, T.bb, T.ne, T.c0, by obtain ⟨n, D, hn, r⟩ := T.map; exact ⟨n, D, Nat.le_trans hn hm, r⟩, T.m0, T.dom⟩
theorem Tb.same {h' : Int → Bool} (T : Tb w0 W g bm most h N) (e : ∀ x, h x = h' x) : Tb w0 W g bm most h' N := by
  have : h = h' := funext e
  rw [← this]; exact T
set_option maxHeartbeats 4000000 in
set_option maxRecDepth 100000 in
theorem most_calls (T : Tb w0 W g bm most h N) : Calls Try.prog 17 #[.pointer (some ⟨g, 0, none⟩)] W fun e W' => e = .returned (.int .i64 most) ∧ Below W.heap.size W W' := by
  have c0 := T.cell0
  go_enter Try.func17, Try.ntmps17
  go_wp2
  go_ret
  exact ⟨rfl, by repeat (first | exact Below.refl _ _ | apply below_alloc | apply pw_below_drewN | apply below_drew1)⟩
set_option maxHeartbeats 4000000 in
set_option maxRecDepth 100000 in
theorem has_calls (T : Tb w0 W g bm most h N) (x : Int) (hx : (Lit.int .i64 x).wf = true) : Calls Try.prog 12 #[.pointer (some ⟨g, 0, none⟩), .int .i64 x] W fun e W' => e = .returned (.bool (h x)) ∧ Below W.heap.size W W' := by
  have c1 := T.cell1
  obtain ⟨n, D, hn, hown, hh⟩ := T.map
  have hkey := keyOf_int_mk Try.underlying3 hx
  rw [← hh x hx]
  clear hh T
  go_enter Try.func12, Try.ntmps12
  go_wp2_with (first
    | (at_lookup; refine wpList_lookup_own_unit _ rfl _ _ 48 rfl 3 55 law3 Try.underlying48 (zero55 _) bm n D rfl hown _ _ rfl hkey ?_)
    | go_in)
  go_ret
  exact ⟨rfl, by repeat (first | exact Below.refl _ _ | apply below_alloc | apply pw_below_drewN | apply below_drew1)⟩
/-- Whether Hold holds it. -/
def holdR (h : Int → Bool) (most x : Int) : Bool := decide (0 ≤ x) && decide (x ≤ most) && !h x
def put1 (h : Int → Bool) (x : Int) (b : Bool) : Int → Bool := fun y => if y = x then b else h y
theorem Tb.put (T : Tb w0 W g bm most h N) {n : Nat} {D : DataW Unit} (hn : n ≤ N) (hown : W.ownsMap Try.prog 3 unitElem bm n D) (hh : ∀ x, (Lit.int .i64 x).wf = true → Maps.has D (.int .i64 x) = h x) {x : Int} (hx : (Lit.int .i64 x).wf = true) (h0 : 0 ≤ x) (h1 : x ≤ most)
    (hown1 : W'.ownsMap Try.prog 3 unitElem bm (n + 1) (D.put (.int .i64 x) (.agg []))) (ht : W.mapTurned W' bm) : Tb w0 W' g bm most (put1 h x true) (N + 1) :=
  ⟨T.bel.grown ht.grown T.bel.size (fun k e => by cases e; exact T.bb), T.gb, T.bb, T.ne, (ht.grown.block g T.lt (fun e => T.ne (Option.some.inj e))).trans T.c0,
    ⟨n + 1, _, by omega, hown1, fun y hy => by
      unfold put1
      by_cases e : y = x
      · subst e; rw [if_pos rfl]; exact Maps.has_put_same hown.isMap (by simp [WideAt.IsKeyLit]) _
      · rw [if_neg e, ← hh y hy]; exact Maps.has_put_other (fun z => e (by injection z)) _⟩, T.m0, fun y hy => by
      unfold put1 at hy
      by_cases e : y = x
      · subst e; exact ⟨h0, h1⟩
      · rw [if_neg e] at hy; exact T.dom y hy⟩
theorem Tb.del (T : Tb w0 W g bm most h N) {n : Nat} {D : DataW Unit} (hn : n ≤ N) (hh : ∀ x, (Lit.int .i64 x).wf = true → Maps.has D (.int .i64 x) = h x) {x : Int}
    (hown1 : W'.ownsMap Try.prog 3 unitElem bm n (D.del (.int .i64 x))) (ht : W.mapTurned W' bm) : Tb w0 W' g bm most (put1 h x false) N :=
  ⟨T.bel.grown ht.grown T.bel.size (fun k e => by cases e; exact T.bb), T.gb, T.bb, T.ne, (ht.grown.block g T.lt (fun e => T.ne (Option.some.inj e))).trans T.c0,
    ⟨n, _, hn, hown1, fun y hy => by
      unfold put1
      by_cases e : y = x
      · subst e; rw [if_pos rfl]; exact Maps.has_del_same
      · rw [if_neg e, ← hh y hy]; exact Maps.has_del_other (fun z => e (by injection z))⟩, T.m0, fun y hy => by
      unfold put1 at hy
      by_cases e : y = x
      · rw [if_pos e] at hy; cases hy
      · rw [if_neg e] at hy; exact T.dom y hy⟩
theorem wf_of {x : Int} (h0 : -9223372036854775808 ≤ x) (h1 : x ≤ 9223372036854775807) : (Lit.int .i64 x).wf = true := by
  simp [Lit.wf, IntKind.min, IntKind.max, IntKind.bits, IntKind.signed]
  omega
set_option maxHeartbeats 4000000 in
set_option maxRecDepth 100000 in
theorem hold_calls (T : Tb w0 W g bm most h N) (x : Int) (hx : (Lit.int .i64 x).wf = true) (hN : N < 1000000) : Calls Try.prog 15 #[.pointer (some ⟨g, 0, none⟩), .int .i64 x] W fun e W' => e = .returned (.bool (holdR h most x)) ∧ Tb w0 W' g bm most (if holdR h most x = true then put1 h x true else h) (if holdR h most x = true then N + 1 else N) ∧ W.grownBy W' (some bm) := by
  have HT := Aside0.mk T
  unfold holdR
  by_cases a1 : x < 0
  · have a1b : decide (x < 0) = true := decide_eq_true a1
    have e : (decide (0 ≤ x) && decide (x ≤ most) && !h x) = false := by simp; omega
    rw [e]
    go_enter Try.func15, Try.ntmps15
    go_wp2
    go_ret
    exact ⟨rfl, by simpa using HT.out, ⟨rfl, rfl, rfl, Nat.le_refl _, fun _ _ _ => rfl⟩⟩
  have a1b : decide (x < 0) = false := decide_eq_false a1
  by_cases a2 : most < x
  · have a2b : decide (most < x) = true := decide_eq_true a2
    have e : (decide (0 ≤ x) && decide (x ≤ most) && !h x) = false := by simp; omega
    rw [e]
    go_enter Try.func15, Try.ntmps15
    go_wp2_with (first | (go_at_call 17; refine (most_calls HT.out).mono ?_; rintro e W1 ⟨rfl, hb⟩))
    go_ret
    exact ⟨rfl, by simpa using HT.out.kept hb, ⟨hb.os, hb.tape, hb.output, hb.size, fun k hk _ => hb.block k hk⟩⟩
  have a2b : decide (most < x) = false := decide_eq_false a2
  cases a3 : h x with
  | true =>
    have e : (decide (0 ≤ x) && decide (x ≤ most) && !true) = false := by simp
    rw [e]
    go_enter Try.func15, Try.ntmps15
    go_wp2_with (first
      | (go_at_call 17; refine (most_calls HT.out).mono ?_; rintro e W1 ⟨rfl, hb⟩; have T1 := Aside0.mk (HT.out.kept hb); have G1 := Aside0.mk (grown_of_below hb); clear hb)
      | (go_at_call 12; refine (has_calls T1.out x hx).mono ?_; rintro e W2 ⟨rfl, hb⟩; rw [a3]; have T2 := Aside0.mk (T1.out.kept hb); have G2 := Aside0.mk (grown_of_below hb); clear hb))
    go_ret
    exact ⟨rfl, by simpa using T2.out, ⟨G2.out.os.trans G1.out.os, G2.out.tape.trans G1.out.tape, G2.out.output.trans G1.out.output, Nat.le_trans G1.out.size G2.out.size, fun k hk _ => (G2.out.block k (Nat.lt_of_lt_of_le hk G1.out.size) (by simp)).trans (G1.out.block k hk (by simp))⟩⟩
  | false =>
    have e : (decide (0 ≤ x) && decide (x ≤ most) && !false) = true := by simp; omega
    rw [e]
    have hkey := keyOf_int_mk Try.underlying3 hx
    go_enter Try.func15, Try.ntmps15
    go_wp2_with (first
      | (go_at_call 17; refine (most_calls HT.out).mono ?_; rintro e W1 ⟨rfl, hb⟩; have T1 := Aside0.mk (HT.out.kept hb); have G1 := Aside0.mk (grown_of_below hb); clear hb)
      | (go_at_call 12; refine (has_calls T1.out x hx).mono ?_; rintro e W2 ⟨rfl, hb⟩; rw [a3]; have T2 := Aside0.mk (T1.out.kept hb); have G2 := Aside0.mk (grown_of_below hb); clear hb; have c1 := T2.out.cell1; obtain ⟨n, D, hn, hown, hh⟩ := T2.out.map; have HH := Aside0.mk hh; clear hh)
      | (at_mapUpdate; refine wpList_mapUpdate_in _ rfl _ _ _ 48 rfl 3 55 law3 Try.underlying48 _ bm n D rfl hown (by unfold maxLen; omega) _ _ _ rfl rfl hkey _ [] unitElem_mk ?_; intro w1 hown1 hturn1)
      | go_in)
    go_ret
    exact ⟨rfl, T2.out.put hn hown HH.out hx (by omega) (by omega) hown1 hturn1, ⟨hturn1.grown.os.trans (G2.out.os.trans G1.out.os), hturn1.grown.tape.trans (G2.out.tape.trans G1.out.tape), hturn1.grown.output.trans (G2.out.output.trans G1.out.output), Nat.le_trans G1.out.size (Nat.le_trans G2.out.size hturn1.grown.size), fun k hk hne => (hturn1.grown.block k (Nat.lt_of_lt_of_le hk (Nat.le_trans G1.out.size G2.out.size)) hne).trans ((G2.out.block k (Nat.lt_of_lt_of_le hk G1.out.size) (by simp)).trans (G1.out.block k hk (by simp)))⟩⟩
set_option maxHeartbeats 4000000 in
set_option maxRecDepth 100000 in
theorem free_calls (T : Tb w0 W g bm most h N) (x : Int) (hx : (Lit.int .i64 x).wf = true) : Calls Try.prog 16 #[.pointer (some ⟨g, 0, none⟩), .int .i64 x] W fun e W' => e = .returned (.bool (h x)) ∧ Tb w0 W' g bm most (put1 h x false) N ∧ W.grownBy W' (some bm) := by
  have HT := Aside0.mk T
  cases a3 : h x with
  | false =>
    go_enter Try.func16, Try.ntmps16
    go_wp2_with (first
      | (go_at_call 12; refine (has_calls HT.out x hx).mono ?_; rintro e W2 ⟨rfl, hb⟩; rw [a3]))
    go_ret
    exact ⟨rfl, (HT.out.kept hb).same (fun y => by unfold put1; by_cases e : y = x; (rw [if_pos e, e, a3]); (rw [if_neg e])), ⟨hb.os, hb.tape, hb.output, hb.size, fun k hk _ => hb.block k hk⟩⟩
  | true =>
    have hkey := keyOf_int_mk Try.underlying3 hx
    go_enter Try.func16, Try.ntmps16
    go_wp2_with (first
      | (go_at_call 12; refine (has_calls HT.out x hx).mono ?_; rintro e W2 ⟨rfl, hb⟩; rw [a3]; have T2 := Aside0.mk (HT.out.kept hb); have G2 := Aside0.mk (grown_of_below hb); clear hb; have c1 := T2.out.cell1; obtain ⟨n, D, hn, hown, hh⟩ := T2.out.map; have HH := Aside0.mk hh; clear hh)
      | (at_delete; refine wpList_delete_own _ rfl _ _ 48 3 rfl 55 law3 Try.underlying48 _ bm n D rfl hown _ _ rfl hkey ?_; intro w1 hown1 hturn1)
      | go_in)
    go_ret
    exact ⟨rfl, T2.out.del hn HH.out hown1 hturn1, ⟨hturn1.grown.os.trans G2.out.os, hturn1.grown.tape.trans G2.out.tape, hturn1.grown.output.trans G2.out.output, Nat.le_trans G2.out.size hturn1.grown.size, fun k hk hne => (hturn1.grown.block k (Nat.lt_of_lt_of_le hk G2.out.size) hne).trans (G2.out.block k hk (by simp))⟩⟩
set_option maxHeartbeats 4000000 in
set_option maxRecDepth 100000 in
theorem new_calls (m : Int) (h0 : 0 ≤ m) (h1 : m ≤ 65535) (hB : Below w0.heap.size w0 W) : Calls Try.prog 9 #[.int .i64 m] W fun e W' => ∃ g bm, e = .returned (.tuple #[.pointer (some ⟨g, 0, none⟩), .int .i64 0]) ∧ Tb w0 W' g bm m (fun _ => false) 0 ∧ Below W.heap.size W W' ∧ W.heap.size ≤ g ∧ W.heap.size ≤ bm := by
  have a1 : decide (m < 0) = false := decide_eq_false (by omega)
  have a2 : decide (65535 < m) = false := decide_eq_false (by omega)
  have hmk : ∀ w : World, (Instr.makeMap 48 none).run Try.prog w = .ok (.map (some w.heap.size)) (w.alloc (.map #[] 0)) := fun w => run_makeMap_plain w 48
  go_enter Try.func9, Try.ntmps9
  go_wp2
  go_ret2
  have hs : (W.alloc (.map #[] 0)).heap.size = W.heap.size + 1 := by simp
  refine ⟨_, W.heap.size, rfl, ⟨below_alloc (below_alloc hB _) _, ?_, hB.size, ?_, ?_, ⟨0, .map [], Nat.le_refl _, (World.ownsMap_made W Try.prog 3 unitElem).alloc _, fun x hx => rfl⟩, ⟨h0, h1⟩, fun x hx => by cases hx⟩, below_alloc (below_alloc (Below.refl _ _) _) _, ?_, Nat.le_refl _⟩
  · have := hB.size; simp; omega
  · simp
  · rw [← hs]; exact heap_alloc_new _ _
  · simp
set_option maxHeartbeats 4000000 in
set_option maxRecDepth 100000 in
theorem new_none (m : Int) (h0 : ¬ (0 ≤ m ∧ m ≤ 65535)) : Calls Try.prog 9 #[.int .i64 m] W fun e W' => e = .returned (.tuple #[.pointer none, .int .i64 1]) ∧ Below W.heap.size W W' := by
  by_cases a : m < 0
  · have a1 : decide (m < 0) = true := decide_eq_true a
    go_enter Try.func9, Try.ntmps9
    go_wp2
    go_ret2
    exact ⟨rfl, Below.refl _ _⟩
  · have a1 : decide (m < 0) = false := decide_eq_false a
    have a2 : decide (65535 < m) = true := decide_eq_true (by omega)
    go_enter Try.func9, Try.ntmps9
    go_wp2
    go_ret2
    exact ⟨rfl, Below.refl _ _⟩
/-- The lowest number from i on that is not held, looked for so many times. -/
def low (h : Int → Bool) : Nat → Int → Int
  | 0, i => i
  | d + 1, i => if h i = true then low h d (i + 1) else i
theorem grown_trans {W1 W2 : World} {b : Option Nat} (h1 : W.grownBy W1 b) (h2 : W1.grownBy W2 b) : W.grownBy W2 b :=
  ⟨h2.os.trans h1.os, h2.tape.trans h1.tape, h2.output.trans h1.output, Nat.le_trans h1.size h2.size, fun k hk hne => (h2.block k (Nat.lt_of_lt_of_le hk h1.size) hne).trans (h1.block k hk hne)⟩
theorem grown_weak {b : Option Nat} (h1 : W.grownBy W' none) : W.grownBy W' b := ⟨h1.os, h1.tape, h1.output, h1.size, fun k hk _ => h1.block k hk (by simp)⟩
def takeL (h : Int → Bool) (most : Int) : Int := low h (most.toNat + 1) 0
def takeB (h : Int → Bool) (most : Int) : Bool := decide (takeL h most ≤ most)
def takeA (h : Int → Bool) (most : Int) : Int := if takeB h most = true then takeL h most else 0
def takeH (h : Int → Bool) (most : Int) : Int → Bool := if takeB h most = true then put1 h (takeL h most) true else h
def takeN (h : Int → Bool) (most : Int) (N : Nat) : Nat := if takeB h most = true then N + 1 else N
set_option maxHeartbeats 4000000 in
set_option maxRecDepth 100000 in
theorem take_calls (T : Tb w0 W g bm most h N) (hN : N < 1000000) : Calls Try.prog 14 #[.pointer (some ⟨g, 0, none⟩)] W fun e W' => e = .returned (.tuple #[.int .i64 (takeA h most), .bool (takeB h most)]) ∧ Tb w0 W' g bm most (takeH h most) (takeN h most N) ∧ W.grownBy W' (some bm) := by
  have HT := Aside0.mk T
  have M0 := Aside0.mk T.m0
  go_enter Try.func14, Try.ntmps14
  go_wp2
  go_loopg [4] (most.toNat + 1) (fun kq v4 w' => ∃ i : Nat, v4 = .int .i64 (i : Int) ∧ Aside0 (i + kq = most.toNat + 1) ∧ Aside0 (low h kq (i : Int) = takeL h most) ∧ Aside0 (Tb w0 w' g bm most h N) ∧ Aside0 (W.grownBy w' (some bm)))
  case atStart => exact ⟨0, rfl, ⟨by omega⟩, ⟨rfl⟩, HT, ⟨⟨rfl, rfl, rfl, Nat.le_refl _, fun _ _ _ => rfl⟩⟩⟩
  case round =>
    clear HT
    obtain ⟨i, rfl, HI, HL, HT, HG⟩ := hrel
    have hx : (Lit.int .i64 (i : Int)).wf = true := wf_of (by omega) (by have := HI.out; have := M0.out; omega)
    cases gk with
    | zero =>
      have d1 : decide ((i : Int) ≤ most) = false := decide_eq_false (by have := HI.out; have := M0.out; omega)
      have eL : takeL h most = (i : Int) := HL.out.symm
      have eB : takeB h most = false := by unfold takeB; rw [eL]; exact d1
      have eA : takeA h most = 0 := by unfold takeA; rw [eB]; rfl
      have eH : takeH h most = h := by unfold takeH; rw [eB]; rfl
      have eN : takeN h most N = N := by unfold takeN; rw [eB]; rfl
      go_wp2_with (first | (go_at_call 17; refine (most_calls HT.out).mono ?_; rintro e W1 ⟨rfl, hb⟩))
      go_ret2
      exact ⟨by first | rfl | (rw [eA, eB]; rfl), by first | exact HT.out.kept hb | (rw [eH, eN]; exact HT.out.kept hb), grown_trans HG.out (grown_weak (grown_of_below hb))⟩
    | succ k1 =>
      have d1 : decide ((i : Int) ≤ most) = true := decide_eq_true (by have := HI.out; have := M0.out; omega)
      have hM : (i : Int) ≤ most := of_decide_eq_true d1
      cases a : h (i : Int) with
      | true =>
        have eH : holdR h most (i : Int) = false := by unfold holdR; simp [a]
        have eL : low h k1 ((i + 1 : Nat) : Int) = takeL h most := by
          have := HL.out
          simp only [low, a, if_true] at this
          rw [← this]; rfl
        have d5 : IntKind.i64.wrap ((i : Int) + 1) = ((i + 1 : Nat) : Int) := by rw [IntKind.wrap_i64]; have := HI.out; have := M0.out; omega
        go_wp2_with (first
          | (go_at_call 17; refine (most_calls HT.out).mono ?_; rintro e W1 ⟨rfl, hb⟩; have T1 := Aside0.mk (HT.out.kept hb); have G1 := Aside0.mk (grown_trans HG.out (grown_weak (grown_of_below hb))); clear hb)
          | (go_at_call 15; refine (hold_calls T1.out (i : Int) hx hN).mono ?_; rintro e W2 ⟨rfl, hT, hg⟩; rw [eH] at hT ⊢; have T2 := Aside0.mk hT; have G2 := Aside0.mk (grown_trans G1.out hg); clear hT hg))
        go_roundg k1
        case measure => omega
        case rel => exact ⟨i + 1, by first | rfl | (simp; done), ⟨by have := HI.out; omega⟩, ⟨eL⟩, ⟨by simpa using T2.out⟩, G2⟩
      | false =>
        have eH : holdR h most (i : Int) = true := by unfold holdR; simp [a]; omega
        have eL : takeL h most = (i : Int) := by
          have := HL.out
          simp only [low, a] at this
          simpa using this.symm
        have eB : takeB h most = true := by unfold takeB; rw [eL]; exact d1
        have eA : takeA h most = (i : Int) := by unfold takeA; rw [eB, eL]; rfl
        have eH2 : takeH h most = put1 h (i : Int) true := by unfold takeH; rw [eB, eL]; rfl
        have eN : takeN h most N = N + 1 := by unfold takeN; rw [eB]; rfl
        go_wp2_with (first
          | (go_at_call 17; refine (most_calls HT.out).mono ?_; rintro e W1 ⟨rfl, hb⟩; have T1 := Aside0.mk (HT.out.kept hb); have G1 := Aside0.mk (grown_trans HG.out (grown_weak (grown_of_below hb))); clear hb)
          | (go_at_call 15; refine (hold_calls T1.out (i : Int) hx hN).mono ?_; rintro e W2 ⟨rfl, hT, hg⟩; rw [eH] at hT ⊢; have T2 := Aside0.mk hT; have G2 := Aside0.mk (grown_trans G1.out hg); clear hT hg))
        go_ret2
        exact ⟨by first | rfl | (rw [eA, eB]; rfl), by first | (simpa using T2.out) | (rw [eH2, eN]; simpa using T2.out), G2.out⟩
end Go.Proofs.Ytidflacmiigbmaa.Tab
