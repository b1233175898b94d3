/- The plain law of WindowRound: where all numbers are moved by one and the same, the same may be sent and taken; for all inputs, at most 300 things being done (the law's own bound). No condition of our own. -/
import Derived.Test.YtgamlcmjmlllaaaPWindowRoundx4
namespace Go.Proofs.Ytgamlcmjmlllaaa.Pure
set_option linter.unusedVariables false
open Go.RowKit Go.Proofs.Ytgamlcmjmlllaaa.PWindowRound Go.Proofs.YtgamlcmjmlllaaaW.PrintWords Go.Proofs.YtgamlcmjmlllaaaW.PrintLast Go.Proofs.YtgamlcmjmlllaaaW.PrintMore

theorem wf32 {a : Int} (h : (Lit.int .u32 a).wf = true) : 0 ≤ a ∧ a < 4294967296 := by
  simp [Lit.wf, IntKind.min, IntKind.max, IntKind.bits, IntKind.signed] at h
  omega
theorem wf8 {a : Int} (h : (Lit.int .u8 a).wf = true) : 0 ≤ a ∧ a < 256 := by
  simp [Lit.wf, IntKind.min, IntKind.max, IntKind.bits, IntKind.signed] at h
  omega
theorem wfi {a : Int} (h : (Lit.int .i64 a).wf = true) : -9223372036854775808 ≤ a ∧ a ≤ 9223372036854775807 := by
  simp [Lit.wf, IntKind.min, IntKind.max, IntKind.bits, IntKind.signed] at h
  omega
theorem wf16 {a : Int} (h : (Lit.int .u16 a).wf = true) : 0 ≤ a ∧ a < 65536 := by
  simp [Lit.wf, IntKind.min, IntKind.max, IntKind.bits, IntKind.signed] at h
  omega
theorem near_eq (n : Int) : serial_near_uint32.f n = some (decide (n < 2147483648)) := by
  have e : Go.bits .xor .u32 Go.IntKind.u32.max 0 / 2 = 2147483647 := by decide +kernel
  unfold serial_near_uint32.f
  rw [e]
  congr 1
  rw [decide_eq_decide]
  omega
/-- What may be sent behind a flow. -/
def toldO (no n a : Int) : Int := if (mx n 0 + a - no) % 4294967296 < 2147483648 then mn ((mx n 0 + a - no) % 4294967296) 256 else 0
theorem toldO_range (no n a : Int) : 0 ≤ toldO no n a ∧ toldO no n a ≤ 256 := by
  unfold toldO mn
  split <;> (try split) <;> omega
theorem told_eq (g no ni : Int) (kn : Bool) (o i n a b : Int) (ha : 0 ≤ a ∧ a < 4294967296) :
    wi_Told.f g no ni kn o i n a b = some (g, no, (if kn = true then ni else b), true, toldO no n a, i) := by
  have hw : wrap64 a = a := by unfold wrap64; omega
  unfold wi_Told.f serial_Add.f serial_Less.f serial_steps_uint32.f wi_learn.f toldO
  simp only [near_eq, Option.bind_some, hw, Int.emod_sub_emod, Int.emod_add_emod]
  by_cases h : no = (mx n 0 + a) % 4294967296
  · have h0 : (mx n 0 + a - no) % 4294967296 = 0 := by omega
    rw [if_pos h]
    simp only [Option.bind_some, h0]
    cases kn <;> rfl
  · rw [if_neg h]
    simp only [Option.bind_some]
    by_cases h1 : (mx n 0 + a - no) % 4294967296 < 2147483648
    · simp only [h1, decide_true, if_true]
      cases kn <;> rfl
    · simp only [h1, decide_false, if_false, Bool.false_eq_true]
      cases kn <;> rfl
theorem sent_eq (g no ni : Int) (kn : Bool) (o i : Int) (ho : 0 ≤ o ∧ o ≤ 256) :
    wi_Sent.f g no ni kn o i = if o = 0 then some (0, false, g, no, ni, kn, o, i) else some (no, true, g, (no + 1) % 4294967296, ni, kn, o - 1, i) := by
  unfold wi_Sent.f serial_Add.f
  have : o = 0 ∨ (o - 1) % 4294967296 = o - 1 := by omega
  rcases this with h | h
  · rw [if_pos h, if_pos h]
  · rw [h]; rfl
theorem got_eq (g no ni : Int) (kn : Bool) (o i : Int) (hi : 0 ≤ i ∧ i ≤ 256) :
    wi_Got.f g no ni kn o i = if i = 0 then some (false, g, no, ni, kn, o, i) else if kn = true then some (true, g, no, (ni + 1) % 4294967296, kn, o, i - 1) else some (false, g, no, ni, kn, o, i) := by
  unfold wi_Got.f serial_Add.f
  have : i = 0 ∨ (i - 1) % 4294967296 = i - 1 := by omega
  rcases this with h | h
  · rw [if_pos h, if_pos h]
  · rw [h]; rfl
theorem begun_eq (g no ni : Int) (kn : Bool) (o i a b : Int) : wi_Begun.f g no ni kn o i a b = some (g, no, a, true, mn b 256, i) := rfl
theorem new_eq (a : Int) (ha : 0 ≤ a) : ∃ g, 1 ≤ g ∧ g ≤ 256 ∧ mn (mx a 1) 256 = g ∧ mx 1 (mn a 256) = g := by
  refine ⟨_, ?_, ?_, rfl, ?_⟩ <;> unfold mn mx <;> (repeat' split) <;> omega
theorem works_eq : lw15_works.f = some true := by decide +kernel
theorem mem_rd (xs : List S33) (i : Int) (h0 : 0 ≤ i) (h1 : i < (xs.length : Int)) : rd_T33 xs i ∈ xs := by
  unfold rd_T33
  have h : i.toNat < xs.length := by omega
  rw [List.getD_eq_getElem?_getD, List.getElem?_eq_getElem h]
  exact List.getElem_mem h
/-- A window: its grant, the next out, the next in and whether it is known, what is left. -/
structure W where
  g : Int
  no : Int
  ni : Int
  kn : Bool
  o : Int
  i : Int
/-- What is so of every window. -/
def W.ok (w : W) : Prop := (1 ≤ w.g ∧ w.g ≤ 256) ∧ (0 ≤ w.no ∧ w.no < 4294967296) ∧ (0 ≤ w.ni ∧ w.ni < 4294967296) ∧ (0 ≤ w.o ∧ w.o ≤ 256) ∧ (0 ≤ w.i ∧ w.i ≤ w.g)
/-- What is answered. -/
structure A where
  a : Int
  b : Int
  c : Int
  is : Bool
def out (r : A × W) : Int × Int × Int × Bool × Int × Int × Int × Bool × Int × Int := (r.1.a, r.1.b, r.1.c, r.1.is, r.2.g, r.2.no, r.2.ni, r.2.kn, r.2.o, r.2.i)
/-- One thing done. -/
def stp (w : W) (k n a b : Int) : A × W :=
  if k = 0 then (⟨0, 0, 0, false⟩, ⟨w.g, w.no, a, true, mn b 256, w.i⟩)
  else if k = 1 then (if w.o = 0 then (⟨0, 0, 0, false⟩, w) else (⟨w.no, 0, 0, true⟩, ⟨w.g, (w.no + 1) % 4294967296, w.ni, w.kn, w.o - 1, w.i⟩))
  else if k = 2 then (if w.i = 0 then (⟨0, 0, 0, false⟩, w) else if w.kn = true then (⟨0, 0, 0, true⟩, ⟨w.g, w.no, (w.ni + 1) % 4294967296, w.kn, w.o, w.i - 1⟩) else (⟨0, 0, 0, false⟩, w))
  else if k = 3 then (⟨0, 0, 0, false⟩, ⟨w.g, w.no, (if w.kn = true then w.ni else b), true, toldO w.no n a, w.i⟩)
  else if k = 4 then (⟨0, 0, 0, decide (w.i ≤ w.g / 2)⟩, w)
  else if k = 5 then (⟨w.ni, w.g, w.no, false⟩, ⟨w.g, w.no, w.ni, w.kn, w.o, w.g⟩)
  else (⟨0, 0, 0, false⟩, w)
theorem half (g : Int) (h : 1 ≤ g ∧ g ≤ 256) : Int.tdiv g 2 % 4294967296 = g / 2 := by
  rw [Int.tdiv_eq_ediv_of_nonneg (by omega)]
  omega
theorem does_eq (w : W) (k n a b : Int) (hw : w.ok) (ha : 0 ≤ a ∧ a < 4294967296) :
    lw15_does.f w.g w.no w.ni w.kn w.o w.i k n a b = some (out (stp w k n a b)) := by
  obtain ⟨hg, hno, hni, ho, hi⟩ := hw
  unfold lw15_does.f stp wi_Need.f wi_Grant.f
  rw [begun_eq, sent_eq _ _ _ _ _ _ ho, got_eq _ _ _ _ _ _ (by omega), told_eq _ _ _ _ _ _ _ _ _ ha, half _ hg]
  by_cases h0 : k = 0
  · rw [if_pos h0, if_pos h0]; rfl
  rw [if_neg h0, if_neg h0]
  by_cases h1 : k = 1
  · rw [if_pos h1, if_pos h1]; split <;> rfl
  rw [if_neg h1, if_neg h1]
  by_cases h2 : k = 2
  · rw [if_pos h2, if_pos h2]
    split
    · rfl
    · split <;> rfl
  rw [if_neg h2, if_neg h2]
  by_cases h3 : k = 3
  · rw [if_pos h3, if_pos h3]; rfl
  rw [if_neg h3, if_neg h3]
  by_cases h4 : k = 4
  · rw [if_pos h4, if_pos h4]; rfl
  rw [if_neg h4, if_neg h4]
  by_cases h5 : k = 5
  · rw [if_pos h5, if_pos h5]; rfl
  rw [if_neg h5, if_neg h5]
  rfl
theorem stp_ok (w : W) (k n a b : Int) (hw : w.ok) (ha : 0 ≤ a ∧ a < 4294967296) (hb : 0 ≤ b ∧ b < 4294967296) : (stp w k n a b).2.ok := by
  have ht := toldO_range w.no n a
  obtain ⟨hg, hno, hni, ho, hi⟩ := hw
  have hm : 0 ≤ mn b 256 ∧ mn b 256 ≤ 256 := by unfold mn; split <;> omega
  unfold stp
  split
  · exact ⟨hg, hno, ha, hm, hi⟩
  split
  · split
    · exact ⟨hg, hno, hni, ho, hi⟩
    · exact ⟨hg, by simp only; omega, hni, by simp only; omega, hi⟩
  split
  · split
    · exact ⟨hg, hno, hni, ho, hi⟩
    split
    · exact ⟨hg, hno, by simp only; omega, ho, by simp only; omega⟩
    · exact ⟨hg, hno, hni, ho, hi⟩
  split
  · exact ⟨hg, hno, by simp only; split <;> omega, ht, hi⟩
  split
  · exact ⟨hg, hno, hni, ho, hi⟩
  split
  · exact ⟨hg, hno, hni, ho, by simp only; omega⟩
  exact ⟨hg, hno, hni, ho, hi⟩
theorem wants {xs : List S33} (hx : ∀ x ∈ xs, (Lit.int .i64 x.f0).wf = true ∧ (Lit.int .i64 x.f1).wf = true ∧ (Lit.int .u32 x.f2).wf = true ∧ (Lit.int .u32 x.f3).wf = true) (i : Int) (h0 : 0 ≤ i) (h1 : i < (xs.length : Int)) :
    (0 ≤ (rd_T33 xs i).f2 ∧ (rd_T33 xs i).f2 < 4294967296) ∧ (0 ≤ (rd_T33 xs i).f3 ∧ (rd_T33 xs i).f3 < 4294967296) := by
  obtain ⟨_, _, ha, hb⟩ := hx _ (mem_rd xs i h0 h1)
  exact ⟨wf32 ha, wf32 hb⟩
/-- The same window, its incoming numbers moved. -/
def mv (s : Int) (w : W) : W := ⟨w.g, w.no, (w.ni + s) % 4294967296, w.kn, w.o, w.i⟩
theorem stp_mv (s : Int) (w : W) (k n a b : Int) (hk : ¬ k = 0) (hkn : w.kn = true) :
    stp (mv s w) k n a b = (⟨if k = 5 then ((stp w k n a b).1.a + s) % 4294967296 else (stp w k n a b).1.a, (stp w k n a b).1.b, (stp w k n a b).1.c, (stp w k n a b).1.is⟩, mv s (stp w k n a b).2) ∧ (stp w k n a b).2.kn = true ∧ (k = 5 → (stp w k n a b).1.a = w.ni) := by
  unfold stp mv
  simp only [if_neg hk, hkn, if_true]
  by_cases h1 : k = 1
  · subst h1
    simp only [if_true, show ¬ ((1 : Int) = 5) from by decide, if_false]
    split <;> exact ⟨by simp_all, by simp_all, by simp⟩
  by_cases h2 : k = 2
  · subst h2
    have e : ((w.ni + s) % 4294967296 + 1) % 4294967296 = ((w.ni + 1) % 4294967296 + s) % 4294967296 := by omega
    simp only [if_neg h1, if_true, e, show ¬ ((2 : Int) = 5) from by decide, if_false]
    split <;> exact ⟨by simp_all, by simp_all, by simp⟩
  by_cases h3 : k = 3
  · subst h3
    simp [h1, h2]
  by_cases h4 : k = 4
  · subst h4
    simp [h1, h2, h3, hkn]
  by_cases h5 : k = 5
  · subst h5
    simp [h1, h2, h3, h4]
  · simp [h1, h2, h3, h4, h5, hkn]
theorem mv_ok (s : Int) (w : W) (h : w.ok) : (mv s w).ok := ⟨h.1, h.2.1, by unfold mv; simp only; omega, h.2.2.2.1, h.2.2.2.2⟩
theorem loop (s : Int) (xs : List S33) (hl : xs.length ≤ 300) (hx : ∀ x ∈ xs, (Lit.int .i64 x.f0).wf = true ∧ (Lit.int .i64 x.f1).wf = true ∧ (Lit.int .u32 x.f2).wf = true ∧ (Lit.int .u32 x.f3).wf = true) (d : Nat) :
    ∀ (k : Nat) (i : Int) (w : W), 0 ≤ i → i ≤ (xs.length : Int) → (xs.length : Int) - i = d → 2 * d + 1 ≤ k → w.ok → w.kn = true →
      lw15_WindowRound.l0 k s xs i w.g w.no w.ni w.kn w.o w.i (mv s w).g (mv s w).no (mv s w).ni (mv s w).kn (mv s w).o (mv s w).i = some true := by
  induction d with
  | zero =>
    intro k i w h0 h1 hd hk hw hkn
    obtain ⟨k, rfl⟩ : ∃ m, k = m + 1 := ⟨k - 1, by omega⟩
    simp only [lw15_WindowRound.l0]
    rw [if_neg (by omega), works_eq]
    rfl
  | succ d ih =>
    intro k i w h0 h1 hd hk hw hkn
    obtain ⟨k, rfl⟩ : ∃ m, k = m + 2 := ⟨k - 2, by omega⟩
    have hlt : i < (xs.length : Int) := by omega
    obtain ⟨ha, hb⟩ := wants hx i h0 hlt
    have hwr : wrap64 (i + 1) = i + 1 := by unfold wrap64; omega
    simp only [lw15_WindowRound.l0, hwr]
    rw [if_pos hlt, if_pos h0]
    by_cases hz : (rd_T33 xs i).f0 = 0
    · rw [if_pos hz]
      exact ih (k + 1) (i + 1) w (by omega) (by omega) (by omega) (by omega) hw hkn
    rw [if_neg hz, does_eq w _ _ _ _ hw ha, does_eq (mv s w) _ _ _ _ (mv_ok s w hw) ha]
    obtain ⟨e1, e2, e3⟩ := stp_mv s w (rd_T33 xs i).f0 (rd_T33 xs i).f1 (rd_T33 xs i).f2 (rd_T33 xs i).f3 hz hkn
    have hi := stp_ok w (rd_T33 xs i).f0 (rd_T33 xs i).f1 (rd_T33 xs i).f2 (rd_T33 xs i).f3 hw ha hb
    rw [e1]
    generalize stp w (rd_T33 xs i).f0 (rd_T33 xs i).f1 (rd_T33 xs i).f2 (rd_T33 xs i).f3 = r at hi e2 e3 ⊢
    obtain ⟨⟨r1, r2, r3, r4⟩, w2⟩ := r
    simp only at e2 e3 hi
    simp only [out, Option.bind_some]
    have J : ∀ y : Int, y = r1 → lw15_WindowRound.j1 (k + 1) s xs i w2.g w2.no w2.ni w2.kn w2.o w2.i (mv s w2).g (mv s w2).no (mv s w2).ni (mv s w2).kn (mv s w2).o (mv s w2).i r1 r2 r3 r4 y r2 r3 r4 = some true := by
      intro y hy
      subst hy
      simp only [lw15_WindowRound.j1, wi_Left.f, Option.bind_some, hwr]
      rw [if_neg (by simp), if_pos (show w2.o = (mv s w2).o from rfl), if_pos (show w2.i = (mv s w2).i from rfl)]
      exact ih k (i + 1) w2 (by omega) (by omega) (by omega) (by omega) hi e2
    by_cases h5 : (rd_T33 xs i).f0 = 5
    · rw [if_pos h5, if_pos h5]
      refine J _ ?_
      have := e3 h5
      obtain ⟨_, _, hni, _, _⟩ := hw
      omega
    · rw [if_neg h5, if_neg h5]
      exact J _ rfl
theorem WindowRound : lw15_WindowRound.Pure := by
  intro a n s xs ha hn hs hm hx
  replace ha := wf32 ha
  replace hn := wf32 hn
  refine ⟨2 * xs.length + 10, ?_⟩
  unfold lw15_WindowRound.f window_New.f
  by_cases h : (xs.length : Int) > 300
  · rw [if_pos h, works_eq]; rfl
  · obtain ⟨g, g1, g2, e1, e2⟩ := new_eq a ha.1
    rw [if_neg h, e1]
    simp only [Option.bind_some, begun_eq]
    exact loop s xs (by omega) hx xs.length _ 0 ⟨g, 0, n, true, mn 5 256, g⟩ (by omega) (by omega) (by omega) (by omega) ⟨⟨g1, g2⟩, by simp only; omega, hn, (show 0 ≤ mn 5 256 ∧ mn 5 256 ≤ 256 from by decide), by simp only; omega⟩ rfl

end Go.Proofs.Ytgamlcmjmlllaaa.Pure
