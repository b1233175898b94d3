/- WindowMeets, plain: two windows and what is on its way to each; what one may still send, and the transfers on their way, are never more than what the other still takes. No program in sight. No condition of our own. -/
namespace Go.Proofs.Ytgamlcmjmlllaaa.Wm
set_option linter.unusedVariables false
/-- What is on its way: a transfer, or a flow with what it says. -/
structure Msg where
  flow : Bool
  n : Int
  g : Int
  o : Int
def zMsg : Msg := ⟨false, 0, 0, 0⟩
/-- A window: its grant, the next numbers out and in, whether the peer is known, what is left out and in. -/
structure Win where
  G : Int
  O : Int
  I : Int
  kn : Bool
  out : Int
  inn : Int
/-- So many transfers are on their way. -/
def under (l : List Msg) : Nat := l.countP fun x => !x.flow
theorem under_le (l : List Msg) : under l ≤ l.length := List.countP_le_length
theorem under_append (l : List Msg) (x : Msg) : under (l ++ [x]) = under l + (if x.flow then 0 else 1) := by
  unfold under
  rw [List.countP_append]
  cases h : x.flow <;> simp [h]
theorem under_cons (x : Msg) (l : List Msg) : under (x :: l) = under l + (if x.flow then 0 else 1) := by
  unfold under
  cases h : x.flow <;> simp [h]
/-- One way: s sends, r takes; tr is on its way to r, ts to s. -/
structure Dir (s r : Win) (tr ts : List Msg) : Prop where
  e : s.O = r.I + under tr
  le : s.O + s.out ≤ r.I + r.inn
  i0 : 0 ≤ r.I
  out0 : 0 ≤ s.out
  inn0 : 0 ≤ r.inn
  innG : r.inn ≤ r.G
  G1 : 1 ≤ r.G
  G2 : r.G ≤ 256
  fl : ∀ f ∈ ts, f.flow = true → f.g = r.G ∧ 0 ≤ f.n ∧ f.n ≤ r.I ∧ f.n + f.g ≤ r.I + r.inn
def upd {α : Type} (S : Nat → α) (k : Nat) (x : α) : Nat → α := fun j => if j = k then x else S j
theorem upd_same {α : Type} (S : Nat → α) (k : Nat) (x : α) : upd S k x k = x := if_pos rfl
theorem upd_ne {α : Type} (S : Nat → α) (k j : Nat) (x : α) (h : j ≠ k) : upd S k x j = S j := if_neg h
/-- What holds after i things were done. -/
def Inv (S : Nat → Win) (q : Nat → List Msg) (i : Nat) : Prop :=
  ∀ k, k < 2 → Dir (S k) (S (1 - k)) (q (1 - k)) (q k) ∧ (S k).O ≤ i ∧ (q k).length ≤ i ∧ (S k).kn = true
variable {S : Nat → Win} {q : Nat → List Msg} {i k : Nat}
theorem Inv.two (h : Inv S q i) : (Dir (S 0) (S 1) (q 1) (q 0) ∧ (S 0).O ≤ i ∧ (q 0).length ≤ i ∧ (S 0).kn = true) ∧ (Dir (S 1) (S 0) (q 0) (q 1) ∧ (S 1).O ≤ i ∧ (q 1).length ≤ i ∧ (S 1).kn = true) := ⟨h 0 (by omega), h 1 (by omega)⟩
theorem Inv.of_two (h0 : Dir (S 0) (S 1) (q 1) (q 0) ∧ (S 0).O ≤ i ∧ (q 0).length ≤ i ∧ (S 0).kn = true) (h1 : Dir (S 1) (S 0) (q 0) (q 1) ∧ (S 1).O ≤ i ∧ (q 1).length ≤ i ∧ (S 1).kn = true) : Inv S q i := by
  intro k hk
  obtain rfl | rfl : k = 0 ∨ k = 1 := by omega
  · exact h0
  · exact h1
theorem Inv.more (h : Inv S q i) : Inv S q (i + 1) := fun k hk => by
  obtain ⟨h1, h2, h3, h4⟩ := h k hk
  exact ⟨h1, by omega, by omega, h4⟩
theorem Inv.kn (h : Inv S q i) (hk : k < 2) : (S k).kn = true := (h k hk).2.2.2
theorem Inv.len (h : Inv S q i) (hk : k < 2) : (q k).length ≤ i := (h k hk).2.2.1
/-- The bounds of a window's numbers. -/
theorem Inv.bounds (h : Inv S q i) (hk : k < 2) : 0 ≤ (S k).O ∧ (S k).O ≤ i ∧ 0 ≤ (S k).I ∧ (S k).I ≤ i ∧ 0 ≤ (S k).out ∧ (S k).out ≤ (i : Int) + 256 ∧ 0 ≤ (S k).inn ∧ (S k).inn ≤ 256 ∧ 1 ≤ (S k).G ∧ (S k).G ≤ 256 := by
  obtain ⟨⟨a, b, _, _⟩, ⟨c, d, _, _⟩⟩ := h.two
  have := a.e; have := a.le; have := a.i0; have := a.out0; have := a.inn0; have := a.innG; have := a.G1; have := a.G2
  have := c.e; have := c.le; have := c.i0; have := c.out0; have := c.inn0; have := c.innG; have := c.G1; have := c.G2
  obtain rfl | rfl : k = 0 ∨ k = 1 := by omega
  all_goals omega
/-- What each act's check asks. -/
theorem Inv.check (h : Inv S q i) (hk : k < 2) : (S k).out + under (q (1 - k)) ≤ (S (1 - k)).inn := by
  obtain ⟨d, _⟩ := h k hk
  have := d.e; have := d.le
  omega
def sentS (s : Win) : Win := { s with O := s.O + 1, out := s.out - 1 }
def grantS (s : Win) : Win := { s with inn := s.G }
def toldOut (O n g : Int) : Int := if O < n + g then n + g - O else 0
def toldS (s : Win) (n g : Int) : Win := { s with out := toldOut s.O n g }
def gotS (s : Win) : Win := { s with I := s.I + 1, inn := s.inn - 1 }
def comeS (s : Win) : List Msg → Win
  | [] => s
  | x :: _ => if x.flow = true then toldS s x.n x.g else gotS s
def flowOf (s : Win) : Msg := ⟨true, s.I, s.G, s.O⟩
theorem dir_sent {s r : Win} {tr ts : List Msg} (h : Dir s r tr ts) (ho : s.out ≠ 0) : Dir (sentS s) r (tr ++ [zMsg]) ts := by
  have hu : under (tr ++ [zMsg]) = under tr + 1 := under_append tr zMsg
  refine ⟨?_, ?_, h.i0, ?_, h.inn0, h.innG, h.G1, h.G2, h.fl⟩
  · rw [hu]; have := h.e; simp only [sentS]; omega
  · have := h.le; simp only [sentS]; omega
  · have := h.out0; simp only [sentS]; omega
theorem dir_sent2 {s r : Win} {tr ts : List Msg} (h : Dir s r tr ts) : Dir s (sentS r) tr (ts ++ [zMsg]) := by
  refine ⟨h.e, h.le, h.i0, h.out0, h.inn0, h.innG, h.G1, h.G2, fun f hf hw => ?_⟩
  rcases List.mem_append.1 hf with hf | hf
  · exact h.fl f hf hw
  · rw [List.mem_singleton] at hf; subst hf; cases hw
theorem dir_grant {s r : Win} {tr ts : List Msg} (h : Dir s r tr ts) : Dir (grantS s) r (tr ++ [flowOf s]) ts := by
  have hu : under (tr ++ [flowOf s]) = under tr := (under_append tr (flowOf s)).trans (Nat.add_zero _)
  refine ⟨?_, h.le, h.i0, h.out0, h.inn0, h.innG, h.G1, h.G2, h.fl⟩
  rw [hu]; exact h.e
theorem dir_grant2 {s r : Win} {tr ts : List Msg} (h : Dir s r tr ts) : Dir s (grantS r) tr (ts ++ [flowOf r]) := by
  have h1 := h.innG; have h2 := h.le; have h3 := h.G1; have h4 := h.i0
  refine ⟨h.e, ?_, h.i0, h.out0, ?_, Int.le_refl _, h.G1, h.G2, fun f hf hw => ?_⟩
  · simp only [grantS]; omega
  · simp only [grantS]; omega
  · simp only [grantS]
    rcases List.mem_append.1 hf with hf | hf
    · obtain ⟨a, b, c, d⟩ := h.fl f hf hw
      exact ⟨a, b, c, by omega⟩
    · rw [List.mem_singleton] at hf; subst hf
      exact ⟨rfl, h4, Int.le_refl _, Int.le_refl _⟩
/-- The first that is on its way to s comes to s. -/
theorem dir_come_s {s r : Win} {tr ts : List Msg} (h : Dir s r tr ts) : Dir (comeS s ts) r tr ts.tail := by
  cases ts with
  | nil => exact h
  | cons x rest =>
    have ht : ∀ f ∈ rest, f.flow = true → f.g = r.G ∧ 0 ≤ f.n ∧ f.n ≤ r.I ∧ f.n + f.g ≤ r.I + r.inn := fun f hf => h.fl f (List.mem_cons_of_mem _ hf)
    cases hx : x.flow with
    | false =>
      have e : comeS s (x :: rest) = gotS s := by simp [comeS, hx]
      rw [e]
      exact ⟨h.e, h.le, h.i0, h.out0, h.inn0, h.innG, h.G1, h.G2, ht⟩
    | true =>
      have e : comeS s (x :: rest) = toldS s x.n x.g := by simp [comeS, hx]
      rw [e]
      obtain ⟨a, b, c, d⟩ := h.fl x List.mem_cons_self hx
      have h1 := h.le; have h2 := h.out0
      refine ⟨h.e, ?_, h.i0, ?_, h.inn0, h.innG, h.G1, h.G2, ht⟩
      · simp only [toldS, toldOut]; split <;> omega
      · simp only [toldS, toldOut]; split <;> omega
/-- The first that is on its way to r comes to r. -/
theorem dir_come_r {s r : Win} {tr ts : List Msg} (h : Dir s r tr ts) : Dir s (comeS r tr) tr.tail ts := by
  cases tr with
  | nil => exact h
  | cons x rest =>
    have hu := under_cons x rest
    have h1 := h.e; have h2 := h.le; have h3 := h.out0; have h4 := h.i0; have h5 := h.innG
    cases hx : x.flow with
    | true =>
      have e : comeS r (x :: rest) = toldS r x.n x.g := by simp [comeS, hx]
      rw [hx] at hu
      rw [hu] at h1
      rw [e]
      exact ⟨by show s.O = r.I + ((under rest : Nat) : Int); simpa using h1, h.le, h.i0, h.out0, h.inn0, h.innG, h.G1, h.G2, h.fl⟩
    | false =>
      have e : comeS r (x :: rest) = gotS r := by simp [comeS, hx]
      rw [hx] at hu
      have hu2 : under (x :: rest) = under rest + 1 := hu
      rw [hu2] at h1
      rw [e]
      refine ⟨?_, ?_, ?_, h.out0, ?_, ?_, h.G1, h.G2, fun f hf hw => ?_⟩
      · simp only [gotS, List.tail_cons]; omega
      · simp only [gotS]; omega
      · simp only [gotS]; omega
      · simp only [gotS]; omega
      · simp only [gotS]; omega
      · obtain ⟨a, b, c, d⟩ := h.fl f hf hw
        simp only [gotS]
        exact ⟨a, b, by omega, by omega⟩
theorem dir_room {s r : Win} {tr ts : List Msg} {x : Msg} {rest : List Msg} (h : Dir s r tr ts) (e : tr = x :: rest) (hx : x.flow = false) : 1 ≤ r.inn := by
  have hu := under_cons x rest
  rw [← e, hx] at hu
  have hu2 : under tr = under rest + 1 := hu
  have h1 := h.e; have h2 := h.le; have h3 := h.out0
  omega
theorem Inv.sent (h : Inv S q i) (hk : k < 2) (ho : (S k).out ≠ 0) : Inv (upd S k (sentS (S k))) (upd q (1 - k) (q (1 - k) ++ [zMsg])) (i + 1) := by
  obtain ⟨⟨a, a1, a2, a3⟩, ⟨b, b1, b2, b3⟩⟩ := h.two
  obtain rfl | rfl : k = 0 ∨ k = 1 := by omega
  · exact Inv.of_two ⟨dir_sent a ho, by show (S 0).O + 1 ≤ _; omega, by show (q 0).length ≤ _; omega, a3⟩ ⟨dir_sent2 b, by show (S 1).O ≤ _; omega, by show (q 1 ++ [zMsg]).length ≤ _; simp; omega, b3⟩
  · exact Inv.of_two ⟨dir_sent2 a, by show (S 0).O ≤ _; omega, by show (q 0 ++ [zMsg]).length ≤ _; simp; omega, a3⟩ ⟨dir_sent b ho, by show (S 1).O + 1 ≤ _; omega, by show (q 1).length ≤ _; omega, b3⟩
theorem Inv.grant (h : Inv S q i) (hk : k < 2) : Inv (upd S k (grantS (S k))) (upd q (1 - k) (q (1 - k) ++ [flowOf (S k)])) (i + 1) := by
  obtain ⟨⟨a, a1, a2, a3⟩, ⟨b, b1, b2, b3⟩⟩ := h.two
  obtain rfl | rfl : k = 0 ∨ k = 1 := by omega
  · exact Inv.of_two ⟨dir_grant a, by show (S 0).O ≤ _; omega, by show (q 0).length ≤ _; omega, a3⟩ ⟨dir_grant2 b, by show (S 1).O ≤ _; omega, by show (q 1 ++ [flowOf (S 0)]).length ≤ _; simp; omega, b3⟩
  · exact Inv.of_two ⟨dir_grant2 a, by show (S 0).O ≤ _; omega, by show (q 0 ++ [flowOf (S 1)]).length ≤ _; simp; omega, a3⟩ ⟨dir_grant b, by show (S 1).O ≤ _; omega, by show (q 1).length ≤ _; omega, b3⟩
theorem comeS_O (s : Win) (l : List Msg) : (comeS s l).O = s.O := by
  cases l with
  | nil => rfl
  | cons x r => cases hx : x.flow <;> simp [comeS, hx, toldS, gotS]
theorem comeS_kn (s : Win) (l : List Msg) : (comeS s l).kn = s.kn := by
  cases l with
  | nil => rfl
  | cons x r => cases hx : x.flow <;> simp [comeS, hx, toldS, gotS]
theorem Inv.come (h : Inv S q i) (hk : k < 2) : Inv (upd S k (comeS (S k) (q k))) (upd q k (q k).tail) i := by
  obtain ⟨⟨a, a1, a2, a3⟩, ⟨b, b1, b2, b3⟩⟩ := h.two
  obtain rfl | rfl : k = 0 ∨ k = 1 := by omega
  · exact Inv.of_two ⟨dir_come_s a, by show (comeS (S 0) (q 0)).O ≤ _; rw [comeS_O]; omega, by show (q 0).tail.length ≤ _; simp; omega, (comeS_kn (S 0) (q 0)).trans a3⟩ ⟨dir_come_r b, by show (S 1).O ≤ _; omega, by show (q 1).length ≤ _; omega, b3⟩
  · exact Inv.of_two ⟨dir_come_r a, by show (S 0).O ≤ _; omega, by show (q 0).length ≤ _; omega, a3⟩ ⟨dir_come_s b, by show (comeS (S 1) (q 1)).O ≤ _; rw [comeS_O]; omega, by show (q 1).tail.length ≤ _; simp; omega, (comeS_kn (S 1) (q 1)).trans b3⟩
theorem Inv.room (h : Inv S q i) (hk : k < 2) {x : Msg} {rest : List Msg} (e : q k = x :: rest) (hx : x.flow = false) : 1 ≤ (S k).inn := by
  obtain ⟨d, _⟩ := h (1 - k) (by omega)
  have ek : 1 - (1 - k) = k := by omega
  rw [ek] at d
  exact dir_room d e hx
theorem Inv.flow (h : Inv S q i) (hk : k < 2) {x : Msg} {rest : List Msg} (e : q k = x :: rest) (hx : x.flow = true) : 1 ≤ x.g ∧ x.g ≤ 256 ∧ 0 ≤ x.n ∧ x.n ≤ (S k).O := by
  obtain ⟨d, _⟩ := h k hk
  obtain ⟨a, b, c, _⟩ := d.fl x (by rw [e]; exact List.mem_cons_self) hx
  have := d.e; have := d.G1; have := d.G2
  omega
/-- All came: what the last flows meet. -/
def Fin (S : Nat → Win) (i : Nat) : Prop := ∀ k, k < 2 → (S k).O = (S (1 - k)).I ∧ 0 ≤ (S k).O ∧ (S k).O ≤ i ∧ 1 ≤ (S k).G ∧ (S k).G ≤ 256 ∧ (S k).kn = true
theorem Inv.fin (h : Inv S q i) (e : ∀ k, k < 2 → q k = []) : Fin S i := by
  intro k hk
  obtain ⟨d, d1, d2, d3⟩ := h k hk
  obtain ⟨b1, b2, b3, b4, b5, b6, b7, b8, b9, b10⟩ := h.bounds hk
  have h1 := d.e
  rw [e (1 - k) (by omega)] at h1
  have hu : under ([] : List Msg) = 0 := rfl
  rw [hu] at h1
  exact ⟨by omega, b1, b2, b9, b10, d3⟩
theorem Fin.step (h : Fin S i) (hk : k < 2) : Fin (upd (upd S k (grantS (S k))) (1 - k) (toldS (S (1 - k)) (S k).I (S k).G)) i := by
  intro j hj
  have hj1 := h j hj
  obtain rfl | rfl : k = 0 ∨ k = 1 := by omega
  · obtain rfl | rfl : j = 0 ∨ j = 1 := by omega
    · exact hj1
    · exact hj1
  · obtain rfl | rfl : j = 0 ∨ j = 1 := by omega
    · exact hj1
    · exact hj1
theorem Fin.out (h : Fin S i) (hk : k < 2) : toldOut (S (1 - k)).O (S k).I (S k).G = (S k).G := by
  have h1 := (h (1 - k) (by omega)).1
  have ek : 1 - (1 - k) = k := by omega
  rw [ek] at h1
  obtain ⟨_, _, _, b9, _⟩ := h k hk
  unfold toldOut
  rw [h1, if_pos (by omega)]
  omega
end Go.Proofs.Ytgamlcmjmlllaaa.Wm
