/- The plain law of CreditMeets: a sender whose receiver's flows come in order never takes more than was granted, and at the end both have the same left; for all inputs, at most 300 things being done (the law's own bound). No condition of our own. -/
import Derived.Test.YtadbpgljamkoeaaPCreditMeetsx3
namespace Go.Proofs.Ytadbpgljamkoeaa.Pure
set_option linter.unusedVariables false
open Go.RowKit Go.Proofs.Ytadbpgljamkoeaa.PCreditMeets Go.Proofs.YtadbpgljamkoeaaW.PrintWords Go.Proofs.YtadbpgljamkoeaaW.PrintLast Go.Proofs.YtadbpgljamkoeaaW.PrintMore

theorem wf32 {a : Int} (h : (Lit.int .u32 a).wf = true) : 0 ≤ a ∧ a < 4294967296 := by
  simp [Lit.wf, IntKind.min, IntKind.max, IntKind.bits, IntKind.signed] at h
  omega
theorem wf16 {a : Int} (h : (Lit.int .u16 a).wf = true) : 0 ≤ a ∧ a < 65536 := by
  simp [Lit.wf, IntKind.min, IntKind.max, IntKind.bits, IntKind.signed] at h
  omega
theorem near_eq (n : Int) : serial_near_uint32.f n = some (decide (n < 2147483648)) := by
  have e : Go.bits .xor .u32 Go.IntKind.u32.max 0 / 2 = 2147483647 := by decide +kernel
  unfold serial_near_uint32.f
  rw [e]
  congr 1
  rw [decide_eq_decide]
  omega
/-- What is left behind a flow. -/
def toldL (c a b : Int) : Int := if (a + b - c) % 4294967296 < 2147483648 then mn ((a + b - c) % 4294967296) 1000 else 0
theorem told_eq (c l : Int) (d : Bool) (a b : Int) (e : Bool) (hc : 0 ≤ c ∧ c < 4294967296) (hb : 0 ≤ b ∧ b < 4294967296) :
    cr_Told.f c l d a b e = some (c, toldL c a b, e) := by
  have hw : wrap64 b = b := by unfold wrap64; omega
  unfold cr_Told.f serial_Add.f serial_Less.f serial_steps_uint32.f toldL
  simp only [near_eq, Option.bind_some, hw, Int.emod_sub_emod]
  by_cases h : c = (a + b) % 4294967296
  · have h0 : (a + b - c) % 4294967296 = 0 := by omega
    rw [if_pos h]
    simp only [Option.bind_some, h0]
    rfl
  · rw [if_neg h]
    simp only [Option.bind_some]
    by_cases h1 : (a + b - c) % 4294967296 < 2147483648
    · simp only [h1, decide_true, if_true]
    · simp only [h1, decide_false, if_false, Bool.false_eq_true]
theorem take_eq (c l : Int) (d : Bool) (n : Int) (hn : 0 ≤ n ∧ n < 4294967296) : cr_take.f c l d n = some ((c + n) % 4294967296, (l - n) % 4294967296, d) := by
  have hw : wrap64 n = n := by unfold wrap64; omega
  unfold cr_take.f serial_Add.f
  rw [hw]
  rfl
theorem Take_eq (c l : Int) (d : Bool) (hl : 0 ≤ l ∧ l ≤ 1000) : cr_Take.f c l d = if l = 0 then some (false, c, l, d) else some (true, (c + 1) % 4294967296, l - 1, d) := by
  unfold cr_Take.f
  rw [take_eq _ _ _ 1 (by omega)]
  simp only [Option.bind_some]
  split
  · rfl
  · have : (l - 1) % 4294967296 = l - 1 := by omega
    rw [this]
theorem Dry_eq (c l : Int) (d : Bool) (hl : 0 ≤ l ∧ l ≤ 1000) : cr_Dry.f c l d = if d = true then some (l, true, (c + l) % 4294967296, 0, false) else some (0, false, c, l, d) := by
  unfold cr_Dry.f
  rw [take_eq _ _ _ l (by omega)]
  simp only [Option.bind_some]
  have : (l - l) % 4294967296 = 0 := by omega
  rw [this]
theorem Heard_eq (c l : Int) (d : Bool) (a : Int) (hc : 0 ≤ c ∧ c < 4294967296) (ha : 0 ≤ a ∧ a < 4294967296) (hl : 0 ≤ l ∧ l ≤ 1000) :
    cr_Heard.f c l d a = if (a - c) % 4294967296 > l then some (c, l, d) else some (a, l - (a - c) % 4294967296, d && decide (0 < l - (a - c) % 4294967296)) := by
  unfold cr_Heard.f
  rw [take_eq _ _ _ _ (by omega)]
  simp only [Option.bind_some]
  by_cases h : (a - c) % 4294967296 > l
  · rw [if_pos h, if_pos h]
  · rw [if_neg h, if_neg h]
    have e1 : (c + (a - c) % 4294967296) % 4294967296 = a := by omega
    have e2 : (l - (a - c) % 4294967296) % 4294967296 = l - (a - c) % 4294967296 := by omega
    rw [e1, e2]
    cases d <;> simp
theorem works_ge (k : Nat) (hk : 3 ≤ k) : lw16_works.f k = some true :=
  at_rounds (g := fun k => lw16_works.f k) (fun k => lw16_works.mono k) hk (by decide +kernel)
/-- A flow that grants up to e. -/
def Fl (c0 e : Int) (x : S42) : Prop := (0 ≤ x.f1 ∧ x.f1 < 4294967296) ∧ (0 ≤ x.f2 ∧ x.f2 ≤ 1000) ∧ ∃ z : Int, x.f1 + x.f2 = c0 + e + 4294967296 * z
/-- The flows on their way take the sender's end from a up to E, and its drain from ds to D; behind a drain none is on its way. -/
def Ups (c0 E : Int) (D : Bool) : Int → Bool → List S42 → Prop
  | a, ds, [] => a = E ∧ ds = D
  | a, ds, x :: l => ds = false ∧ ∃ e : Int, a ≤ e ∧ Fl c0 e x ∧ Ups c0 E D e x.f3 l
/-- What is on its way to the receiver: deliveries alone, or deliveries and behind them the flow of a sender that has dried. -/
def Dn (c0 Q P E : Int) (dr D : Bool) (down : List S42) : Prop :=
  ((∀ x ∈ down, x.f0 = false) ∧ (down.length : Int) = P - Q ∧ dr = D) ∨
  (∃ (dl : List S42) (x : S42), down = dl ++ [x] ∧ (∀ y ∈ dl, y.f0 = false) ∧ (dl.length : Int) ≤ E - Q ∧ x.f0 = true ∧ x.f1 = (c0 + E) % 4294967296 ∧ P = E ∧ D = false ∧ dr = true)
def Inv (c0 p L : Int) (ds : Bool) (q H : Int) (dr : Bool) (down up : List S42) : Prop :=
  ∃ (Q P Es E : Int) (D : Bool), q = (c0 + Q) % 4294967296 ∧ p = (c0 + P) % 4294967296 ∧ L = Es - P ∧ H = E - Q ∧ 0 ≤ Q ∧ Q ≤ P ∧ P ≤ Es ∧ E ≤ Q + 1000 ∧ Ups c0 E D Es ds up ∧ Dn c0 Q P E dr D down
theorem Ups_le {c0 E : Int} {D : Bool} : ∀ {l : List S42} {a : Int} {ds : Bool}, Ups c0 E D a ds l → a ≤ E
  | [], a, ds, h => by obtain ⟨h, _⟩ := h; omega
  | x :: l, a, ds, h => by
    obtain ⟨_, e, h1, _, h2⟩ := h
    have := Ups_le h2
    omega
theorem Ups_drain {c0 E : Int} {D : Bool} {l : List S42} {a : Int} (h : Ups c0 E D a true l) : l = [] ∧ a = E ∧ D = true := by
  cases l with
  | nil => exact ⟨rfl, h.1, h.2.symm⟩
  | cons x l => exact absurd h.1 (by decide)
theorem Ups_snoc {c0 E E' : Int} {x : S42} (hE : E ≤ E') (hx : Fl c0 E' x) : ∀ {l : List S42} {a : Int} {ds : Bool}, Ups c0 E false a ds l → Ups c0 E' x.f3 a ds (l ++ [x])
  | [], a, ds, h => by
    obtain ⟨h1, h2⟩ := h
    exact ⟨h2, E', by omega, hx, rfl, rfl⟩
  | y :: l, a, ds, h => by
    obtain ⟨h1, e, h2, h3, h4⟩ := h
    exact ⟨h1, e, h2, h3, Ups_snoc hE hx h4⟩
theorem Inv_range {c0 p L : Int} {ds : Bool} {q H : Int} {dr : Bool} {down up : List S42} (h : Inv c0 p L ds q H dr down up) :
    (0 ≤ p ∧ p < 4294967296) ∧ (0 ≤ L ∧ L ≤ 1000) ∧ (0 ≤ q ∧ q < 4294967296) ∧ (0 ≤ H ∧ H ≤ 1000) ∧ (down.length ≤ 1001) ∧ (p - q + L) % 4294967296 ≤ H := by
  obtain ⟨Q, P, Es, E, D, rfl, rfl, rfl, rfl, h1, h2, h3, h4, h5, h6⟩ := h
  have h7 := Ups_le h5
  refine ⟨by omega, by omega, by omega, by omega, ?_, by omega⟩
  rcases h6 with ⟨_, h6, _⟩ | ⟨dl, x, rfl, _, h6, _⟩
  · omega
  · rw [List.length_append]
    simp only [List.length_cons, List.length_nil]
    omega
/-- The sender takes one. -/
theorem Inv_take {c0 p L : Int} {ds : Bool} {q H : Int} {dr : Bool} {down up : List S42} (h : Inv c0 p L ds q H dr down up) (hL : ¬ L = 0) :
    Inv c0 ((p + 1) % 4294967296) (L - 1) ds q H dr (down ++ [⟨false, 0, 0, false⟩]) up := by
  obtain ⟨Q, P, Es, E, D, rfl, rfl, rfl, rfl, h1, h2, h3, h4, h5, h6⟩ := h
  have h7 := Ups_le h5
  refine ⟨Q, P + 1, Es, E, D, rfl, by omega, by omega, rfl, h1, by omega, by omega, h4, h5, ?_⟩
  rcases h6 with ⟨h6, h8, h9⟩ | ⟨dl, x, rfl, _, _, _, _, h6, _⟩
  · refine .inl ⟨fun x hx => ?_, ?_, h9⟩
    · rcases List.mem_append.1 hx with hx | hx
      · exact h6 x hx
      · rw [List.mem_singleton.1 hx]
    · rw [List.length_append]
      simp only [List.length_cons, List.length_nil]
      omega
  · omega
/-- The receiver grants, where nothing is to be drained. -/
theorem Inv_grant {c0 p L : Int} {ds : Bool} {q H : Int} {down up : List S42} (h : Inv c0 p L ds q H false down up) (H' : Int) (b : Bool) (h0 : H ≤ H') (h1 : H' ≤ 1000) :
    Inv c0 p L ds q H' b down (up ++ [⟨true, q, H', b⟩]) := by
  have hr := Inv_range h
  obtain ⟨Q, P, Es, E, D, rfl, rfl, rfl, rfl, g1, h2, h3, h4, h5, h6⟩ := h
  rcases h6 with ⟨h6, h8, h9⟩ | ⟨_, _, _, _, _, _, _, _, _, h9⟩
  · subst h9
    refine ⟨Q, P, Es, Q + H', b, rfl, rfl, rfl, by omega, g1, h2, h3, by omega, ?_, .inl ⟨h6, h8, rfl⟩⟩
    refine Ups_snoc (x := ⟨true, (c0 + Q) % 4294967296, H', b⟩) (by omega) ⟨by simp only; omega, by simp only; omega, -((c0 + Q) / 4294967296), ?_⟩ h5
    simp only
    omega
  · cases h9
/-- The sender dries. -/
theorem Inv_dry {c0 p L : Int} {q H : Int} {dr : Bool} {down up : List S42} (h : Inv c0 p L true q H dr down up) :
    Inv c0 ((p + L) % 4294967296) 0 false q H dr (down ++ [⟨true, (p + L) % 4294967296, 0, false⟩]) up := by
  obtain ⟨Q, P, Es, E, D, rfl, rfl, rfl, rfl, h1, h2, h3, h4, h5, h6⟩ := h
  obtain ⟨rfl, rfl, rfl⟩ := Ups_drain h5
  refine ⟨Q, Es, Es, Es, false, rfl, by omega, by omega, rfl, h1, by omega, by omega, h4, ⟨rfl, rfl⟩, ?_⟩
  rcases h6 with ⟨h6, h8, h9⟩ | ⟨_, _, _, _, _, _, _, _, h9, _⟩
  · exact .inr ⟨down, _, rfl, h6, by omega, rfl, by simp only; omega, rfl, rfl, h9⟩
  · cases h9
/-- What a flow tells the sender. -/
theorem Inv_told {c0 p L : Int} {ds : Bool} {q H : Int} {dr : Bool} {down up : List S42} {x : S42} (h : Inv c0 p L ds q H dr down (x :: up)) :
    Inv c0 p (toldL p x.f1 x.f2) x.f3 q H dr down up ∧ (0 ≤ x.f2 ∧ x.f2 < 4294967296) := by
  obtain ⟨Q, P, Es, E, D, rfl, rfl, rfl, rfl, h1, h2, h3, h4, h5, h6⟩ := h
  obtain ⟨_, e, h7, ⟨f1, f2, z, f3⟩, h8⟩ := h5
  have h9 := Ups_le h8
  refine ⟨⟨Q, P, e, E, D, rfl, rfl, ?_, rfl, h1, h2, by omega, h4, h8, h6⟩, by omega⟩
  have e1 : (x.f1 + x.f2 - (c0 + P) % 4294967296) % 4294967296 = e - P := by omega
  unfold toldL mn
  rw [e1, if_pos (by omega), if_neg (by omega)]
/-- What comes to the receiver first: it is taken. -/
theorem land {c0 p L : Int} {ds : Bool} {q H : Int} {dr : Bool} {down up : List S42} {x : S42} (h : Inv c0 p L ds q H dr (x :: down) up) :
    ∃ (q' H' : Int) (dr' : Bool), lw16_lands.f q H dr x.f0 x.f1 x.f2 x.f3 = some (true, q', H', dr') ∧ Inv c0 p L ds q' H' dr' down up := by
  have hr := Inv_range h
  obtain ⟨_, _, hq, hH, _, _⟩ := hr
  obtain ⟨Q, P, Es, E, D, rfl, rfl, rfl, rfl, h1, h2, h3, h4, h5, h6⟩ := h
  have h7 := Ups_le h5
  unfold lw16_lands.f
  have deliver : x.f0 = false → 1 ≤ E - Q → ∃ (q' H' : Int) (dr' : Bool), (if x.f0 = true then ((cr_Heard.f ((c0 + Q) % 4294967296) (E - Q) dr x.f1).bind fun bt184 => some (true, bt184.1, bt184.2.1, bt184.2.2)) else ((cr_Take.f ((c0 + Q) % 4294967296) (E - Q) dr).bind fun bt187 => some (bt187.1, bt187.2.1, bt187.2.2.1, bt187.2.2.2))) = some (true, q', H', dr') ∧ q' = (c0 + (Q + 1)) % 4294967296 ∧ H' = E - (Q + 1) ∧ dr' = dr := by
    intro hx hE
    refine ⟨_, _, _, ?_, rfl, rfl, rfl⟩
    rw [hx, if_neg (by decide), Take_eq _ _ _ hH, if_neg (by omega)]
    simp only [Option.bind_some, Option.some.injEq, Prod.mk.injEq, true_and, and_true]
    exact ⟨by omega, by omega⟩
  rcases h6 with ⟨h6, h8, h9⟩ | ⟨dl, y, h10, h11, h12, h13, h14, rfl, rfl, rfl⟩
  · simp only [List.length_cons] at h8
    obtain ⟨q', H', dr', e, rfl, rfl, rfl⟩ := deliver (h6 x (List.mem_cons_self ..)) (by omega)
    exact ⟨_, _, _, e, Q + 1, P, Es, E, D, rfl, rfl, rfl, rfl, by omega, by omega, h3, by omega, h5, .inl ⟨fun z hz => h6 z (List.mem_cons_of_mem _ hz), by omega, h9⟩⟩
  · cases dl with
    | nil =>
      simp only [List.nil_append, List.cons.injEq] at h10
      obtain ⟨rfl, rfl⟩ := h10
      refine ⟨(c0 + P) % 4294967296, 0, false, ?_, P, P, Es, P, false, rfl, rfl, rfl, by omega, by omega, by omega, h3, by omega, h5, .inl ⟨fun z hz => by (cases hz), by simp, rfl⟩⟩
      have e1 : ((c0 + P) % 4294967296 - (c0 + Q) % 4294967296) % 4294967296 = P - Q := by omega
      rw [h13, if_pos rfl, h14, Heard_eq _ _ _ _ hq (by omega) hH, e1, if_neg (by omega)]
      simp only [Option.bind_some, Option.some.injEq, Prod.mk.injEq, true_and]
      exact ⟨by omega, by simp⟩
    | cons z dl =>
      simp only [List.cons_append, List.cons.injEq] at h10
      obtain ⟨rfl, rfl⟩ := h10
      simp only [List.length_cons] at h12
      obtain ⟨q', H', dr', e, rfl, rfl, rfl⟩ := deliver (h11 x (List.mem_cons_self ..)) (by omega)
      exact ⟨_, _, _, e, Q + 1, P, Es, P, false, rfl, rfl, rfl, rfl, by omega, by omega, h3, by omega, h5, .inr ⟨dl, y, rfl, fun v hv => h11 v (List.mem_cons_of_mem _ hv), by omega, h13, h14, rfl, rfl, rfl⟩⟩
theorem rd_at (l : List S42) (i : Nat) (x : S42) (r : List S42) (h : l.drop i = x :: r) : rd_T42 l (i : Int) = x ∧ i < l.length ∧ l.drop (i + 1) = r := by
  have hi : i < l.length := by
    rcases Nat.lt_or_ge i l.length with h1 | h1
    · exact h1
    · rw [List.drop_eq_nil_of_le h1] at h; cases h
  rw [List.drop_eq_getElem_cons hi] at h
  simp only [List.cons.injEq] at h
  refine ⟨?_, hi, h.2⟩
  unfold rd_T42
  rw [Int.toNat_natCast, List.getD_eq_getElem?_getD, List.getElem?_eq_getElem hi]
  exact h.1
theorem w64 (i : Int) (h : 0 ≤ i ∧ i < 4294967296) : wrap64 i = i := by unfold wrap64; omega
/-- All that is on its way to the receiver comes. -/
theorem loop2 (c0 : Int) (down : List S42) (is : Bool) (hd : down.length ≤ 1001) (d : Nat) :
    ∀ (k i : Nat) (ix p L q H : Int) (ds dr : Bool), ix = (i : Int) → i ≤ down.length → down.length - i = d → d + 4 ≤ k → Inv c0 p L ds q H dr (down.drop i) [] → ds = false → (is = true → L = 0) →
      lw16_CreditMeets.l2 k down is ix p L ds q H dr = some true := by
  induction d with
  | zero =>
    intro k i ix p L q H ds dr hix hi hn hk h hds his
    subst hix
    obtain ⟨k, rfl⟩ : ∃ m, k = m + 1 := ⟨k - 1, by omega⟩
    rw [List.drop_eq_nil_of_le (by omega)] at h
    obtain ⟨Q, P, Es, E, D, rfl, rfl, rfl, rfl, h1, h2, h3, h4, ⟨rfl, h5⟩, h6⟩ := h
    subst h5
    subst hds
    rcases h6 with ⟨_, h6, rfl⟩ | ⟨dl, x, h6, _⟩
    · simp only [List.length_nil] at h6
      obtain rfl : P = Q := by omega
      simp only [lw16_CreditMeets.l2, cr_Left.f, Option.bind_some]
      rw [if_neg (by omega), if_pos trivial, if_pos trivial, if_neg (by decide), works_ge _ (by omega)]
      split
      · rename_i hz
        rw [if_pos (his hz)]; rfl
      · rfl
    · cases dl <;> cases h6
  | succ d ih =>
    intro k i ix p L q H ds dr hix hi hn hk h hds his
    subst hix
    obtain ⟨k, rfl⟩ : ∃ m, k = m + 1 := ⟨k - 1, by omega⟩
    obtain ⟨x, r, hx⟩ : ∃ x r, down.drop i = x :: r := by
      cases hz : down.drop i with
      | nil => have := congrArg List.length hz; simp only [List.length_drop, List.length_nil] at this; omega
      | cons x r => exact ⟨x, r, rfl⟩
    obtain ⟨e1, e2, e3⟩ := rd_at down i x r hx
    rw [hx] at h
    obtain ⟨q', H', dr', e4, h'⟩ := land h
    simp only [lw16_CreditMeets.l2]
    rw [if_pos (by omega), if_pos (by omega), e1, e4]
    simp only [Option.bind_some, if_true]
    rw [w64 ((i : Int) + 1) (by omega), show ((i : Int) + 1) = ((i + 1 : Nat) : Int) by omega]
    exact ih k (i + 1) _ p L q' H' ds dr' rfl (by omega) (by omega) (by omega) (by rw [e3]; exact h') hds his
/-- All that is on its way to the sender comes; then it dries. -/
theorem loop1 (c0 : Int) (down up : List S42) (hu : up.length ≤ 300) (d : Nat) :
    ∀ (k i : Nat) (ix p L q H : Int) (ds dr : Bool), ix = (i : Int) → i ≤ up.length → up.length - i = d → d + 1100 ≤ k → Inv c0 p L ds q H dr down (up.drop i) →
      lw16_CreditMeets.l1 k down up ix p L ds q H dr = some true := by
  induction d with
  | zero =>
    intro k i ix p L q H ds dr hix hi hn hk h
    subst hix
    obtain ⟨k, rfl⟩ : ∃ m, k = m + 1 := ⟨k - 1, by omega⟩
    rw [List.drop_eq_nil_of_le (by omega)] at h
    obtain ⟨rp, rL, rq, rH, rd, _⟩ := Inv_range h
    simp only [lw16_CreditMeets.l1]
    refine (if_neg (by omega)).trans ?_
    rw [Dry_eq _ _ _ rL]
    obtain ⟨k, rfl⟩ : ∃ m, k = m + 1 := ⟨k - 1, by omega⟩
    cases ds with
    | true =>
      have h' := Inv_dry h
      obtain ⟨_, _, _, _, rd', _⟩ := Inv_range h'
      simp only [if_true, Option.bind_some, cr_Left.f, lw16_CreditMeets.j5]
      refine (if_pos (by omega)).trans ?_
      exact loop2 c0 _ true rd' _ k 0 0 _ _ _ _ _ _ (by omega) (by omega) rfl (by omega) h' rfl (fun _ => rfl)
    | false =>
      simp only [Bool.false_eq_true, if_false, Option.bind_some, lw16_CreditMeets.j5]
      exact loop2 c0 _ false rd _ k 0 0 _ _ _ _ _ _ (by omega) (by omega) rfl (by omega) h rfl (fun h => by cases h)
  | succ d ih =>
    intro k i ix p L q H ds dr hix hi hn hk h
    subst hix
    obtain ⟨k, rfl⟩ : ∃ m, k = m + 1 := ⟨k - 1, by omega⟩
    obtain ⟨x, r, hx⟩ : ∃ x r, up.drop i = x :: r := by
      cases hz : up.drop i with
      | nil => have := congrArg List.length hz; simp only [List.length_drop, List.length_nil] at this; omega
      | cons x r => exact ⟨x, r, rfl⟩
    obtain ⟨e1, e2, e3⟩ := rd_at up i x r hx
    rw [hx] at h
    obtain ⟨rp, _⟩ := Inv_range h
    obtain ⟨h', hx2⟩ := Inv_told h
    simp only [lw16_CreditMeets.l1]
    refine (if_pos (by omega)).trans ?_
    refine (if_pos (by omega)).trans ?_
    rw [e1, told_eq _ _ _ _ _ _ rp hx2]
    simp only [Option.bind_some]
    rw [w64 ((i : Int) + 1) (by omega), show ((i : Int) + 1) = ((i + 1 : Nat) : Int) by omega]
    exact ih k (i + 1) _ p _ q H _ dr rfl (by omega) (by omega) (by omega) (by rw [e3]; exact h')
theorem rd_range (xs : List Int) (hx : ∀ x ∈ xs, (Lit.int .u16 x).wf = true) (i : Int) (h0 : 0 ≤ i) (h1 : i < (xs.length : Int)) : 0 ≤ rd xs i ∧ rd xs i < 65536 := by
  unfold rd
  have h : i.toNat < xs.length := by omega
  rw [List.getD_eq_getElem?_getD, List.getElem?_eq_getElem h]
  exact wf16 (hx _ (List.getElem_mem h))
theorem loop (c0 : Int) (xs : List Int) (hl : xs.length ≤ 300) (hx : ∀ x ∈ xs, (Lit.int .u16 x).wf = true) (d : Nat) :
    ∀ (k : Nat) (i : Int) (down up : List S42) (p L q H : Int) (ds dr : Bool), 0 ≤ i → i ≤ (xs.length : Int) → (xs.length : Int) - i = d → 4 * d + 1500 ≤ k → (up.length : Int) ≤ i → Inv c0 p L ds q H dr down up →
      lw16_CreditMeets.l0 k xs down up i p L ds q H dr = some true := by
  induction d with
  | zero =>
    intro k i down up p L q H ds dr h0 h1 hd hk hu h
    obtain ⟨k, rfl⟩ : ∃ m, k = m + 1 := ⟨k - 1, by omega⟩
    simp only [lw16_CreditMeets.l0]
    refine (if_neg (by omega)).trans ?_
    exact loop1 c0 down up (by omega) _ k 0 0 p L q H ds dr (by omega) (by omega) rfl (by omega) h
  | succ d ih =>
    intro k i down up p L q H ds dr h0 h1 hd hk hu h
    obtain ⟨k, rfl⟩ : ∃ m, k = m + 4 := ⟨k - 4, by omega⟩
    have hlt : i < (xs.length : Int) := by omega
    have hr := rd_range xs hx i h0 hlt
    have J3 : ∀ (m : Nat) (down up : List S42) (p L q H : Int) (ds dr : Bool), k ≤ m → (up.length : Int) ≤ i + 1 → Inv c0 p L ds q H dr down up → lw16_CreditMeets.j3 (m + 1) xs down up i p L ds q H dr = some true := by
      intro m down up p L q H ds dr hm hu h
      obtain ⟨rp, rL, rq, rH, rD, re⟩ := Inv_range h
      simp only [lw16_CreditMeets.j3, cr_Left.f, Option.bind_some]
      refine (if_neg (by omega)).trans ?_
      refine (if_neg (by omega)).trans ?_
      rw [w64 (i + 1) (by omega)]
      exact ih m (i + 1) down up p L q H ds dr (by omega) (by omega) (by omega) (by omega) hu h
    obtain ⟨rp, rL, rq, rH, rD, re⟩ := Inv_range h
    have J2 : ∀ (n a : Int) (y : Bool), 0 ≤ n ∧ n < 20 → lw16_CreditMeets.j2 (k + 2) xs down up i n a y p L ds q H dr = some true := by
      intro n a y hn
      simp only [lw16_CreditMeets.j2, cr_Left.f, Option.bind_some]
      by_cases hy : y = true
      · refine (if_pos hy).trans ?_
        cases dr with
        | true =>
          refine (if_pos rfl).trans ?_
          rw [w64 (i + 1) (by omega)]
          exact ih (k + 1) (i + 1) down up p L q H ds true (by omega) (by omega) (by omega) (by omega) (by omega) h
        | false =>
          have e1 : (H + n) % 4294967296 = H + n := by omega
          refine (if_neg (by decide)).trans ?_
          refine (if_pos h0).trans ?_
          refine (if_pos hlt).trans ?_
          simp only [cr_Grant.f, Option.bind_some, e1]
          refine (if_pos (by omega)).trans ?_
          have hmn : H ≤ mn (H + n) 1000 ∧ mn (H + n) 1000 ≤ 1000 := by unfold mn; split <;> omega
          exact J3 k _ _ _ _ _ _ _ _ (by omega) (by rw [List.length_append]; simp only [List.length_cons, List.length_nil]; omega) (Inv_grant h _ _ hmn.1 hmn.2)
      refine (if_neg hy).trans ?_
      by_cases h5 : a = 5
      · refine (if_pos h5).trans ?_
        rw [Dry_eq _ _ _ rL]
        cases ds with
        | true =>
          simp only [if_true, Option.bind_some]
          refine (if_pos (by omega)).trans ?_
          exact J3 k _ _ _ _ _ _ _ _ (by omega) (by omega) (Inv_dry h)
        | false =>
          simp only [Bool.false_eq_true, if_false, Option.bind_some]
          exact J3 k _ _ _ _ _ _ _ _ (by omega) (by omega) h
      refine (if_neg h5).trans ?_
      by_cases h6 : a = 6
      · refine (if_pos h6).trans ?_
        cases down with
        | nil =>
          refine (if_neg (by simp)).trans ?_
          exact J3 k _ _ _ _ _ _ _ _ (by omega) (by omega) h
        | cons x l =>
          obtain ⟨q', H', dr', e4, h'⟩ := land h
          have e0 : rd_T42 (x :: l) 0 = x := rfl
          simp only [List.length_cons] at rD
          refine (if_pos (by simp only [List.length_cons]; omega)).trans ?_
          refine (if_pos (by simp only [List.length_cons]; omega)).trans ?_
          rw [e0, e4]
          simp only [Option.bind_some, if_true, List.drop_succ_cons, List.drop_zero, List.nil_append, List.length_nil, List.length_cons]
          refine (if_pos (by omega)).trans ?_
          refine (if_pos (by omega)).trans ?_
          exact J3 k _ _ _ _ _ _ _ _ (by omega) (by omega) h'
      refine (if_neg h6).trans ?_
      by_cases h7 : a = 7
      · refine (if_pos h7).trans ?_
        cases up with
        | nil =>
          refine (if_neg (by simp)).trans ?_
          exact J3 k _ _ _ _ _ _ _ _ (by omega) (by omega) h
        | cons x l =>
          obtain ⟨h', hx2⟩ := Inv_told h
          have e0 : rd_T42 (x :: l) 0 = x := rfl
          simp only [List.length_cons] at hu
          refine (if_pos (by simp only [List.length_cons]; omega)).trans ?_
          refine (if_pos (by simp only [List.length_cons]; omega)).trans ?_
          rw [e0, told_eq _ _ _ _ _ _ rp hx2]
          simp only [Option.bind_some, List.drop_succ_cons, List.drop_zero, List.nil_append, List.length_nil, List.length_cons]
          refine (if_pos (by omega)).trans ?_
          refine (if_pos (by omega)).trans ?_
          exact J3 k _ _ _ _ _ _ _ _ (by omega) (by omega) h'
      · refine (if_neg h7).trans ?_
        exact J3 k _ _ _ _ _ _ _ _ (by omega) (by omega) h
    have J1 : ∀ (n a : Int) (y : Bool), 0 ≤ n ∧ n < 20 → lw16_CreditMeets.j1 (k + 3) xs down up i n a y p L ds q H dr = some true := by
      intro n a y hn
      simp only [lw16_CreditMeets.j1]
      by_cases hy : y = true
      · refine (if_pos hy).trans ?_
        by_cases hz : L = 0
        · have eT : cr_Take.f p L ds = some (false, p, L, ds) := by rw [Take_eq _ _ _ rL, if_pos hz]
          rw [eT]
          simp only [Option.bind_some]
          refine (if_neg (by decide)).trans ?_
          exact J3 (k + 1) _ _ _ _ _ _ _ _ (by omega) (by omega) h
        · have eT : cr_Take.f p L ds = some (true, (p + 1) % 4294967296, L - 1, ds) := by rw [Take_eq _ _ _ rL, if_neg hz]
          rw [eT]
          simp only [Option.bind_some, if_true]
          refine (if_pos (by omega)).trans ?_
          exact J3 (k + 1) _ _ _ _ _ _ _ _ (by omega) (by omega) (Inv_take h hz)
      · refine (if_neg hy).trans ?_
        split <;> exact J2 _ _ _ hn
    have hn : 0 ≤ Int.tmod (IntKind.u16.wrap (Int.tdiv (rd xs i) 8)) 20 % 4294967296 ∧ Int.tmod (IntKind.u16.wrap (Int.tdiv (rd xs i) 8)) 20 % 4294967296 < 20 := by
      have e1 : Int.tdiv (rd xs i) 8 = rd xs i / 8 := Int.tdiv_eq_ediv_of_nonneg hr.1
      have e2 : IntKind.u16.wrap (rd xs i / 8) = rd xs i / 8 := by
        simp [IntKind.wrap, IntKind.signed, IntKind.bits]
        omega
      rw [e1, e2, Int.tmod_eq_emod_of_nonneg (by omega)]
      omega
    simp only [lw16_CreditMeets.l0]
    refine (if_pos hlt).trans ?_
    refine (if_pos h0).trans ?_
    generalize Int.tmod (IntKind.u16.wrap (Int.tdiv (rd xs i) 8)) 20 % 4294967296 = n at hn ⊢
    split
    · exact J1 _ _ _ hn
    · split <;> exact J1 _ _ _ hn
theorem CreditMeets : lw16_CreditMeets.Pure := by
  intro c xs hc hm hb hx
  replace hc := wf32 hc
  refine ⟨4 * xs.length + 1600, ?_⟩
  unfold lw16_CreditMeets.f credit_New.f
  by_cases h : (xs.length : Int) > 300
  · rw [if_pos h, works_ge _ (by omega)]; rfl
  · rw [if_neg h]
    simp only [Option.bind_some]
    refine loop c xs (by omega) hx xs.length _ 0 [] [] c 0 c 0 false false (by omega) (by omega) (by omega) (by omega) (by simp) ?_
    exact ⟨0, 0, 0, 0, false, by omega, by omega, by omega, by omega, by omega, by omega, by omega, by omega, ⟨rfl, rfl⟩, .inl ⟨fun x hx => (by cases hx), by simp, rfl⟩⟩

end Go.Proofs.Ytadbpgljamkoeaa.Pure
