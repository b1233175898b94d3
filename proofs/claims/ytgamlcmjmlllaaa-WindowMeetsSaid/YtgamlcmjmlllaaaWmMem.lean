/- WindowMeets' memory: two windows behind an array of pointers, an array of two rows of what is on its way; what the windows' functions do to it. No condition of our own. -/
import Derived.Test.YtgamlcmjmlllaaaPWindowMeetsx2
import Derived.Test.YtgamlcmjmlllaaaWmPlain
namespace Go.Proofs.Ytgamlcmjmlllaaa.Wm
open Go.RowKit Go.Proofs.YtgamlcmjmlllaaaW.PrintWords Go.Proofs.YtgamlcmjmlllaaaW.PrintLast Go.Proofs.YtgamlcmjmlllaaaW.PrintMore Go.Proofs.Ytgamlcmjmlllaaa.PWindowMeets
set_option linter.unusedVariables false
/-! ### what the printed functions answer within our bounds -/
theorem near_eq (n : Int) : serial_near_uint32.f n = some (decide (n < 2147483648)) := by
  have e : Go.bits .xor .u32 Go.IntKind.u32.max 0 / 2 = 2147483647 := by decide +kernel
  unfold serial_near_uint32.f
  rw [e]
  congr 1
  rw [decide_eq_decide]
  omega
def toldO (no n a : Int) : Int := if (mx n 0 + a - no) % 4294967296 < 2147483648 then mn ((mx n 0 + a - no) % 4294967296) 256 else 0
theorem told_eq (g no ni : Int) (kn : Bool) (o i n a b : Int) (ha : 0 ≤ a ∧ a < 4294967296) :
    wi_Told.f g no ni kn o i n a b = some (g, no, (if kn = true then ni else b), true, toldO no n a, i) := by
  have hw : wrap64 a = a := by unfold wrap64; omega
  unfold wi_Told.f serial_Add.f serial_Less.f serial_steps_uint32.f wi_learn.f toldO
  simp only [near_eq, Option.bind_some, hw, Int.emod_sub_emod, Int.emod_add_emod]
  by_cases h : no = (mx n 0 + a) % 4294967296
  · have h0 : (mx n 0 + a - no) % 4294967296 = 0 := by omega
    rw [if_pos h]
    simp only [Option.bind_some, h0]
    cases kn <;> rfl
  · rw [if_neg h]
    simp only [Option.bind_some]
    by_cases h1 : (mx n 0 + a - no) % 4294967296 < 2147483648
    · simp only [h1, decide_true, if_true]
      cases kn <;> rfl
    · simp only [h1, decide_false, if_false, Bool.false_eq_true]
      cases kn <;> rfl
theorem told_small (O n g : Int) (hn : 0 ≤ n) (hO : n ≤ O) (hO2 : O ≤ 1000000) (hg : 1 ≤ g) (hg2 : g ≤ 256) : toldO O n g = toldOut O n g := by
  have e : mx n 0 = n := by unfold mx; split <;> omega
  unfold toldO toldOut
  rw [e]
  by_cases c : O < n + g
  · have e2 : (n + g - O) % 4294967296 = n + g - O := by omega
    rw [if_pos c, e2, if_pos (by omega)]
    unfold mn
    split <;> omega
  · rw [if_neg c]
    by_cases d : O = n + g
    · have e2 : (n + g - O) % 4294967296 = 0 := by omega
      rw [e2, if_pos (by omega)]; rfl
    · rw [if_neg (by omega)]
theorem works_eq : lw15_works.f = some true := by decide +kernel
theorem works_calls (W : World) : Calls Try.prog 9 #[] W fun e W' => e = .returned (.bool true) ∧ Below W.heap.size W W' := lw15_works.calls true W works_eq
theorem new_eq (a : Int) (ha : 0 ≤ a) : ∃ g, 1 ≤ g ∧ g ≤ 256 ∧ mn (mx a 1) 256 = g := by
  refine ⟨_, ?_, ?_, rfl⟩ <;> unfold mn mx <;> (repeat' split) <;> omega
/-! ### the windows -/
abbrev IsW (w0 W : World) (b : Nat) (x : Win) : Prop := IsS57 w0 W b x.G x.O x.I x.kn x.out x.inn
structure Ws (w0 W : World) (pa : Nat) (g : Nat → Nat) (S : Nat → Win) : Prop where
  bel : Below w0.heap.size w0 W
  p : W.heap[pa]? = some (.cells #[.pointer (some ⟨g 0, 0, none⟩), .pointer (some ⟨g 1, 0, none⟩)] 39 (0, 0))
  pb : w0.heap.size ≤ pa
  s : ∀ k, k < 2 → IsW w0 W (g k) (S k)
  gne : g 0 ≠ g 1
variable {w0 W W' : World} {pa wa : Nat} {g : Nat → Nat} {S : Nat → Win} {v : Nat → Value} {q : Nat → List Msg} {k : Nat}
theorem Ws.cell (T : Ws w0 W pa g S) (hk : k < 2) : W.cell? ⟨pa, k, none⟩ = some (.pointer (some ⟨g k, 0, none⟩)) := by
  have h := blk_cell T.p k
  obtain rfl | rfl : k = 0 ∨ k = 1 := by omega
  · exact h
  · exact h
theorem Ws.ne (T : Ws w0 W pa g S) {j : Nat} (hk : k < 2) (hj : j < 2) (h : j ≠ k) : g j ≠ g k := by
  have := T.gne
  obtain rfl | rfl : k = 0 ∨ k = 1 := by omega
  · obtain rfl : j = 1 := by omega
    exact fun e => this e.symm
  · obtain rfl : j = 0 := by omega
    exact this
theorem Ws.step (T : Ws w0 W pa g S) (hk : k < 2) {x : Win} (hI : IsW w0 W' (g k) x) (hB : Below w0.heap.size w0 W') (hK : KeepBut W W' (g k) none) : Ws w0 W' pa g (upd S k x) := by
  have hp : pa ≠ g k := fun e => (T.s k hk).ne_blk T.p (by decide) e.symm
  refine ⟨hB, hK.blk T.p hp (by simp), T.pb, fun j hj => ?_, T.gne⟩
  by_cases e : j = k
  · subst e
    rw [upd_same]; exact hI
  · rw [upd_ne _ _ _ _ e]
    exact (T.s j hj).beside hK (T.ne hk hj e)
theorem Ws.below (T : Ws w0 W pa g S) (hb : Below W.heap.size W W') : Ws w0 W' pa g S :=
  ⟨below_step T.bel hb, (hb.block pa (blk_lt T.p)).trans T.p, T.pb, fun j hj => (T.s j hj).below hb, T.gne⟩
theorem upd_self {α : Type} (S : Nat → α) (k : Nat) : upd S k (S k) = S := by
  funext j
  unfold upd
  split
  · rename_i e; rw [e]
  · rfl
theorem left_calls (T : Ws w0 W pa g S) (hk : k < 2) : Calls Try.prog 14 #[.pointer (some ⟨g k, 0, none⟩)] W fun e W' => e = .returned (.tuple #[.int .u32 (S k).out, .int .u32 (S k).inn]) ∧ Ws w0 W' pa g S ∧ KeepBut W W' (g k) none :=
  (wi_Left.calls (g k) _ _ _ _ _ _ _ _ _ _ _ _ _ _ w0 W (T.s k hk) T.bel rfl).mono fun e W' ⟨h1, h2, h3, h4⟩ => ⟨h1, by have := T.step hk (x := S k) h2 h3 h4; rwa [upd_self] at this, h4⟩
theorem grant_calls (T : Ws w0 W pa g S) (hk : k < 2) : Calls Try.prog 18 #[.pointer (some ⟨g k, 0, none⟩)] W fun e W' => e = .returned (.tuple #[.int .u32 (S k).I, .int .u32 (S k).G, .int .u32 (S k).O]) ∧ Ws w0 W' pa g (upd S k (grantS (S k))) ∧ KeepBut W W' (g k) none :=
  (wi_Grant.calls (g k) _ _ _ _ _ _ _ _ _ _ _ _ _ _ _ w0 W (T.s k hk) T.bel rfl).mono fun e W' ⟨h1, h2, h3, h4⟩ => ⟨h1, T.step hk (x := grantS (S k)) h2 h3 h4, h4⟩
theorem sent_calls (T : Ws w0 W pa g S) (hk : k < 2) (hO : 0 ≤ (S k).O ∧ (S k).O ≤ 1000000) (ho : 0 ≤ (S k).out ∧ (S k).out ≤ 1000000) (h0 : (S k).out ≠ 0) : Calls Try.prog 17 #[.pointer (some ⟨g k, 0, none⟩)] W fun e W' => e = .returned (.tuple #[.int .u32 (S k).O, .bool true]) ∧ Ws w0 W' pa g (upd S k (sentS (S k))) ∧ KeepBut W W' (g k) none :=
  (wi_Sent.calls (g k) _ _ _ _ _ _ (S k).O true (S k).G ((S k).O + 1) (S k).I (S k).kn ((S k).out - 1) (S k).inn w0 W (T.s k hk) T.bel (by
    unfold wi_Sent.f serial_Add.f
    rw [if_neg h0]
    simp only [Option.bind_some]
    rw [show ((S k).O + 1) % 4294967296 = (S k).O + 1 by omega, show ((S k).out - 1) % 4294967296 = (S k).out - 1 by omega])).mono fun e W' ⟨h1, h2, h3, h4⟩ => ⟨h1, T.step hk (x := sentS (S k)) h2 h3 h4, h4⟩
theorem sent_none (T : Ws w0 W pa g S) (hk : k < 2) (h0 : (S k).out = 0) : Calls Try.prog 17 #[.pointer (some ⟨g k, 0, none⟩)] W fun e W' => e = .returned (.tuple #[.int .u32 0, .bool false]) ∧ Ws w0 W' pa g S ∧ KeepBut W W' (g k) none :=
  (wi_Sent.calls (g k) _ _ _ _ _ _ 0 false (S k).G (S k).O (S k).I (S k).kn (S k).out (S k).inn w0 W (T.s k hk) T.bel (by unfold wi_Sent.f; rw [if_pos h0])).mono fun e W' ⟨h1, h2, h3, h4⟩ => ⟨h1, by have := T.step hk (x := S k) h2 h3 h4; rwa [upd_self] at this, h4⟩
theorem told_calls (T : Ws w0 W pa g S) (hk : k < 2) (n a o : Int) (hkn : (S k).kn = true) (hn : 0 ≤ n ∧ n ≤ (S k).O) (hO : (S k).O ≤ 1000000) (ha : 1 ≤ a ∧ a ≤ 256) : Calls Try.prog 20 #[.pointer (some ⟨g k, 0, none⟩), .int .i64 n, .int .u32 a, .int .u32 o] W fun e W' => e = .returned (.tuple #[]) ∧ Ws w0 W' pa g (upd S k (toldS (S k) n a)) ∧ KeepBut W W' (g k) none :=
  (wi_Told.calls (g k) _ _ _ _ _ _ n a o (S k).G (S k).O (S k).I true (toldOut (S k).O n a) (S k).inn w0 W (T.s k hk) T.bel (by
    rw [told_eq _ _ _ _ _ _ _ _ _ (by omega), told_small _ _ _ hn.1 hn.2 hO ha.1 ha.2, hkn]; rfl)).mono fun e W' ⟨h1, h2, h3, h4⟩ => ⟨h1, T.step hk (x := toldS (S k) n a) (by rw [← hkn] at h2; exact h2) h3 h4, h4⟩
theorem got_calls (T : Ws w0 W pa g S) (hk : k < 2) (hkn : (S k).kn = true) (hI : 0 ≤ (S k).I ∧ (S k).I ≤ 1000000) (hi : 1 ≤ (S k).inn ∧ (S k).inn ≤ 256) : Calls Try.prog 21 #[.pointer (some ⟨g k, 0, none⟩)] W fun e W' => e = .returned (.bool true) ∧ Ws w0 W' pa g (upd S k (gotS (S k))) ∧ KeepBut W W' (g k) none :=
  (wi_Got.calls (g k) _ _ _ _ _ _ true (S k).G (S k).O ((S k).I + 1) (S k).kn (S k).out ((S k).inn - 1) w0 W (T.s k hk) T.bel (by
    unfold wi_Got.f serial_Add.f
    rw [if_neg (by omega), if_pos hkn]
    simp only [Option.bind_some]
    rw [show ((S k).I + 1) % 4294967296 = (S k).I + 1 by omega, show ((S k).inn - 1) % 4294967296 = (S k).inn - 1 by omega])).mono fun e W' ⟨h1, h2, h3, h4⟩ => ⟨h1, T.step hk (x := gotS (S k)) h2 h3 h4, h4⟩
def begunS (s : Win) (a : Int) : Win := { s with I := 0, kn := true, out := mn a 256 }
theorem begun_calls (T : Ws w0 W pa g S) (hk : k < 2) (a : Int) : Calls Try.prog 16 #[.pointer (some ⟨g k, 0, none⟩), .int .u32 0, .int .u32 a] W fun e W' => e = .returned (.tuple #[]) ∧ Ws w0 W' pa g (upd S k (begunS (S k) a)) ∧ KeepBut W W' (g k) none :=
  (wi_Begun.calls (g k) _ _ _ _ _ _ 0 a (S k).G (S k).O 0 true (mn a 256) (S k).inn w0 W (T.s k hk) T.bel rfl).mono fun e W' ⟨h1, h2, h3, h4⟩ => ⟨h1, T.step hk (x := begunS (S k) a) h2 h3 h4, h4⟩
/-! ### what is on its way -/
def kMsg : Kd Msg := Kd.iso (Kd.pair Kd.bool (Kd.pair (Kd.int .u32) (Kd.pair (Kd.int .u32) (Kd.int .u32)))) (fun x : Msg => (x.flow, x.n, x.g, x.o))
def cMsg (x : Msg) : List Value := [.bool x.flow, .int .u32 x.n, .int .u32 x.g, .int .u32 x.o]
theorem kMsg_open {w : World} {x : Msg} {cs : List Value} (h : kMsg.K w x cs) : cs = cMsg x := by
  obtain ⟨_, _, rfl, rfl, _, _, rfl, rfl, _, _, rfl, rfl, rfl⟩ := h
  exact rfl
theorem kMsg_made (w : World) (base : Nat) (ok : Nat → Prop) (x : Msg) : kMsg.M w base ok x (cMsg x) := ⟨[_], [_, _, _], rfl, rfl, [_], [_, _], rfl, rfl, [_], [_], rfl, rfl, rfl⟩
structure St (w0 W : World) (pa wa : Nat) (g : Nat → Nat) (S : Nat → Win) (v : Nat → Value) (q : Nat → List Msg) : Prop where
  ws : Ws w0 W pa g S
  wy : W.heap[wa]? = some (.cells #[v 0, v 1] 42 (0, 0))
  wb : w0.heap.size ≤ wa
  r : ∀ k, k < 2 → Kd.R kMsg 46 W w0.heap.size (fun _ => True) (v k) (q k)
  vne : ∀ b, (v 0).ownBlock = some b → (v 1).ownBlock ≠ some b
theorem St.cell (T : St w0 W pa wa g S v q) (hk : k < 2) : W.cell? ⟨wa, k, none⟩ = some (v k) := by
  have h := blk_cell T.wy k
  obtain rfl | rfl : k = 0 ∨ k = 1 := by omega
  · exact h
  · exact h
theorem St.frozen (T : St w0 W pa wa g S v q) : W.frozen? ⟨wa, k, none⟩ = false := blk_frozen T.wy k
theorem St.keep (T : St w0 W pa wa g S v q) {S' : Nat → Win} (hk : k < 2) (hs : Ws w0 W' pa g S') (hK : KeepBut W W' (g k) none) : St w0 W' pa wa g S' v q := by
  have hI := T.ws.s k hk
  have hw : wa ≠ g k := fun e => hI.ne_blk T.wy (by decide) e.symm
  refine ⟨hs, hK.blk T.wy hw (by simp), T.wb, fun j hj => ?_, T.vne⟩
  exact Kd.R_mono (Kd.R_keep (Kd.R_types (T.r j hj) hI.1 (by decide)) hK (fun _ h => h.2)) (fun _ h => h.1)
theorem St.below (T : St w0 W pa wa g S v q) (hb : Below W.heap.size W W') : St w0 W' pa wa g S v q :=
  ⟨T.ws.below hb, (hb.block wa (blk_lt T.wy)).trans T.wy, T.wb, fun j hj => Kd.R_below (T.r j hj) hb, T.vne⟩
/-- Way k has been written anew: its row is v1 (of W1), and it stands in the array. -/
theorem St.row (T : St w0 W pa wa g S v q) (hk : k < 2) {W1 : World} {v1 : Value} {ys : List Msg} (hB : Below w0.heap.size w0 W1)
    (hb : ∀ b, b < W.heap.size → (v k).ownBlock ≠ some b → W1.heap[b]? = W.heap[b]?)
    (hr : Kd.R kMsg 46 W1 w0.heap.size (fun _ => True) v1 ys) (hne : ∀ b, v1.ownBlock = some b → (v k).ownBlock = some b ∨ W.heap.size ≤ b) :
    St w0 (W1.setCell ⟨wa, k, none⟩ v1) pa wa g S (upd v k v1) (upd q k ys) := by
  have hrow : ∀ j, j < 2 → j ≠ k → ∀ b, (v j).ownBlock = some b → (v k).ownBlock ≠ some b := by
    intro j hj e b h1 h2
    obtain rfl | rfl : k = 0 ∨ k = 1 := by omega
    · obtain rfl : j = 1 := by omega
      exact T.vne b h2 h1
    · obtain rfl : j = 0 := by omega
      exact T.vne b h1 h2
  have hown : ∀ b t cs, W.heap[b]? = some (.cells cs t (0, 0)) → t ≠ 46 → (v k).ownBlock ≠ some b := fun b t cs h ht e => Kd.R_ne (T.r k hk) h (fun e2 => ht e2.symm) e.symm
  have hp1 : W1.heap[pa]? = some (.cells #[.pointer (some ⟨g 0, 0, none⟩), .pointer (some ⟨g 1, 0, none⟩)] 39 (0, 0)) := (hb pa (blk_lt T.ws.p) (hown _ _ _ T.ws.p (by decide))).trans T.ws.p
  have hw1 : W1.heap[wa]? = some (.cells #[v 0, v 1] 42 (0, 0)) := (hb wa (blk_lt T.wy) (hown _ _ _ T.wy (by decide))).trans T.wy
  have hpw : pa ≠ wa := blk_ne T.ws.p T.wy (by decide)
  have hnew : ∀ j, j < 2 → (upd v k v1 j).ownBlock = (if j = k then v1.ownBlock else (v j).ownBlock) := by
    intro j hj
    unfold upd
    split <;> rfl
  refine ⟨⟨?_, (Below.heap_setCell W1 ⟨wa, k, none⟩ v1 pa hpw).trans hp1, T.ws.pb, fun j hj => ?_, T.ws.gne⟩, ?_, T.wb, fun j hj => ?_, ?_⟩
  · exact below_set hB T.wb
  · have hI := T.ws.s j hj
    have hI1 : IsW w0 W1 (g j) (S j) := ⟨(hb (g j) hI.lt (hown _ _ _ hI.1 (by decide))).trans hI.1, hI.2⟩
    exact hI1.far (fun e => hI.ne_blk T.wy (by decide) e) v1
  · have h := blk_set hw1 k v1
    rw [h]
    obtain rfl | rfl : k = 0 ∨ k = 1 := by omega
    · rfl
    · rfl
  · by_cases e : j = k
    · subst e
      rw [upd_same, upd_same]
      exact Kd.R_set hr hw1 (by decide) j v1
    · rw [upd_ne _ _ _ _ e, upd_ne _ _ _ _ e]
      have h1 : Kd.R kMsg 46 W1 w0.heap.size (fun _ => True) (v j) (q j) := Kd.R_mono (Kd.R_move (Kd.R_bound (Kd.R_tight rfl (T.r j hj))) (fun b hb1 => hb b hb1.2.2.1 (hrow j hj e b hb1.1.symm))) (fun _ _ => trivial)
      exact Kd.R_set h1 hw1 (by decide) k v1
  · intro b h1 h2
    rw [hnew 0 (by omega)] at h1
    rw [hnew 1 (by omega)] at h2
    obtain rfl | rfl : k = 0 ∨ k = 1 := by omega
    · rw [if_pos rfl] at h1
      rw [if_neg (by decide)] at h2
      rcases hne b h1 with h3 | h3
      · exact T.vne b h3 h2
      · have := Kd.R_lt (T.r 1 (by omega)) b h2
        omega
    · rw [if_neg (by decide)] at h1
      rw [if_pos rfl] at h2
      rcases hne b h2 with h3 | h3
      · exact T.vne b h1 h3
      · have := Kd.R_lt (T.r 0 (by omega)) b h1
        omega
end Go.Proofs.Ytgamlcmjmlllaaa.Wm
