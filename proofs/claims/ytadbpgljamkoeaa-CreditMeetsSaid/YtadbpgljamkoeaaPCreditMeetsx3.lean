/- Written by a program of this session (a turned copy of the print; not the kit's own print): the walks of the functions that one law reaches, or that law's row; the plain law stands in the Pure text; no condition of our own. -/
import Derived.Test.YtadbpgljamkoeaaPCreditMeetsx0
import Derived.Test.YtadbpgljamkoeaaPCreditMeetsx1
import Derived.Test.YtadbpgljamkoeaaPCreditMeetsx2
namespace Go.Proofs.Ytadbpgljamkoeaa.PCreditMeets
open Go.RowKit Go.Proofs.YtadbpgljamkoeaaW.PrintWords Go.Proofs.YtadbpgljamkoeaaW.PrintLast Go.Proofs.YtadbpgljamkoeaaW.PrintMore
attribute [local go_sem] max2_int min2_int max_two min_two max_three min_three max_four min_four   -- for this text's walks alone
set_option linter.unusedVariables false
set_option linter.unusedSimpArgs false

/-! ### lw16_CreditMeets: function 4 -/
mutual
def lw16_CreditMeets.l0 : Nat → List Int → List (S42) → List (S42) → Int → Int → Int → Bool → Int → Int → Bool → Option (Bool)
 | 0, _, _, _, _, _, _, _, _, _, _ => none
 | k + 1, x1, x7, x8, x9, x196000, x196001, x196002, x200000, x200001, x200002 => if x9 < (x1.length : Int) then (if 0 ≤ x9 then (if (Int.tmod (rd x1 x9) 8) = 0 then (lw16_CreditMeets.j1 k x1 x7 x8 x9 ((Int.tmod (IntKind.u16.wrap (Int.tdiv (rd x1 x9) 8)) 20) % 4294967296) (Int.tmod (rd x1 x9) 8) ((Int.tmod (rd x1 x9) 8) == 0) x196000 x196001 x196002 x200000 x200001 x200002) else (if (Int.tmod (rd x1 x9) 8) = 1 then (lw16_CreditMeets.j1 k x1 x7 x8 x9 ((Int.tmod (IntKind.u16.wrap (Int.tdiv (rd x1 x9) 8)) 20) % 4294967296) (Int.tmod (rd x1 x9) 8) ((Int.tmod (rd x1 x9) 8) == 1) x196000 x196001 x196002 x200000 x200001 x200002) else (lw16_CreditMeets.j1 k x1 x7 x8 x9 ((Int.tmod (IntKind.u16.wrap (Int.tdiv (rd x1 x9) 8)) 20) % 4294967296) (Int.tmod (rd x1 x9) 8) ((Int.tmod (rd x1 x9) 8) == 2) x196000 x196001 x196002 x200000 x200001 x200002))) else (none)) else (lw16_CreditMeets.l1 k x7 x8 0 x196000 x196001 x196002 x200000 x200001 x200002)
def lw16_CreditMeets.j3 : Nat → List Int → List (S42) → List (S42) → Int → Int → Int → Bool → Int → Int → Bool → Option (Bool)
 | 0, _, _, _, _, _, _, _, _, _, _ => none
 | k + 1, x1, x7, x8, x9, x196000, x196001, x196002, x200000, x200001, x200002 => (cr_Left.f x196000 x196001 x196002).bind fun bt274 => ((cr_Left.f x200000 x200001 x200002).bind fun bt280 => (if bt274.2.1 > 1000 then (some false) else (if (((bt274.1 - bt280.1) + bt274.2.1) % 4294967296) > bt280.2.1 then (some false) else (lw16_CreditMeets.l0 k x1 x7 x8 (wrap64 (x9 + 1)) bt274.2.2.2.1 bt274.2.2.2.2.1 bt274.2.2.2.2.2 bt280.2.2.2.1 bt280.2.2.2.2.1 bt280.2.2.2.2.2))))
def lw16_CreditMeets.j1 : Nat → List Int → List (S42) → List (S42) → Int → Int → Int → Bool → Int → Int → Bool → Int → Int → Bool → Option (Bool)
 | 0, _, _, _, _, _, _, _, _, _, _, _, _, _ => none
 | k + 1, x1, x7, x8, x9, x10, x64, x65, x196000, x196001, x196002, x200000, x200001, x200002 => if x65 = true then ((cr_Take.f x196000 x196001 x196002).bind fun bt202 => (if bt202.1 = true then (if x7.length < 8796093022208 then (lw16_CreditMeets.j3 k x1 (x7 ++ [(⟨false, 0, 0, false⟩ : S42)]) x8 x9 bt202.2.1 bt202.2.2.1 bt202.2.2.2 x200000 x200001 x200002) else (none)) else (lw16_CreditMeets.j3 k x1 x7 x8 x9 bt202.2.1 bt202.2.2.1 bt202.2.2.2 x200000 x200001 x200002))) else (if x64 = 3 then (lw16_CreditMeets.j2 k x1 x7 x8 x9 x10 x64 (x64 == 3) x196000 x196001 x196002 x200000 x200001 x200002) else (lw16_CreditMeets.j2 k x1 x7 x8 x9 x10 x64 (x64 == 4) x196000 x196001 x196002 x200000 x200001 x200002))
def lw16_CreditMeets.j2 : Nat → List Int → List (S42) → List (S42) → Int → Int → Int → Bool → Int → Int → Bool → Int → Int → Bool → Option (Bool)
 | 0, _, _, _, _, _, _, _, _, _, _, _, _, _ => none
 | k + 1, x1, x7, x8, x9, x10, x64, x75, x196000, x196001, x196002, x200000, x200001, x200002 => if x75 = true then ((cr_Left.f x200000 x200001 x200002).bind fun bt209 => (if bt209.2.2.1 = true then (lw16_CreditMeets.l0 k x1 x7 x8 (wrap64 (x9 + 1)) x196000 x196001 x196002 bt209.2.2.2.1 bt209.2.2.2.2.1 bt209.2.2.2.2.2) else (if 0 ≤ x9 then (if x9 < (x1.length : Int) then ((cr_Grant.f bt209.2.2.2.1 bt209.2.2.2.2.1 bt209.2.2.2.2.2 ((bt209.2.1 + x10) % 4294967296) ((Int.tmod (rd x1 x9) 8) == 4)).bind fun bt216 => ((cr_Left.f bt216.2.1 bt216.2.2.1 bt216.2.2.2).bind fun bt220 => (if x8.length < 8796093022208 then (lw16_CreditMeets.j3 k x1 x7 (x8 ++ [(⟨true, bt216.1, bt220.2.1, bt220.2.2.1⟩ : S42)]) x9 x196000 x196001 x196002 bt220.2.2.2.1 bt220.2.2.2.2.1 bt220.2.2.2.2.2) else (none)))) else (none)) else (none)))) else (if x64 = 5 then ((cr_Dry.f x196000 x196001 x196002).bind fun bt229 => (if bt229.2.1 = true then ((cr_Left.f bt229.2.2.1 bt229.2.2.2.1 bt229.2.2.2.2).bind fun bt234 => (if x7.length < 8796093022208 then (lw16_CreditMeets.j3 k x1 (x7 ++ [(⟨true, bt234.1, 0, false⟩ : S42)]) x8 x9 bt234.2.2.2.1 bt234.2.2.2.2.1 bt234.2.2.2.2.2 x200000 x200001 x200002) else (none))) else (lw16_CreditMeets.j3 k x1 x7 x8 x9 bt229.2.2.1 bt229.2.2.2.1 bt229.2.2.2.2 x200000 x200001 x200002))) else (if x64 = 6 then (if (x7.length : Int) > 0 then (if 0 < (x7.length : Int) then ((lw16_lands.f x200000 x200001 x200002 ((rd_T42 x7 0).f0) ((rd_T42 x7 0).f1) ((rd_T42 x7 0).f2) ((rd_T42 x7 0).f3)).bind fun bt244 => (if bt244.1 = true then ((some (([] : List (S42)) : List (S42))).bind fun y248 => (if 1 ≤ (x7.length : Int) then ((some (x7.drop 1 : List (S42))).bind fun y251 => (if y248.length + y251.length < 8796093022208 then (lw16_CreditMeets.j3 k x1 (y248 ++ y251) x8 x9 x196000 x196001 x196002 bt244.2.1 bt244.2.2.1 bt244.2.2.2) else (none))) else (none))) else (some false))) else (none)) else (lw16_CreditMeets.j3 k x1 x7 x8 x9 x196000 x196001 x196002 x200000 x200001 x200002)) else (if x64 = 7 then (if (x8.length : Int) > 0 then (if 0 < (x8.length : Int) then ((cr_Told.f x196000 x196001 x196002 ((rd_T42 x8 0).f1) ((rd_T42 x8 0).f2) ((rd_T42 x8 0).f3)).bind fun bt261 => ((some (([] : List (S42)) : List (S42))).bind fun y264 => (if 1 ≤ (x8.length : Int) then ((some (x8.drop 1 : List (S42))).bind fun y267 => (if y264.length + y267.length < 8796093022208 then (lw16_CreditMeets.j3 k x1 x7 (y264 ++ y267) x9 bt261.1 bt261.2.1 bt261.2.2 x200000 x200001 x200002) else (none))) else (none)))) else (none)) else (lw16_CreditMeets.j3 k x1 x7 x8 x9 x196000 x196001 x196002 x200000 x200001 x200002)) else (lw16_CreditMeets.j3 k x1 x7 x8 x9 x196000 x196001 x196002 x200000 x200001 x200002))))
def lw16_CreditMeets.l1 : Nat → List (S42) → List (S42) → Int → Int → Int → Bool → Int → Int → Bool → Option (Bool)
 | 0, _, _, _, _, _, _, _, _, _ => none
 | k + 1, x7, x8, x26, x196000, x196001, x196002, x200000, x200001, x200002 => if x26 < (x8.length : Int) then (if 0 ≤ x26 then ((cr_Told.f x196000 x196001 x196002 ((rd_T42 x8 x26).f1) ((rd_T42 x8 x26).f2) ((rd_T42 x8 x26).f3)).bind fun bt289 => (lw16_CreditMeets.l1 k x7 x8 (wrap64 (x26 + 1)) bt289.1 bt289.2.1 bt289.2.2 x200000 x200001 x200002)) else (none)) else ((cr_Dry.f x196000 x196001 x196002).bind fun bt292 => (if bt292.2.1 = true then ((cr_Left.f bt292.2.2.1 bt292.2.2.2.1 bt292.2.2.2.2).bind fun bt297 => (if x7.length < 8796093022208 then (lw16_CreditMeets.j5 k (x7 ++ [(⟨true, bt297.1, 0, false⟩ : S42)]) bt292.2.1 bt297.2.2.2.1 bt297.2.2.2.2.1 bt297.2.2.2.2.2 x200000 x200001 x200002) else (none))) else (lw16_CreditMeets.j5 k x7 bt292.2.1 bt292.2.2.1 bt292.2.2.2.1 bt292.2.2.2.2 x200000 x200001 x200002)))
def lw16_CreditMeets.j5 : Nat → List (S42) → Bool → Int → Int → Bool → Int → Int → Bool → Option (Bool)
 | 0, _, _, _, _, _, _, _, _ => none
 | k + 1, x7, x28, x196000, x196001, x196002, x200000, x200001, x200002 => lw16_CreditMeets.l2 k x7 x28 0 x196000 x196001 x196002 x200000 x200001 x200002
def lw16_CreditMeets.l2 : Nat → List (S42) → Bool → Int → Int → Int → Bool → Int → Int → Bool → Option (Bool)
 | 0, _, _, _, _, _, _, _, _, _ => none
 | k + 1, x7, x28, x32, x196000, x196001, x196002, x200000, x200001, x200002 => if x32 < (x7.length : Int) then (if 0 ≤ x32 then ((lw16_lands.f x200000 x200001 x200002 ((rd_T42 x7 x32).f0) ((rd_T42 x7 x32).f1) ((rd_T42 x7 x32).f2) ((rd_T42 x7 x32).f3)).bind fun bt307 => (if bt307.1 = true then (lw16_CreditMeets.l2 k x7 x28 (wrap64 (x32 + 1)) x196000 x196001 x196002 bt307.2.1 bt307.2.2.1 bt307.2.2.2) else (some false))) else (none)) else ((cr_Left.f x196000 x196001 x196002).bind fun bt311 => ((cr_Left.f x200000 x200001 x200002).bind fun bt317 => (if bt311.1 = bt317.1 then (if bt311.2.1 = bt317.2.1 then (if bt317.2.2.1 = true then (some false) else (if x28 = true then (if bt311.2.1 = 0 then ((lw16_works.f k).bind fun t323 => (some t323)) else (some false)) else ((lw16_works.f k).bind fun t324 => (some t324)))) else (some false)) else (some false))))
end
def lw16_CreditMeets.f (k : Nat) (a0 : Int) (l1 : List Int) : Option (Bool) := if (l1.length : Int) > 300 then ((lw16_works.f k).bind fun t191 => (some t191)) else ((credit_New.f a0).bind fun bt192 => ((credit_New.f a0).bind fun bt196 => (lw16_CreditMeets.l0 k l1 ([] : List (S42)) ([] : List (S42)) 0 bt192.1 bt192.2.1 bt192.2.2 bt196.1 bt196.2.1 bt196.2.2)))
theorem lw16_CreditMeets.mono_l : ∀ k, (∀ y0 y1 y2 y3 y4 y5 y6 y7 y8 y9, LeO (lw16_CreditMeets.l0 k y0 y1 y2 y3 y4 y5 y6 y7 y8 y9) (lw16_CreditMeets.l0 (k + 1) y0 y1 y2 y3 y4 y5 y6 y7 y8 y9)) ∧ (∀ y0 y1 y2 y3 y4 y5 y6 y7 y8 y9, LeO (lw16_CreditMeets.j3 k y0 y1 y2 y3 y4 y5 y6 y7 y8 y9) (lw16_CreditMeets.j3 (k + 1) y0 y1 y2 y3 y4 y5 y6 y7 y8 y9)) ∧ (∀ y0 y1 y2 y3 y4 y5 y6 y7 y8 y9 y10 y11 y12, LeO (lw16_CreditMeets.j1 k y0 y1 y2 y3 y4 y5 y6 y7 y8 y9 y10 y11 y12) (lw16_CreditMeets.j1 (k + 1) y0 y1 y2 y3 y4 y5 y6 y7 y8 y9 y10 y11 y12)) ∧ (∀ y0 y1 y2 y3 y4 y5 y6 y7 y8 y9 y10 y11 y12, LeO (lw16_CreditMeets.j2 k y0 y1 y2 y3 y4 y5 y6 y7 y8 y9 y10 y11 y12) (lw16_CreditMeets.j2 (k + 1) y0 y1 y2 y3 y4 y5 y6 y7 y8 y9 y10 y11 y12)) ∧ (∀ y0 y1 y2 y3 y4 y5 y6 y7 y8, LeO (lw16_CreditMeets.l1 k y0 y1 y2 y3 y4 y5 y6 y7 y8) (lw16_CreditMeets.l1 (k + 1) y0 y1 y2 y3 y4 y5 y6 y7 y8)) ∧ (∀ y0 y1 y2 y3 y4 y5 y6 y7, LeO (lw16_CreditMeets.j5 k y0 y1 y2 y3 y4 y5 y6 y7) (lw16_CreditMeets.j5 (k + 1) y0 y1 y2 y3 y4 y5 y6 y7)) ∧ (∀ y0 y1 y2 y3 y4 y5 y6 y7 y8, LeO (lw16_CreditMeets.l2 k y0 y1 y2 y3 y4 y5 y6 y7 y8) (lw16_CreditMeets.l2 (k + 1) y0 y1 y2 y3 y4 y5 y6 y7 y8))
 | 0 => ⟨fun _ _ _ _ _ _ _ _ _ _ r h => by simp [lw16_CreditMeets.l0] at h, fun _ _ _ _ _ _ _ _ _ _ r h => by simp [lw16_CreditMeets.j3] at h, fun _ _ _ _ _ _ _ _ _ _ _ _ _ r h => by simp [lw16_CreditMeets.j1] at h, fun _ _ _ _ _ _ _ _ _ _ _ _ _ r h => by simp [lw16_CreditMeets.j2] at h, fun _ _ _ _ _ _ _ _ _ r h => by simp [lw16_CreditMeets.l1] at h, fun _ _ _ _ _ _ _ _ r h => by simp [lw16_CreditMeets.j5] at h, fun _ _ _ _ _ _ _ _ _ r h => by simp [lw16_CreditMeets.l2] at h⟩
 | k + 1 => by
  obtain ⟨ih0, ih1, ih2, ih3, ih4, ih5, ih6⟩ := lw16_CreditMeets.mono_l k
  refine ⟨?_, ?_, ?_, ?_, ?_, ?_, ?_⟩
  ·
   intro y0 y1 y2 y3 y4 y5 y6 y7 y8 y9
   unfold lw16_CreditMeets.l0
   repeat' first
   | (with_reducible exact ih0 _ _ _ _ _ _ _ _ _ _)
   | (with_reducible exact ih1 _ _ _ _ _ _ _ _ _ _)
   | (with_reducible exact ih2 _ _ _ _ _ _ _ _ _ _ _ _ _)
   | (with_reducible exact ih3 _ _ _ _ _ _ _ _ _ _ _ _ _)
   | (with_reducible exact ih4 _ _ _ _ _ _ _ _ _)
   | (with_reducible exact ih5 _ _ _ _ _ _ _ _)
   | (with_reducible exact ih6 _ _ _ _ _ _ _ _ _)
   | (with_reducible exact lw16_works.mono _)
   | (with_reducible exact LeO.refl _)
   | (with_reducible exact LeO.none _)
   | (with_reducible refine LeO.ite ?_ ?_)
   | (with_reducible refine LeO.bind ?_ (fun _ => ?_))
   | exact ih0 _ _ _ _ _ _ _ _ _ _
   | exact ih1 _ _ _ _ _ _ _ _ _ _
   | exact ih2 _ _ _ _ _ _ _ _ _ _ _ _ _
   | exact ih3 _ _ _ _ _ _ _ _ _ _ _ _ _
   | exact ih4 _ _ _ _ _ _ _ _ _
   | exact ih5 _ _ _ _ _ _ _ _
   | exact ih6 _ _ _ _ _ _ _ _ _
   | exact lw16_works.mono _
   | exact LeO.none _
   | refine LeO.ite ?_ ?_
   | refine LeO.bind ?_ (fun _ => ?_)
  ·
   intro y0 y1 y2 y3 y4 y5 y6 y7 y8 y9
   unfold lw16_CreditMeets.j3
   repeat' first
   | (with_reducible exact ih0 _ _ _ _ _ _ _ _ _ _)
   | (with_reducible exact ih1 _ _ _ _ _ _ _ _ _ _)
   | (with_reducible exact ih2 _ _ _ _ _ _ _ _ _ _ _ _ _)
   | (with_reducible exact ih3 _ _ _ _ _ _ _ _ _ _ _ _ _)
   | (with_reducible exact ih4 _ _ _ _ _ _ _ _ _)
   | (with_reducible exact ih5 _ _ _ _ _ _ _ _)
   | (with_reducible exact ih6 _ _ _ _ _ _ _ _ _)
   | (with_reducible exact lw16_works.mono _)
   | (with_reducible exact LeO.refl _)
   | (with_reducible exact LeO.none _)
   | (with_reducible refine LeO.ite ?_ ?_)
   | (with_reducible refine LeO.bind ?_ (fun _ => ?_))
   | exact ih0 _ _ _ _ _ _ _ _ _ _
   | exact ih1 _ _ _ _ _ _ _ _ _ _
   | exact ih2 _ _ _ _ _ _ _ _ _ _ _ _ _
   | exact ih3 _ _ _ _ _ _ _ _ _ _ _ _ _
   | exact ih4 _ _ _ _ _ _ _ _ _
   | exact ih5 _ _ _ _ _ _ _ _
   | exact ih6 _ _ _ _ _ _ _ _ _
   | exact lw16_works.mono _
   | exact LeO.none _
   | refine LeO.ite ?_ ?_
   | refine LeO.bind ?_ (fun _ => ?_)
  ·
   intro y0 y1 y2 y3 y4 y5 y6 y7 y8 y9 y10 y11 y12
   unfold lw16_CreditMeets.j1
   repeat' first
   | (with_reducible exact ih0 _ _ _ _ _ _ _ _ _ _)
   | (with_reducible exact ih1 _ _ _ _ _ _ _ _ _ _)
   | (with_reducible exact ih2 _ _ _ _ _ _ _ _ _ _ _ _ _)
   | (with_reducible exact ih3 _ _ _ _ _ _ _ _ _ _ _ _ _)
   | (with_reducible exact ih4 _ _ _ _ _ _ _ _ _)
   | (with_reducible exact ih5 _ _ _ _ _ _ _ _)
   | (with_reducible exact ih6 _ _ _ _ _ _ _ _ _)
   | (with_reducible exact lw16_works.mono _)
   | (with_reducible exact LeO.refl _)
   | (with_reducible exact LeO.none _)
   | (with_reducible refine LeO.ite ?_ ?_)
   | (with_reducible refine LeO.bind ?_ (fun _ => ?_))
   | exact ih0 _ _ _ _ _ _ _ _ _ _
   | exact ih1 _ _ _ _ _ _ _ _ _ _
   | exact ih2 _ _ _ _ _ _ _ _ _ _ _ _ _
   | exact ih3 _ _ _ _ _ _ _ _ _ _ _ _ _
   | exact ih4 _ _ _ _ _ _ _ _ _
   | exact ih5 _ _ _ _ _ _ _ _
   | exact ih6 _ _ _ _ _ _ _ _ _
   | exact lw16_works.mono _
   | exact LeO.none _
   | refine LeO.ite ?_ ?_
   | refine LeO.bind ?_ (fun _ => ?_)
  ·
   intro y0 y1 y2 y3 y4 y5 y6 y7 y8 y9 y10 y11 y12
   unfold lw16_CreditMeets.j2
   repeat' first
   | (with_reducible exact ih0 _ _ _ _ _ _ _ _ _ _)
   | (with_reducible exact ih1 _ _ _ _ _ _ _ _ _ _)
   | (with_reducible exact ih2 _ _ _ _ _ _ _ _ _ _ _ _ _)
   | (with_reducible exact ih3 _ _ _ _ _ _ _ _ _ _ _ _ _)
   | (with_reducible exact ih4 _ _ _ _ _ _ _ _ _)
   | (with_reducible exact ih5 _ _ _ _ _ _ _ _)
   | (with_reducible exact ih6 _ _ _ _ _ _ _ _ _)
   | (with_reducible exact lw16_works.mono _)
   | (with_reducible exact LeO.refl _)
   | (with_reducible exact LeO.none _)
   | (with_reducible refine LeO.ite ?_ ?_)
   | (with_reducible refine LeO.bind ?_ (fun _ => ?_))
   | exact ih0 _ _ _ _ _ _ _ _ _ _
   | exact ih1 _ _ _ _ _ _ _ _ _ _
   | exact ih2 _ _ _ _ _ _ _ _ _ _ _ _ _
   | exact ih3 _ _ _ _ _ _ _ _ _ _ _ _ _
   | exact ih4 _ _ _ _ _ _ _ _ _
   | exact ih5 _ _ _ _ _ _ _ _
   | exact ih6 _ _ _ _ _ _ _ _ _
   | exact lw16_works.mono _
   | exact LeO.none _
   | refine LeO.ite ?_ ?_
   | refine LeO.bind ?_ (fun _ => ?_)
  ·
   intro y0 y1 y2 y3 y4 y5 y6 y7 y8
   unfold lw16_CreditMeets.l1
   repeat' first
   | (with_reducible exact ih0 _ _ _ _ _ _ _ _ _ _)
   | (with_reducible exact ih1 _ _ _ _ _ _ _ _ _ _)
   | (with_reducible exact ih2 _ _ _ _ _ _ _ _ _ _ _ _ _)
   | (with_reducible exact ih3 _ _ _ _ _ _ _ _ _ _ _ _ _)
   | (with_reducible exact ih4 _ _ _ _ _ _ _ _ _)
   | (with_reducible exact ih5 _ _ _ _ _ _ _ _)
   | (with_reducible exact ih6 _ _ _ _ _ _ _ _ _)
   | (with_reducible exact lw16_works.mono _)
   | (with_reducible exact LeO.refl _)
   | (with_reducible exact LeO.none _)
   | (with_reducible refine LeO.ite ?_ ?_)
   | (with_reducible refine LeO.bind ?_ (fun _ => ?_))
   | exact ih0 _ _ _ _ _ _ _ _ _ _
   | exact ih1 _ _ _ _ _ _ _ _ _ _
   | exact ih2 _ _ _ _ _ _ _ _ _ _ _ _ _
   | exact ih3 _ _ _ _ _ _ _ _ _ _ _ _ _
   | exact ih4 _ _ _ _ _ _ _ _ _
   | exact ih5 _ _ _ _ _ _ _ _
   | exact ih6 _ _ _ _ _ _ _ _ _
   | exact lw16_works.mono _
   | exact LeO.none _
   | refine LeO.ite ?_ ?_
   | refine LeO.bind ?_ (fun _ => ?_)
  ·
   intro y0 y1 y2 y3 y4 y5 y6 y7
   unfold lw16_CreditMeets.j5
   repeat' first
   | (with_reducible exact ih0 _ _ _ _ _ _ _ _ _ _)
   | (with_reducible exact ih1 _ _ _ _ _ _ _ _ _ _)
   | (with_reducible exact ih2 _ _ _ _ _ _ _ _ _ _ _ _ _)
   | (with_reducible exact ih3 _ _ _ _ _ _ _ _ _ _ _ _ _)
   | (with_reducible exact ih4 _ _ _ _ _ _ _ _ _)
   | (with_reducible exact ih5 _ _ _ _ _ _ _ _)
   | (with_reducible exact ih6 _ _ _ _ _ _ _ _ _)
   | (with_reducible exact lw16_works.mono _)
   | (with_reducible exact LeO.refl _)
   | (with_reducible exact LeO.none _)
   | (with_reducible refine LeO.ite ?_ ?_)
   | (with_reducible refine LeO.bind ?_ (fun _ => ?_))
   | exact ih0 _ _ _ _ _ _ _ _ _ _
   | exact ih1 _ _ _ _ _ _ _ _ _ _
   | exact ih2 _ _ _ _ _ _ _ _ _ _ _ _ _
   | exact ih3 _ _ _ _ _ _ _ _ _ _ _ _ _
   | exact ih4 _ _ _ _ _ _ _ _ _
   | exact ih5 _ _ _ _ _ _ _ _
   | exact ih6 _ _ _ _ _ _ _ _ _
   | exact lw16_works.mono _
   | exact LeO.none _
   | refine LeO.ite ?_ ?_
   | refine LeO.bind ?_ (fun _ => ?_)
  ·
   intro y0 y1 y2 y3 y4 y5 y6 y7 y8
   unfold lw16_CreditMeets.l2
   repeat' first
   | (with_reducible exact ih0 _ _ _ _ _ _ _ _ _ _)
   | (with_reducible exact ih1 _ _ _ _ _ _ _ _ _ _)
   | (with_reducible exact ih2 _ _ _ _ _ _ _ _ _ _ _ _ _)
   | (with_reducible exact ih3 _ _ _ _ _ _ _ _ _ _ _ _ _)
   | (with_reducible exact ih4 _ _ _ _ _ _ _ _ _)
   | (with_reducible exact ih5 _ _ _ _ _ _ _ _)
   | (with_reducible exact ih6 _ _ _ _ _ _ _ _ _)
   | (with_reducible exact lw16_works.mono _)
   | (with_reducible exact LeO.refl _)
   | (with_reducible exact LeO.none _)
   | (with_reducible refine LeO.ite ?_ ?_)
   | (with_reducible refine LeO.bind ?_ (fun _ => ?_))
   | exact ih0 _ _ _ _ _ _ _ _ _ _
   | exact ih1 _ _ _ _ _ _ _ _ _ _
   | exact ih2 _ _ _ _ _ _ _ _ _ _ _ _ _
   | exact ih3 _ _ _ _ _ _ _ _ _ _ _ _ _
   | exact ih4 _ _ _ _ _ _ _ _ _
   | exact ih5 _ _ _ _ _ _ _ _
   | exact ih6 _ _ _ _ _ _ _ _ _
   | exact lw16_works.mono _
   | exact LeO.none _
   | refine LeO.ite ?_ ?_
   | refine LeO.bind ?_ (fun _ => ?_)
theorem lw16_CreditMeets.mono : ∀ a0 a1 k, LeO (lw16_CreditMeets.f k a0 a1) (lw16_CreditMeets.f (k + 1) a0 a1) := by
 intro a0 a1 k
 obtain ⟨ih0, ih1, ih2, ih3, ih4, ih5, ih6⟩ := lw16_CreditMeets.mono_l k
 unfold lw16_CreditMeets.f
 repeat' first
   | (with_reducible exact ih0 _ _ _ _ _ _ _ _ _ _)
   | (with_reducible exact ih1 _ _ _ _ _ _ _ _ _ _)
   | (with_reducible exact ih2 _ _ _ _ _ _ _ _ _ _ _ _ _)
   | (with_reducible exact ih3 _ _ _ _ _ _ _ _ _ _ _ _ _)
   | (with_reducible exact ih4 _ _ _ _ _ _ _ _ _)
   | (with_reducible exact ih5 _ _ _ _ _ _ _ _)
   | (with_reducible exact ih6 _ _ _ _ _ _ _ _ _)
   | (with_reducible exact lw16_works.mono _)
   | (with_reducible exact LeO.refl _)
   | (with_reducible exact LeO.none _)
   | (with_reducible refine LeO.ite ?_ ?_)
   | (with_reducible refine LeO.bind ?_ (fun _ => ?_))
   | exact ih0 _ _ _ _ _ _ _ _ _ _
   | exact ih1 _ _ _ _ _ _ _ _ _ _
   | exact ih2 _ _ _ _ _ _ _ _ _ _ _ _ _
   | exact ih3 _ _ _ _ _ _ _ _ _ _ _ _ _
   | exact ih4 _ _ _ _ _ _ _ _ _
   | exact ih5 _ _ _ _ _ _ _ _
   | exact ih6 _ _ _ _ _ _ _ _ _
   | exact lw16_works.mono _
   | exact LeO.none _
   | refine LeO.ite ?_ ?_
   | refine LeO.bind ?_ (fun _ => ?_)
def lw16_CreditMeets.T35 : Bool × List (List Nat × List Nat) := (true, [([], []), ([], []), ([1], [1]), ([2], [2]), ([3], [3]), ([], []), ([5], [5]), ([6], [6]), ([7], [7]), ([], []), ([9], [9]), ([10], [10]), ([11], [11]), ([0, 4, 8, 12], [0, 4, 8, 12])])
def lw16_CreditMeets.B35 : List Nat := [0, 0, 2, 6, 14, 0, 32, 96, 224, 0, 512, 1536, 3584, 8191]
theorem lw16_CreditMeets.tab35 : rtab .any (opsOf Try.f4 35) = lw16_CreditMeets.T35 := by kernel_rfl
theorem lw16_CreditMeets.bits35 : waitsOk lw16_CreditMeets.T35.2 lw16_CreditMeets.B35 = true := by kernel_rfl
def lw16_CreditMeets.T44 : Bool × List (List Nat × List Nat) := (true, [([], []), ([], []), ([], []), ([1, 2], [1, 2]), ([3], [3]), ([4], [4]), ([], []), ([], []), ([6, 7], [6, 7]), ([8], [8]), ([9], [9]), ([], []), ([], []), ([11, 12], [11, 12]), ([13], [13]), ([14], [14]), ([0, 5, 10, 15], [0, 5, 10, 15])])
def lw16_CreditMeets.B44 : List Nat := [0, 0, 0, 6, 14, 30, 0, 0, 192, 448, 960, 0, 0, 6144, 14336, 30720, 65535]
theorem lw16_CreditMeets.tab44 : rtab .any (opsOf Try.f4 44) = lw16_CreditMeets.T44 := by kernel_rfl
theorem lw16_CreditMeets.bits44 : waitsOk lw16_CreditMeets.T44.2 lw16_CreditMeets.B44 = true := by kernel_rfl
set_option maxHeartbeats 8000000 in
set_option maxRecDepth 100000 in
theorem lw16_CreditMeets.calls (k : Nat) (a0 : Int) (A1 : Option Addr) (c1 : Nat) (l1 : List Int) (r : Bool) (w : World) (hr1 : Kd.C (Kd.int .u16) w A1 l1.length l1) (hc1 : l1.length ≤ c1) (h : lw16_CreditMeets.f k a0 l1 = some r) :
  Calls Try.prog 4 #[.int .u32 a0, .slice A1 l1.length c1] w fun e w' => e = .returned (.bool r) ∧ Below w.heap.size w w' := by
 have hu42 := Try.underlying42
 have HR1 := Aside0.mk hr1
 have HC1 := Aside0.mk hc1
 clear hr1 hc1
 have HB := Aside0.mk (Below.refl w.heap.size w)
 have H : (if (l1.length : Int) > 300 then ((lw16_works.f k).bind fun t191 => (some t191)) else ((credit_New.f a0).bind fun bt192 => ((credit_New.f a0).bind fun bt196 => (lw16_CreditMeets.l0 k l1 ([] : List (S42)) ([] : List (S42)) 0 bt192.1 bt192.2.1 bt192.2.2 bt196.1 bt196.2.1 bt196.2.2)))) = some r := h
 clear h
 by_cases c3 : (l1.length : Int) > 300
 ·
  rw [if_pos c3] at H
  have c3b0 : decide (300 < (l1.length : Int)) = true := decide_eq_true c3
  have c3b1 : decide (300 < l1.length) = true := decide_eq_true (by omega)
  clear c3
  replace H := Option.bind_eq_some_iff.mp H
  obtain ⟨t191, A40, H⟩ := H
  replace H : (some t191) = some r := H
  have A4 := Aside0.mk A40
  clear A40
  as_aux_lemma =>
   obtain rfl := Option.some.inj H
   go_enter Try.func4, Try.ntmps4
   go_wp2_with (first | ((with_reducible refine gate_callee (f := 9) rfl ?_); refine goesL_ (some 42) rfl rfl Try.func9 (by kernel_rfl) rfl #[] rfl (by (try simp only [List.map_toArray, List.map_cons, List.map_nil]); first | done | rfl | (simp only [List.length_drop, List.length_take]; rfl)) ?_; (with_reducible refine (lw16_works.calls k  t191 _ A4.out).mono ?_); rintro e w5 ⟨rfl, hb⟩; refine ⟨_, rfl, ?_⟩; have n0_ := Aside0.mk (below_step (by repeat (first | (with_reducible first | exact HB.out | apply below_alloc | apply pw_below_drewN | apply below_drew1) | exact HB.out)) hb); clear HB; have HB := n0_; clear n0_; (try clear hb); (try clear hb2); (try clear hk); (try clear hi); (try clear hgw)))
   go_ret
   exact ⟨by first | rfl | (simp [errW_none, errW_some] <;> rfl) | (simp [*, errW_none, errW_some] <;> rfl), by repeat (first | (with_reducible first | exact HB.out | apply below_alloc | apply pw_below_drewN | apply below_drew1) | exact HB.out)⟩
 ·
  rw [if_neg c3] at H
  have c3b0 : decide (300 < (l1.length : Int)) = false := decide_eq_false c3
  have c3b1 : decide (300 < l1.length) = false := decide_eq_false (by omega)
  clear c3
  replace H := Option.bind_eq_some_iff.mp H
  obtain ⟨⟨t192, t193, t194⟩, A60, H⟩ := H
  replace H : ((credit_New.f a0).bind fun bt196 => (lw16_CreditMeets.l0 k l1 ([] : List (S42)) ([] : List (S42)) 0 t192 t193 t194 bt196.1 bt196.2.1 bt196.2.2)) = some r := H
  have A6 := Aside0.mk A60
  clear A60
  replace H := Option.bind_eq_some_iff.mp H
  obtain ⟨⟨t196, t197, t198⟩, A70, H⟩ := H
  replace H : (lw16_CreditMeets.l0 k l1 ([] : List (S42)) ([] : List (S42)) 0 t192 t193 t194 t196 t197 t198) = some r := H
  have A7 := Aside0.mk A70
  clear A70
  have H' := Aside0.mk H
  clear H
  go_enter Try.func4, Try.ntmps4
  go_wp2_with (first | ((with_reducible refine gate_callee (f := 10) rfl ?_); refine goesL_ (some 44) rfl rfl Try.func10 (by kernel_rfl) rfl #[.int .u32 a0] rfl (by (try simp only [List.map_toArray, List.map_cons, List.map_nil]); first | done | rfl | (simp only [List.length_drop, List.length_take]; rfl)) ?_; (with_reducible refine (credit_New.calls a0 t192 t193 t194 w _ ?side1 A6.out).mono ?_); (case side1 => repeat (first | (with_reducible first | exact HB.out | apply below_alloc | apply pw_below_drewN | apply below_drew1) | exact HB.out)); rintro e w8 ⟨g195, rfl, hi, hb, hb2, hgw⟩; refine ⟨_, rfl, ?_⟩; have n0_ := Aside0.mk (hb); have n1_ := Aside0.mk (hi); clear HB; have HB := n0_; have HI195 := n1_; clear n0_ n1_; (try clear hb); (try clear hb2); (try clear hk); (try clear hi); (try clear hgw)) | ((with_reducible refine gate_callee (f := 10) rfl ?_); refine goesL_ (some 46) rfl rfl Try.func10 (by kernel_rfl) rfl #[.int .u32 a0] rfl (by (try simp only [List.map_toArray, List.map_cons, List.map_nil]); first | done | rfl | (simp only [List.length_drop, List.length_take]; rfl)) ?_; (with_reducible refine (credit_New.calls a0 t196 t197 t198 w _ ?side1 A7.out).mono ?_); (case side1 => repeat (first | (with_reducible first | exact HB.out | apply below_alloc | apply pw_below_drewN | apply below_drew1 | refine below_set ?_ (IsS54.ge HI195.out)) | exact HB.out)); rintro e w9 ⟨g199, rfl, hi, hb, hb2, hgw⟩; refine ⟨_, rfl, ?_⟩; have n0_ := Aside0.mk (IsS54.below (by repeat (first | (with_reducible first | exact HI195.out | apply IsS54.alloc | apply IsS54.drewN | apply IsS54.drew | apply IsS54.set_0 | apply IsS54.set_1 | apply IsS54.set_2) | exact HI195.out)) hb2); have n1_ := Aside0.mk (hb); have n2_ := Aside0.mk (hi); have n3_ := Aside0.mk (Nat.ne_of_lt (Nat.lt_of_lt_of_le (IsS54.lt (show IsS54 w _ g195 t192 t193 t194 from by repeat (first | (with_reducible first | exact HI195.out | apply IsS54.alloc | apply IsS54.drewN | apply IsS54.drew | apply IsS54.set_0 | apply IsS54.set_1 | apply IsS54.set_2) | exact HI195.out))) hgw)); have n4_ := Aside0.mk (Nat.ne_of_gt (Nat.lt_of_lt_of_le (IsS54.lt (show IsS54 w _ g195 t192 t193 t194 from by repeat (first | (with_reducible first | exact HI195.out | apply IsS54.alloc | apply IsS54.drewN | apply IsS54.drew | apply IsS54.set_0 | apply IsS54.set_1 | apply IsS54.set_2) | exact HI195.out))) hgw)); clear HI195; clear HB; have HI195 := n0_; have HB := n1_; have HI199 := n2_; have NS195_199 := n3_; have NS199_195 := n4_; clear n0_ n1_ n2_ n3_ n4_; (try clear hb); (try clear hb2); (try clear hk); (try clear hi); (try clear hgw)))
  go_loopg [7, 8, 9] k (fun kq v7 v8 v9 w' => ∃ (x7_1 : List (S42)) (x8_1 : List (S42)) (x9_1 : Int) (x196000_1 : Int) (x196001_1 : Int) (x196002_1 : Bool) (x200000_1 : Int) (x200001_1 : Int) (x200002_1 : Bool), v9 = .int .i64 x9_1 ∧ Aside0 (lw16_CreditMeets.l0 kq l1 x7_1 x8_1 x9_1 x196000_1 x196001_1 x196002_1 x200000_1 x200001_1 x200002_1 = some r) ∧ Aside0 (kq ≤ k) ∧ Aside0 (Kd.R k42 42 w' w.heap.size (fun k_ => some k_ ≠ (v8 : Value).ownBlock) v7 x7_1) ∧ Aside0 (Kd.R k42 42 w' w.heap.size (fun k_ => some k_ ≠ (v7 : Value).ownBlock) v8 x8_1) ∧ Aside0 (IsS54 w w' g195 x196000_1 x196001_1 x196002_1) ∧ Aside0 (IsS54 w w' g199 x200000_1 x200001_1 x200002_1) ∧ Aside0 (Below w.heap.size w w'))
  case atStart => exact ⟨(([] : List (S42))), (([] : List (S42))), (0), (t192), (t193), (t194), (t196), (t197), (t198), (by first | rfl | (simp; done) | (simp [*]; done)), H', ⟨Nat.le_refl _⟩, ⟨by first | exact Kd.R_nil _ _ _ _ _ | exact Kd.N_nil _ _ _ _ _ | exact Kd.V_nil _ _ _ _ _ | exact Kd.Q_nil _ _ _ _ _ | exact Kd.S_nil _ _ _ _ _⟩, ⟨by first | exact Kd.R_nil _ _ _ _ _ | exact Kd.N_nil _ _ _ _ _ | exact Kd.V_nil _ _ _ _ _ | exact Kd.Q_nil _ _ _ _ _ | exact Kd.S_nil _ _ _ _ _⟩, ⟨by repeat (first | (with_reducible first | exact HI195.out | apply IsS54.alloc | apply IsS54.drewN | apply IsS54.drew | apply IsS54.set_0 | apply IsS54.set_1 | apply IsS54.set_2) | exact HI195.out)⟩, ⟨by repeat (first | (with_reducible first | exact HI199.out | apply IsS54.alloc | apply IsS54.drewN | apply IsS54.drew | apply IsS54.set_0 | apply IsS54.set_1 | apply IsS54.set_2) | exact HI199.out)⟩, ⟨by repeat (first | (with_reducible first | exact HB.out | apply below_alloc | apply pw_below_drewN | apply below_drew1 | refine below_set ?_ (IsS54.ge HI195.out) | refine below_set ?_ (IsS54.ge HI199.out)) | exact HB.out)⟩⟩
  case round =>
   clear H'
   try clear c1
   try clear p2
   try clear c3
   try clear c3b0
   try clear c3b1
   try clear c4
   try clear c9
   obtain ⟨x7_1, x8_1, x9_1, x196000_1, x196001_1, x196002_1, x200000_1, x200001_1, x200002_1, rfl, HA, HK1, HO_7, HO_8, HI195, HI199, HB⟩ := hrel
   cases gk with
   | zero => exact absurd HA.out (by simp [lw16_CreditMeets.l0])
   | succ k1 => as_aux_lemma =>
    have H := HA.out
    clear HA
    simp only [lw16_CreditMeets.l0] at H
    by_cases c10 : x9_1 < (l1.length : Int)
    ·
     rw [if_pos c10] at H
     have c10b0 : decide (x9_1 < (l1.length : Int)) = true := decide_eq_true c10
     clear c10
     by_cases c11 : 0 ≤ x9_1
     ·
      rw [if_pos c11] at H
      have c11b0 : decide (0 ≤ x9_1) = true := decide_eq_true c11
      clear c11
      have HC12 := Aside0.mk H
      clear H
      have p200 : 0 ≤ (x9_1 : Int) := of_decide_eq_true (by first | (with_reducible assumption) | assumption)
      have q200 : x9_1 < (l1.length : Int) := of_decide_eq_true (by first | (with_reducible assumption) | assumption)
      obtain ⟨ad200, e200, hx200_0⟩ := Kd.at_int HR1.out x9_1 p200 q200
      cases e200
      replace hx200_0 := (HB.out.cell (World.block_lt_of_cell? w _ hx200_0)).trans hx200_0
      replace p200 := eq_true p200
      replace q200 := eq_true q200
      have p201 : 0 ≤ (x9_1 : Int) := of_decide_eq_true (by first | (with_reducible assumption) | assumption)
      have q201 : x9_1 < (l1.length : Int) := of_decide_eq_true (by first | (with_reducible assumption) | assumption)
      obtain ⟨ad201, e201, hx201_0⟩ := Kd.at_int HR1.out x9_1 p201 q201
      obtain rfl : ad200 = ad201 := (by injection e201)
      replace hx201_0 := (HB.out.cell (World.block_lt_of_cell? w _ hx201_0)).trans hx201_0
      replace p201 := eq_true p201
      replace q201 := eq_true q201
      go_upto_block 2 with (fail)
      go_cut [7, 8] (fun v7 v8 wc => ∃ (kq : Nat) (x7_11 : List (S42)) (x8_11 : List (S42)) (x196000_11 : Int) (x196001_11 : Int) (x196002_11 : Bool) (x200000_11 : Int) (x200001_11 : Int) (x200002_11 : Bool), Aside0 (lw16_CreditMeets.j3 kq l1 x7_11 x8_11 x9_1 x196000_11 x196001_11 x196002_11 x200000_11 x200001_11 x200002_11 = some r) ∧ Aside0 (kq ≤ k1) ∧ Aside0 (Kd.R k42 42 wc w.heap.size (fun k_ => some k_ ≠ (v8 : Value).ownBlock) v7 x7_11) ∧ Aside0 (Kd.R k42 42 wc w.heap.size (fun k_ => some k_ ≠ (v7 : Value).ownBlock) v8 x8_11) ∧ Aside0 (IsS54 w wc g195 x196000_11 x196001_11 x196002_11) ∧ Aside0 (IsS54 w wc g199 x200000_11 x200001_11 x200002_11) ∧ Aside0 (Below w.heap.size w wc))
      case first =>
       have H := HC12.out
       clear HC12
       have HC13 := Aside0.mk H
       clear H
       go_upto_if 65 with (fail)
       go_cut [65] (fun v65 wc => ∃ (kq : Nat) (x65_12 : Bool), v65 = .bool x65_12 ∧ Aside0 (lw16_CreditMeets.j1 kq l1 x7_1 x8_1 x9_1 ((Int.tmod (IntKind.u16.wrap (Int.tdiv (rd l1 x9_1) 8)) 20) % 4294967296) (Int.tmod (rd l1 x9_1) 8) x65_12 x196000_1 x196001_1 x196002_1 x200000_1 x200001_1 x200002_1 = some r) ∧ Aside0 (kq ≤ k1) ∧ Aside0 (Kd.R k42 42 wc w.heap.size (fun k_ => some k_ ≠ (u8 : Value).ownBlock) u7 x7_1) ∧ Aside0 (Kd.R k42 42 wc w.heap.size (fun k_ => some k_ ≠ (u7 : Value).ownBlock) u8 x8_1) ∧ Aside0 (IsS54 w wc g195 x196000_1 x196001_1 x196002_1) ∧ Aside0 (IsS54 w wc g199 x200000_1 x200001_1 x200002_1) ∧ Aside0 (Below w.heap.size w wc))
       case first =>
        have H := HC13.out
        clear HC13
        by_cases c14 : (Int.tmod (rd l1 x9_1) 8) = 0
        ·
         rw [if_pos c14] at H
         have c14b0 : ((Int.tmod (rd l1 x9_1) 8) == 0) = true := beq_iff_eq.mpr c14
         have c14b1 : ((Int.tmod (rd l1 x9_1) 8) != 0) = false := bne_eq_false_iff_eq.mpr c14
         clear c14
         (first | rw [c14b0] | (simp only [i64_w, i32_w]; rw [c14b0]) | skip)
         as_aux_lemma =>
          have H' := Aside0.mk H
          clear H
          go_wp2
          go_meet
          case rel => exact ⟨_, (((Int.tmod (rd l1 x9_1) 8) == 0)), (by first | rfl | (simp; done) | (simp [*]; done)), H', ⟨by have := HK1.out; first | omega | exact Nat.le_refl _⟩, ⟨by (with_reducible repeat (first | apply Kd.R_alloc | apply Kd.R_drewN | apply Kd.R_drew)); exact HO_7.out⟩, ⟨by (with_reducible repeat (first | apply Kd.R_alloc | apply Kd.R_drewN | apply Kd.R_drew)); exact HO_8.out⟩, ⟨by repeat (first | (with_reducible first | exact HI195.out | apply IsS54.alloc | apply IsS54.drewN | apply IsS54.drew | apply IsS54.set_0 | apply IsS54.set_1 | apply IsS54.set_2) | exact HI195.out)⟩, ⟨by repeat (first | (with_reducible first | exact HI199.out | apply IsS54.alloc | apply IsS54.drewN | apply IsS54.drew | apply IsS54.set_0 | apply IsS54.set_1 | apply IsS54.set_2) | exact HI199.out)⟩, ⟨by repeat (first | (with_reducible first | exact HB.out | apply below_alloc | apply pw_below_drewN | apply below_drew1 | refine below_set ?_ (IsS54.ge HI195.out) | refine below_set ?_ (IsS54.ge HI199.out)) | exact HB.out)⟩⟩
        ·
         rw [if_neg c14] at H
         have c14b0 : ((Int.tmod (rd l1 x9_1) 8) == 0) = false := beq_eq_false_iff_ne.mpr c14
         have c14b1 : ((Int.tmod (rd l1 x9_1) 8) != 0) = true := bne_iff_ne.mpr c14
         (first | rw [c14b0] | (simp only [i64_w, i32_w]; rw [c14b0]) | skip)
         by_cases c15 : (Int.tmod (rd l1 x9_1) 8) = 1
         ·
          rw [if_pos c15] at H
          have c15b0 : ((Int.tmod (rd l1 x9_1) 8) == 1) = true := beq_iff_eq.mpr c15
          have c15b1 : ((Int.tmod (rd l1 x9_1) 8) != 1) = false := bne_eq_false_iff_eq.mpr c15
          clear c15
          as_aux_lemma =>
           have H' := Aside0.mk H
           clear H
           go_wp2
           go_meet
           case rel => exact ⟨_, (((Int.tmod (rd l1 x9_1) 8) == 1)), (by first | rfl | (simp; done) | (simp [*]; done)), H', ⟨by have := HK1.out; first | omega | exact Nat.le_refl _⟩, ⟨by (with_reducible repeat (first | apply Kd.R_alloc | apply Kd.R_drewN | apply Kd.R_drew)); exact HO_7.out⟩, ⟨by (with_reducible repeat (first | apply Kd.R_alloc | apply Kd.R_drewN | apply Kd.R_drew)); exact HO_8.out⟩, ⟨by repeat (first | (with_reducible first | exact HI195.out | apply IsS54.alloc | apply IsS54.drewN | apply IsS54.drew | apply IsS54.set_0 | apply IsS54.set_1 | apply IsS54.set_2) | exact HI195.out)⟩, ⟨by repeat (first | (with_reducible first | exact HI199.out | apply IsS54.alloc | apply IsS54.drewN | apply IsS54.drew | apply IsS54.set_0 | apply IsS54.set_1 | apply IsS54.set_2) | exact HI199.out)⟩, ⟨by repeat (first | (with_reducible first | exact HB.out | apply below_alloc | apply pw_below_drewN | apply below_drew1 | refine below_set ?_ (IsS54.ge HI195.out) | refine below_set ?_ (IsS54.ge HI199.out)) | exact HB.out)⟩⟩
         ·
          rw [if_neg c15] at H
          have c15b0 : ((Int.tmod (rd l1 x9_1) 8) == 1) = false := beq_eq_false_iff_ne.mpr c15
          have c15b1 : ((Int.tmod (rd l1 x9_1) 8) != 1) = true := bne_iff_ne.mpr c15
          as_aux_lemma =>
           have H' := Aside0.mk H
           clear H
           go_wp2
           go_meet
           case rel => exact ⟨_, (((Int.tmod (rd l1 x9_1) 8) == 2)), (by first | rfl | (simp; done) | (simp [*]; done)), H', ⟨by have := HK1.out; first | omega | exact Nat.le_refl _⟩, ⟨by (with_reducible repeat (first | apply Kd.R_alloc | apply Kd.R_drewN | apply Kd.R_drew)); exact HO_7.out⟩, ⟨by (with_reducible repeat (first | apply Kd.R_alloc | apply Kd.R_drewN | apply Kd.R_drew)); exact HO_8.out⟩, ⟨by repeat (first | (with_reducible first | exact HI195.out | apply IsS54.alloc | apply IsS54.drewN | apply IsS54.drew | apply IsS54.set_0 | apply IsS54.set_1 | apply IsS54.set_2) | exact HI195.out)⟩, ⟨by repeat (first | (with_reducible first | exact HI199.out | apply IsS54.alloc | apply IsS54.drewN | apply IsS54.drew | apply IsS54.set_0 | apply IsS54.set_1 | apply IsS54.set_2) | exact HI199.out)⟩, ⟨by repeat (first | (with_reducible first | exact HB.out | apply below_alloc | apply pw_below_drewN | apply below_drew1 | refine below_set ?_ (IsS54.ge HI195.out) | refine below_set ?_ (IsS54.ge HI199.out)) | exact HB.out)⟩⟩
       case rest =>
        clear HC13
        try clear c1
        try clear p2
        try clear q2
        try clear hx2
        try clear c3
        try clear c3b0
        try clear c3b1
        try clear c4
        try clear c9
        try clear c10
        try clear c10b0
        try clear c11
        try clear c11b0
        try clear c14
        try clear c14b0
        try clear c14b1
        try clear c15
        try clear c15b0
        try clear c15b1
        try clear hx200_0
        try clear hx201_0
        try clear p2
        try clear p200
        try clear p201
        try clear q200
        try clear q201
        obtain ⟨kq, x65_12, rfl, HA, HJ12, HO_7, HO_8, HI195, HI199, HB⟩ := hcut
        cases kq with
        | zero => exact absurd HA.out (by simp [lw16_CreditMeets.j1])
        | succ kj12 => as_aux_lemma =>
         have H := HA.out
         clear HA
         simp only [lw16_CreditMeets.j1] at H
         by_cases c16 : x65_12 = true
         ·
          subst c16
          have H1 : ((cr_Take.f x196000_1 x196001_1 x196002_1).bind fun bt202 => (if bt202.1 = true then (if x7_1.length < 8796093022208 then (lw16_CreditMeets.j3 kj12 l1 (x7_1 ++ [(⟨false, 0, 0, false⟩ : S42)]) x8_1 x9_1 bt202.2.1 bt202.2.2.1 bt202.2.2.2 x200000_1 x200001_1 x200002_1) else (none)) else (lw16_CreditMeets.j3 kj12 l1 x7_1 x8_1 x9_1 bt202.2.1 bt202.2.2.1 bt202.2.2.2 x200000_1 x200001_1 x200002_1))) = some r := by rw [if_pos rfl] at H; exact H
          clear H
          have H := H1
          clear H1
          replace H := Option.bind_eq_some_iff.mp H
          obtain ⟨⟨t202, t203, t204, t205⟩, A170, H⟩ := H
          replace H : (if t202 = true then (if x7_1.length < 8796093022208 then (lw16_CreditMeets.j3 kj12 l1 (x7_1 ++ [(⟨false, 0, 0, false⟩ : S42)]) x8_1 x9_1 t203 t204 t205 x200000_1 x200001_1 x200002_1) else (none)) else (lw16_CreditMeets.j3 kj12 l1 x7_1 x8_1 x9_1 t203 t204 t205 x200000_1 x200001_1 x200002_1)) = some r := H
          have A17 := Aside0.mk A170
          clear A170
          by_cases c18 : t202 = true
          ·
           subst c18
           have H1 : (if x7_1.length < 8796093022208 then (lw16_CreditMeets.j3 kj12 l1 (x7_1 ++ [(⟨false, 0, 0, false⟩ : S42)]) x8_1 x9_1 t203 t204 t205 x200000_1 x200001_1 x200002_1) else (none)) = some r := by rw [if_pos rfl] at H; exact H
           clear H
           have H := H1
           clear H1
           by_cases c19 : x7_1.length < 8796093022208
           ·
            rw [if_pos c19] at H
            have LMc19 := Aside0.mk c19
            clear c19
            obtain ⟨y206, hy206⟩ : ∃ y_ : List (S42), y_ = (x7_1 ++ [(⟨false, 0, 0, false⟩ : S42)]) := ⟨_, rfl⟩
            replace H : (lw16_CreditMeets.j3 kj12 l1 y206 x8_1 x9_1 t203 t204 t205 x200000_1 x200001_1 x200002_1) = some r := by first | (rw [hy206]; with_reducible exact H) | (have H2_ := (Option.bind_some _ _).symm.trans H; rw [hy206]; with_reducible exact H2_) | (have H2_ := (Option.bind_some _ _).symm.trans H; with_reducible exact H2_) | with_reducible exact H | (rw [hy206]; exact H) | exact H
            have Ny206 := Aside0.mk hy206
            clear hy206
            as_aux_lemma =>
             have H' := Aside0.mk H
             clear H
             go_wp2_with (first | ((with_reducible refine gate_callee (f := 16) rfl ?_); refine goesL_ (some 70) rfl rfl Try.func16 (by kernel_rfl) rfl #[.pointer (some ⟨g195, 0, none⟩)] rfl (by (try simp only [List.map_toArray, List.map_cons, List.map_nil]); first | done | rfl | (simp only [List.length_drop, List.length_take]; rfl)) ?_; (with_reducible refine (cr_Take.calls g195 x196000_1 x196001_1 x196002_1 true t203 t204 t205 w _ ?side1 ?side2 A17.out).mono ?_); (case side1 => repeat (first | (with_reducible first | exact HI195.out | apply IsS54.alloc | apply IsS54.drewN | apply IsS54.drew | apply IsS54.set_0 | apply IsS54.set_1 | apply IsS54.set_2) | exact HI195.out)); (case side2 => repeat (first | (with_reducible first | exact HB.out | apply below_alloc | apply pw_below_drewN | apply below_drew1 | refine below_set ?_ (IsS54.ge HI195.out) | refine below_set ?_ (IsS54.ge HI199.out)) | exact HB.out)); rintro e w20 ⟨rfl, hi, hb, hk⟩; refine ⟨_, rfl, ?_⟩; have n0_ := Aside0.mk (Kd.R_mono (Kd.R_keep (IsS54.apart (show IsS54 w _ g195 x196000_1 x196001_1 x196002_1 from by repeat (first | (with_reducible first | exact HI195.out | apply IsS54.alloc | apply IsS54.drewN | apply IsS54.drew | apply IsS54.set_0 | apply IsS54.set_1 | apply IsS54.set_2) | exact HI195.out)) (by (with_reducible repeat (first | apply Kd.R_alloc | apply Kd.R_drewN | apply Kd.R_drew)); exact HO_7.out) (by decide)) hk (fun _ h => h.2)) (fun _ h => h.1)); have n1_ := Aside0.mk (Kd.R_mono (Kd.R_keep (IsS54.apart (show IsS54 w _ g195 x196000_1 x196001_1 x196002_1 from by repeat (first | (with_reducible first | exact HI195.out | apply IsS54.alloc | apply IsS54.drewN | apply IsS54.drew | apply IsS54.set_0 | apply IsS54.set_1 | apply IsS54.set_2) | exact HI195.out)) (by (with_reducible repeat (first | apply Kd.R_alloc | apply Kd.R_drewN | apply Kd.R_drew)); exact HO_8.out) (by decide)) hk (fun _ h => h.2)) (fun _ h => h.1)); have n2_ := Aside0.mk (IsS54.beside (show IsS54 w _ g199 x200000_1 x200001_1 x200002_1 from by repeat (first | (with_reducible first | exact HI199.out | apply IsS54.alloc | apply IsS54.drewN | apply IsS54.drew | apply IsS54.set_0 | apply IsS54.set_1 | apply IsS54.set_2) | exact HI199.out)) hk NS199_195.out); have n3_ := Aside0.mk (hb); have n4_ := Aside0.mk (hi); clear HO_7; clear HO_8; clear HI199; clear HB; clear HI195; have HO_7 := n0_; have HO_8 := n1_; have HI199 := n2_; have HB := n3_; have HI195 := n4_; clear n0_ n1_ n2_ n3_ n4_; (try clear hb); (try clear hb2); (try clear hk); (try clear hi); (try clear hgw)) | ((with_reducible refine gate_builtin (b := .append) (xs := #[.tmp 71, .tmp 73]) rfl ?_); at_builtin; refine Kd.R_append k42 (w0 := w) w.heap.size rfl (.tmp 71) (.tmp 73) 39 42 (.agg #[(.bool false), (.int .u32 0), (.int .u32 0), (.bool false)]) 16 rfl Try.underlying39 info42 rfl (by decide) (by omega) u7 x7_1 (⟨false, 0, 0, false⟩ : S42) [.bool false, .int .u32 0, .int .u32 0, .bool false] (fun k_ => some k_ ≠ (u8 : Value).ownBlock) (fun _ => False) rfl rfl ?aP (fun _ hk => hk.elim) ?aF ?aO ?aB ?aS ?aL ?_; (case aP => exact k42_mkM _ _ _ (⟨false, 0, 0, false⟩ : S42)); (case aB => exact (by repeat (first | (with_reducible first | exact HB.out | apply below_alloc | apply pw_below_drewN | apply below_drew1 | refine below_set ?_ (IsS54.ge HI195.out) | refine below_set ?_ (IsS54.ge HI199.out)) | exact HB.out))); (case aF => exact (fun k_ hk => Kd.fresh' (Kd.R_lt (by (with_reducible repeat (first | apply Kd.R_alloc | apply Kd.R_drewN | apply Kd.R_drew)); exact HO_8.out)) k_ hk)); (case aO => exact (by (with_reducible repeat (first | apply Kd.R_alloc | apply Kd.R_drewN | apply Kd.R_drew)); exact HO_7.out)); (case aS => exact (below_size (by repeat (first | (with_reducible first | exact HB.out | apply below_alloc | apply pw_below_drewN | apply below_drew1 | refine below_set ?_ (IsS54.ge HI195.out) | refine below_set ?_ (IsS54.ge HI199.out)) | exact HB.out)))); (case aL => have := LMc19.out; omega); intro v207 w21 ho hb hg hat; rw [← Ny206.out] at ho; have n0_ := Aside0.mk (Kd.R_after (ok := (fun _ => True)) (by (with_reducible repeat (first | apply Kd.R_alloc | apply Kd.R_drewN | apply Kd.R_drew)); exact Kd.R_mono HO_8.out (fun _ hk => ⟨trivial, hk⟩)) hg hat); have n1_ := Aside0.mk (IsS54.grown (by repeat (first | (with_reducible first | exact HI195.out | apply IsS54.alloc | apply IsS54.drewN | apply IsS54.drew | apply IsS54.set_0 | apply IsS54.set_1 | apply IsS54.set_2) | exact HI195.out)) hg (IsS54.own_ne HI195.out HO_7.out (by decide))); have n2_ := Aside0.mk (IsS54.grown (by repeat (first | (with_reducible first | exact HI199.out | apply IsS54.alloc | apply IsS54.drewN | apply IsS54.drew | apply IsS54.set_0 | apply IsS54.set_1 | apply IsS54.set_2) | exact HI199.out)) hg (IsS54.own_ne HI199.out HO_7.out (by decide))); have n3_ := Aside0.mk (hb); have n4_ := Aside0.mk (ho); clear HO_8; clear HI195; clear HI199; clear HB; clear HO_7; have HO_8 := n0_; have HI195 := n1_; have HI199 := n2_; have HB := n3_; have HO208 := n4_; clear n0_ n1_ n2_ n3_ n4_; clear ho hb hg hat))
             go_meet
             case rel => exact ⟨_, (y206), (x8_1), (t203), (t204), (t205), (x200000_1), (x200001_1), (x200002_1), H', ⟨by have := HK1.out; have := HJ12.out; first | omega | exact Nat.le_refl _⟩, ⟨by (with_reducible repeat (first | apply Kd.R_alloc | apply Kd.R_drewN | apply Kd.R_drew)); exact HO208.out⟩, ⟨by (with_reducible repeat (first | apply Kd.R_alloc | apply Kd.R_drewN | apply Kd.R_drew)); exact Kd.R_mono HO_8.out (fun _ hk => hk.2)⟩, ⟨by repeat (first | (with_reducible first | exact HI195.out | apply IsS54.alloc | apply IsS54.drewN | apply IsS54.drew | apply IsS54.set_0 | apply IsS54.set_1 | apply IsS54.set_2) | exact HI195.out)⟩, ⟨by repeat (first | (with_reducible first | exact HI199.out | apply IsS54.alloc | apply IsS54.drewN | apply IsS54.drew | apply IsS54.set_0 | apply IsS54.set_1 | apply IsS54.set_2) | exact HI199.out)⟩, ⟨by repeat (first | (with_reducible first | exact HB.out | apply below_alloc | apply pw_below_drewN | apply below_drew1 | refine below_set ?_ (IsS54.ge HI195.out) | refine below_set ?_ (IsS54.ge HI199.out)) | exact HB.out)⟩⟩
           ·
            rw [if_neg c19] at H
            exact absurd H (by simp)
          ·
           replace c18 := Bool.eq_false_iff.mpr c18
           subst c18
           have H1 : (lw16_CreditMeets.j3 kj12 l1 x7_1 x8_1 x9_1 t203 t204 t205 x200000_1 x200001_1 x200002_1) = some r := by rw [if_neg (show ¬ (false = true) by decide)] at H; exact H
           clear H
           have H := H1
           clear H1
           as_aux_lemma =>
            have H' := Aside0.mk H
            clear H
            go_wp2_with (first | ((with_reducible refine gate_callee (f := 16) rfl ?_); refine goesL_ (some 70) rfl rfl Try.func16 (by kernel_rfl) rfl #[.pointer (some ⟨g195, 0, none⟩)] rfl (by (try simp only [List.map_toArray, List.map_cons, List.map_nil]); first | done | rfl | (simp only [List.length_drop, List.length_take]; rfl)) ?_; (with_reducible refine (cr_Take.calls g195 x196000_1 x196001_1 x196002_1 false t203 t204 t205 w _ ?side1 ?side2 A17.out).mono ?_); (case side1 => repeat (first | (with_reducible first | exact HI195.out | apply IsS54.alloc | apply IsS54.drewN | apply IsS54.drew | apply IsS54.set_0 | apply IsS54.set_1 | apply IsS54.set_2) | exact HI195.out)); (case side2 => repeat (first | (with_reducible first | exact HB.out | apply below_alloc | apply pw_below_drewN | apply below_drew1 | refine below_set ?_ (IsS54.ge HI195.out) | refine below_set ?_ (IsS54.ge HI199.out)) | exact HB.out)); rintro e w22 ⟨rfl, hi, hb, hk⟩; refine ⟨_, rfl, ?_⟩; have n0_ := Aside0.mk (Kd.R_mono (Kd.R_keep (IsS54.apart (show IsS54 w _ g195 x196000_1 x196001_1 x196002_1 from by repeat (first | (with_reducible first | exact HI195.out | apply IsS54.alloc | apply IsS54.drewN | apply IsS54.drew | apply IsS54.set_0 | apply IsS54.set_1 | apply IsS54.set_2) | exact HI195.out)) (by (with_reducible repeat (first | apply Kd.R_alloc | apply Kd.R_drewN | apply Kd.R_drew)); exact HO_7.out) (by decide)) hk (fun _ h => h.2)) (fun _ h => h.1)); have n1_ := Aside0.mk (Kd.R_mono (Kd.R_keep (IsS54.apart (show IsS54 w _ g195 x196000_1 x196001_1 x196002_1 from by repeat (first | (with_reducible first | exact HI195.out | apply IsS54.alloc | apply IsS54.drewN | apply IsS54.drew | apply IsS54.set_0 | apply IsS54.set_1 | apply IsS54.set_2) | exact HI195.out)) (by (with_reducible repeat (first | apply Kd.R_alloc | apply Kd.R_drewN | apply Kd.R_drew)); exact HO_8.out) (by decide)) hk (fun _ h => h.2)) (fun _ h => h.1)); have n2_ := Aside0.mk (IsS54.beside (show IsS54 w _ g199 x200000_1 x200001_1 x200002_1 from by repeat (first | (with_reducible first | exact HI199.out | apply IsS54.alloc | apply IsS54.drewN | apply IsS54.drew | apply IsS54.set_0 | apply IsS54.set_1 | apply IsS54.set_2) | exact HI199.out)) hk NS199_195.out); have n3_ := Aside0.mk (hb); have n4_ := Aside0.mk (hi); clear HO_7; clear HO_8; clear HI199; clear HB; clear HI195; have HO_7 := n0_; have HO_8 := n1_; have HI199 := n2_; have HB := n3_; have HI195 := n4_; clear n0_ n1_ n2_ n3_ n4_; (try clear hb); (try clear hb2); (try clear hk); (try clear hi); (try clear hgw)))
            go_meet
            case rel => exact ⟨_, (x7_1), (x8_1), (t203), (t204), (t205), (x200000_1), (x200001_1), (x200002_1), H', ⟨by have := HK1.out; have := HJ12.out; first | omega | exact Nat.le_refl _⟩, ⟨by (with_reducible repeat (first | apply Kd.R_alloc | apply Kd.R_drewN | apply Kd.R_drew)); exact HO_7.out⟩, ⟨by (with_reducible repeat (first | apply Kd.R_alloc | apply Kd.R_drewN | apply Kd.R_drew)); exact HO_8.out⟩, ⟨by repeat (first | (with_reducible first | exact HI195.out | apply IsS54.alloc | apply IsS54.drewN | apply IsS54.drew | apply IsS54.set_0 | apply IsS54.set_1 | apply IsS54.set_2) | exact HI195.out)⟩, ⟨by repeat (first | (with_reducible first | exact HI199.out | apply IsS54.alloc | apply IsS54.drewN | apply IsS54.drew | apply IsS54.set_0 | apply IsS54.set_1 | apply IsS54.set_2) | exact HI199.out)⟩, ⟨by repeat (first | (with_reducible first | exact HB.out | apply below_alloc | apply pw_below_drewN | apply below_drew1 | refine below_set ?_ (IsS54.ge HI195.out) | refine below_set ?_ (IsS54.ge HI199.out)) | exact HB.out)⟩⟩
         ·
          replace c16 := Bool.eq_false_iff.mpr c16
          subst c16
          have H1 : (if (Int.tmod (rd l1 x9_1) 8) = 3 then (lw16_CreditMeets.j2 kj12 l1 x7_1 x8_1 x9_1 ((Int.tmod (IntKind.u16.wrap (Int.tdiv (rd l1 x9_1) 8)) 20) % 4294967296) (Int.tmod (rd l1 x9_1) 8) ((Int.tmod (rd l1 x9_1) 8) == 3) x196000_1 x196001_1 x196002_1 x200000_1 x200001_1 x200002_1) else (lw16_CreditMeets.j2 kj12 l1 x7_1 x8_1 x9_1 ((Int.tmod (IntKind.u16.wrap (Int.tdiv (rd l1 x9_1) 8)) 20) % 4294967296) (Int.tmod (rd l1 x9_1) 8) ((Int.tmod (rd l1 x9_1) 8) == 4) x196000_1 x196001_1 x196002_1 x200000_1 x200001_1 x200002_1)) = some r := by rw [if_neg (show ¬ (false = true) by decide)] at H; exact H
          clear H
          have H := H1
          clear H1
          have HC23 := Aside0.mk H
          clear H
          go_upto_if 75 with (fail)
          go_cut [75] (fun v75 wc => ∃ (kq : Nat) (x75_22 : Bool), v75 = .bool x75_22 ∧ Aside0 (lw16_CreditMeets.j2 kq l1 x7_1 x8_1 x9_1 ((Int.tmod (IntKind.u16.wrap (Int.tdiv (rd l1 x9_1) 8)) 20) % 4294967296) (Int.tmod (rd l1 x9_1) 8) x75_22 x196000_1 x196001_1 x196002_1 x200000_1 x200001_1 x200002_1 = some r) ∧ Aside0 (kq ≤ kj12) ∧ Aside0 (Kd.R k42 42 wc w.heap.size (fun k_ => some k_ ≠ (u8 : Value).ownBlock) u7 x7_1) ∧ Aside0 (Kd.R k42 42 wc w.heap.size (fun k_ => some k_ ≠ (u7 : Value).ownBlock) u8 x8_1) ∧ Aside0 (IsS54 w wc g195 x196000_1 x196001_1 x196002_1) ∧ Aside0 (IsS54 w wc g199 x200000_1 x200001_1 x200002_1) ∧ Aside0 (Below w.heap.size w wc))
          case first =>
           have H := HC23.out
           clear HC23
           by_cases c24 : (Int.tmod (rd l1 x9_1) 8) = 3
           ·
            rw [if_pos c24] at H
            have c24b0 : ((Int.tmod (rd l1 x9_1) 8) == 3) = true := beq_iff_eq.mpr c24
            have c24b1 : ((Int.tmod (rd l1 x9_1) 8) != 3) = false := bne_eq_false_iff_eq.mpr c24
            clear c24
            (first | rw [c24b0] | (simp only [i64_w, i32_w]; rw [c24b0]) | skip)
            as_aux_lemma =>
             have H' := Aside0.mk H
             clear H
             go_wp2
             go_meet
             case rel => exact ⟨_, (((Int.tmod (rd l1 x9_1) 8) == 3)), (by first | rfl | (simp; done) | (simp [*]; done)), H', ⟨by have := HK1.out; have := HJ12.out; first | omega | exact Nat.le_refl _⟩, ⟨by (with_reducible repeat (first | apply Kd.R_alloc | apply Kd.R_drewN | apply Kd.R_drew)); exact HO_7.out⟩, ⟨by (with_reducible repeat (first | apply Kd.R_alloc | apply Kd.R_drewN | apply Kd.R_drew)); exact HO_8.out⟩, ⟨by repeat (first | (with_reducible first | exact HI195.out | apply IsS54.alloc | apply IsS54.drewN | apply IsS54.drew | apply IsS54.set_0 | apply IsS54.set_1 | apply IsS54.set_2) | exact HI195.out)⟩, ⟨by repeat (first | (with_reducible first | exact HI199.out | apply IsS54.alloc | apply IsS54.drewN | apply IsS54.drew | apply IsS54.set_0 | apply IsS54.set_1 | apply IsS54.set_2) | exact HI199.out)⟩, ⟨by repeat (first | (with_reducible first | exact HB.out | apply below_alloc | apply pw_below_drewN | apply below_drew1 | refine below_set ?_ (IsS54.ge HI195.out) | refine below_set ?_ (IsS54.ge HI199.out)) | exact HB.out)⟩⟩
           ·
            rw [if_neg c24] at H
            have c24b0 : ((Int.tmod (rd l1 x9_1) 8) == 3) = false := beq_eq_false_iff_ne.mpr c24
            have c24b1 : ((Int.tmod (rd l1 x9_1) 8) != 3) = true := bne_iff_ne.mpr c24
            (first | rw [c24b0] | (simp only [i64_w, i32_w]; rw [c24b0]) | skip)
            as_aux_lemma =>
             have H' := Aside0.mk H
             clear H
             go_wp2
             go_meet
             case rel => exact ⟨_, (((Int.tmod (rd l1 x9_1) 8) == 4)), (by first | rfl | (simp; done) | (simp [*]; done)), H', ⟨by have := HK1.out; have := HJ12.out; first | omega | exact Nat.le_refl _⟩, ⟨by (with_reducible repeat (first | apply Kd.R_alloc | apply Kd.R_drewN | apply Kd.R_drew)); exact HO_7.out⟩, ⟨by (with_reducible repeat (first | apply Kd.R_alloc | apply Kd.R_drewN | apply Kd.R_drew)); exact HO_8.out⟩, ⟨by repeat (first | (with_reducible first | exact HI195.out | apply IsS54.alloc | apply IsS54.drewN | apply IsS54.drew | apply IsS54.set_0 | apply IsS54.set_1 | apply IsS54.set_2) | exact HI195.out)⟩, ⟨by repeat (first | (with_reducible first | exact HI199.out | apply IsS54.alloc | apply IsS54.drewN | apply IsS54.drew | apply IsS54.set_0 | apply IsS54.set_1 | apply IsS54.set_2) | exact HI199.out)⟩, ⟨by repeat (first | (with_reducible first | exact HB.out | apply below_alloc | apply pw_below_drewN | apply below_drew1 | refine below_set ?_ (IsS54.ge HI195.out) | refine below_set ?_ (IsS54.ge HI199.out)) | exact HB.out)⟩⟩
          case rest =>
           clear HC23
           try clear c1
           try clear c2
           try clear p2
           try clear q2
           try clear hx2
           try clear c3
           try clear c3b0
           try clear c3b1
           try clear c4
           try clear c9
           try clear c10
           try clear c10b0
           try clear c11
           try clear c11b0
           try clear c14
           try clear c14b0
           try clear c14b1
           try clear c15
           try clear c15b0
           try clear c15b1
           try clear c16
           try clear c18
           try clear c19
           try clear p20
           try clear q20
           try clear hx20
           try clear c24
           try clear c24b0
           try clear c24b1
           try clear hx200_0
           try clear hx201_0
           try clear p2
           try clear p200
           try clear p201
           try clear q2
           try clear q200
           try clear q201
           obtain ⟨kq, x75_22, rfl, HA, HJ22, HO_7, HO_8, HI195, HI199, HB⟩ := hcut
           cases kq with
           | zero => exact absurd HA.out (by simp [lw16_CreditMeets.j2])
           | succ kj22 => as_aux_lemma =>
            have H := HA.out
            clear HA
            simp only [lw16_CreditMeets.j2] at H
            by_cases c25 : x75_22 = true
            ·
             subst c25
             have H1 : ((cr_Left.f x200000_1 x200001_1 x200002_1).bind fun bt209 => (if bt209.2.2.1 = true then (lw16_CreditMeets.l0 kj22 l1 x7_1 x8_1 (wrap64 (x9_1 + 1)) x196000_1 x196001_1 x196002_1 bt209.2.2.2.1 bt209.2.2.2.2.1 bt209.2.2.2.2.2) else (if 0 ≤ x9_1 then (if x9_1 < (l1.length : Int) then ((cr_Grant.f bt209.2.2.2.1 bt209.2.2.2.2.1 bt209.2.2.2.2.2 ((bt209.2.1 + ((Int.tmod (IntKind.u16.wrap (Int.tdiv (rd l1 x9_1) 8)) 20) % 4294967296)) % 4294967296) ((Int.tmod (rd l1 x9_1) 8) == 4)).bind fun bt216 => ((cr_Left.f bt216.2.1 bt216.2.2.1 bt216.2.2.2).bind fun bt220 => (if x8_1.length < 8796093022208 then (lw16_CreditMeets.j3 kj22 l1 x7_1 (x8_1 ++ [(⟨true, bt216.1, bt220.2.1, bt220.2.2.1⟩ : S42)]) x9_1 x196000_1 x196001_1 x196002_1 bt220.2.2.2.1 bt220.2.2.2.2.1 bt220.2.2.2.2.2) else (none)))) else (none)) else (none)))) = some r := by rw [if_pos rfl] at H; exact H
             clear H
             have H := H1
             clear H1
             replace H := Option.bind_eq_some_iff.mp H
             obtain ⟨⟨t209, t210, t211, t212, t213, t214⟩, A260, H⟩ := H
             replace H : (if t211 = true then (lw16_CreditMeets.l0 kj22 l1 x7_1 x8_1 (wrap64 (x9_1 + 1)) x196000_1 x196001_1 x196002_1 t212 t213 t214) else (if 0 ≤ x9_1 then (if x9_1 < (l1.length : Int) then ((cr_Grant.f t212 t213 t214 ((t210 + ((Int.tmod (IntKind.u16.wrap (Int.tdiv (rd l1 x9_1) 8)) 20) % 4294967296)) % 4294967296) ((Int.tmod (rd l1 x9_1) 8) == 4)).bind fun bt216 => ((cr_Left.f bt216.2.1 bt216.2.2.1 bt216.2.2.2).bind fun bt220 => (if x8_1.length < 8796093022208 then (lw16_CreditMeets.j3 kj22 l1 x7_1 (x8_1 ++ [(⟨true, bt216.1, bt220.2.1, bt220.2.2.1⟩ : S42)]) x9_1 x196000_1 x196001_1 x196002_1 bt220.2.2.2.1 bt220.2.2.2.2.1 bt220.2.2.2.2.2) else (none)))) else (none)) else (none))) = some r := H
             have A26 := Aside0.mk A260
             clear A260
             by_cases c27 : t211 = true
             ·
              subst c27
              have H1 : (lw16_CreditMeets.l0 kj22 l1 x7_1 x8_1 (wrap64 (x9_1 + 1)) x196000_1 x196001_1 x196002_1 t212 t213 t214) = some r := by rw [if_pos rfl] at H; exact H
              clear H
              have H := H1
              clear H1
              as_aux_lemma =>
               have H' := Aside0.mk H
               clear H
               go_wp2_with (first | ((with_reducible refine gate_callee (f := 14) rfl ?_); refine goesL_ (some 80) rfl rfl Try.func14 (by kernel_rfl) rfl #[.pointer (some ⟨g199, 0, none⟩)] rfl (by (try simp only [List.map_toArray, List.map_cons, List.map_nil]); first | done | rfl | (simp only [List.length_drop, List.length_take]; rfl)) ?_; (with_reducible refine (cr_Left.calls g199 x200000_1 x200001_1 x200002_1 t209 t210 true t212 t213 t214 w _ ?side1 ?side2 A26.out).mono ?_); (case side1 => repeat (first | (with_reducible first | exact HI199.out | apply IsS54.alloc | apply IsS54.drewN | apply IsS54.drew | apply IsS54.set_0 | apply IsS54.set_1 | apply IsS54.set_2) | exact HI199.out)); (case side2 => repeat (first | (with_reducible first | exact HB.out | apply below_alloc | apply pw_below_drewN | apply below_drew1 | refine below_set ?_ (IsS54.ge HI195.out) | refine below_set ?_ (IsS54.ge HI199.out)) | exact HB.out)); rintro e w28 ⟨rfl, hi, hb, hk⟩; refine ⟨_, rfl, ?_⟩; have n0_ := Aside0.mk (Kd.R_mono (Kd.R_keep (IsS54.apart (show IsS54 w _ g199 x200000_1 x200001_1 x200002_1 from by repeat (first | (with_reducible first | exact HI199.out | apply IsS54.alloc | apply IsS54.drewN | apply IsS54.drew | apply IsS54.set_0 | apply IsS54.set_1 | apply IsS54.set_2) | exact HI199.out)) (by (with_reducible repeat (first | apply Kd.R_alloc | apply Kd.R_drewN | apply Kd.R_drew)); exact HO_7.out) (by decide)) hk (fun _ h => h.2)) (fun _ h => h.1)); have n1_ := Aside0.mk (Kd.R_mono (Kd.R_keep (IsS54.apart (show IsS54 w _ g199 x200000_1 x200001_1 x200002_1 from by repeat (first | (with_reducible first | exact HI199.out | apply IsS54.alloc | apply IsS54.drewN | apply IsS54.drew | apply IsS54.set_0 | apply IsS54.set_1 | apply IsS54.set_2) | exact HI199.out)) (by (with_reducible repeat (first | apply Kd.R_alloc | apply Kd.R_drewN | apply Kd.R_drew)); exact HO_8.out) (by decide)) hk (fun _ h => h.2)) (fun _ h => h.1)); have n2_ := Aside0.mk (IsS54.beside (show IsS54 w _ g195 x196000_1 x196001_1 x196002_1 from by repeat (first | (with_reducible first | exact HI195.out | apply IsS54.alloc | apply IsS54.drewN | apply IsS54.drew | apply IsS54.set_0 | apply IsS54.set_1 | apply IsS54.set_2) | exact HI195.out)) hk NS195_199.out); have n3_ := Aside0.mk (hb); have n4_ := Aside0.mk (hi); clear HO_7; clear HO_8; clear HI195; clear HB; clear HI199; have HO_7 := n0_; have HO_8 := n1_; have HI195 := n2_; have HB := n3_; have HI199 := n4_; clear n0_ n1_ n2_ n3_ n4_; (try clear hb); (try clear hb2); (try clear hk); (try clear hi); (try clear hgw)))
               go_roundg kj22
               case measure => have := HK1.out; have := HJ12.out; have := HJ22.out; omega
               case rel => exact ⟨(x7_1), (x8_1), (wrap64 (x9_1 + 1)), (x196000_1), (x196001_1), (x196002_1), (t212), (t213), (t214), (by first | rfl | (simp; done) | (simp [*]; done)), H', ⟨by have := HK1.out; have := HJ12.out; have := HJ22.out; omega⟩, ⟨by (with_reducible repeat (first | apply Kd.R_alloc | apply Kd.R_drewN | apply Kd.R_drew)); exact HO_7.out⟩, ⟨by (with_reducible repeat (first | apply Kd.R_alloc | apply Kd.R_drewN | apply Kd.R_drew)); exact HO_8.out⟩, ⟨by repeat (first | (with_reducible first | exact HI195.out | apply IsS54.alloc | apply IsS54.drewN | apply IsS54.drew | apply IsS54.set_0 | apply IsS54.set_1 | apply IsS54.set_2) | exact HI195.out)⟩, ⟨by repeat (first | (with_reducible first | exact HI199.out | apply IsS54.alloc | apply IsS54.drewN | apply IsS54.drew | apply IsS54.set_0 | apply IsS54.set_1 | apply IsS54.set_2) | exact HI199.out)⟩, ⟨by repeat (first | (with_reducible first | exact HB.out | apply below_alloc | apply pw_below_drewN | apply below_drew1 | refine below_set ?_ (IsS54.ge HI195.out) | refine below_set ?_ (IsS54.ge HI199.out)) | exact HB.out)⟩⟩
             ·
              replace c27 := Bool.eq_false_iff.mpr c27
              subst c27
              have H1 : (if 0 ≤ x9_1 then (if x9_1 < (l1.length : Int) then ((cr_Grant.f t212 t213 t214 ((t210 + ((Int.tmod (IntKind.u16.wrap (Int.tdiv (rd l1 x9_1) 8)) 20) % 4294967296)) % 4294967296) ((Int.tmod (rd l1 x9_1) 8) == 4)).bind fun bt216 => ((cr_Left.f bt216.2.1 bt216.2.2.1 bt216.2.2.2).bind fun bt220 => (if x8_1.length < 8796093022208 then (lw16_CreditMeets.j3 kj22 l1 x7_1 (x8_1 ++ [(⟨true, bt216.1, bt220.2.1, bt220.2.2.1⟩ : S42)]) x9_1 x196000_1 x196001_1 x196002_1 bt220.2.2.2.1 bt220.2.2.2.2.1 bt220.2.2.2.2.2) else (none)))) else (none)) else (none)) = some r := by rw [if_neg (show ¬ (false = true) by decide)] at H; exact H
              clear H
              have H := H1
              clear H1
              by_cases c29 : 0 ≤ x9_1
              ·
               rw [if_pos c29] at H
               have c29b0 : decide (0 ≤ x9_1) = true := decide_eq_true c29
               clear c29
               by_cases c30 : x9_1 < (l1.length : Int)
               ·
                rw [if_pos c30] at H
                have c30b0 : decide (x9_1 < (l1.length : Int)) = true := decide_eq_true c30
                clear c30
                replace H := Option.bind_eq_some_iff.mp H
                obtain ⟨⟨t216, t217, t218, t219⟩, A310, H⟩ := H
                replace H : ((cr_Left.f t217 t218 t219).bind fun bt220 => (if x8_1.length < 8796093022208 then (lw16_CreditMeets.j3 kj22 l1 x7_1 (x8_1 ++ [(⟨true, t216, bt220.2.1, bt220.2.2.1⟩ : S42)]) x9_1 x196000_1 x196001_1 x196002_1 bt220.2.2.2.1 bt220.2.2.2.2.1 bt220.2.2.2.2.2) else (none))) = some r := H
                have A31 := Aside0.mk A310
                clear A310
                replace H := Option.bind_eq_some_iff.mp H
                obtain ⟨⟨t220, t221, t222, t223, t224, t225⟩, A320, H⟩ := H
                replace H : (if x8_1.length < 8796093022208 then (lw16_CreditMeets.j3 kj22 l1 x7_1 (x8_1 ++ [(⟨true, t216, t221, t222⟩ : S42)]) x9_1 x196000_1 x196001_1 x196002_1 t223 t224 t225) else (none)) = some r := H
                have A32 := Aside0.mk A320
                clear A320
                by_cases c33 : x8_1.length < 8796093022208
                ·
                 rw [if_pos c33] at H
                 have LMc33 := Aside0.mk c33
                 clear c33
                 obtain ⟨y226, hy226⟩ : ∃ y_ : List (S42), y_ = (x8_1 ++ [(⟨true, t216, t221, t222⟩ : S42)]) := ⟨_, rfl⟩
                 replace H : (lw16_CreditMeets.j3 kj22 l1 x7_1 y226 x9_1 x196000_1 x196001_1 x196002_1 t223 t224 t225) = some r := by first | (rw [hy226]; with_reducible exact H) | (have H2_ := (Option.bind_some _ _).symm.trans H; rw [hy226]; with_reducible exact H2_) | (have H2_ := (Option.bind_some _ _).symm.trans H; with_reducible exact H2_) | with_reducible exact H | (rw [hy226]; exact H) | exact H
                 have Ny226 := Aside0.mk hy226
                 clear hy226
                 as_aux_lemma =>
                  have H' := Aside0.mk H
                  clear H
                  go_wp2_with (first | ((with_reducible refine gate_callee (f := 14) rfl ?_); refine goesL_ (some 80) rfl rfl Try.func14 (by kernel_rfl) rfl #[.pointer (some ⟨g199, 0, none⟩)] rfl (by (try simp only [List.map_toArray, List.map_cons, List.map_nil]); first | done | rfl | (simp only [List.length_drop, List.length_take]; rfl)) ?_; (with_reducible refine (cr_Left.calls g199 x200000_1 x200001_1 x200002_1 t209 t210 false t212 t213 t214 w _ ?side1 ?side2 A26.out).mono ?_); (case side1 => repeat (first | (with_reducible first | exact HI199.out | apply IsS54.alloc | apply IsS54.drewN | apply IsS54.drew | apply IsS54.set_0 | apply IsS54.set_1 | apply IsS54.set_2) | exact HI199.out)); (case side2 => repeat (first | (with_reducible first | exact HB.out | apply below_alloc | apply pw_below_drewN | apply below_drew1 | refine below_set ?_ (IsS54.ge HI195.out) | refine below_set ?_ (IsS54.ge HI199.out)) | exact HB.out)); rintro e w34 ⟨rfl, hi, hb, hk⟩; refine ⟨_, rfl, ?_⟩; have n0_ := Aside0.mk (Kd.R_mono (Kd.R_keep (IsS54.apart (show IsS54 w _ g199 x200000_1 x200001_1 x200002_1 from by repeat (first | (with_reducible first | exact HI199.out | apply IsS54.alloc | apply IsS54.drewN | apply IsS54.drew | apply IsS54.set_0 | apply IsS54.set_1 | apply IsS54.set_2) | exact HI199.out)) (by (with_reducible repeat (first | apply Kd.R_alloc | apply Kd.R_drewN | apply Kd.R_drew)); exact HO_7.out) (by decide)) hk (fun _ h => h.2)) (fun _ h => h.1)); have n1_ := Aside0.mk (Kd.R_mono (Kd.R_keep (IsS54.apart (show IsS54 w _ g199 x200000_1 x200001_1 x200002_1 from by repeat (first | (with_reducible first | exact HI199.out | apply IsS54.alloc | apply IsS54.drewN | apply IsS54.drew | apply IsS54.set_0 | apply IsS54.set_1 | apply IsS54.set_2) | exact HI199.out)) (by (with_reducible repeat (first | apply Kd.R_alloc | apply Kd.R_drewN | apply Kd.R_drew)); exact HO_8.out) (by decide)) hk (fun _ h => h.2)) (fun _ h => h.1)); have n2_ := Aside0.mk (IsS54.beside (show IsS54 w _ g195 x196000_1 x196001_1 x196002_1 from by repeat (first | (with_reducible first | exact HI195.out | apply IsS54.alloc | apply IsS54.drewN | apply IsS54.drew | apply IsS54.set_0 | apply IsS54.set_1 | apply IsS54.set_2) | exact HI195.out)) hk NS195_199.out); have n3_ := Aside0.mk (hb); have n4_ := Aside0.mk (hi); clear HO_7; clear HO_8; clear HI195; clear HB; clear HI199; have HO_7 := n0_; have HO_8 := n1_; have HI195 := n2_; have HB := n3_; have HI199 := n4_; clear n0_ n1_ n2_ n3_ n4_; (try clear hb); (try clear hb2); (try clear hk); (try clear hi); (try clear hgw); have p215 : 0 ≤ (x9_1 : Int) := of_decide_eq_true (by first | (with_reducible assumption) | assumption); have q215 : x9_1 < (l1.length : Int) := of_decide_eq_true (by first | (with_reducible assumption) | assumption); obtain ⟨ad215, e215, hx215_0⟩ := Kd.at_int HR1.out x9_1 p215 q215; obtain rfl : ad200 = ad215 := (by injection e215); replace hx215_0 := (HB.out.cell (World.block_lt_of_cell? w _ hx215_0)).trans hx215_0; replace p215 := eq_true p215; replace q215 := eq_true q215) | ((with_reducible refine gate_callee (f := 17) rfl ?_); refine goesL_ (some 95) rfl rfl Try.func17 (by kernel_rfl) rfl #[.pointer (some ⟨g199, 0, none⟩), .int .u32 ((t210 + ((Int.tmod (IntKind.u16.wrap (Int.tdiv (rd l1 x9_1) 8)) 20) % 4294967296)) % 4294967296), .bool ((Int.tmod (rd l1 x9_1) 8) == 4)] rfl (by (try simp only [List.map_toArray, List.map_cons, List.map_nil]); first | done | rfl | (simp only [List.length_drop, List.length_take]; rfl)) ?_; (with_reducible refine (cr_Grant.calls g199 t212 t213 t214 ((t210 + ((Int.tmod (IntKind.u16.wrap (Int.tdiv (rd l1 x9_1) 8)) 20) % 4294967296)) % 4294967296) ((Int.tmod (rd l1 x9_1) 8) == 4) t216 t217 t218 t219 w _ ?side1 ?side2 A31.out).mono ?_); (case side1 => repeat (first | (with_reducible first | exact HI199.out | apply IsS54.alloc | apply IsS54.drewN | apply IsS54.drew | apply IsS54.set_0 | apply IsS54.set_1 | apply IsS54.set_2) | exact HI199.out)); (case side2 => repeat (first | (with_reducible first | exact HB.out | apply below_alloc | apply pw_below_drewN | apply below_drew1 | refine below_set ?_ (IsS54.ge HI195.out) | refine below_set ?_ (IsS54.ge HI199.out)) | exact HB.out)); rintro e w35 ⟨rfl, hi, hb, hk⟩; refine ⟨_, rfl, ?_⟩; have n0_ := Aside0.mk (Kd.R_mono (Kd.R_keep (IsS54.apart (show IsS54 w _ g199 t212 t213 t214 from by repeat (first | (with_reducible first | exact HI199.out | apply IsS54.alloc | apply IsS54.drewN | apply IsS54.drew | apply IsS54.set_0 | apply IsS54.set_1 | apply IsS54.set_2) | exact HI199.out)) (by (with_reducible repeat (first | apply Kd.R_alloc | apply Kd.R_drewN | apply Kd.R_drew)); exact HO_7.out) (by decide)) hk (fun _ h => h.2)) (fun _ h => h.1)); have n1_ := Aside0.mk (Kd.R_mono (Kd.R_keep (IsS54.apart (show IsS54 w _ g199 t212 t213 t214 from by repeat (first | (with_reducible first | exact HI199.out | apply IsS54.alloc | apply IsS54.drewN | apply IsS54.drew | apply IsS54.set_0 | apply IsS54.set_1 | apply IsS54.set_2) | exact HI199.out)) (by (with_reducible repeat (first | apply Kd.R_alloc | apply Kd.R_drewN | apply Kd.R_drew)); exact HO_8.out) (by decide)) hk (fun _ h => h.2)) (fun _ h => h.1)); have n2_ := Aside0.mk (IsS54.beside (show IsS54 w _ g195 x196000_1 x196001_1 x196002_1 from by repeat (first | (with_reducible first | exact HI195.out | apply IsS54.alloc | apply IsS54.drewN | apply IsS54.drew | apply IsS54.set_0 | apply IsS54.set_1 | apply IsS54.set_2) | exact HI195.out)) hk NS195_199.out); have n3_ := Aside0.mk (hb); have n4_ := Aside0.mk (hi); clear HO_7; clear HO_8; clear HI195; clear HB; clear HI199; have HO_7 := n0_; have HO_8 := n1_; have HI195 := n2_; have HB := n3_; have HI199 := n4_; clear n0_ n1_ n2_ n3_ n4_; (try clear hb); (try clear hb2); (try clear hk); (try clear hi); (try clear hgw)) | ((with_reducible refine gate_callee (f := 14) rfl ?_); refine goesL_ (some 98) rfl rfl Try.func14 (by kernel_rfl) rfl #[.pointer (some ⟨g199, 0, none⟩)] rfl (by (try simp only [List.map_toArray, List.map_cons, List.map_nil]); first | done | rfl | (simp only [List.length_drop, List.length_take]; rfl)) ?_; (with_reducible refine (cr_Left.calls g199 t217 t218 t219 t220 t221 t222 t223 t224 t225 w _ ?side1 ?side2 A32.out).mono ?_); (case side1 => repeat (first | (with_reducible first | exact HI199.out | apply IsS54.alloc | apply IsS54.drewN | apply IsS54.drew | apply IsS54.set_0 | apply IsS54.set_1 | apply IsS54.set_2) | exact HI199.out)); (case side2 => repeat (first | (with_reducible first | exact HB.out | apply below_alloc | apply pw_below_drewN | apply below_drew1 | refine below_set ?_ (IsS54.ge HI195.out) | refine below_set ?_ (IsS54.ge HI199.out)) | exact HB.out)); rintro e w36 ⟨rfl, hi, hb, hk⟩; refine ⟨_, rfl, ?_⟩; have n0_ := Aside0.mk (Kd.R_mono (Kd.R_keep (IsS54.apart (show IsS54 w _ g199 t217 t218 t219 from by repeat (first | (with_reducible first | exact HI199.out | apply IsS54.alloc | apply IsS54.drewN | apply IsS54.drew | apply IsS54.set_0 | apply IsS54.set_1 | apply IsS54.set_2) | exact HI199.out)) (by (with_reducible repeat (first | apply Kd.R_alloc | apply Kd.R_drewN | apply Kd.R_drew)); exact HO_7.out) (by decide)) hk (fun _ h => h.2)) (fun _ h => h.1)); have n1_ := Aside0.mk (Kd.R_mono (Kd.R_keep (IsS54.apart (show IsS54 w _ g199 t217 t218 t219 from by repeat (first | (with_reducible first | exact HI199.out | apply IsS54.alloc | apply IsS54.drewN | apply IsS54.drew | apply IsS54.set_0 | apply IsS54.set_1 | apply IsS54.set_2) | exact HI199.out)) (by (with_reducible repeat (first | apply Kd.R_alloc | apply Kd.R_drewN | apply Kd.R_drew)); exact HO_8.out) (by decide)) hk (fun _ h => h.2)) (fun _ h => h.1)); have n2_ := Aside0.mk (IsS54.beside (show IsS54 w _ g195 x196000_1 x196001_1 x196002_1 from by repeat (first | (with_reducible first | exact HI195.out | apply IsS54.alloc | apply IsS54.drewN | apply IsS54.drew | apply IsS54.set_0 | apply IsS54.set_1 | apply IsS54.set_2) | exact HI195.out)) hk NS195_199.out); have n3_ := Aside0.mk (hb); have n4_ := Aside0.mk (hi); clear HO_7; clear HO_8; clear HI195; clear HB; clear HI199; have HO_7 := n0_; have HO_8 := n1_; have HI195 := n2_; have HB := n3_; have HI199 := n4_; clear n0_ n1_ n2_ n3_ n4_; (try clear hb); (try clear hb2); (try clear hk); (try clear hi); (try clear hgw)) | ((with_reducible refine gate_builtin (b := .append) (xs := #[.tmp 102, .tmp 107]) rfl ?_); at_builtin; refine Kd.R_append k42 (w0 := w) w.heap.size rfl (.tmp 102) (.tmp 107) 39 42 (.agg #[(.bool false), (.int .u32 0), (.int .u32 0), (.bool false)]) 16 rfl Try.underlying39 info42 rfl (by decide) (by omega) u8 x8_1 (⟨true, t216, t221, t222⟩ : S42) [.bool true, .int .u32 t216, .int .u32 t221, .bool t222] (fun k_ => some k_ ≠ (u7 : Value).ownBlock) (fun _ => False) rfl rfl ?aP (fun _ hk => hk.elim) ?aF ?aO ?aB ?aS ?aL ?_; (case aP => exact k42_mkM _ _ _ (⟨true, t216, t221, t222⟩ : S42)); (case aB => exact (by repeat (first | (with_reducible first | exact HB.out | apply below_alloc | apply pw_below_drewN | apply below_drew1 | refine below_set ?_ (IsS54.ge HI195.out) | refine below_set ?_ (IsS54.ge HI199.out)) | exact HB.out))); (case aF => exact (fun k_ hk => Kd.fresh' (Kd.R_lt (by (with_reducible repeat (first | apply Kd.R_alloc | apply Kd.R_drewN | apply Kd.R_drew)); exact HO_7.out)) k_ hk)); (case aO => exact (by (with_reducible repeat (first | apply Kd.R_alloc | apply Kd.R_drewN | apply Kd.R_drew)); exact HO_8.out)); (case aS => exact (below_size (by repeat (first | (with_reducible first | exact HB.out | apply below_alloc | apply pw_below_drewN | apply below_drew1 | refine below_set ?_ (IsS54.ge HI195.out) | refine below_set ?_ (IsS54.ge HI199.out)) | exact HB.out)))); (case aL => have := LMc33.out; omega); intro v227 w37 ho hb hg hat; rw [← Ny226.out] at ho; have n0_ := Aside0.mk (Kd.R_after (ok := (fun _ => True)) (by (with_reducible repeat (first | apply Kd.R_alloc | apply Kd.R_drewN | apply Kd.R_drew)); exact Kd.R_mono HO_7.out (fun _ hk => ⟨trivial, hk⟩)) hg hat); have n1_ := Aside0.mk (IsS54.grown (by repeat (first | (with_reducible first | exact HI195.out | apply IsS54.alloc | apply IsS54.drewN | apply IsS54.drew | apply IsS54.set_0 | apply IsS54.set_1 | apply IsS54.set_2) | exact HI195.out)) hg (IsS54.own_ne HI195.out HO_8.out (by decide))); have n2_ := Aside0.mk (IsS54.grown (by repeat (first | (with_reducible first | exact HI199.out | apply IsS54.alloc | apply IsS54.drewN | apply IsS54.drew | apply IsS54.set_0 | apply IsS54.set_1 | apply IsS54.set_2) | exact HI199.out)) hg (IsS54.own_ne HI199.out HO_8.out (by decide))); have n3_ := Aside0.mk (hb); have n4_ := Aside0.mk (ho); clear HO_7; clear HI195; clear HI199; clear HB; clear HO_8; have HO_7 := n0_; have HI195 := n1_; have HI199 := n2_; have HB := n3_; have HO228 := n4_; clear n0_ n1_ n2_ n3_ n4_; clear ho hb hg hat))
                  go_meet
                  case rel => exact ⟨_, (x7_1), (y226), (x196000_1), (x196001_1), (x196002_1), (t223), (t224), (t225), H', ⟨by have := HK1.out; have := HJ12.out; have := HJ22.out; first | omega | exact Nat.le_refl _⟩, ⟨by (with_reducible repeat (first | apply Kd.R_alloc | apply Kd.R_drewN | apply Kd.R_drew)); exact Kd.R_mono HO_7.out (fun _ hk => hk.2)⟩, ⟨by (with_reducible repeat (first | apply Kd.R_alloc | apply Kd.R_drewN | apply Kd.R_drew)); exact HO228.out⟩, ⟨by repeat (first | (with_reducible first | exact HI195.out | apply IsS54.alloc | apply IsS54.drewN | apply IsS54.drew | apply IsS54.set_0 | apply IsS54.set_1 | apply IsS54.set_2) | exact HI195.out)⟩, ⟨by repeat (first | (with_reducible first | exact HI199.out | apply IsS54.alloc | apply IsS54.drewN | apply IsS54.drew | apply IsS54.set_0 | apply IsS54.set_1 | apply IsS54.set_2) | exact HI199.out)⟩, ⟨by repeat (first | (with_reducible first | exact HB.out | apply below_alloc | apply pw_below_drewN | apply below_drew1 | refine below_set ?_ (IsS54.ge HI195.out) | refine below_set ?_ (IsS54.ge HI199.out)) | exact HB.out)⟩⟩
                ·
                 rw [if_neg c33] at H
                 exact absurd H (by simp)
               ·
                rw [if_neg c30] at H
                exact absurd H (by simp)
              ·
               rw [if_neg c29] at H
               exact absurd H (by simp)
            ·
             replace c25 := Bool.eq_false_iff.mpr c25
             subst c25
             have H1 : (if (Int.tmod (rd l1 x9_1) 8) = 5 then ((cr_Dry.f x196000_1 x196001_1 x196002_1).bind fun bt229 => (if bt229.2.1 = true then ((cr_Left.f bt229.2.2.1 bt229.2.2.2.1 bt229.2.2.2.2).bind fun bt234 => (if x7_1.length < 8796093022208 then (lw16_CreditMeets.j3 kj22 l1 (x7_1 ++ [(⟨true, bt234.1, 0, false⟩ : S42)]) x8_1 x9_1 bt234.2.2.2.1 bt234.2.2.2.2.1 bt234.2.2.2.2.2 x200000_1 x200001_1 x200002_1) else (none))) else (lw16_CreditMeets.j3 kj22 l1 x7_1 x8_1 x9_1 bt229.2.2.1 bt229.2.2.2.1 bt229.2.2.2.2 x200000_1 x200001_1 x200002_1))) else (if (Int.tmod (rd l1 x9_1) 8) = 6 then (if (x7_1.length : Int) > 0 then (if 0 < (x7_1.length : Int) then ((lw16_lands.f x200000_1 x200001_1 x200002_1 ((rd_T42 x7_1 0).f0) ((rd_T42 x7_1 0).f1) ((rd_T42 x7_1 0).f2) ((rd_T42 x7_1 0).f3)).bind fun bt244 => (if bt244.1 = true then ((some (([] : List (S42)) : List (S42))).bind fun y248 => (if 1 ≤ (x7_1.length : Int) then ((some (x7_1.drop 1 : List (S42))).bind fun y251 => (if y248.length + y251.length < 8796093022208 then (lw16_CreditMeets.j3 kj22 l1 (y248 ++ y251) x8_1 x9_1 x196000_1 x196001_1 x196002_1 bt244.2.1 bt244.2.2.1 bt244.2.2.2) else (none))) else (none))) else (some false))) else (none)) else (lw16_CreditMeets.j3 kj22 l1 x7_1 x8_1 x9_1 x196000_1 x196001_1 x196002_1 x200000_1 x200001_1 x200002_1)) else (if (Int.tmod (rd l1 x9_1) 8) = 7 then (if (x8_1.length : Int) > 0 then (if 0 < (x8_1.length : Int) then ((cr_Told.f x196000_1 x196001_1 x196002_1 ((rd_T42 x8_1 0).f1) ((rd_T42 x8_1 0).f2) ((rd_T42 x8_1 0).f3)).bind fun bt261 => ((some (([] : List (S42)) : List (S42))).bind fun y264 => (if 1 ≤ (x8_1.length : Int) then ((some (x8_1.drop 1 : List (S42))).bind fun y267 => (if y264.length + y267.length < 8796093022208 then (lw16_CreditMeets.j3 kj22 l1 x7_1 (y264 ++ y267) x9_1 bt261.1 bt261.2.1 bt261.2.2 x200000_1 x200001_1 x200002_1) else (none))) else (none)))) else (none)) else (lw16_CreditMeets.j3 kj22 l1 x7_1 x8_1 x9_1 x196000_1 x196001_1 x196002_1 x200000_1 x200001_1 x200002_1)) else (lw16_CreditMeets.j3 kj22 l1 x7_1 x8_1 x9_1 x196000_1 x196001_1 x196002_1 x200000_1 x200001_1 x200002_1)))) = some r := by rw [if_neg (show ¬ (false = true) by decide)] at H; exact H
             clear H
             have H := H1
             clear H1
             by_cases c38 : (Int.tmod (rd l1 x9_1) 8) = 5
             ·
              rw [if_pos c38] at H
              have c38b0 : ((Int.tmod (rd l1 x9_1) 8) == 5) = true := beq_iff_eq.mpr c38
              have c38b1 : ((Int.tmod (rd l1 x9_1) 8) != 5) = false := bne_eq_false_iff_eq.mpr c38
              clear c38
              replace H := Option.bind_eq_some_iff.mp H
              obtain ⟨⟨t229, t230, t231, t232, t233⟩, A390, H⟩ := H
              replace H : (if t230 = true then ((cr_Left.f t231 t232 t233).bind fun bt234 => (if x7_1.length < 8796093022208 then (lw16_CreditMeets.j3 kj22 l1 (x7_1 ++ [(⟨true, bt234.1, 0, false⟩ : S42)]) x8_1 x9_1 bt234.2.2.2.1 bt234.2.2.2.2.1 bt234.2.2.2.2.2 x200000_1 x200001_1 x200002_1) else (none))) else (lw16_CreditMeets.j3 kj22 l1 x7_1 x8_1 x9_1 t231 t232 t233 x200000_1 x200001_1 x200002_1)) = some r := H
              have A39 := Aside0.mk A390
              clear A390
              by_cases c40 : t230 = true
              ·
               subst c40
               have H1 : ((cr_Left.f t231 t232 t233).bind fun bt234 => (if x7_1.length < 8796093022208 then (lw16_CreditMeets.j3 kj22 l1 (x7_1 ++ [(⟨true, bt234.1, 0, false⟩ : S42)]) x8_1 x9_1 bt234.2.2.2.1 bt234.2.2.2.2.1 bt234.2.2.2.2.2 x200000_1 x200001_1 x200002_1) else (none))) = some r := by rw [if_pos rfl] at H; exact H
               clear H
               have H := H1
               clear H1
               replace H := Option.bind_eq_some_iff.mp H
               obtain ⟨⟨t234, t235, t236, t237, t238, t239⟩, A410, H⟩ := H
               replace H : (if x7_1.length < 8796093022208 then (lw16_CreditMeets.j3 kj22 l1 (x7_1 ++ [(⟨true, t234, 0, false⟩ : S42)]) x8_1 x9_1 t237 t238 t239 x200000_1 x200001_1 x200002_1) else (none)) = some r := H
               have A41 := Aside0.mk A410
               clear A410
               by_cases c42 : x7_1.length < 8796093022208
               ·
                rw [if_pos c42] at H
                have LMc42 := Aside0.mk c42
                clear c42
                obtain ⟨y240, hy240⟩ : ∃ y_ : List (S42), y_ = (x7_1 ++ [(⟨true, t234, 0, false⟩ : S42)]) := ⟨_, rfl⟩
                replace H : (lw16_CreditMeets.j3 kj22 l1 y240 x8_1 x9_1 t237 t238 t239 x200000_1 x200001_1 x200002_1) = some r := by first | (rw [hy240]; with_reducible exact H) | (have H2_ := (Option.bind_some _ _).symm.trans H; rw [hy240]; with_reducible exact H2_) | (have H2_ := (Option.bind_some _ _).symm.trans H; with_reducible exact H2_) | with_reducible exact H | (rw [hy240]; exact H) | exact H
                have Ny240 := Aside0.mk hy240
                clear hy240
                as_aux_lemma =>
                 have H' := Aside0.mk H
                 clear H
                 go_wp2_with (first | ((with_reducible refine gate_callee (f := 18) rfl ?_); refine goesL_ (some 113) rfl rfl Try.func18 (by kernel_rfl) rfl #[.pointer (some ⟨g195, 0, none⟩)] rfl (by (try simp only [List.map_toArray, List.map_cons, List.map_nil]); first | done | rfl | (simp only [List.length_drop, List.length_take]; rfl)) ?_; (with_reducible refine (cr_Dry.calls g195 x196000_1 x196001_1 x196002_1 t229 true t231 t232 t233 w _ ?side1 ?side2 A39.out).mono ?_); (case side1 => repeat (first | (with_reducible first | exact HI195.out | apply IsS54.alloc | apply IsS54.drewN | apply IsS54.drew | apply IsS54.set_0 | apply IsS54.set_1 | apply IsS54.set_2) | exact HI195.out)); (case side2 => repeat (first | (with_reducible first | exact HB.out | apply below_alloc | apply pw_below_drewN | apply below_drew1 | refine below_set ?_ (IsS54.ge HI195.out) | refine below_set ?_ (IsS54.ge HI199.out)) | exact HB.out)); rintro e w43 ⟨rfl, hi, hb, hk⟩; refine ⟨_, rfl, ?_⟩; have n0_ := Aside0.mk (Kd.R_mono (Kd.R_keep (IsS54.apart (show IsS54 w _ g195 x196000_1 x196001_1 x196002_1 from by repeat (first | (with_reducible first | exact HI195.out | apply IsS54.alloc | apply IsS54.drewN | apply IsS54.drew | apply IsS54.set_0 | apply IsS54.set_1 | apply IsS54.set_2) | exact HI195.out)) (by (with_reducible repeat (first | apply Kd.R_alloc | apply Kd.R_drewN | apply Kd.R_drew)); exact HO_7.out) (by decide)) hk (fun _ h => h.2)) (fun _ h => h.1)); have n1_ := Aside0.mk (Kd.R_mono (Kd.R_keep (IsS54.apart (show IsS54 w _ g195 x196000_1 x196001_1 x196002_1 from by repeat (first | (with_reducible first | exact HI195.out | apply IsS54.alloc | apply IsS54.drewN | apply IsS54.drew | apply IsS54.set_0 | apply IsS54.set_1 | apply IsS54.set_2) | exact HI195.out)) (by (with_reducible repeat (first | apply Kd.R_alloc | apply Kd.R_drewN | apply Kd.R_drew)); exact HO_8.out) (by decide)) hk (fun _ h => h.2)) (fun _ h => h.1)); have n2_ := Aside0.mk (IsS54.beside (show IsS54 w _ g199 x200000_1 x200001_1 x200002_1 from by repeat (first | (with_reducible first | exact HI199.out | apply IsS54.alloc | apply IsS54.drewN | apply IsS54.drew | apply IsS54.set_0 | apply IsS54.set_1 | apply IsS54.set_2) | exact HI199.out)) hk NS199_195.out); have n3_ := Aside0.mk (hb); have n4_ := Aside0.mk (hi); clear HO_7; clear HO_8; clear HI199; clear HB; clear HI195; have HO_7 := n0_; have HO_8 := n1_; have HI199 := n2_; have HB := n3_; have HI195 := n4_; clear n0_ n1_ n2_ n3_ n4_; (try clear hb); (try clear hb2); (try clear hk); (try clear hi); (try clear hgw)) | ((with_reducible refine gate_callee (f := 14) rfl ?_); refine goesL_ (some 119) rfl rfl Try.func14 (by kernel_rfl) rfl #[.pointer (some ⟨g195, 0, none⟩)] rfl (by (try simp only [List.map_toArray, List.map_cons, List.map_nil]); first | done | rfl | (simp only [List.length_drop, List.length_take]; rfl)) ?_; (with_reducible refine (cr_Left.calls g195 t231 t232 t233 t234 t235 t236 t237 t238 t239 w _ ?side1 ?side2 A41.out).mono ?_); (case side1 => repeat (first | (with_reducible first | exact HI195.out | apply IsS54.alloc | apply IsS54.drewN | apply IsS54.drew | apply IsS54.set_0 | apply IsS54.set_1 | apply IsS54.set_2) | exact HI195.out)); (case side2 => repeat (first | (with_reducible first | exact HB.out | apply below_alloc | apply pw_below_drewN | apply below_drew1 | refine below_set ?_ (IsS54.ge HI195.out) | refine below_set ?_ (IsS54.ge HI199.out)) | exact HB.out)); rintro e w44 ⟨rfl, hi, hb, hk⟩; refine ⟨_, rfl, ?_⟩; have n0_ := Aside0.mk (Kd.R_mono (Kd.R_keep (IsS54.apart (show IsS54 w _ g195 t231 t232 t233 from by repeat (first | (with_reducible first | exact HI195.out | apply IsS54.alloc | apply IsS54.drewN | apply IsS54.drew | apply IsS54.set_0 | apply IsS54.set_1 | apply IsS54.set_2) | exact HI195.out)) (by (with_reducible repeat (first | apply Kd.R_alloc | apply Kd.R_drewN | apply Kd.R_drew)); exact HO_7.out) (by decide)) hk (fun _ h => h.2)) (fun _ h => h.1)); have n1_ := Aside0.mk (Kd.R_mono (Kd.R_keep (IsS54.apart (show IsS54 w _ g195 t231 t232 t233 from by repeat (first | (with_reducible first | exact HI195.out | apply IsS54.alloc | apply IsS54.drewN | apply IsS54.drew | apply IsS54.set_0 | apply IsS54.set_1 | apply IsS54.set_2) | exact HI195.out)) (by (with_reducible repeat (first | apply Kd.R_alloc | apply Kd.R_drewN | apply Kd.R_drew)); exact HO_8.out) (by decide)) hk (fun _ h => h.2)) (fun _ h => h.1)); have n2_ := Aside0.mk (IsS54.beside (show IsS54 w _ g199 x200000_1 x200001_1 x200002_1 from by repeat (first | (with_reducible first | exact HI199.out | apply IsS54.alloc | apply IsS54.drewN | apply IsS54.drew | apply IsS54.set_0 | apply IsS54.set_1 | apply IsS54.set_2) | exact HI199.out)) hk NS199_195.out); have n3_ := Aside0.mk (hb); have n4_ := Aside0.mk (hi); clear HO_7; clear HO_8; clear HI199; clear HB; clear HI195; have HO_7 := n0_; have HO_8 := n1_; have HI199 := n2_; have HB := n3_; have HI195 := n4_; clear n0_ n1_ n2_ n3_ n4_; (try clear hb); (try clear hb2); (try clear hk); (try clear hi); (try clear hgw)) | ((with_reducible refine gate_builtin (b := .append) (xs := #[.tmp 123, .tmp 126]) rfl ?_); at_builtin; refine Kd.R_append k42 (w0 := w) w.heap.size rfl (.tmp 123) (.tmp 126) 39 42 (.agg #[(.bool false), (.int .u32 0), (.int .u32 0), (.bool false)]) 16 rfl Try.underlying39 info42 rfl (by decide) (by omega) u7 x7_1 (⟨true, t234, 0, false⟩ : S42) [.bool true, .int .u32 t234, .int .u32 0, .bool false] (fun k_ => some k_ ≠ (u8 : Value).ownBlock) (fun _ => False) rfl rfl ?aP (fun _ hk => hk.elim) ?aF ?aO ?aB ?aS ?aL ?_; (case aP => exact k42_mkM _ _ _ (⟨true, t234, 0, false⟩ : S42)); (case aB => exact (by repeat (first | (with_reducible first | exact HB.out | apply below_alloc | apply pw_below_drewN | apply below_drew1 | refine below_set ?_ (IsS54.ge HI195.out) | refine below_set ?_ (IsS54.ge HI199.out)) | exact HB.out))); (case aF => exact (fun k_ hk => Kd.fresh' (Kd.R_lt (by (with_reducible repeat (first | apply Kd.R_alloc | apply Kd.R_drewN | apply Kd.R_drew)); exact HO_8.out)) k_ hk)); (case aO => exact (by (with_reducible repeat (first | apply Kd.R_alloc | apply Kd.R_drewN | apply Kd.R_drew)); exact HO_7.out)); (case aS => exact (below_size (by repeat (first | (with_reducible first | exact HB.out | apply below_alloc | apply pw_below_drewN | apply below_drew1 | refine below_set ?_ (IsS54.ge HI195.out) | refine below_set ?_ (IsS54.ge HI199.out)) | exact HB.out)))); (case aL => have := LMc42.out; omega); intro v241 w45 ho hb hg hat; rw [← Ny240.out] at ho; have n0_ := Aside0.mk (Kd.R_after (ok := (fun _ => True)) (by (with_reducible repeat (first | apply Kd.R_alloc | apply Kd.R_drewN | apply Kd.R_drew)); exact Kd.R_mono HO_8.out (fun _ hk => ⟨trivial, hk⟩)) hg hat); have n1_ := Aside0.mk (IsS54.grown (by repeat (first | (with_reducible first | exact HI195.out | apply IsS54.alloc | apply IsS54.drewN | apply IsS54.drew | apply IsS54.set_0 | apply IsS54.set_1 | apply IsS54.set_2) | exact HI195.out)) hg (IsS54.own_ne HI195.out HO_7.out (by decide))); have n2_ := Aside0.mk (IsS54.grown (by repeat (first | (with_reducible first | exact HI199.out | apply IsS54.alloc | apply IsS54.drewN | apply IsS54.drew | apply IsS54.set_0 | apply IsS54.set_1 | apply IsS54.set_2) | exact HI199.out)) hg (IsS54.own_ne HI199.out HO_7.out (by decide))); have n3_ := Aside0.mk (hb); have n4_ := Aside0.mk (ho); clear HO_8; clear HI195; clear HI199; clear HB; clear HO_7; have HO_8 := n0_; have HI195 := n1_; have HI199 := n2_; have HB := n3_; have HO242 := n4_; clear n0_ n1_ n2_ n3_ n4_; clear ho hb hg hat))
                 go_meet
                 case rel => exact ⟨_, (y240), (x8_1), (t237), (t238), (t239), (x200000_1), (x200001_1), (x200002_1), H', ⟨by have := HK1.out; have := HJ12.out; have := HJ22.out; first | omega | exact Nat.le_refl _⟩, ⟨by (with_reducible repeat (first | apply Kd.R_alloc | apply Kd.R_drewN | apply Kd.R_drew)); exact HO242.out⟩, ⟨by (with_reducible repeat (first | apply Kd.R_alloc | apply Kd.R_drewN | apply Kd.R_drew)); exact Kd.R_mono HO_8.out (fun _ hk => hk.2)⟩, ⟨by repeat (first | (with_reducible first | exact HI195.out | apply IsS54.alloc | apply IsS54.drewN | apply IsS54.drew | apply IsS54.set_0 | apply IsS54.set_1 | apply IsS54.set_2) | exact HI195.out)⟩, ⟨by repeat (first | (with_reducible first | exact HI199.out | apply IsS54.alloc | apply IsS54.drewN | apply IsS54.drew | apply IsS54.set_0 | apply IsS54.set_1 | apply IsS54.set_2) | exact HI199.out)⟩, ⟨by repeat (first | (with_reducible first | exact HB.out | apply below_alloc | apply pw_below_drewN | apply below_drew1 | refine below_set ?_ (IsS54.ge HI195.out) | refine below_set ?_ (IsS54.ge HI199.out)) | exact HB.out)⟩⟩
               ·
                rw [if_neg c42] at H
                exact absurd H (by simp)
              ·
               replace c40 := Bool.eq_false_iff.mpr c40
               subst c40
               have H1 : (lw16_CreditMeets.j3 kj22 l1 x7_1 x8_1 x9_1 t231 t232 t233 x200000_1 x200001_1 x200002_1) = some r := by rw [if_neg (show ¬ (false = true) by decide)] at H; exact H
               clear H
               have H := H1
               clear H1
               as_aux_lemma =>
                have H' := Aside0.mk H
                clear H
                go_wp2_with (first | ((with_reducible refine gate_callee (f := 18) rfl ?_); refine goesL_ (some 113) rfl rfl Try.func18 (by kernel_rfl) rfl #[.pointer (some ⟨g195, 0, none⟩)] rfl (by (try simp only [List.map_toArray, List.map_cons, List.map_nil]); first | done | rfl | (simp only [List.length_drop, List.length_take]; rfl)) ?_; (with_reducible refine (cr_Dry.calls g195 x196000_1 x196001_1 x196002_1 t229 false t231 t232 t233 w _ ?side1 ?side2 A39.out).mono ?_); (case side1 => repeat (first | (with_reducible first | exact HI195.out | apply IsS54.alloc | apply IsS54.drewN | apply IsS54.drew | apply IsS54.set_0 | apply IsS54.set_1 | apply IsS54.set_2) | exact HI195.out)); (case side2 => repeat (first | (with_reducible first | exact HB.out | apply below_alloc | apply pw_below_drewN | apply below_drew1 | refine below_set ?_ (IsS54.ge HI195.out) | refine below_set ?_ (IsS54.ge HI199.out)) | exact HB.out)); rintro e w46 ⟨rfl, hi, hb, hk⟩; refine ⟨_, rfl, ?_⟩; have n0_ := Aside0.mk (Kd.R_mono (Kd.R_keep (IsS54.apart (show IsS54 w _ g195 x196000_1 x196001_1 x196002_1 from by repeat (first | (with_reducible first | exact HI195.out | apply IsS54.alloc | apply IsS54.drewN | apply IsS54.drew | apply IsS54.set_0 | apply IsS54.set_1 | apply IsS54.set_2) | exact HI195.out)) (by (with_reducible repeat (first | apply Kd.R_alloc | apply Kd.R_drewN | apply Kd.R_drew)); exact HO_7.out) (by decide)) hk (fun _ h => h.2)) (fun _ h => h.1)); have n1_ := Aside0.mk (Kd.R_mono (Kd.R_keep (IsS54.apart (show IsS54 w _ g195 x196000_1 x196001_1 x196002_1 from by repeat (first | (with_reducible first | exact HI195.out | apply IsS54.alloc | apply IsS54.drewN | apply IsS54.drew | apply IsS54.set_0 | apply IsS54.set_1 | apply IsS54.set_2) | exact HI195.out)) (by (with_reducible repeat (first | apply Kd.R_alloc | apply Kd.R_drewN | apply Kd.R_drew)); exact HO_8.out) (by decide)) hk (fun _ h => h.2)) (fun _ h => h.1)); have n2_ := Aside0.mk (IsS54.beside (show IsS54 w _ g199 x200000_1 x200001_1 x200002_1 from by repeat (first | (with_reducible first | exact HI199.out | apply IsS54.alloc | apply IsS54.drewN | apply IsS54.drew | apply IsS54.set_0 | apply IsS54.set_1 | apply IsS54.set_2) | exact HI199.out)) hk NS199_195.out); have n3_ := Aside0.mk (hb); have n4_ := Aside0.mk (hi); clear HO_7; clear HO_8; clear HI199; clear HB; clear HI195; have HO_7 := n0_; have HO_8 := n1_; have HI199 := n2_; have HB := n3_; have HI195 := n4_; clear n0_ n1_ n2_ n3_ n4_; (try clear hb); (try clear hb2); (try clear hk); (try clear hi); (try clear hgw)))
                go_meet
                case rel => exact ⟨_, (x7_1), (x8_1), (t231), (t232), (t233), (x200000_1), (x200001_1), (x200002_1), H', ⟨by have := HK1.out; have := HJ12.out; have := HJ22.out; first | omega | exact Nat.le_refl _⟩, ⟨by (with_reducible repeat (first | apply Kd.R_alloc | apply Kd.R_drewN | apply Kd.R_drew)); exact HO_7.out⟩, ⟨by (with_reducible repeat (first | apply Kd.R_alloc | apply Kd.R_drewN | apply Kd.R_drew)); exact HO_8.out⟩, ⟨by repeat (first | (with_reducible first | exact HI195.out | apply IsS54.alloc | apply IsS54.drewN | apply IsS54.drew | apply IsS54.set_0 | apply IsS54.set_1 | apply IsS54.set_2) | exact HI195.out)⟩, ⟨by repeat (first | (with_reducible first | exact HI199.out | apply IsS54.alloc | apply IsS54.drewN | apply IsS54.drew | apply IsS54.set_0 | apply IsS54.set_1 | apply IsS54.set_2) | exact HI199.out)⟩, ⟨by repeat (first | (with_reducible first | exact HB.out | apply below_alloc | apply pw_below_drewN | apply below_drew1 | refine below_set ?_ (IsS54.ge HI195.out) | refine below_set ?_ (IsS54.ge HI199.out)) | exact HB.out)⟩⟩
             ·
              rw [if_neg c38] at H
              have c38b0 : ((Int.tmod (rd l1 x9_1) 8) == 5) = false := beq_eq_false_iff_ne.mpr c38
              have c38b1 : ((Int.tmod (rd l1 x9_1) 8) != 5) = true := bne_iff_ne.mpr c38
              by_cases c47 : (Int.tmod (rd l1 x9_1) 8) = 6
              ·
               rw [if_pos c47] at H
               have c47b0 : ((Int.tmod (rd l1 x9_1) 8) == 6) = true := beq_iff_eq.mpr c47
               have c47b1 : ((Int.tmod (rd l1 x9_1) 8) != 6) = false := bne_eq_false_iff_eq.mpr c47
               clear c47
               by_cases c48 : (x7_1.length : Int) > 0
               ·
                rw [if_pos c48] at H
                have c48b0 : decide (0 < (x7_1.length : Int)) = true := decide_eq_true c48
                have c48b1 : decide (0 < x7_1.length) = true := decide_eq_true (by omega)
                clear c48
                by_cases c49 : 0 < (x7_1.length : Int)
                ·
                 rw [if_pos c49] at H
                 have c49b0 : decide (0 < (x7_1.length : Int)) = true := decide_eq_true c49
                 have c49b1 : decide (0 < x7_1.length) = true := decide_eq_true (by omega)
                 clear c49
                 replace H := Option.bind_eq_some_iff.mp H
                 obtain ⟨⟨t244, t245, t246, t247⟩, A500, H⟩ := H
                 replace H : (if t244 = true then ((some (([] : List (S42)) : List (S42))).bind fun y248 => (if 1 ≤ (x7_1.length : Int) then ((some (x7_1.drop 1 : List (S42))).bind fun y251 => (if y248.length + y251.length < 8796093022208 then (lw16_CreditMeets.j3 kj22 l1 (y248 ++ y251) x8_1 x9_1 x196000_1 x196001_1 x196002_1 t245 t246 t247) else (none))) else (none))) else (some false)) = some r := H
                 have A50 := Aside0.mk A500
                 clear A500
                 by_cases c51 : t244 = true
                 ·
                  subst c51
                  have H1 : ((some (([] : List (S42)) : List (S42))).bind fun y248 => (if 1 ≤ (x7_1.length : Int) then ((some (x7_1.drop 1 : List (S42))).bind fun y251 => (if y248.length + y251.length < 8796093022208 then (lw16_CreditMeets.j3 kj22 l1 (y248 ++ y251) x8_1 x9_1 x196000_1 x196001_1 x196002_1 t245 t246 t247) else (none))) else (none))) = some r := by rw [if_pos rfl] at H; exact H
                  clear H
                  have H := H1
                  clear H1
                  obtain ⟨y248, hy248⟩ : ∃ y_ : List (S42), y_ = (([] : List (S42))) := ⟨_, rfl⟩
                  replace H : (if 1 ≤ (x7_1.length : Int) then ((some (x7_1.drop 1 : List (S42))).bind fun y251 => (if y248.length + y251.length < 8796093022208 then (lw16_CreditMeets.j3 kj22 l1 (y248 ++ y251) x8_1 x9_1 x196000_1 x196001_1 x196002_1 t245 t246 t247) else (none))) else (none)) = some r := by first | (rw [hy248]; with_reducible exact H) | (have H2_ := (Option.bind_some _ _).symm.trans H; rw [hy248]; with_reducible exact H2_) | (have H2_ := (Option.bind_some _ _).symm.trans H; with_reducible exact H2_) | with_reducible exact H | (rw [hy248]; exact H) | exact H
                  have Ny248 := Aside0.mk hy248
                  clear hy248
                  by_cases c52 : 1 ≤ (x7_1.length : Int)
                  ·
                   rw [if_pos c52] at H
                   have c52b0 := eq_true c52
                   have c52b1 : decide (1 ≤ (x7_1.length : Int)) = true := decide_eq_true c52
                   clear c52
                   obtain ⟨y251, hy251⟩ : ∃ y_ : List (S42), y_ = (x7_1.drop 1) := ⟨_, rfl⟩
                   replace H : (if y248.length + y251.length < 8796093022208 then (lw16_CreditMeets.j3 kj22 l1 (y248 ++ y251) x8_1 x9_1 x196000_1 x196001_1 x196002_1 t245 t246 t247) else (none)) = some r := by first | (rw [hy251]; with_reducible exact H) | (have H2_ := (Option.bind_some _ _).symm.trans H; rw [hy251]; with_reducible exact H2_) | (have H2_ := (Option.bind_some _ _).symm.trans H; with_reducible exact H2_) | with_reducible exact H | (rw [hy251]; exact H) | exact H
                   have Ny251 := Aside0.mk hy251
                   clear hy251
                   by_cases c53 : y248.length + y251.length < 8796093022208
                   ·
                    rw [if_pos c53] at H
                    have LMc53 := Aside0.mk c53
                    clear c53
                    obtain ⟨y255, hy255⟩ : ∃ y_ : List (S42), y_ = (y248 ++ y251) := ⟨_, rfl⟩
                    replace H : (lw16_CreditMeets.j3 kj22 l1 y255 x8_1 x9_1 x196000_1 x196001_1 x196002_1 t245 t246 t247) = some r := by first | (rw [hy255]; with_reducible exact H) | (have H2_ := (Option.bind_some _ _).symm.trans H; rw [hy255]; with_reducible exact H2_) | (have H2_ := (Option.bind_some _ _).symm.trans H; with_reducible exact H2_) | with_reducible exact H | (rw [hy255]; exact H) | exact H
                    have Ny255 := Aside0.mk hy255
                    clear hy255
                    as_aux_lemma =>
                     have H' := Aside0.mk H
                     clear H
                     obtain ⟨Ao54, co54, eo54⟩ := Kd.R_slice HO_7.out
                     subst eo54
                     have p243 : 0 ≤ (0 : Int) := (by omega)
                     have q243 : 0 < (x7_1.length : Int) := of_decide_eq_true (by first | (with_reducible assumption) | assumption)
                     obtain ⟨ad243, e243, hx243_0, hx243_1, hx243_2, hx243_3⟩ := at_T42 (Kd.R_reads' HO_7.out).2.2 0 p243 q243
                     cases e243
                     have qi243 : (0 < x7_1.length) = True := eq_true (by omega)
                     (try rw [show ((0 : Int)).toNat = 0 from rfl] at hx243_0)
                     (try rw [show 0 * 4 = 0 from rfl] at hx243_0)
                     (try rw [Addr.add_zero'] at hx243_0)
                     (try rw [show ((0 : Int)).toNat = 0 from rfl] at hx243_1)
                     (try rw [show 0 * 4 = 0 from rfl] at hx243_1)
                     (try rw [Addr.add_zero'] at hx243_1)
                     (try rw [show ((0 : Int)).toNat = 0 from rfl] at hx243_2)
                     (try rw [show 0 * 4 = 0 from rfl] at hx243_2)
                     (try rw [Addr.add_zero'] at hx243_2)
                     (try rw [show ((0 : Int)).toNat = 0 from rfl] at hx243_3)
                     (try rw [show 0 * 4 = 0 from rfl] at hx243_3)
                     (try rw [Addr.add_zero'] at hx243_3)
                     replace p243 := eq_true p243
                     replace q243 := eq_true q243
                     go_wp2_with (first | ((with_reducible refine gate_callee (f := 19) rfl ?_); refine goesL_ (some 137) rfl rfl Try.func19 (by kernel_rfl) rfl #[.pointer (some ⟨g199, 0, none⟩), .agg #[.bool ((rd_T42 x7_1 0).f0), .int .u32 ((rd_T42 x7_1 0).f1), .int .u32 ((rd_T42 x7_1 0).f2), .bool ((rd_T42 x7_1 0).f3)]] rfl (by (try simp only [List.map_toArray, List.map_cons, List.map_nil]); first | done | rfl | (simp only [List.length_drop, List.length_take]; rfl)) ?_; (with_reducible refine (lw16_lands.calls g199 x200000_1 x200001_1 x200002_1 ((rd_T42 x7_1 0).f0) ((rd_T42 x7_1 0).f1) ((rd_T42 x7_1 0).f2) ((rd_T42 x7_1 0).f3) true t245 t246 t247 w _ ?side1 ?side2 A50.out).mono ?_); (case side1 => repeat (first | (with_reducible first | exact HI199.out | apply IsS54.alloc | apply IsS54.drewN | apply IsS54.drew | apply IsS54.set_0 | apply IsS54.set_1 | apply IsS54.set_2) | exact HI199.out)); (case side2 => repeat (first | (with_reducible first | exact HB.out | apply below_alloc | apply pw_below_drewN | apply below_drew1 | refine below_set ?_ (IsS54.ge HI195.out) | refine below_set ?_ (IsS54.ge HI199.out)) | exact HB.out)); rintro e w55 ⟨rfl, hi, hb, hk⟩; refine ⟨_, rfl, ?_⟩; have n0_ := Aside0.mk (Kd.R_mono (Kd.R_keep (IsS54.apart (show IsS54 w _ g199 x200000_1 x200001_1 x200002_1 from by repeat (first | (with_reducible first | exact HI199.out | apply IsS54.alloc | apply IsS54.drewN | apply IsS54.drew | apply IsS54.set_0 | apply IsS54.set_1 | apply IsS54.set_2) | exact HI199.out)) (by (with_reducible repeat (first | apply Kd.R_alloc | apply Kd.R_drewN | apply Kd.R_drew)); exact HO_7.out) (by decide)) hk (fun _ h => h.2)) (fun _ h => h.1)); have n1_ := Aside0.mk (Kd.R_mono (Kd.R_keep (IsS54.apart (show IsS54 w _ g199 x200000_1 x200001_1 x200002_1 from by repeat (first | (with_reducible first | exact HI199.out | apply IsS54.alloc | apply IsS54.drewN | apply IsS54.drew | apply IsS54.set_0 | apply IsS54.set_1 | apply IsS54.set_2) | exact HI199.out)) (by (with_reducible repeat (first | apply Kd.R_alloc | apply Kd.R_drewN | apply Kd.R_drew)); exact HO_8.out) (by decide)) hk (fun _ h => h.2)) (fun _ h => h.1)); have n2_ := Aside0.mk (IsS54.beside (show IsS54 w _ g195 x196000_1 x196001_1 x196002_1 from by repeat (first | (with_reducible first | exact HI195.out | apply IsS54.alloc | apply IsS54.drewN | apply IsS54.drew | apply IsS54.set_0 | apply IsS54.set_1 | apply IsS54.set_2) | exact HI195.out)) hk NS195_199.out); have n3_ := Aside0.mk (hb); have n4_ := Aside0.mk (hi); clear HO_7; clear HO_8; clear HI195; clear HB; clear HI199; have HO_7 := n0_; have HO_8 := n1_; have HI195 := n2_; have HB := n3_; have HI199 := n4_; clear n0_ n1_ n2_ n3_ n4_; (try clear hb); (try clear hb2); (try clear hk); (try clear hi); (try clear hgw)) | ((with_reducible refine gate_dst (N := 139) rfl ?_); refine Kd.R_lit k42 _ 42 ?hg (N := 139) ?hd (xs := ([] : List (S42))) (inner := []) (ok := fun _ => True) (okp := fun _ => True) ?hr ?hp (fun _ hk => hk) trivial (Below.refl _ _) (Nat.le_refl _) (by simp) ?_; (case hd => rfl); (case hg => rfl); (case hr => first | (go_simp; done) | (go_simp; rfl)); (case hp => exact (Reps.none _ _)); intro v249 w56 ho57 hb hg_ hnew_; clear hg_ hnew_; (first | rw [← Ny248.out] at ho57 | (simp only [Int.reduceToNat] at ho57; rw [← Ny248.out] at ho57)); have n0_ := Aside0.mk (Kd.R_elder' (by (with_reducible repeat (first | apply Kd.R_alloc | apply Kd.R_drewN | apply Kd.R_drew)); exact HO_7.out) (Kd.R_base ho57) hb); have n1_ := Aside0.mk (Kd.R_elder' (by (with_reducible repeat (first | apply Kd.R_alloc | apply Kd.R_drewN | apply Kd.R_drew)); exact HO_8.out) (Kd.R_base ho57) hb); have n2_ := Aside0.mk (Kd.R_lower (Kd.R_new' (Kd.R_new' ho57 (Kd.R_lt (by (with_reducible repeat (first | apply Kd.R_alloc | apply Kd.R_drewN | apply Kd.R_drew)); exact HO_7.out))) (Kd.R_lt (by (with_reducible repeat (first | apply Kd.R_alloc | apply Kd.R_drewN | apply Kd.R_drew)); exact HO_8.out))) (below_size (by repeat (first | (with_reducible first | exact HB.out | apply below_alloc | apply pw_below_drewN | apply below_drew1 | refine below_set ?_ (IsS54.ge HI195.out) | refine below_set ?_ (IsS54.ge HI199.out)) | exact HB.out)))); have n3_ := Aside0.mk (IsS54.below (by repeat (first | (with_reducible first | exact HI195.out | apply IsS54.alloc | apply IsS54.drewN | apply IsS54.drew | apply IsS54.set_0 | apply IsS54.set_1 | apply IsS54.set_2) | exact HI195.out)) hb); have n4_ := Aside0.mk (IsS54.below (by repeat (first | (with_reducible first | exact HI199.out | apply IsS54.alloc | apply IsS54.drewN | apply IsS54.drew | apply IsS54.set_0 | apply IsS54.set_1 | apply IsS54.set_2) | exact HI199.out)) hb); have n5_ := Aside0.mk (below_step (by repeat (first | (with_reducible first | exact HB.out | apply below_alloc | apply pw_below_drewN | apply below_drew1 | refine below_set ?_ (IsS54.ge HI195.out) | refine below_set ?_ (IsS54.ge HI199.out)) | exact HB.out)) hb); clear HO_7; clear HO_8; clear HI195; clear HI199; clear HB; have HO_7 := n0_; have HO_8 := n1_; have HO250 := n2_; have HI195 := n3_; have HI199 := n4_; have HB := n5_; clear n0_ n1_ n2_ n3_ n4_ n5_; clear hb ho57; have q58 : (1 : Int) ≤ ((x7_1.length : Int) : Int) := of_decide_eq_true (by first | (with_reducible assumption) | assumption); obtain ⟨i058, hi058, _, hsz58, _⟩ := info_parts info42; have hroom58 : x7_1.length ≤ co54 := (Kd.R_reads' HO_7.out).2.1; have hC58 : Kd.C k42 _ (some ad243) x7_1.length x7_1 := (Kd.R_reads' HO_7.out).2.2; have hcut58 := cut_from (P := Try.prog) 39 42 .i64 Try.underlying39 hi058 4 hsz58 (some ad243) x7_1.length co54 1 (by omega) q58; have hr58 := Kd.C_drop (m := (1 : Int).toNat) (c := co54) hC58 (by omega) hroom58; obtain ⟨A58, hA58⟩ : ∃ A1, A1 = (if co54 = (1 : Int).toNat then (some ad243) else ((some ad243) : Option Addr).map (·.add ((1 : Int).toNat * 4))) := ⟨_, rfl⟩; obtain ⟨c58, hc58⟩ : ∃ c1, c1 = co54 - (1 : Int).toNat := ⟨_, rfl⟩; have hy58 : y251.length = x7_1.length - (1 : Int).toNat := (by rw [Ny251.out, List.length_drop] <;> omega); rw [show (x7_1).drop (1 : Int).toNat = y251 from Ny251.out.symm] at hr58; replace hr58 : Kd.C k42 _ A58 y251.length y251 := (by rw [hA58]; exact hr58); rw [← hy58, ← hA58, ← hc58] at hcut58; have HR254 := Aside0.mk hr58; have HC254 := Aside0.mk (show y251.length ≤ c58 from by rw [hy58, hc58]; exact Nat.sub_le_sub_right hroom58 _); clear hr58 hC58 hroom58 hi058 hsz58 hc58; have KY58 := Aside0.mk hy58; have KA58 := Aside0.mk hA58; clear hy58 hA58; have KL58 := Aside0.mk (show 1 ≤ x7_1.length from by omega); replace q58 := eq_true q58) | ((with_reducible refine gate_builtin (b := .append) (xs := #[.tmp 139, .tmp 141]) rfl ?_); at_builtin; refine Kd.R_append_rows k42 (w0 := w) w.heap.size rfl (.tmp 139) (.tmp 141) 39 42 (.agg #[(.bool false), (.int .u32 0), (.int .u32 0), (.bool false)]) 16 rfl Try.underlying39 info42 rfl (by decide) (by omega) v249 y248 y251 _ _ _ (fun k_ => some k_ ≠ (.slice (some ad243) x7_1.length co54 : Value).ownBlock ∧ some k_ ≠ (u8 : Value).ownBlock) (fun _ => False) rfl rfl ?aO ?aR (fun _ _ h => h) (fun _ h => h.elim) ?aF ?aB ?aS ?aL ?_; (case aR => repeat (first | exact (by repeat (first | (with_reducible exact HR254.out) | (with_reducible refine Kd.C_alloc ?_ _) | (with_reducible refine Kd.C_drewN ?_ _) | (with_reducible refine Kd.C_drew ?_) | exact HR254.out)) | (with_reducible refine Kd.C_alloc ?_ _) | (with_reducible refine Kd.C_drewN ?_ _) | (with_reducible refine Kd.C_drew ?_))); (case aB => exact (by repeat (first | (with_reducible first | exact HB.out | apply below_alloc | apply pw_below_drewN | apply below_drew1 | refine below_set ?_ (IsS54.ge HI195.out) | refine below_set ?_ (IsS54.ge HI199.out)) | exact HB.out))); (case aF => exact (fun k_ hk => ⟨Kd.fresh' (Kd.R_lt (by (with_reducible repeat (first | apply Kd.R_alloc | apply Kd.R_drewN | apply Kd.R_drew)); exact HO_7.out)) k_ hk, Kd.fresh' (Kd.R_lt (by (with_reducible repeat (first | apply Kd.R_alloc | apply Kd.R_drewN | apply Kd.R_drew)); exact HO_8.out)) k_ hk⟩)); (case aO => exact (by (with_reducible repeat (first | apply Kd.R_alloc | apply Kd.R_drewN | apply Kd.R_drew)); exact Kd.R_mono HO250.out (fun _ hk => ⟨hk.1.2, hk.2⟩))); (case aS => exact (below_size (by repeat (first | (with_reducible first | exact HB.out | apply below_alloc | apply pw_below_drewN | apply below_drew1 | refine below_set ?_ (IsS54.ge HI195.out) | refine below_set ?_ (IsS54.ge HI199.out)) | exact HB.out)))); (case aL => have := LMc53.out; omega); intro v256 w59 ho hb hg hat; rw [← Ny255.out] at ho; have n0_ := Aside0.mk (Kd.R_after (ok := (fun k_ => some k_ ≠ (u8 : Value).ownBlock)) (by (with_reducible repeat (first | apply Kd.R_alloc | apply Kd.R_drewN | apply Kd.R_drew)); exact HO_7.out) hg hat); have n1_ := Aside0.mk (Kd.R_after (ok := (fun k_ => some k_ ≠ (.slice (some ad243) x7_1.length co54 : Value).ownBlock)) (by (with_reducible repeat (first | apply Kd.R_alloc | apply Kd.R_drewN | apply Kd.R_drew)); exact HO_8.out) hg hat); have n2_ := Aside0.mk (IsS54.grown (by repeat (first | (with_reducible first | exact HI195.out | apply IsS54.alloc | apply IsS54.drewN | apply IsS54.drew | apply IsS54.set_0 | apply IsS54.set_1 | apply IsS54.set_2) | exact HI195.out)) hg (IsS54.own_ne HI195.out HO250.out (by decide))); have n3_ := Aside0.mk (IsS54.grown (by repeat (first | (with_reducible first | exact HI199.out | apply IsS54.alloc | apply IsS54.drewN | apply IsS54.drew | apply IsS54.set_0 | apply IsS54.set_1 | apply IsS54.set_2) | exact HI199.out)) hg (IsS54.own_ne HI199.out HO250.out (by decide))); have n4_ := Aside0.mk (hb); have n5_ := Aside0.mk ((show Kd.C k42 w59 A58 y251.length y251 from by rw [Ny251.out, KA58.out]; exact Kd.C_drop (m := 1) (c := co54) ((Kd.R_reads' (Kd.R_after (ok := (fun k_ => some k_ ≠ (u8 : Value).ownBlock)) (by (with_reducible repeat (first | apply Kd.R_alloc | apply Kd.R_drewN | apply Kd.R_drew)); exact HO_7.out) hg hat)).2.2) KL58.out ((Kd.R_reads' (Kd.R_after (ok := (fun k_ => some k_ ≠ (u8 : Value).ownBlock)) (by (with_reducible repeat (first | apply Kd.R_alloc | apply Kd.R_drewN | apply Kd.R_drew)); exact HO_7.out) hg hat)).2.1))); have n6_ := Aside0.mk (ho); clear HO_7; clear HO_8; clear HI195; clear HI199; clear HB; clear HR254; clear HO250; have HO_7 := n0_; have HO_8 := n1_; have HI195 := n2_; have HI199 := n3_; have HB := n4_; have HR254 := n5_; have HO257 := n6_; clear n0_ n1_ n2_ n3_ n4_ n5_ n6_; clear ho hb hg hat))
                     go_meet
                     case rel => exact ⟨_, (y255), (x8_1), (x196000_1), (x196001_1), (x196002_1), (t245), (t246), (t247), H', ⟨by have := HK1.out; have := HJ12.out; have := HJ22.out; first | omega | exact Nat.le_refl _⟩, ⟨by (with_reducible repeat (first | apply Kd.R_alloc | apply Kd.R_drewN | apply Kd.R_drew)); exact Kd.R_mono HO257.out (fun _ hk => hk.2)⟩, ⟨by (with_reducible repeat (first | apply Kd.R_alloc | apply Kd.R_drewN | apply Kd.R_drew)); exact Kd.R_mono HO_8.out (fun _ hk => hk.2)⟩, ⟨by repeat (first | (with_reducible first | exact HI195.out | apply IsS54.alloc | apply IsS54.drewN | apply IsS54.drew | apply IsS54.set_0 | apply IsS54.set_1 | apply IsS54.set_2) | exact HI195.out)⟩, ⟨by repeat (first | (with_reducible first | exact HI199.out | apply IsS54.alloc | apply IsS54.drewN | apply IsS54.drew | apply IsS54.set_0 | apply IsS54.set_1 | apply IsS54.set_2) | exact HI199.out)⟩, ⟨by repeat (first | (with_reducible first | exact HB.out | apply below_alloc | apply pw_below_drewN | apply below_drew1 | refine below_set ?_ (IsS54.ge HI195.out) | refine below_set ?_ (IsS54.ge HI199.out)) | exact HB.out)⟩⟩
                   ·
                    rw [if_neg c53] at H
                    exact absurd H (by simp)
                  ·
                   rw [if_neg c52] at H
                   exact absurd H (by simp)
                 ·
                  replace c51 := Bool.eq_false_iff.mpr c51
                  subst c51
                  have H1 : (some false) = some r := by rw [if_neg (show ¬ (false = true) by decide)] at H; exact H
                  clear H
                  have H := H1
                  clear H1
                  as_aux_lemma =>
                   obtain rfl := Option.some.inj H
                   obtain ⟨Ao60, co60, eo60⟩ := Kd.R_slice HO_7.out
                   subst eo60
                   have p243 : 0 ≤ (0 : Int) := (by omega)
                   have q243 : 0 < (x7_1.length : Int) := of_decide_eq_true (by first | (with_reducible assumption) | assumption)
                   obtain ⟨ad243, e243, hx243_0, hx243_1, hx243_2, hx243_3⟩ := at_T42 (Kd.R_reads' HO_7.out).2.2 0 p243 q243
                   cases e243
                   have qi243 : (0 < x7_1.length) = True := eq_true (by omega)
                   (try rw [show ((0 : Int)).toNat = 0 from rfl] at hx243_0)
                   (try rw [show 0 * 4 = 0 from rfl] at hx243_0)
                   (try rw [Addr.add_zero'] at hx243_0)
                   (try rw [show ((0 : Int)).toNat = 0 from rfl] at hx243_1)
                   (try rw [show 0 * 4 = 0 from rfl] at hx243_1)
                   (try rw [Addr.add_zero'] at hx243_1)
                   (try rw [show ((0 : Int)).toNat = 0 from rfl] at hx243_2)
                   (try rw [show 0 * 4 = 0 from rfl] at hx243_2)
                   (try rw [Addr.add_zero'] at hx243_2)
                   (try rw [show ((0 : Int)).toNat = 0 from rfl] at hx243_3)
                   (try rw [show 0 * 4 = 0 from rfl] at hx243_3)
                   (try rw [Addr.add_zero'] at hx243_3)
                   replace p243 := eq_true p243
                   replace q243 := eq_true q243
                   go_wp2_with (first | ((with_reducible refine gate_callee (f := 19) rfl ?_); refine goesL_ (some 137) rfl rfl Try.func19 (by kernel_rfl) rfl #[.pointer (some ⟨g199, 0, none⟩), .agg #[.bool ((rd_T42 x7_1 0).f0), .int .u32 ((rd_T42 x7_1 0).f1), .int .u32 ((rd_T42 x7_1 0).f2), .bool ((rd_T42 x7_1 0).f3)]] rfl (by (try simp only [List.map_toArray, List.map_cons, List.map_nil]); first | done | rfl | (simp only [List.length_drop, List.length_take]; rfl)) ?_; (with_reducible refine (lw16_lands.calls g199 x200000_1 x200001_1 x200002_1 ((rd_T42 x7_1 0).f0) ((rd_T42 x7_1 0).f1) ((rd_T42 x7_1 0).f2) ((rd_T42 x7_1 0).f3) false t245 t246 t247 w _ ?side1 ?side2 A50.out).mono ?_); (case side1 => repeat (first | (with_reducible first | exact HI199.out | apply IsS54.alloc | apply IsS54.drewN | apply IsS54.drew | apply IsS54.set_0 | apply IsS54.set_1 | apply IsS54.set_2) | exact HI199.out)); (case side2 => repeat (first | (with_reducible first | exact HB.out | apply below_alloc | apply pw_below_drewN | apply below_drew1 | refine below_set ?_ (IsS54.ge HI195.out) | refine below_set ?_ (IsS54.ge HI199.out)) | exact HB.out)); rintro e w61 ⟨rfl, hi, hb, hk⟩; refine ⟨_, rfl, ?_⟩; have n0_ := Aside0.mk (Kd.R_mono (Kd.R_keep (IsS54.apart (show IsS54 w _ g199 x200000_1 x200001_1 x200002_1 from by repeat (first | (with_reducible first | exact HI199.out | apply IsS54.alloc | apply IsS54.drewN | apply IsS54.drew | apply IsS54.set_0 | apply IsS54.set_1 | apply IsS54.set_2) | exact HI199.out)) (by (with_reducible repeat (first | apply Kd.R_alloc | apply Kd.R_drewN | apply Kd.R_drew)); exact HO_7.out) (by decide)) hk (fun _ h => h.2)) (fun _ h => h.1)); have n1_ := Aside0.mk (Kd.R_mono (Kd.R_keep (IsS54.apart (show IsS54 w _ g199 x200000_1 x200001_1 x200002_1 from by repeat (first | (with_reducible first | exact HI199.out | apply IsS54.alloc | apply IsS54.drewN | apply IsS54.drew | apply IsS54.set_0 | apply IsS54.set_1 | apply IsS54.set_2) | exact HI199.out)) (by (with_reducible repeat (first | apply Kd.R_alloc | apply Kd.R_drewN | apply Kd.R_drew)); exact HO_8.out) (by decide)) hk (fun _ h => h.2)) (fun _ h => h.1)); have n2_ := Aside0.mk (IsS54.beside (show IsS54 w _ g195 x196000_1 x196001_1 x196002_1 from by repeat (first | (with_reducible first | exact HI195.out | apply IsS54.alloc | apply IsS54.drewN | apply IsS54.drew | apply IsS54.set_0 | apply IsS54.set_1 | apply IsS54.set_2) | exact HI195.out)) hk NS195_199.out); have n3_ := Aside0.mk (hb); have n4_ := Aside0.mk (hi); clear HO_7; clear HO_8; clear HI195; clear HB; clear HI199; have HO_7 := n0_; have HO_8 := n1_; have HI195 := n2_; have HB := n3_; have HI199 := n4_; clear n0_ n1_ n2_ n3_ n4_; (try clear hb); (try clear hb2); (try clear hk); (try clear hi); (try clear hgw)))
                   go_ret
                   exact ⟨by first | rfl | (simp [errW_none, errW_some] <;> rfl) | (simp [*, errW_none, errW_some] <;> rfl), by repeat (first | (with_reducible first | exact HB.out | apply below_alloc | apply pw_below_drewN | apply below_drew1 | refine below_set ?_ (IsS54.ge HI195.out) | refine below_set ?_ (IsS54.ge HI199.out)) | exact HB.out)⟩
                ·
                 rw [if_neg c49] at H
                 exact absurd H (by simp)
               ·
                rw [if_neg c48] at H
                have c48b0 : decide (0 < (x7_1.length : Int)) = false := decide_eq_false c48
                have c48b1 : decide (0 < x7_1.length) = false := decide_eq_false (by omega)
                clear c48
                as_aux_lemma =>
                 have H' := Aside0.mk H
                 clear H
                 obtain ⟨Ao62, co62, eo62⟩ := Kd.R_slice HO_7.out
                 subst eo62
                 go_wp2
                 go_meet
                 case rel => exact ⟨_, (x7_1), (x8_1), (x196000_1), (x196001_1), (x196002_1), (x200000_1), (x200001_1), (x200002_1), H', ⟨by have := HK1.out; have := HJ12.out; have := HJ22.out; first | omega | exact Nat.le_refl _⟩, ⟨by (with_reducible repeat (first | apply Kd.R_alloc | apply Kd.R_drewN | apply Kd.R_drew)); exact HO_7.out⟩, ⟨by (with_reducible repeat (first | apply Kd.R_alloc | apply Kd.R_drewN | apply Kd.R_drew)); exact HO_8.out⟩, ⟨by repeat (first | (with_reducible first | exact HI195.out | apply IsS54.alloc | apply IsS54.drewN | apply IsS54.drew | apply IsS54.set_0 | apply IsS54.set_1 | apply IsS54.set_2) | exact HI195.out)⟩, ⟨by repeat (first | (with_reducible first | exact HI199.out | apply IsS54.alloc | apply IsS54.drewN | apply IsS54.drew | apply IsS54.set_0 | apply IsS54.set_1 | apply IsS54.set_2) | exact HI199.out)⟩, ⟨by repeat (first | (with_reducible first | exact HB.out | apply below_alloc | apply pw_below_drewN | apply below_drew1 | refine below_set ?_ (IsS54.ge HI195.out) | refine below_set ?_ (IsS54.ge HI199.out)) | exact HB.out)⟩⟩
              ·
               rw [if_neg c47] at H
               have c47b0 : ((Int.tmod (rd l1 x9_1) 8) == 6) = false := beq_eq_false_iff_ne.mpr c47
               have c47b1 : ((Int.tmod (rd l1 x9_1) 8) != 6) = true := bne_iff_ne.mpr c47
               by_cases c63 : (Int.tmod (rd l1 x9_1) 8) = 7
               ·
                rw [if_pos c63] at H
                have c63b0 : ((Int.tmod (rd l1 x9_1) 8) == 7) = true := beq_iff_eq.mpr c63
                have c63b1 : ((Int.tmod (rd l1 x9_1) 8) != 7) = false := bne_eq_false_iff_eq.mpr c63
                clear c63
                by_cases c64 : (x8_1.length : Int) > 0
                ·
                 rw [if_pos c64] at H
                 have c64b0 : decide (0 < (x8_1.length : Int)) = true := decide_eq_true c64
                 have c64b1 : decide (0 < x8_1.length) = true := decide_eq_true (by omega)
                 clear c64
                 by_cases c65 : 0 < (x8_1.length : Int)
                 ·
                  rw [if_pos c65] at H
                  have c65b0 : decide (0 < (x8_1.length : Int)) = true := decide_eq_true c65
                  have c65b1 : decide (0 < x8_1.length) = true := decide_eq_true (by omega)
                  clear c65
                  replace H := Option.bind_eq_some_iff.mp H
                  obtain ⟨⟨t261, t262, t263⟩, A660, H⟩ := H
                  replace H : ((some (([] : List (S42)) : List (S42))).bind fun y264 => (if 1 ≤ (x8_1.length : Int) then ((some (x8_1.drop 1 : List (S42))).bind fun y267 => (if y264.length + y267.length < 8796093022208 then (lw16_CreditMeets.j3 kj22 l1 x7_1 (y264 ++ y267) x9_1 t261 t262 t263 x200000_1 x200001_1 x200002_1) else (none))) else (none))) = some r := H
                  have A66 := Aside0.mk A660
                  clear A660
                  obtain ⟨y264, hy264⟩ : ∃ y_ : List (S42), y_ = (([] : List (S42))) := ⟨_, rfl⟩
                  replace H : (if 1 ≤ (x8_1.length : Int) then ((some (x8_1.drop 1 : List (S42))).bind fun y267 => (if y264.length + y267.length < 8796093022208 then (lw16_CreditMeets.j3 kj22 l1 x7_1 (y264 ++ y267) x9_1 t261 t262 t263 x200000_1 x200001_1 x200002_1) else (none))) else (none)) = some r := by first | (rw [hy264]; with_reducible exact H) | (have H2_ := (Option.bind_some _ _).symm.trans H; rw [hy264]; with_reducible exact H2_) | (have H2_ := (Option.bind_some _ _).symm.trans H; with_reducible exact H2_) | with_reducible exact H | (rw [hy264]; exact H) | exact H
                  have Ny264 := Aside0.mk hy264
                  clear hy264
                  by_cases c67 : 1 ≤ (x8_1.length : Int)
                  ·
                   rw [if_pos c67] at H
                   have c67b0 := eq_true c67
                   have c67b1 : decide (1 ≤ (x8_1.length : Int)) = true := decide_eq_true c67
                   clear c67
                   obtain ⟨y267, hy267⟩ : ∃ y_ : List (S42), y_ = (x8_1.drop 1) := ⟨_, rfl⟩
                   replace H : (if y264.length + y267.length < 8796093022208 then (lw16_CreditMeets.j3 kj22 l1 x7_1 (y264 ++ y267) x9_1 t261 t262 t263 x200000_1 x200001_1 x200002_1) else (none)) = some r := by first | (rw [hy267]; with_reducible exact H) | (have H2_ := (Option.bind_some _ _).symm.trans H; rw [hy267]; with_reducible exact H2_) | (have H2_ := (Option.bind_some _ _).symm.trans H; with_reducible exact H2_) | with_reducible exact H | (rw [hy267]; exact H) | exact H
                   have Ny267 := Aside0.mk hy267
                   clear hy267
                   by_cases c68 : y264.length + y267.length < 8796093022208
                   ·
                    rw [if_pos c68] at H
                    have LMc68 := Aside0.mk c68
                    clear c68
                    obtain ⟨y271, hy271⟩ : ∃ y_ : List (S42), y_ = (y264 ++ y267) := ⟨_, rfl⟩
                    replace H : (lw16_CreditMeets.j3 kj22 l1 x7_1 y271 x9_1 t261 t262 t263 x200000_1 x200001_1 x200002_1) = some r := by first | (rw [hy271]; with_reducible exact H) | (have H2_ := (Option.bind_some _ _).symm.trans H; rw [hy271]; with_reducible exact H2_) | (have H2_ := (Option.bind_some _ _).symm.trans H; with_reducible exact H2_) | with_reducible exact H | (rw [hy271]; exact H) | exact H
                    have Ny271 := Aside0.mk hy271
                    clear hy271
                    as_aux_lemma =>
                     have H' := Aside0.mk H
                     clear H
                     obtain ⟨Ao69, co69, eo69⟩ := Kd.R_slice HO_8.out
                     subst eo69
                     try go_wp2
                     have n0_ := Aside0.mk (Kd.R_drew HO_7.out)
                     have n1_ := Aside0.mk (Kd.R_drew HO_8.out)
                     have n2_ := Aside0.mk (IsS54.drew HI195.out)
                     have n3_ := Aside0.mk (IsS54.drew HI199.out)
                     have n4_ := Aside0.mk (below_drew1 HB.out)
                     clear HO_7
                     clear HO_8
                     clear HI195
                     clear HI199
                     clear HB
                     have HO_7 := n0_
                     have HO_8 := n1_
                     have HI195 := n2_
                     have HI199 := n3_
                     have HB := n4_
                     clear n0_ n1_ n2_ n3_ n4_
                     have p258 : 0 ≤ (0 : Int) := (by omega)
                     have q258 : 0 < (x8_1.length : Int) := of_decide_eq_true (by first | (with_reducible assumption) | assumption)
                     obtain ⟨ad258, e258, hx258_0, hx258_1, hx258_2, hx258_3⟩ := at_T42 (Kd.R_reads' HO_8.out).2.2 0 p258 q258
                     cases e258
                     have qi258 : (0 < x8_1.length) = True := eq_true (by omega)
                     (try rw [show ((0 : Int)).toNat = 0 from rfl] at hx258_0)
                     (try rw [show 0 * 4 = 0 from rfl] at hx258_0)
                     (try rw [Addr.add_zero'] at hx258_0)
                     (try rw [show ((0 : Int)).toNat = 0 from rfl] at hx258_1)
                     (try rw [show 0 * 4 = 0 from rfl] at hx258_1)
                     (try rw [Addr.add_zero'] at hx258_1)
                     (try rw [show ((0 : Int)).toNat = 0 from rfl] at hx258_2)
                     (try rw [show 0 * 4 = 0 from rfl] at hx258_2)
                     (try rw [Addr.add_zero'] at hx258_2)
                     (try rw [show ((0 : Int)).toNat = 0 from rfl] at hx258_3)
                     (try rw [show 0 * 4 = 0 from rfl] at hx258_3)
                     (try rw [Addr.add_zero'] at hx258_3)
                     replace p258 := eq_true p258
                     replace q258 := eq_true q258
                     have p259 : 0 ≤ (0 : Int) := (by omega)
                     have q259 : 0 < (x8_1.length : Int) := of_decide_eq_true (by first | (with_reducible assumption) | assumption)
                     obtain ⟨ad259, e259, hx259_0, hx259_1, hx259_2, hx259_3⟩ := at_T42 (Kd.R_reads' HO_8.out).2.2 0 p259 q259
                     obtain rfl : ad258 = ad259 := (by injection e259)
                     have qi259 : (0 < x8_1.length) = True := eq_true (by omega)
                     (try rw [show ((0 : Int)).toNat = 0 from rfl] at hx259_0)
                     (try rw [show 0 * 4 = 0 from rfl] at hx259_0)
                     (try rw [Addr.add_zero'] at hx259_0)
                     (try rw [show ((0 : Int)).toNat = 0 from rfl] at hx259_1)
                     (try rw [show 0 * 4 = 0 from rfl] at hx259_1)
                     (try rw [Addr.add_zero'] at hx259_1)
                     (try rw [show ((0 : Int)).toNat = 0 from rfl] at hx259_2)
                     (try rw [show 0 * 4 = 0 from rfl] at hx259_2)
                     (try rw [Addr.add_zero'] at hx259_2)
                     (try rw [show ((0 : Int)).toNat = 0 from rfl] at hx259_3)
                     (try rw [show 0 * 4 = 0 from rfl] at hx259_3)
                     (try rw [Addr.add_zero'] at hx259_3)
                     replace p259 := eq_true p259
                     replace q259 := eq_true q259
                     have p260 : 0 ≤ (0 : Int) := (by omega)
                     have q260 : 0 < (x8_1.length : Int) := of_decide_eq_true (by first | (with_reducible assumption) | assumption)
                     obtain ⟨ad260, e260, hx260_0, hx260_1, hx260_2, hx260_3⟩ := at_T42 (Kd.R_reads' HO_8.out).2.2 0 p260 q260
                     obtain rfl : ad258 = ad260 := (by injection e260)
                     have qi260 : (0 < x8_1.length) = True := eq_true (by omega)
                     (try rw [show ((0 : Int)).toNat = 0 from rfl] at hx260_0)
                     (try rw [show 0 * 4 = 0 from rfl] at hx260_0)
                     (try rw [Addr.add_zero'] at hx260_0)
                     (try rw [show ((0 : Int)).toNat = 0 from rfl] at hx260_1)
                     (try rw [show 0 * 4 = 0 from rfl] at hx260_1)
                     (try rw [Addr.add_zero'] at hx260_1)
                     (try rw [show ((0 : Int)).toNat = 0 from rfl] at hx260_2)
                     (try rw [show 0 * 4 = 0 from rfl] at hx260_2)
                     (try rw [Addr.add_zero'] at hx260_2)
                     (try rw [show ((0 : Int)).toNat = 0 from rfl] at hx260_3)
                     (try rw [show 0 * 4 = 0 from rfl] at hx260_3)
                     (try rw [Addr.add_zero'] at hx260_3)
                     replace p260 := eq_true p260
                     replace q260 := eq_true q260
                     refine start_ (n := 14) (S := fun w' => w'.cell? ad258 = some (.bool ((rd_T42 x8_1 0).f0)) ∧ w'.cell? ⟨ad258.block, ad258.off + 1, none⟩ = some (.int .u32 ((rd_T42 x8_1 0).f1)) ∧ w'.cell? ⟨ad258.block, ad258.off + 2, none⟩ = some (.int .u32 ((rd_T42 x8_1 0).f2)) ∧ w'.cell? ⟨ad258.block, ad258.off + 3, none⟩ = some (.bool ((rd_T42 x8_1 0).f3)) ∧ w'.cell? ad258 = some (.bool ((rd_T42 x8_1 0).f0)) ∧ w'.cell? ⟨ad258.block, ad258.off + 1, none⟩ = some (.int .u32 ((rd_T42 x8_1 0).f1)) ∧ w'.cell? ⟨ad258.block, ad258.off + 2, none⟩ = some (.int .u32 ((rd_T42 x8_1 0).f2)) ∧ w'.cell? ⟨ad258.block, ad258.off + 3, none⟩ = some (.bool ((rd_T42 x8_1 0).f3)) ∧ w'.cell? ad258 = some (.bool ((rd_T42 x8_1 0).f0)) ∧ w'.cell? ⟨ad258.block, ad258.off + 1, none⟩ = some (.int .u32 ((rd_T42 x8_1 0).f1)) ∧ w'.cell? ⟨ad258.block, ad258.off + 2, none⟩ = some (.int .u32 ((rd_T42 x8_1 0).f2)) ∧ w'.cell? ⟨ad258.block, ad258.off + 3, none⟩ = some (.bool ((rd_T42 x8_1 0).f3))) (ds := []) #[false, false, false, false, false, false, false, false, false, false, false, false, false, false] (by kernel_rfl) rfl rfl ⟨hx258_0, hx258_1, hx258_2, hx258_3, hx259_0, hx259_1, hx259_2, hx259_3, hx260_0, hx260_1, hx260_2, hx260_3⟩ (fun hHeld => ?_); refine with_tabW lw16_CreditMeets.tab35 lw16_CreditMeets.bits35 (fun HT_ HW_ => ?_)
                     generalize wc.drew = w70 at HO_7 HO_8 HI195 HI199 HB hx258_0 hx258_1 hx258_2 hx258_3 hx259_0 hx259_1 hx259_2 hx259_3 hx260_0 hx260_1 hx260_2 hx260_3 hHeld ⊢
                     refine pure_ (i := 0) (N := some 148) (v := ?_) (a' := ?_) #[true, false, false, false, false, false, false, false, false, false, false, false, false, false] rfl rfl (any_of HT_.out (by kernel_rfl)) (fun _ _ _ h => h) (Or.inl ⟨by rfl, ?_⟩) ?_ ?_
                     rotate_left
                     ·
                      intro w'
                      go_simp
                      with_reducible rfl
                     rotate_left
                     ·
                      simp only [Act.put, List.setIfInBounds_toArray, List.set_cons_zero, List.set_cons_succ, i64_w, i32_w]
                      rfl
                     refine pure_ (i := 1) (N := some 149) (v := ?_) (a' := ?_) #[true, true, false, false, false, false, false, false, false, false, false, false, false, false] rfl rfl (any_of HT_.out (by kernel_rfl)) (fun _ _ _ h => h) (Or.inl ⟨by rfl, ?_⟩) ?_ ?_
                     rotate_left
                     ·
                      intro w'
                      go_simp
                      with_reducible rfl
                     rotate_left
                     ·
                      simp only [Act.put, List.setIfInBounds_toArray, List.set_cons_zero, List.set_cons_succ, i64_w, i32_w]
                      rfl
                     refine pure_ (i := 2) (N := some 150) (v := ?_) (a' := ?_) #[true, true, true, false, false, false, false, false, false, false, false, false, false, false] rfl rfl (any_of HT_.out (by kernel_rfl)) (fun _ _ _ h => h) (Or.inl ⟨by rfl, ?_⟩) ?_ ?_
                     rotate_left
                     ·
                      intro w'
                      go_simp
                      with_reducible rfl
                     rotate_left
                     ·
                      simp only [Act.put, List.setIfInBounds_toArray, List.set_cons_zero, List.set_cons_succ, i64_w, i32_w]
                      rfl
                     refine pure_ (i := 3) (N := some 151) (v := ?_) (a' := ?_) #[true, true, true, true, false, false, false, false, false, false, false, false, false, false] rfl rfl (any_of HT_.out (by kernel_rfl)) (fun _ _ _ h => h) (Or.inl ⟨by rfl, ?_⟩) ?_ ?_
                     rotate_left
                     ·
                      intro w'
                      go_simp
                      with_reducible rfl
                     rotate_left
                     ·
                      simp only [Act.put, List.setIfInBounds_toArray, List.set_cons_zero, List.set_cons_succ, i64_w, i32_w]
                      rfl
                     refine pure_ (i := 5) (N := some 153) (v := ?_) (a' := ?_) #[true, true, true, true, false, true, false, false, false, false, false, false, false, false] rfl rfl (any_of HT_.out (by kernel_rfl)) (fun _ _ _ h => h) (Or.inl ⟨by rfl, ?_⟩) ?_ ?_
                     rotate_left
                     ·
                      intro w'
                      go_simp
                      with_reducible rfl
                     rotate_left
                     ·
                      simp only [Act.put, List.setIfInBounds_toArray, List.set_cons_zero, List.set_cons_succ, i64_w, i32_w]
                      rfl
                     refine pure_ (i := 6) (N := some 154) (v := ?_) (a' := ?_) #[true, true, true, true, false, true, true, false, false, false, false, false, false, false] rfl rfl (any_of HT_.out (by kernel_rfl)) (fun _ _ _ h => h) (Or.inl ⟨by rfl, ?_⟩) ?_ ?_
                     rotate_left
                     ·
                      intro w'
                      go_simp
                      with_reducible rfl
                     rotate_left
                     ·
                      simp only [Act.put, List.setIfInBounds_toArray, List.set_cons_zero, List.set_cons_succ, i64_w, i32_w]
                      rfl
                     refine pure_ (i := 7) (N := some 155) (v := ?_) (a' := ?_) #[true, true, true, true, false, true, true, true, false, false, false, false, false, false] rfl rfl (any_of HT_.out (by kernel_rfl)) (fun _ _ _ h => h) (Or.inl ⟨by rfl, ?_⟩) ?_ ?_
                     rotate_left
                     ·
                      intro w'
                      go_simp
                      with_reducible rfl
                     rotate_left
                     ·
                      simp only [Act.put, List.setIfInBounds_toArray, List.set_cons_zero, List.set_cons_succ, i64_w, i32_w]
                      rfl
                     refine pure_ (i := 9) (N := some 157) (v := ?_) (a' := ?_) #[true, true, true, true, false, true, true, true, false, true, false, false, false, false] rfl rfl (any_of HT_.out (by kernel_rfl)) (fun _ _ _ h => h) (Or.inl ⟨by rfl, ?_⟩) ?_ ?_
                     rotate_left
                     ·
                      intro w'
                      go_simp
                      with_reducible rfl
                     rotate_left
                     ·
                      simp only [Act.put, List.setIfInBounds_toArray, List.set_cons_zero, List.set_cons_succ, i64_w, i32_w]
                      rfl
                     refine pure_ (i := 10) (N := some 158) (v := ?_) (a' := ?_) #[true, true, true, true, false, true, true, true, false, true, true, false, false, false] rfl rfl (any_of HT_.out (by kernel_rfl)) (fun _ _ _ h => h) (Or.inl ⟨by rfl, ?_⟩) ?_ ?_
                     rotate_left
                     ·
                      intro w'
                      go_simp
                      with_reducible rfl
                     rotate_left
                     ·
                      simp only [Act.put, List.setIfInBounds_toArray, List.set_cons_zero, List.set_cons_succ, i64_w, i32_w]
                      rfl
                     refine pure_ (i := 11) (N := some 159) (v := ?_) (a' := ?_) #[true, true, true, true, false, true, true, true, false, true, true, true, false, false] rfl rfl (any_of HT_.out (by kernel_rfl)) (fun _ _ _ h => h) (Or.inl ⟨by rfl, ?_⟩) ?_ ?_
                     rotate_left
                     ·
                      intro w'
                      go_simp
                      with_reducible rfl
                     rotate_left
                     ·
                      simp only [Act.put, List.setIfInBounds_toArray, List.set_cons_zero, List.set_cons_succ, i64_w, i32_w]
                      rfl
                     refine take_ (i := 4) (N := some 152) (v := ?_) (a' := ?_) #[true, true, true, true, true, true, true, true, false, true, true, true, false, false] rfl rfl (take_ofW HT_.out HW_.out (by kernel_rfl)) (fun _ _ _ h => h) (Or.inl ⟨by rfl, ?_⟩) hHeld ?_ ?_
                     rotate_left
                     ·
                      rintro w' ⟨s0, s1, s2, s3, s4, s5, s6, s7, s8, s9, s10, s11⟩
                      go_simp
                      with_reducible rfl
                     rotate_left
                     ·
                      simp only [Act.put, List.setIfInBounds_toArray, List.set_cons_zero, List.set_cons_succ, i64_w, i32_w]
                      rfl
                     refine take_ (i := 8) (N := some 156) (v := ?_) (a' := ?_) #[true, true, true, true, true, true, true, true, true, true, true, true, false, false] rfl rfl (take_ofW HT_.out HW_.out (by kernel_rfl)) (fun _ _ _ h => h) (Or.inl ⟨by rfl, ?_⟩) hHeld ?_ ?_
                     rotate_left
                     ·
                      rintro w' ⟨s0, s1, s2, s3, s4, s5, s6, s7, s8, s9, s10, s11⟩
                      go_simp
                      with_reducible rfl
                     rotate_left
                     ·
                      simp only [Act.put, List.setIfInBounds_toArray, List.set_cons_zero, List.set_cons_succ, i64_w, i32_w]
                      rfl
                     refine take_ (i := 12) (N := some 160) (v := ?_) (a' := ?_) #[true, true, true, true, true, true, true, true, true, true, true, true, true, false] rfl rfl (take_ofW HT_.out HW_.out (by kernel_rfl)) (fun _ _ _ h => h) (Or.inl ⟨by rfl, ?_⟩) hHeld ?_ ?_
                     rotate_left
                     ·
                      rintro w' ⟨s0, s1, s2, s3, s4, s5, s6, s7, s8, s9, s10, s11⟩
                      go_simp
                      with_reducible rfl
                     rotate_left
                     ·
                      simp only [Act.put, List.setIfInBounds_toArray, List.set_cons_zero, List.set_cons_succ, i64_w, i32_w]
                      rfl
                     refine one_ (i := 13) (N := some 161) #[true, true, true, true, true, true, true, true, true, true, true, true, true, true] rfl rfl (one_of HT_.out (by kernel_rfl)) (by decide) (fun K hK => ?_)
                     refine goes_ Try.func20 (by kernel_rfl) rfl #[.pointer (some ⟨g195, 0, none⟩), .int .u32 ((rd_T42 x8_1 0).f1), .int .u32 ((rd_T42 x8_1 0).f2), .bool ((rd_T42 x8_1 0).f3)] (by rfl) rfl rfl (by (try simp only [List.map_toArray, List.map_cons, List.map_nil]); first | done | rfl | (simp only [List.length_drop, List.length_take]; rfl)) ?_
                     with_reducible refine (cr_Told.calls g195 x196000_1 x196001_1 x196002_1 ((rd_T42 x8_1 0).f1) ((rd_T42 x8_1 0).f2) ((rd_T42 x8_1 0).f3) t261 t262 t263 w _ ?side1 ?side2 A66.out).mono ?_
                     (case side1 => repeat (first | (with_reducible first | exact HI195.out | apply IsS54.alloc | apply IsS54.drewN | apply IsS54.drew | apply IsS54.set_0 | apply IsS54.set_1 | apply IsS54.set_2) | exact HI195.out))
                     (case side2 => repeat (first | (with_reducible first | exact HB.out | apply below_alloc | apply pw_below_drewN | apply below_drew1 | refine below_set ?_ (IsS54.ge HI195.out) | refine below_set ?_ (IsS54.ge HI199.out)) | exact HB.out))
                     rintro e w71 ⟨rfl, hi, hb, hk⟩
                     have HS0_ := keep_cell hk (hHeld.1) (by first | (rw [add_block]; exact Kd.own_blk (IsS54.own_ne HI195.out HO_8.out (by decide))) | (show (Addr.add _ _).block ≠ _; rw [add_block]; exact Kd.own_blk (IsS54.own_ne HI195.out HO_8.out (by decide))) | exact Kd.own_blk (IsS54.own_ne HI195.out HO_8.out (by decide)) | (dsimp only; exact Kd.own_blk (IsS54.own_ne HI195.out HO_8.out (by decide))))
                     have HS1_ := keep_cell hk (hHeld.2.1) (by first | (rw [add_block]; exact Kd.own_blk (IsS54.own_ne HI195.out HO_8.out (by decide))) | (show (Addr.add _ _).block ≠ _; rw [add_block]; exact Kd.own_blk (IsS54.own_ne HI195.out HO_8.out (by decide))) | exact Kd.own_blk (IsS54.own_ne HI195.out HO_8.out (by decide)) | (dsimp only; exact Kd.own_blk (IsS54.own_ne HI195.out HO_8.out (by decide))))
                     have HS2_ := keep_cell hk (hHeld.2.2.1) (by first | (rw [add_block]; exact Kd.own_blk (IsS54.own_ne HI195.out HO_8.out (by decide))) | (show (Addr.add _ _).block ≠ _; rw [add_block]; exact Kd.own_blk (IsS54.own_ne HI195.out HO_8.out (by decide))) | exact Kd.own_blk (IsS54.own_ne HI195.out HO_8.out (by decide)) | (dsimp only; exact Kd.own_blk (IsS54.own_ne HI195.out HO_8.out (by decide))))
                     have HS3_ := keep_cell hk (hHeld.2.2.2.1) (by first | (rw [add_block]; exact Kd.own_blk (IsS54.own_ne HI195.out HO_8.out (by decide))) | (show (Addr.add _ _).block ≠ _; rw [add_block]; exact Kd.own_blk (IsS54.own_ne HI195.out HO_8.out (by decide))) | exact Kd.own_blk (IsS54.own_ne HI195.out HO_8.out (by decide)) | (dsimp only; exact Kd.own_blk (IsS54.own_ne HI195.out HO_8.out (by decide))))
                     have HS4_ := keep_cell hk (hHeld.2.2.2.2.1) (by first | (rw [add_block]; exact Kd.own_blk (IsS54.own_ne HI195.out HO_8.out (by decide))) | (show (Addr.add _ _).block ≠ _; rw [add_block]; exact Kd.own_blk (IsS54.own_ne HI195.out HO_8.out (by decide))) | exact Kd.own_blk (IsS54.own_ne HI195.out HO_8.out (by decide)) | (dsimp only; exact Kd.own_blk (IsS54.own_ne HI195.out HO_8.out (by decide))))
                     have HS5_ := keep_cell hk (hHeld.2.2.2.2.2.1) (by first | (rw [add_block]; exact Kd.own_blk (IsS54.own_ne HI195.out HO_8.out (by decide))) | (show (Addr.add _ _).block ≠ _; rw [add_block]; exact Kd.own_blk (IsS54.own_ne HI195.out HO_8.out (by decide))) | exact Kd.own_blk (IsS54.own_ne HI195.out HO_8.out (by decide)) | (dsimp only; exact Kd.own_blk (IsS54.own_ne HI195.out HO_8.out (by decide))))
                     have HS6_ := keep_cell hk (hHeld.2.2.2.2.2.2.1) (by first | (rw [add_block]; exact Kd.own_blk (IsS54.own_ne HI195.out HO_8.out (by decide))) | (show (Addr.add _ _).block ≠ _; rw [add_block]; exact Kd.own_blk (IsS54.own_ne HI195.out HO_8.out (by decide))) | exact Kd.own_blk (IsS54.own_ne HI195.out HO_8.out (by decide)) | (dsimp only; exact Kd.own_blk (IsS54.own_ne HI195.out HO_8.out (by decide))))
                     have HS7_ := keep_cell hk (hHeld.2.2.2.2.2.2.2.1) (by first | (rw [add_block]; exact Kd.own_blk (IsS54.own_ne HI195.out HO_8.out (by decide))) | (show (Addr.add _ _).block ≠ _; rw [add_block]; exact Kd.own_blk (IsS54.own_ne HI195.out HO_8.out (by decide))) | exact Kd.own_blk (IsS54.own_ne HI195.out HO_8.out (by decide)) | (dsimp only; exact Kd.own_blk (IsS54.own_ne HI195.out HO_8.out (by decide))))
                     have HS8_ := keep_cell hk (hHeld.2.2.2.2.2.2.2.2.1) (by first | (rw [add_block]; exact Kd.own_blk (IsS54.own_ne HI195.out HO_8.out (by decide))) | (show (Addr.add _ _).block ≠ _; rw [add_block]; exact Kd.own_blk (IsS54.own_ne HI195.out HO_8.out (by decide))) | exact Kd.own_blk (IsS54.own_ne HI195.out HO_8.out (by decide)) | (dsimp only; exact Kd.own_blk (IsS54.own_ne HI195.out HO_8.out (by decide))))
                     have HS9_ := keep_cell hk (hHeld.2.2.2.2.2.2.2.2.2.1) (by first | (rw [add_block]; exact Kd.own_blk (IsS54.own_ne HI195.out HO_8.out (by decide))) | (show (Addr.add _ _).block ≠ _; rw [add_block]; exact Kd.own_blk (IsS54.own_ne HI195.out HO_8.out (by decide))) | exact Kd.own_blk (IsS54.own_ne HI195.out HO_8.out (by decide)) | (dsimp only; exact Kd.own_blk (IsS54.own_ne HI195.out HO_8.out (by decide))))
                     have HS10_ := keep_cell hk (hHeld.2.2.2.2.2.2.2.2.2.2.1) (by first | (rw [add_block]; exact Kd.own_blk (IsS54.own_ne HI195.out HO_8.out (by decide))) | (show (Addr.add _ _).block ≠ _; rw [add_block]; exact Kd.own_blk (IsS54.own_ne HI195.out HO_8.out (by decide))) | exact Kd.own_blk (IsS54.own_ne HI195.out HO_8.out (by decide)) | (dsimp only; exact Kd.own_blk (IsS54.own_ne HI195.out HO_8.out (by decide))))
                     have HS11_ := keep_cell hk (hHeld.2.2.2.2.2.2.2.2.2.2.2) (by first | (rw [add_block]; exact Kd.own_blk (IsS54.own_ne HI195.out HO_8.out (by decide))) | (show (Addr.add _ _).block ≠ _; rw [add_block]; exact Kd.own_blk (IsS54.own_ne HI195.out HO_8.out (by decide))) | exact Kd.own_blk (IsS54.own_ne HI195.out HO_8.out (by decide)) | (dsimp only; exact Kd.own_blk (IsS54.own_ne HI195.out HO_8.out (by decide))))
                     refine ⟨_, rfl, ?_⟩
                     have n0_ := Aside0.mk (Kd.R_mono (Kd.R_keep (IsS54.apart (show IsS54 w _ g195 x196000_1 x196001_1 x196002_1 from by repeat (first | (with_reducible first | exact HI195.out | apply IsS54.alloc | apply IsS54.drewN | apply IsS54.drew | apply IsS54.set_0 | apply IsS54.set_1 | apply IsS54.set_2) | exact HI195.out)) (by (with_reducible repeat (first | apply Kd.R_alloc | apply Kd.R_drewN | apply Kd.R_drew)); exact HO_7.out) (by decide)) hk (fun _ h => h.2)) (fun _ h => h.1))
                     have n1_ := Aside0.mk (Kd.R_mono (Kd.R_keep (IsS54.apart (show IsS54 w _ g195 x196000_1 x196001_1 x196002_1 from by repeat (first | (with_reducible first | exact HI195.out | apply IsS54.alloc | apply IsS54.drewN | apply IsS54.drew | apply IsS54.set_0 | apply IsS54.set_1 | apply IsS54.set_2) | exact HI195.out)) (by (with_reducible repeat (first | apply Kd.R_alloc | apply Kd.R_drewN | apply Kd.R_drew)); exact HO_8.out) (by decide)) hk (fun _ h => h.2)) (fun _ h => h.1))
                     have n2_ := Aside0.mk (IsS54.beside (show IsS54 w _ g199 x200000_1 x200001_1 x200002_1 from by repeat (first | (with_reducible first | exact HI199.out | apply IsS54.alloc | apply IsS54.drewN | apply IsS54.drew | apply IsS54.set_0 | apply IsS54.set_1 | apply IsS54.set_2) | exact HI199.out)) hk NS199_195.out)
                     have n3_ := Aside0.mk (hb)
                     have n4_ := Aside0.mk (hi)
                     clear HO_7
                     clear HO_8
                     clear HI199
                     clear HB
                     clear HI195
                     have HO_7 := n0_
                     have HO_8 := n1_
                     have HI199 := n2_
                     have HB := n3_
                     have HI195 := n4_
                     clear n0_ n1_ n2_ n3_ n4_
                     (try clear hb)
                     (try clear hb2)
                     (try clear hk)
                     (try clear hi)
                     (try clear hgw)
                     refine hK.out _ _ ⟨HS0_, HS1_, HS2_, HS3_, HS4_, HS5_, HS6_, HS7_, HS8_, HS9_, HS10_, HS11_⟩ (fun hHeld => ?_)
                     clear hK K
                     refine norm_ (a' := ?_) ?_ ?_
                     rotate_left
                     ·
                      show Act.put _ (some 161) _ = _
                      simp only [Act.put, List.setIfInBounds_toArray, List.set_cons_zero, List.set_cons_succ, i64_w, i32_w]
                      rfl
                     refine done_ (done_of HT_.out (by kernel_rfl)) ?_
                     try go_wp2_with (first | ((with_reducible refine gate_dst (N := 162) rfl ?_); refine Kd.R_lit k42 _ 42 ?hg (N := 162) ?hd (xs := ([] : List (S42))) (inner := []) (ok := fun _ => True) (okp := fun _ => True) ?hr ?hp (fun _ hk => hk) trivial (Below.refl _ _) (Nat.le_refl _) (by simp) ?_; (case hd => rfl); (case hg => rfl); (case hr => first | (go_simp; done) | (go_simp; rfl)); (case hp => exact (Reps.none _ _)); intro v265 w72 ho73 hb hg_ hnew_; clear hg_ hnew_; (first | rw [← Ny264.out] at ho73 | (simp only [Int.reduceToNat] at ho73; rw [← Ny264.out] at ho73)); have n0_ := Aside0.mk (Kd.R_elder' (by (with_reducible repeat (first | apply Kd.R_alloc | apply Kd.R_drewN | apply Kd.R_drew)); exact HO_7.out) (Kd.R_base ho73) hb); have n1_ := Aside0.mk (Kd.R_elder' (by (with_reducible repeat (first | apply Kd.R_alloc | apply Kd.R_drewN | apply Kd.R_drew)); exact HO_8.out) (Kd.R_base ho73) hb); have n2_ := Aside0.mk (Kd.R_lower (Kd.R_new' (Kd.R_new' ho73 (Kd.R_lt (by (with_reducible repeat (first | apply Kd.R_alloc | apply Kd.R_drewN | apply Kd.R_drew)); exact HO_7.out))) (Kd.R_lt (by (with_reducible repeat (first | apply Kd.R_alloc | apply Kd.R_drewN | apply Kd.R_drew)); exact HO_8.out))) (below_size (by repeat (first | (with_reducible first | exact HB.out | apply below_alloc | apply pw_below_drewN | apply below_drew1 | refine below_set ?_ (IsS54.ge HI195.out) | refine below_set ?_ (IsS54.ge HI199.out)) | exact HB.out)))); have n3_ := Aside0.mk (IsS54.below (by repeat (first | (with_reducible first | exact HI195.out | apply IsS54.alloc | apply IsS54.drewN | apply IsS54.drew | apply IsS54.set_0 | apply IsS54.set_1 | apply IsS54.set_2) | exact HI195.out)) hb); have n4_ := Aside0.mk (IsS54.below (by repeat (first | (with_reducible first | exact HI199.out | apply IsS54.alloc | apply IsS54.drewN | apply IsS54.drew | apply IsS54.set_0 | apply IsS54.set_1 | apply IsS54.set_2) | exact HI199.out)) hb); have n5_ := Aside0.mk (below_step (by repeat (first | (with_reducible first | exact HB.out | apply below_alloc | apply pw_below_drewN | apply below_drew1 | refine below_set ?_ (IsS54.ge HI195.out) | refine below_set ?_ (IsS54.ge HI199.out)) | exact HB.out)) hb); clear HO_7; clear HO_8; clear HI195; clear HI199; clear HB; have HO_7 := n0_; have HO_8 := n1_; have HO266 := n2_; have HI195 := n3_; have HI199 := n4_; have HB := n5_; clear n0_ n1_ n2_ n3_ n4_ n5_; clear hb ho73; have q74 : (1 : Int) ≤ ((x8_1.length : Int) : Int) := of_decide_eq_true (by first | (with_reducible assumption) | assumption); obtain ⟨i074, hi074, _, hsz74, _⟩ := info_parts info42; have hroom74 : x8_1.length ≤ co69 := (Kd.R_reads' HO_8.out).2.1; have hC74 : Kd.C k42 _ (some ad258) x8_1.length x8_1 := (Kd.R_reads' HO_8.out).2.2; have hcut74 := cut_from (P := Try.prog) 39 42 .i64 Try.underlying39 hi074 4 hsz74 (some ad258) x8_1.length co69 1 (by omega) q74; have hr74 := Kd.C_drop (m := (1 : Int).toNat) (c := co69) hC74 (by omega) hroom74; obtain ⟨A74, hA74⟩ : ∃ A1, A1 = (if co69 = (1 : Int).toNat then (some ad258) else ((some ad258) : Option Addr).map (·.add ((1 : Int).toNat * 4))) := ⟨_, rfl⟩; obtain ⟨c74, hc74⟩ : ∃ c1, c1 = co69 - (1 : Int).toNat := ⟨_, rfl⟩; have hy74 : y267.length = x8_1.length - (1 : Int).toNat := (by rw [Ny267.out, List.length_drop] <;> omega); rw [show (x8_1).drop (1 : Int).toNat = y267 from Ny267.out.symm] at hr74; replace hr74 : Kd.C k42 _ A74 y267.length y267 := (by rw [hA74]; exact hr74); rw [← hy74, ← hA74, ← hc74] at hcut74; have HR270 := Aside0.mk hr74; have HC270 := Aside0.mk (show y267.length ≤ c74 from by rw [hy74, hc74]; exact Nat.sub_le_sub_right hroom74 _); clear hr74 hC74 hroom74 hi074 hsz74 hc74; have KY74 := Aside0.mk hy74; have KA74 := Aside0.mk hA74; clear hy74 hA74; have KL74 := Aside0.mk (show 1 ≤ x8_1.length from by omega); replace q74 := eq_true q74) | ((with_reducible refine gate_builtin (b := .append) (xs := #[.tmp 162, .tmp 164]) rfl ?_); at_builtin; refine Kd.R_append_rows k42 (w0 := w) w.heap.size rfl (.tmp 162) (.tmp 164) 39 42 (.agg #[(.bool false), (.int .u32 0), (.int .u32 0), (.bool false)]) 16 rfl Try.underlying39 info42 rfl (by decide) (by omega) v265 y264 y267 _ _ _ (fun k_ => some k_ ≠ (u7 : Value).ownBlock ∧ some k_ ≠ (.slice (some ad258) x8_1.length co69 : Value).ownBlock) (fun _ => False) rfl rfl ?aO ?aR (fun _ _ h => h) (fun _ h => h.elim) ?aF ?aB ?aS ?aL ?_; (case aR => repeat (first | exact (by repeat (first | (with_reducible exact HR270.out) | (with_reducible refine Kd.C_alloc ?_ _) | (with_reducible refine Kd.C_drewN ?_ _) | (with_reducible refine Kd.C_drew ?_) | exact HR270.out)) | (with_reducible refine Kd.C_alloc ?_ _) | (with_reducible refine Kd.C_drewN ?_ _) | (with_reducible refine Kd.C_drew ?_))); (case aB => exact (by repeat (first | (with_reducible first | exact HB.out | apply below_alloc | apply pw_below_drewN | apply below_drew1 | refine below_set ?_ (IsS54.ge HI195.out) | refine below_set ?_ (IsS54.ge HI199.out)) | exact HB.out))); (case aF => exact (fun k_ hk => ⟨Kd.fresh' (Kd.R_lt (by (with_reducible repeat (first | apply Kd.R_alloc | apply Kd.R_drewN | apply Kd.R_drew)); exact HO_7.out)) k_ hk, Kd.fresh' (Kd.R_lt (by (with_reducible repeat (first | apply Kd.R_alloc | apply Kd.R_drewN | apply Kd.R_drew)); exact HO_8.out)) k_ hk⟩)); (case aO => exact (by (with_reducible repeat (first | apply Kd.R_alloc | apply Kd.R_drewN | apply Kd.R_drew)); exact Kd.R_mono HO266.out (fun _ hk => ⟨hk.1.2, hk.2⟩))); (case aS => exact (below_size (by repeat (first | (with_reducible first | exact HB.out | apply below_alloc | apply pw_below_drewN | apply below_drew1 | refine below_set ?_ (IsS54.ge HI195.out) | refine below_set ?_ (IsS54.ge HI199.out)) | exact HB.out)))); (case aL => have := LMc68.out; omega); intro v272 w75 ho hb hg hat; rw [← Ny271.out] at ho; have n0_ := Aside0.mk (Kd.R_after (ok := (fun k_ => some k_ ≠ (.slice (some ad258) x8_1.length co69 : Value).ownBlock)) (by (with_reducible repeat (first | apply Kd.R_alloc | apply Kd.R_drewN | apply Kd.R_drew)); exact HO_7.out) hg hat); have n1_ := Aside0.mk (Kd.R_after (ok := (fun k_ => some k_ ≠ (u7 : Value).ownBlock)) (by (with_reducible repeat (first | apply Kd.R_alloc | apply Kd.R_drewN | apply Kd.R_drew)); exact HO_8.out) hg hat); have n2_ := Aside0.mk (IsS54.grown (by repeat (first | (with_reducible first | exact HI195.out | apply IsS54.alloc | apply IsS54.drewN | apply IsS54.drew | apply IsS54.set_0 | apply IsS54.set_1 | apply IsS54.set_2) | exact HI195.out)) hg (IsS54.own_ne HI195.out HO266.out (by decide))); have n3_ := Aside0.mk (IsS54.grown (by repeat (first | (with_reducible first | exact HI199.out | apply IsS54.alloc | apply IsS54.drewN | apply IsS54.drew | apply IsS54.set_0 | apply IsS54.set_1 | apply IsS54.set_2) | exact HI199.out)) hg (IsS54.own_ne HI199.out HO266.out (by decide))); have n4_ := Aside0.mk (hb); have n5_ := Aside0.mk ((show Kd.C k42 w75 A74 y267.length y267 from by rw [Ny267.out, KA74.out]; exact Kd.C_drop (m := 1) (c := co69) ((Kd.R_reads' (Kd.R_after (ok := (fun k_ => some k_ ≠ (u7 : Value).ownBlock)) (by (with_reducible repeat (first | apply Kd.R_alloc | apply Kd.R_drewN | apply Kd.R_drew)); exact HO_8.out) hg hat)).2.2) KL74.out ((Kd.R_reads' (Kd.R_after (ok := (fun k_ => some k_ ≠ (u7 : Value).ownBlock)) (by (with_reducible repeat (first | apply Kd.R_alloc | apply Kd.R_drewN | apply Kd.R_drew)); exact HO_8.out) hg hat)).2.1))); have n6_ := Aside0.mk (ho); clear HO_7; clear HO_8; clear HI195; clear HI199; clear HB; clear HR270; clear HO266; have HO_7 := n0_; have HO_8 := n1_; have HI195 := n2_; have HI199 := n3_; have HB := n4_; have HR270 := n5_; have HO273 := n6_; clear n0_ n1_ n2_ n3_ n4_ n5_ n6_; clear ho hb hg hat))
                     go_meet
                     case rel => exact ⟨_, (x7_1), (y271), (t261), (t262), (t263), (x200000_1), (x200001_1), (x200002_1), H', ⟨by have := HK1.out; have := HJ12.out; have := HJ22.out; first | omega | exact Nat.le_refl _⟩, ⟨by (with_reducible repeat (first | apply Kd.R_alloc | apply Kd.R_drewN | apply Kd.R_drew)); exact Kd.R_mono HO_7.out (fun _ hk => hk.2)⟩, ⟨by (with_reducible repeat (first | apply Kd.R_alloc | apply Kd.R_drewN | apply Kd.R_drew)); exact Kd.R_mono HO273.out (fun _ hk => hk.1)⟩, ⟨by repeat (first | (with_reducible first | exact HI195.out | apply IsS54.alloc | apply IsS54.drewN | apply IsS54.drew | apply IsS54.set_0 | apply IsS54.set_1 | apply IsS54.set_2) | exact HI195.out)⟩, ⟨by repeat (first | (with_reducible first | exact HI199.out | apply IsS54.alloc | apply IsS54.drewN | apply IsS54.drew | apply IsS54.set_0 | apply IsS54.set_1 | apply IsS54.set_2) | exact HI199.out)⟩, ⟨by repeat (first | (with_reducible first | exact HB.out | apply below_alloc | apply pw_below_drewN | apply below_drew1 | refine below_set ?_ (IsS54.ge HI195.out) | refine below_set ?_ (IsS54.ge HI199.out)) | exact HB.out)⟩⟩
                   ·
                    rw [if_neg c68] at H
                    exact absurd H (by simp)
                  ·
                   rw [if_neg c67] at H
                   exact absurd H (by simp)
                 ·
                  rw [if_neg c65] at H
                  exact absurd H (by simp)
                ·
                 rw [if_neg c64] at H
                 have c64b0 : decide (0 < (x8_1.length : Int)) = false := decide_eq_false c64
                 have c64b1 : decide (0 < x8_1.length) = false := decide_eq_false (by omega)
                 clear c64
                 as_aux_lemma =>
                  have H' := Aside0.mk H
                  clear H
                  obtain ⟨Ao76, co76, eo76⟩ := Kd.R_slice HO_8.out
                  subst eo76
                  go_wp2
                  go_meet
                  case rel => exact ⟨_, (x7_1), (x8_1), (x196000_1), (x196001_1), (x196002_1), (x200000_1), (x200001_1), (x200002_1), H', ⟨by have := HK1.out; have := HJ12.out; have := HJ22.out; first | omega | exact Nat.le_refl _⟩, ⟨by (with_reducible repeat (first | apply Kd.R_alloc | apply Kd.R_drewN | apply Kd.R_drew)); exact HO_7.out⟩, ⟨by (with_reducible repeat (first | apply Kd.R_alloc | apply Kd.R_drewN | apply Kd.R_drew)); exact HO_8.out⟩, ⟨by repeat (first | (with_reducible first | exact HI195.out | apply IsS54.alloc | apply IsS54.drewN | apply IsS54.drew | apply IsS54.set_0 | apply IsS54.set_1 | apply IsS54.set_2) | exact HI195.out)⟩, ⟨by repeat (first | (with_reducible first | exact HI199.out | apply IsS54.alloc | apply IsS54.drewN | apply IsS54.drew | apply IsS54.set_0 | apply IsS54.set_1 | apply IsS54.set_2) | exact HI199.out)⟩, ⟨by repeat (first | (with_reducible first | exact HB.out | apply below_alloc | apply pw_below_drewN | apply below_drew1 | refine below_set ?_ (IsS54.ge HI195.out) | refine below_set ?_ (IsS54.ge HI199.out)) | exact HB.out)⟩⟩
               ·
                rw [if_neg c63] at H
                have c63b0 : ((Int.tmod (rd l1 x9_1) 8) == 7) = false := beq_eq_false_iff_ne.mpr c63
                have c63b1 : ((Int.tmod (rd l1 x9_1) 8) != 7) = true := bne_iff_ne.mpr c63
                as_aux_lemma =>
                 have H' := Aside0.mk H
                 clear H
                 go_wp2
                 go_meet
                 case rel => exact ⟨_, (x7_1), (x8_1), (x196000_1), (x196001_1), (x196002_1), (x200000_1), (x200001_1), (x200002_1), H', ⟨by have := HK1.out; have := HJ12.out; have := HJ22.out; first | omega | exact Nat.le_refl _⟩, ⟨by (with_reducible repeat (first | apply Kd.R_alloc | apply Kd.R_drewN | apply Kd.R_drew)); exact HO_7.out⟩, ⟨by (with_reducible repeat (first | apply Kd.R_alloc | apply Kd.R_drewN | apply Kd.R_drew)); exact HO_8.out⟩, ⟨by repeat (first | (with_reducible first | exact HI195.out | apply IsS54.alloc | apply IsS54.drewN | apply IsS54.drew | apply IsS54.set_0 | apply IsS54.set_1 | apply IsS54.set_2) | exact HI195.out)⟩, ⟨by repeat (first | (with_reducible first | exact HI199.out | apply IsS54.alloc | apply IsS54.drewN | apply IsS54.drew | apply IsS54.set_0 | apply IsS54.set_1 | apply IsS54.set_2) | exact HI199.out)⟩, ⟨by repeat (first | (with_reducible first | exact HB.out | apply below_alloc | apply pw_below_drewN | apply below_drew1 | refine below_set ?_ (IsS54.ge HI195.out) | refine below_set ?_ (IsS54.ge HI199.out)) | exact HB.out)⟩⟩
      case rest =>
       clear HC12
       try clear c1
       try clear c2
       try clear p2
       try clear q2
       try clear hx2
       try clear qi2
       try clear c3
       try clear c3b0
       try clear c3b1
       try clear c4
       try clear c5
       try clear q5
       try clear c6
       try clear p6
       try clear c7
       try clear q7
       try clear c9
       try clear c10
       try clear c10b0
       try clear c11
       try clear c11b0
       try clear c14
       try clear c14b0
       try clear c14b1
       try clear c15
       try clear c15b0
       try clear c15b1
       try clear c16
       try clear c17
       try clear c18
       try clear c19
       try clear c20
       try clear p20
       try clear q20
       try clear hx20
       try clear p21
       try clear q21
       try clear hx21
       try clear c24
       try clear c24b0
       try clear c24b1
       try clear p24
       try clear q24
       try clear hx24
       try clear qi24
       try clear c25
       try clear p25
       try clear q25
       try clear hx25
       try clear qi25
       try clear p26
       try clear q26
       try clear hx26
       try clear qi26
       try clear c27
       try clear c29
       try clear c29b0
       try clear c30
       try clear c30b0
       try clear c33
       try clear c38
       try clear c38b0
       try clear c38b1
       try clear c40
       try clear c42
       try clear c47
       try clear c47b0
       try clear c47b1
       try clear c48
       try clear c48b0
       try clear c48b1
       try clear c49
       try clear c49b0
       try clear c49b1
       try clear c51
       try clear c52
       try clear c52b0
       try clear c52b1
       try clear c53
       try clear c58
       try clear q58
       try clear c63
       try clear c63b0
       try clear c63b1
       try clear c64
       try clear c64b0
       try clear c64b1
       try clear p64
       try clear c65
       try clear c65b0
       try clear c65b1
       try clear c67
       try clear c67b0
       try clear c67b1
       try clear c68
       try clear c74
       try clear q74
       try clear hx200_0
       try clear hx201_0
       try clear hx215_0
       try clear hx243_0
       try clear hx243_1
       try clear hx243_2
       try clear hx243_3
       try clear hx258_0
       try clear hx258_1
       try clear hx258_2
       try clear hx258_3
       try clear hx259_0
       try clear hx259_1
       try clear hx259_2
       try clear hx259_3
       try clear hx260_0
       try clear hx260_1
       try clear hx260_2
       try clear hx260_3
       try clear p2
       try clear p20
       try clear p200
       try clear p201
       try clear p215
       try clear p243
       try clear p258
       try clear p259
       try clear p260
       try clear q2
       try clear q20
       try clear q200
       try clear q201
       try clear q215
       try clear q243
       try clear q258
       try clear q259
       try clear q260
       try clear q58
       try clear q74
       obtain ⟨kq, x7_11, x8_11, x196000_11, x196001_11, x196002_11, x200000_11, x200001_11, x200002_11, HA, HJ11, HO_7, HO_8, HI195, HI199, HB⟩ := hcut
       cases kq with
       | zero => exact absurd HA.out (by simp [lw16_CreditMeets.j3])
       | succ kj11 => as_aux_lemma =>
        have H := HA.out
        clear HA
        simp only [lw16_CreditMeets.j3] at H
        replace H := Option.bind_eq_some_iff.mp H
        obtain ⟨⟨t274, t275, t276, t277, t278, t279⟩, A770, H⟩ := H
        replace H : ((cr_Left.f x200000_11 x200001_11 x200002_11).bind fun bt280 => (if t275 > 1000 then (some false) else (if (((t274 - bt280.1) + t275) % 4294967296) > bt280.2.1 then (some false) else (lw16_CreditMeets.l0 kj11 l1 x7_11 x8_11 (wrap64 (x9_1 + 1)) t277 t278 t279 bt280.2.2.2.1 bt280.2.2.2.2.1 bt280.2.2.2.2.2)))) = some r := H
        have A77 := Aside0.mk A770
        clear A770
        replace H := Option.bind_eq_some_iff.mp H
        obtain ⟨⟨t280, t281, t282, t283, t284, t285⟩, A780, H⟩ := H
        replace H : (if t275 > 1000 then (some false) else (if (((t274 - t280) + t275) % 4294967296) > t281 then (some false) else (lw16_CreditMeets.l0 kj11 l1 x7_11 x8_11 (wrap64 (x9_1 + 1)) t277 t278 t279 t283 t284 t285))) = some r := H
        have A78 := Aside0.mk A780
        clear A780
        by_cases c79 : t275 > 1000
        ·
         rw [if_pos c79] at H
         have c79b0 : decide (1000 < t275) = true := decide_eq_true c79
         clear c79
         as_aux_lemma =>
          obtain rfl := Option.some.inj H
          go_wp2_with (first | ((with_reducible refine gate_callee (f := 14) rfl ?_); refine goesL_ (some 168) rfl rfl Try.func14 (by kernel_rfl) rfl #[.pointer (some ⟨g195, 0, none⟩)] rfl (by (try simp only [List.map_toArray, List.map_cons, List.map_nil]); first | done | rfl | (simp only [List.length_drop, List.length_take]; rfl)) ?_; (with_reducible refine (cr_Left.calls g195 x196000_11 x196001_11 x196002_11 t274 t275 t276 t277 t278 t279 w _ ?side1 ?side2 A77.out).mono ?_); (case side1 => repeat (first | (with_reducible first | exact HI195.out | apply IsS54.alloc | apply IsS54.drewN | apply IsS54.drew | apply IsS54.set_0 | apply IsS54.set_1 | apply IsS54.set_2) | exact HI195.out)); (case side2 => repeat (first | (with_reducible first | exact HB.out | apply below_alloc | apply pw_below_drewN | apply below_drew1 | refine below_set ?_ (IsS54.ge HI195.out) | refine below_set ?_ (IsS54.ge HI199.out)) | exact HB.out)); rintro e w80 ⟨rfl, hi, hb, hk⟩; refine ⟨_, rfl, ?_⟩; have n0_ := Aside0.mk (Kd.R_mono (Kd.R_keep (IsS54.apart (show IsS54 w _ g195 x196000_11 x196001_11 x196002_11 from by repeat (first | (with_reducible first | exact HI195.out | apply IsS54.alloc | apply IsS54.drewN | apply IsS54.drew | apply IsS54.set_0 | apply IsS54.set_1 | apply IsS54.set_2) | exact HI195.out)) (by (with_reducible repeat (first | apply Kd.R_alloc | apply Kd.R_drewN | apply Kd.R_drew)); exact HO_7.out) (by decide)) hk (fun _ h => h.2)) (fun _ h => h.1)); have n1_ := Aside0.mk (Kd.R_mono (Kd.R_keep (IsS54.apart (show IsS54 w _ g195 x196000_11 x196001_11 x196002_11 from by repeat (first | (with_reducible first | exact HI195.out | apply IsS54.alloc | apply IsS54.drewN | apply IsS54.drew | apply IsS54.set_0 | apply IsS54.set_1 | apply IsS54.set_2) | exact HI195.out)) (by (with_reducible repeat (first | apply Kd.R_alloc | apply Kd.R_drewN | apply Kd.R_drew)); exact HO_8.out) (by decide)) hk (fun _ h => h.2)) (fun _ h => h.1)); have n2_ := Aside0.mk (IsS54.beside (show IsS54 w _ g199 x200000_11 x200001_11 x200002_11 from by repeat (first | (with_reducible first | exact HI199.out | apply IsS54.alloc | apply IsS54.drewN | apply IsS54.drew | apply IsS54.set_0 | apply IsS54.set_1 | apply IsS54.set_2) | exact HI199.out)) hk NS199_195.out); have n3_ := Aside0.mk (hb); have n4_ := Aside0.mk (hi); clear HO_7; clear HO_8; clear HI199; clear HB; clear HI195; have HO_7 := n0_; have HO_8 := n1_; have HI199 := n2_; have HB := n3_; have HI195 := n4_; clear n0_ n1_ n2_ n3_ n4_; (try clear hb); (try clear hb2); (try clear hk); (try clear hi); (try clear hgw)) | ((with_reducible refine gate_callee (f := 14) rfl ?_); refine goesL_ (some 174) rfl rfl Try.func14 (by kernel_rfl) rfl #[.pointer (some ⟨g199, 0, none⟩)] rfl (by (try simp only [List.map_toArray, List.map_cons, List.map_nil]); first | done | rfl | (simp only [List.length_drop, List.length_take]; rfl)) ?_; (with_reducible refine (cr_Left.calls g199 x200000_11 x200001_11 x200002_11 t280 t281 t282 t283 t284 t285 w _ ?side1 ?side2 A78.out).mono ?_); (case side1 => repeat (first | (with_reducible first | exact HI199.out | apply IsS54.alloc | apply IsS54.drewN | apply IsS54.drew | apply IsS54.set_0 | apply IsS54.set_1 | apply IsS54.set_2) | exact HI199.out)); (case side2 => repeat (first | (with_reducible first | exact HB.out | apply below_alloc | apply pw_below_drewN | apply below_drew1 | refine below_set ?_ (IsS54.ge HI195.out) | refine below_set ?_ (IsS54.ge HI199.out)) | exact HB.out)); rintro e w81 ⟨rfl, hi, hb, hk⟩; refine ⟨_, rfl, ?_⟩; have n0_ := Aside0.mk (Kd.R_mono (Kd.R_keep (IsS54.apart (show IsS54 w _ g199 x200000_11 x200001_11 x200002_11 from by repeat (first | (with_reducible first | exact HI199.out | apply IsS54.alloc | apply IsS54.drewN | apply IsS54.drew | apply IsS54.set_0 | apply IsS54.set_1 | apply IsS54.set_2) | exact HI199.out)) (by (with_reducible repeat (first | apply Kd.R_alloc | apply Kd.R_drewN | apply Kd.R_drew)); exact HO_7.out) (by decide)) hk (fun _ h => h.2)) (fun _ h => h.1)); have n1_ := Aside0.mk (Kd.R_mono (Kd.R_keep (IsS54.apart (show IsS54 w _ g199 x200000_11 x200001_11 x200002_11 from by repeat (first | (with_reducible first | exact HI199.out | apply IsS54.alloc | apply IsS54.drewN | apply IsS54.drew | apply IsS54.set_0 | apply IsS54.set_1 | apply IsS54.set_2) | exact HI199.out)) (by (with_reducible repeat (first | apply Kd.R_alloc | apply Kd.R_drewN | apply Kd.R_drew)); exact HO_8.out) (by decide)) hk (fun _ h => h.2)) (fun _ h => h.1)); have n2_ := Aside0.mk (IsS54.beside (show IsS54 w _ g195 t277 t278 t279 from by repeat (first | (with_reducible first | exact HI195.out | apply IsS54.alloc | apply IsS54.drewN | apply IsS54.drew | apply IsS54.set_0 | apply IsS54.set_1 | apply IsS54.set_2) | exact HI195.out)) hk NS195_199.out); have n3_ := Aside0.mk (hb); have n4_ := Aside0.mk (hi); clear HO_7; clear HO_8; clear HI195; clear HB; clear HI199; have HO_7 := n0_; have HO_8 := n1_; have HI195 := n2_; have HB := n3_; have HI199 := n4_; clear n0_ n1_ n2_ n3_ n4_; (try clear hb); (try clear hb2); (try clear hk); (try clear hi); (try clear hgw)))
          go_ret
          exact ⟨by first | rfl | (simp [errW_none, errW_some] <;> rfl) | (simp [*, errW_none, errW_some] <;> rfl), by repeat (first | (with_reducible first | exact HB.out | apply below_alloc | apply pw_below_drewN | apply below_drew1 | refine below_set ?_ (IsS54.ge HI195.out) | refine below_set ?_ (IsS54.ge HI199.out)) | exact HB.out)⟩
        ·
         rw [if_neg c79] at H
         have c79b0 : decide (1000 < t275) = false := decide_eq_false c79
         clear c79
         by_cases c82 : (((t274 - t280) + t275) % 4294967296) > t281
         ·
          rw [if_pos c82] at H
          have c82b0 : decide (t281 < (((t274 - t280) + t275) % 4294967296)) = true := decide_eq_true c82
          clear c82
          as_aux_lemma =>
           obtain rfl := Option.some.inj H
           go_wp2_with (first | ((with_reducible refine gate_callee (f := 14) rfl ?_); refine goesL_ (some 168) rfl rfl Try.func14 (by kernel_rfl) rfl #[.pointer (some ⟨g195, 0, none⟩)] rfl (by (try simp only [List.map_toArray, List.map_cons, List.map_nil]); first | done | rfl | (simp only [List.length_drop, List.length_take]; rfl)) ?_; (with_reducible refine (cr_Left.calls g195 x196000_11 x196001_11 x196002_11 t274 t275 t276 t277 t278 t279 w _ ?side1 ?side2 A77.out).mono ?_); (case side1 => repeat (first | (with_reducible first | exact HI195.out | apply IsS54.alloc | apply IsS54.drewN | apply IsS54.drew | apply IsS54.set_0 | apply IsS54.set_1 | apply IsS54.set_2) | exact HI195.out)); (case side2 => repeat (first | (with_reducible first | exact HB.out | apply below_alloc | apply pw_below_drewN | apply below_drew1 | refine below_set ?_ (IsS54.ge HI195.out) | refine below_set ?_ (IsS54.ge HI199.out)) | exact HB.out)); rintro e w83 ⟨rfl, hi, hb, hk⟩; refine ⟨_, rfl, ?_⟩; have n0_ := Aside0.mk (Kd.R_mono (Kd.R_keep (IsS54.apart (show IsS54 w _ g195 x196000_11 x196001_11 x196002_11 from by repeat (first | (with_reducible first | exact HI195.out | apply IsS54.alloc | apply IsS54.drewN | apply IsS54.drew | apply IsS54.set_0 | apply IsS54.set_1 | apply IsS54.set_2) | exact HI195.out)) (by (with_reducible repeat (first | apply Kd.R_alloc | apply Kd.R_drewN | apply Kd.R_drew)); exact HO_7.out) (by decide)) hk (fun _ h => h.2)) (fun _ h => h.1)); have n1_ := Aside0.mk (Kd.R_mono (Kd.R_keep (IsS54.apart (show IsS54 w _ g195 x196000_11 x196001_11 x196002_11 from by repeat (first | (with_reducible first | exact HI195.out | apply IsS54.alloc | apply IsS54.drewN | apply IsS54.drew | apply IsS54.set_0 | apply IsS54.set_1 | apply IsS54.set_2) | exact HI195.out)) (by (with_reducible repeat (first | apply Kd.R_alloc | apply Kd.R_drewN | apply Kd.R_drew)); exact HO_8.out) (by decide)) hk (fun _ h => h.2)) (fun _ h => h.1)); have n2_ := Aside0.mk (IsS54.beside (show IsS54 w _ g199 x200000_11 x200001_11 x200002_11 from by repeat (first | (with_reducible first | exact HI199.out | apply IsS54.alloc | apply IsS54.drewN | apply IsS54.drew | apply IsS54.set_0 | apply IsS54.set_1 | apply IsS54.set_2) | exact HI199.out)) hk NS199_195.out); have n3_ := Aside0.mk (hb); have n4_ := Aside0.mk (hi); clear HO_7; clear HO_8; clear HI199; clear HB; clear HI195; have HO_7 := n0_; have HO_8 := n1_; have HI199 := n2_; have HB := n3_; have HI195 := n4_; clear n0_ n1_ n2_ n3_ n4_; (try clear hb); (try clear hb2); (try clear hk); (try clear hi); (try clear hgw)) | ((with_reducible refine gate_callee (f := 14) rfl ?_); refine goesL_ (some 174) rfl rfl Try.func14 (by kernel_rfl) rfl #[.pointer (some ⟨g199, 0, none⟩)] rfl (by (try simp only [List.map_toArray, List.map_cons, List.map_nil]); first | done | rfl | (simp only [List.length_drop, List.length_take]; rfl)) ?_; (with_reducible refine (cr_Left.calls g199 x200000_11 x200001_11 x200002_11 t280 t281 t282 t283 t284 t285 w _ ?side1 ?side2 A78.out).mono ?_); (case side1 => repeat (first | (with_reducible first | exact HI199.out | apply IsS54.alloc | apply IsS54.drewN | apply IsS54.drew | apply IsS54.set_0 | apply IsS54.set_1 | apply IsS54.set_2) | exact HI199.out)); (case side2 => repeat (first | (with_reducible first | exact HB.out | apply below_alloc | apply pw_below_drewN | apply below_drew1 | refine below_set ?_ (IsS54.ge HI195.out) | refine below_set ?_ (IsS54.ge HI199.out)) | exact HB.out)); rintro e w84 ⟨rfl, hi, hb, hk⟩; refine ⟨_, rfl, ?_⟩; have n0_ := Aside0.mk (Kd.R_mono (Kd.R_keep (IsS54.apart (show IsS54 w _ g199 x200000_11 x200001_11 x200002_11 from by repeat (first | (with_reducible first | exact HI199.out | apply IsS54.alloc | apply IsS54.drewN | apply IsS54.drew | apply IsS54.set_0 | apply IsS54.set_1 | apply IsS54.set_2) | exact HI199.out)) (by (with_reducible repeat (first | apply Kd.R_alloc | apply Kd.R_drewN | apply Kd.R_drew)); exact HO_7.out) (by decide)) hk (fun _ h => h.2)) (fun _ h => h.1)); have n1_ := Aside0.mk (Kd.R_mono (Kd.R_keep (IsS54.apart (show IsS54 w _ g199 x200000_11 x200001_11 x200002_11 from by repeat (first | (with_reducible first | exact HI199.out | apply IsS54.alloc | apply IsS54.drewN | apply IsS54.drew | apply IsS54.set_0 | apply IsS54.set_1 | apply IsS54.set_2) | exact HI199.out)) (by (with_reducible repeat (first | apply Kd.R_alloc | apply Kd.R_drewN | apply Kd.R_drew)); exact HO_8.out) (by decide)) hk (fun _ h => h.2)) (fun _ h => h.1)); have n2_ := Aside0.mk (IsS54.beside (show IsS54 w _ g195 t277 t278 t279 from by repeat (first | (with_reducible first | exact HI195.out | apply IsS54.alloc | apply IsS54.drewN | apply IsS54.drew | apply IsS54.set_0 | apply IsS54.set_1 | apply IsS54.set_2) | exact HI195.out)) hk NS195_199.out); have n3_ := Aside0.mk (hb); have n4_ := Aside0.mk (hi); clear HO_7; clear HO_8; clear HI195; clear HB; clear HI199; have HO_7 := n0_; have HO_8 := n1_; have HI195 := n2_; have HB := n3_; have HI199 := n4_; clear n0_ n1_ n2_ n3_ n4_; (try clear hb); (try clear hb2); (try clear hk); (try clear hi); (try clear hgw)))
           go_ret
           exact ⟨by first | rfl | (simp [errW_none, errW_some] <;> rfl) | (simp [*, errW_none, errW_some] <;> rfl), by repeat (first | (with_reducible first | exact HB.out | apply below_alloc | apply pw_below_drewN | apply below_drew1 | refine below_set ?_ (IsS54.ge HI195.out) | refine below_set ?_ (IsS54.ge HI199.out)) | exact HB.out)⟩
         ·
          rw [if_neg c82] at H
          have c82b0 : decide (t281 < (((t274 - t280) + t275) % 4294967296)) = false := decide_eq_false c82
          clear c82
          as_aux_lemma =>
           have H' := Aside0.mk H
           clear H
           go_wp2_with (first | ((with_reducible refine gate_callee (f := 14) rfl ?_); refine goesL_ (some 168) rfl rfl Try.func14 (by kernel_rfl) rfl #[.pointer (some ⟨g195, 0, none⟩)] rfl (by (try simp only [List.map_toArray, List.map_cons, List.map_nil]); first | done | rfl | (simp only [List.length_drop, List.length_take]; rfl)) ?_; (with_reducible refine (cr_Left.calls g195 x196000_11 x196001_11 x196002_11 t274 t275 t276 t277 t278 t279 w _ ?side1 ?side2 A77.out).mono ?_); (case side1 => repeat (first | (with_reducible first | exact HI195.out | apply IsS54.alloc | apply IsS54.drewN | apply IsS54.drew | apply IsS54.set_0 | apply IsS54.set_1 | apply IsS54.set_2) | exact HI195.out)); (case side2 => repeat (first | (with_reducible first | exact HB.out | apply below_alloc | apply pw_below_drewN | apply below_drew1 | refine below_set ?_ (IsS54.ge HI195.out) | refine below_set ?_ (IsS54.ge HI199.out)) | exact HB.out)); rintro e w85 ⟨rfl, hi, hb, hk⟩; refine ⟨_, rfl, ?_⟩; have n0_ := Aside0.mk (Kd.R_mono (Kd.R_keep (IsS54.apart (show IsS54 w _ g195 x196000_11 x196001_11 x196002_11 from by repeat (first | (with_reducible first | exact HI195.out | apply IsS54.alloc | apply IsS54.drewN | apply IsS54.drew | apply IsS54.set_0 | apply IsS54.set_1 | apply IsS54.set_2) | exact HI195.out)) (by (with_reducible repeat (first | apply Kd.R_alloc | apply Kd.R_drewN | apply Kd.R_drew)); exact HO_7.out) (by decide)) hk (fun _ h => h.2)) (fun _ h => h.1)); have n1_ := Aside0.mk (Kd.R_mono (Kd.R_keep (IsS54.apart (show IsS54 w _ g195 x196000_11 x196001_11 x196002_11 from by repeat (first | (with_reducible first | exact HI195.out | apply IsS54.alloc | apply IsS54.drewN | apply IsS54.drew | apply IsS54.set_0 | apply IsS54.set_1 | apply IsS54.set_2) | exact HI195.out)) (by (with_reducible repeat (first | apply Kd.R_alloc | apply Kd.R_drewN | apply Kd.R_drew)); exact HO_8.out) (by decide)) hk (fun _ h => h.2)) (fun _ h => h.1)); have n2_ := Aside0.mk (IsS54.beside (show IsS54 w _ g199 x200000_11 x200001_11 x200002_11 from by repeat (first | (with_reducible first | exact HI199.out | apply IsS54.alloc | apply IsS54.drewN | apply IsS54.drew | apply IsS54.set_0 | apply IsS54.set_1 | apply IsS54.set_2) | exact HI199.out)) hk NS199_195.out); have n3_ := Aside0.mk (hb); have n4_ := Aside0.mk (hi); clear HO_7; clear HO_8; clear HI199; clear HB; clear HI195; have HO_7 := n0_; have HO_8 := n1_; have HI199 := n2_; have HB := n3_; have HI195 := n4_; clear n0_ n1_ n2_ n3_ n4_; (try clear hb); (try clear hb2); (try clear hk); (try clear hi); (try clear hgw)) | ((with_reducible refine gate_callee (f := 14) rfl ?_); refine goesL_ (some 174) rfl rfl Try.func14 (by kernel_rfl) rfl #[.pointer (some ⟨g199, 0, none⟩)] rfl (by (try simp only [List.map_toArray, List.map_cons, List.map_nil]); first | done | rfl | (simp only [List.length_drop, List.length_take]; rfl)) ?_; (with_reducible refine (cr_Left.calls g199 x200000_11 x200001_11 x200002_11 t280 t281 t282 t283 t284 t285 w _ ?side1 ?side2 A78.out).mono ?_); (case side1 => repeat (first | (with_reducible first | exact HI199.out | apply IsS54.alloc | apply IsS54.drewN | apply IsS54.drew | apply IsS54.set_0 | apply IsS54.set_1 | apply IsS54.set_2) | exact HI199.out)); (case side2 => repeat (first | (with_reducible first | exact HB.out | apply below_alloc | apply pw_below_drewN | apply below_drew1 | refine below_set ?_ (IsS54.ge HI195.out) | refine below_set ?_ (IsS54.ge HI199.out)) | exact HB.out)); rintro e w86 ⟨rfl, hi, hb, hk⟩; refine ⟨_, rfl, ?_⟩; have n0_ := Aside0.mk (Kd.R_mono (Kd.R_keep (IsS54.apart (show IsS54 w _ g199 x200000_11 x200001_11 x200002_11 from by repeat (first | (with_reducible first | exact HI199.out | apply IsS54.alloc | apply IsS54.drewN | apply IsS54.drew | apply IsS54.set_0 | apply IsS54.set_1 | apply IsS54.set_2) | exact HI199.out)) (by (with_reducible repeat (first | apply Kd.R_alloc | apply Kd.R_drewN | apply Kd.R_drew)); exact HO_7.out) (by decide)) hk (fun _ h => h.2)) (fun _ h => h.1)); have n1_ := Aside0.mk (Kd.R_mono (Kd.R_keep (IsS54.apart (show IsS54 w _ g199 x200000_11 x200001_11 x200002_11 from by repeat (first | (with_reducible first | exact HI199.out | apply IsS54.alloc | apply IsS54.drewN | apply IsS54.drew | apply IsS54.set_0 | apply IsS54.set_1 | apply IsS54.set_2) | exact HI199.out)) (by (with_reducible repeat (first | apply Kd.R_alloc | apply Kd.R_drewN | apply Kd.R_drew)); exact HO_8.out) (by decide)) hk (fun _ h => h.2)) (fun _ h => h.1)); have n2_ := Aside0.mk (IsS54.beside (show IsS54 w _ g195 t277 t278 t279 from by repeat (first | (with_reducible first | exact HI195.out | apply IsS54.alloc | apply IsS54.drewN | apply IsS54.drew | apply IsS54.set_0 | apply IsS54.set_1 | apply IsS54.set_2) | exact HI195.out)) hk NS195_199.out); have n3_ := Aside0.mk (hb); have n4_ := Aside0.mk (hi); clear HO_7; clear HO_8; clear HI195; clear HB; clear HI199; have HO_7 := n0_; have HO_8 := n1_; have HI195 := n2_; have HB := n3_; have HI199 := n4_; clear n0_ n1_ n2_ n3_ n4_; (try clear hb); (try clear hb2); (try clear hk); (try clear hi); (try clear hgw)))
           go_roundg kj11
           case measure => have := HK1.out; have := HJ11.out; omega
           case rel => exact ⟨(x7_11), (x8_11), (wrap64 (x9_1 + 1)), (t277), (t278), (t279), (t283), (t284), (t285), (by first | rfl | (simp; done) | (simp [*]; done)), H', ⟨by have := HK1.out; have := HJ11.out; omega⟩, ⟨by (with_reducible repeat (first | apply Kd.R_alloc | apply Kd.R_drewN | apply Kd.R_drew)); exact HO_7.out⟩, ⟨by (with_reducible repeat (first | apply Kd.R_alloc | apply Kd.R_drewN | apply Kd.R_drew)); exact HO_8.out⟩, ⟨by repeat (first | (with_reducible first | exact HI195.out | apply IsS54.alloc | apply IsS54.drewN | apply IsS54.drew | apply IsS54.set_0 | apply IsS54.set_1 | apply IsS54.set_2) | exact HI195.out)⟩, ⟨by repeat (first | (with_reducible first | exact HI199.out | apply IsS54.alloc | apply IsS54.drewN | apply IsS54.drew | apply IsS54.set_0 | apply IsS54.set_1 | apply IsS54.set_2) | exact HI199.out)⟩, ⟨by repeat (first | (with_reducible first | exact HB.out | apply below_alloc | apply pw_below_drewN | apply below_drew1 | refine below_set ?_ (IsS54.ge HI195.out) | refine below_set ?_ (IsS54.ge HI199.out)) | exact HB.out)⟩⟩
     ·
      rw [if_neg c11] at H
      exact absurd H (by simp)
    ·
     rw [if_neg c10] at H
     have c10b0 : decide (x9_1 < (l1.length : Int)) = false := decide_eq_false c10
     clear c10
     have H' := Aside0.mk H
     clear H
     go_wp2
     go_loopg [26] k1 (fun kq v26 w' => ∃ (x26_2 : Int) (x196000_2 : Int) (x196001_2 : Int) (x196002_2 : Bool), v26 = .int .i64 x26_2 ∧ Aside0 (lw16_CreditMeets.l1 kq x7_1 x8_1 x26_2 x196000_2 x196001_2 x196002_2 x200000_1 x200001_1 x200002_1 = some r) ∧ Aside0 (kq ≤ k1) ∧ Aside0 (Kd.R k42 42 w' w.heap.size (fun k_ => some k_ ≠ (u8 : Value).ownBlock) u7 x7_1) ∧ Aside0 (Kd.R k42 42 w' w.heap.size (fun k_ => some k_ ≠ (u7 : Value).ownBlock) u8 x8_1) ∧ Aside0 (IsS54 w w' g195 x196000_2 x196001_2 x196002_2) ∧ Aside0 (IsS54 w w' g199 x200000_1 x200001_1 x200002_1) ∧ Aside0 (Below w.heap.size w w'))
     case atStart => exact ⟨(0), (x196000_1), (x196001_1), (x196002_1), (by first | rfl | (simp; done) | (simp [*]; done)), H', ⟨Nat.le_refl _⟩, ⟨by (with_reducible repeat (first | apply Kd.R_alloc | apply Kd.R_drewN | apply Kd.R_drew)); exact HO_7.out⟩, ⟨by (with_reducible repeat (first | apply Kd.R_alloc | apply Kd.R_drewN | apply Kd.R_drew)); exact HO_8.out⟩, ⟨by repeat (first | (with_reducible first | exact HI195.out | apply IsS54.alloc | apply IsS54.drewN | apply IsS54.drew | apply IsS54.set_0 | apply IsS54.set_1 | apply IsS54.set_2) | exact HI195.out)⟩, ⟨by repeat (first | (with_reducible first | exact HI199.out | apply IsS54.alloc | apply IsS54.drewN | apply IsS54.drew | apply IsS54.set_0 | apply IsS54.set_1 | apply IsS54.set_2) | exact HI199.out)⟩, ⟨by repeat (first | (with_reducible first | exact HB.out | apply below_alloc | apply pw_below_drewN | apply below_drew1 | refine below_set ?_ (IsS54.ge HI195.out) | refine below_set ?_ (IsS54.ge HI199.out)) | exact HB.out)⟩⟩
     case round =>
      clear H'
      try clear c1
      try clear c2
      try clear p2
      try clear q2
      try clear hx2
      try clear qi2
      try clear c3
      try clear c3b0
      try clear c3b1
      try clear c4
      try clear c5
      try clear q5
      try clear c6
      try clear p6
      try clear c7
      try clear q7
      try clear c8
      try clear c9
      try clear c10
      try clear c10b0
      try clear c11
      try clear c11b0
      try clear c14
      try clear c14b0
      try clear c14b1
      try clear c15
      try clear c15b0
      try clear c15b1
      try clear c16
      try clear c17
      try clear c18
      try clear c19
      try clear c20
      try clear p20
      try clear q20
      try clear hx20
      try clear p21
      try clear q21
      try clear hx21
      try clear c24
      try clear c24b0
      try clear c24b1
      try clear p24
      try clear q24
      try clear hx24
      try clear qi24
      try clear c25
      try clear p25
      try clear q25
      try clear hx25
      try clear qi25
      try clear p26
      try clear q26
      try clear hx26
      try clear qi26
      try clear c27
      try clear c29
      try clear c29b0
      try clear c30
      try clear c30b0
      try clear c33
      try clear c38
      try clear c38b0
      try clear c38b1
      try clear c40
      try clear c42
      try clear c47
      try clear c47b0
      try clear c47b1
      try clear c48
      try clear c48b0
      try clear c48b1
      try clear c49
      try clear c49b0
      try clear c49b1
      try clear c51
      try clear c52
      try clear c52b0
      try clear c52b1
      try clear c53
      try clear c58
      try clear q58
      try clear c63
      try clear c63b0
      try clear c63b1
      try clear c64
      try clear c64b0
      try clear c64b1
      try clear p64
      try clear c65
      try clear c65b0
      try clear c65b1
      try clear c67
      try clear c67b0
      try clear c67b1
      try clear c68
      try clear c74
      try clear q74
      try clear c79
      try clear c79b0
      try clear c82
      try clear c82b0
      try clear hx200_0
      try clear hx201_0
      try clear hx215_0
      try clear hx243_0
      try clear hx243_1
      try clear hx243_2
      try clear hx243_3
      try clear hx258_0
      try clear hx258_1
      try clear hx258_2
      try clear hx258_3
      try clear hx259_0
      try clear hx259_1
      try clear hx259_2
      try clear hx259_3
      try clear hx260_0
      try clear hx260_1
      try clear hx260_2
      try clear hx260_3
      try clear p2
      try clear p20
      try clear p200
      try clear p201
      try clear p21
      try clear p215
      try clear p24
      try clear p243
      try clear p25
      try clear p258
      try clear p259
      try clear p26
      try clear p260
      try clear p6
      try clear p64
      try clear q2
      try clear q20
      try clear q200
      try clear q201
      try clear q21
      try clear q215
      try clear q24
      try clear q243
      try clear q25
      try clear q258
      try clear q259
      try clear q26
      try clear q260
      try clear q5
      try clear q58
      try clear q7
      try clear q74
      obtain ⟨x26_2, x196000_2, x196001_2, x196002_2, rfl, HA, HK2, HO_7, HO_8, HI195, HI199, HB⟩ := hrel
      cases gk with
      | zero => exact absurd HA.out (by simp [lw16_CreditMeets.l1])
      | succ k2 => as_aux_lemma =>
       have H := HA.out
       clear HA
       simp only [lw16_CreditMeets.l1] at H
       by_cases c87 : x26_2 < (x8_1.length : Int)
       ·
        rw [if_pos c87] at H
        have c87b0 : decide (x26_2 < (x8_1.length : Int)) = true := decide_eq_true c87
        clear c87
        by_cases c88 : 0 ≤ x26_2
        ·
         rw [if_pos c88] at H
         have c88b0 : decide (0 ≤ x26_2) = true := decide_eq_true c88
         clear c88
         replace H := Option.bind_eq_some_iff.mp H
         obtain ⟨⟨t289, t290, t291⟩, A890, H⟩ := H
         replace H : (lw16_CreditMeets.l1 k2 x7_1 x8_1 (wrap64 (x26_2 + 1)) t289 t290 t291 x200000_1 x200001_1 x200002_1) = some r := H
         have A89 := Aside0.mk A890
         clear A890
         as_aux_lemma =>
          have H' := Aside0.mk H
          clear H
          obtain ⟨Ao90, co90, eo90⟩ := Kd.R_slice HO_8.out
          subst eo90
          try go_wp2
          have n0_ := Aside0.mk (Kd.R_drew HO_7.out)
          have n1_ := Aside0.mk (Kd.R_drew HO_8.out)
          have n2_ := Aside0.mk (IsS54.drew HI195.out)
          have n3_ := Aside0.mk (IsS54.drew HI199.out)
          have n4_ := Aside0.mk (below_drew1 HB.out)
          clear HO_7
          clear HO_8
          clear HI195
          clear HI199
          clear HB
          have HO_7 := n0_
          have HO_8 := n1_
          have HI195 := n2_
          have HI199 := n3_
          have HB := n4_
          clear n0_ n1_ n2_ n3_ n4_
          have p286 : 0 ≤ (x26_2 : Int) := of_decide_eq_true (by first | (with_reducible assumption) | assumption)
          have q286 : x26_2 < (x8_1.length : Int) := of_decide_eq_true (by first | (with_reducible assumption) | assumption)
          obtain ⟨ad286, e286, hx286_0, hx286_1, hx286_2, hx286_3⟩ := at_T42 (Kd.R_reads' HO_8.out).2.2 x26_2 p286 q286
          cases e286
          replace p286 := eq_true p286
          replace q286 := eq_true q286
          have p287 : 0 ≤ (x26_2 : Int) := of_decide_eq_true (by first | (with_reducible assumption) | assumption)
          have q287 : x26_2 < (x8_1.length : Int) := of_decide_eq_true (by first | (with_reducible assumption) | assumption)
          obtain ⟨ad287, e287, hx287_0, hx287_1, hx287_2, hx287_3⟩ := at_T42 (Kd.R_reads' HO_8.out).2.2 x26_2 p287 q287
          obtain rfl : ad286 = ad287 := (by injection e287)
          replace p287 := eq_true p287
          replace q287 := eq_true q287
          have p288 : 0 ≤ (x26_2 : Int) := of_decide_eq_true (by first | (with_reducible assumption) | assumption)
          have q288 : x26_2 < (x8_1.length : Int) := of_decide_eq_true (by first | (with_reducible assumption) | assumption)
          obtain ⟨ad288, e288, hx288_0, hx288_1, hx288_2, hx288_3⟩ := at_T42 (Kd.R_reads' HO_8.out).2.2 x26_2 p288 q288
          obtain rfl : ad286 = ad288 := (by injection e288)
          replace p288 := eq_true p288
          replace q288 := eq_true q288
          refine start_ (n := 17) (S := fun w' => w'.cell? (ad286.add ((x26_2).toNat * 4)) = some (.bool ((rd_T42 x8_1 x26_2).f0)) ∧ w'.cell? ⟨(ad286.add ((x26_2).toNat * 4)).block, (ad286.add ((x26_2).toNat * 4)).off + 1, none⟩ = some (.int .u32 ((rd_T42 x8_1 x26_2).f1)) ∧ w'.cell? ⟨(ad286.add ((x26_2).toNat * 4)).block, (ad286.add ((x26_2).toNat * 4)).off + 2, none⟩ = some (.int .u32 ((rd_T42 x8_1 x26_2).f2)) ∧ w'.cell? ⟨(ad286.add ((x26_2).toNat * 4)).block, (ad286.add ((x26_2).toNat * 4)).off + 3, none⟩ = some (.bool ((rd_T42 x8_1 x26_2).f3)) ∧ w'.cell? (ad286.add ((x26_2).toNat * 4)) = some (.bool ((rd_T42 x8_1 x26_2).f0)) ∧ w'.cell? ⟨(ad286.add ((x26_2).toNat * 4)).block, (ad286.add ((x26_2).toNat * 4)).off + 1, none⟩ = some (.int .u32 ((rd_T42 x8_1 x26_2).f1)) ∧ w'.cell? ⟨(ad286.add ((x26_2).toNat * 4)).block, (ad286.add ((x26_2).toNat * 4)).off + 2, none⟩ = some (.int .u32 ((rd_T42 x8_1 x26_2).f2)) ∧ w'.cell? ⟨(ad286.add ((x26_2).toNat * 4)).block, (ad286.add ((x26_2).toNat * 4)).off + 3, none⟩ = some (.bool ((rd_T42 x8_1 x26_2).f3)) ∧ w'.cell? (ad286.add ((x26_2).toNat * 4)) = some (.bool ((rd_T42 x8_1 x26_2).f0)) ∧ w'.cell? ⟨(ad286.add ((x26_2).toNat * 4)).block, (ad286.add ((x26_2).toNat * 4)).off + 1, none⟩ = some (.int .u32 ((rd_T42 x8_1 x26_2).f1)) ∧ w'.cell? ⟨(ad286.add ((x26_2).toNat * 4)).block, (ad286.add ((x26_2).toNat * 4)).off + 2, none⟩ = some (.int .u32 ((rd_T42 x8_1 x26_2).f2)) ∧ w'.cell? ⟨(ad286.add ((x26_2).toNat * 4)).block, (ad286.add ((x26_2).toNat * 4)).off + 3, none⟩ = some (.bool ((rd_T42 x8_1 x26_2).f3))) (ds := []) #[false, false, false, false, false, false, false, false, false, false, false, false, false, false, false, false, false] (by kernel_rfl) rfl rfl ⟨hx286_0, hx286_1, hx286_2, hx286_3, hx287_0, hx287_1, hx287_2, hx287_3, hx288_0, hx288_1, hx288_2, hx288_3⟩ (fun hHeld => ?_); refine with_tabW lw16_CreditMeets.tab44 lw16_CreditMeets.bits44 (fun HT_ HW_ => ?_)
          generalize wr.drew = w91 at HO_7 HO_8 HI195 HI199 HB hx286_0 hx286_1 hx286_2 hx286_3 hx287_0 hx287_1 hx287_2 hx287_3 hx288_0 hx288_1 hx288_2 hx288_3 hHeld ⊢
          refine pure_ (i := 0) (N := some 195) (v := ?_) (a' := ?_) #[true, false, false, false, false, false, false, false, false, false, false, false, false, false, false, false, false] rfl rfl (any_of HT_.out (by kernel_rfl)) (fun _ _ _ h => h) (Or.inl ⟨by rfl, ?_⟩) ?_ ?_
          rotate_left
          ·
           intro w'
           go_simp
           with_reducible rfl
          rotate_left
          ·
           simp only [Act.put, List.setIfInBounds_toArray, List.set_cons_zero, List.set_cons_succ, i64_w, i32_w]
           rfl
          refine pure_ (i := 1) (N := some 196) (v := ?_) (a' := ?_) #[true, true, false, false, false, false, false, false, false, false, false, false, false, false, false, false, false] rfl rfl (any_of HT_.out (by kernel_rfl)) (fun _ _ _ h => h) (Or.inl ⟨by rfl, ?_⟩) ?_ ?_
          rotate_left
          ·
           intro w'
           go_simp
           with_reducible rfl
          rotate_left
          ·
           simp only [Act.put, List.setIfInBounds_toArray, List.set_cons_zero, List.set_cons_succ, i64_w, i32_w]
           rfl
          refine pure_ (i := 2) (N := some 197) (v := ?_) (a' := ?_) #[true, true, true, false, false, false, false, false, false, false, false, false, false, false, false, false, false] rfl rfl (any_of HT_.out (by kernel_rfl)) (fun _ _ _ h => h) (Or.inl ⟨by rfl, ?_⟩) ?_ ?_
          rotate_left
          ·
           intro w'
           go_simp
           with_reducible rfl
          rotate_left
          ·
           simp only [Act.put, List.setIfInBounds_toArray, List.set_cons_zero, List.set_cons_succ, i64_w, i32_w]
           rfl
          refine pure_ (i := 3) (N := some 198) (v := ?_) (a' := ?_) #[true, true, true, true, false, false, false, false, false, false, false, false, false, false, false, false, false] rfl rfl (any_of HT_.out (by kernel_rfl)) (fun _ _ _ h => h) (Or.inl ⟨by rfl, ?_⟩) ?_ ?_
          rotate_left
          ·
           intro w'
           go_simp
           with_reducible rfl
          rotate_left
          ·
           simp only [Act.put, List.setIfInBounds_toArray, List.set_cons_zero, List.set_cons_succ, i64_w, i32_w]
           rfl
          refine pure_ (i := 4) (N := some 199) (v := ?_) (a' := ?_) #[true, true, true, true, true, false, false, false, false, false, false, false, false, false, false, false, false] rfl rfl (any_of HT_.out (by kernel_rfl)) (fun _ _ _ h => h) (Or.inl ⟨by rfl, ?_⟩) ?_ ?_
          rotate_left
          ·
           intro w'
           go_simp
           with_reducible rfl
          rotate_left
          ·
           simp only [Act.put, List.setIfInBounds_toArray, List.set_cons_zero, List.set_cons_succ, i64_w, i32_w]
           rfl
          refine pure_ (i := 6) (N := some 201) (v := ?_) (a' := ?_) #[true, true, true, true, true, false, true, false, false, false, false, false, false, false, false, false, false] rfl rfl (any_of HT_.out (by kernel_rfl)) (fun _ _ _ h => h) (Or.inl ⟨by rfl, ?_⟩) ?_ ?_
          rotate_left
          ·
           intro w'
           go_simp
           with_reducible rfl
          rotate_left
          ·
           simp only [Act.put, List.setIfInBounds_toArray, List.set_cons_zero, List.set_cons_succ, i64_w, i32_w]
           rfl
          refine pure_ (i := 7) (N := some 202) (v := ?_) (a' := ?_) #[true, true, true, true, true, false, true, true, false, false, false, false, false, false, false, false, false] rfl rfl (any_of HT_.out (by kernel_rfl)) (fun _ _ _ h => h) (Or.inl ⟨by rfl, ?_⟩) ?_ ?_
          rotate_left
          ·
           intro w'
           go_simp
           with_reducible rfl
          rotate_left
          ·
           simp only [Act.put, List.setIfInBounds_toArray, List.set_cons_zero, List.set_cons_succ, i64_w, i32_w]
           rfl
          refine pure_ (i := 8) (N := some 203) (v := ?_) (a' := ?_) #[true, true, true, true, true, false, true, true, true, false, false, false, false, false, false, false, false] rfl rfl (any_of HT_.out (by kernel_rfl)) (fun _ _ _ h => h) (Or.inl ⟨by rfl, ?_⟩) ?_ ?_
          rotate_left
          ·
           intro w'
           go_simp
           with_reducible rfl
          rotate_left
          ·
           simp only [Act.put, List.setIfInBounds_toArray, List.set_cons_zero, List.set_cons_succ, i64_w, i32_w]
           rfl
          refine pure_ (i := 9) (N := some 204) (v := ?_) (a' := ?_) #[true, true, true, true, true, false, true, true, true, true, false, false, false, false, false, false, false] rfl rfl (any_of HT_.out (by kernel_rfl)) (fun _ _ _ h => h) (Or.inl ⟨by rfl, ?_⟩) ?_ ?_
          rotate_left
          ·
           intro w'
           go_simp
           with_reducible rfl
          rotate_left
          ·
           simp only [Act.put, List.setIfInBounds_toArray, List.set_cons_zero, List.set_cons_succ, i64_w, i32_w]
           rfl
          refine pure_ (i := 11) (N := some 206) (v := ?_) (a' := ?_) #[true, true, true, true, true, false, true, true, true, true, false, true, false, false, false, false, false] rfl rfl (any_of HT_.out (by kernel_rfl)) (fun _ _ _ h => h) (Or.inl ⟨by rfl, ?_⟩) ?_ ?_
          rotate_left
          ·
           intro w'
           go_simp
           with_reducible rfl
          rotate_left
          ·
           simp only [Act.put, List.setIfInBounds_toArray, List.set_cons_zero, List.set_cons_succ, i64_w, i32_w]
           rfl
          refine pure_ (i := 12) (N := some 207) (v := ?_) (a' := ?_) #[true, true, true, true, true, false, true, true, true, true, false, true, true, false, false, false, false] rfl rfl (any_of HT_.out (by kernel_rfl)) (fun _ _ _ h => h) (Or.inl ⟨by rfl, ?_⟩) ?_ ?_
          rotate_left
          ·
           intro w'
           go_simp
           with_reducible rfl
          rotate_left
          ·
           simp only [Act.put, List.setIfInBounds_toArray, List.set_cons_zero, List.set_cons_succ, i64_w, i32_w]
           rfl
          refine pure_ (i := 13) (N := some 208) (v := ?_) (a' := ?_) #[true, true, true, true, true, false, true, true, true, true, false, true, true, true, false, false, false] rfl rfl (any_of HT_.out (by kernel_rfl)) (fun _ _ _ h => h) (Or.inl ⟨by rfl, ?_⟩) ?_ ?_
          rotate_left
          ·
           intro w'
           go_simp
           with_reducible rfl
          rotate_left
          ·
           simp only [Act.put, List.setIfInBounds_toArray, List.set_cons_zero, List.set_cons_succ, i64_w, i32_w]
           rfl
          refine pure_ (i := 14) (N := some 209) (v := ?_) (a' := ?_) #[true, true, true, true, true, false, true, true, true, true, false, true, true, true, true, false, false] rfl rfl (any_of HT_.out (by kernel_rfl)) (fun _ _ _ h => h) (Or.inl ⟨by rfl, ?_⟩) ?_ ?_
          rotate_left
          ·
           intro w'
           go_simp
           with_reducible rfl
          rotate_left
          ·
           simp only [Act.put, List.setIfInBounds_toArray, List.set_cons_zero, List.set_cons_succ, i64_w, i32_w]
           rfl
          refine take_ (i := 5) (N := some 200) (v := ?_) (a' := ?_) #[true, true, true, true, true, true, true, true, true, true, false, true, true, true, true, false, false] rfl rfl (take_ofW HT_.out HW_.out (by kernel_rfl)) (fun _ _ _ h => h) (Or.inl ⟨by rfl, ?_⟩) hHeld ?_ ?_
          rotate_left
          ·
           rintro w' ⟨s0, s1, s2, s3, s4, s5, s6, s7, s8, s9, s10, s11⟩
           go_simp
           with_reducible rfl
          rotate_left
          ·
           simp only [Act.put, List.setIfInBounds_toArray, List.set_cons_zero, List.set_cons_succ, i64_w, i32_w]
           rfl
          refine take_ (i := 10) (N := some 205) (v := ?_) (a' := ?_) #[true, true, true, true, true, true, true, true, true, true, true, true, true, true, true, false, false] rfl rfl (take_ofW HT_.out HW_.out (by kernel_rfl)) (fun _ _ _ h => h) (Or.inl ⟨by rfl, ?_⟩) hHeld ?_ ?_
          rotate_left
          ·
           rintro w' ⟨s0, s1, s2, s3, s4, s5, s6, s7, s8, s9, s10, s11⟩
           go_simp
           with_reducible rfl
          rotate_left
          ·
           simp only [Act.put, List.setIfInBounds_toArray, List.set_cons_zero, List.set_cons_succ, i64_w, i32_w]
           rfl
          refine take_ (i := 15) (N := some 210) (v := ?_) (a' := ?_) #[true, true, true, true, true, true, true, true, true, true, true, true, true, true, true, true, false] rfl rfl (take_ofW HT_.out HW_.out (by kernel_rfl)) (fun _ _ _ h => h) (Or.inl ⟨by rfl, ?_⟩) hHeld ?_ ?_
          rotate_left
          ·
           rintro w' ⟨s0, s1, s2, s3, s4, s5, s6, s7, s8, s9, s10, s11⟩
           go_simp
           with_reducible rfl
          rotate_left
          ·
           simp only [Act.put, List.setIfInBounds_toArray, List.set_cons_zero, List.set_cons_succ, i64_w, i32_w]
           rfl
          refine one_ (i := 16) (N := some 211) #[true, true, true, true, true, true, true, true, true, true, true, true, true, true, true, true, true] rfl rfl (one_of HT_.out (by kernel_rfl)) (by decide) (fun K hK => ?_)
          refine goes_ Try.func20 (by kernel_rfl) rfl #[.pointer (some ⟨g195, 0, none⟩), .int .u32 ((rd_T42 x8_1 x26_2).f1), .int .u32 ((rd_T42 x8_1 x26_2).f2), .bool ((rd_T42 x8_1 x26_2).f3)] (by rfl) rfl rfl (by (try simp only [List.map_toArray, List.map_cons, List.map_nil]); first | done | rfl | (simp only [List.length_drop, List.length_take]; rfl)) ?_
          with_reducible refine (cr_Told.calls g195 x196000_2 x196001_2 x196002_2 ((rd_T42 x8_1 x26_2).f1) ((rd_T42 x8_1 x26_2).f2) ((rd_T42 x8_1 x26_2).f3) t289 t290 t291 w _ ?side1 ?side2 A89.out).mono ?_
          (case side1 => repeat (first | (with_reducible first | exact HI195.out | apply IsS54.alloc | apply IsS54.drewN | apply IsS54.drew | apply IsS54.set_0 | apply IsS54.set_1 | apply IsS54.set_2) | exact HI195.out))
          (case side2 => repeat (first | (with_reducible first | exact HB.out | apply below_alloc | apply pw_below_drewN | apply below_drew1 | refine below_set ?_ (IsS54.ge HI195.out) | refine below_set ?_ (IsS54.ge HI199.out)) | exact HB.out))
          rintro e w92 ⟨rfl, hi, hb, hk⟩
          have HS0_ := keep_cell hk (hHeld.1) (by first | (rw [add_block]; exact Kd.own_blk (IsS54.own_ne HI195.out HO_8.out (by decide))) | (show (Addr.add _ _).block ≠ _; rw [add_block]; exact Kd.own_blk (IsS54.own_ne HI195.out HO_8.out (by decide))) | exact Kd.own_blk (IsS54.own_ne HI195.out HO_8.out (by decide)) | (dsimp only; exact Kd.own_blk (IsS54.own_ne HI195.out HO_8.out (by decide))))
          have HS1_ := keep_cell hk (hHeld.2.1) (by first | (rw [add_block]; exact Kd.own_blk (IsS54.own_ne HI195.out HO_8.out (by decide))) | (show (Addr.add _ _).block ≠ _; rw [add_block]; exact Kd.own_blk (IsS54.own_ne HI195.out HO_8.out (by decide))) | exact Kd.own_blk (IsS54.own_ne HI195.out HO_8.out (by decide)) | (dsimp only; exact Kd.own_blk (IsS54.own_ne HI195.out HO_8.out (by decide))))
          have HS2_ := keep_cell hk (hHeld.2.2.1) (by first | (rw [add_block]; exact Kd.own_blk (IsS54.own_ne HI195.out HO_8.out (by decide))) | (show (Addr.add _ _).block ≠ _; rw [add_block]; exact Kd.own_blk (IsS54.own_ne HI195.out HO_8.out (by decide))) | exact Kd.own_blk (IsS54.own_ne HI195.out HO_8.out (by decide)) | (dsimp only; exact Kd.own_blk (IsS54.own_ne HI195.out HO_8.out (by decide))))
          have HS3_ := keep_cell hk (hHeld.2.2.2.1) (by first | (rw [add_block]; exact Kd.own_blk (IsS54.own_ne HI195.out HO_8.out (by decide))) | (show (Addr.add _ _).block ≠ _; rw [add_block]; exact Kd.own_blk (IsS54.own_ne HI195.out HO_8.out (by decide))) | exact Kd.own_blk (IsS54.own_ne HI195.out HO_8.out (by decide)) | (dsimp only; exact Kd.own_blk (IsS54.own_ne HI195.out HO_8.out (by decide))))
          have HS4_ := keep_cell hk (hHeld.2.2.2.2.1) (by first | (rw [add_block]; exact Kd.own_blk (IsS54.own_ne HI195.out HO_8.out (by decide))) | (show (Addr.add _ _).block ≠ _; rw [add_block]; exact Kd.own_blk (IsS54.own_ne HI195.out HO_8.out (by decide))) | exact Kd.own_blk (IsS54.own_ne HI195.out HO_8.out (by decide)) | (dsimp only; exact Kd.own_blk (IsS54.own_ne HI195.out HO_8.out (by decide))))
          have HS5_ := keep_cell hk (hHeld.2.2.2.2.2.1) (by first | (rw [add_block]; exact Kd.own_blk (IsS54.own_ne HI195.out HO_8.out (by decide))) | (show (Addr.add _ _).block ≠ _; rw [add_block]; exact Kd.own_blk (IsS54.own_ne HI195.out HO_8.out (by decide))) | exact Kd.own_blk (IsS54.own_ne HI195.out HO_8.out (by decide)) | (dsimp only; exact Kd.own_blk (IsS54.own_ne HI195.out HO_8.out (by decide))))
          have HS6_ := keep_cell hk (hHeld.2.2.2.2.2.2.1) (by first | (rw [add_block]; exact Kd.own_blk (IsS54.own_ne HI195.out HO_8.out (by decide))) | (show (Addr.add _ _).block ≠ _; rw [add_block]; exact Kd.own_blk (IsS54.own_ne HI195.out HO_8.out (by decide))) | exact Kd.own_blk (IsS54.own_ne HI195.out HO_8.out (by decide)) | (dsimp only; exact Kd.own_blk (IsS54.own_ne HI195.out HO_8.out (by decide))))
          have HS7_ := keep_cell hk (hHeld.2.2.2.2.2.2.2.1) (by first | (rw [add_block]; exact Kd.own_blk (IsS54.own_ne HI195.out HO_8.out (by decide))) | (show (Addr.add _ _).block ≠ _; rw [add_block]; exact Kd.own_blk (IsS54.own_ne HI195.out HO_8.out (by decide))) | exact Kd.own_blk (IsS54.own_ne HI195.out HO_8.out (by decide)) | (dsimp only; exact Kd.own_blk (IsS54.own_ne HI195.out HO_8.out (by decide))))
          have HS8_ := keep_cell hk (hHeld.2.2.2.2.2.2.2.2.1) (by first | (rw [add_block]; exact Kd.own_blk (IsS54.own_ne HI195.out HO_8.out (by decide))) | (show (Addr.add _ _).block ≠ _; rw [add_block]; exact Kd.own_blk (IsS54.own_ne HI195.out HO_8.out (by decide))) | exact Kd.own_blk (IsS54.own_ne HI195.out HO_8.out (by decide)) | (dsimp only; exact Kd.own_blk (IsS54.own_ne HI195.out HO_8.out (by decide))))
          have HS9_ := keep_cell hk (hHeld.2.2.2.2.2.2.2.2.2.1) (by first | (rw [add_block]; exact Kd.own_blk (IsS54.own_ne HI195.out HO_8.out (by decide))) | (show (Addr.add _ _).block ≠ _; rw [add_block]; exact Kd.own_blk (IsS54.own_ne HI195.out HO_8.out (by decide))) | exact Kd.own_blk (IsS54.own_ne HI195.out HO_8.out (by decide)) | (dsimp only; exact Kd.own_blk (IsS54.own_ne HI195.out HO_8.out (by decide))))
          have HS10_ := keep_cell hk (hHeld.2.2.2.2.2.2.2.2.2.2.1) (by first | (rw [add_block]; exact Kd.own_blk (IsS54.own_ne HI195.out HO_8.out (by decide))) | (show (Addr.add _ _).block ≠ _; rw [add_block]; exact Kd.own_blk (IsS54.own_ne HI195.out HO_8.out (by decide))) | exact Kd.own_blk (IsS54.own_ne HI195.out HO_8.out (by decide)) | (dsimp only; exact Kd.own_blk (IsS54.own_ne HI195.out HO_8.out (by decide))))
          have HS11_ := keep_cell hk (hHeld.2.2.2.2.2.2.2.2.2.2.2) (by first | (rw [add_block]; exact Kd.own_blk (IsS54.own_ne HI195.out HO_8.out (by decide))) | (show (Addr.add _ _).block ≠ _; rw [add_block]; exact Kd.own_blk (IsS54.own_ne HI195.out HO_8.out (by decide))) | exact Kd.own_blk (IsS54.own_ne HI195.out HO_8.out (by decide)) | (dsimp only; exact Kd.own_blk (IsS54.own_ne HI195.out HO_8.out (by decide))))
          refine ⟨_, rfl, ?_⟩
          have n0_ := Aside0.mk (Kd.R_mono (Kd.R_keep (IsS54.apart (show IsS54 w _ g195 x196000_2 x196001_2 x196002_2 from by repeat (first | (with_reducible first | exact HI195.out | apply IsS54.alloc | apply IsS54.drewN | apply IsS54.drew | apply IsS54.set_0 | apply IsS54.set_1 | apply IsS54.set_2) | exact HI195.out)) (by (with_reducible repeat (first | apply Kd.R_alloc | apply Kd.R_drewN | apply Kd.R_drew)); exact HO_7.out) (by decide)) hk (fun _ h => h.2)) (fun _ h => h.1))
          have n1_ := Aside0.mk (Kd.R_mono (Kd.R_keep (IsS54.apart (show IsS54 w _ g195 x196000_2 x196001_2 x196002_2 from by repeat (first | (with_reducible first | exact HI195.out | apply IsS54.alloc | apply IsS54.drewN | apply IsS54.drew | apply IsS54.set_0 | apply IsS54.set_1 | apply IsS54.set_2) | exact HI195.out)) (by (with_reducible repeat (first | apply Kd.R_alloc | apply Kd.R_drewN | apply Kd.R_drew)); exact HO_8.out) (by decide)) hk (fun _ h => h.2)) (fun _ h => h.1))
          have n2_ := Aside0.mk (IsS54.beside (show IsS54 w _ g199 x200000_1 x200001_1 x200002_1 from by repeat (first | (with_reducible first | exact HI199.out | apply IsS54.alloc | apply IsS54.drewN | apply IsS54.drew | apply IsS54.set_0 | apply IsS54.set_1 | apply IsS54.set_2) | exact HI199.out)) hk NS199_195.out)
          have n3_ := Aside0.mk (hb)
          have n4_ := Aside0.mk (hi)
          clear HO_7
          clear HO_8
          clear HI199
          clear HB
          clear HI195
          have HO_7 := n0_
          have HO_8 := n1_
          have HI199 := n2_
          have HB := n3_
          have HI195 := n4_
          clear n0_ n1_ n2_ n3_ n4_
          (try clear hb)
          (try clear hb2)
          (try clear hk)
          (try clear hi)
          (try clear hgw)
          refine hK.out _ _ ⟨HS0_, HS1_, HS2_, HS3_, HS4_, HS5_, HS6_, HS7_, HS8_, HS9_, HS10_, HS11_⟩ (fun hHeld => ?_)
          clear hK K
          refine norm_ (a' := ?_) ?_ ?_
          rotate_left
          ·
           show Act.put _ (some 211) _ = _
           simp only [Act.put, List.setIfInBounds_toArray, List.set_cons_zero, List.set_cons_succ, i64_w, i32_w]
           rfl
          refine done_ (done_of HT_.out (by kernel_rfl)) ?_
          try go_wp2
          go_roundg k2
          case measure => have := HK1.out; have := HK2.out; omega
          case rel => exact ⟨(wrap64 (x26_2 + 1)), (t289), (t290), (t291), (by first | rfl | (simp; done) | (simp [*]; done)), H', ⟨by have := HK1.out; have := HK2.out; omega⟩, ⟨by (with_reducible repeat (first | apply Kd.R_alloc | apply Kd.R_drewN | apply Kd.R_drew)); exact HO_7.out⟩, ⟨by (with_reducible repeat (first | apply Kd.R_alloc | apply Kd.R_drewN | apply Kd.R_drew)); exact HO_8.out⟩, ⟨by repeat (first | (with_reducible first | exact HI195.out | apply IsS54.alloc | apply IsS54.drewN | apply IsS54.drew | apply IsS54.set_0 | apply IsS54.set_1 | apply IsS54.set_2) | exact HI195.out)⟩, ⟨by repeat (first | (with_reducible first | exact HI199.out | apply IsS54.alloc | apply IsS54.drewN | apply IsS54.drew | apply IsS54.set_0 | apply IsS54.set_1 | apply IsS54.set_2) | exact HI199.out)⟩, ⟨by repeat (first | (with_reducible first | exact HB.out | apply below_alloc | apply pw_below_drewN | apply below_drew1 | refine below_set ?_ (IsS54.ge HI195.out) | refine below_set ?_ (IsS54.ge HI199.out)) | exact HB.out)⟩⟩
        ·
         rw [if_neg c88] at H
         exact absurd H (by simp)
       ·
        rw [if_neg c87] at H
        have c87b0 : decide (x26_2 < (x8_1.length : Int)) = false := decide_eq_false c87
        clear c87
        replace H := Option.bind_eq_some_iff.mp H
        obtain ⟨⟨t292, t293, t294, t295, t296⟩, A930, H⟩ := H
        replace H : (if t293 = true then ((cr_Left.f t294 t295 t296).bind fun bt297 => (if x7_1.length < 8796093022208 then (lw16_CreditMeets.j5 k2 (x7_1 ++ [(⟨true, bt297.1, 0, false⟩ : S42)]) t293 bt297.2.2.2.1 bt297.2.2.2.2.1 bt297.2.2.2.2.2 x200000_1 x200001_1 x200002_1) else (none))) else (lw16_CreditMeets.j5 k2 x7_1 t293 t294 t295 t296 x200000_1 x200001_1 x200002_1)) = some r := H
        have A93 := Aside0.mk A930
        clear A930
        have HC94 := Aside0.mk H
        clear H
        obtain ⟨Ao95, co95, eo95⟩ := Kd.R_slice HO_8.out
        subst eo95
        go_upto_if 217 with (first | ((with_reducible refine gate_callee (f := 18) rfl ?_); refine goesL_ (some 214) rfl rfl Try.func18 (by kernel_rfl) rfl #[.pointer (some ⟨g195, 0, none⟩)] rfl (by (try simp only [List.map_toArray, List.map_cons, List.map_nil]); first | done | rfl | (simp only [List.length_drop, List.length_take]; rfl)) ?_; (with_reducible refine (cr_Dry.calls g195 x196000_2 x196001_2 x196002_2 t292 t293 t294 t295 t296 w _ ?side1 ?side2 A93.out).mono ?_); (case side1 => repeat (first | (with_reducible first | exact HI195.out | apply IsS54.alloc | apply IsS54.drewN | apply IsS54.drew | apply IsS54.set_0 | apply IsS54.set_1 | apply IsS54.set_2) | exact HI195.out)); (case side2 => repeat (first | (with_reducible first | exact HB.out | apply below_alloc | apply pw_below_drewN | apply below_drew1 | refine below_set ?_ (IsS54.ge HI195.out) | refine below_set ?_ (IsS54.ge HI199.out)) | exact HB.out)); rintro e w96 ⟨rfl, hi, hb, hk⟩; refine ⟨_, rfl, ?_⟩; have n0_ := Aside0.mk (Kd.R_mono (Kd.R_keep (IsS54.apart (show IsS54 w _ g195 x196000_2 x196001_2 x196002_2 from by repeat (first | (with_reducible first | exact HI195.out | apply IsS54.alloc | apply IsS54.drewN | apply IsS54.drew | apply IsS54.set_0 | apply IsS54.set_1 | apply IsS54.set_2) | exact HI195.out)) (by (with_reducible repeat (first | apply Kd.R_alloc | apply Kd.R_drewN | apply Kd.R_drew)); exact HO_7.out) (by decide)) hk (fun _ h => h.2)) (fun _ h => h.1)); have n1_ := Aside0.mk (Kd.R_mono (Kd.R_keep (IsS54.apart (show IsS54 w _ g195 x196000_2 x196001_2 x196002_2 from by repeat (first | (with_reducible first | exact HI195.out | apply IsS54.alloc | apply IsS54.drewN | apply IsS54.drew | apply IsS54.set_0 | apply IsS54.set_1 | apply IsS54.set_2) | exact HI195.out)) (by (with_reducible repeat (first | apply Kd.R_alloc | apply Kd.R_drewN | apply Kd.R_drew)); exact HO_8.out) (by decide)) hk (fun _ h => h.2)) (fun _ h => h.1)); have n2_ := Aside0.mk (IsS54.beside (show IsS54 w _ g199 x200000_1 x200001_1 x200002_1 from by repeat (first | (with_reducible first | exact HI199.out | apply IsS54.alloc | apply IsS54.drewN | apply IsS54.drew | apply IsS54.set_0 | apply IsS54.set_1 | apply IsS54.set_2) | exact HI199.out)) hk NS199_195.out); have n3_ := Aside0.mk (hb); have n4_ := Aside0.mk (hi); clear HO_7; clear HO_8; clear HI199; clear HB; clear HI195; have HO_7 := n0_; have HO_8 := n1_; have HI199 := n2_; have HB := n3_; have HI195 := n4_; clear n0_ n1_ n2_ n3_ n4_; (try clear hb); (try clear hb2); (try clear hk); (try clear hi); (try clear hgw)))
        (try simp only [Act.put, List.setIfInBounds_toArray, List.set_cons_zero, List.set_cons_succ])
        go_cut [7] (fun v7 wc => ∃ (kq : Nat) (x7_93 : List (S42)) (x196000_93 : Int) (x196001_93 : Int) (x196002_93 : Bool), Aside0 (lw16_CreditMeets.j5 kq x7_93 t293 x196000_93 x196001_93 x196002_93 x200000_1 x200001_1 x200002_1 = some r) ∧ Aside0 (kq ≤ k2) ∧ Aside0 (Kd.R k42 42 wc w.heap.size (fun _ => True) v7 x7_93) ∧ Aside0 (IsS54 w wc g195 x196000_93 x196001_93 x196002_93) ∧ Aside0 (IsS54 w wc g199 x200000_1 x200001_1 x200002_1) ∧ Aside0 (Below w.heap.size w wc))
        case first =>
         have H := HC94.out
         clear HC94
         by_cases c97 : t293 = true
         ·
          subst c97
          have H1 : ((cr_Left.f t294 t295 t296).bind fun bt297 => (if x7_1.length < 8796093022208 then (lw16_CreditMeets.j5 k2 (x7_1 ++ [(⟨true, bt297.1, 0, false⟩ : S42)]) true bt297.2.2.2.1 bt297.2.2.2.2.1 bt297.2.2.2.2.2 x200000_1 x200001_1 x200002_1) else (none))) = some r := by rw [if_pos rfl] at H; exact H
          clear H
          have H := H1
          clear H1
          replace H := Option.bind_eq_some_iff.mp H
          obtain ⟨⟨t297, t298, t299, t300, t301, t302⟩, A980, H⟩ := H
          replace H : (if x7_1.length < 8796093022208 then (lw16_CreditMeets.j5 k2 (x7_1 ++ [(⟨true, t297, 0, false⟩ : S42)]) true t300 t301 t302 x200000_1 x200001_1 x200002_1) else (none)) = some r := H
          have A98 := Aside0.mk A980
          clear A980
          by_cases c99 : x7_1.length < 8796093022208
          ·
           rw [if_pos c99] at H
           have LMc99 := Aside0.mk c99
           clear c99
           obtain ⟨y303, hy303⟩ : ∃ y_ : List (S42), y_ = (x7_1 ++ [(⟨true, t297, 0, false⟩ : S42)]) := ⟨_, rfl⟩
           replace H : (lw16_CreditMeets.j5 k2 y303 true t300 t301 t302 x200000_1 x200001_1 x200002_1) = some r := by first | (rw [hy303]; with_reducible exact H) | (have H2_ := (Option.bind_some _ _).symm.trans H; rw [hy303]; with_reducible exact H2_) | (have H2_ := (Option.bind_some _ _).symm.trans H; with_reducible exact H2_) | with_reducible exact H | (rw [hy303]; exact H) | exact H
           have Ny303 := Aside0.mk hy303
           clear hy303
           as_aux_lemma =>
            have H' := Aside0.mk H
            clear H
            go_wp2_with (first | ((with_reducible refine gate_callee (f := 14) rfl ?_); refine goesL_ (some 220) rfl rfl Try.func14 (by kernel_rfl) rfl #[.pointer (some ⟨g195, 0, none⟩)] rfl (by (try simp only [List.map_toArray, List.map_cons, List.map_nil]); first | done | rfl | (simp only [List.length_drop, List.length_take]; rfl)) ?_; (with_reducible refine (cr_Left.calls g195 t294 t295 t296 t297 t298 t299 t300 t301 t302 w _ ?side1 ?side2 A98.out).mono ?_); (case side1 => repeat (first | (with_reducible first | exact HI195.out | apply IsS54.alloc | apply IsS54.drewN | apply IsS54.drew | apply IsS54.set_0 | apply IsS54.set_1 | apply IsS54.set_2) | exact HI195.out)); (case side2 => repeat (first | (with_reducible first | exact HB.out | apply below_alloc | apply pw_below_drewN | apply below_drew1 | refine below_set ?_ (IsS54.ge HI195.out) | refine below_set ?_ (IsS54.ge HI199.out)) | exact HB.out)); rintro e w100 ⟨rfl, hi, hb, hk⟩; refine ⟨_, rfl, ?_⟩; have n0_ := Aside0.mk (Kd.R_mono (Kd.R_keep (IsS54.apart (show IsS54 w _ g195 t294 t295 t296 from by repeat (first | (with_reducible first | exact HI195.out | apply IsS54.alloc | apply IsS54.drewN | apply IsS54.drew | apply IsS54.set_0 | apply IsS54.set_1 | apply IsS54.set_2) | exact HI195.out)) (by (with_reducible repeat (first | apply Kd.R_alloc | apply Kd.R_drewN | apply Kd.R_drew)); exact HO_7.out) (by decide)) hk (fun _ h => h.2)) (fun _ h => h.1)); have n1_ := Aside0.mk (Kd.R_mono (Kd.R_keep (IsS54.apart (show IsS54 w _ g195 t294 t295 t296 from by repeat (first | (with_reducible first | exact HI195.out | apply IsS54.alloc | apply IsS54.drewN | apply IsS54.drew | apply IsS54.set_0 | apply IsS54.set_1 | apply IsS54.set_2) | exact HI195.out)) (by (with_reducible repeat (first | apply Kd.R_alloc | apply Kd.R_drewN | apply Kd.R_drew)); exact HO_8.out) (by decide)) hk (fun _ h => h.2)) (fun _ h => h.1)); have n2_ := Aside0.mk (IsS54.beside (show IsS54 w _ g199 x200000_1 x200001_1 x200002_1 from by repeat (first | (with_reducible first | exact HI199.out | apply IsS54.alloc | apply IsS54.drewN | apply IsS54.drew | apply IsS54.set_0 | apply IsS54.set_1 | apply IsS54.set_2) | exact HI199.out)) hk NS199_195.out); have n3_ := Aside0.mk (hb); have n4_ := Aside0.mk (hi); clear HO_7; clear HO_8; clear HI199; clear HB; clear HI195; have HO_7 := n0_; have HO_8 := n1_; have HI199 := n2_; have HB := n3_; have HI195 := n4_; clear n0_ n1_ n2_ n3_ n4_; (try clear hb); (try clear hb2); (try clear hk); (try clear hi); (try clear hgw)) | ((with_reducible refine gate_builtin (b := .append) (xs := #[.tmp 224, .tmp 227]) rfl ?_); at_builtin; refine Kd.R_append k42 (w0 := w) w.heap.size rfl (.tmp 224) (.tmp 227) 39 42 (.agg #[(.bool false), (.int .u32 0), (.int .u32 0), (.bool false)]) 16 rfl Try.underlying39 info42 rfl (by decide) (by omega) u7 x7_1 (⟨true, t297, 0, false⟩ : S42) [.bool true, .int .u32 t297, .int .u32 0, .bool false] (fun k_ => some k_ ≠ (.slice Ao95 x8_1.length co95 : Value).ownBlock) (fun _ => False) rfl rfl ?aP (fun _ hk => hk.elim) ?aF ?aO ?aB ?aS ?aL ?_; (case aP => exact k42_mkM _ _ _ (⟨true, t297, 0, false⟩ : S42)); (case aB => exact (by repeat (first | (with_reducible first | exact HB.out | apply below_alloc | apply pw_below_drewN | apply below_drew1 | refine below_set ?_ (IsS54.ge HI195.out) | refine below_set ?_ (IsS54.ge HI199.out)) | exact HB.out))); (case aF => exact (fun k_ hk => Kd.fresh' (Kd.R_lt (by (with_reducible repeat (first | apply Kd.R_alloc | apply Kd.R_drewN | apply Kd.R_drew)); exact HO_8.out)) k_ hk)); (case aO => exact (by (with_reducible repeat (first | apply Kd.R_alloc | apply Kd.R_drewN | apply Kd.R_drew)); exact HO_7.out)); (case aS => exact (below_size (by repeat (first | (with_reducible first | exact HB.out | apply below_alloc | apply pw_below_drewN | apply below_drew1 | refine below_set ?_ (IsS54.ge HI195.out) | refine below_set ?_ (IsS54.ge HI199.out)) | exact HB.out)))); (case aL => have := LMc99.out; omega); intro v304 w101 ho hb hg hat; rw [← Ny303.out] at ho; have n0_ := Aside0.mk (Kd.R_after (ok := (fun _ => True)) (by (with_reducible repeat (first | apply Kd.R_alloc | apply Kd.R_drewN | apply Kd.R_drew)); exact Kd.R_mono HO_8.out (fun _ hk => ⟨trivial, hk⟩)) hg hat); have n1_ := Aside0.mk (IsS54.grown (by repeat (first | (with_reducible first | exact HI195.out | apply IsS54.alloc | apply IsS54.drewN | apply IsS54.drew | apply IsS54.set_0 | apply IsS54.set_1 | apply IsS54.set_2) | exact HI195.out)) hg (IsS54.own_ne HI195.out HO_7.out (by decide))); have n2_ := Aside0.mk (IsS54.grown (by repeat (first | (with_reducible first | exact HI199.out | apply IsS54.alloc | apply IsS54.drewN | apply IsS54.drew | apply IsS54.set_0 | apply IsS54.set_1 | apply IsS54.set_2) | exact HI199.out)) hg (IsS54.own_ne HI199.out HO_7.out (by decide))); have n3_ := Aside0.mk (hb); have n4_ := Aside0.mk (ho); clear HO_8; clear HI195; clear HI199; clear HB; clear HO_7; have HO_8 := n0_; have HI195 := n1_; have HI199 := n2_; have HB := n3_; have HO305 := n4_; clear n0_ n1_ n2_ n3_ n4_; clear ho hb hg hat))
            go_meet
            case rel => exact ⟨_, (y303), (t300), (t301), (t302), H', ⟨by have := HK1.out; have := HK2.out; first | omega | exact Nat.le_refl _⟩, ⟨by (with_reducible repeat (first | apply Kd.R_alloc | apply Kd.R_drewN | apply Kd.R_drew)); exact Kd.R_mono HO305.out (fun _ hk => trivial)⟩, ⟨by repeat (first | (with_reducible first | exact HI195.out | apply IsS54.alloc | apply IsS54.drewN | apply IsS54.drew | apply IsS54.set_0 | apply IsS54.set_1 | apply IsS54.set_2) | exact HI195.out)⟩, ⟨by repeat (first | (with_reducible first | exact HI199.out | apply IsS54.alloc | apply IsS54.drewN | apply IsS54.drew | apply IsS54.set_0 | apply IsS54.set_1 | apply IsS54.set_2) | exact HI199.out)⟩, ⟨by repeat (first | (with_reducible first | exact HB.out | apply below_alloc | apply pw_below_drewN | apply below_drew1 | refine below_set ?_ (IsS54.ge HI195.out) | refine below_set ?_ (IsS54.ge HI199.out)) | exact HB.out)⟩⟩
          ·
           rw [if_neg c99] at H
           exact absurd H (by simp)
         ·
          replace c97 := Bool.eq_false_iff.mpr c97
          subst c97
          have H1 : (lw16_CreditMeets.j5 k2 x7_1 false t294 t295 t296 x200000_1 x200001_1 x200002_1) = some r := by rw [if_neg (show ¬ (false = true) by decide)] at H; exact H
          clear H
          have H := H1
          clear H1
          as_aux_lemma =>
           have H' := Aside0.mk H
           clear H
           go_wp2
           go_meet
           case rel => exact ⟨_, (x7_1), (t294), (t295), (t296), H', ⟨by have := HK1.out; have := HK2.out; first | omega | exact Nat.le_refl _⟩, ⟨by (with_reducible repeat (first | apply Kd.R_alloc | apply Kd.R_drewN | apply Kd.R_drew)); exact Kd.R_mono HO_7.out (fun _ hk => trivial)⟩, ⟨by repeat (first | (with_reducible first | exact HI195.out | apply IsS54.alloc | apply IsS54.drewN | apply IsS54.drew | apply IsS54.set_0 | apply IsS54.set_1 | apply IsS54.set_2) | exact HI195.out)⟩, ⟨by repeat (first | (with_reducible first | exact HI199.out | apply IsS54.alloc | apply IsS54.drewN | apply IsS54.drew | apply IsS54.set_0 | apply IsS54.set_1 | apply IsS54.set_2) | exact HI199.out)⟩, ⟨by repeat (first | (with_reducible first | exact HB.out | apply below_alloc | apply pw_below_drewN | apply below_drew1 | refine below_set ?_ (IsS54.ge HI195.out) | refine below_set ?_ (IsS54.ge HI199.out)) | exact HB.out)⟩⟩
        case rest =>
         clear HC94
         try clear c1
         try clear c2
         try clear p2
         try clear q2
         try clear hx2
         try clear qi2
         try clear c3
         try clear c3b0
         try clear c3b1
         try clear c4
         try clear c5
         try clear q5
         try clear c6
         try clear p6
         try clear c7
         try clear q7
         try clear c8
         try clear c9
         try clear c10
         try clear c10b0
         try clear c11
         try clear c11b0
         try clear c14
         try clear c14b0
         try clear c14b1
         try clear c15
         try clear c15b0
         try clear c15b1
         try clear c16
         try clear c17
         try clear c18
         try clear c19
         try clear c20
         try clear p20
         try clear q20
         try clear hx20
         try clear p21
         try clear q21
         try clear hx21
         try clear c24
         try clear c24b0
         try clear c24b1
         try clear p24
         try clear q24
         try clear hx24
         try clear qi24
         try clear c25
         try clear p25
         try clear q25
         try clear hx25
         try clear qi25
         try clear p26
         try clear q26
         try clear hx26
         try clear qi26
         try clear c27
         try clear p28
         try clear q28
         try clear hx28
         try clear c29
         try clear c29b0
         try clear c30
         try clear c30b0
         try clear c33
         try clear c38
         try clear c38b0
         try clear c38b1
         try clear c40
         try clear c42
         try clear c47
         try clear c47b0
         try clear c47b1
         try clear c48
         try clear c48b0
         try clear c48b1
         try clear c49
         try clear c49b0
         try clear c49b1
         try clear c51
         try clear c52
         try clear c52b0
         try clear c52b1
         try clear c53
         try clear c58
         try clear q58
         try clear c63
         try clear c63b0
         try clear c63b1
         try clear c64
         try clear c64b0
         try clear c64b1
         try clear p64
         try clear c65
         try clear c65b0
         try clear c65b1
         try clear c67
         try clear c67b0
         try clear c67b1
         try clear c68
         try clear c74
         try clear q74
         try clear c79
         try clear c79b0
         try clear c82
         try clear c82b0
         try clear c87
         try clear c87b0
         try clear c88
         try clear c88b0
         try clear c97
         try clear c99
         try clear hx200_0
         try clear hx201_0
         try clear hx215_0
         try clear hx243_0
         try clear hx243_1
         try clear hx243_2
         try clear hx243_3
         try clear hx258_0
         try clear hx258_1
         try clear hx258_2
         try clear hx258_3
         try clear hx259_0
         try clear hx259_1
         try clear hx259_2
         try clear hx259_3
         try clear hx260_0
         try clear hx260_1
         try clear hx260_2
         try clear hx260_3
         try clear hx286_0
         try clear hx286_1
         try clear hx286_2
         try clear hx286_3
         try clear hx287_0
         try clear hx287_1
         try clear hx287_2
         try clear hx287_3
         try clear hx288_0
         try clear hx288_1
         try clear hx288_2
         try clear hx288_3
         try clear p2
         try clear p20
         try clear p200
         try clear p201
         try clear p21
         try clear p215
         try clear p24
         try clear p243
         try clear p25
         try clear p258
         try clear p259
         try clear p26
         try clear p260
         try clear p286
         try clear p287
         try clear p288
         try clear p6
         try clear p64
         try clear q2
         try clear q20
         try clear q200
         try clear q201
         try clear q21
         try clear q215
         try clear q24
         try clear q243
         try clear q25
         try clear q258
         try clear q259
         try clear q26
         try clear q260
         try clear q286
         try clear q287
         try clear q288
         try clear q5
         try clear q58
         try clear q7
         try clear q74
         obtain ⟨kq, x7_93, x196000_93, x196001_93, x196002_93, HA, HJ93, HO_7, HI195, HI199, HB⟩ := hcut
         cases kq with
         | zero => exact absurd HA.out (by simp [lw16_CreditMeets.j5])
         | succ kj93 => as_aux_lemma =>
          have H := HA.out
          clear HA
          simp only [lw16_CreditMeets.j5] at H
          have H' := Aside0.mk H
          clear H
          go_wp2
          go_loopg [32] kj93 (fun kq v32 w' => ∃ (x32_4 : Int) (x200000_4 : Int) (x200001_4 : Int) (x200002_4 : Bool), v32 = .int .i64 x32_4 ∧ Aside0 (lw16_CreditMeets.l2 kq x7_93 t293 x32_4 x196000_93 x196001_93 x196002_93 x200000_4 x200001_4 x200002_4 = some r) ∧ Aside0 (kq ≤ kj93) ∧ Aside0 (Kd.R k42 42 w' w.heap.size (fun _ => True) u7 x7_93) ∧ Aside0 (IsS54 w w' g195 x196000_93 x196001_93 x196002_93) ∧ Aside0 (IsS54 w w' g199 x200000_4 x200001_4 x200002_4) ∧ Aside0 (Below w.heap.size w w'))
          case atStart => exact ⟨(0), (x200000_1), (x200001_1), (x200002_1), (by first | rfl | (simp; done) | (simp [*]; done)), H', ⟨Nat.le_refl _⟩, ⟨by (with_reducible repeat (first | apply Kd.R_alloc | apply Kd.R_drewN | apply Kd.R_drew)); exact HO_7.out⟩, ⟨by repeat (first | (with_reducible first | exact HI195.out | apply IsS54.alloc | apply IsS54.drewN | apply IsS54.drew | apply IsS54.set_0 | apply IsS54.set_1 | apply IsS54.set_2) | exact HI195.out)⟩, ⟨by repeat (first | (with_reducible first | exact HI199.out | apply IsS54.alloc | apply IsS54.drewN | apply IsS54.drew | apply IsS54.set_0 | apply IsS54.set_1 | apply IsS54.set_2) | exact HI199.out)⟩, ⟨by repeat (first | (with_reducible first | exact HB.out | apply below_alloc | apply pw_below_drewN | apply below_drew1 | refine below_set ?_ (IsS54.ge HI195.out) | refine below_set ?_ (IsS54.ge HI199.out)) | exact HB.out)⟩⟩
          case round =>
           clear H'
           try clear c1
           try clear c2
           try clear p2
           try clear q2
           try clear hx2
           try clear qi2
           try clear c3
           try clear c3b0
           try clear c3b1
           try clear c4
           try clear c5
           try clear q5
           try clear c6
           try clear p6
           try clear c7
           try clear q7
           try clear c8
           try clear c9
           try clear c10
           try clear c10b0
           try clear c11
           try clear c11b0
           try clear c14
           try clear c14b0
           try clear c14b1
           try clear c15
           try clear c15b0
           try clear c15b1
           try clear c16
           try clear c17
           try clear c18
           try clear c19
           try clear c20
           try clear p20
           try clear q20
           try clear hx20
           try clear p21
           try clear q21
           try clear hx21
           try clear c24
           try clear c24b0
           try clear c24b1
           try clear p24
           try clear q24
           try clear hx24
           try clear qi24
           try clear c25
           try clear p25
           try clear q25
           try clear hx25
           try clear qi25
           try clear p26
           try clear q26
           try clear hx26
           try clear qi26
           try clear c27
           try clear p28
           try clear q28
           try clear hx28
           try clear c29
           try clear c29b0
           try clear c30
           try clear c30b0
           try clear c33
           try clear c38
           try clear c38b0
           try clear c38b1
           try clear c40
           try clear c42
           try clear c47
           try clear c47b0
           try clear c47b1
           try clear c48
           try clear c48b0
           try clear c48b1
           try clear c49
           try clear c49b0
           try clear c49b1
           try clear c51
           try clear c52
           try clear c52b0
           try clear c52b1
           try clear c53
           try clear c58
           try clear q58
           try clear c63
           try clear c63b0
           try clear c63b1
           try clear c64
           try clear c64b0
           try clear c64b1
           try clear p64
           try clear c65
           try clear c65b0
           try clear c65b1
           try clear c67
           try clear c67b0
           try clear c67b1
           try clear c68
           try clear c74
           try clear q74
           try clear c79
           try clear c79b0
           try clear c82
           try clear c82b0
           try clear c87
           try clear c87b0
           try clear c88
           try clear c88b0
           try clear c97
           try clear c99
           try clear hx200_0
           try clear hx201_0
           try clear hx215_0
           try clear hx243_0
           try clear hx243_1
           try clear hx243_2
           try clear hx243_3
           try clear hx258_0
           try clear hx258_1
           try clear hx258_2
           try clear hx258_3
           try clear hx259_0
           try clear hx259_1
           try clear hx259_2
           try clear hx259_3
           try clear hx260_0
           try clear hx260_1
           try clear hx260_2
           try clear hx260_3
           try clear hx286_0
           try clear hx286_1
           try clear hx286_2
           try clear hx286_3
           try clear hx287_0
           try clear hx287_1
           try clear hx287_2
           try clear hx287_3
           try clear hx288_0
           try clear hx288_1
           try clear hx288_2
           try clear hx288_3
           try clear p2
           try clear p20
           try clear p200
           try clear p201
           try clear p21
           try clear p215
           try clear p24
           try clear p243
           try clear p25
           try clear p258
           try clear p259
           try clear p26
           try clear p260
           try clear p28
           try clear p286
           try clear p287
           try clear p288
           try clear p6
           try clear p64
           try clear q2
           try clear q20
           try clear q200
           try clear q201
           try clear q21
           try clear q215
           try clear q24
           try clear q243
           try clear q25
           try clear q258
           try clear q259
           try clear q26
           try clear q260
           try clear q28
           try clear q286
           try clear q287
           try clear q288
           try clear q5
           try clear q58
           try clear q7
           try clear q74
           obtain ⟨x32_4, x200000_4, x200001_4, x200002_4, rfl, HA, HK4, HO_7, HI195, HI199, HB⟩ := hrel
           cases gk with
           | zero => exact absurd HA.out (by simp [lw16_CreditMeets.l2])
           | succ k4 => as_aux_lemma =>
            have H := HA.out
            clear HA
            simp only [lw16_CreditMeets.l2] at H
            by_cases c102 : x32_4 < (x7_93.length : Int)
            ·
             rw [if_pos c102] at H
             have c102b0 : decide (x32_4 < (x7_93.length : Int)) = true := decide_eq_true c102
             clear c102
             by_cases c103 : 0 ≤ x32_4
             ·
              rw [if_pos c103] at H
              have c103b0 : decide (0 ≤ x32_4) = true := decide_eq_true c103
              clear c103
              replace H := Option.bind_eq_some_iff.mp H
              obtain ⟨⟨t307, t308, t309, t310⟩, A1040, H⟩ := H
              replace H : (if t307 = true then (lw16_CreditMeets.l2 k4 x7_93 t293 (wrap64 (x32_4 + 1)) x196000_93 x196001_93 x196002_93 t308 t309 t310) else (some false)) = some r := H
              have A104 := Aside0.mk A1040
              clear A1040
              by_cases c105 : t307 = true
              ·
               subst c105
               have H1 : (lw16_CreditMeets.l2 k4 x7_93 t293 (wrap64 (x32_4 + 1)) x196000_93 x196001_93 x196002_93 t308 t309 t310) = some r := by rw [if_pos rfl] at H; exact H
               clear H
               have H := H1
               clear H1
               as_aux_lemma =>
                have H' := Aside0.mk H
                clear H
                obtain ⟨Ao106, co106, eo106⟩ := Kd.R_slice HO_7.out
                subst eo106
                have p306 : 0 ≤ (x32_4 : Int) := of_decide_eq_true (by first | (with_reducible assumption) | assumption)
                have q306 : x32_4 < (x7_93.length : Int) := of_decide_eq_true (by first | (with_reducible assumption) | assumption)
                obtain ⟨ad306, e306, hx306_0, hx306_1, hx306_2, hx306_3⟩ := at_T42 (Kd.R_reads' HO_7.out).2.2 x32_4 p306 q306
                cases e306
                replace p306 := eq_true p306
                replace q306 := eq_true q306
                go_wp2_with (first | ((with_reducible refine gate_callee (f := 19) rfl ?_); refine goesL_ (some 240) rfl rfl Try.func19 (by kernel_rfl) rfl #[.pointer (some ⟨g199, 0, none⟩), .agg #[.bool ((rd_T42 x7_93 x32_4).f0), .int .u32 ((rd_T42 x7_93 x32_4).f1), .int .u32 ((rd_T42 x7_93 x32_4).f2), .bool ((rd_T42 x7_93 x32_4).f3)]] rfl (by (try simp only [List.map_toArray, List.map_cons, List.map_nil]); first | done | rfl | (simp only [List.length_drop, List.length_take]; rfl)) ?_; (with_reducible refine (lw16_lands.calls g199 x200000_4 x200001_4 x200002_4 ((rd_T42 x7_93 x32_4).f0) ((rd_T42 x7_93 x32_4).f1) ((rd_T42 x7_93 x32_4).f2) ((rd_T42 x7_93 x32_4).f3) true t308 t309 t310 w _ ?side1 ?side2 A104.out).mono ?_); (case side1 => repeat (first | (with_reducible first | exact HI199.out | apply IsS54.alloc | apply IsS54.drewN | apply IsS54.drew | apply IsS54.set_0 | apply IsS54.set_1 | apply IsS54.set_2) | exact HI199.out)); (case side2 => repeat (first | (with_reducible first | exact HB.out | apply below_alloc | apply pw_below_drewN | apply below_drew1 | refine below_set ?_ (IsS54.ge HI195.out) | refine below_set ?_ (IsS54.ge HI199.out)) | exact HB.out)); rintro e w107 ⟨rfl, hi, hb, hk⟩; refine ⟨_, rfl, ?_⟩; have n0_ := Aside0.mk (Kd.R_mono (Kd.R_keep (IsS54.apart (show IsS54 w _ g199 x200000_4 x200001_4 x200002_4 from by repeat (first | (with_reducible first | exact HI199.out | apply IsS54.alloc | apply IsS54.drewN | apply IsS54.drew | apply IsS54.set_0 | apply IsS54.set_1 | apply IsS54.set_2) | exact HI199.out)) (by (with_reducible repeat (first | apply Kd.R_alloc | apply Kd.R_drewN | apply Kd.R_drew)); exact HO_7.out) (by decide)) hk (fun _ h => h.2)) (fun _ h => h.1)); have n1_ := Aside0.mk (IsS54.beside (show IsS54 w _ g195 x196000_93 x196001_93 x196002_93 from by repeat (first | (with_reducible first | exact HI195.out | apply IsS54.alloc | apply IsS54.drewN | apply IsS54.drew | apply IsS54.set_0 | apply IsS54.set_1 | apply IsS54.set_2) | exact HI195.out)) hk NS195_199.out); have n2_ := Aside0.mk (hb); have n3_ := Aside0.mk (hi); clear HO_7; clear HI195; clear HB; clear HI199; have HO_7 := n0_; have HI195 := n1_; have HB := n2_; have HI199 := n3_; clear n0_ n1_ n2_ n3_; (try clear hb); (try clear hb2); (try clear hk); (try clear hi); (try clear hgw)))
                go_roundg k4
                case measure => have := HK1.out; have := HK2.out; have := HJ93.out; have := HK4.out; omega
                case rel => exact ⟨(wrap64 (x32_4 + 1)), (t308), (t309), (t310), (by first | rfl | (simp; done) | (simp [*]; done)), H', ⟨by have := HK1.out; have := HK2.out; have := HJ93.out; have := HK4.out; omega⟩, ⟨by (with_reducible repeat (first | apply Kd.R_alloc | apply Kd.R_drewN | apply Kd.R_drew)); exact HO_7.out⟩, ⟨by repeat (first | (with_reducible first | exact HI195.out | apply IsS54.alloc | apply IsS54.drewN | apply IsS54.drew | apply IsS54.set_0 | apply IsS54.set_1 | apply IsS54.set_2) | exact HI195.out)⟩, ⟨by repeat (first | (with_reducible first | exact HI199.out | apply IsS54.alloc | apply IsS54.drewN | apply IsS54.drew | apply IsS54.set_0 | apply IsS54.set_1 | apply IsS54.set_2) | exact HI199.out)⟩, ⟨by repeat (first | (with_reducible first | exact HB.out | apply below_alloc | apply pw_below_drewN | apply below_drew1 | refine below_set ?_ (IsS54.ge HI195.out) | refine below_set ?_ (IsS54.ge HI199.out)) | exact HB.out)⟩⟩
              ·
               replace c105 := Bool.eq_false_iff.mpr c105
               subst c105
               have H1 : (some false) = some r := by rw [if_neg (show ¬ (false = true) by decide)] at H; exact H
               clear H
               have H := H1
               clear H1
               as_aux_lemma =>
                obtain rfl := Option.some.inj H
                obtain ⟨Ao108, co108, eo108⟩ := Kd.R_slice HO_7.out
                subst eo108
                have p306 : 0 ≤ (x32_4 : Int) := of_decide_eq_true (by first | (with_reducible assumption) | assumption)
                have q306 : x32_4 < (x7_93.length : Int) := of_decide_eq_true (by first | (with_reducible assumption) | assumption)
                obtain ⟨ad306, e306, hx306_0, hx306_1, hx306_2, hx306_3⟩ := at_T42 (Kd.R_reads' HO_7.out).2.2 x32_4 p306 q306
                cases e306
                replace p306 := eq_true p306
                replace q306 := eq_true q306
                go_wp2_with (first | ((with_reducible refine gate_callee (f := 19) rfl ?_); refine goesL_ (some 240) rfl rfl Try.func19 (by kernel_rfl) rfl #[.pointer (some ⟨g199, 0, none⟩), .agg #[.bool ((rd_T42 x7_93 x32_4).f0), .int .u32 ((rd_T42 x7_93 x32_4).f1), .int .u32 ((rd_T42 x7_93 x32_4).f2), .bool ((rd_T42 x7_93 x32_4).f3)]] rfl (by (try simp only [List.map_toArray, List.map_cons, List.map_nil]); first | done | rfl | (simp only [List.length_drop, List.length_take]; rfl)) ?_; (with_reducible refine (lw16_lands.calls g199 x200000_4 x200001_4 x200002_4 ((rd_T42 x7_93 x32_4).f0) ((rd_T42 x7_93 x32_4).f1) ((rd_T42 x7_93 x32_4).f2) ((rd_T42 x7_93 x32_4).f3) false t308 t309 t310 w _ ?side1 ?side2 A104.out).mono ?_); (case side1 => repeat (first | (with_reducible first | exact HI199.out | apply IsS54.alloc | apply IsS54.drewN | apply IsS54.drew | apply IsS54.set_0 | apply IsS54.set_1 | apply IsS54.set_2) | exact HI199.out)); (case side2 => repeat (first | (with_reducible first | exact HB.out | apply below_alloc | apply pw_below_drewN | apply below_drew1 | refine below_set ?_ (IsS54.ge HI195.out) | refine below_set ?_ (IsS54.ge HI199.out)) | exact HB.out)); rintro e w109 ⟨rfl, hi, hb, hk⟩; refine ⟨_, rfl, ?_⟩; have n0_ := Aside0.mk (Kd.R_mono (Kd.R_keep (IsS54.apart (show IsS54 w _ g199 x200000_4 x200001_4 x200002_4 from by repeat (first | (with_reducible first | exact HI199.out | apply IsS54.alloc | apply IsS54.drewN | apply IsS54.drew | apply IsS54.set_0 | apply IsS54.set_1 | apply IsS54.set_2) | exact HI199.out)) (by (with_reducible repeat (first | apply Kd.R_alloc | apply Kd.R_drewN | apply Kd.R_drew)); exact HO_7.out) (by decide)) hk (fun _ h => h.2)) (fun _ h => h.1)); have n1_ := Aside0.mk (IsS54.beside (show IsS54 w _ g195 x196000_93 x196001_93 x196002_93 from by repeat (first | (with_reducible first | exact HI195.out | apply IsS54.alloc | apply IsS54.drewN | apply IsS54.drew | apply IsS54.set_0 | apply IsS54.set_1 | apply IsS54.set_2) | exact HI195.out)) hk NS195_199.out); have n2_ := Aside0.mk (hb); have n3_ := Aside0.mk (hi); clear HO_7; clear HI195; clear HB; clear HI199; have HO_7 := n0_; have HI195 := n1_; have HB := n2_; have HI199 := n3_; clear n0_ n1_ n2_ n3_; (try clear hb); (try clear hb2); (try clear hk); (try clear hi); (try clear hgw)))
                go_ret
                exact ⟨by first | rfl | (simp [errW_none, errW_some] <;> rfl) | (simp [*, errW_none, errW_some] <;> rfl), by repeat (first | (with_reducible first | exact HB.out | apply below_alloc | apply pw_below_drewN | apply below_drew1 | refine below_set ?_ (IsS54.ge HI195.out) | refine below_set ?_ (IsS54.ge HI199.out)) | exact HB.out)⟩
             ·
              rw [if_neg c103] at H
              exact absurd H (by simp)
            ·
             rw [if_neg c102] at H
             have c102b0 : decide (x32_4 < (x7_93.length : Int)) = false := decide_eq_false c102
             clear c102
             replace H := Option.bind_eq_some_iff.mp H
             obtain ⟨⟨t311, t312, t313, t314, t315, t316⟩, A1100, H⟩ := H
             replace H : ((cr_Left.f x200000_4 x200001_4 x200002_4).bind fun bt317 => (if t311 = bt317.1 then (if t312 = bt317.2.1 then (if bt317.2.2.1 = true then (some false) else (if t293 = true then (if t312 = 0 then ((lw16_works.f k4).bind fun t323 => (some t323)) else (some false)) else ((lw16_works.f k4).bind fun t324 => (some t324)))) else (some false)) else (some false))) = some r := H
             have A110 := Aside0.mk A1100
             clear A1100
             replace H := Option.bind_eq_some_iff.mp H
             obtain ⟨⟨t317, t318, t319, t320, t321, t322⟩, A1110, H⟩ := H
             replace H : (if t311 = t317 then (if t312 = t318 then (if t319 = true then (some false) else (if t293 = true then (if t312 = 0 then ((lw16_works.f k4).bind fun t323 => (some t323)) else (some false)) else ((lw16_works.f k4).bind fun t324 => (some t324)))) else (some false)) else (some false)) = some r := H
             have A111 := Aside0.mk A1110
             clear A1110
             by_cases c112 : t311 = t317
             ·
              rw [if_pos c112] at H
              have c112b0 : (t311 == t317) = true := beq_iff_eq.mpr c112
              have c112b1 : (t311 != t317) = false := bne_eq_false_iff_eq.mpr c112
              clear c112
              by_cases c113 : t312 = t318
              ·
               rw [if_pos c113] at H
               have c113b0 : (t312 == t318) = true := beq_iff_eq.mpr c113
               have c113b1 : (t312 != t318) = false := bne_eq_false_iff_eq.mpr c113
               clear c113
               by_cases c114 : t319 = true
               ·
                subst c114
                have H1 : (some false) = some r := by rw [if_pos rfl] at H; exact H
                clear H
                have H := H1
                clear H1
                as_aux_lemma =>
                 obtain rfl := Option.some.inj H
                 obtain ⟨Ao115, co115, eo115⟩ := Kd.R_slice HO_7.out
                 subst eo115
                 go_wp2_with (first | ((with_reducible refine gate_callee (f := 14) rfl ?_); refine goesL_ (some 244) rfl rfl Try.func14 (by kernel_rfl) rfl #[.pointer (some ⟨g195, 0, none⟩)] rfl (by (try simp only [List.map_toArray, List.map_cons, List.map_nil]); first | done | rfl | (simp only [List.length_drop, List.length_take]; rfl)) ?_; (with_reducible refine (cr_Left.calls g195 x196000_93 x196001_93 x196002_93 t311 t312 t313 t314 t315 t316 w _ ?side1 ?side2 A110.out).mono ?_); (case side1 => repeat (first | (with_reducible first | exact HI195.out | apply IsS54.alloc | apply IsS54.drewN | apply IsS54.drew | apply IsS54.set_0 | apply IsS54.set_1 | apply IsS54.set_2) | exact HI195.out)); (case side2 => repeat (first | (with_reducible first | exact HB.out | apply below_alloc | apply pw_below_drewN | apply below_drew1 | refine below_set ?_ (IsS54.ge HI195.out) | refine below_set ?_ (IsS54.ge HI199.out)) | exact HB.out)); rintro e w116 ⟨rfl, hi, hb, hk⟩; refine ⟨_, rfl, ?_⟩; have n0_ := Aside0.mk (Kd.R_mono (Kd.R_keep (IsS54.apart (show IsS54 w _ g195 x196000_93 x196001_93 x196002_93 from by repeat (first | (with_reducible first | exact HI195.out | apply IsS54.alloc | apply IsS54.drewN | apply IsS54.drew | apply IsS54.set_0 | apply IsS54.set_1 | apply IsS54.set_2) | exact HI195.out)) (by (with_reducible repeat (first | apply Kd.R_alloc | apply Kd.R_drewN | apply Kd.R_drew)); exact HO_7.out) (by decide)) hk (fun _ h => h.2)) (fun _ h => h.1)); have n1_ := Aside0.mk (IsS54.beside (show IsS54 w _ g199 x200000_4 x200001_4 x200002_4 from by repeat (first | (with_reducible first | exact HI199.out | apply IsS54.alloc | apply IsS54.drewN | apply IsS54.drew | apply IsS54.set_0 | apply IsS54.set_1 | apply IsS54.set_2) | exact HI199.out)) hk NS199_195.out); have n2_ := Aside0.mk (hb); have n3_ := Aside0.mk (hi); clear HO_7; clear HI199; clear HB; clear HI195; have HO_7 := n0_; have HI199 := n1_; have HB := n2_; have HI195 := n3_; clear n0_ n1_ n2_ n3_; (try clear hb); (try clear hb2); (try clear hk); (try clear hi); (try clear hgw)) | ((with_reducible refine gate_callee (f := 14) rfl ?_); refine goesL_ (some 250) rfl rfl Try.func14 (by kernel_rfl) rfl #[.pointer (some ⟨g199, 0, none⟩)] rfl (by (try simp only [List.map_toArray, List.map_cons, List.map_nil]); first | done | rfl | (simp only [List.length_drop, List.length_take]; rfl)) ?_; (with_reducible refine (cr_Left.calls g199 x200000_4 x200001_4 x200002_4 t317 t318 true t320 t321 t322 w _ ?side1 ?side2 A111.out).mono ?_); (case side1 => repeat (first | (with_reducible first | exact HI199.out | apply IsS54.alloc | apply IsS54.drewN | apply IsS54.drew | apply IsS54.set_0 | apply IsS54.set_1 | apply IsS54.set_2) | exact HI199.out)); (case side2 => repeat (first | (with_reducible first | exact HB.out | apply below_alloc | apply pw_below_drewN | apply below_drew1 | refine below_set ?_ (IsS54.ge HI195.out) | refine below_set ?_ (IsS54.ge HI199.out)) | exact HB.out)); rintro e w117 ⟨rfl, hi, hb, hk⟩; refine ⟨_, rfl, ?_⟩; have n0_ := Aside0.mk (Kd.R_mono (Kd.R_keep (IsS54.apart (show IsS54 w _ g199 x200000_4 x200001_4 x200002_4 from by repeat (first | (with_reducible first | exact HI199.out | apply IsS54.alloc | apply IsS54.drewN | apply IsS54.drew | apply IsS54.set_0 | apply IsS54.set_1 | apply IsS54.set_2) | exact HI199.out)) (by (with_reducible repeat (first | apply Kd.R_alloc | apply Kd.R_drewN | apply Kd.R_drew)); exact HO_7.out) (by decide)) hk (fun _ h => h.2)) (fun _ h => h.1)); have n1_ := Aside0.mk (IsS54.beside (show IsS54 w _ g195 t314 t315 t316 from by repeat (first | (with_reducible first | exact HI195.out | apply IsS54.alloc | apply IsS54.drewN | apply IsS54.drew | apply IsS54.set_0 | apply IsS54.set_1 | apply IsS54.set_2) | exact HI195.out)) hk NS195_199.out); have n2_ := Aside0.mk (hb); have n3_ := Aside0.mk (hi); clear HO_7; clear HI195; clear HB; clear HI199; have HO_7 := n0_; have HI195 := n1_; have HB := n2_; have HI199 := n3_; clear n0_ n1_ n2_ n3_; (try clear hb); (try clear hb2); (try clear hk); (try clear hi); (try clear hgw)))
                 go_ret
                 exact ⟨by first | rfl | (simp [errW_none, errW_some] <;> rfl) | (simp [*, errW_none, errW_some] <;> rfl), by repeat (first | (with_reducible first | exact HB.out | apply below_alloc | apply pw_below_drewN | apply below_drew1 | refine below_set ?_ (IsS54.ge HI195.out) | refine below_set ?_ (IsS54.ge HI199.out)) | exact HB.out)⟩
               ·
                replace c114 := Bool.eq_false_iff.mpr c114
                subst c114
                have H1 : (if t293 = true then (if t312 = 0 then ((lw16_works.f k4).bind fun t323 => (some t323)) else (some false)) else ((lw16_works.f k4).bind fun t324 => (some t324))) = some r := by rw [if_neg (show ¬ (false = true) by decide)] at H; exact H
                clear H
                have H := H1
                clear H1
                by_cases c118 : t293 = true
                ·
                 subst c118
                 have H1 : (if t312 = 0 then ((lw16_works.f k4).bind fun t323 => (some t323)) else (some false)) = some r := by rw [if_pos rfl] at H; exact H
                 clear H
                 have H := H1
                 clear H1
                 by_cases c119 : t312 = 0
                 ·
                  rw [if_pos c119] at H
                  have c119b0 : (t312 == 0) = true := beq_iff_eq.mpr c119
                  have c119b1 : (t312 != 0) = false := bne_eq_false_iff_eq.mpr c119
                  clear c119
                  replace H := Option.bind_eq_some_iff.mp H
                  obtain ⟨t323, A1200, H⟩ := H
                  replace H : (some t323) = some r := H
                  have A120 := Aside0.mk A1200
                  clear A1200
                  as_aux_lemma =>
                   obtain rfl := Option.some.inj H
                   obtain ⟨Ao121, co121, eo121⟩ := Kd.R_slice HO_7.out
                   subst eo121
                   go_wp2_with (first | ((with_reducible refine gate_callee (f := 14) rfl ?_); refine goesL_ (some 244) rfl rfl Try.func14 (by kernel_rfl) rfl #[.pointer (some ⟨g195, 0, none⟩)] rfl (by (try simp only [List.map_toArray, List.map_cons, List.map_nil]); first | done | rfl | (simp only [List.length_drop, List.length_take]; rfl)) ?_; (with_reducible refine (cr_Left.calls g195 x196000_93 x196001_93 x196002_93 t311 t312 t313 t314 t315 t316 w _ ?side1 ?side2 A110.out).mono ?_); (case side1 => repeat (first | (with_reducible first | exact HI195.out | apply IsS54.alloc | apply IsS54.drewN | apply IsS54.drew | apply IsS54.set_0 | apply IsS54.set_1 | apply IsS54.set_2) | exact HI195.out)); (case side2 => repeat (first | (with_reducible first | exact HB.out | apply below_alloc | apply pw_below_drewN | apply below_drew1 | refine below_set ?_ (IsS54.ge HI195.out) | refine below_set ?_ (IsS54.ge HI199.out)) | exact HB.out)); rintro e w122 ⟨rfl, hi, hb, hk⟩; refine ⟨_, rfl, ?_⟩; have n0_ := Aside0.mk (Kd.R_mono (Kd.R_keep (IsS54.apart (show IsS54 w _ g195 x196000_93 x196001_93 x196002_93 from by repeat (first | (with_reducible first | exact HI195.out | apply IsS54.alloc | apply IsS54.drewN | apply IsS54.drew | apply IsS54.set_0 | apply IsS54.set_1 | apply IsS54.set_2) | exact HI195.out)) (by (with_reducible repeat (first | apply Kd.R_alloc | apply Kd.R_drewN | apply Kd.R_drew)); exact HO_7.out) (by decide)) hk (fun _ h => h.2)) (fun _ h => h.1)); have n1_ := Aside0.mk (IsS54.beside (show IsS54 w _ g199 x200000_4 x200001_4 x200002_4 from by repeat (first | (with_reducible first | exact HI199.out | apply IsS54.alloc | apply IsS54.drewN | apply IsS54.drew | apply IsS54.set_0 | apply IsS54.set_1 | apply IsS54.set_2) | exact HI199.out)) hk NS199_195.out); have n2_ := Aside0.mk (hb); have n3_ := Aside0.mk (hi); clear HO_7; clear HI199; clear HB; clear HI195; have HO_7 := n0_; have HI199 := n1_; have HB := n2_; have HI195 := n3_; clear n0_ n1_ n2_ n3_; (try clear hb); (try clear hb2); (try clear hk); (try clear hi); (try clear hgw)) | ((with_reducible refine gate_callee (f := 14) rfl ?_); refine goesL_ (some 250) rfl rfl Try.func14 (by kernel_rfl) rfl #[.pointer (some ⟨g199, 0, none⟩)] rfl (by (try simp only [List.map_toArray, List.map_cons, List.map_nil]); first | done | rfl | (simp only [List.length_drop, List.length_take]; rfl)) ?_; (with_reducible refine (cr_Left.calls g199 x200000_4 x200001_4 x200002_4 t317 t318 false t320 t321 t322 w _ ?side1 ?side2 A111.out).mono ?_); (case side1 => repeat (first | (with_reducible first | exact HI199.out | apply IsS54.alloc | apply IsS54.drewN | apply IsS54.drew | apply IsS54.set_0 | apply IsS54.set_1 | apply IsS54.set_2) | exact HI199.out)); (case side2 => repeat (first | (with_reducible first | exact HB.out | apply below_alloc | apply pw_below_drewN | apply below_drew1 | refine below_set ?_ (IsS54.ge HI195.out) | refine below_set ?_ (IsS54.ge HI199.out)) | exact HB.out)); rintro e w123 ⟨rfl, hi, hb, hk⟩; refine ⟨_, rfl, ?_⟩; have n0_ := Aside0.mk (Kd.R_mono (Kd.R_keep (IsS54.apart (show IsS54 w _ g199 x200000_4 x200001_4 x200002_4 from by repeat (first | (with_reducible first | exact HI199.out | apply IsS54.alloc | apply IsS54.drewN | apply IsS54.drew | apply IsS54.set_0 | apply IsS54.set_1 | apply IsS54.set_2) | exact HI199.out)) (by (with_reducible repeat (first | apply Kd.R_alloc | apply Kd.R_drewN | apply Kd.R_drew)); exact HO_7.out) (by decide)) hk (fun _ h => h.2)) (fun _ h => h.1)); have n1_ := Aside0.mk (IsS54.beside (show IsS54 w _ g195 t314 t315 t316 from by repeat (first | (with_reducible first | exact HI195.out | apply IsS54.alloc | apply IsS54.drewN | apply IsS54.drew | apply IsS54.set_0 | apply IsS54.set_1 | apply IsS54.set_2) | exact HI195.out)) hk NS195_199.out); have n2_ := Aside0.mk (hb); have n3_ := Aside0.mk (hi); clear HO_7; clear HI195; clear HB; clear HI199; have HO_7 := n0_; have HI195 := n1_; have HB := n2_; have HI199 := n3_; clear n0_ n1_ n2_ n3_; (try clear hb); (try clear hb2); (try clear hk); (try clear hi); (try clear hgw)) | (go_at_call 9; (with_reducible refine (lw16_works.calls k4  t323 _ A120.out).mono ?_); rintro e w124 ⟨rfl, hb⟩; have n0_ := Aside0.mk (Kd.R_below (by (with_reducible repeat (first | apply Kd.R_alloc | apply Kd.R_drewN | apply Kd.R_drew)); exact HO_7.out) hb); have n1_ := Aside0.mk (IsS54.below (by repeat (first | (with_reducible first | exact HI195.out | apply IsS54.alloc | apply IsS54.drewN | apply IsS54.drew | apply IsS54.set_0 | apply IsS54.set_1 | apply IsS54.set_2) | exact HI195.out)) hb); have n2_ := Aside0.mk (IsS54.below (by repeat (first | (with_reducible first | exact HI199.out | apply IsS54.alloc | apply IsS54.drewN | apply IsS54.drew | apply IsS54.set_0 | apply IsS54.set_1 | apply IsS54.set_2) | exact HI199.out)) hb); have n3_ := Aside0.mk (below_step (by repeat (first | (with_reducible first | exact HB.out | apply below_alloc | apply pw_below_drewN | apply below_drew1 | refine below_set ?_ (IsS54.ge HI195.out) | refine below_set ?_ (IsS54.ge HI199.out)) | exact HB.out)) hb); clear HO_7; clear HI195; clear HI199; clear HB; have HO_7 := n0_; have HI195 := n1_; have HI199 := n2_; have HB := n3_; clear n0_ n1_ n2_ n3_; (try clear hb); (try clear hb2); (try clear hk); (try clear hi); (try clear hgw)))
                   go_ret
                   exact ⟨by first | rfl | (simp [errW_none, errW_some] <;> rfl) | (simp [*, errW_none, errW_some] <;> rfl), by repeat (first | (with_reducible first | exact HB.out | apply below_alloc | apply pw_below_drewN | apply below_drew1 | refine below_set ?_ (IsS54.ge HI195.out) | refine below_set ?_ (IsS54.ge HI199.out)) | exact HB.out)⟩
                 ·
                  rw [if_neg c119] at H
                  have c119b0 : (t312 == 0) = false := beq_eq_false_iff_ne.mpr c119
                  have c119b1 : (t312 != 0) = true := bne_iff_ne.mpr c119
                  as_aux_lemma =>
                   obtain rfl := Option.some.inj H
                   obtain ⟨Ao125, co125, eo125⟩ := Kd.R_slice HO_7.out
                   subst eo125
                   go_wp2_with (first | ((with_reducible refine gate_callee (f := 14) rfl ?_); refine goesL_ (some 244) rfl rfl Try.func14 (by kernel_rfl) rfl #[.pointer (some ⟨g195, 0, none⟩)] rfl (by (try simp only [List.map_toArray, List.map_cons, List.map_nil]); first | done | rfl | (simp only [List.length_drop, List.length_take]; rfl)) ?_; (with_reducible refine (cr_Left.calls g195 x196000_93 x196001_93 x196002_93 t311 t312 t313 t314 t315 t316 w _ ?side1 ?side2 A110.out).mono ?_); (case side1 => repeat (first | (with_reducible first | exact HI195.out | apply IsS54.alloc | apply IsS54.drewN | apply IsS54.drew | apply IsS54.set_0 | apply IsS54.set_1 | apply IsS54.set_2) | exact HI195.out)); (case side2 => repeat (first | (with_reducible first | exact HB.out | apply below_alloc | apply pw_below_drewN | apply below_drew1 | refine below_set ?_ (IsS54.ge HI195.out) | refine below_set ?_ (IsS54.ge HI199.out)) | exact HB.out)); rintro e w126 ⟨rfl, hi, hb, hk⟩; refine ⟨_, rfl, ?_⟩; have n0_ := Aside0.mk (Kd.R_mono (Kd.R_keep (IsS54.apart (show IsS54 w _ g195 x196000_93 x196001_93 x196002_93 from by repeat (first | (with_reducible first | exact HI195.out | apply IsS54.alloc | apply IsS54.drewN | apply IsS54.drew | apply IsS54.set_0 | apply IsS54.set_1 | apply IsS54.set_2) | exact HI195.out)) (by (with_reducible repeat (first | apply Kd.R_alloc | apply Kd.R_drewN | apply Kd.R_drew)); exact HO_7.out) (by decide)) hk (fun _ h => h.2)) (fun _ h => h.1)); have n1_ := Aside0.mk (IsS54.beside (show IsS54 w _ g199 x200000_4 x200001_4 x200002_4 from by repeat (first | (with_reducible first | exact HI199.out | apply IsS54.alloc | apply IsS54.drewN | apply IsS54.drew | apply IsS54.set_0 | apply IsS54.set_1 | apply IsS54.set_2) | exact HI199.out)) hk NS199_195.out); have n2_ := Aside0.mk (hb); have n3_ := Aside0.mk (hi); clear HO_7; clear HI199; clear HB; clear HI195; have HO_7 := n0_; have HI199 := n1_; have HB := n2_; have HI195 := n3_; clear n0_ n1_ n2_ n3_; (try clear hb); (try clear hb2); (try clear hk); (try clear hi); (try clear hgw)) | ((with_reducible refine gate_callee (f := 14) rfl ?_); refine goesL_ (some 250) rfl rfl Try.func14 (by kernel_rfl) rfl #[.pointer (some ⟨g199, 0, none⟩)] rfl (by (try simp only [List.map_toArray, List.map_cons, List.map_nil]); first | done | rfl | (simp only [List.length_drop, List.length_take]; rfl)) ?_; (with_reducible refine (cr_Left.calls g199 x200000_4 x200001_4 x200002_4 t317 t318 false t320 t321 t322 w _ ?side1 ?side2 A111.out).mono ?_); (case side1 => repeat (first | (with_reducible first | exact HI199.out | apply IsS54.alloc | apply IsS54.drewN | apply IsS54.drew | apply IsS54.set_0 | apply IsS54.set_1 | apply IsS54.set_2) | exact HI199.out)); (case side2 => repeat (first | (with_reducible first | exact HB.out | apply below_alloc | apply pw_below_drewN | apply below_drew1 | refine below_set ?_ (IsS54.ge HI195.out) | refine below_set ?_ (IsS54.ge HI199.out)) | exact HB.out)); rintro e w127 ⟨rfl, hi, hb, hk⟩; refine ⟨_, rfl, ?_⟩; have n0_ := Aside0.mk (Kd.R_mono (Kd.R_keep (IsS54.apart (show IsS54 w _ g199 x200000_4 x200001_4 x200002_4 from by repeat (first | (with_reducible first | exact HI199.out | apply IsS54.alloc | apply IsS54.drewN | apply IsS54.drew | apply IsS54.set_0 | apply IsS54.set_1 | apply IsS54.set_2) | exact HI199.out)) (by (with_reducible repeat (first | apply Kd.R_alloc | apply Kd.R_drewN | apply Kd.R_drew)); exact HO_7.out) (by decide)) hk (fun _ h => h.2)) (fun _ h => h.1)); have n1_ := Aside0.mk (IsS54.beside (show IsS54 w _ g195 t314 t315 t316 from by repeat (first | (with_reducible first | exact HI195.out | apply IsS54.alloc | apply IsS54.drewN | apply IsS54.drew | apply IsS54.set_0 | apply IsS54.set_1 | apply IsS54.set_2) | exact HI195.out)) hk NS195_199.out); have n2_ := Aside0.mk (hb); have n3_ := Aside0.mk (hi); clear HO_7; clear HI195; clear HB; clear HI199; have HO_7 := n0_; have HI195 := n1_; have HB := n2_; have HI199 := n3_; clear n0_ n1_ n2_ n3_; (try clear hb); (try clear hb2); (try clear hk); (try clear hi); (try clear hgw)))
                   go_ret
                   exact ⟨by first | rfl | (simp [errW_none, errW_some] <;> rfl) | (simp [*, errW_none, errW_some] <;> rfl), by repeat (first | (with_reducible first | exact HB.out | apply below_alloc | apply pw_below_drewN | apply below_drew1 | refine below_set ?_ (IsS54.ge HI195.out) | refine below_set ?_ (IsS54.ge HI199.out)) | exact HB.out)⟩
                ·
                 replace c118 := Bool.eq_false_iff.mpr c118
                 subst c118
                 have H1 : ((lw16_works.f k4).bind fun t324 => (some t324)) = some r := by rw [if_neg (show ¬ (false = true) by decide)] at H; exact H
                 clear H
                 have H := H1
                 clear H1
                 replace H := Option.bind_eq_some_iff.mp H
                 obtain ⟨t324, A1280, H⟩ := H
                 replace H : (some t324) = some r := H
                 have A128 := Aside0.mk A1280
                 clear A1280
                 as_aux_lemma =>
                  obtain rfl := Option.some.inj H
                  obtain ⟨Ao129, co129, eo129⟩ := Kd.R_slice HO_7.out
                  subst eo129
                  go_wp2_with (first | ((with_reducible refine gate_callee (f := 14) rfl ?_); refine goesL_ (some 244) rfl rfl Try.func14 (by kernel_rfl) rfl #[.pointer (some ⟨g195, 0, none⟩)] rfl (by (try simp only [List.map_toArray, List.map_cons, List.map_nil]); first | done | rfl | (simp only [List.length_drop, List.length_take]; rfl)) ?_; (with_reducible refine (cr_Left.calls g195 x196000_93 x196001_93 x196002_93 t311 t312 t313 t314 t315 t316 w _ ?side1 ?side2 A110.out).mono ?_); (case side1 => repeat (first | (with_reducible first | exact HI195.out | apply IsS54.alloc | apply IsS54.drewN | apply IsS54.drew | apply IsS54.set_0 | apply IsS54.set_1 | apply IsS54.set_2) | exact HI195.out)); (case side2 => repeat (first | (with_reducible first | exact HB.out | apply below_alloc | apply pw_below_drewN | apply below_drew1 | refine below_set ?_ (IsS54.ge HI195.out) | refine below_set ?_ (IsS54.ge HI199.out)) | exact HB.out)); rintro e w130 ⟨rfl, hi, hb, hk⟩; refine ⟨_, rfl, ?_⟩; have n0_ := Aside0.mk (Kd.R_mono (Kd.R_keep (IsS54.apart (show IsS54 w _ g195 x196000_93 x196001_93 x196002_93 from by repeat (first | (with_reducible first | exact HI195.out | apply IsS54.alloc | apply IsS54.drewN | apply IsS54.drew | apply IsS54.set_0 | apply IsS54.set_1 | apply IsS54.set_2) | exact HI195.out)) (by (with_reducible repeat (first | apply Kd.R_alloc | apply Kd.R_drewN | apply Kd.R_drew)); exact HO_7.out) (by decide)) hk (fun _ h => h.2)) (fun _ h => h.1)); have n1_ := Aside0.mk (IsS54.beside (show IsS54 w _ g199 x200000_4 x200001_4 x200002_4 from by repeat (first | (with_reducible first | exact HI199.out | apply IsS54.alloc | apply IsS54.drewN | apply IsS54.drew | apply IsS54.set_0 | apply IsS54.set_1 | apply IsS54.set_2) | exact HI199.out)) hk NS199_195.out); have n2_ := Aside0.mk (hb); have n3_ := Aside0.mk (hi); clear HO_7; clear HI199; clear HB; clear HI195; have HO_7 := n0_; have HI199 := n1_; have HB := n2_; have HI195 := n3_; clear n0_ n1_ n2_ n3_; (try clear hb); (try clear hb2); (try clear hk); (try clear hi); (try clear hgw)) | ((with_reducible refine gate_callee (f := 14) rfl ?_); refine goesL_ (some 250) rfl rfl Try.func14 (by kernel_rfl) rfl #[.pointer (some ⟨g199, 0, none⟩)] rfl (by (try simp only [List.map_toArray, List.map_cons, List.map_nil]); first | done | rfl | (simp only [List.length_drop, List.length_take]; rfl)) ?_; (with_reducible refine (cr_Left.calls g199 x200000_4 x200001_4 x200002_4 t317 t318 false t320 t321 t322 w _ ?side1 ?side2 A111.out).mono ?_); (case side1 => repeat (first | (with_reducible first | exact HI199.out | apply IsS54.alloc | apply IsS54.drewN | apply IsS54.drew | apply IsS54.set_0 | apply IsS54.set_1 | apply IsS54.set_2) | exact HI199.out)); (case side2 => repeat (first | (with_reducible first | exact HB.out | apply below_alloc | apply pw_below_drewN | apply below_drew1 | refine below_set ?_ (IsS54.ge HI195.out) | refine below_set ?_ (IsS54.ge HI199.out)) | exact HB.out)); rintro e w131 ⟨rfl, hi, hb, hk⟩; refine ⟨_, rfl, ?_⟩; have n0_ := Aside0.mk (Kd.R_mono (Kd.R_keep (IsS54.apart (show IsS54 w _ g199 x200000_4 x200001_4 x200002_4 from by repeat (first | (with_reducible first | exact HI199.out | apply IsS54.alloc | apply IsS54.drewN | apply IsS54.drew | apply IsS54.set_0 | apply IsS54.set_1 | apply IsS54.set_2) | exact HI199.out)) (by (with_reducible repeat (first | apply Kd.R_alloc | apply Kd.R_drewN | apply Kd.R_drew)); exact HO_7.out) (by decide)) hk (fun _ h => h.2)) (fun _ h => h.1)); have n1_ := Aside0.mk (IsS54.beside (show IsS54 w _ g195 t314 t315 t316 from by repeat (first | (with_reducible first | exact HI195.out | apply IsS54.alloc | apply IsS54.drewN | apply IsS54.drew | apply IsS54.set_0 | apply IsS54.set_1 | apply IsS54.set_2) | exact HI195.out)) hk NS195_199.out); have n2_ := Aside0.mk (hb); have n3_ := Aside0.mk (hi); clear HO_7; clear HI195; clear HB; clear HI199; have HO_7 := n0_; have HI195 := n1_; have HB := n2_; have HI199 := n3_; clear n0_ n1_ n2_ n3_; (try clear hb); (try clear hb2); (try clear hk); (try clear hi); (try clear hgw)) | (go_at_call 9; (with_reducible refine (lw16_works.calls k4  t324 _ A128.out).mono ?_); rintro e w132 ⟨rfl, hb⟩; have n0_ := Aside0.mk (Kd.R_below (by (with_reducible repeat (first | apply Kd.R_alloc | apply Kd.R_drewN | apply Kd.R_drew)); exact HO_7.out) hb); have n1_ := Aside0.mk (IsS54.below (by repeat (first | (with_reducible first | exact HI195.out | apply IsS54.alloc | apply IsS54.drewN | apply IsS54.drew | apply IsS54.set_0 | apply IsS54.set_1 | apply IsS54.set_2) | exact HI195.out)) hb); have n2_ := Aside0.mk (IsS54.below (by repeat (first | (with_reducible first | exact HI199.out | apply IsS54.alloc | apply IsS54.drewN | apply IsS54.drew | apply IsS54.set_0 | apply IsS54.set_1 | apply IsS54.set_2) | exact HI199.out)) hb); have n3_ := Aside0.mk (below_step (by repeat (first | (with_reducible first | exact HB.out | apply below_alloc | apply pw_below_drewN | apply below_drew1 | refine below_set ?_ (IsS54.ge HI195.out) | refine below_set ?_ (IsS54.ge HI199.out)) | exact HB.out)) hb); clear HO_7; clear HI195; clear HI199; clear HB; have HO_7 := n0_; have HI195 := n1_; have HI199 := n2_; have HB := n3_; clear n0_ n1_ n2_ n3_; (try clear hb); (try clear hb2); (try clear hk); (try clear hi); (try clear hgw)))
                  go_ret
                  exact ⟨by first | rfl | (simp [errW_none, errW_some] <;> rfl) | (simp [*, errW_none, errW_some] <;> rfl), by repeat (first | (with_reducible first | exact HB.out | apply below_alloc | apply pw_below_drewN | apply below_drew1 | refine below_set ?_ (IsS54.ge HI195.out) | refine below_set ?_ (IsS54.ge HI199.out)) | exact HB.out)⟩
              ·
               rw [if_neg c113] at H
               have c113b0 : (t312 == t318) = false := beq_eq_false_iff_ne.mpr c113
               have c113b1 : (t312 != t318) = true := bne_iff_ne.mpr c113
               as_aux_lemma =>
                obtain rfl := Option.some.inj H
                obtain ⟨Ao133, co133, eo133⟩ := Kd.R_slice HO_7.out
                subst eo133
                go_wp2_with (first | ((with_reducible refine gate_callee (f := 14) rfl ?_); refine goesL_ (some 244) rfl rfl Try.func14 (by kernel_rfl) rfl #[.pointer (some ⟨g195, 0, none⟩)] rfl (by (try simp only [List.map_toArray, List.map_cons, List.map_nil]); first | done | rfl | (simp only [List.length_drop, List.length_take]; rfl)) ?_; (with_reducible refine (cr_Left.calls g195 x196000_93 x196001_93 x196002_93 t311 t312 t313 t314 t315 t316 w _ ?side1 ?side2 A110.out).mono ?_); (case side1 => repeat (first | (with_reducible first | exact HI195.out | apply IsS54.alloc | apply IsS54.drewN | apply IsS54.drew | apply IsS54.set_0 | apply IsS54.set_1 | apply IsS54.set_2) | exact HI195.out)); (case side2 => repeat (first | (with_reducible first | exact HB.out | apply below_alloc | apply pw_below_drewN | apply below_drew1 | refine below_set ?_ (IsS54.ge HI195.out) | refine below_set ?_ (IsS54.ge HI199.out)) | exact HB.out)); rintro e w134 ⟨rfl, hi, hb, hk⟩; refine ⟨_, rfl, ?_⟩; have n0_ := Aside0.mk (Kd.R_mono (Kd.R_keep (IsS54.apart (show IsS54 w _ g195 x196000_93 x196001_93 x196002_93 from by repeat (first | (with_reducible first | exact HI195.out | apply IsS54.alloc | apply IsS54.drewN | apply IsS54.drew | apply IsS54.set_0 | apply IsS54.set_1 | apply IsS54.set_2) | exact HI195.out)) (by (with_reducible repeat (first | apply Kd.R_alloc | apply Kd.R_drewN | apply Kd.R_drew)); exact HO_7.out) (by decide)) hk (fun _ h => h.2)) (fun _ h => h.1)); have n1_ := Aside0.mk (IsS54.beside (show IsS54 w _ g199 x200000_4 x200001_4 x200002_4 from by repeat (first | (with_reducible first | exact HI199.out | apply IsS54.alloc | apply IsS54.drewN | apply IsS54.drew | apply IsS54.set_0 | apply IsS54.set_1 | apply IsS54.set_2) | exact HI199.out)) hk NS199_195.out); have n2_ := Aside0.mk (hb); have n3_ := Aside0.mk (hi); clear HO_7; clear HI199; clear HB; clear HI195; have HO_7 := n0_; have HI199 := n1_; have HB := n2_; have HI195 := n3_; clear n0_ n1_ n2_ n3_; (try clear hb); (try clear hb2); (try clear hk); (try clear hi); (try clear hgw)) | ((with_reducible refine gate_callee (f := 14) rfl ?_); refine goesL_ (some 250) rfl rfl Try.func14 (by kernel_rfl) rfl #[.pointer (some ⟨g199, 0, none⟩)] rfl (by (try simp only [List.map_toArray, List.map_cons, List.map_nil]); first | done | rfl | (simp only [List.length_drop, List.length_take]; rfl)) ?_; (with_reducible refine (cr_Left.calls g199 x200000_4 x200001_4 x200002_4 t317 t318 t319 t320 t321 t322 w _ ?side1 ?side2 A111.out).mono ?_); (case side1 => repeat (first | (with_reducible first | exact HI199.out | apply IsS54.alloc | apply IsS54.drewN | apply IsS54.drew | apply IsS54.set_0 | apply IsS54.set_1 | apply IsS54.set_2) | exact HI199.out)); (case side2 => repeat (first | (with_reducible first | exact HB.out | apply below_alloc | apply pw_below_drewN | apply below_drew1 | refine below_set ?_ (IsS54.ge HI195.out) | refine below_set ?_ (IsS54.ge HI199.out)) | exact HB.out)); rintro e w135 ⟨rfl, hi, hb, hk⟩; refine ⟨_, rfl, ?_⟩; have n0_ := Aside0.mk (Kd.R_mono (Kd.R_keep (IsS54.apart (show IsS54 w _ g199 x200000_4 x200001_4 x200002_4 from by repeat (first | (with_reducible first | exact HI199.out | apply IsS54.alloc | apply IsS54.drewN | apply IsS54.drew | apply IsS54.set_0 | apply IsS54.set_1 | apply IsS54.set_2) | exact HI199.out)) (by (with_reducible repeat (first | apply Kd.R_alloc | apply Kd.R_drewN | apply Kd.R_drew)); exact HO_7.out) (by decide)) hk (fun _ h => h.2)) (fun _ h => h.1)); have n1_ := Aside0.mk (IsS54.beside (show IsS54 w _ g195 t314 t315 t316 from by repeat (first | (with_reducible first | exact HI195.out | apply IsS54.alloc | apply IsS54.drewN | apply IsS54.drew | apply IsS54.set_0 | apply IsS54.set_1 | apply IsS54.set_2) | exact HI195.out)) hk NS195_199.out); have n2_ := Aside0.mk (hb); have n3_ := Aside0.mk (hi); clear HO_7; clear HI195; clear HB; clear HI199; have HO_7 := n0_; have HI195 := n1_; have HB := n2_; have HI199 := n3_; clear n0_ n1_ n2_ n3_; (try clear hb); (try clear hb2); (try clear hk); (try clear hi); (try clear hgw)))
                go_ret
                exact ⟨by first | rfl | (simp [errW_none, errW_some] <;> rfl) | (simp [*, errW_none, errW_some] <;> rfl), by repeat (first | (with_reducible first | exact HB.out | apply below_alloc | apply pw_below_drewN | apply below_drew1 | refine below_set ?_ (IsS54.ge HI195.out) | refine below_set ?_ (IsS54.ge HI199.out)) | exact HB.out)⟩
             ·
              rw [if_neg c112] at H
              have c112b0 : (t311 == t317) = false := beq_eq_false_iff_ne.mpr c112
              have c112b1 : (t311 != t317) = true := bne_iff_ne.mpr c112
              as_aux_lemma =>
               obtain rfl := Option.some.inj H
               obtain ⟨Ao136, co136, eo136⟩ := Kd.R_slice HO_7.out
               subst eo136
               go_wp2_with (first | ((with_reducible refine gate_callee (f := 14) rfl ?_); refine goesL_ (some 244) rfl rfl Try.func14 (by kernel_rfl) rfl #[.pointer (some ⟨g195, 0, none⟩)] rfl (by (try simp only [List.map_toArray, List.map_cons, List.map_nil]); first | done | rfl | (simp only [List.length_drop, List.length_take]; rfl)) ?_; (with_reducible refine (cr_Left.calls g195 x196000_93 x196001_93 x196002_93 t311 t312 t313 t314 t315 t316 w _ ?side1 ?side2 A110.out).mono ?_); (case side1 => repeat (first | (with_reducible first | exact HI195.out | apply IsS54.alloc | apply IsS54.drewN | apply IsS54.drew | apply IsS54.set_0 | apply IsS54.set_1 | apply IsS54.set_2) | exact HI195.out)); (case side2 => repeat (first | (with_reducible first | exact HB.out | apply below_alloc | apply pw_below_drewN | apply below_drew1 | refine below_set ?_ (IsS54.ge HI195.out) | refine below_set ?_ (IsS54.ge HI199.out)) | exact HB.out)); rintro e w137 ⟨rfl, hi, hb, hk⟩; refine ⟨_, rfl, ?_⟩; have n0_ := Aside0.mk (Kd.R_mono (Kd.R_keep (IsS54.apart (show IsS54 w _ g195 x196000_93 x196001_93 x196002_93 from by repeat (first | (with_reducible first | exact HI195.out | apply IsS54.alloc | apply IsS54.drewN | apply IsS54.drew | apply IsS54.set_0 | apply IsS54.set_1 | apply IsS54.set_2) | exact HI195.out)) (by (with_reducible repeat (first | apply Kd.R_alloc | apply Kd.R_drewN | apply Kd.R_drew)); exact HO_7.out) (by decide)) hk (fun _ h => h.2)) (fun _ h => h.1)); have n1_ := Aside0.mk (IsS54.beside (show IsS54 w _ g199 x200000_4 x200001_4 x200002_4 from by repeat (first | (with_reducible first | exact HI199.out | apply IsS54.alloc | apply IsS54.drewN | apply IsS54.drew | apply IsS54.set_0 | apply IsS54.set_1 | apply IsS54.set_2) | exact HI199.out)) hk NS199_195.out); have n2_ := Aside0.mk (hb); have n3_ := Aside0.mk (hi); clear HO_7; clear HI199; clear HB; clear HI195; have HO_7 := n0_; have HI199 := n1_; have HB := n2_; have HI195 := n3_; clear n0_ n1_ n2_ n3_; (try clear hb); (try clear hb2); (try clear hk); (try clear hi); (try clear hgw)) | ((with_reducible refine gate_callee (f := 14) rfl ?_); refine goesL_ (some 250) rfl rfl Try.func14 (by kernel_rfl) rfl #[.pointer (some ⟨g199, 0, none⟩)] rfl (by (try simp only [List.map_toArray, List.map_cons, List.map_nil]); first | done | rfl | (simp only [List.length_drop, List.length_take]; rfl)) ?_; (with_reducible refine (cr_Left.calls g199 x200000_4 x200001_4 x200002_4 t317 t318 t319 t320 t321 t322 w _ ?side1 ?side2 A111.out).mono ?_); (case side1 => repeat (first | (with_reducible first | exact HI199.out | apply IsS54.alloc | apply IsS54.drewN | apply IsS54.drew | apply IsS54.set_0 | apply IsS54.set_1 | apply IsS54.set_2) | exact HI199.out)); (case side2 => repeat (first | (with_reducible first | exact HB.out | apply below_alloc | apply pw_below_drewN | apply below_drew1 | refine below_set ?_ (IsS54.ge HI195.out) | refine below_set ?_ (IsS54.ge HI199.out)) | exact HB.out)); rintro e w138 ⟨rfl, hi, hb, hk⟩; refine ⟨_, rfl, ?_⟩; have n0_ := Aside0.mk (Kd.R_mono (Kd.R_keep (IsS54.apart (show IsS54 w _ g199 x200000_4 x200001_4 x200002_4 from by repeat (first | (with_reducible first | exact HI199.out | apply IsS54.alloc | apply IsS54.drewN | apply IsS54.drew | apply IsS54.set_0 | apply IsS54.set_1 | apply IsS54.set_2) | exact HI199.out)) (by (with_reducible repeat (first | apply Kd.R_alloc | apply Kd.R_drewN | apply Kd.R_drew)); exact HO_7.out) (by decide)) hk (fun _ h => h.2)) (fun _ h => h.1)); have n1_ := Aside0.mk (IsS54.beside (show IsS54 w _ g195 t314 t315 t316 from by repeat (first | (with_reducible first | exact HI195.out | apply IsS54.alloc | apply IsS54.drewN | apply IsS54.drew | apply IsS54.set_0 | apply IsS54.set_1 | apply IsS54.set_2) | exact HI195.out)) hk NS195_199.out); have n2_ := Aside0.mk (hb); have n3_ := Aside0.mk (hi); clear HO_7; clear HI195; clear HB; clear HI199; have HO_7 := n0_; have HI195 := n1_; have HB := n2_; have HI199 := n3_; clear n0_ n1_ n2_ n3_; (try clear hb); (try clear hb2); (try clear hk); (try clear hi); (try clear hgw)))
               go_ret
               exact ⟨by first | rfl | (simp [errW_none, errW_some] <;> rfl) | (simp [*, errW_none, errW_some] <;> rfl), by repeat (first | (with_reducible first | exact HB.out | apply below_alloc | apply pw_below_drewN | apply below_drew1 | refine below_set ?_ (IsS54.ge HI195.out) | refine below_set ?_ (IsS54.ge HI199.out)) | exact HB.out)⟩

/-- THE ONE PURE STATEMENT of lw16_CreditMeets: yours. -/
def lw16_CreditMeets.Pure : Prop := ∀ (a0 : Int) (l1 : List Int), (Lit.int .u32 a0).wf = true → l1.length ≤ maxLen → l1.length * 2 ≤ 140737488351232 → (∀ x ∈ l1, (Lit.int .u16 x).wf = true) → ∃ k, lw16_CreditMeets.f k a0 l1 = some true
theorem lw16_CreditMeets.walk (P : lw16_CreditMeets.Pure) (a0 : Int) (a1 : Option Addr) (len1 cap1 : Nat) (z1 : List Int) (w : World) (w0 : (Lit.int .u32 a0).wf = true) (w1 : (a1 = none ∧ len1 = 0 ∧ cap1 = 0 ∧ z1 = []) ∨ ∃ x, a1 = some x ∧ len1 ≤ cap1 ∧ cap1 ≤ maxLen ∧ z1.length = cap1 ∧ (∀ i, i < z1.length → w.cell? (x.add i) = some (.int .u16 (z1.getD i 0))) ∧ ∀ n ∈ z1, (Lit.int .u16 n).wf = true) (y1 : len1 * 2 ≤ 140737488351232) :
  Calls Try.prog 4 #[.int .u32 a0, .slice a1 len1 cap1] w fun e w' => e = .returned (.bool true) ∧ Below w.heap.size w w' := by
 obtain ⟨l1, rfl, hr1, hm1, hw1, hc1⟩ := ReadsInt.ofRowC w1
 obtain ⟨k, h⟩ := P a0 l1 w0 hm1 y1 hw1
 refine (lw16_CreditMeets.calls k a0 _ _ l1 true w (Kd.C_of_reads (d := (0 : Int)) (h1 := fun _ => rfl) hr1) hc1 h).mono ?_
 rintro e w' ⟨rfl, hd⟩
 exact ⟨rfl, hd⟩

end Go.Proofs.Ytadbpgljamkoeaa.PCreditMeets
