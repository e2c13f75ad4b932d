-- Written for this claim by wip/pr.py of this work, which runs the kit's print.py with some contracts given by hand. Lean checks it.
import Derived.Test.YtinnjghpmambiaaPrint0
import Derived.Test.YtinnjghpmambiaaPrint4
import Derived.Test.YtinnjghpmambiaaPrint5
import Derived.Test.YtinnjghpmambiaaPrint10
import Derived.Test.YtinnjghpmambiaaPrint11
import Derived.Test.YtinnjghpmambiaaExC
namespace Go.Proofs.Ytinnjghpmambiaa.Print
open Go.RowKit Go.Proofs.YtinnjghpmambiaaW.PrintWords Go.Proofs.YtinnjghpmambiaaW.PrintLast Go.Proofs.YtinnjghpmambiaaW.PrintMore
attribute [local go_sem] max2_int min2_int max_two min_two max_three min_three max_four min_four   -- for this text's walks alone
set_option linter.unusedVariables false
set_option linter.unusedSimpArgs false

open Go.Proofs.Ytinnjghpmambiaa.Ext
/-! ### handshapelaw09_ExamsRanked: function 4 -/
mutual
def handshapelaw09_ExamsRanked.j0 : Nat → List (S26) → List (List Int) → Bool → Option (Bool)
  | 0, _, _, _ => none
  | k + 1, x0, x1, x26 => if x26 = true then ((handshapelaw09_works.f k).bind fun t289 => (some t289)) else (handshapelaw09_ExamsRanked.l0 k x0 x1 ([] : List Int) 0)
def handshapelaw09_ExamsRanked.l0 : Nat → List (S26) → List (List Int) → List Int → Int → Option (Bool)
  | 0, _, _, _, _ => none
  | k + 1, x0, x1, x5, x6 => if x6 < (x0.length : Int) then (if 0 ≤ x6 then ((handshapelaw09_ready.f k ((rd_T26 x0 x6).f0) ((rd_T26 x0 x6).f1) ((rd_T26 x0 x6).f2) ((rd_T26 x0 x6).f3)).bind fun t291 => (if t291 = true then (if x6 < (x1.length : Int) then (if ((rd_L3 x1 x6).length : Int) > 20 then (handshapelaw09_ExamsRanked.j2 k x0 x1 x5 x6 true) else ((handshaperef09_IsPossible.f k ((rd_T26 x0 x6).f0) ((rd_T26 x0 x6).f1) ((rd_T26 x0 x6).f2) ((rd_T26 x0 x6).f3) (rd_L3 x1 x6)).bind fun t295 => (handshapelaw09_ExamsRanked.j2 k x0 x1 x5 x6 (!t295)))) else (none)) else (handshapelaw09_ExamsRanked.j2 k x0 x1 x5 x6 true))) else (none)) else ((exams_Ranks.f k x0).bind fun bt303 => (if bt303.2 = 0 then (handshapelaw09_ExamsRanked.j3 k x0 x5 bt303.1 ((bt303.1.length : Int) != (x0.length : Int))) else (handshapelaw09_ExamsRanked.j3 k x0 x5 bt303.1 true)))
def handshapelaw09_ExamsRanked.j2 : Nat → List (S26) → List (List Int) → List Int → Int → Bool → Option (Bool)
  | 0, _, _, _, _, _ => none
  | k + 1, x0, x1, x5, x6, x59 => if x59 = true then ((handshapelaw09_works.f k).bind fun t296 => (some t296)) else (if 0 ≤ x6 then (if x6 < (x0.length : Int) then (if x6 < (x1.length : Int) then ((handshaperef09_Result.f k ((rd_T26 x0 x6).f0) ((rd_T26 x0 x6).f1) ((rd_T26 x0 x6).f2) ((rd_T26 x0 x6).f3) (rd_L3 x1 x6)).bind fun t299 => (if x5.length < 17592186044416 then (handshapelaw09_ExamsRanked.l0 k x0 x1 (x5 ++ [t299]) (wrap64 (x6 + 1))) else (none))) else (none)) else (none)) else (none))
def handshapelaw09_ExamsRanked.j3 : Nat → List (S26) → List Int → List (S28) → Bool → Option (Bool)
  | 0, _, _, _, _ => none
  | k + 1, x0, x5, x7, x86 => if x86 = true then (none) else (handshapelaw09_ExamsRanked.l1 k x0 x5 x7 0)
def handshapelaw09_ExamsRanked.l1 : Nat → List (S26) → List Int → List (S28) → Int → Option (Bool)
  | 0, _, _, _, _ => none
  | k + 1, x0, x5, x7, x9 => if x9 < (x0.length : Int) then (handshapelaw09_ExamsRanked.l2 k x0 x5 x7 x9 1 0) else ((handshapelaw09_works.f k).bind fun t307 => (some t307))
def handshapelaw09_ExamsRanked.l2 : Nat → List (S26) → List Int → List (S28) → Int → Int → Int → Option (Bool)
  | 0, _, _, _, _, _, _ => none
  | k + 1, x0, x5, x7, x9, x10, x11 => if x11 < (x0.length : Int) then (if 0 ≤ x11 then (if x11 < (x5.length : Int) then (if 0 ≤ x9 then (if x9 < (x5.length : Int) then (if (rd x5 x11) > (rd x5 x9) then (handshapelaw09_ExamsRanked.l2 k x0 x5 x7 x9 (wrap64 (x10 + 1)) (wrap64 (x11 + 1))) else (handshapelaw09_ExamsRanked.l2 k x0 x5 x7 x9 x10 (wrap64 (x11 + 1)))) else (none)) else (none)) else (none)) else (none)) else (if 0 ≤ x9 then (if x9 < (x7.length : Int) then ((handshapelaw09_inside.f x10 ((rd_T28 x7 x9).f0) ((rd_T28 x7 x9).f1)).bind fun t311 => (if t311 = true then (if ((rd_T28 x7 x9).f0) < 1 then (handshapelaw09_ExamsRanked.j6 k x0 x5 x7 x9 true) else (handshapelaw09_ExamsRanked.j6 k x0 x5 x7 x9 (decide (((rd_T28 x7 x9).f1) > (x0.length : Int))))) else (handshapelaw09_ExamsRanked.j6 k x0 x5 x7 x9 true))) else (none)) else (none))
def handshapelaw09_ExamsRanked.j6 : Nat → List (S26) → List Int → List (S28) → Int → Bool → Option (Bool)
  | 0, _, _, _, _, _ => none
  | k + 1, x0, x5, x7, x9, x134 => if x134 = true then (none) else (handshapelaw09_ExamsRanked.l3 k x0 x5 x7 x9 0)
def handshapelaw09_ExamsRanked.l3 : Nat → List (S26) → List Int → List (S28) → Int → Int → Option (Bool)
  | 0, _, _, _, _, _ => none
  | k + 1, x0, x5, x7, x9, x12 => if x12 < (x0.length : Int) then (if 0 ≤ x9 then (if x9 < (x0.length : Int) then ((exams_Range.f ((rd_T26 x0 x9).f0) ((rd_T26 x0 x9).f1) ((rd_T26 x0 x9).f2) ((rd_T26 x0 x9).f3)).bind fun bt315 => (if 0 ≤ x12 then ((exams_Range.f ((rd_T26 x0 x12).f0) ((rd_T26 x0 x12).f1) ((rd_T26 x0 x12).f2) ((rd_T26 x0 x12).f3)).bind fun bt320 => (if bt315.2.2 = 0 then (if bt320.2.2 = 0 then (if bt315.1 > bt320.2.1 then (if x9 < (x7.length : Int) then (if x12 < (x7.length : Int) then (if ((rd_T28 x7 x9).f0) ≥ ((rd_T28 x7 x12).f0) then (none) else (if ((rd_T28 x7 x9).f1) ≥ ((rd_T28 x7 x12).f1) then (none) else (handshapelaw09_ExamsRanked.l3 k x0 x5 x7 x9 (wrap64 (x12 + 1))))) else (none)) else (none)) else (handshapelaw09_ExamsRanked.l3 k x0 x5 x7 x9 (wrap64 (x12 + 1)))) else (none)) else (none))) else (none))) else (none)) else (none)) else (handshapelaw09_ExamsRanked.l1 k x0 x5 x7 (wrap64 (x9 + 1)))
end
def handshapelaw09_ExamsRanked.f (k : Nat) (l0 : List (S26)) (l1 : List (List Int)) : Option (Bool) := if (l0.length : Int) > 3 then (handshapelaw09_ExamsRanked.j0 k l0 l1 true) else (handshapelaw09_ExamsRanked.j0 k l0 l1 ((l1.length : Int) != (l0.length : Int)))
theorem handshapelaw09_ExamsRanked.mono_l : ∀ k, (∀ y0 y1 y2, LeO (handshapelaw09_ExamsRanked.j0 k y0 y1 y2) (handshapelaw09_ExamsRanked.j0 (k + 1) y0 y1 y2)) ∧ (∀ y0 y1 y2 y3, LeO (handshapelaw09_ExamsRanked.l0 k y0 y1 y2 y3) (handshapelaw09_ExamsRanked.l0 (k + 1) y0 y1 y2 y3)) ∧ (∀ y0 y1 y2 y3 y4, LeO (handshapelaw09_ExamsRanked.j2 k y0 y1 y2 y3 y4) (handshapelaw09_ExamsRanked.j2 (k + 1) y0 y1 y2 y3 y4)) ∧ (∀ y0 y1 y2 y3, LeO (handshapelaw09_ExamsRanked.j3 k y0 y1 y2 y3) (handshapelaw09_ExamsRanked.j3 (k + 1) y0 y1 y2 y3)) ∧ (∀ y0 y1 y2 y3, LeO (handshapelaw09_ExamsRanked.l1 k y0 y1 y2 y3) (handshapelaw09_ExamsRanked.l1 (k + 1) y0 y1 y2 y3)) ∧ (∀ y0 y1 y2 y3 y4 y5, LeO (handshapelaw09_ExamsRanked.l2 k y0 y1 y2 y3 y4 y5) (handshapelaw09_ExamsRanked.l2 (k + 1) y0 y1 y2 y3 y4 y5)) ∧ (∀ y0 y1 y2 y3 y4, LeO (handshapelaw09_ExamsRanked.j6 k y0 y1 y2 y3 y4) (handshapelaw09_ExamsRanked.j6 (k + 1) y0 y1 y2 y3 y4)) ∧ (∀ y0 y1 y2 y3 y4, LeO (handshapelaw09_ExamsRanked.l3 k y0 y1 y2 y3 y4) (handshapelaw09_ExamsRanked.l3 (k + 1) y0 y1 y2 y3 y4))
  | 0 => ⟨fun _ _ _ r h => by simp [handshapelaw09_ExamsRanked.j0] at h, fun _ _ _ _ r h => by simp [handshapelaw09_ExamsRanked.l0] at h, fun _ _ _ _ _ r h => by simp [handshapelaw09_ExamsRanked.j2] at h, fun _ _ _ _ r h => by simp [handshapelaw09_ExamsRanked.j3] at h, fun _ _ _ _ r h => by simp [handshapelaw09_ExamsRanked.l1] at h, fun _ _ _ _ _ _ r h => by simp [handshapelaw09_ExamsRanked.l2] at h, fun _ _ _ _ _ r h => by simp [handshapelaw09_ExamsRanked.j6] at h, fun _ _ _ _ _ r h => by simp [handshapelaw09_ExamsRanked.l3] at h⟩
  | k + 1 => by
    obtain ⟨ih0, ih1, ih2, ih3, ih4, ih5, ih6, ih7⟩ := handshapelaw09_ExamsRanked.mono_l k
    refine ⟨?_, ?_, ?_, ?_, ?_, ?_, ?_, ?_⟩
    · intro y0 y1 y2
      unfold handshapelaw09_ExamsRanked.j0
      repeat' first
      | (with_reducible exact ih0 _ _ _)
      | (with_reducible exact ih1 _ _ _ _)
      | (with_reducible exact ih2 _ _ _ _ _)
      | (with_reducible exact ih3 _ _ _ _)
      | (with_reducible exact ih4 _ _ _ _)
      | (with_reducible exact ih5 _ _ _ _ _ _)
      | (with_reducible exact ih6 _ _ _ _ _)
      | (with_reducible exact ih7 _ _ _ _ _)
      | (with_reducible exact exams_Ranks.mono _ _)
      | (with_reducible exact handshapelaw09_ready.mono _ _ _ _ _)
      | (with_reducible exact handshapelaw09_works.mono _)
      | (with_reducible exact handshaperef09_IsPossible.mono _ _ _ _ _ _)
      | (with_reducible exact handshaperef09_Result.mono _ _ _ _ _ _)
      | (with_reducible exact LeO.refl _)
      | (with_reducible exact LeO.none _)
      | (with_reducible refine LeO.ite ?_ ?_)
      | (with_reducible refine LeO.bind ?_ (fun _ => ?_))
      | exact ih0 _ _ _
      | exact ih1 _ _ _ _
      | exact ih2 _ _ _ _ _
      | exact ih3 _ _ _ _
      | exact ih4 _ _ _ _
      | exact ih5 _ _ _ _ _ _
      | exact ih6 _ _ _ _ _
      | exact ih7 _ _ _ _ _
      | exact exams_Ranks.mono _ _
      | exact handshapelaw09_ready.mono _ _ _ _ _
      | exact handshapelaw09_works.mono _
      | exact handshaperef09_IsPossible.mono _ _ _ _ _ _
      | exact handshaperef09_Result.mono _ _ _ _ _ _
      | exact LeO.none _
      | refine LeO.ite ?_ ?_
      | refine LeO.bind ?_ (fun _ => ?_)
    · intro y0 y1 y2 y3
      unfold handshapelaw09_ExamsRanked.l0
      repeat' first
      | (with_reducible exact ih0 _ _ _)
      | (with_reducible exact ih1 _ _ _ _)
      | (with_reducible exact ih2 _ _ _ _ _)
      | (with_reducible exact ih3 _ _ _ _)
      | (with_reducible exact ih4 _ _ _ _)
      | (with_reducible exact ih5 _ _ _ _ _ _)
      | (with_reducible exact ih6 _ _ _ _ _)
      | (with_reducible exact ih7 _ _ _ _ _)
      | (with_reducible exact exams_Ranks.mono _ _)
      | (with_reducible exact handshapelaw09_ready.mono _ _ _ _ _)
      | (with_reducible exact handshapelaw09_works.mono _)
      | (with_reducible exact handshaperef09_IsPossible.mono _ _ _ _ _ _)
      | (with_reducible exact handshaperef09_Result.mono _ _ _ _ _ _)
      | (with_reducible exact LeO.refl _)
      | (with_reducible exact LeO.none _)
      | (with_reducible refine LeO.ite ?_ ?_)
      | (with_reducible refine LeO.bind ?_ (fun _ => ?_))
      | exact ih0 _ _ _
      | exact ih1 _ _ _ _
      | exact ih2 _ _ _ _ _
      | exact ih3 _ _ _ _
      | exact ih4 _ _ _ _
      | exact ih5 _ _ _ _ _ _
      | exact ih6 _ _ _ _ _
      | exact ih7 _ _ _ _ _
      | exact exams_Ranks.mono _ _
      | exact handshapelaw09_ready.mono _ _ _ _ _
      | exact handshapelaw09_works.mono _
      | exact handshaperef09_IsPossible.mono _ _ _ _ _ _
      | exact handshaperef09_Result.mono _ _ _ _ _ _
      | exact LeO.none _
      | refine LeO.ite ?_ ?_
      | refine LeO.bind ?_ (fun _ => ?_)
    · intro y0 y1 y2 y3 y4
      unfold handshapelaw09_ExamsRanked.j2
      repeat' first
      | (with_reducible exact ih0 _ _ _)
      | (with_reducible exact ih1 _ _ _ _)
      | (with_reducible exact ih2 _ _ _ _ _)
      | (with_reducible exact ih3 _ _ _ _)
      | (with_reducible exact ih4 _ _ _ _)
      | (with_reducible exact ih5 _ _ _ _ _ _)
      | (with_reducible exact ih6 _ _ _ _ _)
      | (with_reducible exact ih7 _ _ _ _ _)
      | (with_reducible exact exams_Ranks.mono _ _)
      | (with_reducible exact handshapelaw09_ready.mono _ _ _ _ _)
      | (with_reducible exact handshapelaw09_works.mono _)
      | (with_reducible exact handshaperef09_IsPossible.mono _ _ _ _ _ _)
      | (with_reducible exact handshaperef09_Result.mono _ _ _ _ _ _)
      | (with_reducible exact LeO.refl _)
      | (with_reducible exact LeO.none _)
      | (with_reducible refine LeO.ite ?_ ?_)
      | (with_reducible refine LeO.bind ?_ (fun _ => ?_))
      | exact ih0 _ _ _
      | exact ih1 _ _ _ _
      | exact ih2 _ _ _ _ _
      | exact ih3 _ _ _ _
      | exact ih4 _ _ _ _
      | exact ih5 _ _ _ _ _ _
      | exact ih6 _ _ _ _ _
      | exact ih7 _ _ _ _ _
      | exact exams_Ranks.mono _ _
      | exact handshapelaw09_ready.mono _ _ _ _ _
      | exact handshapelaw09_works.mono _
      | exact handshaperef09_IsPossible.mono _ _ _ _ _ _
      | exact handshaperef09_Result.mono _ _ _ _ _ _
      | exact LeO.none _
      | refine LeO.ite ?_ ?_
      | refine LeO.bind ?_ (fun _ => ?_)
    · intro y0 y1 y2 y3
      unfold handshapelaw09_ExamsRanked.j3
      repeat' first
      | (with_reducible exact ih0 _ _ _)
      | (with_reducible exact ih1 _ _ _ _)
      | (with_reducible exact ih2 _ _ _ _ _)
      | (with_reducible exact ih3 _ _ _ _)
      | (with_reducible exact ih4 _ _ _ _)
      | (with_reducible exact ih5 _ _ _ _ _ _)
      | (with_reducible exact ih6 _ _ _ _ _)
      | (with_reducible exact ih7 _ _ _ _ _)
      | (with_reducible exact exams_Ranks.mono _ _)
      | (with_reducible exact handshapelaw09_ready.mono _ _ _ _ _)
      | (with_reducible exact handshapelaw09_works.mono _)
      | (with_reducible exact handshaperef09_IsPossible.mono _ _ _ _ _ _)
      | (with_reducible exact handshaperef09_Result.mono _ _ _ _ _ _)
      | (with_reducible exact LeO.refl _)
      | (with_reducible exact LeO.none _)
      | (with_reducible refine LeO.ite ?_ ?_)
      | (with_reducible refine LeO.bind ?_ (fun _ => ?_))
      | exact ih0 _ _ _
      | exact ih1 _ _ _ _
      | exact ih2 _ _ _ _ _
      | exact ih3 _ _ _ _
      | exact ih4 _ _ _ _
      | exact ih5 _ _ _ _ _ _
      | exact ih6 _ _ _ _ _
      | exact ih7 _ _ _ _ _
      | exact exams_Ranks.mono _ _
      | exact handshapelaw09_ready.mono _ _ _ _ _
      | exact handshapelaw09_works.mono _
      | exact handshaperef09_IsPossible.mono _ _ _ _ _ _
      | exact handshaperef09_Result.mono _ _ _ _ _ _
      | exact LeO.none _
      | refine LeO.ite ?_ ?_
      | refine LeO.bind ?_ (fun _ => ?_)
    · intro y0 y1 y2 y3
      unfold handshapelaw09_ExamsRanked.l1
      repeat' first
      | (with_reducible exact ih0 _ _ _)
      | (with_reducible exact ih1 _ _ _ _)
      | (with_reducible exact ih2 _ _ _ _ _)
      | (with_reducible exact ih3 _ _ _ _)
      | (with_reducible exact ih4 _ _ _ _)
      | (with_reducible exact ih5 _ _ _ _ _ _)
      | (with_reducible exact ih6 _ _ _ _ _)
      | (with_reducible exact ih7 _ _ _ _ _)
      | (with_reducible exact exams_Ranks.mono _ _)
      | (with_reducible exact handshapelaw09_ready.mono _ _ _ _ _)
      | (with_reducible exact handshapelaw09_works.mono _)
      | (with_reducible exact handshaperef09_IsPossible.mono _ _ _ _ _ _)
      | (with_reducible exact handshaperef09_Result.mono _ _ _ _ _ _)
      | (with_reducible exact LeO.refl _)
      | (with_reducible exact LeO.none _)
      | (with_reducible refine LeO.ite ?_ ?_)
      | (with_reducible refine LeO.bind ?_ (fun _ => ?_))
      | exact ih0 _ _ _
      | exact ih1 _ _ _ _
      | exact ih2 _ _ _ _ _
      | exact ih3 _ _ _ _
      | exact ih4 _ _ _ _
      | exact ih5 _ _ _ _ _ _
      | exact ih6 _ _ _ _ _
      | exact ih7 _ _ _ _ _
      | exact exams_Ranks.mono _ _
      | exact handshapelaw09_ready.mono _ _ _ _ _
      | exact handshapelaw09_works.mono _
      | exact handshaperef09_IsPossible.mono _ _ _ _ _ _
      | exact handshaperef09_Result.mono _ _ _ _ _ _
      | exact LeO.none _
      | refine LeO.ite ?_ ?_
      | refine LeO.bind ?_ (fun _ => ?_)
    · intro y0 y1 y2 y3 y4 y5
      unfold handshapelaw09_ExamsRanked.l2
      repeat' first
      | (with_reducible exact ih0 _ _ _)
      | (with_reducible exact ih1 _ _ _ _)
      | (with_reducible exact ih2 _ _ _ _ _)
      | (with_reducible exact ih3 _ _ _ _)
      | (with_reducible exact ih4 _ _ _ _)
      | (with_reducible exact ih5 _ _ _ _ _ _)
      | (with_reducible exact ih6 _ _ _ _ _)
      | (with_reducible exact ih7 _ _ _ _ _)
      | (with_reducible exact exams_Ranks.mono _ _)
      | (with_reducible exact handshapelaw09_ready.mono _ _ _ _ _)
      | (with_reducible exact handshapelaw09_works.mono _)
      | (with_reducible exact handshaperef09_IsPossible.mono _ _ _ _ _ _)
      | (with_reducible exact handshaperef09_Result.mono _ _ _ _ _ _)
      | (with_reducible exact LeO.refl _)
      | (with_reducible exact LeO.none _)
      | (with_reducible refine LeO.ite ?_ ?_)
      | (with_reducible refine LeO.bind ?_ (fun _ => ?_))
      | exact ih0 _ _ _
      | exact ih1 _ _ _ _
      | exact ih2 _ _ _ _ _
      | exact ih3 _ _ _ _
      | exact ih4 _ _ _ _
      | exact ih5 _ _ _ _ _ _
      | exact ih6 _ _ _ _ _
      | exact ih7 _ _ _ _ _
      | exact exams_Ranks.mono _ _
      | exact handshapelaw09_ready.mono _ _ _ _ _
      | exact handshapelaw09_works.mono _
      | exact handshaperef09_IsPossible.mono _ _ _ _ _ _
      | exact handshaperef09_Result.mono _ _ _ _ _ _
      | exact LeO.none _
      | refine LeO.ite ?_ ?_
      | refine LeO.bind ?_ (fun _ => ?_)
    · intro y0 y1 y2 y3 y4
      unfold handshapelaw09_ExamsRanked.j6
      repeat' first
      | (with_reducible exact ih0 _ _ _)
      | (with_reducible exact ih1 _ _ _ _)
      | (with_reducible exact ih2 _ _ _ _ _)
      | (with_reducible exact ih3 _ _ _ _)
      | (with_reducible exact ih4 _ _ _ _)
      | (with_reducible exact ih5 _ _ _ _ _ _)
      | (with_reducible exact ih6 _ _ _ _ _)
      | (with_reducible exact ih7 _ _ _ _ _)
      | (with_reducible exact exams_Ranks.mono _ _)
      | (with_reducible exact handshapelaw09_ready.mono _ _ _ _ _)
      | (with_reducible exact handshapelaw09_works.mono _)
      | (with_reducible exact handshaperef09_IsPossible.mono _ _ _ _ _ _)
      | (with_reducible exact handshaperef09_Result.mono _ _ _ _ _ _)
      | (with_reducible exact LeO.refl _)
      | (with_reducible exact LeO.none _)
      | (with_reducible refine LeO.ite ?_ ?_)
      | (with_reducible refine LeO.bind ?_ (fun _ => ?_))
      | exact ih0 _ _ _
      | exact ih1 _ _ _ _
      | exact ih2 _ _ _ _ _
      | exact ih3 _ _ _ _
      | exact ih4 _ _ _ _
      | exact ih5 _ _ _ _ _ _
      | exact ih6 _ _ _ _ _
      | exact ih7 _ _ _ _ _
      | exact exams_Ranks.mono _ _
      | exact handshapelaw09_ready.mono _ _ _ _ _
      | exact handshapelaw09_works.mono _
      | exact handshaperef09_IsPossible.mono _ _ _ _ _ _
      | exact handshaperef09_Result.mono _ _ _ _ _ _
      | exact LeO.none _
      | refine LeO.ite ?_ ?_
      | refine LeO.bind ?_ (fun _ => ?_)
    · intro y0 y1 y2 y3 y4
      unfold handshapelaw09_ExamsRanked.l3
      repeat' first
      | (with_reducible exact ih0 _ _ _)
      | (with_reducible exact ih1 _ _ _ _)
      | (with_reducible exact ih2 _ _ _ _ _)
      | (with_reducible exact ih3 _ _ _ _)
      | (with_reducible exact ih4 _ _ _ _)
      | (with_reducible exact ih5 _ _ _ _ _ _)
      | (with_reducible exact ih6 _ _ _ _ _)
      | (with_reducible exact ih7 _ _ _ _ _)
      | (with_reducible exact exams_Ranks.mono _ _)
      | (with_reducible exact handshapelaw09_ready.mono _ _ _ _ _)
      | (with_reducible exact handshapelaw09_works.mono _)
      | (with_reducible exact handshaperef09_IsPossible.mono _ _ _ _ _ _)
      | (with_reducible exact handshaperef09_Result.mono _ _ _ _ _ _)
      | (with_reducible exact LeO.refl _)
      | (with_reducible exact LeO.none _)
      | (with_reducible refine LeO.ite ?_ ?_)
      | (with_reducible refine LeO.bind ?_ (fun _ => ?_))
      | exact ih0 _ _ _
      | exact ih1 _ _ _ _
      | exact ih2 _ _ _ _ _
      | exact ih3 _ _ _ _
      | exact ih4 _ _ _ _
      | exact ih5 _ _ _ _ _ _
      | exact ih6 _ _ _ _ _
      | exact ih7 _ _ _ _ _
      | exact exams_Ranks.mono _ _
      | exact handshapelaw09_ready.mono _ _ _ _ _
      | exact handshapelaw09_works.mono _
      | exact handshaperef09_IsPossible.mono _ _ _ _ _ _
      | exact handshaperef09_Result.mono _ _ _ _ _ _
      | exact LeO.none _
      | refine LeO.ite ?_ ?_
      | refine LeO.bind ?_ (fun _ => ?_)
theorem handshapelaw09_ExamsRanked.mono : ∀ a0 a1 k, LeO (handshapelaw09_ExamsRanked.f k a0 a1) (handshapelaw09_ExamsRanked.f (k + 1) a0 a1) := by
  intro a0 a1 k
  obtain ⟨ih0, ih1, ih2, ih3, ih4, ih5, ih6, ih7⟩ := handshapelaw09_ExamsRanked.mono_l k
  unfold handshapelaw09_ExamsRanked.f
  repeat' first
      | (with_reducible exact ih0 _ _ _)
      | (with_reducible exact ih1 _ _ _ _)
      | (with_reducible exact ih2 _ _ _ _ _)
      | (with_reducible exact ih3 _ _ _ _)
      | (with_reducible exact ih4 _ _ _ _)
      | (with_reducible exact ih5 _ _ _ _ _ _)
      | (with_reducible exact ih6 _ _ _ _ _)
      | (with_reducible exact ih7 _ _ _ _ _)
      | (with_reducible exact exams_Ranks.mono _ _)
      | (with_reducible exact handshapelaw09_ready.mono _ _ _ _ _)
      | (with_reducible exact handshapelaw09_works.mono _)
      | (with_reducible exact handshaperef09_IsPossible.mono _ _ _ _ _ _)
      | (with_reducible exact handshaperef09_Result.mono _ _ _ _ _ _)
      | (with_reducible exact LeO.refl _)
      | (with_reducible exact LeO.none _)
      | (with_reducible refine LeO.ite ?_ ?_)
      | (with_reducible refine LeO.bind ?_ (fun _ => ?_))
      | exact ih0 _ _ _
      | exact ih1 _ _ _ _
      | exact ih2 _ _ _ _ _
      | exact ih3 _ _ _ _
      | exact ih4 _ _ _ _
      | exact ih5 _ _ _ _ _ _
      | exact ih6 _ _ _ _ _
      | exact ih7 _ _ _ _ _
      | exact exams_Ranks.mono _ _
      | exact handshapelaw09_ready.mono _ _ _ _ _
      | exact handshapelaw09_works.mono _
      | exact handshaperef09_IsPossible.mono _ _ _ _ _ _
      | exact handshaperef09_Result.mono _ _ _ _ _ _
      | exact LeO.none _
      | refine LeO.ite ?_ ?_
      | refine LeO.bind ?_ (fun _ => ?_)
def handshapelaw09_ExamsRanked.T7 : Bool × List (List Nat × List Nat) := (true, [([], []), ([], []), ([0, 1], [0, 1]), ([2], [2]), ([3], [3]), ([4], [4]), ([5, 4], [5]), ([6], [6]), ([6], [6]), ([7, 8, 6], [6, 7, 8]), ([9, 6], [6, 9]), ([10, 6], [6, 10]), ([11, 6], [6, 11]), ([6, 12], [6, 12]), ([13, 6], [13]), ([14], [14]), ([14], [14]), ([15, 16, 14], [14, 15, 16]), ([17, 14], [14, 17]), ([14], [14]), ([14], [14]), ([19, 20, 14], [14, 19, 20]), ([21, 14], [14, 21]), ([18, 22, 14, 14], [14, 18, 22]), ([23, 14], [14, 23]), ([14, 24], [14, 24])])
def handshapelaw09_ExamsRanked.B7 : List Nat := [0, 0, 3, 7, 15, 31, 63, 127, 127, 511, 1023, 2047, 4095, 8191, 16383, 32767, 32767, 131071, 262143, 32767, 32767, 1605631, 3702783, 8388607, 16777215, 33554431]
theorem handshapelaw09_ExamsRanked.tab7 : rtab .any (opsOf Try.f4 7) = handshapelaw09_ExamsRanked.T7 := by kernel_rfl
theorem handshapelaw09_ExamsRanked.bits7 : waitsOk handshapelaw09_ExamsRanked.T7.2 handshapelaw09_ExamsRanked.B7 = true := by kernel_rfl
def handshapelaw09_ExamsRanked.T9 : Bool × List (List Nat × List Nat) := (true, [([], []), ([], []), ([], []), ([1, 2], [1, 2]), ([3], [3]), ([], []), ([], []), ([5, 6], [5, 6]), ([7], [7]), ([4, 8], [4, 8]), ([9], [9]), ([0, 10, 9], [0, 10]), ([11, 11, 0, 1, 2, 3, 4, 5, 6, 7, 8, 9, 10, 11], [0, 11])])
def handshapelaw09_ExamsRanked.B9 : List Nat := [0, 0, 0, 6, 14, 0, 0, 96, 224, 510, 1022, 2047, 4095]
theorem handshapelaw09_ExamsRanked.tab9 : rtab .any (opsOf Try.f4 9) = handshapelaw09_ExamsRanked.T9 := by kernel_rfl
theorem handshapelaw09_ExamsRanked.bits9 : waitsOk handshapelaw09_ExamsRanked.T9.2 handshapelaw09_ExamsRanked.B9 = true := by kernel_rfl
def handshapelaw09_ExamsRanked.T20 : Bool × List (List Nat × List Nat) := (true, [([], []), ([], []), ([0, 1], [0, 1]), ([2], [2]), ([], []), ([], []), ([4, 5], [4, 5]), ([6], [6]), ([3, 7], [3, 7])])
def handshapelaw09_ExamsRanked.B20 : List Nat := [0, 0, 3, 7, 0, 0, 48, 112, 255]
theorem handshapelaw09_ExamsRanked.tab20 : rtab .any (opsOf Try.f4 20) = handshapelaw09_ExamsRanked.T20 := by kernel_rfl
theorem handshapelaw09_ExamsRanked.bits20 : waitsOk handshapelaw09_ExamsRanked.T20.2 handshapelaw09_ExamsRanked.B20 = true := by kernel_rfl
def handshapelaw09_ExamsRanked.T29 : Bool × List (List Nat × List Nat) := (true, [([], []), ([0], [0]), ([1], [1]), ([2], [2]), ([3, 2], [2, 3]), ([2, 4], [2, 4]), ([5, 2], [5]), ([6], [6]), ([7, 6], [6, 7]), ([6], [6]), ([9, 6], [6, 9]), ([8, 10, 6], [6, 8, 10]), ([11, 6, 6], [6, 11]), ([12], [12]), ([12], [12]), ([13, 14, 12], [12, 13, 14]), ([15, 12], [12, 15]), ([16, 12], [12, 16]), ([12], [12]), ([12], [12]), ([18, 19, 12], [12, 18, 19]), ([20, 12], [12, 20]), ([21, 12], [12, 21]), ([17, 22, 12], [12, 17, 22]), ([23, 12, 12], [12, 23]), ([24], [24]), ([24], [24]), ([25, 26, 24], [24, 25, 26]), ([27, 24], [24, 27]), ([28, 24], [24, 28]), ([24], [24]), ([24], [24]), ([30, 31, 24], [24, 30, 31]), ([32, 24], [24, 32]), ([33, 24], [24, 33]), ([29, 34, 24], [24, 29, 34]), ([24, 35, 12], [12, 24, 35]), ([12, 36, 6], [6, 12, 36]), ([6, 37], [6, 37])])
def handshapelaw09_ExamsRanked.B29 : List Nat := [0, 1, 3, 7, 15, 31, 63, 127, 255, 127, 639, 2047, 4095, 8191, 8191, 32767, 65535, 131071, 8191, 8191, 794623, 1843199, 3940351, 8388607, 16777215, 33554431, 33554431, 134217727, 268435455, 536870911, 33554431, 33554431, 3254779903, 7549747199, 16139681791, 34359738367, 68719476735, 137438953471, 274877906943]
theorem handshapelaw09_ExamsRanked.tab29 : rtab .any (opsOf Try.f4 29) = handshapelaw09_ExamsRanked.T29 := by kernel_rfl
theorem handshapelaw09_ExamsRanked.bits29 : waitsOk handshapelaw09_ExamsRanked.T29.2 handshapelaw09_ExamsRanked.B29 = true := by kernel_rfl
end Go.Proofs.Ytinnjghpmambiaa.Print
