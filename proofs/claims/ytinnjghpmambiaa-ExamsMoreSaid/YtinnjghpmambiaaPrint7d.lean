-- Written for this claim by wip/pr.py of this work, which runs the kit's print.py with some contracts given by hand. Lean checks it.
import Derived.Test.YtinnjghpmambiaaPrint0
import Derived.Test.YtinnjghpmambiaaPrint3
import Derived.Test.YtinnjghpmambiaaPrint4
import Derived.Test.YtinnjghpmambiaaPrint5
import Derived.Test.YtinnjghpmambiaaPrint6
import Derived.Test.YtinnjghpmambiaaExC
namespace Go.Proofs.Ytinnjghpmambiaa.Print
open Go.RowKit Go.Proofs.YtinnjghpmambiaaW.PrintWords Go.Proofs.YtinnjghpmambiaaW.PrintLast Go.Proofs.YtinnjghpmambiaaW.PrintMore
attribute [local go_sem] max2_int min2_int max_two min_two max_three min_three max_four min_four   -- for this text's walks alone
set_option linter.unusedVariables false
set_option linter.unusedSimpArgs false

open Go.Proofs.Ytinnjghpmambiaa.Ext
/-! ### handshapelaw09_ExamsMore: function 3 -/
mutual
def handshapelaw09_ExamsMore.j0 : Nat → Bool → List (S93) → List (S30) → Int → List Int → Int → Int → Int → List Int → Int → Int → Int → Int → Option (Bool)
  | 0, _, _, _, _, _, _, _, _, _, _, _, _, _ => none
  | k + 1, x59, x204000, x204001, x204002, x204003, x205000, x205001, x205002, x205003, x205004, x205005, x205006, x205007 => if x59 = true then ((handshapelaw09_works.f k).bind fun t206 => (some t206)) else ((exams_Range.f x204000 x204001 x204002 x204003).bind fun bt207 => (if bt207.2.2 = 0 then (handshapelaw09_ExamsMore.j1 k bt207.2.2 false x204000 x204001 x204002 x204003 x205000 x205001 x205002 x205003 x205004 x205005 x205006 x205007 bt207.1 bt207.2.1) else (handshapelaw09_ExamsMore.j1 k bt207.2.2 (bt207.2.2 != 3) x204000 x204001 x204002 x204003 x205000 x205001 x205002 x205003 x205004 x205005 x205006 x205007 bt207.1 bt207.2.1)))
def handshapelaw09_ExamsMore.j1 : Nat → Int → Bool → List (S93) → List (S30) → Int → List Int → Int → Int → Int → List Int → Int → Int → Int → Int → Int → Int → Option (Bool)
  | 0, _, _, _, _, _, _, _, _, _, _, _, _, _, _, _, _ => none
  | k + 1, x6, x71, x204000, x204001, x204002, x204003, x205000, x205001, x205002, x205003, x205004, x205005, x205006, x205007, x211000, x211001 => if x71 = true then (none) else ((handshaperef09_Copy.f k x204000 x204001 x204002 x204003).bind fun bt211 => (if bt211.2.1.length < 2932031007402 then ((some (bt211.2.1 ++ [(⟨(⟨x205000, x205001⟩ : S28), x205002, x205003⟩ : S30)] : List (S30))).bind fun y222 => ((handshaperef09_Check.f k bt211.1 y222 bt211.2.2.1 bt211.2.2.2).bind fun t225 => (if t225 = 0 then ((exams_Range.f bt211.1 y222 bt211.2.2.1 bt211.2.2.2).bind fun bt226 => (if bt226.2.2 = 0 then (if x6 = 0 then (if bt226.1 < x211000 then (handshapelaw09_ExamsMore.j2 k x6 true x204000 x204001 x204002 x204003 x205000 x205001 x205002 x205003 x205004 x205005 x205006 x205007 x211000 x211001) else (handshapelaw09_ExamsMore.j2 k x6 (decide (bt226.2.1 > x211001)) x204000 x204001 x204002 x204003 x205000 x205001 x205002 x205003 x205004 x205005 x205006 x205007 x211000 x211001)) else (handshapelaw09_ExamsMore.j2 k x6 true x204000 x204001 x204002 x204003 x205000 x205001 x205002 x205003 x205004 x205005 x205006 x205007 x211000 x211001)) else (if bt226.2.2 = 3 then (handshapelaw09_ExamsMore.j2 k x6 false x204000 x204001 x204002 x204003 x205000 x205001 x205002 x205003 x205004 x205005 x205006 x205007 x211000 x211001) else (handshapelaw09_ExamsMore.j2 k x6 true x204000 x204001 x204002 x204003 x205000 x205001 x205002 x205003 x205004 x205005 x205006 x205007 x211000 x211001)))) else (handshapelaw09_ExamsMore.j3 k x6 x204000 x204001 x204002 x204003 x205000 x205001 x205002 x205003 x205004 x205005 x205006 x205007 x211000 x211001)))) else (none)))
def handshapelaw09_ExamsMore.j3 : Nat → Int → List (S93) → List (S30) → Int → List Int → Int → Int → Int → List Int → Int → Int → Int → Int → Int → Int → Option (Bool)
  | 0, _, _, _, _, _, _, _, _, _, _, _, _, _, _, _ => none
  | k + 1, x6, x204000, x204001, x204002, x204003, x205000, x205001, x205002, x205003, x205004, x205005, x205006, x205007, x211000, x211001 => (handshaperef09_Copy.f k x204000 x204001 x204002 x204003).bind fun bt230 => (if x205005 ≥ 0 then (handshapelaw09_ExamsMore.j4 k x6 (decide (x205005 < (bt230.2.1.length : Int))) x205000 x205001 x205002 x205003 x205004 x205005 x205006 x205007 x211000 x211001 bt230.1 bt230.2.1 (mn 2 (wrap64 (bt230.2.2.1 + x205004))) bt230.2.2.2) else (handshapelaw09_ExamsMore.j4 k x6 false x205000 x205001 x205002 x205003 x205004 x205005 x205006 x205007 x211000 x211001 bt230.1 bt230.2.1 (mn 2 (wrap64 (bt230.2.2.1 + x205004))) bt230.2.2.2))
def handshapelaw09_ExamsMore.j4 : Nat → Int → Bool → Int → Int → Int → List Int → Int → Int → Int → Int → Int → Int → List (S93) → List (S30) → Int → List Int → Option (Bool)
  | 0, _, _, _, _, _, _, _, _, _, _, _, _, _, _, _, _ => none
  | k + 1, x6, x136, x205000, x205001, x205002, x205003, x205004, x205005, x205006, x205007, x211000, x211001, x241000, x241001, x241002, x241003 => if x136 = true then (if 0 ≤ x205005 then (if x205005 < (x241001.length : Int) then ((handshapelaw09_span.f (mx (-3) (wrap64 (((rd_T30 x241001 x205005).f0.f0) - x205007))) (mn 3 (wrap64 (((rd_T30 x241001 x205005).f0.f1) + x205007)))).bind fun bt243 => (handshapelaw09_ExamsMore.j5 k x6 x211000 x211001 x241000 (x241001.set (x205005 : Int).toNat (⟨(⟨bt243.1, bt243.2⟩ : S28), mn 5 (wrap64 (((rd_T30 x241001 x205005).f1) + x205006)), (rd_T30 x241001 x205005).f2⟩ : S30)) x241002 x241003)) else (none)) else (none)) else (handshapelaw09_ExamsMore.j5 k x6 x211000 x211001 x241000 x241001 x241002 x241003)
def handshapelaw09_ExamsMore.j5 : Nat → Int → Int → Int → List (S93) → List (S30) → Int → List Int → Option (Bool)
  | 0, _, _, _, _, _, _, _ => none
  | k + 1, x6, x211000, x211001, x241000, x241001, x241002, x241003 => (exams_Range.f x241000 x241001 x241002 x241003).bind fun bt246 => (if bt246.2.2 = 0 then (if x6 = 0 then (if bt246.1 ≤ x211000 then (if bt246.2.1 ≥ x211001 then ((handshapelaw09_works.f k).bind fun t250 => (some t250)) else (none)) else (none)) else ((handshapelaw09_works.f k).bind fun t251 => (some t251))) else (if bt246.2.2 = 3 then (if x6 = 0 then (none) else ((handshapelaw09_works.f k).bind fun t252 => (some t252))) else (none)))
def handshapelaw09_ExamsMore.j2 : Nat → Int → Bool → List (S93) → List (S30) → Int → List Int → Int → Int → Int → List Int → Int → Int → Int → Int → Int → Int → Option (Bool)
  | 0, _, _, _, _, _, _, _, _, _, _, _, _, _, _, _, _ => none
  | k + 1, x6, x116, x204000, x204001, x204002, x204003, x205000, x205001, x205002, x205003, x205004, x205005, x205006, x205007, x211000, x211001 => if x116 = true then (none) else (handshapelaw09_ExamsMore.j3 k x6 x204000 x204001 x204002 x204003 x205000 x205001 x205002 x205003 x205004 x205005 x205006 x205007 x211000 x211001)
end
def handshapelaw09_ExamsMore.f (k : Nat) (l0_0 : List (S93)) (l0_1 : List (S30)) (a0_2 : Int) (l0_3 : List Int) (a1_0 : Int) (a1_1 : Int) (a1_2 : Int) (l1_3 : List Int) (a1_4 : Int) (a1_5 : Int) (a1_6 : Int) (a1_7 : Int) : Option (Bool) := (handshapelaw09_ready.f k l0_0 l0_1 a0_2 l0_3).bind fun t205 => (if t205 = true then (if (l0_1.length : Int) > 2 then (handshapelaw09_ExamsMore.j0 k true l0_0 l0_1 a0_2 l0_3 a1_0 a1_1 a1_2 l1_3 a1_4 a1_5 a1_6 a1_7) else (if (l1_3.length : Int) > 20 then (handshapelaw09_ExamsMore.j0 k true l0_0 l0_1 a0_2 l0_3 a1_0 a1_1 a1_2 l1_3 a1_4 a1_5 a1_6 a1_7) else (if a1_4 < 0 then (handshapelaw09_ExamsMore.j0 k true l0_0 l0_1 a0_2 l0_3 a1_0 a1_1 a1_2 l1_3 a1_4 a1_5 a1_6 a1_7) else (if a1_4 > 9 then (handshapelaw09_ExamsMore.j0 k true l0_0 l0_1 a0_2 l0_3 a1_0 a1_1 a1_2 l1_3 a1_4 a1_5 a1_6 a1_7) else (if a1_6 < 0 then (handshapelaw09_ExamsMore.j0 k true l0_0 l0_1 a0_2 l0_3 a1_0 a1_1 a1_2 l1_3 a1_4 a1_5 a1_6 a1_7) else (if a1_6 > 9 then (handshapelaw09_ExamsMore.j0 k true l0_0 l0_1 a0_2 l0_3 a1_0 a1_1 a1_2 l1_3 a1_4 a1_5 a1_6 a1_7) else (if a1_7 < 0 then (handshapelaw09_ExamsMore.j0 k true l0_0 l0_1 a0_2 l0_3 a1_0 a1_1 a1_2 l1_3 a1_4 a1_5 a1_6 a1_7) else (handshapelaw09_ExamsMore.j0 k (decide (a1_7 > 9)) l0_0 l0_1 a0_2 l0_3 a1_0 a1_1 a1_2 l1_3 a1_4 a1_5 a1_6 a1_7)))))))) else (handshapelaw09_ExamsMore.j0 k true l0_0 l0_1 a0_2 l0_3 a1_0 a1_1 a1_2 l1_3 a1_4 a1_5 a1_6 a1_7))
theorem handshapelaw09_ExamsMore.mono_l : ∀ k, (∀ y0 y1 y2 y3 y4 y5 y6 y7 y8 y9 y10 y11 y12, LeO (handshapelaw09_ExamsMore.j0 k y0 y1 y2 y3 y4 y5 y6 y7 y8 y9 y10 y11 y12) (handshapelaw09_ExamsMore.j0 (k + 1) y0 y1 y2 y3 y4 y5 y6 y7 y8 y9 y10 y11 y12)) ∧ (∀ y0 y1 y2 y3 y4 y5 y6 y7 y8 y9 y10 y11 y12 y13 y14 y15, LeO (handshapelaw09_ExamsMore.j1 k y0 y1 y2 y3 y4 y5 y6 y7 y8 y9 y10 y11 y12 y13 y14 y15) (handshapelaw09_ExamsMore.j1 (k + 1) y0 y1 y2 y3 y4 y5 y6 y7 y8 y9 y10 y11 y12 y13 y14 y15)) ∧ (∀ y0 y1 y2 y3 y4 y5 y6 y7 y8 y9 y10 y11 y12 y13 y14, LeO (handshapelaw09_ExamsMore.j3 k y0 y1 y2 y3 y4 y5 y6 y7 y8 y9 y10 y11 y12 y13 y14) (handshapelaw09_ExamsMore.j3 (k + 1) y0 y1 y2 y3 y4 y5 y6 y7 y8 y9 y10 y11 y12 y13 y14)) ∧ (∀ y0 y1 y2 y3 y4 y5 y6 y7 y8 y9 y10 y11 y12 y13 y14 y15, LeO (handshapelaw09_ExamsMore.j4 k y0 y1 y2 y3 y4 y5 y6 y7 y8 y9 y10 y11 y12 y13 y14 y15) (handshapelaw09_ExamsMore.j4 (k + 1) y0 y1 y2 y3 y4 y5 y6 y7 y8 y9 y10 y11 y12 y13 y14 y15)) ∧ (∀ y0 y1 y2 y3 y4 y5 y6, LeO (handshapelaw09_ExamsMore.j5 k y0 y1 y2 y3 y4 y5 y6) (handshapelaw09_ExamsMore.j5 (k + 1) y0 y1 y2 y3 y4 y5 y6)) ∧ (∀ y0 y1 y2 y3 y4 y5 y6 y7 y8 y9 y10 y11 y12 y13 y14 y15, LeO (handshapelaw09_ExamsMore.j2 k y0 y1 y2 y3 y4 y5 y6 y7 y8 y9 y10 y11 y12 y13 y14 y15) (handshapelaw09_ExamsMore.j2 (k + 1) y0 y1 y2 y3 y4 y5 y6 y7 y8 y9 y10 y11 y12 y13 y14 y15))
  | 0 => ⟨fun _ _ _ _ _ _ _ _ _ _ _ _ _ r h => by simp [handshapelaw09_ExamsMore.j0] at h, fun _ _ _ _ _ _ _ _ _ _ _ _ _ _ _ _ r h => by simp [handshapelaw09_ExamsMore.j1] at h, fun _ _ _ _ _ _ _ _ _ _ _ _ _ _ _ r h => by simp [handshapelaw09_ExamsMore.j3] at h, fun _ _ _ _ _ _ _ _ _ _ _ _ _ _ _ _ r h => by simp [handshapelaw09_ExamsMore.j4] at h, fun _ _ _ _ _ _ _ r h => by simp [handshapelaw09_ExamsMore.j5] at h, fun _ _ _ _ _ _ _ _ _ _ _ _ _ _ _ _ r h => by simp [handshapelaw09_ExamsMore.j2] at h⟩
  | k + 1 => by
    obtain ⟨ih0, ih1, ih2, ih3, ih4, ih5⟩ := handshapelaw09_ExamsMore.mono_l k
    refine ⟨?_, ?_, ?_, ?_, ?_, ?_⟩
    · intro y0 y1 y2 y3 y4 y5 y6 y7 y8 y9 y10 y11 y12
      unfold handshapelaw09_ExamsMore.j0
      repeat' first
      | (with_reducible exact ih0 _ _ _ _ _ _ _ _ _ _ _ _ _)
      | (with_reducible exact ih1 _ _ _ _ _ _ _ _ _ _ _ _ _ _ _ _)
      | (with_reducible exact ih2 _ _ _ _ _ _ _ _ _ _ _ _ _ _ _)
      | (with_reducible exact ih3 _ _ _ _ _ _ _ _ _ _ _ _ _ _ _ _)
      | (with_reducible exact ih4 _ _ _ _ _ _ _)
      | (with_reducible exact ih5 _ _ _ _ _ _ _ _ _ _ _ _ _ _ _ _)
      | (with_reducible exact handshapelaw09_ready.mono _ _ _ _ _)
      | (with_reducible exact handshapelaw09_works.mono _)
      | (with_reducible exact handshaperef09_Check.mono _ _ _ _ _)
      | (with_reducible exact handshaperef09_Copy.mono _ _ _ _ _)
      | (with_reducible exact LeO.refl _)
      | (with_reducible exact LeO.none _)
      | (with_reducible refine LeO.ite ?_ ?_)
      | (with_reducible refine LeO.bind ?_ (fun _ => ?_))
      | exact ih0 _ _ _ _ _ _ _ _ _ _ _ _ _
      | exact ih1 _ _ _ _ _ _ _ _ _ _ _ _ _ _ _ _
      | exact ih2 _ _ _ _ _ _ _ _ _ _ _ _ _ _ _
      | exact ih3 _ _ _ _ _ _ _ _ _ _ _ _ _ _ _ _
      | exact ih4 _ _ _ _ _ _ _
      | exact ih5 _ _ _ _ _ _ _ _ _ _ _ _ _ _ _ _
      | exact handshapelaw09_ready.mono _ _ _ _ _
      | exact handshapelaw09_works.mono _
      | exact handshaperef09_Check.mono _ _ _ _ _
      | exact handshaperef09_Copy.mono _ _ _ _ _
      | exact LeO.none _
      | refine LeO.ite ?_ ?_
      | refine LeO.bind ?_ (fun _ => ?_)
    · intro y0 y1 y2 y3 y4 y5 y6 y7 y8 y9 y10 y11 y12 y13 y14 y15
      unfold handshapelaw09_ExamsMore.j1
      repeat' first
      | (with_reducible exact ih0 _ _ _ _ _ _ _ _ _ _ _ _ _)
      | (with_reducible exact ih1 _ _ _ _ _ _ _ _ _ _ _ _ _ _ _ _)
      | (with_reducible exact ih2 _ _ _ _ _ _ _ _ _ _ _ _ _ _ _)
      | (with_reducible exact ih3 _ _ _ _ _ _ _ _ _ _ _ _ _ _ _ _)
      | (with_reducible exact ih4 _ _ _ _ _ _ _)
      | (with_reducible exact ih5 _ _ _ _ _ _ _ _ _ _ _ _ _ _ _ _)
      | (with_reducible exact handshapelaw09_ready.mono _ _ _ _ _)
      | (with_reducible exact handshapelaw09_works.mono _)
      | (with_reducible exact handshaperef09_Check.mono _ _ _ _ _)
      | (with_reducible exact handshaperef09_Copy.mono _ _ _ _ _)
      | (with_reducible exact LeO.refl _)
      | (with_reducible exact LeO.none _)
      | (with_reducible refine LeO.ite ?_ ?_)
      | (with_reducible refine LeO.bind ?_ (fun _ => ?_))
      | exact ih0 _ _ _ _ _ _ _ _ _ _ _ _ _
      | exact ih1 _ _ _ _ _ _ _ _ _ _ _ _ _ _ _ _
      | exact ih2 _ _ _ _ _ _ _ _ _ _ _ _ _ _ _
      | exact ih3 _ _ _ _ _ _ _ _ _ _ _ _ _ _ _ _
      | exact ih4 _ _ _ _ _ _ _
      | exact ih5 _ _ _ _ _ _ _ _ _ _ _ _ _ _ _ _
      | exact handshapelaw09_ready.mono _ _ _ _ _
      | exact handshapelaw09_works.mono _
      | exact handshaperef09_Check.mono _ _ _ _ _
      | exact handshaperef09_Copy.mono _ _ _ _ _
      | exact LeO.none _
      | refine LeO.ite ?_ ?_
      | refine LeO.bind ?_ (fun _ => ?_)
    · intro y0 y1 y2 y3 y4 y5 y6 y7 y8 y9 y10 y11 y12 y13 y14
      unfold handshapelaw09_ExamsMore.j3
      repeat' first
      | (with_reducible exact ih0 _ _ _ _ _ _ _ _ _ _ _ _ _)
      | (with_reducible exact ih1 _ _ _ _ _ _ _ _ _ _ _ _ _ _ _ _)
      | (with_reducible exact ih2 _ _ _ _ _ _ _ _ _ _ _ _ _ _ _)
      | (with_reducible exact ih3 _ _ _ _ _ _ _ _ _ _ _ _ _ _ _ _)
      | (with_reducible exact ih4 _ _ _ _ _ _ _)
      | (with_reducible exact ih5 _ _ _ _ _ _ _ _ _ _ _ _ _ _ _ _)
      | (with_reducible exact handshapelaw09_ready.mono _ _ _ _ _)
      | (with_reducible exact handshapelaw09_works.mono _)
      | (with_reducible exact handshaperef09_Check.mono _ _ _ _ _)
      | (with_reducible exact handshaperef09_Copy.mono _ _ _ _ _)
      | (with_reducible exact LeO.refl _)
      | (with_reducible exact LeO.none _)
      | (with_reducible refine LeO.ite ?_ ?_)
      | (with_reducible refine LeO.bind ?_ (fun _ => ?_))
      | exact ih0 _ _ _ _ _ _ _ _ _ _ _ _ _
      | exact ih1 _ _ _ _ _ _ _ _ _ _ _ _ _ _ _ _
      | exact ih2 _ _ _ _ _ _ _ _ _ _ _ _ _ _ _
      | exact ih3 _ _ _ _ _ _ _ _ _ _ _ _ _ _ _ _
      | exact ih4 _ _ _ _ _ _ _
      | exact ih5 _ _ _ _ _ _ _ _ _ _ _ _ _ _ _ _
      | exact handshapelaw09_ready.mono _ _ _ _ _
      | exact handshapelaw09_works.mono _
      | exact handshaperef09_Check.mono _ _ _ _ _
      | exact handshaperef09_Copy.mono _ _ _ _ _
      | exact LeO.none _
      | refine LeO.ite ?_ ?_
      | refine LeO.bind ?_ (fun _ => ?_)
    · intro y0 y1 y2 y3 y4 y5 y6 y7 y8 y9 y10 y11 y12 y13 y14 y15
      unfold handshapelaw09_ExamsMore.j4
      repeat' first
      | (with_reducible exact ih0 _ _ _ _ _ _ _ _ _ _ _ _ _)
      | (with_reducible exact ih1 _ _ _ _ _ _ _ _ _ _ _ _ _ _ _ _)
      | (with_reducible exact ih2 _ _ _ _ _ _ _ _ _ _ _ _ _ _ _)
      | (with_reducible exact ih3 _ _ _ _ _ _ _ _ _ _ _ _ _ _ _ _)
      | (with_reducible exact ih4 _ _ _ _ _ _ _)
      | (with_reducible exact ih5 _ _ _ _ _ _ _ _ _ _ _ _ _ _ _ _)
      | (with_reducible exact handshapelaw09_ready.mono _ _ _ _ _)
      | (with_reducible exact handshapelaw09_works.mono _)
      | (with_reducible exact handshaperef09_Check.mono _ _ _ _ _)
      | (with_reducible exact handshaperef09_Copy.mono _ _ _ _ _)
      | (with_reducible exact LeO.refl _)
      | (with_reducible exact LeO.none _)
      | (with_reducible refine LeO.ite ?_ ?_)
      | (with_reducible refine LeO.bind ?_ (fun _ => ?_))
      | exact ih0 _ _ _ _ _ _ _ _ _ _ _ _ _
      | exact ih1 _ _ _ _ _ _ _ _ _ _ _ _ _ _ _ _
      | exact ih2 _ _ _ _ _ _ _ _ _ _ _ _ _ _ _
      | exact ih3 _ _ _ _ _ _ _ _ _ _ _ _ _ _ _ _
      | exact ih4 _ _ _ _ _ _ _
      | exact ih5 _ _ _ _ _ _ _ _ _ _ _ _ _ _ _ _
      | exact handshapelaw09_ready.mono _ _ _ _ _
      | exact handshapelaw09_works.mono _
      | exact handshaperef09_Check.mono _ _ _ _ _
      | exact handshaperef09_Copy.mono _ _ _ _ _
      | exact LeO.none _
      | refine LeO.ite ?_ ?_
      | refine LeO.bind ?_ (fun _ => ?_)
    · intro y0 y1 y2 y3 y4 y5 y6
      unfold handshapelaw09_ExamsMore.j5
      repeat' first
      | (with_reducible exact ih0 _ _ _ _ _ _ _ _ _ _ _ _ _)
      | (with_reducible exact ih1 _ _ _ _ _ _ _ _ _ _ _ _ _ _ _ _)
      | (with_reducible exact ih2 _ _ _ _ _ _ _ _ _ _ _ _ _ _ _)
      | (with_reducible exact ih3 _ _ _ _ _ _ _ _ _ _ _ _ _ _ _ _)
      | (with_reducible exact ih4 _ _ _ _ _ _ _)
      | (with_reducible exact ih5 _ _ _ _ _ _ _ _ _ _ _ _ _ _ _ _)
      | (with_reducible exact handshapelaw09_ready.mono _ _ _ _ _)
      | (with_reducible exact handshapelaw09_works.mono _)
      | (with_reducible exact handshaperef09_Check.mono _ _ _ _ _)
      | (with_reducible exact handshaperef09_Copy.mono _ _ _ _ _)
      | (with_reducible exact LeO.refl _)
      | (with_reducible exact LeO.none _)
      | (with_reducible refine LeO.ite ?_ ?_)
      | (with_reducible refine LeO.bind ?_ (fun _ => ?_))
      | exact ih0 _ _ _ _ _ _ _ _ _ _ _ _ _
      | exact ih1 _ _ _ _ _ _ _ _ _ _ _ _ _ _ _ _
      | exact ih2 _ _ _ _ _ _ _ _ _ _ _ _ _ _ _
      | exact ih3 _ _ _ _ _ _ _ _ _ _ _ _ _ _ _ _
      | exact ih4 _ _ _ _ _ _ _
      | exact ih5 _ _ _ _ _ _ _ _ _ _ _ _ _ _ _ _
      | exact handshapelaw09_ready.mono _ _ _ _ _
      | exact handshapelaw09_works.mono _
      | exact handshaperef09_Check.mono _ _ _ _ _
      | exact handshaperef09_Copy.mono _ _ _ _ _
      | exact LeO.none _
      | refine LeO.ite ?_ ?_
      | refine LeO.bind ?_ (fun _ => ?_)
    · intro y0 y1 y2 y3 y4 y5 y6 y7 y8 y9 y10 y11 y12 y13 y14 y15
      unfold handshapelaw09_ExamsMore.j2
      repeat' first
      | (with_reducible exact ih0 _ _ _ _ _ _ _ _ _ _ _ _ _)
      | (with_reducible exact ih1 _ _ _ _ _ _ _ _ _ _ _ _ _ _ _ _)
      | (with_reducible exact ih2 _ _ _ _ _ _ _ _ _ _ _ _ _ _ _)
      | (with_reducible exact ih3 _ _ _ _ _ _ _ _ _ _ _ _ _ _ _ _)
      | (with_reducible exact ih4 _ _ _ _ _ _ _)
      | (with_reducible exact ih5 _ _ _ _ _ _ _ _ _ _ _ _ _ _ _ _)
      | (with_reducible exact handshapelaw09_ready.mono _ _ _ _ _)
      | (with_reducible exact handshapelaw09_works.mono _)
      | (with_reducible exact handshaperef09_Check.mono _ _ _ _ _)
      | (with_reducible exact handshaperef09_Copy.mono _ _ _ _ _)
      | (with_reducible exact LeO.refl _)
      | (with_reducible exact LeO.none _)
      | (with_reducible refine LeO.ite ?_ ?_)
      | (with_reducible refine LeO.bind ?_ (fun _ => ?_))
      | exact ih0 _ _ _ _ _ _ _ _ _ _ _ _ _
      | exact ih1 _ _ _ _ _ _ _ _ _ _ _ _ _ _ _ _
      | exact ih2 _ _ _ _ _ _ _ _ _ _ _ _ _ _ _
      | exact ih3 _ _ _ _ _ _ _ _ _ _ _ _ _ _ _ _
      | exact ih4 _ _ _ _ _ _ _
      | exact ih5 _ _ _ _ _ _ _ _ _ _ _ _ _ _ _ _
      | exact handshapelaw09_ready.mono _ _ _ _ _
      | exact handshapelaw09_works.mono _
      | exact handshaperef09_Check.mono _ _ _ _ _
      | exact handshaperef09_Copy.mono _ _ _ _ _
      | exact LeO.none _
      | refine LeO.ite ?_ ?_
      | refine LeO.bind ?_ (fun _ => ?_)
theorem handshapelaw09_ExamsMore.mono : ∀ a0 a1 a2 a3 a4 a5 a6 a7 a8 a9 a10 a11 k, LeO (handshapelaw09_ExamsMore.f k a0 a1 a2 a3 a4 a5 a6 a7 a8 a9 a10 a11) (handshapelaw09_ExamsMore.f (k + 1) a0 a1 a2 a3 a4 a5 a6 a7 a8 a9 a10 a11) := by
  intro a0 a1 a2 a3 a4 a5 a6 a7 a8 a9 a10 a11 k
  obtain ⟨ih0, ih1, ih2, ih3, ih4, ih5⟩ := handshapelaw09_ExamsMore.mono_l k
  unfold handshapelaw09_ExamsMore.f
  repeat' first
      | (with_reducible exact ih0 _ _ _ _ _ _ _ _ _ _ _ _ _)
      | (with_reducible exact ih1 _ _ _ _ _ _ _ _ _ _ _ _ _ _ _ _)
      | (with_reducible exact ih2 _ _ _ _ _ _ _ _ _ _ _ _ _ _ _)
      | (with_reducible exact ih3 _ _ _ _ _ _ _ _ _ _ _ _ _ _ _ _)
      | (with_reducible exact ih4 _ _ _ _ _ _ _)
      | (with_reducible exact ih5 _ _ _ _ _ _ _ _ _ _ _ _ _ _ _ _)
      | (with_reducible exact handshapelaw09_ready.mono _ _ _ _ _)
      | (with_reducible exact handshapelaw09_works.mono _)
      | (with_reducible exact handshaperef09_Check.mono _ _ _ _ _)
      | (with_reducible exact handshaperef09_Copy.mono _ _ _ _ _)
      | (with_reducible exact LeO.refl _)
      | (with_reducible exact LeO.none _)
      | (with_reducible refine LeO.ite ?_ ?_)
      | (with_reducible refine LeO.bind ?_ (fun _ => ?_))
      | exact ih0 _ _ _ _ _ _ _ _ _ _ _ _ _
      | exact ih1 _ _ _ _ _ _ _ _ _ _ _ _ _ _ _ _
      | exact ih2 _ _ _ _ _ _ _ _ _ _ _ _ _ _ _
      | exact ih3 _ _ _ _ _ _ _ _ _ _ _ _ _ _ _ _
      | exact ih4 _ _ _ _ _ _ _
      | exact ih5 _ _ _ _ _ _ _ _ _ _ _ _ _ _ _ _
      | exact handshapelaw09_ready.mono _ _ _ _ _
      | exact handshapelaw09_works.mono _
      | exact handshaperef09_Check.mono _ _ _ _ _
      | exact handshaperef09_Copy.mono _ _ _ _ _
      | exact LeO.none _
      | refine LeO.ite ?_ ?_
      | refine LeO.bind ?_ (fun _ => ?_)
end Go.Proofs.Ytinnjghpmambiaa.Print
