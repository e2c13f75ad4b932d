import Derived.Test.YtinnjghpmambiaaExP2
import Derived.Test.YtinnjghpmambiaaPrint5
namespace Go.Proofs.Ytinnjghpmambiaa.Ext
open Go.RowKit Go.Proofs.YtinnjghpmambiaaW.PrintWords Go.Proofs.YtinnjghpmambiaaW.PrintMore Go.Proofs.Ytinnjghpmambiaa.Print

/-! The examples work; what Range says of a valid paper. -/
def exItems : List S93 := [⟨2, 10⟩, ⟨1, 20⟩]
def exJudges : List S30 := [⟨⟨0, 1⟩, 1, [7, 15]⟩, ⟨⟨-1, 0⟩, 0, [6, 13]⟩, ⟨⟨0, 0⟩, 1, [3, 14]⟩]
theorem works_ev : Ev (fun k => handshapelaw09_works.f k) true := Ev.of (fun k => handshapelaw09_works.mono k) (k := 6) (by decide +kernel)

/-- A paper that is valid: what Range says of it. -/
theorem range_ok {I : List S93} {J : List S30} {a2 : Int} {G : List Int} (h : paperOk I J a2 G = true) : exams_Range.f I J a2 G = some (if (svOf I J a2).poss = true then ((svOf I J a2).rlo, (svOf I J a2).rhi, 0) else (0, 0, 3)) := by
  unfold exams_Range.f knownErr
  rw [if_pos h, if_pos rfl]
  cases (svOf I J a2).poss
  · rw [if_neg (by decide), if_neg (by decide), if_neg (by decide)]
  · rw [if_pos rfl, if_pos rfl, if_pos rfl]
theorem paper_parts {I : List S93} {J : List S30} {a2 : Int} {G : List Int} : paperOk I J a2 G = true ↔ (wiB I.length 1 4 = true ∧ I.all (fun x => itemOk x.f0 x.f1) = true ∧ J.length ≤ 4 ∧ (∀ x ∈ J, judgeOk I.length x.f0.f0 x.f0.f1 x.f1 x.f2 = true) ∧ (0 ≤ a2 ∧ a2 ≤ 2) ∧ G.length ≤ 5 ∧ gradesOk G = true) := by
  unfold paperOk
  simp only [Bool.and_eq_true, Bool.not_eq_true', decide_eq_false_iff_not, List.all_eq_true, wiB_iff]
  constructor
  · rintro ⟨h1, h2, h3, h4, h5, h6, h7⟩
    exact ⟨h1, h2, by omega, h4, h5, by omega, h7⟩
  · rintro ⟨h1, h2, h3, h4, h5, h6, h7⟩
    exact ⟨h1, h2, by omega, h4, h5, by omega, h7⟩
theorem judge_iff {n : Nat} {a b c : Int} {l : List Int} : judgeOk n a b c l = true ↔ -3 ≤ a ∧ a ≤ b ∧ b ≤ 3 ∧ (0 ≤ c ∧ c ≤ 5) ∧ l.length = n ∧ (l.all fun n => wiB n (-1) 50) = true := by
  unfold judgeOk
  simp only [Bool.and_eq_true, decide_eq_true_eq, wiB_iff]

end Go.Proofs.Ytinnjghpmambiaa.Ext
