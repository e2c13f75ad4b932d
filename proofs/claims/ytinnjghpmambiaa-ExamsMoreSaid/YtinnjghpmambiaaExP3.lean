import Derived.Test.YtinnjghpmambiaaExP2
import Derived.Test.YtinnjghpmambiaaPrint4
namespace Go.Proofs.Ytinnjghpmambiaa.Ext
open Go.RowKit Go.Proofs.YtinnjghpmambiaaW.PrintWords Go.Proofs.Ytinnjghpmambiaa.Print

/-! ready, as a plain function. -/
section
variable (I : List S93) (J : List S30) (a2 : Int) (G : List Int)
def longMarks (x : S30) : Bool := decide (20 < x.f2.length)
def farB : Bool := decide (20 < I.length) || (decide (20 < J.length) || (decide (20 < G.length) || (J.any longMarks || (paperOk I J a2 G && decide (3 < J.length)))))
theorem far_l0 (hJ : J.length < 9223372036854775808) (hn : Ev (fun k => handshaperef09_Check.f k I J a2 G) (errOf 90 (paperOk I J a2 G))) : ∀ (d q : Nat), q + d = J.length → Ev (fun k => handshapelaw09_Far.l0 k (q : Int) I J a2 G) ((J.drop q).any longMarks || (paperOk I J a2 G && decide (3 < J.length)))
  | 0, q, hq => by
    rw [List.drop_eq_nil_of_le (by omega), List.any_nil, Bool.false_or]
    refine Ev.step (f := fun k => (handshaperef09_Check.f k I J a2 G).bind fun t119 => (if t119 = 0 then (some (decide ((J.length : Int) > 3))) else (some false))) (fun k => ?_) (Ev.bind hn ?_)
    · rw [handshapelaw09_Far.l0, if_neg (by omega)]
    · cases paperOk I J a2 G with
      | false => exact Ev.congr (fun k => by rw [if_neg (by decide), Bool.false_and]) (Ev.now _)
      | true => exact Ev.congr (fun k => by rw [if_pos (by rfl), Bool.true_and]; congr 1; exact decide_eq_decide.2 (by omega)) (Ev.now _)
  | d + 1, q, hq => by
    have hlt : q < J.length := by omega
    have ih := far_l0 hJ hn d (q + 1) (by omega)
    rw [drop_at J z30 q hlt, List.any_cons]
    have hrd : rd_T30 J (q : Int) = J.getD q z30 := by unfold rd_T30; rw [Int.toNat_natCast]
    obtain ⟨x, hx⟩ : ∃ x, J.getD q z30 = x := ⟨_, rfl⟩
    rw [hx] at hrd ⊢
    by_cases c : 20 < x.f2.length
    · rw [show longMarks x = true from decide_eq_true c, Bool.true_or, Bool.true_or]
      refine Ev.step (f := fun _ => some true) (fun k => ?_) (Ev.now _)
      rw [handshapelaw09_Far.l0, if_pos (by omega), if_pos (by omega), hrd, if_pos (by omega)]
    · rw [show longMarks x = false from decide_eq_false c, Bool.false_or]
      refine Ev.step (fun k => ?_) ih
      rw [handshapelaw09_Far.l0, if_pos (by omega), if_pos (by omega), hrd, if_neg (by omega), wr1 q (by omega)]
theorem far_ev (hJ : J.length < 9223372036854775808) (hn : Ev (fun k => handshaperef09_Check.f k I J a2 G) (errOf 90 (paperOk I J a2 G))) : Ev (fun k => handshapelaw09_Far.f k I J a2 G) (farB I J a2 G) := by
  have yes : ∀ b : Bool, b = true → Ev (fun k => handshapelaw09_Far.j0 k b I J a2 G) true := by
    intro b hb
    refine Ev.step (f := fun _ => some true) (fun k => ?_) (Ev.now _)
    rw [handshapelaw09_Far.j0, if_pos hb]
  unfold farB
  by_cases c1 : 20 < I.length
  · rw [decide_eq_true c1, Bool.true_or]
    refine Ev.congr (fun k => ?_) (yes true rfl)
    unfold handshapelaw09_Far.f
    rw [if_pos (by omega)]
  rw [decide_eq_false c1, Bool.false_or]
  by_cases c2 : 20 < J.length
  · rw [decide_eq_true c2, Bool.true_or]
    refine Ev.congr (fun k => ?_) (yes true rfl)
    unfold handshapelaw09_Far.f
    rw [if_neg (by omega), if_pos (by omega)]
  rw [decide_eq_false c2, Bool.false_or]
  by_cases c3 : 20 < G.length
  · rw [decide_eq_true c3, Bool.true_or]
    refine Ev.congr (fun k => ?_) (yes (decide ((G.length : Int) > 20)) (decide_eq_true (by omega)))
    unfold handshapelaw09_Far.f
    rw [if_neg (by omega), if_neg (by omega)]
  rw [decide_eq_false c3, Bool.false_or]
  have h0 := far_l0 I J a2 G hJ hn J.length 0 (by omega)
  rw [List.drop_zero] at h0
  refine Ev.congr (f := fun k => handshapelaw09_Far.j0 k (decide ((G.length : Int) > 20)) I J a2 G) (fun k => ?_) (Ev.step (fun k => ?_) h0)
  · unfold handshapelaw09_Far.f
    rw [if_neg (by omega), if_neg (by omega)]
  · rw [handshapelaw09_Far.j0, if_neg (by simp; omega)]; rfl
/-- ready. -/
theorem ready_ev (hI : I.length < 9223372036854775808) (hJ : J.length < 9223372036854775808) (hM : ∀ x ∈ J, x.f2.length < 9223372036854775808) (hG : G.length < 9223372036854775808) : Ev (fun k => handshapelaw09_ready.f k I J a2 G) (!farB I J a2 G && paperOk I J a2 G) := by
  have hc := check_ev I J a2 G hI hJ hM hG
  refine Ev.congr (f := fun k => (handshapelaw09_Far.f k I J a2 G).bind fun t121 => (if t121 = true then (some false) else ((handshaperef09_Check.f k I J a2 G).bind fun t122 => (some (t122 == 0))))) (fun k => rfl) (Ev.bind (far_ev I J a2 G hJ hc) ?_)
  cases farB I J a2 G with
  | true => exact Ev.congr (fun k => by rw [if_pos rfl]; rfl) (Ev.now _)
  | false =>
    refine Ev.congr (f := fun k => (handshaperef09_Check.f k I J a2 G).bind fun t122 => (some (t122 == 0))) (fun k => by rw [if_neg (by decide)]) (Ev.bind hc ?_)
    cases paperOk I J a2 G <;> exact Ev.now _
end
end Go.Proofs.Ytinnjghpmambiaa.Ext
