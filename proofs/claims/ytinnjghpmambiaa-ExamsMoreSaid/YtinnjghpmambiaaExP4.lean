import Derived.Test.YtinnjghpmambiaaExP1
import Derived.Test.YtinnjghpmambiaaExP3
import Derived.Test.YtinnjghpmambiaaExP3b
import Derived.Test.YtinnjghpmambiaaExPw
import Derived.Test.YtinnjghpmambiaaPrint5
import Derived.Test.YtinnjghpmambiaaPrint7d
namespace Go.Proofs.Ytinnjghpmambiaa.Ext
open Go.RowKit Go.Proofs.YtinnjghpmambiaaW.PrintWords Go.Proofs.YtinnjghpmambiaaW.PrintMore Go.Proofs.Ytinnjghpmambiaa.Print

/-! ExamsMore holds: the law as a plain function. -/
section
variable (I : List S93) (J : List S30) (a2 : Int) (G : List Int) (b0 b1 e : Int) (M : List Int) (dw who de db : Int)
/-- The wider paper's judges. -/
theorem more_j5 (J2 : List S30) (w2 : Int) (x6 lo hi : Int) (hp : paperOk I J2 w2 G = true) (hx : x6 = 0 → (svOf I J2 w2).poss = true ∧ (svOf I J2 w2).rlo ≤ lo ∧ hi ≤ (svOf I J2 w2).rhi) : Ev (fun k => handshapelaw09_ExamsMore.j5 k x6 lo hi I J2 w2 G) true := by
  have hw : Ev (fun k => (handshapelaw09_works.f k).bind fun t => some t) true := Ev.bind works_ev (Ev.now _)
  cases hs : (svOf I J2 w2).poss with
  | true =>
    by_cases h0 : x6 = 0
    · obtain ⟨_, h1, h2⟩ := hx h0
      refine Ev.step (fun k => ?_) hw
      rw [handshapelaw09_ExamsMore.j5, range_ok hp, hs, if_pos rfl, Option.bind_some, if_pos rfl, if_pos h0, if_pos h1, if_pos h2]
    · refine Ev.step (fun k => ?_) hw
      rw [handshapelaw09_ExamsMore.j5, range_ok hp, hs, if_pos rfl, Option.bind_some, if_pos rfl, if_neg h0]
  | false =>
    have h0 : ¬ x6 = 0 := fun h0 => by rw [(hx h0).1] at hs; cases hs
    refine Ev.step (fun k => ?_) hw
    rw [handshapelaw09_ExamsMore.j5, range_ok hp, hs, if_neg (by decide), Option.bind_some, if_neg (by decide), if_pos rfl, if_neg h0]
theorem le3_facts {A B : Sv} {x6 lo hi : Int} (h : Le3 (proj A) (proj B)) (ha : x6 = 0 → A.poss = true ∧ A.rlo = lo ∧ A.rhi = hi) : x6 = 0 → B.poss = true ∧ B.rlo ≤ lo ∧ hi ≤ B.rhi := by
  intro h0
  obtain ⟨h1, h2, h3⟩ := ha h0
  obtain ⟨g1, g2, g3⟩ := h
  exact ⟨g3 h1, by rw [← h2]; exact g1, by rw [← h3]; exact g2⟩
theorem more_j3 (x6 lo hi : Int) (hp : paperOk I J a2 G = true) (hx : x6 = 0 → (svOf I J a2).poss = true ∧ (svOf I J a2).rlo = lo ∧ (svOf I J a2).rhi = hi) (hw0 : 0 ≤ dw) (hw9 : dw ≤ 9) (he0 : 0 ≤ de) (he9 : de ≤ 9) (hd0 : 0 ≤ db) (hd9 : db ≤ 9) : Ev (fun k => handshapelaw09_ExamsMore.j3 k x6 I J a2 G b0 b1 e M dw who de db lo hi) true := by
  obtain ⟨p1, p2, p3, p4, p5, p6, p7⟩ := paper_parts.1 hp
  have hI : I.length < 1000000 := by have := (wiB_iff.1 p1).2; omega
  have hM : ∀ x ∈ J, x.f2.length < 1000000 := fun x hx => by have := (judge_iff.1 (p4 x hx)).2.2.2.2.1; omega
  have hc := copy_ev I J a2 G hI (by omega) hM (by omega)
  have hmn : mn 2 (wrap64 (a2 + dw)) = min 2 (a2 + dw) := by unfold mn; rw [show wrap64 (a2 + dw) = a2 + dw by unfold wrap64; omega]; split <;> omega
  obtain ⟨w2, hw2⟩ : ∃ w2, min 2 (a2 + dw) = w2 := ⟨_, rfl⟩
  rw [hw2] at hmn
  have hw2a : a2 ≤ w2 := by omega
  have hpw : paperOk I J w2 G = true := paper_parts.2 ⟨p1, p2, p3, p4, ⟨by omega, by omega⟩, p6, p7⟩
  have same : Ev (fun k => handshapelaw09_ExamsMore.j5 k x6 lo hi I J w2 G) true := more_j5 I G J w2 x6 lo hi hpw (le3_facts (sv_wide I J J a2 w2 (RelJ.refl J) hw2a) hx)
  have j4f : Ev (fun k => handshapelaw09_ExamsMore.j4 k x6 false b0 b1 e M dw who de db lo hi I J w2 G) true := by
    refine Ev.step (fun k => ?_) same
    rw [handshapelaw09_ExamsMore.j4, if_neg (by decide)]
  by_cases c1 : who ≥ 0
  · have main : Ev (fun k => handshapelaw09_ExamsMore.j4 k x6 (decide (who < (J.length : Int))) b0 b1 e M dw who de db lo hi I J w2 G) true := by
      by_cases c2 : who < (J.length : Int)
      · rw [decide_eq_true c2]
        obtain ⟨q, rfl⟩ : ∃ q : Nat, who = (q : Int) := ⟨who.toNat, by omega⟩
        have hq : q < J.length := by omega
        have hrd : rd_T30 J (q : Int) = J[q] := by unfold rd_T30; rw [Int.toNat_natCast, List.getD_eq_getElem?_getD, List.getElem?_eq_getElem hq]; rfl
        have hmem : J[q] ∈ J := List.getElem_mem hq
        have hjq := judge_iff.1 (p4 _ hmem)
        obtain ⟨x, hxq⟩ : ∃ x, J[q] = x := ⟨_, rfl⟩
        rw [hxq] at hrd hjq hmem
        obtain ⟨g1, g2, g3, ⟨g4, g5⟩, g6, g7⟩ := hjq
        have f1 : mx (-3) (wrap64 (x.f0.f0 - db)) = max (-3) (x.f0.f0 - db) := by unfold mx; rw [show wrap64 (x.f0.f0 - db) = x.f0.f0 - db by unfold wrap64; omega]; split <;> omega
        have f2 : mn 3 (wrap64 (x.f0.f1 + db)) = min 3 (x.f0.f1 + db) := by unfold mn; rw [show wrap64 (x.f0.f1 + db) = x.f0.f1 + db by unfold wrap64; omega]; split <;> omega
        have f3 : mn 5 (wrap64 (x.f1 + de)) = min 5 (x.f1 + de) := by unfold mn; rw [show wrap64 (x.f1 + de) = x.f1 + de by unfold wrap64; omega]; split <;> omega
        obtain ⟨y, hy⟩ : ∃ y : S30, y = ⟨⟨max (-3) (x.f0.f0 - db), min 3 (x.f0.f1 + db)⟩, min 5 (x.f1 + de), x.f2⟩ := ⟨_, rfl⟩
        have hyo : judgeOk I.length y.f0.f0 y.f0.f1 y.f1 y.f2 = true := by
          subst hy
          rw [judge_iff]
          exact ⟨by show -3 ≤ max _ _; omega, by show max _ _ ≤ min _ _; omega, by show min _ _ ≤ 3; omega, ⟨by show 0 ≤ min _ _; omega, by show min _ _ ≤ 5; omega⟩, g6, g7⟩
        have hps : paperOk I (J.set q y) w2 G = true := paper_parts.2 ⟨p1, p2, by rw [List.length_set]; exact p3, fun z hz => by
          rcases List.mem_or_eq_of_mem_set hz with h | h
          · exact p4 z h
          · rw [h]; exact hyo, ⟨by omega, by omega⟩, p6, p7⟩
        have hrel : RelJ J (J.set q y) := RelJ.set J q y fun z hz => by
          rw [List.getElem?_eq_getElem hq, hxq] at hz
          obtain rfl := Option.some.inj hz
          subst hy
          exact ⟨rfl, by show _ ≤ min _ _; omega, by show max _ _ ≤ _; omega, by show _ ≤ min _ _; omega⟩
        refine Ev.step (fun k => ?_) (more_j5 I G (J.set q y) w2 x6 lo hi hps (le3_facts (sv_wide I J (J.set q y) a2 w2 hrel hw2a) hx))
        rw [handshapelaw09_ExamsMore.j4, if_pos rfl, if_pos (by omega), if_pos c2, hrd, f1, f2, f3, handshapelaw09_span.f, Option.bind_some, Int.toNat_natCast, hy]
      · rw [decide_eq_false c2]
        exact j4f
    refine Ev.step (f := fun k => (handshaperef09_Copy.f k I J a2 G).bind fun bt230 => (if who ≥ 0 then (handshapelaw09_ExamsMore.j4 k x6 (decide (who < (bt230.2.1.length : Int))) b0 b1 e M dw who de db lo hi bt230.1 bt230.2.1 (mn 2 (wrap64 (bt230.2.2.1 + dw))) bt230.2.2.2) else (handshapelaw09_ExamsMore.j4 k x6 false b0 b1 e M dw who de db lo hi bt230.1 bt230.2.1 (mn 2 (wrap64 (bt230.2.2.1 + dw))) bt230.2.2.2))) (fun k => ?_) (Ev.bind hc ?_)
    · rw [handshapelaw09_ExamsMore.j3]
    · refine Ev.congr (fun k => ?_) main
      rw [if_pos c1, hmn]
  · refine Ev.step (f := fun k => (handshaperef09_Copy.f k I J a2 G).bind fun bt230 => (if who ≥ 0 then (handshapelaw09_ExamsMore.j4 k x6 (decide (who < (bt230.2.1.length : Int))) b0 b1 e M dw who de db lo hi bt230.1 bt230.2.1 (mn 2 (wrap64 (bt230.2.2.1 + dw))) bt230.2.2.2) else (handshapelaw09_ExamsMore.j4 k x6 false b0 b1 e M dw who de db lo hi bt230.1 bt230.2.1 (mn 2 (wrap64 (bt230.2.2.1 + dw))) bt230.2.2.2))) (fun k => ?_) (Ev.bind hc ?_)
    · rw [handshapelaw09_ExamsMore.j3]
    · refine Ev.congr (fun k => ?_) j4f
      rw [if_neg c1, hmn]
theorem more_j1 (x6 lo hi : Int) (hp : paperOk I J a2 G = true) (hx : x6 = 0 → (svOf I J a2).poss = true ∧ (svOf I J a2).rlo = lo ∧ (svOf I J a2).rhi = hi) (hx2 : (svOf I J a2).poss = true → x6 = 0) (hM : M.length ≤ 20) (hw0 : 0 ≤ dw) (hw9 : dw ≤ 9) (he0 : 0 ≤ de) (he9 : de ≤ 9) (hd0 : 0 ≤ db) (hd9 : db ≤ 9) : Ev (fun k => handshapelaw09_ExamsMore.j1 k x6 false I J a2 G b0 b1 e M dw who de db lo hi) true := by
  have h3 := more_j3 I J a2 G b0 b1 e M dw who de db x6 lo hi hp hx hw0 hw9 he0 he9 hd0 hd9
  obtain ⟨p1, p2, p3, p4, p5, p6, p7⟩ := paper_parts.1 hp
  have hI : I.length < 1000000 := by have := (wiB_iff.1 p1).2; omega
  have hMM : ∀ x ∈ J, x.f2.length < 1000000 := fun x hx => by have := (judge_iff.1 (p4 x hx)).2.2.2.2.1; omega
  have hc := copy_ev I J a2 G hI (by omega) hMM (by omega)
  obtain ⟨j, hj⟩ : ∃ j : S30, j = ⟨⟨b0, b1⟩, e, M⟩ := ⟨_, rfl⟩
  have hck := check_ev I (J ++ [j]) a2 G (by omega) (by rw [List.length_append, List.length_singleton]; omega) (fun x hx => by
    rcases List.mem_append.1 hx with h | h
    · have := hMM x h; omega
    · rw [List.mem_singleton.1 h, hj]; show M.length < _; omega) (by omega)
  refine Ev.step (f := fun k => (handshaperef09_Copy.f k I J a2 G).bind fun bt211 => (if bt211.2.1.length < 2932031007402 then ((some (bt211.2.1 ++ [(⟨(⟨b0, b1⟩ : S28), e, M⟩ : S30)] : List (S30))).bind fun y222 => ((handshaperef09_Check.f k bt211.1 y222 bt211.2.2.1 bt211.2.2.2).bind fun t225 => (if t225 = 0 then ((exams_Range.f bt211.1 y222 bt211.2.2.1 bt211.2.2.2).bind fun bt226 => (if bt226.2.2 = 0 then (if x6 = 0 then (if bt226.1 < lo then (handshapelaw09_ExamsMore.j2 k x6 true I J a2 G b0 b1 e M dw who de db lo hi) else (handshapelaw09_ExamsMore.j2 k x6 (decide (bt226.2.1 > hi)) I J a2 G b0 b1 e M dw who de db lo hi)) else (handshapelaw09_ExamsMore.j2 k x6 true I J a2 G b0 b1 e M dw who de db lo hi)) else (if bt226.2.2 = 3 then (handshapelaw09_ExamsMore.j2 k x6 false I J a2 G b0 b1 e M dw who de db lo hi) else (handshapelaw09_ExamsMore.j2 k x6 true I J a2 G b0 b1 e M dw who de db lo hi)))) else (handshapelaw09_ExamsMore.j3 k x6 I J a2 G b0 b1 e M dw who de db lo hi)))) else (none))) (fun k => ?_) (Ev.bind hc ?_)
  · rw [handshapelaw09_ExamsMore.j1, if_neg (by decide)]
  have hl : J.length < 2932031007402 := by omega
  refine Ev.congr (f := fun k => (handshaperef09_Check.f k I (J ++ [j]) a2 G).bind fun t225 => (if t225 = 0 then ((exams_Range.f I (J ++ [j]) a2 G).bind fun bt226 => (if bt226.2.2 = 0 then (if x6 = 0 then (if bt226.1 < lo then (handshapelaw09_ExamsMore.j2 k x6 true I J a2 G b0 b1 e M dw who de db lo hi) else (handshapelaw09_ExamsMore.j2 k x6 (decide (bt226.2.1 > hi)) I J a2 G b0 b1 e M dw who de db lo hi)) else (handshapelaw09_ExamsMore.j2 k x6 true I J a2 G b0 b1 e M dw who de db lo hi)) else (if bt226.2.2 = 3 then (handshapelaw09_ExamsMore.j2 k x6 false I J a2 G b0 b1 e M dw who de db lo hi) else (handshapelaw09_ExamsMore.j2 k x6 true I J a2 G b0 b1 e M dw who de db lo hi)))) else (handshapelaw09_ExamsMore.j3 k x6 I J a2 G b0 b1 e M dw who de db lo hi))) (fun k => by rw [if_pos hl, Option.bind_some, hj]) (Ev.bind hck ?_)
  have j2f : Ev (fun k => handshapelaw09_ExamsMore.j2 k x6 false I J a2 G b0 b1 e M dw who de db lo hi) true := by
    refine Ev.step (fun k => ?_) h3
    rw [handshapelaw09_ExamsMore.j2, if_neg (by decide)]
  cases hm : paperOk I (J ++ [j]) a2 G with
  | false => exact Ev.congr (fun k => by rw [show errOf 90 false = 90 from rfl, if_neg (by decide)]) h3
  | true =>
    have hle := sv_more I J j a2
    cases hs : (svOf I (J ++ [j]) a2).poss with
    | false => exact Ev.congr (fun k => by rw [show errOf 90 true = 0 from rfl, if_pos rfl, range_ok hm, hs, if_neg (by decide), Option.bind_some, if_neg (by decide), if_pos rfl]) j2f
    | true =>
      obtain ⟨g1, g2, g3⟩ := hle
      have h0 := hx2 (g3 hs)
      obtain ⟨_, e1, e2⟩ := hx h0
      have k1 : ¬ (svOf I (J ++ [j]) a2).rlo < lo := by rw [← e1]; exact Int.not_lt.2 g1
      have k2 : ¬ (svOf I (J ++ [j]) a2).rhi > hi := by rw [← e2]; exact Int.not_lt.2 g2
      exact Ev.congr (fun k => by rw [show errOf 90 true = 0 from rfl, if_pos rfl, range_ok hm, hs, if_pos rfl, Option.bind_some, if_pos rfl, if_pos h0, if_neg k1, decide_eq_false k2]) j2f
/-- THE LAW ExamsMore, as a plain function: true for all papers and changes. -/
theorem ExamsMore_ev (hI : I.length < 9223372036854775808) (hJ : J.length < 9223372036854775808) (hMJ : ∀ x ∈ J, x.f2.length < 9223372036854775808) (hG : G.length < 9223372036854775808) : Ev (fun k => handshapelaw09_ExamsMore.f k I J a2 G b0 b1 e M dw who de db) true := by
  have yes : ∀ b : Bool, b = true → Ev (fun k => handshapelaw09_ExamsMore.j0 k b I J a2 G b0 b1 e M dw who de db) true := by
    intro b hb
    refine Ev.step (f := fun k => (handshapelaw09_works.f k).bind fun t => some t) (fun k => ?_) (Ev.bind works_ev (Ev.now _))
    rw [handshapelaw09_ExamsMore.j0, if_pos hb]
  refine Ev.congr (fun k => rfl) (Ev.bind (ready_ev I J a2 G hI hJ hMJ hG) ?_)
  cases hr : (!farB I J a2 G && paperOk I J a2 G) with
  | false => exact Ev.congr (fun k => by rw [if_neg (by decide)]) (yes true rfl)
  | true =>
    have hp : paperOk I J a2 G = true := (Bool.and_eq_true_iff.1 hr).2
    by_cases c1 : (J.length : Int) > 2
    · exact Ev.congr (fun k => by rw [if_pos rfl, if_pos c1]) (yes true rfl)
    by_cases c2 : (M.length : Int) > 20
    · exact Ev.congr (fun k => by rw [if_pos rfl, if_neg c1, if_pos c2]) (yes true rfl)
    by_cases c3 : dw < 0
    · exact Ev.congr (fun k => by rw [if_pos rfl, if_neg c1, if_neg c2, if_pos c3]) (yes true rfl)
    by_cases c4 : dw > 9
    · exact Ev.congr (fun k => by rw [if_pos rfl, if_neg c1, if_neg c2, if_neg c3, if_pos c4]) (yes true rfl)
    by_cases c5 : de < 0
    · exact Ev.congr (fun k => by rw [if_pos rfl, if_neg c1, if_neg c2, if_neg c3, if_neg c4, if_pos c5]) (yes true rfl)
    by_cases c6 : de > 9
    · exact Ev.congr (fun k => by rw [if_pos rfl, if_neg c1, if_neg c2, if_neg c3, if_neg c4, if_neg c5, if_pos c6]) (yes true rfl)
    by_cases c7 : db < 0
    · exact Ev.congr (fun k => by rw [if_pos rfl, if_neg c1, if_neg c2, if_neg c3, if_neg c4, if_neg c5, if_neg c6, if_pos c7]) (yes true rfl)
    refine Ev.congr (f := fun k => handshapelaw09_ExamsMore.j0 k (decide (db > 9)) I J a2 G b0 b1 e M dw who de db) (fun k => by rw [if_pos rfl, if_neg c1, if_neg c2, if_neg c3, if_neg c4, if_neg c5, if_neg c6, if_neg c7]) ?_
    by_cases c8 : db > 9
    · exact yes _ (decide_eq_true c8)
    rw [decide_eq_false c8]
    cases hs : (svOf I J a2).poss with
    | true =>
      have h1 := more_j1 I J a2 G b0 b1 e M dw who de db 0 (svOf I J a2).rlo (svOf I J a2).rhi hp (fun _ => ⟨hs, rfl, rfl⟩) (fun _ => rfl) (by omega) (by omega) (by omega) (by omega) (by omega) (by omega) (by omega)
      refine Ev.step (fun k => ?_) h1
      rw [handshapelaw09_ExamsMore.j0, if_neg (by decide), range_ok hp, hs, if_pos rfl, Option.bind_some, if_pos rfl]
    | false =>
      have h1 := more_j1 I J a2 G b0 b1 e M dw who de db 3 0 0 hp (fun h => by cases h) (fun h => by rw [hs] at h; cases h) (by omega) (by omega) (by omega) (by omega) (by omega) (by omega) (by omega)
      refine Ev.step (fun k => ?_) h1
      rw [handshapelaw09_ExamsMore.j0, if_neg (by decide), range_ok hp, hs, if_neg (by decide), Option.bind_some, if_neg (by decide)]
      rfl
end
end Go.Proofs.Ytinnjghpmambiaa.Ext
