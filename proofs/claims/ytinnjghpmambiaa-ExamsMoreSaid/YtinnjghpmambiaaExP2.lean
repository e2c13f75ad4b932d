import Derived.Test.YtinnjghpmambiaaExChk2
import Derived.Test.YtinnjghpmambiaaPrint3
namespace Go.Proofs.Ytinnjghpmambiaa.Ext
open Go.RowKit Go.Proofs.YtinnjghpmambiaaW.PrintWords Go.Proofs.Ytinnjghpmambiaa.Print

/-! The specification's Check says what exams.Check says. -/
theorem within_f (a b c : Int) : handshaperef09_within.f a b c = some (wiB a b c) := by
  unfold handshaperef09_within.f wiB
  by_cases h : a ≥ b
  · rw [if_pos h]; simp [show b ≤ a from h]
  · rw [if_neg h]; simp [show ¬ b ≤ a from h]
theorem wr1 (q : Nat) (h : q < 9223372036854775807) : wrap64 ((q : Int) + 1) = ((q + 1 : Nat) : Int) := by unfold wrap64; omega
theorem wrp (q : Nat) (h : q < 9223372036854775807) : wrap64 (((q + 1 : Nat) : Int) - 1) = (q : Int) := by unfold wrap64; omega
theorem rd_nat (l : List Int) (q : Nat) : rd l (q : Int) = l.getD q 0 := by unfold rd; rw [Int.toNat_natCast]
theorem drop_at {α : Type} (l : List α) (z : α) (q : Nat) (h : q < l.length) : l.drop q = l.getD q z :: l.drop (q + 1) := by
  rw [List.drop_eq_getElem_cons h, List.getD_eq_getElem?_getD, List.getElem?_eq_getElem h]; rfl
def gcond (G : List Int) (k : Nat) : Bool := wiB (G.getD k 0) (wrap64 ((if k = 0 then -1 else G.getD (k - 1) 0) + 1)) 1200
theorem grades_iff (G : List Int) : gradesOk G = true ↔ ∀ k, k < G.length → gcond G k = true := by
  unfold gradesOk allN gcond
  rw [List.all_eq_true]
  exact ⟨fun h k hk => h k (List.mem_range.2 hk), fun h k hk => h k (List.mem_range.1 hk)⟩
theorem grades_no {G : List Int} {q : Nat} (hq : q < G.length) (h : gcond G q = false) : gradesOk G = false := by
  rw [Bool.eq_false_iff]
  intro h2
  rw [(grades_iff G).1 h2 q hq] at h
  cases h
section
variable (I : List S93) (J : List S30) (a2 : Int) (G : List Int)
theorem chk_l3 (hG : G.length < 9223372036854775808) : ∀ (d q : Nat), q + d = G.length → (∀ j, j < q → gcond G j = true) → (0 < q → 0 ≤ G.getD (q - 1) 0 ∧ G.getD (q - 1) 0 ≤ 1200) → Ev (fun k => handshaperef09_Check.l3 k (q : Int) I J a2 G) (errOf 90 (gradesOk G))
  | 0, q, hq, hc, _ => by
    have hg : gradesOk G = true := (grades_iff G).2 fun k hk => hc k (by omega)
    rw [hg]
    refine Ev.step (f := fun _ => some 0) (fun k => ?_) (Ev.now _)
    rw [handshaperef09_Check.l3, if_neg (by omega)]
  | d + 1, q, hq, hc, hp => by
    have hlt : q < G.length := by omega
    cases hw : wiB (G.getD q 0) 0 1200 with
    | false =>
      have hg : gradesOk G = false := by
        refine grades_no hlt ?_
        rw [Bool.eq_false_iff] at hw ⊢
        intro h2
        apply hw
        unfold gcond at h2
        rw [wiB_iff] at h2 ⊢
        obtain ⟨h3, h4⟩ := h2
        refine ⟨?_, h4⟩
        cases q with
        | zero => rw [if_pos rfl] at h3; unfold wrap64 at h3; omega
        | succ p =>
          obtain ⟨h5, h6⟩ := hp (by omega)
          rw [if_neg (by omega)] at h3
          unfold wrap64 at h3
          omega
      rw [hg]
      refine Ev.step (f := fun _ => some 90) (fun k => ?_) (Ev.now _)
      rw [handshaperef09_Check.l3, if_pos (by omega), if_pos (by omega), within_f, Option.bind_some, rd_nat, hw, if_neg (by decide)]
    | true =>
      have hwb := wiB_iff.1 hw
      cases q with
      | zero =>
        have hcq : gcond G 0 = true := by unfold gcond; rw [if_pos rfl, wiB_iff]; exact ⟨by unfold wrap64; omega, hwb.2⟩
        refine Ev.step (f := fun k => handshaperef09_Check.l3 k ((0 + 1 : Nat) : Int) I J a2 G) (fun k => ?_) (chk_l3 hG d 1 (by omega) (fun j hj => by obtain rfl : j = 0 := (by omega); exact hcq) (fun _ => hwb))
        rw [handshaperef09_Check.l3, if_pos (by omega), if_pos (by omega), within_f, Option.bind_some, rd_nat, hw, if_pos rfl, if_neg (by omega), wr1 0 (by omega)]
      | succ p =>
        obtain ⟨h5, h6⟩ := hp (by omega)
        rw [Nat.add_sub_cancel] at h5 h6
        by_cases hge : G.getD p 0 ≥ G.getD (p + 1) 0
        · have hg : gradesOk G = false := by
            refine grades_no hlt ?_
            rw [Bool.eq_false_iff]
            intro h2
            unfold gcond at h2
            rw [wiB_iff, if_neg (by omega), Nat.add_sub_cancel] at h2
            obtain ⟨h3, _⟩ := h2
            unfold wrap64 at h3
            omega
          rw [hg]
          refine Ev.step (f := fun _ => some 90) (fun k => ?_) (Ev.now _)
          rw [handshaperef09_Check.l3, if_pos (by omega), if_pos (by omega), within_f, Option.bind_some, rd_nat, hw, if_pos rfl, if_pos (by omega), wrp p (by omega), if_pos (by omega), if_pos (by omega), rd_nat, if_pos hge]
        · have hcq : gcond G (p + 1) = true := by
            unfold gcond
            rw [wiB_iff, if_neg (by omega), Nat.add_sub_cancel]
            exact ⟨by unfold wrap64; omega, hwb.2⟩
          refine Ev.step (f := fun k => handshaperef09_Check.l3 k ((p + 1 + 1 : Nat) : Int) I J a2 G) (fun k => ?_) (chk_l3 hG d (p + 1 + 1) (by omega) (fun j hj => by
            by_cases e : j = p + 1
            · subst e; exact hcq
            · exact hc j (by omega)) (fun _ => by rw [Nat.add_sub_cancel]; exact hwb))
          rw [handshaperef09_Check.l3, if_pos (by omega), if_pos (by omega), within_f, Option.bind_some, rd_nat, hw, if_pos rfl, if_pos (by omega), wrp p (by omega), if_pos (by omega), if_pos (by omega), rd_nat, if_neg hge, wr1 (p + 1) (by omega)]
theorem chk_l2 (q : Nat) (b0 b1 e : Int) (M : List Int) (hM : M.length < 9223372036854775808) (hq : q < 9223372036854775807) (v : Int) (hn : Ev (fun k => handshaperef09_Check.l1 k ((q + 1 : Nat) : Int) I J a2 G) v) : ∀ (d m : Nat), m + d = M.length → Ev (fun k => handshaperef09_Check.l2 k (q : Int) (m : Int) I J a2 G b0 b1 e M) (if ((M.drop m).all fun n => wiB n (-1) 50) = true then v else 90)
  | 0, m, hm => by
    rw [List.drop_eq_nil_of_le (by omega), List.all_nil, if_pos rfl]
    refine Ev.step (fun k => ?_) hn
    rw [handshaperef09_Check.l2, if_neg (by omega), wr1 q hq]
  | d + 1, m, hm => by
    rw [drop_at M 0 m (by omega), List.all_cons]
    cases hw : wiB (M.getD m 0) (-1) 50 with
    | false =>
      rw [Bool.false_and, if_neg (by decide)]
      refine Ev.step (f := fun _ => some 90) (fun k => ?_) (Ev.now _)
      rw [handshaperef09_Check.l2, if_pos (by omega), if_pos (by omega), within_f, Option.bind_some, rd_nat, hw, if_neg (by decide)]
    | true =>
      rw [Bool.true_and]
      refine Ev.step (fun k => ?_) (chk_l2 q b0 b1 e M hM hq v hn d (m + 1) (by omega))
      rw [handshaperef09_Check.l2, if_pos (by omega), if_pos (by omega), within_f, Option.bind_some, rd_nat, hw, if_pos rfl, wr1 m (by omega)]
theorem chk_l1 (hJ : J.length < 9223372036854775808) (hM : ∀ x ∈ J, x.f2.length < 9223372036854775808) (vG : Bool) (hn : Ev (fun k => handshaperef09_Check.l3 k 0 I J a2 G) (errOf 90 vG)) : ∀ (d q : Nat), q + d = J.length → Ev (fun k => handshaperef09_Check.l1 k (q : Int) I J a2 G) (errOf 90 (((J.drop q).all fun x => judgeOk I.length x.f0.f0 x.f0.f1 x.f1 x.f2) && vG))
  | 0, q, hq => by
    rw [List.drop_eq_nil_of_le (by omega), List.all_nil, Bool.true_and]
    refine Ev.step (fun k => ?_) hn
    rw [handshaperef09_Check.l1, if_neg (by omega)]
  | d + 1, q, hq => by
    have hlt : q < J.length := by omega
    have ih := chk_l1 hJ hM vG hn d (q + 1) (by omega)
    rw [drop_at J z30 q hlt, List.all_cons]
    have hmem : J.getD q z30 ∈ J := by rw [List.getD_eq_getElem?_getD, List.getElem?_eq_getElem hlt]; exact List.getElem_mem hlt
    have hMq := hM _ hmem
    have hrd : rd_T30 J (q : Int) = J.getD q z30 := by unfold rd_T30; rw [Int.toNat_natCast]
    obtain ⟨x, hx⟩ : ∃ x, J.getD q z30 = x := ⟨_, rfl⟩
    rw [hx] at hrd hMq ⊢
    have no : ∀ b : Bool, b = true → Ev (fun k => handshaperef09_Check.j3 k (q : Int) b I J a2 G x.f0.f0 x.f0.f1 x.f1 x.f2) 90 := by
      intro b hb
      refine Ev.step (f := fun _ => some 90) (fun k => ?_) (Ev.now _)
      rw [handshaperef09_Check.j3, if_pos hb]
    by_cases c1 : x.f0.f0 < -3
    · have hj : judgeOk I.length x.f0.f0 x.f0.f1 x.f1 x.f2 = false := by unfold judgeOk; rw [decide_eq_false (by omega)]; rfl
      rw [hj, Bool.false_and, Bool.false_and]
      refine Ev.step (fun k => ?_) (no true rfl)
      rw [handshaperef09_Check.l1, if_pos (by omega), if_pos (by omega), hrd, if_pos c1]
    by_cases c2 : x.f0.f0 > x.f0.f1
    · have hj : judgeOk I.length x.f0.f0 x.f0.f1 x.f1 x.f2 = false := by unfold judgeOk; rw [decide_eq_false (show ¬ x.f0.f0 ≤ x.f0.f1 by omega)]; simp
      rw [hj, Bool.false_and, Bool.false_and]
      refine Ev.step (fun k => ?_) (no true rfl)
      rw [handshaperef09_Check.l1, if_pos (by omega), if_pos (by omega), hrd, if_neg c1, if_pos c2]
    by_cases c3 : x.f0.f1 > 3
    · have hj : judgeOk I.length x.f0.f0 x.f0.f1 x.f1 x.f2 = false := by unfold judgeOk; rw [decide_eq_false (show ¬ x.f0.f1 ≤ 3 by omega)]; simp
      rw [hj, Bool.false_and, Bool.false_and]
      refine Ev.step (fun k => ?_) (no true rfl)
      rw [handshaperef09_Check.l1, if_pos (by omega), if_pos (by omega), hrd, if_neg c1, if_neg c2, if_pos c3]
    cases hw : wiB x.f1 0 5 with
    | false =>
      have hj : judgeOk I.length x.f0.f0 x.f0.f1 x.f1 x.f2 = false := by unfold judgeOk; rw [hw]; simp
      rw [hj, Bool.false_and, Bool.false_and]
      refine Ev.step (fun k => ?_) (no true rfl)
      rw [handshaperef09_Check.l1, if_pos (by omega), if_pos (by omega), hrd, if_neg c1, if_neg c2, if_neg c3, within_f, Option.bind_some, hw, if_neg (by decide)]
    | true =>
      by_cases c4 : x.f2.length = I.length
      · have hj : judgeOk I.length x.f0.f0 x.f0.f1 x.f1 x.f2 = (x.f2.all fun n => wiB n (-1) 50) := by
          unfold judgeOk; rw [hw, decide_eq_true (show -3 ≤ x.f0.f0 by omega), decide_eq_true (show x.f0.f0 ≤ x.f0.f1 by omega), decide_eq_true (show x.f0.f1 ≤ 3 by omega), decide_eq_true c4]; rfl
        have h2 := chk_l2 I J a2 G q x.f0.f0 x.f0.f1 x.f1 x.f2 hMq (by omega) _ ih x.f2.length 0 (by omega)
        rw [List.drop_zero] at h2
        have he : (if (x.f2.all fun n => wiB n (-1) 50) = true then errOf 90 (((J.drop (q + 1)).all fun x => judgeOk I.length x.f0.f0 x.f0.f1 x.f1 x.f2) && vG) else 90) = errOf 90 (judgeOk I.length x.f0.f0 x.f0.f1 x.f1 x.f2 && ((J.drop (q + 1)).all fun x => judgeOk I.length x.f0.f0 x.f0.f1 x.f1 x.f2) && vG) := by
          rw [hj]
          cases (x.f2.all fun n => wiB n (-1) 50)
          · rw [if_neg (by decide)]; rfl
          · rw [if_pos rfl]; rfl
        rw [he] at h2
        refine Ev.step (f := fun k => handshaperef09_Check.j3 k (q : Int) ((x.f2.length : Int) != (I.length : Int)) I J a2 G x.f0.f0 x.f0.f1 x.f1 x.f2) (fun k => ?_) (Ev.step (fun k => ?_) h2)
        · rw [handshaperef09_Check.l1, if_pos (by omega), if_pos (by omega), hrd, if_neg c1, if_neg c2, if_neg c3, within_f, Option.bind_some, hw, if_pos rfl]
        · rw [handshaperef09_Check.j3, if_neg (by rw [bne_iff_ne]; omega)]; rfl
      · have hj : judgeOk I.length x.f0.f0 x.f0.f1 x.f1 x.f2 = false := by unfold judgeOk; rw [decide_eq_false c4]; simp
        rw [hj, Bool.false_and, Bool.false_and]
        refine Ev.step (fun k => ?_) (no ((x.f2.length : Int) != (I.length : Int)) (by rw [bne_iff_ne]; omega))
        rw [handshaperef09_Check.l1, if_pos (by omega), if_pos (by omega), hrd, if_neg c1, if_neg c2, if_neg c3, within_f, Option.bind_some, hw, if_pos rfl]
theorem chk_l0 (hI : I.length < 9223372036854775808) (v : Bool) (hn : Ev (fun k => handshaperef09_Check.l1 k 0 I J a2 G) (errOf 90 v)) : ∀ (d q : Nat), q + d = I.length → Ev (fun k => handshaperef09_Check.l0 k (q : Int) I J a2 G) (errOf 90 (((I.drop q).all fun x => itemOk x.f0 x.f1) && v))
  | 0, q, hq => by
    rw [List.drop_eq_nil_of_le (by omega), List.all_nil, Bool.true_and]
    refine Ev.step (fun k => ?_) hn
    rw [handshaperef09_Check.l0, if_neg (by omega)]
  | d + 1, q, hq => by
    have hlt : q < I.length := by omega
    have ih := chk_l0 hI v hn d (q + 1) (by omega)
    rw [drop_at I z93 q hlt, List.all_cons]
    have hrd : rd_T93 I (q : Int) = I.getD q z93 := by unfold rd_T93; rw [Int.toNat_natCast]
    obtain ⟨x, hx⟩ : ∃ x, I.getD q z93 = x := ⟨_, rfl⟩
    rw [hx] at hrd ⊢
    cases h1 : wiB x.f0 0 10 with
    | false =>
      have hj : itemOk x.f0 x.f1 = false := by unfold itemOk; rw [h1]; rfl
      rw [hj, Bool.false_and, Bool.false_and]
      refine Ev.step (f := fun _ => some 90) (fun k => ?_) (Ev.now _)
      rw [handshaperef09_Check.l0, if_pos (by omega), if_pos (by omega), hrd, within_f, Option.bind_some, h1, if_neg (by decide)]
    | true =>
      cases h2 : wiB x.f1 0 30 with
      | false =>
        have hj : itemOk x.f0 x.f1 = false := by unfold itemOk; rw [h1, h2]; rfl
        rw [hj, Bool.false_and, Bool.false_and]
        refine Ev.step (f := fun _ => some 90) (fun k => ?_) (Ev.now _)
        rw [handshaperef09_Check.l0, if_pos (by omega), if_pos (by omega), hrd, within_f, Option.bind_some, h1, if_pos rfl, within_f, Option.bind_some, h2, if_neg (by decide)]
      | true =>
        have hj : itemOk x.f0 x.f1 = true := by unfold itemOk; rw [h1, h2]; rfl
        rw [hj, Bool.true_and]
        refine Ev.step (fun k => ?_) ih
        rw [handshaperef09_Check.l0, if_pos (by omega), if_pos (by omega), hrd, within_f, Option.bind_some, h1, if_pos rfl, within_f, Option.bind_some, h2, if_pos rfl, wr1 q (by omega)]
/-- The specification's Check. -/
theorem check_ev (hI : I.length < 9223372036854775808) (hJ : J.length < 9223372036854775808) (hM : ∀ x ∈ J, x.f2.length < 9223372036854775808) (hG : G.length < 9223372036854775808) : Ev (fun k => handshaperef09_Check.f k I J a2 G) (errOf 90 (paperOk I J a2 G)) := by
  have g3 := chk_l3 I J a2 G hG G.length 0 (by omega) (fun j hj => by omega) (fun h => by omega)
  have g1 := chk_l1 I J a2 G hJ hM _ g3 J.length 0 (by omega)
  have g0 := chk_l0 I J a2 G hI _ g1 I.length 0 (by omega)
  rw [List.drop_zero] at g0 g1
  have no : ∀ b : Bool, b = true → Ev (fun k => handshaperef09_Check.j0 k b I J a2 G) 90 := by
    intro b hb
    refine Ev.step (f := fun _ => some 90) (fun k => ?_) (Ev.now _)
    rw [handshaperef09_Check.j0, if_pos hb]
  unfold paperOk
  cases h1 : wiB (I.length : Int) 1 4 with
  | false =>
    rw [Bool.false_and]
    refine Ev.congr (fun k => ?_) (no true rfl)
    unfold handshaperef09_Check.f
    rw [within_f, Option.bind_some, h1, if_neg (by decide)]
  | true =>
    by_cases h2 : (J.length : Int) > 4
    · rw [decide_eq_true (show (4 : Int) < J.length from h2)]
      have he : errOf 90 (true && (I.all (fun x => itemOk x.f0 x.f1) && (!true && (J.all (fun x => judgeOk I.length x.f0.f0 x.f0.f1 x.f1 x.f2) && (wiB a2 0 2 && (!decide ((5 : Int) < G.length) && gradesOk G)))))) = 90 := by simp [errOf]
      rw [he]
      refine Ev.congr (fun k => ?_) (no true rfl)
      unfold handshaperef09_Check.f
      rw [within_f, Option.bind_some, h1, if_pos rfl, if_pos h2]
    · cases h3 : wiB a2 0 2 with
      | false =>
        have he : errOf 90 (true && (I.all (fun x => itemOk x.f0 x.f1) && (!decide ((4 : Int) < J.length) && (J.all (fun x => judgeOk I.length x.f0.f0 x.f0.f1 x.f1 x.f2) && (false && (!decide ((5 : Int) < G.length) && gradesOk G)))))) = 90 := by simp [errOf]
        rw [he]
        refine Ev.congr (fun k => ?_) (no true rfl)
        unfold handshaperef09_Check.f
        rw [within_f, Option.bind_some, h1, if_pos rfl, if_neg h2, within_f, Option.bind_some, h3, if_neg (by decide)]
      | true =>
        by_cases h4 : (G.length : Int) > 5
        · have he : errOf 90 (true && (I.all (fun x => itemOk x.f0 x.f1) && (!decide ((4 : Int) < J.length) && (J.all (fun x => judgeOk I.length x.f0.f0 x.f0.f1 x.f1 x.f2) && (true && (!decide ((5 : Int) < G.length) && gradesOk G)))))) = 90 := by
            rw [decide_eq_true (show (5 : Int) < G.length from h4)]; simp [errOf]
          rw [he]
          refine Ev.congr (fun k => ?_) (no (decide ((G.length : Int) > 5)) (decide_eq_true h4))
          unfold handshaperef09_Check.f
          rw [within_f, Option.bind_some, h1, if_pos rfl, if_neg h2, within_f, Option.bind_some, h3, if_pos rfl]
        · have he : errOf 90 (true && (I.all (fun x => itemOk x.f0 x.f1) && (!decide ((4 : Int) < J.length) && (J.all (fun x => judgeOk I.length x.f0.f0 x.f0.f1 x.f1 x.f2) && (true && (!decide ((5 : Int) < G.length) && gradesOk G)))))) = errOf 90 (I.all (fun x => itemOk x.f0 x.f1) && (J.all (fun x => judgeOk I.length x.f0.f0 x.f0.f1 x.f1 x.f2) && gradesOk G)) := by
            rw [decide_eq_false (show ¬ (5 : Int) < G.length from h4), decide_eq_false (show ¬ (4 : Int) < J.length from h2)]; rfl
          rw [he]
          refine Ev.congr (f := fun k => handshaperef09_Check.j0 k (decide ((G.length : Int) > 5)) I J a2 G) (fun k => ?_) (Ev.step (fun k => ?_) g0)
          · unfold handshaperef09_Check.f
            rw [within_f, Option.bind_some, h1, if_pos rfl, if_neg h2, within_f, Option.bind_some, h3, if_pos rfl]
          · rw [handshaperef09_Check.j0, if_neg (by simpa using h4)]; rfl
end
end Go.Proofs.Ytinnjghpmambiaa.Ext
