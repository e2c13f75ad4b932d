import Derived.Test.YtinnjghpmambiaaExP5
import Derived.Test.YtinnjghpmambiaaPrint11
import Derived.Test.YtinnjghpmambiaaPrint12d
namespace Go.Proofs.Ytinnjghpmambiaa.Ext
open Go.RowKit Go.Proofs.YtinnjghpmambiaaW.PrintWords Go.Proofs.YtinnjghpmambiaaW.PrintMore Go.Proofs.Ytinnjghpmambiaa.Print

/-! ExamsRanked holds: the law as a plain function. -/
/-- How many numbers below n are so. -/
def cnt (p : Nat → Bool) : Nat → Nat
  | 0 => 0
  | n + 1 => cnt p n + (if p n = true then 1 else 0)
theorem cnt_bound (p : Nat → Bool) : ∀ n, cnt p n ≤ n
  | 0 => Nat.le_refl _
  | n + 1 => by
    have := cnt_bound p n
    unfold cnt
    split <;> omega
theorem cnt_le {p q : Nat → Bool} : ∀ n, (∀ m, m < n → p m = true → q m = true) → cnt p n ≤ cnt q n
  | 0, _ => Nat.le_refl _
  | n + 1, h => by
    have h1 := cnt_le (p := p) (q := q) n (fun m hm => h m (by omega))
    have h2 := h n (by omega)
    unfold cnt
    by_cases c : p n = true
    · rw [if_pos c, if_pos (h2 c)]; omega
    · rw [if_neg c]; omega
theorem cnt_lt {p q : Nat → Bool} (i : Nat) (hpi : p i = false) (hqi : q i = true) : ∀ n, i < n → (∀ m, m < n → p m = true → q m = true) → cnt p n < cnt q n
  | 0, hi, _ => by omega
  | n + 1, hi, h => by
    have h2 := h n (by omega)
    by_cases e : i = n
    · subst e
      have h1 := cnt_le (p := p) (q := q) i (fun m hm => h m (by omega))
      unfold cnt
      rw [if_neg (by rw [hpi]; decide), if_pos hqi]; omega
    · have h1 := cnt_lt i hpi hqi n (by omega) (fun m hm => h m (by omega))
      unfold cnt
      by_cases c : p n = true
      · rw [if_pos c, if_pos (h2 c)]; omega
      · rw [if_neg c]; omega
theorem cnt_yes {p : Nat → Bool} {q : Nat} (h : p q = true) : cnt p (q + 1) = cnt p q + 1 := by rw [cnt, if_pos h]
theorem cnt_no {p : Nat → Bool} {q : Nat} (h : p q = false) : cnt p (q + 1) = cnt p q := by rw [cnt, if_neg (by rw [h]; decide)]; rfl
theorem cnt_all : ∀ n, cnt (fun _ => true) n = n
  | 0 => rfl
  | n + 1 => by unfold cnt; rw [cnt_all n, if_pos rfl]
theorem wrc (c : Nat) (h : c < 1000000) : wrap64 (1 + (c : Int) + 1) = 1 + ((c + 1 : Nat) : Int) := by unfold wrap64; omega

def loP (p : S26) : Int := (svOf p.f0 p.f1 p.f2).rlo
def hiP (p : S26) : Int := (svOf p.f0 p.f1 p.f2).rhi
def PapOk (p : S26) : Prop := paperOk p.f0 p.f1 p.f2 p.f3 = true ∧ (svOf p.f0 p.f1 p.f2).poss = true
theorem range_yes {p : S26} (h : PapOk p) : exams_Range.f p.f0 p.f1 p.f2 p.f3 = some (loP p, hiP p, 0) := by
  rw [range_ok h.1, if_pos h.2]; rfl
def spans (l : List S26) : List S28 := l.map fun p => ⟨loP p, hiP p⟩
section
variable (l : List S26)
def sp (i : Nat) : S26 := l.getD i z26
def pl (i m : Nat) : Bool := decide (m ≠ i) && decide (loP (sp l m) > hiP (sp l i))
def ph (i m : Nat) : Bool := decide (m ≠ i) && decide (hiP (sp l m) > loP (sp l i))
def rankOf (i : Nat) : S28 := ⟨1 + (cnt (pl l i) l.length : Int), 1 + (cnt (ph l i) l.length : Int)⟩
def ranksOf : List S28 := (List.range l.length).map (rankOf l)
theorem spans_len : (spans l).length = l.length := List.length_map _
theorem spans_rd (q : Nat) (h : q < l.length) : rd_T28 (spans l) (q : Int) = ⟨loP (sp l q), hiP (sp l q)⟩ := by
  unfold rd_T28 spans sp
  rw [Int.toNat_natCast, List.getD_eq_getElem?_getD, List.getElem?_map, List.getD_eq_getElem?_getD, List.getElem?_eq_getElem h]; rfl
theorem paper_rd (q : Nat) : rd_T26 l (q : Int) = sp l q := by unfold rd_T26 sp; rw [Int.toNat_natCast]
theorem sp_mem (q : Nat) (h : q < l.length) : sp l q ∈ l := by unfold sp; rw [List.getD_eq_getElem?_getD, List.getElem?_eq_getElem h]; exact List.getElem_mem h
theorem take_at {α : Type} (l : List α) (z : α) (q : Nat) (h : q < l.length) : l.take (q + 1) = l.take q ++ [l.getD q z] := by
  rw [List.take_succ_eq_append_getElem h, List.getD_eq_getElem?_getD, List.getElem?_eq_getElem h]; rfl
theorem ranks_l0 (hl : l.length ≤ 3) (hp : ∀ p ∈ l, PapOk p) (v : List S28 × Int) (hn : Ev (fun k => exams_Ranks.l1 k (spans l) [] (spans l) (l.length : Int) 0) v) : ∀ (d q : Nat), q + d = l.length → Ev (fun k => exams_Ranks.l0 k ((spans l).take q) l (l.length : Int) (q : Int)) v
  | 0, q, hq => by
    refine Ev.step (fun k => ?_) hn
    rw [List.take_of_length_le (by rw [spans_len]; omega), exams_Ranks.l0, if_neg (by omega), spans_len]
  | d + 1, q, hq => by
    have hlt : q < l.length := by omega
    have ih := ranks_l0 hl hp v hn d (q + 1) (by omega)
    rw [take_at (spans l) z28 q (by rw [spans_len]; exact hlt)] at ih
    have hg : (spans l).getD q z28 = ⟨loP (sp l q), hiP (sp l q)⟩ := by have := spans_rd l q hlt; unfold rd_T28 at this; rwa [Int.toNat_natCast] at this
    rw [hg] at ih
    refine Ev.step (fun k => ?_) ih
    rw [exams_Ranks.l0, if_pos (by omega), if_pos (by omega), if_pos (by omega), paper_rd, range_yes (hp _ (sp_mem l q hlt)), Option.bind_some, if_pos rfl, if_pos (by rw [List.length_take]; omega), wr1 q (by omega)]
theorem ranks_l2 (hl : l.length ≤ 3) (x5 : List S28) (hx : x5.length ≤ 3) (i : Nat) (hi : i < l.length) (v : List S28 × Int) (hn : Ev (fun k => exams_Ranks.l1 k (spans l) (x5 ++ [rankOf l i]) (spans l) (l.length : Int) ((i + 1 : Nat) : Int)) v) :
    ∀ (d q : Nat), q + d = l.length → Ev (fun k => exams_Ranks.l2 k (spans l) x5 (i : Int) (spans l) (l.length : Int) (i : Int) (spans l) (l.length : Int) (q : Int) (loP (sp l i)) (hiP (sp l i)) (1 + (cnt (pl l i) q : Int)) (1 + (cnt (ph l i) q : Int))) v
  | 0, q, hq => by
    obtain rfl : q = l.length := by omega
    refine Ev.step (fun k => ?_) hn
    rw [exams_Ranks.l2, if_neg (by omega), if_pos (by omega), wr1 i (by omega)]; rfl
  | d + 1, q, hq => by
    have hlt : q < l.length := by omega
    have ih := ranks_l2 hl x5 hx i hi v hn d (q + 1) (by omega)
    have hc1 : cnt (pl l i) q < 1000000 := by have := cnt_bound (pl l i) q; omega
    have hc2 : cnt (ph l i) q < 1000000 := by have := cnt_bound (ph l i) q; omega
    by_cases c : (q : Int) = (i : Int)
    · have e1 : pl l i q = false := by unfold pl; rw [decide_eq_false (by omega)]; rfl
      have e2 : ph l i q = false := by unfold ph; rw [decide_eq_false (by omega)]; rfl
      rw [cnt_no e1, cnt_no e2] at ih
      refine Ev.step (f := fun k => exams_Ranks.j3 k (spans l) x5 (i : Int) (q : Int) (spans l) (l.length : Int) (i : Int) (spans l) (l.length : Int) (q : Int) false (loP (sp l i)) (hiP (sp l i)) (1 + (cnt (pl l i) q : Int)) (1 + (cnt (ph l i) q : Int)) (loP (sp l q)) (hiP (sp l q))) (fun k => ?_) (Ev.step (fun k => ?_) ih)
      · rw [exams_Ranks.l2, if_pos (by omega), if_pos (by omega), if_pos (by rw [spans_len]; omega), if_pos c, spans_rd l q hlt]
      · rw [exams_Ranks.j3, if_neg (by decide), if_pos c, wr1 q (by omega)]
    · refine Ev.step (f := fun k => exams_Ranks.j3 k (spans l) x5 (i : Int) (q : Int) (spans l) (l.length : Int) (i : Int) (spans l) (l.length : Int) (q : Int) (decide (loP (sp l q) > hiP (sp l i))) (loP (sp l i)) (hiP (sp l i)) (1 + (cnt (pl l i) q : Int)) (1 + (cnt (ph l i) q : Int)) (loP (sp l q)) (hiP (sp l q))) (fun k => ?_) (Ev.step (fun k => ?_) ih)
      · rw [exams_Ranks.l2, if_pos (by omega), if_pos (by omega), if_pos (by rw [spans_len]; omega), if_neg c, spans_rd l q hlt]
      · have e0 : decide (q ≠ i) = true := decide_eq_true (by omega)
        have v1 : pl l i q = decide (loP (sp l q) > hiP (sp l i)) := by unfold pl; rw [e0, Bool.true_and]
        have v2 : ph l i q = decide (hiP (sp l q) > loP (sp l i)) := by unfold ph; rw [e0, Bool.true_and]
        rw [exams_Ranks.j3, wr1 q (by omega)]
        by_cases c1 : loP (sp l q) > hiP (sp l i)
        · rw [if_pos (decide_eq_true c1), if_neg c, wrc _ hc1, cnt_yes (v1.trans (decide_eq_true c1))]
          by_cases c2 : hiP (sp l q) > loP (sp l i)
          · rw [if_pos c2, wrc _ hc2, cnt_yes (v2.trans (decide_eq_true c2))]
          · rw [if_neg c2, cnt_no (v2.trans (decide_eq_false c2))]
        · rw [if_neg (by rw [decide_eq_true_eq]; exact c1), if_neg c, cnt_no (v1.trans (decide_eq_false c1))]
          by_cases c2 : hiP (sp l q) > loP (sp l i)
          · rw [if_pos c2, wrc _ hc2, cnt_yes (v2.trans (decide_eq_true c2))]
          · rw [if_neg c2, cnt_no (v2.trans (decide_eq_false c2))]
theorem ranksOf_len : (ranksOf l).length = l.length := by unfold ranksOf; rw [List.length_map, List.length_range]
theorem ranksOf_getD (i : Nat) (h : i < l.length) : (ranksOf l).getD i z28 = rankOf l i := by
  unfold ranksOf
  rw [List.getD_eq_getElem?_getD, List.getElem?_map, List.getElem?_range h]; rfl
theorem ranks_l1 (hl : l.length ≤ 3) : ∀ (d i : Nat), i + d = l.length → Ev (fun k => exams_Ranks.l1 k (spans l) ((ranksOf l).take i) (spans l) (l.length : Int) (i : Int)) (ranksOf l, 0)
  | 0, i, hi => by
    rw [List.take_of_length_le (by rw [ranksOf_len]; omega)]
    refine Ev.step (f := fun _ => some (ranksOf l, 0)) (fun k => ?_) (Ev.now _)
    rw [exams_Ranks.l1, if_neg (by omega)]
  | d + 1, i, hi => by
    have hlt : i < l.length := by omega
    have ih := ranks_l1 hl d (i + 1) (by omega)
    rw [take_at (ranksOf l) z28 i (by rw [ranksOf_len]; exact hlt), ranksOf_getD l i hlt] at ih
    have h2 := ranks_l2 l hl ((ranksOf l).take i) (by rw [List.length_take, ranksOf_len]; omega) i hlt _ ih l.length 0 (by omega)
    refine Ev.step (fun k => ?_) h2
    rw [exams_Ranks.l1, if_pos (by omega), if_pos (by omega), if_pos (by rw [spans_len]; omega), spans_rd l i hlt, spans_len]; rfl
theorem ranks_ev (hl : l.length ≤ 3) (hp : ∀ p ∈ l, PapOk p) : Ev (fun k => exams_Ranks.f k l) (ranksOf l, 0) := by
  have h1 := ranks_l1 l hl l.length 0 (by omega)
  rw [List.take_zero] at h1
  have h0 := ranks_l0 l hl hp _ h1 l.length 0 (by omega)
  rw [List.take_zero] at h0
  refine Ev.congr (fun k => ?_) h0
  unfold exams_Ranks.f
  rw [if_neg (by omega)]; rfl

/-! the law -/
variable (res : List Int)
/-- The results of some possible truths lie in the papers' spans. -/
def ResOk (n : Nat) : Prop := res.length = n ∧ ∀ i, i < n → PapOk (sp l i) ∧ loP (sp l i) ≤ res.getD i 0 ∧ res.getD i 0 ≤ hiP (sp l i)
theorem ranked_works : Ev (fun k => (handshapelaw09_works.f k).bind fun t => some t) true := Ev.bind works_ev (Ev.now _)
theorem ranked_l3 (hl : l.length ≤ 3) (h : ResOk l res l.length) (i : Nat) (hi : i < l.length) (hn : Ev (fun k => handshapelaw09_ExamsRanked.l1 k l res (ranksOf l) ((i + 1 : Nat) : Int)) true) : ∀ (d q : Nat), q + d = l.length → Ev (fun k => handshapelaw09_ExamsRanked.l3 k l res (ranksOf l) (i : Int) (q : Int)) true
  | 0, q, hq => by
    refine Ev.step (fun k => ?_) hn
    rw [handshapelaw09_ExamsRanked.l3, if_neg (by omega), wr1 i (by omega)]
  | d + 1, q, hq => by
    have hlt : q < l.length := by omega
    have ih := ranked_l3 hl h i hi hn d (q + 1) (by omega)
    refine Ev.step (fun k => ?_) ih
    have r1 := range_yes (h.2 i hi).1
    have r2 := range_yes (h.2 q hlt).1
    have s1 : rd_T28 (ranksOf l) (i : Int) = rankOf l i := by unfold rd_T28; rw [Int.toNat_natCast, ranksOf_getD l i hi]
    have s2 : rd_T28 (ranksOf l) (q : Int) = rankOf l q := by unfold rd_T28; rw [Int.toNat_natCast, ranksOf_getD l q hlt]
    rw [handshapelaw09_ExamsRanked.l3, if_pos (by omega), if_pos (by omega), if_pos (by omega), paper_rd, r1, Option.bind_some, if_pos (by omega), paper_rd, r2, Option.bind_some, if_pos rfl, if_pos rfl, wr1 q (by omega)]
    by_cases c : loP (sp l i) > hiP (sp l q)
    · obtain ⟨_, a1, a2⟩ := h.2 i hi
      obtain ⟨_, b1, b2⟩ := h.2 q hlt
      have hiq : i ≠ q := by rintro rfl; omega
      have k1 : cnt (pl l i) l.length < cnt (pl l q) l.length := by
        refine cnt_lt i (by unfold pl; rw [decide_eq_false (by omega)]; rfl) (by unfold pl; rw [decide_eq_true hiq, decide_eq_true c]; rfl) l.length hi fun m hm hpm => ?_
        unfold pl at hpm ⊢
        rw [Bool.and_eq_true, decide_eq_true_eq, decide_eq_true_eq] at hpm ⊢
        exact ⟨by rintro rfl; omega, by omega⟩
      have k2 : cnt (ph l i) l.length < cnt (ph l q) l.length := by
        refine cnt_lt i (by unfold ph; rw [decide_eq_false (by omega)]; rfl) (by unfold ph; rw [decide_eq_true hiq, decide_eq_true (by omega)]; rfl) l.length hi fun m hm hpm => ?_
        unfold ph at hpm ⊢
        rw [Bool.and_eq_true, decide_eq_true_eq, decide_eq_true_eq] at hpm ⊢
        exact ⟨by rintro rfl; omega, by omega⟩
      rw [if_pos c, if_pos (by rw [ranksOf_len]; omega), if_pos (by rw [ranksOf_len]; omega), s1, s2, if_neg (by show ¬ _ ≥ _; unfold rankOf; simp only; omega), if_neg (by show ¬ _ ≥ _; unfold rankOf; simp only; omega)]
    · rw [if_neg c]
def pr (i m : Nat) : Bool := decide (res.getD m 0 > res.getD i 0)
theorem ranked_l2 (hl : l.length ≤ 3) (h : ResOk l res l.length) (i : Nat) (hi : i < l.length) (hn : Ev (fun k => handshapelaw09_ExamsRanked.l1 k l res (ranksOf l) ((i + 1 : Nat) : Int)) true) : ∀ (d q : Nat), q + d = l.length → Ev (fun k => handshapelaw09_ExamsRanked.l2 k l res (ranksOf l) (i : Int) (1 + (cnt (pr res i) q : Int)) (q : Int)) true
  | 0, q, hq => by
    obtain rfl : q = l.length := by omega
    have h3 := ranked_l3 l res hl h i hi hn l.length 0 (by omega)
    have s1 : rd_T28 (ranksOf l) (i : Int) = rankOf l i := by unfold rd_T28; rw [Int.toNat_natCast, ranksOf_getD l i hi]
    obtain ⟨_, a1, a2⟩ := h.2 i hi
    have k1 : cnt (pl l i) l.length ≤ cnt (pr res i) l.length := cnt_le _ fun m hm hpm => by
      unfold pl at hpm
      unfold pr
      rw [Bool.and_eq_true, decide_eq_true_eq, decide_eq_true_eq] at hpm
      rw [decide_eq_true_eq]
      have := h.2 m hm
      omega
    have k2 : cnt (pr res i) l.length ≤ cnt (ph l i) l.length := cnt_le _ fun m hm hpm => by
      unfold pr at hpm
      unfold ph
      rw [decide_eq_true_eq] at hpm
      rw [Bool.and_eq_true, decide_eq_true_eq, decide_eq_true_eq]
      have := h.2 m hm
      exact ⟨by rintro rfl; omega, by omega⟩
    have k3 : cnt (ph l i) l.length < l.length := by
      have := cnt_lt (p := ph l i) (q := fun _ => true) i (by unfold ph; rw [decide_eq_false (by omega)]; rfl) rfl l.length hi (fun _ _ _ => rfl)
      rwa [cnt_all] at this
    refine Ev.step (f := fun k => handshapelaw09_ExamsRanked.j6 k l res (ranksOf l) (i : Int) (decide ((rankOf l i).f1 > (l.length : Int)))) (fun k => ?_) (Ev.step (fun k => ?_) h3)
    · rw [handshapelaw09_ExamsRanked.l2, if_neg (by omega), if_pos (by omega), if_pos (by rw [ranksOf_len]; omega), s1, handshapelaw09_inside.f, if_pos (by show _ ≥ _; unfold rankOf; simp only; omega), Option.bind_some, if_pos (decide_eq_true (by unfold rankOf; simp only; omega)), if_neg (by unfold rankOf; simp only; omega)]
    · rw [handshapelaw09_ExamsRanked.j6, if_neg (by rw [decide_eq_true_eq]; unfold rankOf; simp only; omega)]; rfl
  | d + 1, q, hq => by
    have hlt : q < l.length := by omega
    have ih := ranked_l2 hl h i hi hn d (q + 1) (by omega)
    have hc : cnt (pr res i) q < 1000000 := by have := cnt_bound (pr res i) q; omega
    have hrl := h.1
    refine Ev.step (fun k => ?_) ih
    rw [handshapelaw09_ExamsRanked.l2, if_pos (by omega), if_pos (by omega), if_pos (by omega), if_pos (by omega), if_pos (by omega), rd_nat, rd_nat, wr1 q (by omega)]
    by_cases c : res.getD q 0 > res.getD i 0
    · rw [if_pos c, wrc _ hc, cnt_yes (show pr res i q = true from decide_eq_true c)]
    · rw [if_neg c, cnt_no (show pr res i q = false from decide_eq_false c)]
theorem ranked_l1 (hl : l.length ≤ 3) (h : ResOk l res l.length) : ∀ (d i : Nat), i + d = l.length → Ev (fun k => handshapelaw09_ExamsRanked.l1 k l res (ranksOf l) (i : Int)) true
  | 0, i, hi => by
    refine Ev.step (fun k => ?_) ranked_works
    rw [handshapelaw09_ExamsRanked.l1, if_neg (by omega)]
  | d + 1, i, hi => by
    have ih := ranked_l1 hl h d (i + 1) (by omega)
    refine Ev.step (fun k => ?_) (ranked_l2 l res hl h i (by omega) ih l.length 0 (by omega))
    rw [handshapelaw09_ExamsRanked.l1, if_pos (by omega)]; rfl
variable (ts : List (List Int))
theorem ranked_l0 (hl : l.length ≤ 3) (hts : ts.length = l.length) (hb : ∀ p ∈ l, p.f0.length < 9223372036854775808 ∧ p.f1.length < 9223372036854775808 ∧ (∀ x ∈ p.f1, x.f2.length < 9223372036854775808) ∧ p.f3.length < 9223372036854775808) : ∀ (d q : Nat) (res : List Int), q + d = l.length → ResOk l res q → Ev (fun k => handshapelaw09_ExamsRanked.l0 k l ts res (q : Int)) true
  | 0, q, res, hq, h => by
    obtain rfl : q = l.length := by omega
    have hp : ∀ p ∈ l, PapOk p := fun p hpm => by
      obtain ⟨i, hi, rfl⟩ := List.getElem_of_mem hpm
      have := (h.2 i hi).1
      unfold sp at this
      rwa [List.getD_eq_getElem?_getD, List.getElem?_eq_getElem hi] at this
    refine Ev.step (f := fun k => (exams_Ranks.f k l).bind fun bt303 => (if bt303.2 = 0 then (handshapelaw09_ExamsRanked.j3 k l res bt303.1 ((bt303.1.length : Int) != (l.length : Int))) else (handshapelaw09_ExamsRanked.j3 k l res bt303.1 true))) (fun k => ?_) (Ev.bind (ranks_ev l hl hp) ?_)
    · rw [handshapelaw09_ExamsRanked.l0, if_neg (by omega)]
    · refine Ev.congr (f := fun k => handshapelaw09_ExamsRanked.j3 k l res (ranksOf l) false) (fun k => by rw [if_pos rfl, ranksOf_len]; congr 1; rw [bne_eq_false_iff_eq]) (Ev.step (fun k => ?_) (ranked_l1 l res hl h l.length 0 (by omega)))
      rw [handshapelaw09_ExamsRanked.j3, if_neg (by decide)]; rfl
  | d + 1, q, res, hq, h => by
    have hlt : q < l.length := by omega
    obtain ⟨b0, b1, b2, b3⟩ := hb _ (sp_mem l q hlt)
    have yes : ∀ b : Bool, b = true → Ev (fun k => handshapelaw09_ExamsRanked.j2 k l ts res (q : Int) b) true := fun b e => by
      refine Ev.step (fun k => ?_) ranked_works
      rw [handshapelaw09_ExamsRanked.j2, if_pos e]
    refine Ev.step (f := fun k => (handshapelaw09_ready.f k (sp l q).f0 (sp l q).f1 (sp l q).f2 (sp l q).f3).bind fun t291 => (if t291 = true then (if (q : Int) < (ts.length : Int) then (if ((rd_L3 ts (q : Int)).length : Int) > 20 then (handshapelaw09_ExamsRanked.j2 k l ts res (q : Int) true) else ((handshaperef09_IsPossible.f k (sp l q).f0 (sp l q).f1 (sp l q).f2 (sp l q).f3 (rd_L3 ts (q : Int))).bind fun t295 => (handshapelaw09_ExamsRanked.j2 k l ts res (q : Int) (!t295)))) else (none)) else (handshapelaw09_ExamsRanked.j2 k l ts res (q : Int) true))) (fun k => ?_) (Ev.bind (ready_ev _ _ _ _ b0 b1 b2 b3) ?_)
    · rw [handshapelaw09_ExamsRanked.l0, if_pos (by omega), if_pos (by omega), paper_rd]
    cases hr : (!farB (sp l q).f0 (sp l q).f1 (sp l q).f2 (sp l q).f3 && paperOk (sp l q).f0 (sp l q).f1 (sp l q).f2 (sp l q).f3) with
    | false => exact Ev.congr (fun k => by rw [if_neg (by decide)]) (yes true rfl)
    | true =>
      have hp : paperOk (sp l q).f0 (sp l q).f1 (sp l q).f2 (sp l q).f3 = true := (Bool.and_eq_true_iff.1 hr).2
      obtain ⟨t, ht⟩ : ∃ t, rd_L3 ts (q : Int) = t := ⟨_, rfl⟩
      rw [ht]
      by_cases c1 : (t.length : Int) > 20
      · exact Ev.congr (fun k => by rw [if_pos rfl, if_pos (by omega), if_pos c1]) (yes true rfl)
      obtain ⟨b, h1, h2⟩ := poss_ev (sp l q).f0 (sp l q).f1 (sp l q).f2 (sp l q).f3 t hp (by omega)
      refine Ev.congr (f := fun k => (handshaperef09_IsPossible.f k (sp l q).f0 (sp l q).f1 (sp l q).f2 (sp l q).f3 t).bind fun t295 => (handshapelaw09_ExamsRanked.j2 k l ts res (q : Int) (!t295))) (fun k => by rw [if_pos rfl, if_pos (by omega), if_neg c1]) (Ev.bind h1 ?_)
      cases b with
      | false => exact yes _ rfl
      | true =>
        have hpo := h2 rfl
        obtain ⟨s1, s2, s3⟩ := poss_span hpo
        obtain ⟨p1, p2, p3, p4, p5, p6, p7⟩ := paper_parts.1 hp
        have hI4 := (wiB_iff.1 p1).2
        have hit : ∀ i, i < (sp l q).f0.length → (0 ≤ ((sp l q).f0.getD i z93).f0 ∧ ((sp l q).f0.getD i z93).f0 ≤ 10) ∧ ((sp l q).f0.getD i z93).f1 ≤ 30 := fun i hi => by
          have h3 := List.all_eq_true.1 p2 ((sp l q).f0.getD i z93) (by rw [List.getD_eq_getElem?_getD, List.getElem?_eq_getElem hi]; exact List.getElem_mem _)
          unfold itemOk at h3
          rw [Bool.and_eq_true] at h3
          exact ⟨wiB_iff.1 h3.1, (wiB_iff.1 h3.2).2⟩
        have hlen := hpo.1
        have hres := result_l0 (sp l q).f0 (sp l q).f1 (sp l q).f2 (sp l q).f3 t hpo.1 (by omega) (fun i hi => by have := hpo.2.1 i (by omega); have := (hit i (by omega)).2; omega) (fun i hi => (hit i hi).1) t.length 0 0 (by omega) (by omega) (by omega)
        rw [Int.zero_add, hpo.1] at hres
        have hres' : Ev (fun k => handshaperef09_Result.f k (sp l q).f0 (sp l q).f1 (sp l q).f2 (sp l q).f3 t) (resFrom (sp l q).f0 t (sp l q).f0.length 0) := hres
        have ih := ranked_l0 hl hts hb d (q + 1) (res ++ [resFrom (sp l q).f0 t (sp l q).f0.length 0]) (by omega) ⟨by rw [List.length_append, List.length_singleton, h.1], fun i hi => by
          by_cases e : i = q
          · subst e
            rw [List.getD_eq_getElem?_getD, List.getElem?_append_right (by rw [h.1]; exact Nat.le_refl _), h.1, Nat.sub_self]
            exact ⟨⟨hp, s1⟩, s2, s3⟩
          · rw [List.getD_eq_getElem?_getD, List.getElem?_append_left (by rw [h.1]; omega), ← List.getD_eq_getElem?_getD]
            exact h.2 i (by omega)⟩
        refine Ev.step (f := fun k => (handshaperef09_Result.f k (sp l q).f0 (sp l q).f1 (sp l q).f2 (sp l q).f3 t).bind fun t299 => (if res.length < 17592186044416 then (handshapelaw09_ExamsRanked.l0 k l ts (res ++ [t299]) (wrap64 ((q : Int) + 1))) else (none))) (fun k => ?_) (Ev.bind hres' ?_)
        · rw [handshapelaw09_ExamsRanked.j2, if_neg (by decide), if_pos (by omega), if_pos (by omega), if_pos (by omega), paper_rd, ht]
        · exact Ev.congr (fun k => by rw [if_pos (by have := h.1; omega), wr1 q (by omega)]) ih
/-- THE LAW ExamsRanked, as a plain function: true for all papers and truths. -/
theorem ExamsRanked_ev (hb : ∀ p ∈ l, p.f0.length < 9223372036854775808 ∧ p.f1.length < 9223372036854775808 ∧ (∀ x ∈ p.f1, x.f2.length < 9223372036854775808) ∧ p.f3.length < 9223372036854775808) : Ev (fun k => handshapelaw09_ExamsRanked.f k l ts) true := by
  have yes : ∀ b : Bool, b = true → Ev (fun k => handshapelaw09_ExamsRanked.j0 k l ts b) true := fun b e => by
    refine Ev.step (fun k => ?_) ranked_works
    rw [handshapelaw09_ExamsRanked.j0, if_pos e]
  by_cases c1 : (l.length : Int) > 3
  · exact Ev.congr (fun k => by unfold handshapelaw09_ExamsRanked.f; rw [if_pos c1]) (yes true rfl)
  refine Ev.congr (f := fun k => handshapelaw09_ExamsRanked.j0 k l ts ((ts.length : Int) != (l.length : Int))) (fun k => by unfold handshapelaw09_ExamsRanked.f; rw [if_neg c1]) ?_
  by_cases c2 : ts.length = l.length
  · refine Ev.step (fun k => ?_) (ranked_l0 l ts (by omega) c2 hb l.length 0 [] (by omega) ⟨rfl, fun i hi => by omega⟩)
    rw [handshapelaw09_ExamsRanked.j0, if_neg (by rw [bne_iff_ne]; omega)]; rfl
  · exact yes _ (by rw [bne_iff_ne]; omega)
end
end Go.Proofs.Ytinnjghpmambiaa.Ext
