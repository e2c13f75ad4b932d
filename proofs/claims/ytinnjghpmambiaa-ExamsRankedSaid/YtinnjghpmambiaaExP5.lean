import Derived.Test.YtinnjghpmambiaaExP1
import Derived.Test.YtinnjghpmambiaaExP3
import Derived.Test.YtinnjghpmambiaaExPw
import Derived.Test.YtinnjghpmambiaaPrint10
namespace Go.Proofs.Ytinnjghpmambiaa.Ext
open Go.RowKit Go.Proofs.YtinnjghpmambiaaW.PrintWords Go.Proofs.YtinnjghpmambiaaW.PrintMore Go.Proofs.Ytinnjghpmambiaa.Print

/-! A possible truth, as the specification tells it, has its result within the survey's span. -/
/-- A judge is right with a bias. -/
def RightAt (x : S30) (t : List Int) (b : Int) : Prop := x.f0.f0 ≤ b ∧ b ≤ x.f0.f1 ∧ ∀ i, i < t.length → x.f2.getD i 0 = -1 ∨ (-x.f1 ≤ x.f2.getD i 0 - t.getD i 0 - b ∧ x.f2.getD i 0 - t.getD i 0 - b ≤ x.f1)
def InvJ (t : List Int) : List S30 → List S28 → Prop
  | [], [] => True
  | x :: J, s :: bs => (∀ b, RightAt x t b → s.f0 ≤ b ∧ b ≤ s.f1) ∧ InvJ t J bs
  | _, _ => False
theorem InvJ.start (t : List Int) : ∀ J, InvJ t J (J.map fun x => x.f0)
  | [] => trivial
  | _ :: J => ⟨fun _ h => ⟨h.1, h.2.1⟩, InvJ.start t J⟩
theorem InvJ.cut {t : List Int} {i : Nat} (hi : i < t.length) : ∀ {J : List S30} {bs : List S28}, InvJ t J bs → InvJ t J (cutAll J i (t.getD i 0) bs)
  | [], [], _ => trivial
  | x :: J, s :: bs, h => by
    refine ⟨fun b hb => ?_, InvJ.cut hi h.2⟩
    obtain ⟨g1, g2⟩ := h.1 b hb
    show (cutB x i (t.getD i 0) s).f0 ≤ b ∧ b ≤ (cutB x i (t.getD i 0) s).f1
    unfold cutB
    by_cases c : 0 ≤ x.f2.getD i 0
    · rw [if_pos c]
      have h3 := hb.2.2 i hi
      exact ⟨by show max _ _ ≤ b; omega, by show b ≤ min _ _; omega⟩
    · rw [if_neg c]; exact ⟨g1, g2⟩
/-- The judges' spans behind some items of a truth. -/
def cutsFrom (J : List S30) (t : List Int) : Nat → Nat → List S28 → List S28
  | 0, _, bs => bs
  | d + 1, i, bs => cutsFrom J t d (i + 1) (cutAll J i (t.getD i 0) bs)
theorem cutsFrom_inv {J : List S30} {t : List Int} : ∀ (d i : Nat) (bs : List S28), i + d ≤ t.length → InvJ t J bs → InvJ t J (cutsFrom J t d i bs)
  | 0, _, _, _, h => h
  | d + 1, i, bs, hi, h => cutsFrom_inv d (i + 1) _ (by omega) (h.cut (by omega))
def resFrom (I : List S93) (t : List Int) : Nat → Nat → Int
  | 0, _ => 0
  | d + 1, i => t.getD i 0 * (I.getD i z93).f0 + resFrom I t d (i + 1)
theorem lv_mem {I : List S93} {J : List S30} {t : List Int} (ht : ∀ i, i < I.length → 0 ≤ t.getD i 0 ∧ t.getD i 0 ≤ (I.getD i z93).f1) : ∀ (d : Nat) (r : Int) (bs : List S28), d ≤ I.length → (r + resFrom I t d (I.length - d), cutsFrom J t d (I.length - d) bs) ∈ lv I J d r bs
  | 0, r, bs, _ => by
    rw [lv, resFrom, cutsFrom, Int.add_zero]
    exact List.mem_singleton.2 rfl
  | d + 1, r, bs, hd => by
    rw [lv, List.mem_flatMap]
    obtain ⟨h0, h1⟩ := ht (I.length - (d + 1)) (by omega)
    refine ⟨(t.getD (I.length - (d + 1)) 0).toNat, List.mem_range.2 (by omega), ?_⟩
    rw [Int.toNat_of_nonneg h0]
    have ih := lv_mem (J := J) ht d (r + t.getD (I.length - (d + 1)) 0 * (I.getD (I.length - (d + 1)) z93).f0) (cutAll J (I.length - (d + 1)) (t.getD (I.length - (d + 1)) 0) bs) (by omega)
    rw [show I.length - d = I.length - (d + 1) + 1 by omega] at ih
    rw [resFrom, cutsFrom, ← Int.add_assoc]
    exact ih
theorem acc_keeps {wr : Int} {v : Int} : ∀ (L : List (Int × List S28)) (a : Int × Int × Bool), (a.1 ≤ v ∧ v ≤ a.2.1 ∧ a.2.2 = true) → ((L.foldl (acc wr) a).1 ≤ v ∧ v ≤ (L.foldl (acc wr) a).2.1 ∧ (L.foldl (acc wr) a).2.2 = true)
  | [], _, h => h
  | p :: L, a, h => by
    rw [List.foldl_cons]
    refine acc_keeps L _ ?_
    obtain ⟨h1, h2, h3⟩ := h
    unfold acc
    split
    · exact ⟨h1, h2, h3⟩
    · exact ⟨by show min _ _ ≤ v; omega, by show v ≤ max _ _; omega, rfl⟩
theorem acc_has {wr : Int} {p : Int × List S28} (hp : ¬ wr < (wrongOf p.2 : Int)) : ∀ (L : List (Int × List S28)) (a : Int × Int × Bool), p ∈ L → ((L.foldl (acc wr) a).1 ≤ p.1 ∧ p.1 ≤ (L.foldl (acc wr) a).2.1 ∧ (L.foldl (acc wr) a).2.2 = true)
  | [], _, h => absurd h (by simp)
  | q :: L, a, h => by
    rw [List.foldl_cons]
    rcases List.mem_cons.1 h with rfl | h
    · refine acc_keeps L _ ?_
      unfold acc
      rw [if_neg hp]
      exact ⟨by show min _ _ ≤ _; omega, by show _ ≤ max _ _; omega, rfl⟩
    · exact acc_has hp L _ h
/-- What IsPossible says. -/
def Poss (I : List S93) (J : List S30) (a2 : Int) (t : List Int) : Prop :=
  t.length = I.length ∧ (∀ i, i < I.length → 0 ≤ t.getD i 0 ∧ t.getD i 0 ≤ (I.getD i z93).f1) ∧ ∀ bs, InvJ t J bs → (wrongOf bs : Int) ≤ a2
theorem poss_span {I : List S93} {J : List S30} {a2 : Int} {t : List Int} (h : Poss I J a2 t) : (svOf I J a2).poss = true ∧ (svOf I J a2).rlo ≤ resFrom I t I.length 0 ∧ resFrom I t I.length 0 ≤ (svOf I J a2).rhi := by
  obtain ⟨hl, ht, hw⟩ := h
  have hm := lv_mem (J := J) ht I.length 0 (J.map fun x => x.f0) (Nat.le_refl _)
  rw [Nat.sub_self, Int.zero_add] at hm
  have hi := cutsFrom_inv (J := J) (t := t) I.length 0 (J.map fun x => x.f0) (by omega) (InvJ.start t J)
  have h3 := acc_has (wr := a2) (p := (resFrom I t I.length 0, cutsFrom J t I.length 0 (J.map fun x => x.f0))) (Int.not_lt.2 (hw _ hi)) _ (proj { sv0 J.length with it := initIt 248 }) hm
  have hp : proj (svOf I J a2) = (lv I J I.length 0 (J.map fun x => x.f0)).foldl (acc a2) (proj { sv0 J.length with it := initIt 248 }) := by
    unfold svOf
    rw [proj_visit]
  rw [← hp] at h3
  exact ⟨h3.2.2, h3.1, h3.2.1⟩
section
variable (I : List S93) (J : List S30) (a2 : Int) (G : List Int) (t : List Int)
/-- IsTruth. -/
theorem truth_l0 (hI : I.length < 1000) (ht : t.length < 1000) : ∀ (d q : Nat), q + d = t.length → q ≤ I.length → ∃ b, Ev (fun k => handshaperef09_IsTruth.l0 k t (q : Int) I J a2 G) b ∧ (b = true → t.length = I.length ∧ ∀ i, q ≤ i → i < t.length → 0 ≤ t.getD i 0 ∧ t.getD i 0 ≤ (I.getD i z93).f1)
  | 0, q, hq, hqi => by
    refine ⟨((t.length : Int) == (I.length : Int)), Ev.step (f := fun k => handshaperef09_IsTruth.j1 k t (q : Int) false I J a2 G) (fun k => ?_) (Ev.step (f := fun _ => some ((t.length : Int) == (I.length : Int))) (fun k => ?_) (Ev.now _)), fun h => ⟨by have := beq_iff_eq.1 h; omega, fun i h1 h2 => by omega⟩⟩
    · rw [handshaperef09_IsTruth.l0, if_neg (by omega)]
    · rw [handshaperef09_IsTruth.j1, if_neg (by decide)]
  | d + 1, q, hq, hqi => by
    by_cases hlt : q < I.length
    · have hrd : rd_T93 I (q : Int) = I.getD q z93 := by unfold rd_T93; rw [Int.toNat_natCast]
      cases hw : wiB (t.getD q 0) 0 (I.getD q z93).f1 with
      | false =>
        refine ⟨false, Ev.step (f := fun k => handshaperef09_IsTruth.j1 k t (q : Int) (decide ((q : Int) < (I.length : Int))) I J a2 G) (fun k => ?_) (Ev.step (f := fun _ => some false) (fun k => ?_) (Ev.now _)), fun h => by cases h⟩
        · rw [handshaperef09_IsTruth.l0, if_pos (by omega)]
        · rw [handshaperef09_IsTruth.j1, if_pos (decide_eq_true (by omega)), if_pos (by omega), if_pos (by omega), if_pos (by omega), within_f, Option.bind_some, rd_nat, hrd, hw, if_neg (by decide)]
      | true =>
        obtain ⟨b, h1, h2⟩ := truth_l0 hI ht d (q + 1) (by omega) (by omega)
        refine ⟨b, Ev.step (f := fun k => handshaperef09_IsTruth.j1 k t (q : Int) (decide ((q : Int) < (I.length : Int))) I J a2 G) (fun k => ?_) (Ev.step (fun k => ?_) h1), fun h => ⟨(h2 h).1, fun i h3 h4 => ?_⟩⟩
        · rw [handshaperef09_IsTruth.l0, if_pos (by omega)]
        · rw [handshaperef09_IsTruth.j1, if_pos (decide_eq_true (by omega)), if_pos (by omega), if_pos (by omega), if_pos (by omega), within_f, Option.bind_some, rd_nat, hrd, hw, if_pos rfl, wr1 q (by omega)]
        · by_cases e : i = q
          · subst e; exact wiB_iff.1 hw
          · exact (h2 h).2 i (by omega) h4
    · refine ⟨((t.length : Int) == (I.length : Int)), Ev.step (f := fun k => handshaperef09_IsTruth.j1 k t (q : Int) (decide ((q : Int) < (I.length : Int))) I J a2 G) (fun k => ?_) (Ev.step (f := fun _ => some ((t.length : Int) == (I.length : Int))) (fun k => ?_) (Ev.now _)), fun h => by have := beq_iff_eq.1 h; omega⟩
      · rw [handshaperef09_IsTruth.l0, if_pos (by omega)]
      · rw [handshaperef09_IsTruth.j1, if_neg (by rw [decide_eq_true_eq]; omega)]
/-- IsRight. -/
def MarksOk (e : Int) (M t : List Int) (b : Int) (i : Nat) : Prop := M.getD i 0 = -1 ∨ (-e ≤ M.getD i 0 - t.getD i 0 - b ∧ M.getD i 0 - t.getD i 0 - b ≤ e)
theorem right_l1 (lo hi e : Int) (M : List Int) (hM : M.length = t.length) (ht : t.length < 1000) (hm : ∀ i, i < t.length → -1 ≤ M.getD i 0 ∧ M.getD i 0 ≤ 50) (htb : ∀ i, i < t.length → 0 ≤ t.getD i 0 ∧ t.getD i 0 ≤ 30) (he : 0 ≤ e ∧ e ≤ 5) (b : Int) (hb : -3 ≤ b ∧ b ≤ 3) (V : Bool) (hV : Ev (fun k => handshaperef09_IsRight.l0 k t (b + 1) lo hi e M) V) :
    ∀ (d i : Nat) (fl : Bool), i + d = t.length → ∃ r, Ev (fun k => handshaperef09_IsRight.l1 k t b fl (i : Int) lo hi e M) r ∧ (r = true → V = true ∨ (fl = true ∧ ∀ j, i ≤ j → j < t.length → MarksOk e M t b j))
  | 0, i, fl, hi => by
    cases fl with
    | true =>
      refine ⟨true, Ev.step (f := fun _ => some true) (fun k => ?_) (Ev.now _), fun _ => .inr ⟨rfl, fun j h1 h2 => by omega⟩⟩
      rw [handshaperef09_IsRight.l1, if_neg (by omega), if_pos rfl]
    | false =>
      refine ⟨V, Ev.step (fun k => ?_) hV, fun h => .inl h⟩
      rw [handshaperef09_IsRight.l1, if_neg (by omega), if_neg (by decide), show wrap64 (b + 1) = b + 1 by unfold wrap64; omega]
  | d + 1, i, fl, hi' => by
    have hlt : i < t.length := by omega
    cases fl with
    | false =>
      obtain ⟨r, h1, h2⟩ := right_l1 lo hi e M hM ht hm htb he b hb V hV d (i + 1) false (by omega)
      refine ⟨r, Ev.step (fun k => ?_) h1, fun h => ?_⟩
      · rw [handshaperef09_IsRight.l1, if_pos (by omega), if_neg (by decide), wr1 i (by omega)]
      · rcases h2 h with h | ⟨h, _⟩
        · exact .inl h
        · cases h
    | true =>
      obtain ⟨m0, m1⟩ := hm i hlt
      obtain ⟨t0, t1⟩ := htb i hlt
      by_cases c : M.getD i 0 = -1
      · obtain ⟨r, h1, h2⟩ := right_l1 lo hi e M hM ht hm htb he b hb V hV d (i + 1) true (by omega)
        refine ⟨r, Ev.step (fun k => ?_) h1, fun h => ?_⟩
        · rw [handshaperef09_IsRight.l1, if_pos (by omega), if_pos rfl, if_pos (by omega), if_pos (by omega), rd_nat, if_pos c, wr1 i (by omega)]
        · rcases h2 h with h | ⟨_, h⟩
          · exact .inl h
          · refine .inr ⟨rfl, fun j h3 h4 => ?_⟩
            by_cases ej : j = i
            · subst ej; exact .inl c
            · exact h j (by omega) h4
      · obtain ⟨r, h1, h2⟩ := right_l1 lo hi e M hM ht hm htb he b hb V hV d (i + 1) (wiB (M.getD i 0 - t.getD i 0 - b) (-e) e) (by omega)
        refine ⟨r, Ev.step (fun k => ?_) h1, fun h => ?_⟩
        · rw [handshaperef09_IsRight.l1, if_pos (by omega), if_pos rfl, if_pos (by omega), if_pos (by omega), rd_nat, if_neg c, within_f, Option.bind_some, wr1 i (by omega), rd_nat, show wrap64 (wrap64 (M.getD i 0 - t.getD i 0) - b) = M.getD i 0 - t.getD i 0 - b by unfold wrap64; omega, show wrap64 (-e) = -e by unfold wrap64; omega]
        · rcases h2 h with h | ⟨hf, h⟩
          · exact .inl h
          · refine .inr ⟨rfl, fun j h3 h4 => ?_⟩
            by_cases ej : j = i
            · subst ej; exact .inr (wiB_iff.1 hf)
            · exact h j (by omega) h4
theorem right_l0 (lo hi e : Int) (M : List Int) (hM : M.length = t.length) (ht : t.length < 1000) (hm : ∀ i, i < t.length → -1 ≤ M.getD i 0 ∧ M.getD i 0 ≤ 50) (htb : ∀ i, i < t.length → 0 ≤ t.getD i 0 ∧ t.getD i 0 ≤ 30) (he : 0 ≤ e ∧ e ≤ 5) (hhi : hi ≤ 3) :
    ∀ (d : Nat) (b : Int), b + d = hi + 1 → -3 ≤ b → ∃ r, Ev (fun k => handshaperef09_IsRight.l0 k t b lo hi e M) r ∧ (r = true → ∃ b', b ≤ b' ∧ b' ≤ hi ∧ ∀ j, j < t.length → MarksOk e M t b' j)
  | 0, b, hd, hb => by
    refine ⟨false, Ev.step (f := fun _ => some false) (fun k => ?_) (Ev.now _), fun h => by cases h⟩
    rw [handshaperef09_IsRight.l0, if_neg (by omega)]
  | d + 1, b, hd, hb => by
    obtain ⟨V, h1, h2⟩ := right_l0 lo hi e M hM ht hm htb he hhi d (b + 1) (by omega) (by omega)
    obtain ⟨r, h3, h4⟩ := right_l1 t lo hi e M hM ht hm htb he b (by omega) V h1 t.length 0 true (by omega)
    refine ⟨r, Ev.step (fun k => ?_) h3, fun h => ?_⟩
    · rw [handshaperef09_IsRight.l0, if_pos (by omega)]; rfl
    · rcases h4 h with h | ⟨_, h⟩
      · obtain ⟨b', g1, g2, g3⟩ := h2 h
        exact ⟨b', by omega, g2, g3⟩
      · exact ⟨b, by omega, by omega, fun j hj => h j (by omega) hj⟩
/-- Wrongs. -/
theorem wrongs_l0 (hJl : J.length < 1000) (ht : t.length < 1000) (hJ : ∀ x ∈ J, judgeOk t.length x.f0.f0 x.f0.f1 x.f1 x.f2 = true) (htb : ∀ i, i < t.length → 0 ≤ t.getD i 0 ∧ t.getD i 0 ≤ 30) :
    ∀ (d q c : Nat), q + d = J.length → c ≤ q → ∃ n : Nat, Ev (fun k => handshaperef09_Wrongs.l0 k t (c : Int) (q : Int) I J a2 G) ((c + n : Nat) : Int) ∧ ∀ bs, InvJ t (J.drop q) bs → wrongOf bs ≤ n
  | 0, q, c, hq, hc => by
    refine ⟨0, Ev.step (f := fun _ => some (c : Int)) (fun k => ?_) (Ev.now _), fun bs hb => ?_⟩
    · rw [handshaperef09_Wrongs.l0, if_neg (by omega)]
    · rw [List.drop_eq_nil_of_le (by omega)] at hb
      cases bs with
      | nil => exact Nat.le_refl _
      | cons _ _ => exact hb.elim
  | d + 1, q, c, hq, hc => by
    have hlt : q < J.length := by omega
    have hmem : J.getD q z30 ∈ J := by rw [List.getD_eq_getElem?_getD, List.getElem?_eq_getElem hlt]; exact List.getElem_mem hlt
    have hok := hJ _ hmem
    have hrd : rd_T30 J (q : Int) = J.getD q z30 := by unfold rd_T30; rw [Int.toNat_natCast]
    rw [drop_at J z30 q hlt]
    obtain ⟨x, hx⟩ : ∃ x, J.getD q z30 = x := ⟨_, rfl⟩
    rw [hx] at hrd hok ⊢
    obtain ⟨g1, g2, g3, g4, g5, g6⟩ := judge_iff.1 hok
    have hm : ∀ i, i < t.length → -1 ≤ x.f2.getD i 0 ∧ x.f2.getD i 0 ≤ 50 := fun i hi => wiB_iff.1 (List.all_eq_true.1 g6 _ (by rw [List.getD_eq_getElem?_getD, List.getElem?_eq_getElem (by omega)]; exact List.getElem_mem _))
    obtain ⟨r, h1, h2⟩ := right_l0 t x.f0.f0 x.f0.f1 x.f1 x.f2 g5 ht hm htb g4 g3 (x.f0.f1 + 1 - x.f0.f0).toNat x.f0.f0 (by omega) g1
    have hf : Ev (fun k => handshaperef09_IsRight.f k x.f0.f0 x.f0.f1 x.f1 x.f2 t) r := h1
    cases r with
    | true =>
      obtain ⟨n, k1, k2⟩ := wrongs_l0 hJl ht hJ htb d (q + 1) c (by omega) (by omega)
      refine ⟨n, Ev.step (f := fun k => (handshaperef09_IsRight.f k x.f0.f0 x.f0.f1 x.f1 x.f2 t).bind fun t264 => (if t264 = true then (handshaperef09_Wrongs.l0 k t (c : Int) (wrap64 ((q : Int) + 1)) I J a2 G) else (handshaperef09_Wrongs.l0 k t (wrap64 ((c : Int) + 1)) (wrap64 ((q : Int) + 1)) I J a2 G))) (fun k => ?_) (Ev.bind hf (Ev.congr (fun k => by rw [if_pos rfl, wr1 q (by omega)]) k1)), fun bs hb => ?_⟩
      · rw [handshaperef09_Wrongs.l0, if_pos (by omega), if_pos (by omega), hrd]
      · cases bs with
        | nil => exact hb.elim
        | cons s bs =>
          have h5 := k2 bs hb.2
          obtain ⟨b', e1, e2, e3⟩ := h2 rfl
          have h6 := hb.1 b' ⟨e1, e2, e3⟩
          unfold wrongOf at h5 ⊢
          rw [List.countP_cons, if_neg (by rw [decide_eq_true_eq]; omega)]
          exact h5
    | false =>
      obtain ⟨n, k1, k2⟩ := wrongs_l0 hJl ht hJ htb d (q + 1) (c + 1) (by omega) (by omega)
      refine ⟨n + 1, ?_, fun bs hb => ?_⟩
      · rw [show c + (n + 1) = c + 1 + n by omega]
        refine Ev.step (f := fun k => (handshaperef09_IsRight.f k x.f0.f0 x.f0.f1 x.f1 x.f2 t).bind fun t264 => (if t264 = true then (handshaperef09_Wrongs.l0 k t (c : Int) (wrap64 ((q : Int) + 1)) I J a2 G) else (handshaperef09_Wrongs.l0 k t (wrap64 ((c : Int) + 1)) (wrap64 ((q : Int) + 1)) I J a2 G))) (fun k => ?_) (Ev.bind hf (Ev.congr (fun k => by rw [if_neg (by decide), wr1 q (by omega), wr1 c (by omega)]) k1))
        rw [handshaperef09_Wrongs.l0, if_pos (by omega), if_pos (by omega), hrd]
      · cases bs with
        | nil => exact hb.elim
        | cons s bs =>
          have h5 := k2 bs hb.2
          unfold wrongOf at h5 ⊢
          rw [List.countP_cons]
          split <;> omega
/-- Result. -/
theorem result_l0 (hl : t.length = I.length) (hI : I.length ≤ 4) (htb : ∀ i, i < t.length → 0 ≤ t.getD i 0 ∧ t.getD i 0 ≤ 30) (hw : ∀ i, i < I.length → 0 ≤ (I.getD i z93).f0 ∧ (I.getD i z93).f0 ≤ 10) :
    ∀ (d q : Nat) (c : Int), q + d = t.length → 0 ≤ c → c ≤ 300 * q → Ev (fun k => handshaperef09_Result.l0 k t c (q : Int) I J a2 G) (c + resFrom I t d q)
  | 0, q, c, hq, h0, h1 => by
    rw [resFrom, Int.add_zero]
    refine Ev.step (f := fun _ => some c) (fun k => ?_) (Ev.now _)
    rw [handshaperef09_Result.l0, if_neg (by omega)]
  | d + 1, q, c, hq, h0, h1 => by
    have hrd : rd_T93 I (q : Int) = I.getD q z93 := by unfold rd_T93; rw [Int.toNat_natCast]
    obtain ⟨t0, t1⟩ := htb q (by omega)
    obtain ⟨w0, w1⟩ := hw q (by omega)
    have hp0 : 0 ≤ t.getD q 0 * (I.getD q z93).f0 := Int.mul_nonneg t0 w0
    have hp1 : t.getD q 0 * (I.getD q z93).f0 ≤ 30 * 10 := Int.mul_le_mul t1 w1 w0 (by omega)
    have ih := result_l0 hl hI htb hw d (q + 1) (c + t.getD q 0 * (I.getD q z93).f0) (by omega) (by omega) (by omega)
    rw [resFrom, ← Int.add_assoc]
    refine Ev.step (fun k => ?_) ih
    rw [handshaperef09_Result.l0, if_pos (by omega), if_pos (by omega), if_pos (by omega), rd_nat, hrd]
    generalize t.getD q 0 * (I.getD q z93).f0 = v at *
    rw [show wrap64 (c + wrap64 v) = c + v by unfold wrap64; omega, wr1 q (by omega)]
/-- IsPossible, of a valid paper. -/
theorem poss_ev (hp : paperOk I J a2 G = true) (ht : t.length ≤ 20) : ∃ b, Ev (fun k => handshaperef09_IsPossible.f k I J a2 G t) b ∧ (b = true → Poss I J a2 t) := by
  obtain ⟨p1, p2, p3, p4, p5, p6, p7⟩ := paper_parts.1 hp
  have hI4 := (wiB_iff.1 p1).2
  obtain ⟨b, h1, h2⟩ := truth_l0 I J a2 G t (by omega) (by omega) t.length 0 (by omega) (by omega)
  have h1' : Ev (fun k => handshaperef09_IsTruth.f k I J a2 G t) b := h1
  cases b with
  | false =>
    refine ⟨false, Ev.congr (fun k => rfl) (Ev.bind h1' ?_), fun h => by cases h⟩
    exact Ev.congr (fun k => by rw [if_neg (by decide)]) (Ev.now _)
  | true =>
    obtain ⟨e1, e2⟩ := h2 rfl
    have hit : ∀ i, i < I.length → 0 ≤ (I.getD i z93).f1 ∧ (I.getD i z93).f1 ≤ 30 := fun i hi => by
      have h3 := List.all_eq_true.1 p2 (I.getD i z93) (by rw [List.getD_eq_getElem?_getD, List.getElem?_eq_getElem hi]; exact List.getElem_mem _)
      unfold itemOk at h3
      rw [Bool.and_eq_true] at h3
      exact wiB_iff.1 h3.2
    have htb : ∀ i, i < t.length → 0 ≤ t.getD i 0 ∧ t.getD i 0 ≤ 30 := fun i hi => by
      have h3 := e2 i (by omega) hi
      have h4 := hit i (by omega)
      omega
    obtain ⟨n, k1, k2⟩ := wrongs_l0 I J a2 G t (by omega) (by omega) (fun x hx => by rw [e1]; exact p4 x hx) htb J.length 0 0 (by omega) (by omega)
    have k1' : Ev (fun k => handshaperef09_Wrongs.f k I J a2 G t) ((0 + n : Nat) : Int) := k1
    refine ⟨decide (((0 + n : Nat) : Int) ≤ a2), Ev.congr (fun k => rfl) (Ev.bind h1' ?_), fun h => ⟨e1, fun i hi => e2 i (by omega) (by omega), fun bs hb => ?_⟩⟩
    · exact Ev.congr (fun k => by rw [if_pos rfl]) (Ev.bind k1' (Ev.now _))
    · have h3 := of_decide_eq_true h
      have h4 := k2 bs hb
      omega
end
end Go.Proofs.Ytinnjghpmambiaa.Ext
