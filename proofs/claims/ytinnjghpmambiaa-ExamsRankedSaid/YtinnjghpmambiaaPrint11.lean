-- Written for this claim by wip/pr.py of this work, which runs the kit's print.py with some contracts given by hand. Lean checks it.
import Derived.Test.YtinnjghpmambiaaPrint0
import Derived.Test.YtinnjghpmambiaaExC
namespace Go.Proofs.Ytinnjghpmambiaa.Print
open Go.RowKit Go.Proofs.YtinnjghpmambiaaW.PrintWords Go.Proofs.YtinnjghpmambiaaW.PrintLast Go.Proofs.YtinnjghpmambiaaW.PrintMore
attribute [local go_sem] max2_int min2_int max_two min_two max_three min_three max_four min_four   -- for this text's walks alone
set_option linter.unusedVariables false
set_option linter.unusedSimpArgs false

open Go.Proofs.Ytinnjghpmambiaa.Ext
/-! ### exams_Ranks: function 15 -/
mutual
def exams_Ranks.l0 : Nat → List (S28) → List (S26) → Int → Int → Option ((List (S28)) × Int)
  | 0, _, _, _, _ => none
  | k + 1, x4, x18, x19, x20 => if x20 < x19 then (if 0 ≤ x20 then (if x20 < (x18.length : Int) then ((exams_Range.f ((rd_T26 x18 x20).f0) ((rd_T26 x18 x20).f1) ((rd_T26 x18 x20).f2) ((rd_T26 x18 x20).f3)).bind fun bt273 => (if bt273.2.2 = 0 then (if x4.length < 8796093022208 then (exams_Ranks.l0 k (x4 ++ [(⟨bt273.1, bt273.2.1⟩ : S28)]) x18 x19 (wrap64 (x20 + 1))) else (none)) else (some (([] : List (S28)), bt273.2.2)))) else (none)) else (none)) else (exams_Ranks.l1 k x4 ([] : List (S28)) x4 (x4.length : Int) 0)
def exams_Ranks.l1 : Nat → List (S28) → List (S28) → List (S28) → Int → Int → Option ((List (S28)) × Int)
  | 0, _, _, _, _, _ => none
  | k + 1, x4, x5, x37, x38, x39 => if x39 < x38 then (if 0 ≤ x39 then (if x39 < (x37.length : Int) then (exams_Ranks.l2 k x4 x5 x39 x37 x38 x39 x4 (x4.length : Int) 0 ((rd_T28 x37 x39).f0) ((rd_T28 x37 x39).f1) 1 1) else (none)) else (none)) else (some (x5, 0))
def exams_Ranks.l2 : Nat → List (S28) → List (S28) → Int → List (S28) → Int → Int → List (S28) → Int → Int → Int → Int → Int → Int → Option ((List (S28)) × Int)
  | 0, _, _, _, _, _, _, _, _, _, _, _, _, _ => none
  | k + 1, x4, x5, x10, x37, x38, x39, x45, x46, x47, x282000, x282001, x283000, x283001 => if x47 < x46 then (if 0 ≤ x47 then (if x47 < (x45.length : Int) then (if x47 = x10 then (exams_Ranks.j3 k x4 x5 x10 x47 x37 x38 x39 x45 x46 x47 false x282000 x282001 x283000 x283001 ((rd_T28 x45 x47).f0) ((rd_T28 x45 x47).f1)) else (exams_Ranks.j3 k x4 x5 x10 x47 x37 x38 x39 x45 x46 x47 (decide (((rd_T28 x45 x47).f0) > x282001)) x282000 x282001 x283000 x283001 ((rd_T28 x45 x47).f0) ((rd_T28 x45 x47).f1))) else (none)) else (none)) else (if x5.length < 8796093022208 then (exams_Ranks.l1 k x4 (x5 ++ [(⟨x283000, x283001⟩ : S28)]) x37 x38 (wrap64 (x39 + 1))) else (none))
def exams_Ranks.j3 : Nat → List (S28) → List (S28) → Int → Int → List (S28) → Int → Int → List (S28) → Int → Int → Bool → Int → Int → Int → Int → Int → Int → Option ((List (S28)) × Int)
  | 0, _, _, _, _, _, _, _, _, _, _, _, _, _, _, _, _, _ => none
  | k + 1, x4, x5, x10, x13, x37, x38, x39, x45, x46, x47, x61, x282000, x282001, x283000, x283001, x288000, x288001 => if x61 = true then (if x13 = x10 then (exams_Ranks.l2 k x4 x5 x10 x37 x38 x39 x45 x46 (wrap64 (x47 + 1)) x282000 x282001 (wrap64 (x283000 + 1)) x283001) else (if x288001 > x282000 then (exams_Ranks.l2 k x4 x5 x10 x37 x38 x39 x45 x46 (wrap64 (x47 + 1)) x282000 x282001 (wrap64 (x283000 + 1)) (wrap64 (x283001 + 1))) else (exams_Ranks.l2 k x4 x5 x10 x37 x38 x39 x45 x46 (wrap64 (x47 + 1)) x282000 x282001 (wrap64 (x283000 + 1)) x283001))) else (if x13 = x10 then (exams_Ranks.l2 k x4 x5 x10 x37 x38 x39 x45 x46 (wrap64 (x47 + 1)) x282000 x282001 x283000 x283001) else (if x288001 > x282000 then (exams_Ranks.l2 k x4 x5 x10 x37 x38 x39 x45 x46 (wrap64 (x47 + 1)) x282000 x282001 x283000 (wrap64 (x283001 + 1))) else (exams_Ranks.l2 k x4 x5 x10 x37 x38 x39 x45 x46 (wrap64 (x47 + 1)) x282000 x282001 x283000 x283001)))
end
def exams_Ranks.f (k : Nat) (l0 : List (S26)) : Option ((List (S28)) × Int) := if (l0.length : Int) > 6 then (some (([] : List (S28)), 1)) else (exams_Ranks.l0 k ([] : List (S28)) l0 (l0.length : Int) 0)
theorem exams_Ranks.mono_l : ∀ k, (∀ y0 y1 y2 y3, LeO (exams_Ranks.l0 k y0 y1 y2 y3) (exams_Ranks.l0 (k + 1) y0 y1 y2 y3)) ∧ (∀ y0 y1 y2 y3 y4, LeO (exams_Ranks.l1 k y0 y1 y2 y3 y4) (exams_Ranks.l1 (k + 1) y0 y1 y2 y3 y4)) ∧ (∀ y0 y1 y2 y3 y4 y5 y6 y7 y8 y9 y10 y11 y12, LeO (exams_Ranks.l2 k y0 y1 y2 y3 y4 y5 y6 y7 y8 y9 y10 y11 y12) (exams_Ranks.l2 (k + 1) y0 y1 y2 y3 y4 y5 y6 y7 y8 y9 y10 y11 y12)) ∧ (∀ y0 y1 y2 y3 y4 y5 y6 y7 y8 y9 y10 y11 y12 y13 y14 y15 y16, LeO (exams_Ranks.j3 k y0 y1 y2 y3 y4 y5 y6 y7 y8 y9 y10 y11 y12 y13 y14 y15 y16) (exams_Ranks.j3 (k + 1) y0 y1 y2 y3 y4 y5 y6 y7 y8 y9 y10 y11 y12 y13 y14 y15 y16))
  | 0 => ⟨fun _ _ _ _ r h => by simp [exams_Ranks.l0] at h, fun _ _ _ _ _ r h => by simp [exams_Ranks.l1] at h, fun _ _ _ _ _ _ _ _ _ _ _ _ _ r h => by simp [exams_Ranks.l2] at h, fun _ _ _ _ _ _ _ _ _ _ _ _ _ _ _ _ _ r h => by simp [exams_Ranks.j3] at h⟩
  | k + 1 => by
    obtain ⟨ih0, ih1, ih2, ih3⟩ := exams_Ranks.mono_l k
    refine ⟨?_, ?_, ?_, ?_⟩
    · intro y0 y1 y2 y3
      unfold exams_Ranks.l0
      repeat' first
      | (with_reducible exact ih0 _ _ _ _)
      | (with_reducible exact ih1 _ _ _ _ _)
      | (with_reducible exact ih2 _ _ _ _ _ _ _ _ _ _ _ _ _)
      | (with_reducible exact ih3 _ _ _ _ _ _ _ _ _ _ _ _ _ _ _ _ _)
      | (with_reducible exact LeO.refl _)
      | (with_reducible exact LeO.none _)
      | (with_reducible refine LeO.ite ?_ ?_)
      | (with_reducible refine LeO.bind ?_ (fun _ => ?_))
      | exact ih0 _ _ _ _
      | exact ih1 _ _ _ _ _
      | exact ih2 _ _ _ _ _ _ _ _ _ _ _ _ _
      | exact ih3 _ _ _ _ _ _ _ _ _ _ _ _ _ _ _ _ _
      | exact LeO.none _
      | refine LeO.ite ?_ ?_
      | refine LeO.bind ?_ (fun _ => ?_)
    · intro y0 y1 y2 y3 y4
      unfold exams_Ranks.l1
      repeat' first
      | (with_reducible exact ih0 _ _ _ _)
      | (with_reducible exact ih1 _ _ _ _ _)
      | (with_reducible exact ih2 _ _ _ _ _ _ _ _ _ _ _ _ _)
      | (with_reducible exact ih3 _ _ _ _ _ _ _ _ _ _ _ _ _ _ _ _ _)
      | (with_reducible exact LeO.refl _)
      | (with_reducible exact LeO.none _)
      | (with_reducible refine LeO.ite ?_ ?_)
      | (with_reducible refine LeO.bind ?_ (fun _ => ?_))
      | exact ih0 _ _ _ _
      | exact ih1 _ _ _ _ _
      | exact ih2 _ _ _ _ _ _ _ _ _ _ _ _ _
      | exact ih3 _ _ _ _ _ _ _ _ _ _ _ _ _ _ _ _ _
      | exact LeO.none _
      | refine LeO.ite ?_ ?_
      | refine LeO.bind ?_ (fun _ => ?_)
    · intro y0 y1 y2 y3 y4 y5 y6 y7 y8 y9 y10 y11 y12
      unfold exams_Ranks.l2
      repeat' first
      | (with_reducible exact ih0 _ _ _ _)
      | (with_reducible exact ih1 _ _ _ _ _)
      | (with_reducible exact ih2 _ _ _ _ _ _ _ _ _ _ _ _ _)
      | (with_reducible exact ih3 _ _ _ _ _ _ _ _ _ _ _ _ _ _ _ _ _)
      | (with_reducible exact LeO.refl _)
      | (with_reducible exact LeO.none _)
      | (with_reducible refine LeO.ite ?_ ?_)
      | (with_reducible refine LeO.bind ?_ (fun _ => ?_))
      | exact ih0 _ _ _ _
      | exact ih1 _ _ _ _ _
      | exact ih2 _ _ _ _ _ _ _ _ _ _ _ _ _
      | exact ih3 _ _ _ _ _ _ _ _ _ _ _ _ _ _ _ _ _
      | exact LeO.none _
      | refine LeO.ite ?_ ?_
      | refine LeO.bind ?_ (fun _ => ?_)
    · intro y0 y1 y2 y3 y4 y5 y6 y7 y8 y9 y10 y11 y12 y13 y14 y15 y16
      unfold exams_Ranks.j3
      repeat' first
      | (with_reducible exact ih0 _ _ _ _)
      | (with_reducible exact ih1 _ _ _ _ _)
      | (with_reducible exact ih2 _ _ _ _ _ _ _ _ _ _ _ _ _)
      | (with_reducible exact ih3 _ _ _ _ _ _ _ _ _ _ _ _ _ _ _ _ _)
      | (with_reducible exact LeO.refl _)
      | (with_reducible exact LeO.none _)
      | (with_reducible refine LeO.ite ?_ ?_)
      | (with_reducible refine LeO.bind ?_ (fun _ => ?_))
      | exact ih0 _ _ _ _
      | exact ih1 _ _ _ _ _
      | exact ih2 _ _ _ _ _ _ _ _ _ _ _ _ _
      | exact ih3 _ _ _ _ _ _ _ _ _ _ _ _ _ _ _ _ _
      | exact LeO.none _
      | refine LeO.ite ?_ ?_
      | refine LeO.bind ?_ (fun _ => ?_)
theorem exams_Ranks.mono : ∀ a0 k, LeO (exams_Ranks.f k a0) (exams_Ranks.f (k + 1) a0) := by
  intro a0 k
  obtain ⟨ih0, ih1, ih2, ih3⟩ := exams_Ranks.mono_l k
  unfold exams_Ranks.f
  repeat' first
      | (with_reducible exact ih0 _ _ _ _)
      | (with_reducible exact ih1 _ _ _ _ _)
      | (with_reducible exact ih2 _ _ _ _ _ _ _ _ _ _ _ _ _)
      | (with_reducible exact ih3 _ _ _ _ _ _ _ _ _ _ _ _ _ _ _ _ _)
      | (with_reducible exact LeO.refl _)
      | (with_reducible exact LeO.none _)
      | (with_reducible refine LeO.ite ?_ ?_)
      | (with_reducible refine LeO.bind ?_ (fun _ => ?_))
      | exact ih0 _ _ _ _
      | exact ih1 _ _ _ _ _
      | exact ih2 _ _ _ _ _ _ _ _ _ _ _ _ _
      | exact ih3 _ _ _ _ _ _ _ _ _ _ _ _ _ _ _ _ _
      | exact LeO.none _
      | refine LeO.ite ?_ ?_
      | refine LeO.bind ?_ (fun _ => ?_)
set_option maxHeartbeats 8000000 in
set_option maxRecDepth 100000 in
theorem exams_Ranks.calls (k : Nat) (A0 : Option Addr) (c0 : Nat) (l0 : List (S26)) (r1 : List (S28)) (r2 : Int) (w : World) (hr0 : Kd.C k26 w A0 l0.length l0) (hc0 : l0.length ≤ c0) (h : exams_Ranks.f k l0 = some (r1, r2)) :
    Calls Try.prog 15 #[.slice A0 l0.length c0] w fun e w' => ∃ v0_ : Value, e = .returned (.tuple #[v0_, .int .i64 r2]) ∧ Kd.R k28 28 w' w.heap.size (fun _ => True) v0_ r1 ∧ Below w.heap.size w w' := by
  have hu26 := Try.underlying26
  have hu28 := Try.underlying28
  have HR0 := Aside0.mk hr0
  have HC0 := Aside0.mk hc0
  clear hr0 hc0
  have HB := Aside0.mk (Below.refl w.heap.size w)
  have H : (if (l0.length : Int) > 6 then (some (([] : List (S28)), 1)) else (exams_Ranks.l0 k ([] : List (S28)) l0 (l0.length : Int) 0)) = some (r1, r2) := h
  clear h
  by_cases c2 : (l0.length : Int) > 6
  · rw [if_pos c2] at H
    have c2b0 : decide (6 < (l0.length : Int)) = true := decide_eq_true c2
    have c2b1 : decide (6 < l0.length) = true := decide_eq_true (by omega)
    clear c2
    simp only [Option.some.injEq, Prod.mk.injEq] at H
    obtain ⟨rfl, rfl⟩ := H
    go_enter Try.func15, Try.ntmps15
    go_wp2
    go_ret2
    exact ⟨_, by first | rfl | (simp [errW_none, errW_some] <;> rfl) | (simp [*, errW_none, errW_some] <;> rfl), by first | exact Kd.R_nil _ _ _ _ _ | exact Kd.N_nil _ _ _ _ _ | exact Kd.V_nil _ _ _ _ _ | exact Kd.Q_nil _ _ _ _ _ | exact Kd.S_nil _ _ _ _ _, by repeat (first | (with_reducible first | exact HB.out | apply below_alloc | apply pw_below_drewN | apply below_drew1) | exact HB.out)⟩
  · rw [if_neg c2] at H
    have c2b0 : decide (6 < (l0.length : Int)) = false := decide_eq_false c2
    have c2b1 : decide (6 < l0.length) = false := decide_eq_false (by omega)
    clear c2
    have H' := Aside0.mk H
    clear H
    go_enter Try.func15, Try.ntmps15
    go_wp2
    go_loopg [4, 20] k (fun kq v4 v20 w' => ∃ (x4_1 : List (S28)) (x20_1 : Int), v20 = .int .i64 x20_1 ∧ Aside0 (exams_Ranks.l0 kq x4_1 l0 (l0.length : Int) x20_1 = some (r1, r2)) ∧ Aside0 (kq ≤ k) ∧ Aside0 (Kd.R k28 28 w' w.heap.size (fun _ => True) v4 x4_1) ∧ Aside0 (Below w.heap.size w w'))
    case atStart => exact ⟨(([] : List (S28))), (0), (by first | rfl | (simp; done) | (simp [*]; done)), H', ⟨Nat.le_refl _⟩, ⟨by first | exact Kd.R_nil _ _ _ _ _ | exact Kd.N_nil _ _ _ _ _ | exact Kd.V_nil _ _ _ _ _ | exact Kd.Q_nil _ _ _ _ _ | exact Kd.S_nil _ _ _ _ _⟩, ⟨by repeat (first | (with_reducible first | exact HB.out | apply below_alloc | apply pw_below_drewN | apply below_drew1) | exact HB.out)⟩⟩
    case round =>
      clear H'
      try clear c1
      try clear c2
      try clear c2b0
      try clear c2b1
      try clear p2
      obtain ⟨x4_1, x20_1, rfl, HA, HK1, HO_4, HB⟩ := hrel
      cases gk with
      | zero => exact absurd HA.out (by simp [exams_Ranks.l0])
      | succ k1 =>
        have H := HA.out
        clear HA
        simp only [exams_Ranks.l0] at H
        by_cases c3 : x20_1 < (l0.length : Int)
        · rw [if_pos c3] at H
          have c3b0 : decide (x20_1 < (l0.length : Int)) = true := decide_eq_true c3
          clear c3
          by_cases c4 : 0 ≤ x20_1
          · rw [if_pos c4] at H
            have c4b0 : decide (0 ≤ x20_1) = true := decide_eq_true c4
            clear c4
            by_cases c5 : x20_1 < (l0.length : Int)
            · rw [if_pos c5] at H
              have c5b0 : decide (x20_1 < (l0.length : Int)) = true := decide_eq_true c5
              clear c5
              replace H := Option.bind_eq_some_iff.mp H
              obtain ⟨⟨t273, t274, t275⟩, A60, H⟩ := H
              replace H : (if t275 = 0 then (if x4_1.length < 8796093022208 then (exams_Ranks.l0 k1 (x4_1 ++ [(⟨t273, t274⟩ : S28)]) l0 (l0.length : Int) (wrap64 (x20_1 + 1))) else (none)) else (some (([] : List (S28)), t275))) = some (r1, r2) := H
              have A6 := Aside0.mk A60
              clear A60
              by_cases c7 : t275 = 0
              · rw [if_pos c7] at H
                have c7b0 : (t275 == 0) = true := beq_iff_eq.mpr c7
                have c7b1 : (t275 != 0) = false := bne_eq_false_iff_eq.mpr c7
                clear c7
                by_cases c8 : x4_1.length < 8796093022208
                · rw [if_pos c8] at H
                  have LMc8 := Aside0.mk c8
                  clear c8
                  obtain ⟨y277, hy277⟩ : ∃ y_ : List (S28), y_ = (x4_1 ++ [(⟨t273, t274⟩ : S28)]) := ⟨_, rfl⟩
                  replace H : (exams_Ranks.l0 k1 y277 l0 (l0.length : Int) (wrap64 (x20_1 + 1))) = some (r1, r2) := by first | (rw [hy277]; with_reducible exact H) | (have H2_ := (Option.bind_some _ _).symm.trans H; rw [hy277]; with_reducible exact H2_) | (have H2_ := (Option.bind_some _ _).symm.trans H; with_reducible exact H2_) | with_reducible exact H | (rw [hy277]; exact H) | exact H
                  have Ny277 := Aside0.mk hy277
                  clear hy277
                  have H' := Aside0.mk H
                  clear H
                  have p271 : 0 ≤ (x20_1 : Int) := of_decide_eq_true (by first | (with_reducible assumption) | assumption)
                  have q271 : x20_1 < (l0.length : Int) := of_decide_eq_true (by first | (with_reducible assumption) | assumption)
                  obtain ⟨ad271, A271_0, c271_0, A271_1, c271_1, A271_3, c271_3, e271, hx271_0, hx271_1, hx271_2, hx271_3, hl271_0, hi271_0, hl271_1, hi271_1, hl271_3, hi271_3⟩ := at_T26 HR0.out x20_1 p271 q271
                  cases e271
                  replace hx271_0 := (HB.out.cell (World.block_lt_of_cell? w _ hx271_0)).trans hx271_0
                  replace hx271_1 := (HB.out.cell (World.block_lt_of_cell? w _ hx271_1)).trans hx271_1
                  replace hx271_2 := (HB.out.cell (World.block_lt_of_cell? w _ hx271_2)).trans hx271_2
                  replace hx271_3 := (HB.out.cell (World.block_lt_of_cell? w _ hx271_3)).trans hx271_3
                  have HR271_0 := Aside0.mk hi271_0
                  have HC271_0 := Aside0.mk hl271_0
                  clear hi271_0 hl271_0
                  have HR271_1 := Aside0.mk hi271_1
                  have HC271_1 := Aside0.mk hl271_1
                  clear hi271_1 hl271_1
                  have HR271_3 := Aside0.mk hi271_3
                  have HC271_3 := Aside0.mk hl271_3
                  clear hi271_3 hl271_3
                  replace p271 := eq_true p271
                  replace q271 := eq_true q271
                  go_wp2_with (first | ((with_reducible refine gate_dst (N := 7) rfl ?_); refine box_event ?hg (N := 7) ?hd (cs := #[.slice none 0 0, .slice none 0 0, .int .i64 0, .slice none 0 0]) (t := 26) ?hr ?_; (case hd => rfl); (case hg => rfl); (case hr => first | (go_simp; done) | (go_simp; rfl)); intro gb272 hg w9 hbox hb; have n0_ := Aside0.mk (Kd.R_below (by (with_reducible repeat (first | apply Kd.R_alloc | apply Kd.R_drewN | apply Kd.R_drew)); exact HO_4.out) hb); have n1_ := Aside0.mk (below_step (by repeat (first | (with_reducible first | exact HB.out | apply below_alloc | apply pw_below_drewN | apply below_drew1) | exact HB.out)) hb); have n2_ := Aside0.mk (hbox); have n3_ := Aside0.mk ((by rw [hg]; exact (below_size (by repeat (first | (with_reducible first | exact HB.out | apply below_alloc | apply pw_below_drewN | apply below_drew1) | exact HB.out))) : w.heap.size ≤ gb272)); have n4_ := Aside0.mk ((by rw [hg]; exact (below_size (by repeat (first | (with_reducible first | exact HB.out | apply below_alloc | apply pw_below_drewN | apply below_drew1) | exact HB.out))) : w.heap.size ≤ gb272)); clear HO_4; clear HB; have HO_4 := n0_; have HB := n1_; have BK272 := n2_; have GW272 := n3_; have GE272 := n4_; clear n0_ n1_ n2_ n3_ n4_; clear hb hbox hg; have hcz10_0 : w9.cell? ⟨gb272, 0, none⟩ = some (.slice none 0 0) := (blk_cell BK272.out 0).trans rfl; have hcz10_1 : w9.cell? ⟨gb272, 1, none⟩ = some (.slice none 0 0) := (blk_cell BK272.out 1).trans rfl; have hcz10_2 : w9.cell? ⟨gb272, 2, none⟩ = some (.int .i64 0) := (blk_cell BK272.out 2).trans rfl; have hcz10_3 : w9.cell? ⟨gb272, 3, none⟩ = some (.slice none 0 0) := (blk_cell BK272.out 3).trans rfl; have hfz10_0 := blk_frozen BK272.out 0; have hfz10_1 := blk_frozen BK272.out 1; have hfz10_2 := blk_frozen BK272.out 2; have hfz10_3 := blk_frozen BK272.out 3) | ((with_reducible refine gate_callee (f := 9) rfl ?_); refine goesL_ (some 26) rfl rfl Try.func9 (by kernel_rfl) rfl #[.agg #[.slice A271_0 ((rd_T26 l0 x20_1).f0).length c271_0, .slice A271_1 ((rd_T26 l0 x20_1).f1).length c271_1, .int .i64 ((rd_T26 l0 x20_1).f2), .slice A271_3 ((rd_T26 l0 x20_1).f3).length c271_3]] rfl (by (try simp only [List.map_toArray, List.map_cons, List.map_nil]); first | done | rfl | (simp only [List.length_drop, List.length_take]; rfl)) ?_; (with_reducible refine (exams_Range.calls _ _ ((rd_T26 l0 x20_1).f0) _ _ ((rd_T26 l0 x20_1).f1) ((rd_T26 l0 x20_1).f2) _ _ ((rd_T26 l0 x20_1).f3) t273 t274 t275 _ ?side1 ?side2 ?side3 ?side4 ?side5 ?side6 A6.out).mono ?_); (case side1 => exact Kd.C_below HR271_0.out (by repeat (first | (with_reducible first | exact HB.out | apply below_alloc | apply pw_below_drewN | apply below_drew1 | refine below_set ?_ GE272.out) | exact HB.out))); (case side2 => exact HC271_0.out); (case side3 => exact Kd.C_below HR271_1.out (by repeat (first | (with_reducible first | exact HB.out | apply below_alloc | apply pw_below_drewN | apply below_drew1 | refine below_set ?_ GE272.out) | exact HB.out))); (case side4 => exact HC271_1.out); (case side5 => exact Kd.C_below HR271_3.out (by repeat (first | (with_reducible first | exact HB.out | apply below_alloc | apply pw_below_drewN | apply below_drew1 | refine below_set ?_ GE272.out) | exact HB.out))); (case side6 => exact HC271_3.out); rintro e w11 ⟨rfl, hb⟩; refine ⟨_, rfl, ?_⟩; have n0_ := Aside0.mk (Kd.R_below (by (with_reducible repeat (first | apply Kd.R_alloc | apply Kd.R_drewN | apply Kd.R_drew)); exact (Kd.R_mono (Kd.R_far (p := ⟨gb272, 3, none⟩) (Kd.R_far (p := ⟨gb272, 2, none⟩) (Kd.R_far (p := ⟨gb272, 1, none⟩) (Kd.R_far (p := ⟨gb272, 0, none⟩) (Kd.R_types HO_4.out BK272.out (by decide)) (fun _ hk => hk.2) (.slice A271_0 ((rd_T26 l0 x20_1).f0).length c271_0)) (fun _ hk => hk.2) (.slice A271_1 ((rd_T26 l0 x20_1).f1).length c271_1)) (fun _ hk => hk.2) (.int .i64 ((rd_T26 l0 x20_1).f2))) (fun _ hk => hk.2) (.slice A271_3 ((rd_T26 l0 x20_1).f3).length c271_3)) (fun _ h_ => h_.1))) hb); have n1_ := Aside0.mk (blk_below (g := gb272) (o := .cells #[.slice A271_0 ((rd_T26 l0 x20_1).f0).length c271_0, .slice A271_1 ((rd_T26 l0 x20_1).f1).length c271_1, .int .i64 ((rd_T26 l0 x20_1).f2), .slice A271_3 ((rd_T26 l0 x20_1).f3).length c271_3] 26 (0, 0)) (by (with_reducible repeat (first | refine blk_drewN ?_ _ | refine blk_drew ?_ | refine blk_alloc ?_ _)); refine blk_put (cs := #[.slice A271_0 ((rd_T26 l0 x20_1).f0).length c271_0, .slice A271_1 ((rd_T26 l0 x20_1).f1).length c271_1, .int .i64 ((rd_T26 l0 x20_1).f2), .slice none 0 0]) ?_ 3 _ rfl; (with_reducible repeat (first | refine blk_drewN ?_ _ | refine blk_drew ?_ | refine blk_alloc ?_ _)); refine blk_put (cs := #[.slice A271_0 ((rd_T26 l0 x20_1).f0).length c271_0, .slice A271_1 ((rd_T26 l0 x20_1).f1).length c271_1, .int .i64 0, .slice none 0 0]) ?_ 2 _ rfl; (with_reducible repeat (first | refine blk_drewN ?_ _ | refine blk_drew ?_ | refine blk_alloc ?_ _)); refine blk_put (cs := #[.slice A271_0 ((rd_T26 l0 x20_1).f0).length c271_0, .slice none 0 0, .int .i64 0, .slice none 0 0]) ?_ 1 _ rfl; (with_reducible repeat (first | refine blk_drewN ?_ _ | refine blk_drew ?_ | refine blk_alloc ?_ _)); refine blk_put (cs := #[.slice none 0 0, .slice none 0 0, .int .i64 0, .slice none 0 0]) ?_ 0 _ rfl; (with_reducible repeat (first | refine blk_drewN ?_ _ | refine blk_drew ?_ | refine blk_alloc ?_ _)); exact BK272.out) hb); have n2_ := Aside0.mk (below_step (by repeat (first | (with_reducible first | exact HB.out | apply below_alloc | apply pw_below_drewN | apply below_drew1 | refine below_set ?_ GE272.out) | exact HB.out)) hb); clear HO_4; clear BK272; clear HB; have HO_4 := n0_; have BK272 := n1_; have HB := n2_; clear n0_ n1_ n2_; (try clear hb); (try clear hb2); (try clear hk); (try clear hi)) | ((with_reducible refine gate_dst (N := 8) rfl ?_); refine box_event ?hg (N := 8) ?hd (cs := #[.int .i64 0, .int .i64 0]) (t := 28) ?hr ?_; (case hd => rfl); (case hg => rfl); (case hr => first | (go_simp; done) | (go_simp; rfl)); intro gb276 hg w12 hbox hb; have n0_ := Aside0.mk (Kd.R_below (Kd.R_elderB (by (with_reducible repeat (first | apply Kd.R_alloc | apply Kd.R_drewN | apply Kd.R_drew)); exact HO_4.out) gb276 (Nat.le_of_eq hg.symm)) hb); have n1_ := Aside0.mk (blk_below (g := gb272) (o := .cells #[.slice A271_0 ((rd_T26 l0 x20_1).f0).length c271_0, .slice A271_1 ((rd_T26 l0 x20_1).f1).length c271_1, .int .i64 ((rd_T26 l0 x20_1).f2), .slice A271_3 ((rd_T26 l0 x20_1).f3).length c271_3] 26 (0, 0)) (by (with_reducible repeat (first | refine blk_drewN ?_ _ | refine blk_drew ?_ | refine blk_alloc ?_ _)); exact BK272.out) hb); have n2_ := Aside0.mk (below_step (by repeat (first | (with_reducible first | exact HB.out | apply below_alloc | apply pw_below_drewN | apply below_drew1 | refine below_set ?_ GE272.out) | exact HB.out)) hb); have n3_ := Aside0.mk (hbox); have n4_ := Aside0.mk ((by rw [hg]; exact (below_size (by repeat (first | (with_reducible first | exact HB.out | apply below_alloc | apply pw_below_drewN | apply below_drew1 | refine below_set ?_ GE272.out) | exact HB.out))) : w.heap.size ≤ gb276)); have n5_ := Aside0.mk ((by rw [hg]; exact (below_size (by repeat (first | (with_reducible first | exact HB.out | apply below_alloc | apply pw_below_drewN | apply below_drew1 | refine below_set ?_ GE272.out) | exact HB.out))) : w.heap.size ≤ gb276)); have n6_ := Aside0.mk ((by rw [hg]; exact Nat.ne_of_lt (blk_lt (g := gb272) (o := .cells #[.slice A271_0 ((rd_T26 l0 x20_1).f0).length c271_0, .slice A271_1 ((rd_T26 l0 x20_1).f1).length c271_1, .int .i64 ((rd_T26 l0 x20_1).f2), .slice A271_3 ((rd_T26 l0 x20_1).f3).length c271_3] 26 (0, 0)) (by (with_reducible repeat (first | refine blk_drewN ?_ _ | refine blk_drew ?_ | refine blk_alloc ?_ _)); exact BK272.out)) : gb272 ≠ gb276)); have n7_ := Aside0.mk ((by rw [hg]; exact Nat.ne_of_gt (blk_lt (g := gb272) (o := .cells #[.slice A271_0 ((rd_T26 l0 x20_1).f0).length c271_0, .slice A271_1 ((rd_T26 l0 x20_1).f1).length c271_1, .int .i64 ((rd_T26 l0 x20_1).f2), .slice A271_3 ((rd_T26 l0 x20_1).f3).length c271_3] 26 (0, 0)) (by (with_reducible repeat (first | refine blk_drewN ?_ _ | refine blk_drew ?_ | refine blk_alloc ?_ _)); exact BK272.out)) : gb276 ≠ gb272)); clear HO_4; clear BK272; clear HB; have HO_4 := n0_; have BK272 := n1_; have HB := n2_; have BK276 := n3_; have GW276 := n4_; have GE276 := n5_; have NB272_276 := n6_; have NB276_272 := n7_; clear n0_ n1_ n2_ n3_ n4_ n5_ n6_ n7_; clear hb hbox hg; have hnb13 := NB276_272.out; have hnc13 := NB272_276.out; have hcz14_0 : w12.cell? ⟨gb276, 0, none⟩ = some (.int .i64 0) := (blk_cell BK276.out 0).trans rfl; have hcz14_1 : w12.cell? ⟨gb276, 1, none⟩ = some (.int .i64 0) := (blk_cell BK276.out 1).trans rfl; have hfz14_0 := blk_frozen BK276.out 0; have hfz14_1 := blk_frozen BK276.out 1) | ((with_reducible refine gate_builtin (b := .append) (xs := #[.tmp 32, .tmp 34]) rfl ?_); at_builtin; refine Kd.R_append k28 (w0 := w) w.heap.size rfl (.tmp 32) (.tmp 34) 46 28 (.agg #[(.int .i64 0), (.int .i64 0)]) 16 rfl Try.underlying46 info28 rfl (by decide) (by omega) u4 x4_1 (⟨t273, t274⟩ : S28) [.int .i64 t273, .int .i64 t274] (fun k_ => k_ ≠ gb276) (fun _ => False) rfl (by first | (go_simp; done) | (go_simp; rfl)) ?aP (fun _ hk => hk.elim) ?aF ?aO ?aB ?aS ?aL ?_; (case aP => exact k28_mkM _ _ _ (⟨t273, t274⟩ : S28)); (case aB => exact (by repeat (first | (with_reducible first | exact HB.out | apply below_alloc | apply pw_below_drewN | apply below_drew1 | refine below_set ?_ GE272.out | refine below_set ?_ GE276.out) | exact HB.out))); (case aF => exact (fun k_ hk => Kd.freshB (g := gb276) (o := .cells #[.int .i64 t273, .int .i64 t274] 28 (0, 0)) (by (with_reducible repeat (first | refine blk_drewN ?_ _ | refine blk_drew ?_ | refine blk_alloc ?_ _)); refine blk_put (cs := #[.int .i64 t273, .int .i64 0]) ?_ 1 _ rfl; (with_reducible repeat (first | refine blk_drewN ?_ _ | refine blk_drew ?_ | refine blk_alloc ?_ _)); refine blk_put (cs := #[.int .i64 0, .int .i64 0]) ?_ 0 _ rfl; (with_reducible repeat (first | refine blk_drewN ?_ _ | refine blk_drew ?_ | refine blk_alloc ?_ _)); exact BK276.out) k_ hk)); (case aO => exact (by (with_reducible repeat (first | apply Kd.R_alloc | apply Kd.R_drewN | apply Kd.R_drew)); exact Kd.R_mono (Kd.R_far (p := ⟨gb276, 1, none⟩) (Kd.R_far (p := ⟨gb276, 0, none⟩) (Kd.R_mono HO_4.out (fun k_ hk => (⟨hk, hk.2⟩ : _ ∧ k_ ≠ gb276))) (fun _ hk => hk.2) (.int .i64 t273)) (fun _ hk => hk.2) (.int .i64 t274)) (fun _ hk => hk.1.2))); (case aS => exact (below_size (by repeat (first | (with_reducible first | exact HB.out | apply below_alloc | apply pw_below_drewN | apply below_drew1 | refine below_set ?_ GE272.out | refine below_set ?_ GE276.out) | exact HB.out)))); (case aL => have := LMc8.out; omega); intro v278 w15 ho hb hg hat; rw [← Ny277.out] at ho; have n0_ := Aside0.mk (blk_grown (g := gb272) (o := .cells #[.slice A271_0 ((rd_T26 l0 x20_1).f0).length c271_0, .slice A271_1 ((rd_T26 l0 x20_1).f1).length c271_1, .int .i64 ((rd_T26 l0 x20_1).f2), .slice A271_3 ((rd_T26 l0 x20_1).f3).length c271_3] 26 (0, 0)) (by (with_reducible repeat (first | refine blk_drewN ?_ _ | refine blk_drew ?_ | refine blk_alloc ?_ _)); refine blk_far ?_ NB272_276.out _; (with_reducible repeat (first | refine blk_drewN ?_ _ | refine blk_drew ?_ | refine blk_alloc ?_ _)); refine blk_far ?_ NB272_276.out _; (with_reducible repeat (first | refine blk_drewN ?_ _ | refine blk_drew ?_ | refine blk_alloc ?_ _)); exact BK272.out) hg (Kd.R_ne HO_4.out BK272.out (by decide))); have n1_ := Aside0.mk (blk_grown (g := gb276) (o := .cells #[.int .i64 t273, .int .i64 t274] 28 (0, 0)) (by (with_reducible repeat (first | refine blk_drewN ?_ _ | refine blk_drew ?_ | refine blk_alloc ?_ _)); refine blk_put (cs := #[.int .i64 t273, .int .i64 0]) ?_ 1 _ rfl; (with_reducible repeat (first | refine blk_drewN ?_ _ | refine blk_drew ?_ | refine blk_alloc ?_ _)); refine blk_put (cs := #[.int .i64 0, .int .i64 0]) ?_ 0 _ rfl; (with_reducible repeat (first | refine blk_drewN ?_ _ | refine blk_drew ?_ | refine blk_alloc ?_ _)); exact BK276.out) hg (Kd.R_away HO_4.out (fun _ hk => hk.2))); have n2_ := Aside0.mk (hb); have n3_ := Aside0.mk (ho); clear BK272; clear BK276; clear HB; clear HO_4; have BK272 := n0_; have BK276 := n1_; have HB := n2_; have HO279 := n3_; clear n0_ n1_ n2_ n3_; clear ho hb hg hat))
                  go_roundg k1
                  case measure => have := HK1.out; omega
                  case rel => exact ⟨(y277), (wrap64 (x20_1 + 1)), (by first | rfl | (simp; done) | (simp [*]; done)), H', ⟨by have := HK1.out; omega⟩, ⟨by (with_reducible repeat (first | apply Kd.R_alloc | apply Kd.R_drewN | apply Kd.R_drew)); exact Kd.R_mono HO279.out (fun _ hk => trivial)⟩, ⟨by repeat (first | (with_reducible first | exact HB.out | apply below_alloc | apply pw_below_drewN | apply below_drew1 | refine below_set ?_ GE272.out | refine below_set ?_ GE276.out) | exact HB.out)⟩⟩
                · rw [if_neg c8] at H
                  exact absurd H (by simp)
              · rw [if_neg c7] at H
                have c7b0 : (t275 == 0) = false := beq_eq_false_iff_ne.mpr c7
                have c7b1 : (t275 != 0) = true := bne_iff_ne.mpr c7
                simp only [Option.some.injEq, Prod.mk.injEq] at H
                obtain ⟨rfl, rfl⟩ := H
                have p271 : 0 ≤ (x20_1 : Int) := of_decide_eq_true (by first | (with_reducible assumption) | assumption)
                have q271 : x20_1 < (l0.length : Int) := of_decide_eq_true (by first | (with_reducible assumption) | assumption)
                obtain ⟨ad271, A271_0, c271_0, A271_1, c271_1, A271_3, c271_3, e271, hx271_0, hx271_1, hx271_2, hx271_3, hl271_0, hi271_0, hl271_1, hi271_1, hl271_3, hi271_3⟩ := at_T26 HR0.out x20_1 p271 q271
                cases e271
                replace hx271_0 := (HB.out.cell (World.block_lt_of_cell? w _ hx271_0)).trans hx271_0
                replace hx271_1 := (HB.out.cell (World.block_lt_of_cell? w _ hx271_1)).trans hx271_1
                replace hx271_2 := (HB.out.cell (World.block_lt_of_cell? w _ hx271_2)).trans hx271_2
                replace hx271_3 := (HB.out.cell (World.block_lt_of_cell? w _ hx271_3)).trans hx271_3
                have HR271_0 := Aside0.mk hi271_0
                have HC271_0 := Aside0.mk hl271_0
                clear hi271_0 hl271_0
                have HR271_1 := Aside0.mk hi271_1
                have HC271_1 := Aside0.mk hl271_1
                clear hi271_1 hl271_1
                have HR271_3 := Aside0.mk hi271_3
                have HC271_3 := Aside0.mk hl271_3
                clear hi271_3 hl271_3
                replace p271 := eq_true p271
                replace q271 := eq_true q271
                go_wp2_with (first | ((with_reducible refine gate_dst (N := 7) rfl ?_); refine box_event ?hg (N := 7) ?hd (cs := #[.slice none 0 0, .slice none 0 0, .int .i64 0, .slice none 0 0]) (t := 26) ?hr ?_; (case hd => rfl); (case hg => rfl); (case hr => first | (go_simp; done) | (go_simp; rfl)); intro gb272 hg w16 hbox hb; have n0_ := Aside0.mk (Kd.R_below (by (with_reducible repeat (first | apply Kd.R_alloc | apply Kd.R_drewN | apply Kd.R_drew)); exact HO_4.out) hb); have n1_ := Aside0.mk (below_step (by repeat (first | (with_reducible first | exact HB.out | apply below_alloc | apply pw_below_drewN | apply below_drew1) | exact HB.out)) hb); have n2_ := Aside0.mk (hbox); have n3_ := Aside0.mk ((by rw [hg]; exact (below_size (by repeat (first | (with_reducible first | exact HB.out | apply below_alloc | apply pw_below_drewN | apply below_drew1) | exact HB.out))) : w.heap.size ≤ gb272)); have n4_ := Aside0.mk ((by rw [hg]; exact (below_size (by repeat (first | (with_reducible first | exact HB.out | apply below_alloc | apply pw_below_drewN | apply below_drew1) | exact HB.out))) : w.heap.size ≤ gb272)); clear HO_4; clear HB; have HO_4 := n0_; have HB := n1_; have BK272 := n2_; have GW272 := n3_; have GE272 := n4_; clear n0_ n1_ n2_ n3_ n4_; clear hb hbox hg; have hcz17_0 : w16.cell? ⟨gb272, 0, none⟩ = some (.slice none 0 0) := (blk_cell BK272.out 0).trans rfl; have hcz17_1 : w16.cell? ⟨gb272, 1, none⟩ = some (.slice none 0 0) := (blk_cell BK272.out 1).trans rfl; have hcz17_2 : w16.cell? ⟨gb272, 2, none⟩ = some (.int .i64 0) := (blk_cell BK272.out 2).trans rfl; have hcz17_3 : w16.cell? ⟨gb272, 3, none⟩ = some (.slice none 0 0) := (blk_cell BK272.out 3).trans rfl; have hfz17_0 := blk_frozen BK272.out 0; have hfz17_1 := blk_frozen BK272.out 1; have hfz17_2 := blk_frozen BK272.out 2; have hfz17_3 := blk_frozen BK272.out 3) | ((with_reducible refine gate_callee (f := 9) rfl ?_); refine goesL_ (some 26) rfl rfl Try.func9 (by kernel_rfl) rfl #[.agg #[.slice A271_0 ((rd_T26 l0 x20_1).f0).length c271_0, .slice A271_1 ((rd_T26 l0 x20_1).f1).length c271_1, .int .i64 ((rd_T26 l0 x20_1).f2), .slice A271_3 ((rd_T26 l0 x20_1).f3).length c271_3]] rfl (by (try simp only [List.map_toArray, List.map_cons, List.map_nil]); first | done | rfl | (simp only [List.length_drop, List.length_take]; rfl)) ?_; (with_reducible refine (exams_Range.calls _ _ ((rd_T26 l0 x20_1).f0) _ _ ((rd_T26 l0 x20_1).f1) ((rd_T26 l0 x20_1).f2) _ _ ((rd_T26 l0 x20_1).f3) t273 t274 t275 _ ?side1 ?side2 ?side3 ?side4 ?side5 ?side6 A6.out).mono ?_); (case side1 => exact Kd.C_below HR271_0.out (by repeat (first | (with_reducible first | exact HB.out | apply below_alloc | apply pw_below_drewN | apply below_drew1 | refine below_set ?_ GE272.out) | exact HB.out))); (case side2 => exact HC271_0.out); (case side3 => exact Kd.C_below HR271_1.out (by repeat (first | (with_reducible first | exact HB.out | apply below_alloc | apply pw_below_drewN | apply below_drew1 | refine below_set ?_ GE272.out) | exact HB.out))); (case side4 => exact HC271_1.out); (case side5 => exact Kd.C_below HR271_3.out (by repeat (first | (with_reducible first | exact HB.out | apply below_alloc | apply pw_below_drewN | apply below_drew1 | refine below_set ?_ GE272.out) | exact HB.out))); (case side6 => exact HC271_3.out); rintro e w18 ⟨rfl, hb⟩; refine ⟨_, rfl, ?_⟩; have n0_ := Aside0.mk (Kd.R_below (by (with_reducible repeat (first | apply Kd.R_alloc | apply Kd.R_drewN | apply Kd.R_drew)); exact (Kd.R_mono (Kd.R_far (p := ⟨gb272, 3, none⟩) (Kd.R_far (p := ⟨gb272, 2, none⟩) (Kd.R_far (p := ⟨gb272, 1, none⟩) (Kd.R_far (p := ⟨gb272, 0, none⟩) (Kd.R_types HO_4.out BK272.out (by decide)) (fun _ hk => hk.2) (.slice A271_0 ((rd_T26 l0 x20_1).f0).length c271_0)) (fun _ hk => hk.2) (.slice A271_1 ((rd_T26 l0 x20_1).f1).length c271_1)) (fun _ hk => hk.2) (.int .i64 ((rd_T26 l0 x20_1).f2))) (fun _ hk => hk.2) (.slice A271_3 ((rd_T26 l0 x20_1).f3).length c271_3)) (fun _ h_ => h_.1))) hb); have n1_ := Aside0.mk (blk_below (g := gb272) (o := .cells #[.slice A271_0 ((rd_T26 l0 x20_1).f0).length c271_0, .slice A271_1 ((rd_T26 l0 x20_1).f1).length c271_1, .int .i64 ((rd_T26 l0 x20_1).f2), .slice A271_3 ((rd_T26 l0 x20_1).f3).length c271_3] 26 (0, 0)) (by (with_reducible repeat (first | refine blk_drewN ?_ _ | refine blk_drew ?_ | refine blk_alloc ?_ _)); refine blk_put (cs := #[.slice A271_0 ((rd_T26 l0 x20_1).f0).length c271_0, .slice A271_1 ((rd_T26 l0 x20_1).f1).length c271_1, .int .i64 ((rd_T26 l0 x20_1).f2), .slice none 0 0]) ?_ 3 _ rfl; (with_reducible repeat (first | refine blk_drewN ?_ _ | refine blk_drew ?_ | refine blk_alloc ?_ _)); refine blk_put (cs := #[.slice A271_0 ((rd_T26 l0 x20_1).f0).length c271_0, .slice A271_1 ((rd_T26 l0 x20_1).f1).length c271_1, .int .i64 0, .slice none 0 0]) ?_ 2 _ rfl; (with_reducible repeat (first | refine blk_drewN ?_ _ | refine blk_drew ?_ | refine blk_alloc ?_ _)); refine blk_put (cs := #[.slice A271_0 ((rd_T26 l0 x20_1).f0).length c271_0, .slice none 0 0, .int .i64 0, .slice none 0 0]) ?_ 1 _ rfl; (with_reducible repeat (first | refine blk_drewN ?_ _ | refine blk_drew ?_ | refine blk_alloc ?_ _)); refine blk_put (cs := #[.slice none 0 0, .slice none 0 0, .int .i64 0, .slice none 0 0]) ?_ 0 _ rfl; (with_reducible repeat (first | refine blk_drewN ?_ _ | refine blk_drew ?_ | refine blk_alloc ?_ _)); exact BK272.out) hb); have n2_ := Aside0.mk (below_step (by repeat (first | (with_reducible first | exact HB.out | apply below_alloc | apply pw_below_drewN | apply below_drew1 | refine below_set ?_ GE272.out) | exact HB.out)) hb); clear HO_4; clear BK272; clear HB; have HO_4 := n0_; have BK272 := n1_; have HB := n2_; clear n0_ n1_ n2_; (try clear hb); (try clear hb2); (try clear hk); (try clear hi)) | ((with_reducible refine gate_dst (N := 8) rfl ?_); refine box_event ?hg (N := 8) ?hd (cs := #[.int .i64 0, .int .i64 0]) (t := 28) ?hr ?_; (case hd => rfl); (case hg => rfl); (case hr => first | (go_simp; done) | (go_simp; rfl)); intro gb276 hg w19 hbox hb; have n0_ := Aside0.mk (Kd.R_below (Kd.R_elderB (by (with_reducible repeat (first | apply Kd.R_alloc | apply Kd.R_drewN | apply Kd.R_drew)); exact HO_4.out) gb276 (Nat.le_of_eq hg.symm)) hb); have n1_ := Aside0.mk (blk_below (g := gb272) (o := .cells #[.slice A271_0 ((rd_T26 l0 x20_1).f0).length c271_0, .slice A271_1 ((rd_T26 l0 x20_1).f1).length c271_1, .int .i64 ((rd_T26 l0 x20_1).f2), .slice A271_3 ((rd_T26 l0 x20_1).f3).length c271_3] 26 (0, 0)) (by (with_reducible repeat (first | refine blk_drewN ?_ _ | refine blk_drew ?_ | refine blk_alloc ?_ _)); exact BK272.out) hb); have n2_ := Aside0.mk (below_step (by repeat (first | (with_reducible first | exact HB.out | apply below_alloc | apply pw_below_drewN | apply below_drew1 | refine below_set ?_ GE272.out) | exact HB.out)) hb); have n3_ := Aside0.mk (hbox); have n4_ := Aside0.mk ((by rw [hg]; exact (below_size (by repeat (first | (with_reducible first | exact HB.out | apply below_alloc | apply pw_below_drewN | apply below_drew1 | refine below_set ?_ GE272.out) | exact HB.out))) : w.heap.size ≤ gb276)); have n5_ := Aside0.mk ((by rw [hg]; exact (below_size (by repeat (first | (with_reducible first | exact HB.out | apply below_alloc | apply pw_below_drewN | apply below_drew1 | refine below_set ?_ GE272.out) | exact HB.out))) : w.heap.size ≤ gb276)); have n6_ := Aside0.mk ((by rw [hg]; exact Nat.ne_of_lt (blk_lt (g := gb272) (o := .cells #[.slice A271_0 ((rd_T26 l0 x20_1).f0).length c271_0, .slice A271_1 ((rd_T26 l0 x20_1).f1).length c271_1, .int .i64 ((rd_T26 l0 x20_1).f2), .slice A271_3 ((rd_T26 l0 x20_1).f3).length c271_3] 26 (0, 0)) (by (with_reducible repeat (first | refine blk_drewN ?_ _ | refine blk_drew ?_ | refine blk_alloc ?_ _)); exact BK272.out)) : gb272 ≠ gb276)); have n7_ := Aside0.mk ((by rw [hg]; exact Nat.ne_of_gt (blk_lt (g := gb272) (o := .cells #[.slice A271_0 ((rd_T26 l0 x20_1).f0).length c271_0, .slice A271_1 ((rd_T26 l0 x20_1).f1).length c271_1, .int .i64 ((rd_T26 l0 x20_1).f2), .slice A271_3 ((rd_T26 l0 x20_1).f3).length c271_3] 26 (0, 0)) (by (with_reducible repeat (first | refine blk_drewN ?_ _ | refine blk_drew ?_ | refine blk_alloc ?_ _)); exact BK272.out)) : gb276 ≠ gb272)); clear HO_4; clear BK272; clear HB; have HO_4 := n0_; have BK272 := n1_; have HB := n2_; have BK276 := n3_; have GW276 := n4_; have GE276 := n5_; have NB272_276 := n6_; have NB276_272 := n7_; clear n0_ n1_ n2_ n3_ n4_ n5_ n6_ n7_; clear hb hbox hg; have hnb20 := NB276_272.out; have hnc20 := NB272_276.out; have hcz21_0 : w19.cell? ⟨gb276, 0, none⟩ = some (.int .i64 0) := (blk_cell BK276.out 0).trans rfl; have hcz21_1 : w19.cell? ⟨gb276, 1, none⟩ = some (.int .i64 0) := (blk_cell BK276.out 1).trans rfl; have hfz21_0 := blk_frozen BK276.out 0; have hfz21_1 := blk_frozen BK276.out 1))
                go_ret2
                exact ⟨_, by first | rfl | (simp [errW_none, errW_some] <;> rfl) | (simp [*, errW_none, errW_some] <;> rfl), by first | exact Kd.R_nil _ _ _ _ _ | exact Kd.N_nil _ _ _ _ _ | exact Kd.V_nil _ _ _ _ _ | exact Kd.Q_nil _ _ _ _ _ | exact Kd.S_nil _ _ _ _ _, by repeat (first | (with_reducible first | exact HB.out | apply below_alloc | apply pw_below_drewN | apply below_drew1 | refine below_set ?_ GE272.out | refine below_set ?_ GE276.out) | exact HB.out)⟩
            · rw [if_neg c5] at H
              exact absurd H (by simp)
          · rw [if_neg c4] at H
            exact absurd H (by simp)
        · rw [if_neg c3] at H
          have c3b0 : decide (x20_1 < (l0.length : Int)) = false := decide_eq_false c3
          clear c3
          have H' := Aside0.mk H
          clear H
          obtain ⟨Ao22, co22, eo22⟩ := Kd.R_slice HO_4.out
          subst eo22
          go_wp2
          go_loopg [5, 39] k1 (fun kq v5 v39 w' => ∃ (x5_2 : List (S28)) (x39_2 : Int), v39 = .int .i64 x39_2 ∧ Aside0 (exams_Ranks.l1 kq x4_1 x5_2 x4_1 (x4_1.length : Int) x39_2 = some (r1, r2)) ∧ Aside0 (kq ≤ k1) ∧ Aside0 (Kd.R k28 28 w' w.heap.size (fun k_ => some k_ ≠ (v5 : Value).ownBlock) (.slice Ao22 x4_1.length co22) x4_1) ∧ Aside0 (Kd.R k28 28 w' w.heap.size (fun k_ => some k_ ≠ ((.slice Ao22 x4_1.length co22) : Value).ownBlock ∧ some k_ ≠ ((.slice Ao22 x4_1.length co22) : Value).ownBlock) v5 x5_2) ∧ Aside0 (Kd.R k28 28 w' w.heap.size (fun k_ => some k_ ≠ (v5 : Value).ownBlock) (.slice Ao22 x4_1.length co22) x4_1) ∧ Aside0 (Below w.heap.size w w'))
          case atStart => exact ⟨(([] : List (S28))), (0), (by first | rfl | (simp; done) | (simp [*]; done)), H', ⟨Nat.le_refl _⟩, ⟨by (with_reducible repeat (first | apply Kd.R_alloc | apply Kd.R_drewN | apply Kd.R_drew)); exact Kd.R_mono HO_4.out (fun _ hk => (by simp [Value.ownBlock]))⟩, ⟨by first | exact Kd.R_nil _ _ _ _ _ | exact Kd.N_nil _ _ _ _ _ | exact Kd.V_nil _ _ _ _ _ | exact Kd.Q_nil _ _ _ _ _ | exact Kd.S_nil _ _ _ _ _⟩, ⟨by (with_reducible repeat (first | apply Kd.R_alloc | apply Kd.R_drewN | apply Kd.R_drew)); exact Kd.R_mono HO_4.out (fun _ hk => (by simp [Value.ownBlock]))⟩, ⟨by repeat (first | (with_reducible first | exact HB.out | apply below_alloc | apply pw_below_drewN | apply below_drew1) | exact HB.out)⟩⟩
          case round =>
            clear H'
            try clear c1
            try clear c2
            try clear c2b0
            try clear c2b1
            try clear p2
            try clear q2
            try clear hx2
            try clear c3
            try clear c3b0
            try clear c4
            try clear c4b0
            try clear c5
            try clear c5b0
            try clear p6
            try clear c7
            try clear c7b0
            try clear c7b1
            try clear c8
            try clear c9
            try clear c13
            try clear c15
            try clear c20
            try clear hcz10_0
            try clear hcz10_1
            try clear hcz10_2
            try clear hcz10_3
            try clear hcz14_0
            try clear hcz14_1
            try clear hcz17_0
            try clear hcz17_1
            try clear hcz17_2
            try clear hcz17_3
            try clear hcz21_0
            try clear hcz21_1
            try clear hfz10_0
            try clear hfz10_1
            try clear hfz10_2
            try clear hfz10_3
            try clear hfz14_0
            try clear hfz14_1
            try clear hfz17_0
            try clear hfz17_1
            try clear hfz17_2
            try clear hfz17_3
            try clear hfz21_0
            try clear hfz21_1
            try clear hx271_0
            try clear hx271_1
            try clear hx271_2
            try clear hx271_3
            try clear p2
            try clear p271
            try clear q271
            obtain ⟨x5_2, x39_2, rfl, HA, HK2, HO_4, HO_5, HO_37, HB⟩ := hrel
            cases gk with
            | zero => exact absurd HA.out (by simp [exams_Ranks.l1])
            | succ k2 =>
              have H := HA.out
              clear HA
              simp only [exams_Ranks.l1] at H
              by_cases c23 : x39_2 < (x4_1.length : Int)
              · rw [if_pos c23] at H
                have c23b0 : decide (x39_2 < (x4_1.length : Int)) = true := decide_eq_true c23
                clear c23
                by_cases c24 : 0 ≤ x39_2
                · rw [if_pos c24] at H
                  have c24b0 : decide (0 ≤ x39_2) = true := decide_eq_true c24
                  clear c24
                  by_cases c25 : x39_2 < (x4_1.length : Int)
                  · rw [if_pos c25] at H
                    have c25b0 : decide (x39_2 < (x4_1.length : Int)) = true := decide_eq_true c25
                    clear c25
                    have H' := Aside0.mk H
                    clear H
                    have p280 : 0 ≤ (x39_2 : Int) := of_decide_eq_true (by first | (with_reducible assumption) | assumption)
                    have q280 : x39_2 < (x4_1.length : Int) := of_decide_eq_true (by first | (with_reducible assumption) | assumption)
                    obtain ⟨ad280, e280, hx280_0, hx280_1⟩ := at_T28 (Kd.R_reads' HO_37.out).2.2 x39_2 p280 q280
                    cases e280
                    replace p280 := eq_true p280
                    replace q280 := eq_true q280
                    go_wp2_with (first | ((with_reducible refine gate_dst (N := 11) rfl ?_); refine box_event ?hg (N := 11) ?hd (cs := #[.int .i64 0, .int .i64 0]) (t := 28) ?hr ?_; (case hd => rfl); (case hg => rfl); (case hr => first | (go_simp; done) | (go_simp; rfl)); intro gb281 hg w26 hbox hb; have n0_ := Aside0.mk (Kd.R_below (Kd.R_elderB (by (with_reducible repeat (first | apply Kd.R_alloc | apply Kd.R_drewN | apply Kd.R_drew)); exact HO_4.out) gb281 (Nat.le_of_eq hg.symm)) hb); have n1_ := Aside0.mk (Kd.R_below (Kd.R_elderB (by (with_reducible repeat (first | apply Kd.R_alloc | apply Kd.R_drewN | apply Kd.R_drew)); exact HO_5.out) gb281 (Nat.le_of_eq hg.symm)) hb); have n2_ := Aside0.mk (Kd.R_below (Kd.R_elderB (by (with_reducible repeat (first | apply Kd.R_alloc | apply Kd.R_drewN | apply Kd.R_drew)); exact HO_37.out) gb281 (Nat.le_of_eq hg.symm)) hb); have n3_ := Aside0.mk (below_step (by repeat (first | (with_reducible first | exact HB.out | apply below_alloc | apply pw_below_drewN | apply below_drew1) | exact HB.out)) hb); have n4_ := Aside0.mk (hbox); have n5_ := Aside0.mk ((by rw [hg]; exact (below_size (by repeat (first | (with_reducible first | exact HB.out | apply below_alloc | apply pw_below_drewN | apply below_drew1) | exact HB.out))) : w.heap.size ≤ gb281)); have n6_ := Aside0.mk ((by rw [hg]; exact (below_size (by repeat (first | (with_reducible first | exact HB.out | apply below_alloc | apply pw_below_drewN | apply below_drew1) | exact HB.out))) : w.heap.size ≤ gb281)); clear HO_4; clear HO_5; clear HO_37; clear HB; have HO_4 := n0_; have HO_5 := n1_; have HO_37 := n2_; have HB := n3_; have BK281 := n4_; have GW281 := n5_; have GE281 := n6_; clear n0_ n1_ n2_ n3_ n4_ n5_ n6_; clear hb hbox hg; have hcz27_0 : w26.cell? ⟨gb281, 0, none⟩ = some (.int .i64 0) := (blk_cell BK281.out 0).trans rfl; have hcz27_1 : w26.cell? ⟨gb281, 1, none⟩ = some (.int .i64 0) := (blk_cell BK281.out 1).trans rfl; have hfz27_0 := blk_frozen BK281.out 0; have hfz27_1 := blk_frozen BK281.out 1) | ((with_reducible refine gate_dst (N := 12) rfl ?_); refine box_event ?hg (N := 12) ?hd (cs := #[.int .i64 0, .int .i64 0]) (t := 28) ?hr ?_; (case hd => rfl); (case hg => rfl); (case hr => first | (go_simp; done) | (go_simp; rfl)); intro gb282 hg w28 hbox hb; have n0_ := Aside0.mk (Kd.R_below (Kd.R_elderB (by (with_reducible repeat (first | apply Kd.R_alloc | apply Kd.R_drewN | apply Kd.R_drew)); exact (Kd.R_mono (Kd.R_far (p := ⟨gb281, 1, none⟩) (Kd.R_far (p := ⟨gb281, 0, none⟩) (Kd.R_mono HO_4.out (fun k_ hk => (⟨hk, hk.2⟩ : _ ∧ k_ ≠ gb281))) (fun _ hk => hk.2) (.int .i64 ((rd_T28 x4_1 x39_2).f0))) (fun _ hk => hk.2) (.int .i64 ((rd_T28 x4_1 x39_2).f1))) (fun _ h_ => h_.1))) gb282 (Nat.le_of_eq hg.symm)) hb); have n1_ := Aside0.mk (Kd.R_below (Kd.R_elderB (by (with_reducible repeat (first | apply Kd.R_alloc | apply Kd.R_drewN | apply Kd.R_drew)); exact (Kd.R_mono (Kd.R_far (p := ⟨gb281, 1, none⟩) (Kd.R_far (p := ⟨gb281, 0, none⟩) (Kd.R_mono HO_5.out (fun k_ hk => (⟨hk, hk.2⟩ : _ ∧ k_ ≠ gb281))) (fun _ hk => hk.2) (.int .i64 ((rd_T28 x4_1 x39_2).f0))) (fun _ hk => hk.2) (.int .i64 ((rd_T28 x4_1 x39_2).f1))) (fun _ h_ => h_.1))) gb282 (Nat.le_of_eq hg.symm)) hb); have n2_ := Aside0.mk (Kd.R_below (Kd.R_elderB (by (with_reducible repeat (first | apply Kd.R_alloc | apply Kd.R_drewN | apply Kd.R_drew)); exact (Kd.R_mono (Kd.R_far (p := ⟨gb281, 1, none⟩) (Kd.R_far (p := ⟨gb281, 0, none⟩) (Kd.R_mono HO_37.out (fun k_ hk => (⟨hk, hk.2⟩ : _ ∧ k_ ≠ gb281))) (fun _ hk => hk.2) (.int .i64 ((rd_T28 x4_1 x39_2).f0))) (fun _ hk => hk.2) (.int .i64 ((rd_T28 x4_1 x39_2).f1))) (fun _ h_ => h_.1))) gb282 (Nat.le_of_eq hg.symm)) hb); have n3_ := Aside0.mk (blk_below (g := gb281) (o := .cells #[.int .i64 ((rd_T28 x4_1 x39_2).f0), .int .i64 ((rd_T28 x4_1 x39_2).f1)] 28 (0, 0)) (by (with_reducible repeat (first | refine blk_drewN ?_ _ | refine blk_drew ?_ | refine blk_alloc ?_ _)); refine blk_put (cs := #[.int .i64 ((rd_T28 x4_1 x39_2).f0), .int .i64 0]) ?_ 1 _ rfl; (with_reducible repeat (first | refine blk_drewN ?_ _ | refine blk_drew ?_ | refine blk_alloc ?_ _)); refine blk_put (cs := #[.int .i64 0, .int .i64 0]) ?_ 0 _ rfl; (with_reducible repeat (first | refine blk_drewN ?_ _ | refine blk_drew ?_ | refine blk_alloc ?_ _)); exact BK281.out) hb); have n4_ := Aside0.mk (below_step (by repeat (first | (with_reducible first | exact HB.out | apply below_alloc | apply pw_below_drewN | apply below_drew1 | refine below_set ?_ GE281.out) | exact HB.out)) hb); have n5_ := Aside0.mk (hbox); have n6_ := Aside0.mk ((by rw [hg]; exact (below_size (by repeat (first | (with_reducible first | exact HB.out | apply below_alloc | apply pw_below_drewN | apply below_drew1 | refine below_set ?_ GE281.out) | exact HB.out))) : w.heap.size ≤ gb282)); have n7_ := Aside0.mk ((by rw [hg]; exact (below_size (by repeat (first | (with_reducible first | exact HB.out | apply below_alloc | apply pw_below_drewN | apply below_drew1 | refine below_set ?_ GE281.out) | exact HB.out))) : w.heap.size ≤ gb282)); have n8_ := Aside0.mk ((by rw [hg]; exact Nat.ne_of_lt (blk_lt (g := gb281) (o := .cells #[.int .i64 ((rd_T28 x4_1 x39_2).f0), .int .i64 ((rd_T28 x4_1 x39_2).f1)] 28 (0, 0)) (by (with_reducible repeat (first | refine blk_drewN ?_ _ | refine blk_drew ?_ | refine blk_alloc ?_ _)); refine blk_put (cs := #[.int .i64 ((rd_T28 x4_1 x39_2).f0), .int .i64 0]) ?_ 1 _ rfl; (with_reducible repeat (first | refine blk_drewN ?_ _ | refine blk_drew ?_ | refine blk_alloc ?_ _)); refine blk_put (cs := #[.int .i64 0, .int .i64 0]) ?_ 0 _ rfl; (with_reducible repeat (first | refine blk_drewN ?_ _ | refine blk_drew ?_ | refine blk_alloc ?_ _)); exact BK281.out)) : gb281 ≠ gb282)); have n9_ := Aside0.mk ((by rw [hg]; exact Nat.ne_of_gt (blk_lt (g := gb281) (o := .cells #[.int .i64 ((rd_T28 x4_1 x39_2).f0), .int .i64 ((rd_T28 x4_1 x39_2).f1)] 28 (0, 0)) (by (with_reducible repeat (first | refine blk_drewN ?_ _ | refine blk_drew ?_ | refine blk_alloc ?_ _)); refine blk_put (cs := #[.int .i64 ((rd_T28 x4_1 x39_2).f0), .int .i64 0]) ?_ 1 _ rfl; (with_reducible repeat (first | refine blk_drewN ?_ _ | refine blk_drew ?_ | refine blk_alloc ?_ _)); refine blk_put (cs := #[.int .i64 0, .int .i64 0]) ?_ 0 _ rfl; (with_reducible repeat (first | refine blk_drewN ?_ _ | refine blk_drew ?_ | refine blk_alloc ?_ _)); exact BK281.out)) : gb282 ≠ gb281)); clear HO_4; clear HO_5; clear HO_37; clear BK281; clear HB; have HO_4 := n0_; have HO_5 := n1_; have HO_37 := n2_; have BK281 := n3_; have HB := n4_; have BK282 := n5_; have GW282 := n6_; have GE282 := n7_; have NB281_282 := n8_; have NB282_281 := n9_; clear n0_ n1_ n2_ n3_ n4_ n5_ n6_ n7_ n8_ n9_; clear hb hbox hg; have hnb29 := NB282_281.out; have hnc29 := NB281_282.out; have hcz30_0 : w28.cell? ⟨gb282, 0, none⟩ = some (.int .i64 0) := (blk_cell BK282.out 0).trans rfl; have hcz30_1 : w28.cell? ⟨gb282, 1, none⟩ = some (.int .i64 0) := (blk_cell BK282.out 1).trans rfl; have hfz30_0 := blk_frozen BK282.out 0; have hfz30_1 := blk_frozen BK282.out 1))
                    go_loopg [47] k2 (fun kq v47 w' => ∃ (x47_3 : Int) (x283000_3 : Int) (x283001_3 : Int), v47 = .int .i64 x47_3 ∧ Aside0 (exams_Ranks.l2 kq x4_1 x5_2 x39_2 x4_1 (x4_1.length : Int) x39_2 x4_1 (x4_1.length : Int) x47_3 ((rd_T28 x4_1 x39_2).f0) ((rd_T28 x4_1 x39_2).f1) x283000_3 x283001_3 = some (r1, r2)) ∧ Aside0 (kq ≤ k2) ∧ Aside0 (Kd.R k28 28 w' w.heap.size (fun k_ => some k_ ≠ (u5 : Value).ownBlock ∧ k_ ≠ gb281 ∧ k_ ≠ gb282) (.slice (some ad280) x4_1.length co22) x4_1) ∧ Aside0 (Kd.R k28 28 w' w.heap.size (fun k_ => some k_ ≠ ((.slice (some ad280) x4_1.length co22) : Value).ownBlock ∧ some k_ ≠ ((.slice (some ad280) x4_1.length co22) : Value).ownBlock ∧ some k_ ≠ ((.slice (some ad280) x4_1.length co22) : Value).ownBlock ∧ k_ ≠ gb281 ∧ k_ ≠ gb282) u5 x5_2) ∧ Aside0 (Kd.R k28 28 w' w.heap.size (fun k_ => some k_ ≠ (u5 : Value).ownBlock ∧ k_ ≠ gb281 ∧ k_ ≠ gb282) (.slice (some ad280) x4_1.length co22) x4_1) ∧ Aside0 (Kd.R k28 28 w' w.heap.size (fun k_ => some k_ ≠ (u5 : Value).ownBlock ∧ k_ ≠ gb281 ∧ k_ ≠ gb282) (.slice (some ad280) x4_1.length co22) x4_1) ∧ Aside0 (w'.heap[gb281]? = some (.cells #[.int .i64 ((rd_T28 x4_1 x39_2).f0), .int .i64 ((rd_T28 x4_1 x39_2).f1)] 28 (0, 0))) ∧ Aside0 (w'.heap[gb282]? = some (.cells #[.int .i64 x283000_3, .int .i64 x283001_3] 28 (0, 0))) ∧ Aside0 (Below w.heap.size w w'))
                    case atStart => exact ⟨(0), (1), (1), (by first | rfl | (simp; done) | (simp [*]; done)), H', ⟨Nat.le_refl _⟩, ⟨by (with_reducible repeat (first | apply Kd.R_alloc | apply Kd.R_drewN | apply Kd.R_drew)); exact Kd.R_mono (Kd.R_far (p := ⟨gb282, 1, none⟩) (Kd.R_far (p := ⟨gb282, 0, none⟩) (Kd.R_mono HO_4.out (fun k_ hk => (⟨hk, hk.2⟩ : _ ∧ k_ ≠ gb282))) (fun _ hk => hk.2) (.int .i64 1)) (fun _ hk => hk.2) (.int .i64 1)) (fun _ hk => ⟨hk.1.1.1, ⟨hk.1.1.2, hk.1.2⟩⟩)⟩, ⟨by (with_reducible repeat (first | apply Kd.R_alloc | apply Kd.R_drewN | apply Kd.R_drew)); exact Kd.R_mono (Kd.R_far (p := ⟨gb282, 1, none⟩) (Kd.R_far (p := ⟨gb282, 0, none⟩) (Kd.R_mono HO_5.out (fun k_ hk => (⟨hk, hk.2⟩ : _ ∧ k_ ≠ gb282))) (fun _ hk => hk.2) (.int .i64 1)) (fun _ hk => hk.2) (.int .i64 1)) (fun _ hk => ⟨hk.1.1.1.1, ⟨hk.1.1.1.2, ⟨hk.1.1.1.1, ⟨hk.1.1.2, hk.1.2⟩⟩⟩⟩)⟩, ⟨by (with_reducible repeat (first | apply Kd.R_alloc | apply Kd.R_drewN | apply Kd.R_drew)); exact Kd.R_mono (Kd.R_far (p := ⟨gb282, 1, none⟩) (Kd.R_far (p := ⟨gb282, 0, none⟩) (Kd.R_mono HO_37.out (fun k_ hk => (⟨hk, hk.2⟩ : _ ∧ k_ ≠ gb282))) (fun _ hk => hk.2) (.int .i64 1)) (fun _ hk => hk.2) (.int .i64 1)) (fun _ hk => ⟨hk.1.1.1, ⟨hk.1.1.2, hk.1.2⟩⟩)⟩, ⟨by (with_reducible repeat (first | apply Kd.R_alloc | apply Kd.R_drewN | apply Kd.R_drew)); exact Kd.R_mono (Kd.R_far (p := ⟨gb282, 1, none⟩) (Kd.R_far (p := ⟨gb282, 0, none⟩) (Kd.R_mono HO_4.out (fun k_ hk => (⟨hk, hk.2⟩ : _ ∧ k_ ≠ gb282))) (fun _ hk => hk.2) (.int .i64 1)) (fun _ hk => hk.2) (.int .i64 1)) (fun _ hk => ⟨hk.1.1.1, ⟨hk.1.1.2, hk.1.2⟩⟩)⟩, ⟨by (with_reducible repeat (first | refine blk_drewN ?_ _ | refine blk_drew ?_ | refine blk_alloc ?_ _)); refine blk_far ?_ NB281_282.out _; (with_reducible repeat (first | refine blk_drewN ?_ _ | refine blk_drew ?_ | refine blk_alloc ?_ _)); refine blk_far ?_ NB281_282.out _; (with_reducible repeat (first | refine blk_drewN ?_ _ | refine blk_drew ?_ | refine blk_alloc ?_ _)); exact BK281.out⟩, ⟨by (with_reducible repeat (first | refine blk_drewN ?_ _ | refine blk_drew ?_ | refine blk_alloc ?_ _)); refine blk_put (cs := #[.int .i64 1, .int .i64 0]) ?_ 1 _ rfl; (with_reducible repeat (first | refine blk_drewN ?_ _ | refine blk_drew ?_ | refine blk_alloc ?_ _)); refine blk_put (cs := #[.int .i64 0, .int .i64 0]) ?_ 0 _ rfl; (with_reducible repeat (first | refine blk_drewN ?_ _ | refine blk_drew ?_ | refine blk_alloc ?_ _)); exact BK282.out⟩, ⟨by repeat (first | (with_reducible first | exact HB.out | apply below_alloc | apply pw_below_drewN | apply below_drew1 | refine below_set ?_ GE281.out | refine below_set ?_ GE282.out) | exact HB.out)⟩⟩
                    case round =>
                      clear H'
                      try clear c1
                      try clear c2
                      try clear c2b0
                      try clear c2b1
                      try clear p2
                      try clear q2
                      try clear hx2
                      try clear c3
                      try clear c3b0
                      try clear c4
                      try clear c4b0
                      try clear c5
                      try clear c5b0
                      try clear p6
                      try clear c7
                      try clear c7b0
                      try clear c7b1
                      try clear c8
                      try clear c9
                      try clear c13
                      try clear c15
                      try clear c20
                      try clear c23
                      try clear c23b0
                      try clear c24
                      try clear c24b0
                      try clear c25
                      try clear c25b0
                      try clear c27
                      try clear p27
                      try clear q27
                      try clear hx27
                      try clear p28
                      try clear q28
                      try clear hx28
                      try clear c29
                      try clear hcz10_0
                      try clear hcz10_1
                      try clear hcz10_2
                      try clear hcz10_3
                      try clear hcz14_0
                      try clear hcz14_1
                      try clear hcz17_0
                      try clear hcz17_1
                      try clear hcz17_2
                      try clear hcz17_3
                      try clear hcz21_0
                      try clear hcz21_1
                      try clear hcz27_0
                      try clear hcz27_1
                      try clear hcz30_0
                      try clear hcz30_1
                      try clear hfz10_0
                      try clear hfz10_1
                      try clear hfz10_2
                      try clear hfz10_3
                      try clear hfz14_0
                      try clear hfz14_1
                      try clear hfz17_0
                      try clear hfz17_1
                      try clear hfz17_2
                      try clear hfz17_3
                      try clear hfz21_0
                      try clear hfz21_1
                      try clear hfz27_0
                      try clear hfz27_1
                      try clear hfz30_0
                      try clear hfz30_1
                      try clear hx271_0
                      try clear hx271_1
                      try clear hx271_2
                      try clear hx271_3
                      try clear hx280_0
                      try clear hx280_1
                      try clear p2
                      try clear p271
                      try clear p280
                      try clear p6
                      try clear q2
                      try clear q271
                      try clear q280
                      obtain ⟨x47_3, x283000_3, x283001_3, rfl, HA, HK3, HO_4, HO_5, HO_37, HO_45, BK281, BK282, HB⟩ := hrel
                      cases gk with
                      | zero => exact absurd HA.out (by simp [exams_Ranks.l2])
                      | succ k3 =>
                        have H := HA.out
                        clear HA
                        simp only [exams_Ranks.l2] at H
                        by_cases c31 : x47_3 < (x4_1.length : Int)
                        · rw [if_pos c31] at H
                          have c31b0 : decide (x47_3 < (x4_1.length : Int)) = true := decide_eq_true c31
                          clear c31
                          by_cases c32 : 0 ≤ x47_3
                          · rw [if_pos c32] at H
                            have c32b0 : decide (0 ≤ x47_3) = true := decide_eq_true c32
                            clear c32
                            by_cases c33 : x47_3 < (x4_1.length : Int)
                            · rw [if_pos c33] at H
                              have c33b0 : decide (x47_3 < (x4_1.length : Int)) = true := decide_eq_true c33
                              clear c33
                              have HC34 := Aside0.mk H
                              clear H
                              have p286 : 0 ≤ (x47_3 : Int) := of_decide_eq_true (by first | (with_reducible assumption) | assumption)
                              have q286 : x47_3 < (x4_1.length : Int) := of_decide_eq_true (by first | (with_reducible assumption) | assumption)
                              obtain ⟨ad286, e286, hx286_0, hx286_1⟩ := at_T28 (Kd.R_reads' HO_45.out).2.2 x47_3 p286 q286
                              obtain rfl : ad280 = ad286 := (by injection e286)
                              replace p286 := eq_true p286
                              replace q286 := eq_true q286
                              go_upto_region 19 with (first | ((with_reducible refine gate_dst (N := 14) rfl ?_); refine box_event ?hg (N := 14) ?hd (cs := #[.int .i64 0, .int .i64 0]) (t := 28) ?hr ?_; (case hd => rfl); (case hg => rfl); (case hr => first | (go_simp; done) | (go_simp; rfl)); intro gb287 hg w35 hbox hb; have n0_ := Aside0.mk (Kd.R_below (Kd.R_elderB (by (with_reducible repeat (first | apply Kd.R_alloc | apply Kd.R_drewN | apply Kd.R_drew)); exact HO_4.out) gb287 (Nat.le_of_eq hg.symm)) hb); have n1_ := Aside0.mk (Kd.R_below (Kd.R_elderB (by (with_reducible repeat (first | apply Kd.R_alloc | apply Kd.R_drewN | apply Kd.R_drew)); exact HO_5.out) gb287 (Nat.le_of_eq hg.symm)) hb); have n2_ := Aside0.mk (Kd.R_below (Kd.R_elderB (by (with_reducible repeat (first | apply Kd.R_alloc | apply Kd.R_drewN | apply Kd.R_drew)); exact HO_37.out) gb287 (Nat.le_of_eq hg.symm)) hb); have n3_ := Aside0.mk (Kd.R_below (Kd.R_elderB (by (with_reducible repeat (first | apply Kd.R_alloc | apply Kd.R_drewN | apply Kd.R_drew)); exact HO_45.out) gb287 (Nat.le_of_eq hg.symm)) hb); have n4_ := Aside0.mk (blk_below (g := gb281) (o := .cells #[.int .i64 ((rd_T28 x4_1 x39_2).f0), .int .i64 ((rd_T28 x4_1 x39_2).f1)] 28 (0, 0)) (by (with_reducible repeat (first | refine blk_drewN ?_ _ | refine blk_drew ?_ | refine blk_alloc ?_ _)); exact BK281.out) hb); have n5_ := Aside0.mk (blk_below (g := gb282) (o := .cells #[.int .i64 x283000_3, .int .i64 x283001_3] 28 (0, 0)) (by (with_reducible repeat (first | refine blk_drewN ?_ _ | refine blk_drew ?_ | refine blk_alloc ?_ _)); exact BK282.out) hb); have n6_ := Aside0.mk (below_step (by repeat (first | (with_reducible first | exact HB.out | apply below_alloc | apply pw_below_drewN | apply below_drew1 | refine below_set ?_ GE281.out | refine below_set ?_ GE282.out) | exact HB.out)) hb); have n7_ := Aside0.mk (hbox); have n8_ := Aside0.mk ((by rw [hg]; exact (below_size (by repeat (first | (with_reducible first | exact HB.out | apply below_alloc | apply pw_below_drewN | apply below_drew1 | refine below_set ?_ GE281.out | refine below_set ?_ GE282.out) | exact HB.out))) : w.heap.size ≤ gb287)); have n9_ := Aside0.mk ((by rw [hg]; exact (below_size (by repeat (first | (with_reducible first | exact HB.out | apply below_alloc | apply pw_below_drewN | apply below_drew1 | refine below_set ?_ GE281.out | refine below_set ?_ GE282.out) | exact HB.out))) : w.heap.size ≤ gb287)); have n10_ := Aside0.mk ((by rw [hg]; exact Nat.ne_of_lt (blk_lt (g := gb281) (o := .cells #[.int .i64 ((rd_T28 x4_1 x39_2).f0), .int .i64 ((rd_T28 x4_1 x39_2).f1)] 28 (0, 0)) (by (with_reducible repeat (first | refine blk_drewN ?_ _ | refine blk_drew ?_ | refine blk_alloc ?_ _)); exact BK281.out)) : gb281 ≠ gb287)); have n11_ := Aside0.mk ((by rw [hg]; exact Nat.ne_of_gt (blk_lt (g := gb281) (o := .cells #[.int .i64 ((rd_T28 x4_1 x39_2).f0), .int .i64 ((rd_T28 x4_1 x39_2).f1)] 28 (0, 0)) (by (with_reducible repeat (first | refine blk_drewN ?_ _ | refine blk_drew ?_ | refine blk_alloc ?_ _)); exact BK281.out)) : gb287 ≠ gb281)); have n12_ := Aside0.mk ((by rw [hg]; exact Nat.ne_of_lt (blk_lt (g := gb282) (o := .cells #[.int .i64 x283000_3, .int .i64 x283001_3] 28 (0, 0)) (by (with_reducible repeat (first | refine blk_drewN ?_ _ | refine blk_drew ?_ | refine blk_alloc ?_ _)); exact BK282.out)) : gb282 ≠ gb287)); have n13_ := Aside0.mk ((by rw [hg]; exact Nat.ne_of_gt (blk_lt (g := gb282) (o := .cells #[.int .i64 x283000_3, .int .i64 x283001_3] 28 (0, 0)) (by (with_reducible repeat (first | refine blk_drewN ?_ _ | refine blk_drew ?_ | refine blk_alloc ?_ _)); exact BK282.out)) : gb287 ≠ gb282)); clear HO_4; clear HO_5; clear HO_37; clear HO_45; clear BK281; clear BK282; clear HB; have HO_4 := n0_; have HO_5 := n1_; have HO_37 := n2_; have HO_45 := n3_; have BK281 := n4_; have BK282 := n5_; have HB := n6_; have BK287 := n7_; have GW287 := n8_; have GE287 := n9_; have NB281_287 := n10_; have NB287_281 := n11_; have NB282_287 := n12_; have NB287_282 := n13_; clear n0_ n1_ n2_ n3_ n4_ n5_ n6_ n7_ n8_ n9_ n10_ n11_ n12_ n13_; clear hb hbox hg; have hnb36 := NB287_281.out; have hnc36 := NB281_287.out; have hnb37 := NB287_282.out; have hnc37 := NB282_287.out; have hcz38_0 : w35.cell? ⟨gb287, 0, none⟩ = some (.int .i64 0) := (blk_cell BK287.out 0).trans rfl; have hcz38_1 : w35.cell? ⟨gb287, 1, none⟩ = some (.int .i64 0) := (blk_cell BK287.out 1).trans rfl; have hfz38_0 := blk_frozen BK287.out 0; have hfz38_1 := blk_frozen BK287.out 1))
                              (try simp only [Act.put, List.setIfInBounds_toArray, List.set_cons_zero, List.set_cons_succ])
                              go_cut [61] (fun v61 wc => ∃ (kq : Nat) (x61_33 : Bool), v61 = .bool x61_33 ∧ Aside0 (exams_Ranks.j3 kq x4_1 x5_2 x39_2 x47_3 x4_1 (x4_1.length : Int) x39_2 x4_1 (x4_1.length : Int) x47_3 x61_33 ((rd_T28 x4_1 x39_2).f0) ((rd_T28 x4_1 x39_2).f1) x283000_3 x283001_3 ((rd_T28 x4_1 x47_3).f0) ((rd_T28 x4_1 x47_3).f1) = some (r1, r2)) ∧ Aside0 (kq ≤ k3) ∧ Aside0 (Kd.R k28 28 wc w.heap.size (fun k_ => some k_ ≠ (u5 : Value).ownBlock ∧ k_ ≠ gb281 ∧ k_ ≠ gb282 ∧ k_ ≠ gb287) (.slice (some ad280) x4_1.length co22) x4_1) ∧ Aside0 (Kd.R k28 28 wc w.heap.size (fun k_ => some k_ ≠ ((.slice (some ad280) x4_1.length co22) : Value).ownBlock ∧ some k_ ≠ ((.slice (some ad280) x4_1.length co22) : Value).ownBlock ∧ some k_ ≠ ((.slice (some ad280) x4_1.length co22) : Value).ownBlock ∧ k_ ≠ gb281 ∧ k_ ≠ gb282 ∧ k_ ≠ gb287) u5 x5_2) ∧ Aside0 (Kd.R k28 28 wc w.heap.size (fun k_ => some k_ ≠ (u5 : Value).ownBlock ∧ k_ ≠ gb281 ∧ k_ ≠ gb282 ∧ k_ ≠ gb287) (.slice (some ad280) x4_1.length co22) x4_1) ∧ Aside0 (Kd.R k28 28 wc w.heap.size (fun k_ => some k_ ≠ (u5 : Value).ownBlock ∧ k_ ≠ gb281 ∧ k_ ≠ gb282 ∧ k_ ≠ gb287) (.slice (some ad280) x4_1.length co22) x4_1) ∧ Aside0 (wc.heap[gb281]? = some (.cells #[.int .i64 ((rd_T28 x4_1 x39_2).f0), .int .i64 ((rd_T28 x4_1 x39_2).f1)] 28 (0, 0))) ∧ Aside0 (wc.heap[gb282]? = some (.cells #[.int .i64 x283000_3, .int .i64 x283001_3] 28 (0, 0))) ∧ Aside0 (wc.heap[gb287]? = some (.cells #[.int .i64 ((rd_T28 x4_1 x47_3).f0), .int .i64 ((rd_T28 x4_1 x47_3).f1)] 28 (0, 0))) ∧ Aside0 (Below w.heap.size w wc))
                              case first =>
                                have H := HC34.out
                                clear HC34
                                by_cases c39 : x47_3 = x39_2
                                · rw [if_pos c39] at H
                                  have c39b0 : (x47_3 == x39_2) = true := beq_iff_eq.mpr c39
                                  have c39b1 : (x47_3 != x39_2) = false := bne_eq_false_iff_eq.mpr c39
                                  clear c39
                                  (first | rw [c39b0] | (simp only [i64_w, i32_w]; rw [c39b0]) | skip)
                                  have H' := Aside0.mk H
                                  clear H
                                  go_wp2
                                  go_meet
                                  case rel => exact ⟨_, (false), (by first | rfl | (simp; done) | (simp [*]; done)), H', ⟨by have := HK1.out; have := HK2.out; have := HK3.out; first | omega | exact Nat.le_refl _⟩, ⟨by (with_reducible repeat (first | apply Kd.R_alloc | apply Kd.R_drewN | apply Kd.R_drew)); exact Kd.R_mono (Kd.R_far (p := ⟨gb287, 1, none⟩) (Kd.R_far (p := ⟨gb287, 0, none⟩) (Kd.R_mono HO_4.out (fun k_ hk => (⟨hk, hk.2⟩ : _ ∧ k_ ≠ gb287))) (fun _ hk => hk.2) (.int .i64 ((rd_T28 x4_1 x47_3).f0))) (fun _ hk => hk.2) (.int .i64 ((rd_T28 x4_1 x47_3).f1))) (fun _ hk => ⟨hk.1.1.1, ⟨hk.1.1.2.1, ⟨hk.1.1.2.2, hk.1.2⟩⟩⟩)⟩, ⟨by (with_reducible repeat (first | apply Kd.R_alloc | apply Kd.R_drewN | apply Kd.R_drew)); exact Kd.R_mono (Kd.R_far (p := ⟨gb287, 1, none⟩) (Kd.R_far (p := ⟨gb287, 0, none⟩) (Kd.R_mono HO_5.out (fun k_ hk => (⟨hk, hk.2⟩ : _ ∧ k_ ≠ gb287))) (fun _ hk => hk.2) (.int .i64 ((rd_T28 x4_1 x47_3).f0))) (fun _ hk => hk.2) (.int .i64 ((rd_T28 x4_1 x47_3).f1))) (fun _ hk => ⟨hk.1.1.1, ⟨hk.1.1.2.1, ⟨hk.1.1.2.2.1, ⟨hk.1.1.2.2.2.1, ⟨hk.1.1.2.2.2.2, hk.1.2⟩⟩⟩⟩⟩)⟩, ⟨by (with_reducible repeat (first | apply Kd.R_alloc | apply Kd.R_drewN | apply Kd.R_drew)); exact Kd.R_mono (Kd.R_far (p := ⟨gb287, 1, none⟩) (Kd.R_far (p := ⟨gb287, 0, none⟩) (Kd.R_mono HO_37.out (fun k_ hk => (⟨hk, hk.2⟩ : _ ∧ k_ ≠ gb287))) (fun _ hk => hk.2) (.int .i64 ((rd_T28 x4_1 x47_3).f0))) (fun _ hk => hk.2) (.int .i64 ((rd_T28 x4_1 x47_3).f1))) (fun _ hk => ⟨hk.1.1.1, ⟨hk.1.1.2.1, ⟨hk.1.1.2.2, hk.1.2⟩⟩⟩)⟩, ⟨by (with_reducible repeat (first | apply Kd.R_alloc | apply Kd.R_drewN | apply Kd.R_drew)); exact Kd.R_mono (Kd.R_far (p := ⟨gb287, 1, none⟩) (Kd.R_far (p := ⟨gb287, 0, none⟩) (Kd.R_mono HO_45.out (fun k_ hk => (⟨hk, hk.2⟩ : _ ∧ k_ ≠ gb287))) (fun _ hk => hk.2) (.int .i64 ((rd_T28 x4_1 x47_3).f0))) (fun _ hk => hk.2) (.int .i64 ((rd_T28 x4_1 x47_3).f1))) (fun _ hk => ⟨hk.1.1.1, ⟨hk.1.1.2.1, ⟨hk.1.1.2.2, hk.1.2⟩⟩⟩)⟩, ⟨by (with_reducible repeat (first | refine blk_drewN ?_ _ | refine blk_drew ?_ | refine blk_alloc ?_ _)); refine blk_far ?_ NB281_287.out _; (with_reducible repeat (first | refine blk_drewN ?_ _ | refine blk_drew ?_ | refine blk_alloc ?_ _)); refine blk_far ?_ NB281_287.out _; (with_reducible repeat (first | refine blk_drewN ?_ _ | refine blk_drew ?_ | refine blk_alloc ?_ _)); exact BK281.out⟩, ⟨by (with_reducible repeat (first | refine blk_drewN ?_ _ | refine blk_drew ?_ | refine blk_alloc ?_ _)); refine blk_far ?_ NB282_287.out _; (with_reducible repeat (first | refine blk_drewN ?_ _ | refine blk_drew ?_ | refine blk_alloc ?_ _)); refine blk_far ?_ NB282_287.out _; (with_reducible repeat (first | refine blk_drewN ?_ _ | refine blk_drew ?_ | refine blk_alloc ?_ _)); exact BK282.out⟩, ⟨by (with_reducible repeat (first | refine blk_drewN ?_ _ | refine blk_drew ?_ | refine blk_alloc ?_ _)); refine blk_put (cs := #[.int .i64 ((rd_T28 x4_1 x47_3).f0), .int .i64 0]) ?_ 1 _ rfl; (with_reducible repeat (first | refine blk_drewN ?_ _ | refine blk_drew ?_ | refine blk_alloc ?_ _)); refine blk_put (cs := #[.int .i64 0, .int .i64 0]) ?_ 0 _ rfl; (with_reducible repeat (first | refine blk_drewN ?_ _ | refine blk_drew ?_ | refine blk_alloc ?_ _)); exact BK287.out⟩, ⟨by repeat (first | (with_reducible first | exact HB.out | apply below_alloc | apply pw_below_drewN | apply below_drew1 | refine below_set ?_ GE281.out | refine below_set ?_ GE282.out | refine below_set ?_ GE287.out) | exact HB.out)⟩⟩
                                · rw [if_neg c39] at H
                                  have c39b0 : (x47_3 == x39_2) = false := beq_eq_false_iff_ne.mpr c39
                                  have c39b1 : (x47_3 != x39_2) = true := bne_iff_ne.mpr c39
                                  (first | rw [c39b0] | (simp only [i64_w, i32_w]; rw [c39b0]) | skip)
                                  have H' := Aside0.mk H
                                  clear H
                                  have hnb40 := NB287_281.out
                                  have hnc40 := NB281_287.out
                                  have hnb41 := NB287_282.out
                                  have hnc41 := NB282_287.out
                                  have hcz42_0 : w35.cell? ⟨gb287, 0, none⟩ = some (.int .i64 0) := (blk_cell BK287.out 0).trans rfl
                                  have hcz42_1 : w35.cell? ⟨gb287, 1, none⟩ = some (.int .i64 0) := (blk_cell BK287.out 1).trans rfl
                                  have hfz42_0 := blk_frozen BK287.out 0
                                  have hfz42_1 := blk_frozen BK287.out 1
                                  have hnb43 := NB281_282.out
                                  have hnc43 := NB282_281.out
                                  have hcz44_0 : w35.cell? ⟨gb281, 0, none⟩ = some (.int .i64 ((rd_T28 x4_1 x39_2).f0)) := (blk_cell BK281.out 0).trans rfl
                                  have hcz44_1 : w35.cell? ⟨gb281, 1, none⟩ = some (.int .i64 ((rd_T28 x4_1 x39_2).f1)) := (blk_cell BK281.out 1).trans rfl
                                  have hfz44_0 := blk_frozen BK281.out 0
                                  have hfz44_1 := blk_frozen BK281.out 1
                                  go_wp2
                                  go_meet
                                  case rel => exact ⟨_, (decide (((rd_T28 x4_1 x47_3).f0) > ((rd_T28 x4_1 x39_2).f1))), (by first | rfl | (simp; done) | (simp [*]; done)), H', ⟨by have := HK1.out; have := HK2.out; have := HK3.out; first | omega | exact Nat.le_refl _⟩, ⟨by (with_reducible repeat (first | apply Kd.R_alloc | apply Kd.R_drewN | apply Kd.R_drew)); exact Kd.R_mono (Kd.R_far (p := ⟨gb287, 1, none⟩) (Kd.R_far (p := ⟨gb287, 0, none⟩) (Kd.R_mono HO_4.out (fun k_ hk => (⟨hk, hk.2⟩ : _ ∧ k_ ≠ gb287))) (fun _ hk => hk.2) (.int .i64 ((rd_T28 x4_1 x47_3).f0))) (fun _ hk => hk.2) (.int .i64 ((rd_T28 x4_1 x47_3).f1))) (fun _ hk => ⟨hk.1.1.1, ⟨hk.1.1.2.1, ⟨hk.1.1.2.2, hk.1.2⟩⟩⟩)⟩, ⟨by (with_reducible repeat (first | apply Kd.R_alloc | apply Kd.R_drewN | apply Kd.R_drew)); exact Kd.R_mono (Kd.R_far (p := ⟨gb287, 1, none⟩) (Kd.R_far (p := ⟨gb287, 0, none⟩) (Kd.R_mono HO_5.out (fun k_ hk => (⟨hk, hk.2⟩ : _ ∧ k_ ≠ gb287))) (fun _ hk => hk.2) (.int .i64 ((rd_T28 x4_1 x47_3).f0))) (fun _ hk => hk.2) (.int .i64 ((rd_T28 x4_1 x47_3).f1))) (fun _ hk => ⟨hk.1.1.1, ⟨hk.1.1.2.1, ⟨hk.1.1.2.2.1, ⟨hk.1.1.2.2.2.1, ⟨hk.1.1.2.2.2.2, hk.1.2⟩⟩⟩⟩⟩)⟩, ⟨by (with_reducible repeat (first | apply Kd.R_alloc | apply Kd.R_drewN | apply Kd.R_drew)); exact Kd.R_mono (Kd.R_far (p := ⟨gb287, 1, none⟩) (Kd.R_far (p := ⟨gb287, 0, none⟩) (Kd.R_mono HO_37.out (fun k_ hk => (⟨hk, hk.2⟩ : _ ∧ k_ ≠ gb287))) (fun _ hk => hk.2) (.int .i64 ((rd_T28 x4_1 x47_3).f0))) (fun _ hk => hk.2) (.int .i64 ((rd_T28 x4_1 x47_3).f1))) (fun _ hk => ⟨hk.1.1.1, ⟨hk.1.1.2.1, ⟨hk.1.1.2.2, hk.1.2⟩⟩⟩)⟩, ⟨by (with_reducible repeat (first | apply Kd.R_alloc | apply Kd.R_drewN | apply Kd.R_drew)); exact Kd.R_mono (Kd.R_far (p := ⟨gb287, 1, none⟩) (Kd.R_far (p := ⟨gb287, 0, none⟩) (Kd.R_mono HO_45.out (fun k_ hk => (⟨hk, hk.2⟩ : _ ∧ k_ ≠ gb287))) (fun _ hk => hk.2) (.int .i64 ((rd_T28 x4_1 x47_3).f0))) (fun _ hk => hk.2) (.int .i64 ((rd_T28 x4_1 x47_3).f1))) (fun _ hk => ⟨hk.1.1.1, ⟨hk.1.1.2.1, ⟨hk.1.1.2.2, hk.1.2⟩⟩⟩)⟩, ⟨by (with_reducible repeat (first | refine blk_drewN ?_ _ | refine blk_drew ?_ | refine blk_alloc ?_ _)); refine blk_far ?_ NB281_287.out _; (with_reducible repeat (first | refine blk_drewN ?_ _ | refine blk_drew ?_ | refine blk_alloc ?_ _)); refine blk_far ?_ NB281_287.out _; (with_reducible repeat (first | refine blk_drewN ?_ _ | refine blk_drew ?_ | refine blk_alloc ?_ _)); exact BK281.out⟩, ⟨by (with_reducible repeat (first | refine blk_drewN ?_ _ | refine blk_drew ?_ | refine blk_alloc ?_ _)); refine blk_far ?_ NB282_287.out _; (with_reducible repeat (first | refine blk_drewN ?_ _ | refine blk_drew ?_ | refine blk_alloc ?_ _)); refine blk_far ?_ NB282_287.out _; (with_reducible repeat (first | refine blk_drewN ?_ _ | refine blk_drew ?_ | refine blk_alloc ?_ _)); exact BK282.out⟩, ⟨by (with_reducible repeat (first | refine blk_drewN ?_ _ | refine blk_drew ?_ | refine blk_alloc ?_ _)); refine blk_put (cs := #[.int .i64 ((rd_T28 x4_1 x47_3).f0), .int .i64 0]) ?_ 1 _ rfl; (with_reducible repeat (first | refine blk_drewN ?_ _ | refine blk_drew ?_ | refine blk_alloc ?_ _)); refine blk_put (cs := #[.int .i64 0, .int .i64 0]) ?_ 0 _ rfl; (with_reducible repeat (first | refine blk_drewN ?_ _ | refine blk_drew ?_ | refine blk_alloc ?_ _)); exact BK287.out⟩, ⟨by repeat (first | (with_reducible first | exact HB.out | apply below_alloc | apply pw_below_drewN | apply below_drew1 | refine below_set ?_ GE281.out | refine below_set ?_ GE282.out | refine below_set ?_ GE287.out) | exact HB.out)⟩⟩
                              case rest =>
                                clear HC34
                                try clear c1
                                try clear c2
                                try clear c2b0
                                try clear c2b1
                                try clear p2
                                try clear q2
                                try clear hx2
                                try clear c3
                                try clear c3b0
                                try clear c4
                                try clear c4b0
                                try clear c5
                                try clear c5b0
                                try clear p6
                                try clear c7
                                try clear c7b0
                                try clear c7b1
                                try clear c8
                                try clear c9
                                try clear c13
                                try clear c15
                                try clear c20
                                try clear c23
                                try clear c23b0
                                try clear c24
                                try clear c24b0
                                try clear c25
                                try clear c25b0
                                try clear c27
                                try clear p27
                                try clear q27
                                try clear hx27
                                try clear p28
                                try clear q28
                                try clear hx28
                                try clear c29
                                try clear c31
                                try clear c31b0
                                try clear c32
                                try clear c32b0
                                try clear c33
                                try clear c33b0
                                try clear c36
                                try clear c37
                                try clear c39
                                try clear c39b0
                                try clear c39b1
                                try clear c40
                                try clear c41
                                try clear c43
                                try clear hcz10_0
                                try clear hcz10_1
                                try clear hcz10_2
                                try clear hcz10_3
                                try clear hcz14_0
                                try clear hcz14_1
                                try clear hcz17_0
                                try clear hcz17_1
                                try clear hcz17_2
                                try clear hcz17_3
                                try clear hcz21_0
                                try clear hcz21_1
                                try clear hcz27_0
                                try clear hcz27_1
                                try clear hcz30_0
                                try clear hcz30_1
                                try clear hcz38_0
                                try clear hcz38_1
                                try clear hcz42_0
                                try clear hcz42_1
                                try clear hcz44_0
                                try clear hcz44_1
                                try clear hfz10_0
                                try clear hfz10_1
                                try clear hfz10_2
                                try clear hfz10_3
                                try clear hfz14_0
                                try clear hfz14_1
                                try clear hfz17_0
                                try clear hfz17_1
                                try clear hfz17_2
                                try clear hfz17_3
                                try clear hfz21_0
                                try clear hfz21_1
                                try clear hfz27_0
                                try clear hfz27_1
                                try clear hfz30_0
                                try clear hfz30_1
                                try clear hfz38_0
                                try clear hfz38_1
                                try clear hfz42_0
                                try clear hfz42_1
                                try clear hfz44_0
                                try clear hfz44_1
                                try clear hx271_0
                                try clear hx271_1
                                try clear hx271_2
                                try clear hx271_3
                                try clear hx280_0
                                try clear hx280_1
                                try clear hx286_0
                                try clear hx286_1
                                try clear p2
                                try clear p27
                                try clear p271
                                try clear p28
                                try clear p280
                                try clear p286
                                try clear p6
                                try clear q2
                                try clear q27
                                try clear q271
                                try clear q28
                                try clear q280
                                try clear q286
                                obtain ⟨kq, x61_33, rfl, HA, HJ33, HO_4, HO_5, HO_37, HO_45, BK281, BK282, BK287, HB⟩ := hcut
                                cases kq with
                                | zero => exact absurd HA.out (by simp [exams_Ranks.j3])
                                | succ kj33 =>
                                  have H := HA.out
                                  clear HA
                                  simp only [exams_Ranks.j3] at H
                                  by_cases c45 : x61_33 = true
                                  · subst c45
                                    have H1 : (if x47_3 = x39_2 then (exams_Ranks.l2 kj33 x4_1 x5_2 x39_2 x4_1 (x4_1.length : Int) x39_2 x4_1 (x4_1.length : Int) (wrap64 (x47_3 + 1)) ((rd_T28 x4_1 x39_2).f0) ((rd_T28 x4_1 x39_2).f1) (wrap64 (x283000_3 + 1)) x283001_3) else (if ((rd_T28 x4_1 x47_3).f1) > ((rd_T28 x4_1 x39_2).f0) then (exams_Ranks.l2 kj33 x4_1 x5_2 x39_2 x4_1 (x4_1.length : Int) x39_2 x4_1 (x4_1.length : Int) (wrap64 (x47_3 + 1)) ((rd_T28 x4_1 x39_2).f0) ((rd_T28 x4_1 x39_2).f1) (wrap64 (x283000_3 + 1)) (wrap64 (x283001_3 + 1))) else (exams_Ranks.l2 kj33 x4_1 x5_2 x39_2 x4_1 (x4_1.length : Int) x39_2 x4_1 (x4_1.length : Int) (wrap64 (x47_3 + 1)) ((rd_T28 x4_1 x39_2).f0) ((rd_T28 x4_1 x39_2).f1) (wrap64 (x283000_3 + 1)) x283001_3))) = some (r1, r2) := by rw [if_pos rfl] at H; exact H
                                    clear H
                                    have H := H1
                                    clear H1
                                    by_cases c46 : x47_3 = x39_2
                                    · rw [if_pos c46] at H
                                      have c46b0 : (x47_3 == x39_2) = true := beq_iff_eq.mpr c46
                                      have c46b1 : (x47_3 != x39_2) = false := bne_eq_false_iff_eq.mpr c46
                                      clear c46
                                      have H' := Aside0.mk H
                                      clear H
                                      have hnb47 := NB282_281.out
                                      have hnc47 := NB281_282.out
                                      have hnb48 := NB282_287.out
                                      have hnc48 := NB287_282.out
                                      have hcz49_0 : wc.cell? ⟨gb282, 0, none⟩ = some (.int .i64 x283000_3) := (blk_cell BK282.out 0).trans rfl
                                      have hcz49_1 : wc.cell? ⟨gb282, 1, none⟩ = some (.int .i64 x283001_3) := (blk_cell BK282.out 1).trans rfl
                                      have hfz49_0 := blk_frozen BK282.out 0
                                      have hfz49_1 := blk_frozen BK282.out 1
                                      go_wp2
                                      go_roundg kj33
                                      case measure => have := HK1.out; have := HK2.out; have := HK3.out; have := HJ33.out; omega
                                      case rel => exact ⟨(wrap64 (x47_3 + 1)), (wrap64 (x283000_3 + 1)), (x283001_3), (by first | rfl | (simp; done) | (simp [*]; done)), H', ⟨by have := HK1.out; have := HK2.out; have := HK3.out; have := HJ33.out; omega⟩, ⟨by (with_reducible repeat (first | apply Kd.R_alloc | apply Kd.R_drewN | apply Kd.R_drew)); exact Kd.R_mono (Kd.R_far (p := ⟨gb282, 0, none⟩) (Kd.R_mono HO_4.out (fun k_ hk => (⟨hk, hk.2.2.1⟩ : _ ∧ k_ ≠ gb282))) (fun _ hk => hk.2) (.int .i64 (wrap64 (x283000_3 + 1)))) (fun _ hk => ⟨hk.1.1, ⟨hk.1.2.1, hk.1.2.2.1⟩⟩)⟩, ⟨by (with_reducible repeat (first | apply Kd.R_alloc | apply Kd.R_drewN | apply Kd.R_drew)); exact Kd.R_mono (Kd.R_far (p := ⟨gb282, 0, none⟩) (Kd.R_mono HO_5.out (fun k_ hk => (⟨hk, hk.2.2.2.2.1⟩ : _ ∧ k_ ≠ gb282))) (fun _ hk => hk.2) (.int .i64 (wrap64 (x283000_3 + 1)))) (fun _ hk => ⟨hk.1.1, ⟨hk.1.2.1, ⟨hk.1.2.2.1, ⟨hk.1.2.2.2.1, hk.1.2.2.2.2.1⟩⟩⟩⟩)⟩, ⟨by (with_reducible repeat (first | apply Kd.R_alloc | apply Kd.R_drewN | apply Kd.R_drew)); exact Kd.R_mono (Kd.R_far (p := ⟨gb282, 0, none⟩) (Kd.R_mono HO_37.out (fun k_ hk => (⟨hk, hk.2.2.1⟩ : _ ∧ k_ ≠ gb282))) (fun _ hk => hk.2) (.int .i64 (wrap64 (x283000_3 + 1)))) (fun _ hk => ⟨hk.1.1, ⟨hk.1.2.1, hk.1.2.2.1⟩⟩)⟩, ⟨by (with_reducible repeat (first | apply Kd.R_alloc | apply Kd.R_drewN | apply Kd.R_drew)); exact Kd.R_mono (Kd.R_far (p := ⟨gb282, 0, none⟩) (Kd.R_mono HO_45.out (fun k_ hk => (⟨hk, hk.2.2.1⟩ : _ ∧ k_ ≠ gb282))) (fun _ hk => hk.2) (.int .i64 (wrap64 (x283000_3 + 1)))) (fun _ hk => ⟨hk.1.1, ⟨hk.1.2.1, hk.1.2.2.1⟩⟩)⟩, ⟨by (with_reducible repeat (first | refine blk_drewN ?_ _ | refine blk_drew ?_ | refine blk_alloc ?_ _)); refine blk_far ?_ NB281_282.out _; (with_reducible repeat (first | refine blk_drewN ?_ _ | refine blk_drew ?_ | refine blk_alloc ?_ _)); exact BK281.out⟩, ⟨by (with_reducible repeat (first | refine blk_drewN ?_ _ | refine blk_drew ?_ | refine blk_alloc ?_ _)); refine blk_put (cs := #[.int .i64 x283000_3, .int .i64 x283001_3]) ?_ 0 _ rfl; (with_reducible repeat (first | refine blk_drewN ?_ _ | refine blk_drew ?_ | refine blk_alloc ?_ _)); exact BK282.out⟩, ⟨by repeat (first | (with_reducible first | exact HB.out | apply below_alloc | apply pw_below_drewN | apply below_drew1 | refine below_set ?_ GE281.out | refine below_set ?_ GE282.out | refine below_set ?_ GE287.out) | exact HB.out)⟩⟩
                                    · rw [if_neg c46] at H
                                      have c46b0 : (x47_3 == x39_2) = false := beq_eq_false_iff_ne.mpr c46
                                      have c46b1 : (x47_3 != x39_2) = true := bne_iff_ne.mpr c46
                                      by_cases c50 : ((rd_T28 x4_1 x47_3).f1) > ((rd_T28 x4_1 x39_2).f0)
                                      · rw [if_pos c50] at H
                                        have c50b0 : decide (((rd_T28 x4_1 x39_2).f0) < ((rd_T28 x4_1 x47_3).f1)) = true := decide_eq_true c50
                                        clear c50
                                        have H' := Aside0.mk H
                                        clear H
                                        have hnb51 := NB282_281.out
                                        have hnc51 := NB281_282.out
                                        have hnb52 := NB282_287.out
                                        have hnc52 := NB287_282.out
                                        have hcz53_0 : wc.cell? ⟨gb282, 0, none⟩ = some (.int .i64 x283000_3) := (blk_cell BK282.out 0).trans rfl
                                        have hcz53_1 : wc.cell? ⟨gb282, 1, none⟩ = some (.int .i64 x283001_3) := (blk_cell BK282.out 1).trans rfl
                                        have hfz53_0 := blk_frozen BK282.out 0
                                        have hfz53_1 := blk_frozen BK282.out 1
                                        have hnb54 := NB287_281.out
                                        have hnc54 := NB281_287.out
                                        have hcz55_0 : wc.cell? ⟨gb287, 0, none⟩ = some (.int .i64 ((rd_T28 x4_1 x47_3).f0)) := (blk_cell BK287.out 0).trans rfl
                                        have hcz55_1 : wc.cell? ⟨gb287, 1, none⟩ = some (.int .i64 ((rd_T28 x4_1 x47_3).f1)) := (blk_cell BK287.out 1).trans rfl
                                        have hfz55_0 := blk_frozen BK287.out 0
                                        have hfz55_1 := blk_frozen BK287.out 1
                                        have hcz56_0 : wc.cell? ⟨gb281, 0, none⟩ = some (.int .i64 ((rd_T28 x4_1 x39_2).f0)) := (blk_cell BK281.out 0).trans rfl
                                        have hcz56_1 : wc.cell? ⟨gb281, 1, none⟩ = some (.int .i64 ((rd_T28 x4_1 x39_2).f1)) := (blk_cell BK281.out 1).trans rfl
                                        have hfz56_0 := blk_frozen BK281.out 0
                                        have hfz56_1 := blk_frozen BK281.out 1
                                        go_wp2
                                        go_roundg kj33
                                        case measure => have := HK1.out; have := HK2.out; have := HK3.out; have := HJ33.out; omega
                                        case rel => exact ⟨(wrap64 (x47_3 + 1)), (wrap64 (x283000_3 + 1)), (wrap64 (x283001_3 + 1)), (by first | rfl | (simp; done) | (simp [*]; done)), H', ⟨by have := HK1.out; have := HK2.out; have := HK3.out; have := HJ33.out; omega⟩, ⟨by (with_reducible repeat (first | apply Kd.R_alloc | apply Kd.R_drewN | apply Kd.R_drew)); exact Kd.R_mono (Kd.R_far (p := ⟨gb282, 1, none⟩) (Kd.R_far (p := ⟨gb282, 0, none⟩) (Kd.R_mono HO_4.out (fun k_ hk => (⟨hk, hk.2.2.1⟩ : _ ∧ k_ ≠ gb282))) (fun _ hk => hk.2) (.int .i64 (wrap64 (x283000_3 + 1)))) (fun _ hk => hk.2) (.int .i64 (wrap64 (x283001_3 + 1)))) (fun _ hk => ⟨hk.1.1, ⟨hk.1.2.1, hk.1.2.2.1⟩⟩)⟩, ⟨by (with_reducible repeat (first | apply Kd.R_alloc | apply Kd.R_drewN | apply Kd.R_drew)); exact Kd.R_mono (Kd.R_far (p := ⟨gb282, 1, none⟩) (Kd.R_far (p := ⟨gb282, 0, none⟩) (Kd.R_mono HO_5.out (fun k_ hk => (⟨hk, hk.2.2.2.2.1⟩ : _ ∧ k_ ≠ gb282))) (fun _ hk => hk.2) (.int .i64 (wrap64 (x283000_3 + 1)))) (fun _ hk => hk.2) (.int .i64 (wrap64 (x283001_3 + 1)))) (fun _ hk => ⟨hk.1.1, ⟨hk.1.2.1, ⟨hk.1.2.2.1, ⟨hk.1.2.2.2.1, hk.1.2.2.2.2.1⟩⟩⟩⟩)⟩, ⟨by (with_reducible repeat (first | apply Kd.R_alloc | apply Kd.R_drewN | apply Kd.R_drew)); exact Kd.R_mono (Kd.R_far (p := ⟨gb282, 1, none⟩) (Kd.R_far (p := ⟨gb282, 0, none⟩) (Kd.R_mono HO_37.out (fun k_ hk => (⟨hk, hk.2.2.1⟩ : _ ∧ k_ ≠ gb282))) (fun _ hk => hk.2) (.int .i64 (wrap64 (x283000_3 + 1)))) (fun _ hk => hk.2) (.int .i64 (wrap64 (x283001_3 + 1)))) (fun _ hk => ⟨hk.1.1, ⟨hk.1.2.1, hk.1.2.2.1⟩⟩)⟩, ⟨by (with_reducible repeat (first | apply Kd.R_alloc | apply Kd.R_drewN | apply Kd.R_drew)); exact Kd.R_mono (Kd.R_far (p := ⟨gb282, 1, none⟩) (Kd.R_far (p := ⟨gb282, 0, none⟩) (Kd.R_mono HO_45.out (fun k_ hk => (⟨hk, hk.2.2.1⟩ : _ ∧ k_ ≠ gb282))) (fun _ hk => hk.2) (.int .i64 (wrap64 (x283000_3 + 1)))) (fun _ hk => hk.2) (.int .i64 (wrap64 (x283001_3 + 1)))) (fun _ hk => ⟨hk.1.1, ⟨hk.1.2.1, hk.1.2.2.1⟩⟩)⟩, ⟨by (with_reducible repeat (first | refine blk_drewN ?_ _ | refine blk_drew ?_ | refine blk_alloc ?_ _)); refine blk_far ?_ NB281_282.out _; (with_reducible repeat (first | refine blk_drewN ?_ _ | refine blk_drew ?_ | refine blk_alloc ?_ _)); refine blk_far ?_ NB281_282.out _; (with_reducible repeat (first | refine blk_drewN ?_ _ | refine blk_drew ?_ | refine blk_alloc ?_ _)); exact BK281.out⟩, ⟨by (with_reducible repeat (first | refine blk_drewN ?_ _ | refine blk_drew ?_ | refine blk_alloc ?_ _)); refine blk_put (cs := #[.int .i64 (wrap64 (x283000_3 + 1)), .int .i64 x283001_3]) ?_ 1 _ rfl; (with_reducible repeat (first | refine blk_drewN ?_ _ | refine blk_drew ?_ | refine blk_alloc ?_ _)); refine blk_put (cs := #[.int .i64 x283000_3, .int .i64 x283001_3]) ?_ 0 _ rfl; (with_reducible repeat (first | refine blk_drewN ?_ _ | refine blk_drew ?_ | refine blk_alloc ?_ _)); exact BK282.out⟩, ⟨by repeat (first | (with_reducible first | exact HB.out | apply below_alloc | apply pw_below_drewN | apply below_drew1 | refine below_set ?_ GE281.out | refine below_set ?_ GE282.out | refine below_set ?_ GE287.out) | exact HB.out)⟩⟩
                                      · rw [if_neg c50] at H
                                        have c50b0 : decide (((rd_T28 x4_1 x39_2).f0) < ((rd_T28 x4_1 x47_3).f1)) = false := decide_eq_false c50
                                        clear c50
                                        have H' := Aside0.mk H
                                        clear H
                                        have hnb57 := NB282_281.out
                                        have hnc57 := NB281_282.out
                                        have hnb58 := NB282_287.out
                                        have hnc58 := NB287_282.out
                                        have hcz59_0 : wc.cell? ⟨gb282, 0, none⟩ = some (.int .i64 x283000_3) := (blk_cell BK282.out 0).trans rfl
                                        have hcz59_1 : wc.cell? ⟨gb282, 1, none⟩ = some (.int .i64 x283001_3) := (blk_cell BK282.out 1).trans rfl
                                        have hfz59_0 := blk_frozen BK282.out 0
                                        have hfz59_1 := blk_frozen BK282.out 1
                                        have hnb60 := NB287_281.out
                                        have hnc60 := NB281_287.out
                                        have hcz61_0 : wc.cell? ⟨gb287, 0, none⟩ = some (.int .i64 ((rd_T28 x4_1 x47_3).f0)) := (blk_cell BK287.out 0).trans rfl
                                        have hcz61_1 : wc.cell? ⟨gb287, 1, none⟩ = some (.int .i64 ((rd_T28 x4_1 x47_3).f1)) := (blk_cell BK287.out 1).trans rfl
                                        have hfz61_0 := blk_frozen BK287.out 0
                                        have hfz61_1 := blk_frozen BK287.out 1
                                        have hcz62_0 : wc.cell? ⟨gb281, 0, none⟩ = some (.int .i64 ((rd_T28 x4_1 x39_2).f0)) := (blk_cell BK281.out 0).trans rfl
                                        have hcz62_1 : wc.cell? ⟨gb281, 1, none⟩ = some (.int .i64 ((rd_T28 x4_1 x39_2).f1)) := (blk_cell BK281.out 1).trans rfl
                                        have hfz62_0 := blk_frozen BK281.out 0
                                        have hfz62_1 := blk_frozen BK281.out 1
                                        go_wp2
                                        go_roundg kj33
                                        case measure => have := HK1.out; have := HK2.out; have := HK3.out; have := HJ33.out; omega
                                        case rel => exact ⟨(wrap64 (x47_3 + 1)), (wrap64 (x283000_3 + 1)), (x283001_3), (by first | rfl | (simp; done) | (simp [*]; done)), H', ⟨by have := HK1.out; have := HK2.out; have := HK3.out; have := HJ33.out; omega⟩, ⟨by (with_reducible repeat (first | apply Kd.R_alloc | apply Kd.R_drewN | apply Kd.R_drew)); exact Kd.R_mono (Kd.R_far (p := ⟨gb282, 0, none⟩) (Kd.R_mono HO_4.out (fun k_ hk => (⟨hk, hk.2.2.1⟩ : _ ∧ k_ ≠ gb282))) (fun _ hk => hk.2) (.int .i64 (wrap64 (x283000_3 + 1)))) (fun _ hk => ⟨hk.1.1, ⟨hk.1.2.1, hk.1.2.2.1⟩⟩)⟩, ⟨by (with_reducible repeat (first | apply Kd.R_alloc | apply Kd.R_drewN | apply Kd.R_drew)); exact Kd.R_mono (Kd.R_far (p := ⟨gb282, 0, none⟩) (Kd.R_mono HO_5.out (fun k_ hk => (⟨hk, hk.2.2.2.2.1⟩ : _ ∧ k_ ≠ gb282))) (fun _ hk => hk.2) (.int .i64 (wrap64 (x283000_3 + 1)))) (fun _ hk => ⟨hk.1.1, ⟨hk.1.2.1, ⟨hk.1.2.2.1, ⟨hk.1.2.2.2.1, hk.1.2.2.2.2.1⟩⟩⟩⟩)⟩, ⟨by (with_reducible repeat (first | apply Kd.R_alloc | apply Kd.R_drewN | apply Kd.R_drew)); exact Kd.R_mono (Kd.R_far (p := ⟨gb282, 0, none⟩) (Kd.R_mono HO_37.out (fun k_ hk => (⟨hk, hk.2.2.1⟩ : _ ∧ k_ ≠ gb282))) (fun _ hk => hk.2) (.int .i64 (wrap64 (x283000_3 + 1)))) (fun _ hk => ⟨hk.1.1, ⟨hk.1.2.1, hk.1.2.2.1⟩⟩)⟩, ⟨by (with_reducible repeat (first | apply Kd.R_alloc | apply Kd.R_drewN | apply Kd.R_drew)); exact Kd.R_mono (Kd.R_far (p := ⟨gb282, 0, none⟩) (Kd.R_mono HO_45.out (fun k_ hk => (⟨hk, hk.2.2.1⟩ : _ ∧ k_ ≠ gb282))) (fun _ hk => hk.2) (.int .i64 (wrap64 (x283000_3 + 1)))) (fun _ hk => ⟨hk.1.1, ⟨hk.1.2.1, hk.1.2.2.1⟩⟩)⟩, ⟨by (with_reducible repeat (first | refine blk_drewN ?_ _ | refine blk_drew ?_ | refine blk_alloc ?_ _)); refine blk_far ?_ NB281_282.out _; (with_reducible repeat (first | refine blk_drewN ?_ _ | refine blk_drew ?_ | refine blk_alloc ?_ _)); exact BK281.out⟩, ⟨by (with_reducible repeat (first | refine blk_drewN ?_ _ | refine blk_drew ?_ | refine blk_alloc ?_ _)); refine blk_put (cs := #[.int .i64 x283000_3, .int .i64 x283001_3]) ?_ 0 _ rfl; (with_reducible repeat (first | refine blk_drewN ?_ _ | refine blk_drew ?_ | refine blk_alloc ?_ _)); exact BK282.out⟩, ⟨by repeat (first | (with_reducible first | exact HB.out | apply below_alloc | apply pw_below_drewN | apply below_drew1 | refine below_set ?_ GE281.out | refine below_set ?_ GE282.out | refine below_set ?_ GE287.out) | exact HB.out)⟩⟩
                                  · replace c45 := Bool.eq_false_iff.mpr c45
                                    subst c45
                                    have H1 : (if x47_3 = x39_2 then (exams_Ranks.l2 kj33 x4_1 x5_2 x39_2 x4_1 (x4_1.length : Int) x39_2 x4_1 (x4_1.length : Int) (wrap64 (x47_3 + 1)) ((rd_T28 x4_1 x39_2).f0) ((rd_T28 x4_1 x39_2).f1) x283000_3 x283001_3) else (if ((rd_T28 x4_1 x47_3).f1) > ((rd_T28 x4_1 x39_2).f0) then (exams_Ranks.l2 kj33 x4_1 x5_2 x39_2 x4_1 (x4_1.length : Int) x39_2 x4_1 (x4_1.length : Int) (wrap64 (x47_3 + 1)) ((rd_T28 x4_1 x39_2).f0) ((rd_T28 x4_1 x39_2).f1) x283000_3 (wrap64 (x283001_3 + 1))) else (exams_Ranks.l2 kj33 x4_1 x5_2 x39_2 x4_1 (x4_1.length : Int) x39_2 x4_1 (x4_1.length : Int) (wrap64 (x47_3 + 1)) ((rd_T28 x4_1 x39_2).f0) ((rd_T28 x4_1 x39_2).f1) x283000_3 x283001_3))) = some (r1, r2) := by rw [if_neg (show ¬ (false = true) by decide)] at H; exact H
                                    clear H
                                    have H := H1
                                    clear H1
                                    by_cases c63 : x47_3 = x39_2
                                    · rw [if_pos c63] at H
                                      have c63b0 : (x47_3 == x39_2) = true := beq_iff_eq.mpr c63
                                      have c63b1 : (x47_3 != x39_2) = false := bne_eq_false_iff_eq.mpr c63
                                      clear c63
                                      have H' := Aside0.mk H
                                      clear H
                                      go_wp2
                                      go_roundg kj33
                                      case measure => have := HK1.out; have := HK2.out; have := HK3.out; have := HJ33.out; omega
                                      case rel => exact ⟨(wrap64 (x47_3 + 1)), (x283000_3), (x283001_3), (by first | rfl | (simp; done) | (simp [*]; done)), H', ⟨by have := HK1.out; have := HK2.out; have := HK3.out; have := HJ33.out; omega⟩, ⟨by (with_reducible repeat (first | apply Kd.R_alloc | apply Kd.R_drewN | apply Kd.R_drew)); exact Kd.R_mono HO_4.out (fun _ hk => ⟨hk.1, ⟨hk.2.1, hk.2.2.1⟩⟩)⟩, ⟨by (with_reducible repeat (first | apply Kd.R_alloc | apply Kd.R_drewN | apply Kd.R_drew)); exact Kd.R_mono HO_5.out (fun _ hk => ⟨hk.1, ⟨hk.2.1, ⟨hk.2.2.1, ⟨hk.2.2.2.1, hk.2.2.2.2.1⟩⟩⟩⟩)⟩, ⟨by (with_reducible repeat (first | apply Kd.R_alloc | apply Kd.R_drewN | apply Kd.R_drew)); exact Kd.R_mono HO_37.out (fun _ hk => ⟨hk.1, ⟨hk.2.1, hk.2.2.1⟩⟩)⟩, ⟨by (with_reducible repeat (first | apply Kd.R_alloc | apply Kd.R_drewN | apply Kd.R_drew)); exact Kd.R_mono HO_45.out (fun _ hk => ⟨hk.1, ⟨hk.2.1, hk.2.2.1⟩⟩)⟩, ⟨by (with_reducible repeat (first | refine blk_drewN ?_ _ | refine blk_drew ?_ | refine blk_alloc ?_ _)); exact BK281.out⟩, ⟨by (with_reducible repeat (first | refine blk_drewN ?_ _ | refine blk_drew ?_ | refine blk_alloc ?_ _)); exact BK282.out⟩, ⟨by repeat (first | (with_reducible first | exact HB.out | apply below_alloc | apply pw_below_drewN | apply below_drew1 | refine below_set ?_ GE281.out | refine below_set ?_ GE282.out | refine below_set ?_ GE287.out) | exact HB.out)⟩⟩
                                    · rw [if_neg c63] at H
                                      have c63b0 : (x47_3 == x39_2) = false := beq_eq_false_iff_ne.mpr c63
                                      have c63b1 : (x47_3 != x39_2) = true := bne_iff_ne.mpr c63
                                      by_cases c64 : ((rd_T28 x4_1 x47_3).f1) > ((rd_T28 x4_1 x39_2).f0)
                                      · rw [if_pos c64] at H
                                        have c64b0 : decide (((rd_T28 x4_1 x39_2).f0) < ((rd_T28 x4_1 x47_3).f1)) = true := decide_eq_true c64
                                        clear c64
                                        have H' := Aside0.mk H
                                        clear H
                                        have hnb65 := NB287_281.out
                                        have hnc65 := NB281_287.out
                                        have hnb66 := NB287_282.out
                                        have hnc66 := NB282_287.out
                                        have hcz67_0 : wc.cell? ⟨gb287, 0, none⟩ = some (.int .i64 ((rd_T28 x4_1 x47_3).f0)) := (blk_cell BK287.out 0).trans rfl
                                        have hcz67_1 : wc.cell? ⟨gb287, 1, none⟩ = some (.int .i64 ((rd_T28 x4_1 x47_3).f1)) := (blk_cell BK287.out 1).trans rfl
                                        have hfz67_0 := blk_frozen BK287.out 0
                                        have hfz67_1 := blk_frozen BK287.out 1
                                        have hnb68 := NB281_282.out
                                        have hnc68 := NB282_281.out
                                        have hcz69_0 : wc.cell? ⟨gb281, 0, none⟩ = some (.int .i64 ((rd_T28 x4_1 x39_2).f0)) := (blk_cell BK281.out 0).trans rfl
                                        have hcz69_1 : wc.cell? ⟨gb281, 1, none⟩ = some (.int .i64 ((rd_T28 x4_1 x39_2).f1)) := (blk_cell BK281.out 1).trans rfl
                                        have hfz69_0 := blk_frozen BK281.out 0
                                        have hfz69_1 := blk_frozen BK281.out 1
                                        have hcz70_0 : wc.cell? ⟨gb282, 0, none⟩ = some (.int .i64 x283000_3) := (blk_cell BK282.out 0).trans rfl
                                        have hcz70_1 : wc.cell? ⟨gb282, 1, none⟩ = some (.int .i64 x283001_3) := (blk_cell BK282.out 1).trans rfl
                                        have hfz70_0 := blk_frozen BK282.out 0
                                        have hfz70_1 := blk_frozen BK282.out 1
                                        go_wp2
                                        go_roundg kj33
                                        case measure => have := HK1.out; have := HK2.out; have := HK3.out; have := HJ33.out; omega
                                        case rel => exact ⟨(wrap64 (x47_3 + 1)), (x283000_3), (wrap64 (x283001_3 + 1)), (by first | rfl | (simp; done) | (simp [*]; done)), H', ⟨by have := HK1.out; have := HK2.out; have := HK3.out; have := HJ33.out; omega⟩, ⟨by (with_reducible repeat (first | apply Kd.R_alloc | apply Kd.R_drewN | apply Kd.R_drew)); exact Kd.R_mono (Kd.R_far (p := ⟨gb282, 1, none⟩) (Kd.R_mono HO_4.out (fun k_ hk => (⟨hk, hk.2.2.1⟩ : _ ∧ k_ ≠ gb282))) (fun _ hk => hk.2) (.int .i64 (wrap64 (x283001_3 + 1)))) (fun _ hk => ⟨hk.1.1, ⟨hk.1.2.1, hk.1.2.2.1⟩⟩)⟩, ⟨by (with_reducible repeat (first | apply Kd.R_alloc | apply Kd.R_drewN | apply Kd.R_drew)); exact Kd.R_mono (Kd.R_far (p := ⟨gb282, 1, none⟩) (Kd.R_mono HO_5.out (fun k_ hk => (⟨hk, hk.2.2.2.2.1⟩ : _ ∧ k_ ≠ gb282))) (fun _ hk => hk.2) (.int .i64 (wrap64 (x283001_3 + 1)))) (fun _ hk => ⟨hk.1.1, ⟨hk.1.2.1, ⟨hk.1.2.2.1, ⟨hk.1.2.2.2.1, hk.1.2.2.2.2.1⟩⟩⟩⟩)⟩, ⟨by (with_reducible repeat (first | apply Kd.R_alloc | apply Kd.R_drewN | apply Kd.R_drew)); exact Kd.R_mono (Kd.R_far (p := ⟨gb282, 1, none⟩) (Kd.R_mono HO_37.out (fun k_ hk => (⟨hk, hk.2.2.1⟩ : _ ∧ k_ ≠ gb282))) (fun _ hk => hk.2) (.int .i64 (wrap64 (x283001_3 + 1)))) (fun _ hk => ⟨hk.1.1, ⟨hk.1.2.1, hk.1.2.2.1⟩⟩)⟩, ⟨by (with_reducible repeat (first | apply Kd.R_alloc | apply Kd.R_drewN | apply Kd.R_drew)); exact Kd.R_mono (Kd.R_far (p := ⟨gb282, 1, none⟩) (Kd.R_mono HO_45.out (fun k_ hk => (⟨hk, hk.2.2.1⟩ : _ ∧ k_ ≠ gb282))) (fun _ hk => hk.2) (.int .i64 (wrap64 (x283001_3 + 1)))) (fun _ hk => ⟨hk.1.1, ⟨hk.1.2.1, hk.1.2.2.1⟩⟩)⟩, ⟨by (with_reducible repeat (first | refine blk_drewN ?_ _ | refine blk_drew ?_ | refine blk_alloc ?_ _)); refine blk_far ?_ NB281_282.out _; (with_reducible repeat (first | refine blk_drewN ?_ _ | refine blk_drew ?_ | refine blk_alloc ?_ _)); exact BK281.out⟩, ⟨by (with_reducible repeat (first | refine blk_drewN ?_ _ | refine blk_drew ?_ | refine blk_alloc ?_ _)); refine blk_put (cs := #[.int .i64 x283000_3, .int .i64 x283001_3]) ?_ 1 _ rfl; (with_reducible repeat (first | refine blk_drewN ?_ _ | refine blk_drew ?_ | refine blk_alloc ?_ _)); exact BK282.out⟩, ⟨by repeat (first | (with_reducible first | exact HB.out | apply below_alloc | apply pw_below_drewN | apply below_drew1 | refine below_set ?_ GE281.out | refine below_set ?_ GE282.out | refine below_set ?_ GE287.out) | exact HB.out)⟩⟩
                                      · rw [if_neg c64] at H
                                        have c64b0 : decide (((rd_T28 x4_1 x39_2).f0) < ((rd_T28 x4_1 x47_3).f1)) = false := decide_eq_false c64
                                        clear c64
                                        have H' := Aside0.mk H
                                        clear H
                                        have hnb71 := NB287_281.out
                                        have hnc71 := NB281_287.out
                                        have hnb72 := NB287_282.out
                                        have hnc72 := NB282_287.out
                                        have hcz73_0 : wc.cell? ⟨gb287, 0, none⟩ = some (.int .i64 ((rd_T28 x4_1 x47_3).f0)) := (blk_cell BK287.out 0).trans rfl
                                        have hcz73_1 : wc.cell? ⟨gb287, 1, none⟩ = some (.int .i64 ((rd_T28 x4_1 x47_3).f1)) := (blk_cell BK287.out 1).trans rfl
                                        have hfz73_0 := blk_frozen BK287.out 0
                                        have hfz73_1 := blk_frozen BK287.out 1
                                        have hnb74 := NB281_282.out
                                        have hnc74 := NB282_281.out
                                        have hcz75_0 : wc.cell? ⟨gb281, 0, none⟩ = some (.int .i64 ((rd_T28 x4_1 x39_2).f0)) := (blk_cell BK281.out 0).trans rfl
                                        have hcz75_1 : wc.cell? ⟨gb281, 1, none⟩ = some (.int .i64 ((rd_T28 x4_1 x39_2).f1)) := (blk_cell BK281.out 1).trans rfl
                                        have hfz75_0 := blk_frozen BK281.out 0
                                        have hfz75_1 := blk_frozen BK281.out 1
                                        go_wp2
                                        go_roundg kj33
                                        case measure => have := HK1.out; have := HK2.out; have := HK3.out; have := HJ33.out; omega
                                        case rel => exact ⟨(wrap64 (x47_3 + 1)), (x283000_3), (x283001_3), (by first | rfl | (simp; done) | (simp [*]; done)), H', ⟨by have := HK1.out; have := HK2.out; have := HK3.out; have := HJ33.out; omega⟩, ⟨by (with_reducible repeat (first | apply Kd.R_alloc | apply Kd.R_drewN | apply Kd.R_drew)); exact Kd.R_mono HO_4.out (fun _ hk => ⟨hk.1, ⟨hk.2.1, hk.2.2.1⟩⟩)⟩, ⟨by (with_reducible repeat (first | apply Kd.R_alloc | apply Kd.R_drewN | apply Kd.R_drew)); exact Kd.R_mono HO_5.out (fun _ hk => ⟨hk.1, ⟨hk.2.1, ⟨hk.2.2.1, ⟨hk.2.2.2.1, hk.2.2.2.2.1⟩⟩⟩⟩)⟩, ⟨by (with_reducible repeat (first | apply Kd.R_alloc | apply Kd.R_drewN | apply Kd.R_drew)); exact Kd.R_mono HO_37.out (fun _ hk => ⟨hk.1, ⟨hk.2.1, hk.2.2.1⟩⟩)⟩, ⟨by (with_reducible repeat (first | apply Kd.R_alloc | apply Kd.R_drewN | apply Kd.R_drew)); exact Kd.R_mono HO_45.out (fun _ hk => ⟨hk.1, ⟨hk.2.1, hk.2.2.1⟩⟩)⟩, ⟨by (with_reducible repeat (first | refine blk_drewN ?_ _ | refine blk_drew ?_ | refine blk_alloc ?_ _)); exact BK281.out⟩, ⟨by (with_reducible repeat (first | refine blk_drewN ?_ _ | refine blk_drew ?_ | refine blk_alloc ?_ _)); exact BK282.out⟩, ⟨by repeat (first | (with_reducible first | exact HB.out | apply below_alloc | apply pw_below_drewN | apply below_drew1 | refine below_set ?_ GE281.out | refine below_set ?_ GE282.out | refine below_set ?_ GE287.out) | exact HB.out)⟩⟩
                            · rw [if_neg c33] at H
                              exact absurd H (by simp)
                          · rw [if_neg c32] at H
                            exact absurd H (by simp)
                        · rw [if_neg c31] at H
                          have c31b0 : decide (x47_3 < (x4_1.length : Int)) = false := decide_eq_false c31
                          clear c31
                          by_cases c76 : x5_2.length < 8796093022208
                          · rw [if_pos c76] at H
                            have LMc76 := Aside0.mk c76
                            clear c76
                            obtain ⟨y283, hy283⟩ : ∃ y_ : List (S28), y_ = (x5_2 ++ [(⟨x283000_3, x283001_3⟩ : S28)]) := ⟨_, rfl⟩
                            replace H : (exams_Ranks.l1 k3 x4_1 y283 x4_1 (x4_1.length : Int) (wrap64 (x39_2 + 1))) = some (r1, r2) := by first | (rw [hy283]; with_reducible exact H) | (have H2_ := (Option.bind_some _ _).symm.trans H; rw [hy283]; with_reducible exact H2_) | (have H2_ := (Option.bind_some _ _).symm.trans H; with_reducible exact H2_) | with_reducible exact H | (rw [hy283]; exact H) | exact H
                            have Ny283 := Aside0.mk hy283
                            clear hy283
                            have H' := Aside0.mk H
                            clear H
                            have hnb77 := NB282_281.out
                            have hnc77 := NB281_282.out
                            have hcz78_0 : wr.cell? ⟨gb282, 0, none⟩ = some (.int .i64 x283000_3) := (blk_cell BK282.out 0).trans rfl
                            have hcz78_1 : wr.cell? ⟨gb282, 1, none⟩ = some (.int .i64 x283001_3) := (blk_cell BK282.out 1).trans rfl
                            have hfz78_0 := blk_frozen BK282.out 0
                            have hfz78_1 := blk_frozen BK282.out 1
                            go_wp2_with (first | ((with_reducible refine gate_builtin (b := .append) (xs := #[.tmp 81, .tmp 83]) rfl ?_); at_builtin; refine Kd.R_append k28 (w0 := w) w.heap.size rfl (.tmp 81) (.tmp 83) 46 28 (.agg #[(.int .i64 0), (.int .i64 0)]) 16 rfl Try.underlying46 info28 rfl (by decide) (by omega) u5 x5_2 (⟨x283000_3, x283001_3⟩ : S28) [.int .i64 x283000_3, .int .i64 x283001_3] (fun k_ => some k_ ≠ (.slice (some ad280) x4_1.length co22 : Value).ownBlock ∧ some k_ ≠ (.slice (some ad280) x4_1.length co22 : Value).ownBlock ∧ some k_ ≠ (.slice (some ad280) x4_1.length co22 : Value).ownBlock ∧ k_ ≠ gb281 ∧ k_ ≠ gb282) (fun _ => False) rfl rfl ?aP (fun _ hk => hk.elim) ?aF ?aO ?aB ?aS ?aL ?_; (case aP => exact k28_mkM _ _ _ (⟨x283000_3, x283001_3⟩ : S28)); (case aB => exact (by repeat (first | (with_reducible first | exact HB.out | apply below_alloc | apply pw_below_drewN | apply below_drew1 | refine below_set ?_ GE281.out | refine below_set ?_ GE282.out) | exact HB.out))); (case aF => exact (fun k_ hk => ⟨Kd.fresh' (Kd.R_lt (by (with_reducible repeat (first | apply Kd.R_alloc | apply Kd.R_drewN | apply Kd.R_drew)); exact HO_4.out)) k_ hk, Kd.fresh' (Kd.R_lt (by (with_reducible repeat (first | apply Kd.R_alloc | apply Kd.R_drewN | apply Kd.R_drew)); exact HO_37.out)) k_ hk, Kd.fresh' (Kd.R_lt (by (with_reducible repeat (first | apply Kd.R_alloc | apply Kd.R_drewN | apply Kd.R_drew)); exact HO_45.out)) k_ hk, Kd.freshB (g := gb281) (o := .cells #[.int .i64 ((rd_T28 x4_1 x39_2).f0), .int .i64 ((rd_T28 x4_1 x39_2).f1)] 28 (0, 0)) (by (with_reducible repeat (first | refine blk_drewN ?_ _ | refine blk_drew ?_ | refine blk_alloc ?_ _)); exact BK281.out) k_ hk, Kd.freshB (g := gb282) (o := .cells #[.int .i64 x283000_3, .int .i64 x283001_3] 28 (0, 0)) (by (with_reducible repeat (first | refine blk_drewN ?_ _ | refine blk_drew ?_ | refine blk_alloc ?_ _)); exact BK282.out) k_ hk⟩)); (case aO => exact (by (with_reducible repeat (first | apply Kd.R_alloc | apply Kd.R_drewN | apply Kd.R_drew)); exact HO_5.out)); (case aS => exact (below_size (by repeat (first | (with_reducible first | exact HB.out | apply below_alloc | apply pw_below_drewN | apply below_drew1 | refine below_set ?_ GE281.out | refine below_set ?_ GE282.out) | exact HB.out)))); (case aL => have := LMc76.out; omega); intro v284 w79 ho hb hg hat; rw [← Ny283.out] at ho; have n0_ := Aside0.mk (Kd.R_after (ok := (fun k_ => k_ ≠ gb281 ∧ k_ ≠ gb282)) (by (with_reducible repeat (first | apply Kd.R_alloc | apply Kd.R_drewN | apply Kd.R_drew)); exact Kd.R_mono HO_4.out (fun _ hk => ⟨⟨hk.2.1, hk.2.2⟩, hk.1⟩)) hg hat); have n1_ := Aside0.mk (Kd.R_after (ok := (fun k_ => k_ ≠ gb281 ∧ k_ ≠ gb282)) (by (with_reducible repeat (first | apply Kd.R_alloc | apply Kd.R_drewN | apply Kd.R_drew)); exact Kd.R_mono HO_37.out (fun _ hk => ⟨⟨hk.2.1, hk.2.2⟩, hk.1⟩)) hg hat); have n2_ := Aside0.mk (Kd.R_after (ok := (fun k_ => k_ ≠ gb281 ∧ k_ ≠ gb282)) (by (with_reducible repeat (first | apply Kd.R_alloc | apply Kd.R_drewN | apply Kd.R_drew)); exact Kd.R_mono HO_45.out (fun _ hk => ⟨⟨hk.2.1, hk.2.2⟩, hk.1⟩)) hg hat); have n3_ := Aside0.mk (blk_grown (g := gb281) (o := .cells #[.int .i64 ((rd_T28 x4_1 x39_2).f0), .int .i64 ((rd_T28 x4_1 x39_2).f1)] 28 (0, 0)) (by (with_reducible repeat (first | refine blk_drewN ?_ _ | refine blk_drew ?_ | refine blk_alloc ?_ _)); exact BK281.out) hg (Kd.R_away HO_5.out (fun _ hk => hk.2.2.2.1))); have n4_ := Aside0.mk (blk_grown (g := gb282) (o := .cells #[.int .i64 x283000_3, .int .i64 x283001_3] 28 (0, 0)) (by (with_reducible repeat (first | refine blk_drewN ?_ _ | refine blk_drew ?_ | refine blk_alloc ?_ _)); exact BK282.out) hg (Kd.R_away HO_5.out (fun _ hk => hk.2.2.2.2))); have n5_ := Aside0.mk (hb); have n6_ := Aside0.mk (ho); clear HO_4; clear HO_37; clear HO_45; clear BK281; clear BK282; clear HB; clear HO_5; have HO_4 := n0_; have HO_37 := n1_; have HO_45 := n2_; have BK281 := n3_; have BK282 := n4_; have HB := n5_; have HO285 := n6_; clear n0_ n1_ n2_ n3_ n4_ n5_ n6_; clear ho hb hg hat))
                            go_roundg k3
                            case measure => have := HK1.out; have := HK2.out; have := HK3.out; omega
                            case rel => exact ⟨(y283), (wrap64 (x39_2 + 1)), (by first | rfl | (simp; done) | (simp [*]; done)), H', ⟨by have := HK1.out; have := HK2.out; have := HK3.out; omega⟩, ⟨by (with_reducible repeat (first | apply Kd.R_alloc | apply Kd.R_drewN | apply Kd.R_drew)); exact Kd.R_mono HO_4.out (fun _ hk => hk.2)⟩, ⟨by (with_reducible repeat (first | apply Kd.R_alloc | apply Kd.R_drewN | apply Kd.R_drew)); exact Kd.R_mono HO285.out (fun _ hk => ⟨hk.1, hk.2.1⟩)⟩, ⟨by (with_reducible repeat (first | apply Kd.R_alloc | apply Kd.R_drewN | apply Kd.R_drew)); exact Kd.R_mono HO_37.out (fun _ hk => hk.2)⟩, ⟨by repeat (first | (with_reducible first | exact HB.out | apply below_alloc | apply pw_below_drewN | apply below_drew1 | refine below_set ?_ GE281.out | refine below_set ?_ GE282.out) | exact HB.out)⟩⟩
                          · rw [if_neg c76] at H
                            exact absurd H (by simp)
                  · rw [if_neg c25] at H
                    exact absurd H (by simp)
                · rw [if_neg c24] at H
                  exact absurd H (by simp)
              · rw [if_neg c23] at H
                have c23b0 : decide (x39_2 < (x4_1.length : Int)) = false := decide_eq_false c23
                clear c23
                simp only [Option.some.injEq, Prod.mk.injEq] at H
                obtain ⟨rfl, rfl⟩ := H
                go_wp2
                go_ret2
                exact ⟨_, by first | rfl | (simp [errW_none, errW_some] <;> rfl) | (simp [*, errW_none, errW_some] <;> rfl), by (with_reducible repeat (first | apply Kd.R_alloc | apply Kd.R_drewN | apply Kd.R_drew)); exact Kd.R_mono HO_5.out (fun _ hk => trivial), by repeat (first | (with_reducible first | exact HB.out | apply below_alloc | apply pw_below_drewN | apply below_drew1) | exact HB.out)⟩

/-! ### handshapelaw09_inside: function 16 -/
def handshapelaw09_inside.f (a0 : Int) (a1_0 : Int) (a1_1 : Int) : Option (Bool) := if a0 ≥ a1_0 then (some (decide (a0 ≤ a1_1))) else (some false)
set_option maxHeartbeats 8000000 in
set_option maxRecDepth 100000 in
theorem handshapelaw09_inside.calls (a0 : Int) (a1_0 : Int) (a1_1 : Int) (r : Bool) (w : World) (h : handshapelaw09_inside.f a0 a1_0 a1_1 = some r) :
    Calls Try.prog 16 #[.int .i64 a0, .agg #[.int .i64 a1_0, .int .i64 a1_1]] w fun e w' => e = .returned (.bool r) ∧ Below w.heap.size w w' := by
  have hu28 := Try.underlying28
  have HB := Aside0.mk (Below.refl w.heap.size w)
  have H : (if a0 ≥ a1_0 then (some (decide (a0 ≤ a1_1))) else (some false)) = some r := h
  clear h
  by_cases c3 : a0 ≥ a1_0
  · rw [if_pos c3] at H
    have c3b0 : decide (a1_0 ≤ a0) = true := decide_eq_true c3
    clear c3
    obtain rfl := Option.some.inj H
    go_enter Try.func16, Try.ntmps16
    go_wp2_with (first | ((with_reducible refine gate_dst (N := 3) rfl ?_); refine box_event ?hg (N := 3) ?hd (cs := #[.int .i64 a1_0, .int .i64 a1_1]) (t := 28) ?hr ?_; (case hd => rfl); (case hg => rfl); (case hr => first | (go_simp; done) | (go_simp; rfl)); intro gb288 hg w4 hbox hb; have n0_ := Aside0.mk (below_step (by repeat (first | (with_reducible first | exact HB.out | apply below_alloc | apply pw_below_drewN | apply below_drew1) | exact HB.out)) hb); have n1_ := Aside0.mk (hbox); have n2_ := Aside0.mk ((by rw [hg]; exact (below_size (by repeat (first | (with_reducible first | exact HB.out | apply below_alloc | apply pw_below_drewN | apply below_drew1) | exact HB.out))) : w.heap.size ≤ gb288)); have n3_ := Aside0.mk ((by rw [hg]; exact (below_size (by repeat (first | (with_reducible first | exact HB.out | apply below_alloc | apply pw_below_drewN | apply below_drew1) | exact HB.out))) : w.heap.size ≤ gb288)); clear HB; have HB := n0_; have BK288 := n1_; have GW288 := n2_; have GE288 := n3_; clear n0_ n1_ n2_ n3_; clear hb hbox hg; have hcz5_0 : w4.cell? ⟨gb288, 0, none⟩ = some (.int .i64 a1_0) := (blk_cell BK288.out 0).trans rfl; have hcz5_1 : w4.cell? ⟨gb288, 1, none⟩ = some (.int .i64 a1_1) := (blk_cell BK288.out 1).trans rfl; have hfz5_0 := blk_frozen BK288.out 0; have hfz5_1 := blk_frozen BK288.out 1))
    go_ret
    exact ⟨by first | rfl | (simp [errW_none, errW_some] <;> rfl) | (simp [*, errW_none, errW_some] <;> rfl), by repeat (first | (with_reducible first | exact HB.out | apply below_alloc | apply pw_below_drewN | apply below_drew1 | refine below_set ?_ GE288.out) | exact HB.out)⟩
  · rw [if_neg c3] at H
    have c3b0 : decide (a1_0 ≤ a0) = false := decide_eq_false c3
    clear c3
    obtain rfl := Option.some.inj H
    go_enter Try.func16, Try.ntmps16
    go_wp2_with (first | ((with_reducible refine gate_dst (N := 3) rfl ?_); refine box_event ?hg (N := 3) ?hd (cs := #[.int .i64 a1_0, .int .i64 a1_1]) (t := 28) ?hr ?_; (case hd => rfl); (case hg => rfl); (case hr => first | (go_simp; done) | (go_simp; rfl)); intro gb288 hg w6 hbox hb; have n0_ := Aside0.mk (below_step (by repeat (first | (with_reducible first | exact HB.out | apply below_alloc | apply pw_below_drewN | apply below_drew1) | exact HB.out)) hb); have n1_ := Aside0.mk (hbox); have n2_ := Aside0.mk ((by rw [hg]; exact (below_size (by repeat (first | (with_reducible first | exact HB.out | apply below_alloc | apply pw_below_drewN | apply below_drew1) | exact HB.out))) : w.heap.size ≤ gb288)); have n3_ := Aside0.mk ((by rw [hg]; exact (below_size (by repeat (first | (with_reducible first | exact HB.out | apply below_alloc | apply pw_below_drewN | apply below_drew1) | exact HB.out))) : w.heap.size ≤ gb288)); clear HB; have HB := n0_; have BK288 := n1_; have GW288 := n2_; have GE288 := n3_; clear n0_ n1_ n2_ n3_; clear hb hbox hg; have hcz7_0 : w6.cell? ⟨gb288, 0, none⟩ = some (.int .i64 a1_0) := (blk_cell BK288.out 0).trans rfl; have hcz7_1 : w6.cell? ⟨gb288, 1, none⟩ = some (.int .i64 a1_1) := (blk_cell BK288.out 1).trans rfl; have hfz7_0 := blk_frozen BK288.out 0; have hfz7_1 := blk_frozen BK288.out 1))
    go_ret
    exact ⟨by first | rfl | (simp [errW_none, errW_some] <;> rfl) | (simp [*, errW_none, errW_some] <;> rfl), by repeat (first | (with_reducible first | exact HB.out | apply below_alloc | apply pw_below_drewN | apply below_drew1 | refine below_set ?_ GE288.out) | exact HB.out)⟩

end Go.Proofs.Ytinnjghpmambiaa.Print
