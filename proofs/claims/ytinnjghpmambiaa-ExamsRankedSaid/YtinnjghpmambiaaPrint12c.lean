-- Written for this claim by wip/pr.py of this work, which runs the kit's print.py with some contracts given by hand. Lean checks it.
import Derived.Test.YtinnjghpmambiaaPrint0
import Derived.Test.YtinnjghpmambiaaPrint4
import Derived.Test.YtinnjghpmambiaaPrint5
import Derived.Test.YtinnjghpmambiaaPrint10
import Derived.Test.YtinnjghpmambiaaPrint11
import Derived.Test.YtinnjghpmambiaaExC
import Derived.Test.YtinnjghpmambiaaPrint12d
namespace Go.Proofs.Ytinnjghpmambiaa.Print
open Go.RowKit Go.Proofs.YtinnjghpmambiaaW.PrintWords Go.Proofs.YtinnjghpmambiaaW.PrintLast Go.Proofs.YtinnjghpmambiaaW.PrintMore
attribute [local go_sem] max2_int min2_int max_two min_two max_three min_three max_four min_four   -- for this text's walks alone
set_option linter.unusedVariables false
set_option linter.unusedSimpArgs false

open Go.Proofs.Ytinnjghpmambiaa.Ext
namespace handshapelaw09_ExamsRankedZ
theorem z1_ {P : Prop} (h : P := by repeat (first | (with_reducible first | exact HB.out | apply below_alloc | apply pw_below_drewN | apply below_drew1) | exact HB.out)) : P := h
theorem z2_ {P : Prop} (h : P := by repeat (first | (with_reducible first | exact HB.out | apply below_alloc | apply pw_below_drewN | apply below_drew1) | exact HB.out)) : P := h
theorem z3_ {P : Prop} (h : P := by first | (with_reducible assumption) | assumption) : P := h
theorem z4_ {P : Prop} (h : P := by repeat (first | (with_reducible first | exact HB.out | apply below_alloc | apply pw_below_drewN | apply below_drew1 | refine below_set ?_ GE318.out) | exact HB.out)) : P := h
theorem z5_ {P : Prop} (h : P := by (try simp only [List.map_toArray, List.map_cons, List.map_nil]); first | done | rfl | (simp only [List.length_drop, List.length_take]; rfl)) : P := h
theorem z6_ {P : Prop} (h : P := by (with_reducible repeat (first | apply Kd.R_alloc | apply Kd.R_drewN | apply Kd.R_drew)); exact HO_5.out) : P := h
theorem z7_ {P : Prop} (h : P := by (with_reducible repeat (first | apply Kd.R_alloc | apply Kd.R_drewN | apply Kd.R_drew)); exact HO_5.out) : P := h
theorem z8_ {P : Prop} (h : P := by first | rfl | (simp; done) | (simp [*]; done)) : P := h
theorem z9_ {P : Prop} (h : P := by (with_reducible repeat (first | apply Kd.R_alloc | apply Kd.R_drewN | apply Kd.R_drew)); exact HO_7.out) : P := h
theorem z10_ {P : Prop} (h : P := by first | (rw [add_block]; exact hn319_0) | (show (Addr.add _ _).block ≠ _; rw [add_block]; exact hn319_0) | exact hn319_0) : P := h
theorem z11_ {P : Prop} (h : P := by first | (rw [add_block]; exact hn319_1) | (show (Addr.add _ _).block ≠ _; rw [add_block]; exact hn319_1) | exact hn319_1) : P := h
theorem z12_ {P : Prop} (h : P := by (with_reducible repeat (first | apply Kd.R_alloc | apply Kd.R_drewN | apply Kd.R_drew)); exact HO_7.out) : P := h
theorem z13_ {P : Prop} (h : P := by (with_reducible repeat (first | refine blk_drewN ?_ _ | refine blk_drew ?_ | refine blk_alloc ?_ _)); exact BK318.out) : P := h
theorem z14_ {P : Prop} (h : P := by repeat (first | (with_reducible first | exact HB.out | apply below_alloc | apply pw_below_drewN | apply below_drew1 | refine below_set ?_ GE318.out | refine below_set ?_ GE323.out) | exact HB.out)) : P := h
theorem z15_ {P : Prop} (h : P := by (with_reducible repeat (first | refine blk_drewN ?_ _ | refine blk_drew ?_ | refine blk_alloc ?_ _)); refine blk_put (cs := #[.int .i64 t315, .int .i64 0]) ?_ 1 _ rfl; (with_reducible repeat (first | refine blk_drewN ?_ _ | refine blk_drew ?_ | refine blk_alloc ?_ _)); refine blk_put (cs := #[.int .i64 0, .int .i64 0]) ?_ 0 _ rfl; (with_reducible repeat (first | refine blk_drewN ?_ _ | refine blk_drew ?_ | refine blk_alloc ?_ _)); exact BK318.out) : P := h
theorem z16_ {P : Prop} (h : P := by (with_reducible repeat (first | refine blk_drewN ?_ _ | refine blk_drew ?_ | refine blk_alloc ?_ _)); refine blk_put (cs := #[.int .i64 t320, .int .i64 0]) ?_ 1 _ rfl; (with_reducible repeat (first | refine blk_drewN ?_ _ | refine blk_drew ?_ | refine blk_alloc ?_ _)); refine blk_put (cs := #[.int .i64 0, .int .i64 0]) ?_ 0 _ rfl; (with_reducible repeat (first | refine blk_drewN ?_ _ | refine blk_drew ?_ | refine blk_alloc ?_ _)); exact BK323.out) : P := h
theorem z17_ {P : Prop} (h : P := by (with_reducible repeat (first | refine blk_drewN ?_ _ | refine blk_drew ?_ | refine blk_alloc ?_ _)); refine blk_far ?_ NB318_323.out _; (with_reducible repeat (first | refine blk_drewN ?_ _ | refine blk_drew ?_ | refine blk_alloc ?_ _)); refine blk_far ?_ NB318_323.out _; (with_reducible repeat (first | refine blk_drewN ?_ _ | refine blk_drew ?_ | refine blk_alloc ?_ _)); exact BK318.out) : P := h
theorem z18_ {P : Prop} (h : P := by (with_reducible repeat (first | apply Kd.R_alloc | apply Kd.R_drewN | apply Kd.R_drew)); exact Kd.R_mono (Kd.R_far (p := ⟨gb323, 1, none⟩) (Kd.R_far (p := ⟨gb323, 0, none⟩) (Kd.R_mono HO_7.out (fun k_ hk => (⟨hk, hk.2⟩ : _ ∧ k_ ≠ gb323))) (fun _ hk => hk.2) (.int .i64 t320)) (fun _ hk => hk.2) (.int .i64 t321)) (fun _ hk => ⟨hk.1.1.2, hk.1.2⟩)) : P := h
theorem z19_ {P : Prop} (h : P := by (with_reducible repeat (first | apply Kd.R_alloc | apply Kd.R_drewN | apply Kd.R_drew)); exact (Kd.R_mono (Kd.R_far (p := ⟨gb318, 1, none⟩) (Kd.R_far (p := ⟨gb318, 0, none⟩) (Kd.R_mono HO_7.out (fun k_ hk => (⟨hk, hk.2⟩ : _ ∧ k_ ≠ gb318))) (fun _ hk => hk.2) (.int .i64 t315)) (fun _ hk => hk.2) (.int .i64 t316)) (fun _ h_ => h_.1))) : P := h
theorem z20_ {P : Prop} (h : P := by (with_reducible repeat (first | apply Kd.R_alloc | apply Kd.R_drewN | apply Kd.R_drew)); exact (Kd.R_mono (Kd.R_far (p := ⟨gb318, 1, none⟩) (Kd.R_far (p := ⟨gb318, 0, none⟩) (Kd.R_types HO_5.out BK318.out (by decide)) (fun _ hk => hk.2) (.int .i64 t315)) (fun _ hk => hk.2) (.int .i64 t316)) (fun _ h_ => h_.1))) : P := h
theorem z21_ {P : Prop} (h : P := by (with_reducible repeat (first | apply Kd.R_alloc | apply Kd.R_drewN | apply Kd.R_drew)); exact Kd.R_mono (Kd.R_far (p := ⟨gb323, 1, none⟩) (Kd.R_far (p := ⟨gb323, 0, none⟩) (Kd.R_types HO_5.out BK323.out (by decide)) (fun _ hk => hk.2) (.int .i64 t320)) (fun _ hk => hk.2) (.int .i64 t321)) (fun _ hk => trivial)) : P := h
theorem z22_ {P : Prop} (h : P := by have := HJ2.out; have := HK2.out; first | omega | exact Nat.le_refl _) : P := h
theorem z23_ {P : Prop} (h : P := by have := World.block_lt_of_cell? _ _ hx319_0; first | rwa [add_block] at this | exact this) : P := h
theorem z24_ {P : Prop} (h : P := by have := HJ2.out; have := HK2.out; have := HJ34.out; have := HK4.out; have := HK5.out; have := HJ50.out; have := HK7.out; omega) : P := h
theorem z25_ {P : Prop} (h : P := by have := HJ2.out; have := HK2.out; have := HJ34.out; have := HK4.out; have := HK5.out; first | omega | exact Nat.le_refl _) : P := h
theorem z26_ {P : Prop} (h : P := by first | rfl | (simp [errW_none, errW_some] <;> rfl) | (simp [*, errW_none, errW_some] <;> rfl)) : P := h
theorem z27_ {P : Prop} (h : P := by rw [hg]; exact (below_size z1_)) : P := h
theorem z28_ {P : Prop} (h : P := by rw [hg]; exact (below_size z4_)) : P := h
theorem z29_ {P : Prop} (h : P := by (with_reducible repeat (first | apply Kd.R_alloc | apply Kd.R_drewN | apply Kd.R_drew)); exact Kd.R_mono HO_7.out (fun _ hk => trivial)) : P := h
theorem z30_ {P : Prop} (h : P := by rw [hg]; exact Nat.ne_of_lt (blk_lt (g := gb318) (o := .cells #[.int .i64 t315, .int .i64 t316] 28 (0, 0)) z13_)) : P := h
theorem z31_ {P : Prop} (h : P := by rw [hg]; exact Nat.ne_of_gt (blk_lt (g := gb318) (o := .cells #[.int .i64 t315, .int .i64 t316] 28 (0, 0)) z13_)) : P := h
end handshapelaw09_ExamsRankedZ
open handshapelaw09_ExamsRankedZ
set_option maxHeartbeats 8000000 in
set_option maxRecDepth 100000 in
theorem handshapelaw09_ExamsRanked.calls (k : Nat) (A0 : Option Addr) (c0 : Nat) (l0 : List (S26)) (A1 : Option Addr) (c1 : Nat) (l1 : List (List Int)) (r : Bool) (w : World) (hr0 : Kd.C k26 w A0 l0.length l0) (hc0 : l0.length ≤ c0) (hr1 : Kd.C (Kd.slice 3 (Kd.int .i64)) w A1 l1.length l1) (hc1 : l1.length ≤ c1) (h : handshapelaw09_ExamsRanked.f k l0 l1 = some r) :
    Calls Try.prog 4 #[.slice A0 l0.length c0, .slice A1 l1.length c1] w fun e w' => e = .returned (.bool r) ∧ Below w.heap.size w w' := by
  have hu26:=Try.underlying26
  have hu28:=Try.underlying28
  have HR0:=Aside0.mk hr0
  have HC0:=Aside0.mk hc0
  clear hr0 hc0
  have HR1:=Aside0.mk hr1
  have HC1:=Aside0.mk hc1
  clear hr1 hc1
  have HB:=Aside0.mk (Below.refl w.heap.size w)
  have H : (if (l0.length : Int) > 3 then (handshapelaw09_ExamsRanked.j0 k l0 l1 true) else (handshapelaw09_ExamsRanked.j0 k l0 l1 ((l1.length : Int) != (l0.length : Int))))=some r:=h
  clear h
  have HC3:=Aside0.mk H
  clear H
  go_enter Try.func4,Try.ntmps4
  go_upto_region 1 with (fail)
  go_cut [26] (fun v26 wc=>∃ (kq : Nat) (x26_2 : Bool),v26=.bool x26_2∧Aside0 (handshapelaw09_ExamsRanked.j0 kq l0 l1 x26_2=some r)∧Aside0 (kq≤k)∧Aside0 (Below w.heap.size w wc))
  case first =>
    as_aux_lemma =>
    have H:=HC3.out
    clear HC3
    by_cases c4 : (l0.length : Int) > 3
    · rw [if_pos c4] at H
      have c4b0 : decide (3<(l0.length : Int))=true:=decide_eq_true c4
      have c4b1 : decide (3<l0.length)=true:=decide_eq_true (by omega)
      clear c4
      (first|rw [c4b0]|(simp only [i64_w,i32_w];rw [c4b0])|skip)
      have H':=Aside0.mk H
      clear H
      go_wp2
      go_meet
      case rel=>exact ⟨_,(true),z8_,H',⟨by first|omega|exact Nat.le_refl _⟩,⟨z2_⟩⟩
    · rw [if_neg c4] at H
      have c4b0 : decide (3<(l0.length : Int))=false:=decide_eq_false c4
      have c4b1 : decide (3<l0.length)=false:=decide_eq_false (by omega)
      clear c4
      (first|rw [c4b0]|(simp only [i64_w,i32_w];rw [c4b0])|skip)
      have H':=Aside0.mk H
      clear H
      go_wp2
      go_meet
      case rel=>exact ⟨_,(((l1.length : Int) != (l0.length : Int))),z8_,H',⟨by first|omega|exact Nat.le_refl _⟩,⟨z2_⟩⟩
  case rest =>
    as_aux_lemma =>
    clear HC3
    try clear c1;try clear p2
    obtain ⟨kq,x26_2,rfl,HA,HJ2,HB⟩:=hcut
    cases kq with
    | zero=>exact absurd HA.out (by simp [handshapelaw09_ExamsRanked.j0])
    | succ kj2 =>
      have H:=HA.out
      clear HA
      simp only [handshapelaw09_ExamsRanked.j0] at H
      by_cases c5 : x26_2=true
      · subst c5
        have H1 : ((handshapelaw09_works.f kj2).bind fun t289=>(some t289))=some r:=by rw [if_pos rfl] at H;exact H
        clear H
        have H:=H1
        clear H1
        replace H:=Option.bind_eq_some_iff.mp H
        obtain ⟨t289,A60,H⟩:=H
        replace H : (some t289)=some r:=H
        have A6:=Aside0.mk A60
        clear A60
        obtain rfl:=Option.some.inj H
        go_wp2_with (first|((with_reducible refine gate_callee (f:=8) rfl ?_);refine goesL_ (some 27) rfl rfl Try.func8 (by kernel_rfl) rfl #[] rfl z5_ ?_;(with_reducible refine (handshapelaw09_works.calls kj2  t289 _ A6.out).mono ?_);rintro e w7 ⟨rfl,hb⟩;refine ⟨_,rfl,?_⟩;have n0_:=Aside0.mk (below_step z1_ hb);clear HB;have HB:=n0_;clear n0_;(try clear hb);(try clear hb2);(try clear hk);(try clear hi)))
        go_ret
        exact ⟨z26_,z2_⟩
      · replace c5:=Bool.eq_false_iff.mpr c5
        subst c5
        have H1 : (handshapelaw09_ExamsRanked.l0 kj2 l0 l1 ([] : List Int) 0)=some r:=by rw [if_neg (show ¬ (false=true) by decide)] at H;exact H
        clear H
        have H:=H1
        clear H1
        have H':=Aside0.mk H
        clear H
        go_wp2
        go_loopg [5,6] kj2 (fun kq v5 v6 w'=>∃ (x5_2 : List Int) (x6_2 : Int),v6=.int .i64 x6_2∧Aside0 (handshapelaw09_ExamsRanked.l0 kq l0 l1 x5_2 x6_2=some r)∧Aside0 (kq≤kj2)∧Aside0 (Kd.R (Kd.int .i64) 3 w' w.heap.size (fun _=>True) v5 x5_2)∧Aside0 (Below w.heap.size w w'))
        case atStart=>exact ⟨(([] : List Int)),(0),z8_,H',⟨Nat.le_refl _⟩,⟨by first|exact Kd.R_nil _ _ _ _ _|exact Kd.N_nil _ _ _ _ _|exact Kd.V_nil _ _ _ _ _|exact Kd.Q_nil _ _ _ _ _|exact Kd.S_nil _ _ _ _ _⟩,⟨z2_⟩⟩
        case round =>
          as_aux_lemma =>
          clear H'
          try clear c1;try clear p2;try clear c5;try clear p2
          obtain ⟨x5_2,x6_2,rfl,HA,HK2,HO_5,HB⟩:=hrel
          cases gk with
          | zero=>exact absurd HA.out (by simp [handshapelaw09_ExamsRanked.l0])
          | succ k2 =>
            have H:=HA.out
            clear HA
            simp only [handshapelaw09_ExamsRanked.l0] at H
            by_cases c8 : x6_2<(l0.length : Int)
            · rw [if_pos c8] at H
              have c8b0 : decide (x6_2<(l0.length : Int))=true:=decide_eq_true c8
              clear c8
              have HC9:=Aside0.mk H
              clear H
              go_upto_region 7 with (fail)
              go_cut [59] (fun v59 wc=>∃ (kq : Nat) (x59_8 : Bool),v59=.bool x59_8∧Aside0 (handshapelaw09_ExamsRanked.j2 kq l0 l1 x5_2 x6_2 x59_8=some r)∧Aside0 (kq≤k2)∧Aside0 (Kd.R (Kd.int .i64) 3 wc w.heap.size (fun _=>True) u5 x5_2)∧Aside0 (Below w.heap.size w wc))
              case first =>
                as_aux_lemma =>
                have H:=HC9.out
                clear HC9
                by_cases c10 : 0≤x6_2
                · rw [if_pos c10] at H
                  have c10b0 : decide (0≤x6_2)=true:=decide_eq_true c10
                  clear c10
                  (first|rw [c10b0]|(simp only [i64_w,i32_w];rw [c10b0])|skip)
                  replace H:=Option.bind_eq_some_iff.mp H
                  obtain ⟨t291,A110,H⟩:=H
                  replace H : (if t291=true then (if x6_2<(l1.length : Int) then (if ((rd_L3 l1 x6_2).length : Int) > 20 then (handshapelaw09_ExamsRanked.j2 k2 l0 l1 x5_2 x6_2 true) else ((handshaperef09_IsPossible.f k2 ((rd_T26 l0 x6_2).f0) ((rd_T26 l0 x6_2).f1) ((rd_T26 l0 x6_2).f2) ((rd_T26 l0 x6_2).f3) (rd_L3 l1 x6_2)).bind fun t295=>(handshapelaw09_ExamsRanked.j2 k2 l0 l1 x5_2 x6_2 (!t295)))) else (none)) else (handshapelaw09_ExamsRanked.j2 k2 l0 l1 x5_2 x6_2 true))=some r:=H
                  have A11:=Aside0.mk A110
                  clear A110
                  by_cases c12 : t291=true
                  · subst c12
                    have H1 : (if x6_2<(l1.length : Int) then (if ((rd_L3 l1 x6_2).length : Int) > 20 then (handshapelaw09_ExamsRanked.j2 k2 l0 l1 x5_2 x6_2 true) else ((handshaperef09_IsPossible.f k2 ((rd_T26 l0 x6_2).f0) ((rd_T26 l0 x6_2).f1) ((rd_T26 l0 x6_2).f2) ((rd_T26 l0 x6_2).f3) (rd_L3 l1 x6_2)).bind fun t295=>(handshapelaw09_ExamsRanked.j2 k2 l0 l1 x5_2 x6_2 (!t295)))) else (none))=some r:=by rw [if_pos rfl] at H;exact H
                    clear H
                    have H:=H1
                    clear H1
                    by_cases c13 : x6_2<(l1.length : Int)
                    · rw [if_pos c13] at H
                      have c13b0 : decide (x6_2<(l1.length : Int))=true:=decide_eq_true c13
                      clear c13
                      by_cases c14 : ((rd_L3 l1 x6_2).length : Int) > 20
                      · rw [if_pos c14] at H
                        have c14b0 : decide (20<((rd_L3 l1 x6_2).length : Int))=true:=decide_eq_true c14
                        have c14b1 : decide (20<(rd_L3 l1 x6_2).length)=true:=decide_eq_true (by omega)
                        clear c14
                        have H':=Aside0.mk H
                        clear H
                        try go_wp2
                        have n0_:=Aside0.mk (Kd.R_drew HO_5.out)
                        have n1_:=Aside0.mk (below_drew1 HB.out)
                        clear HO_5
                        clear HB
                        have HO_5:=n0_
                        have HB:=n1_
                        clear n0_ n1_
                        have p290 : 0≤(x6_2 : Int):=of_decide_eq_true z3_
                        have q290 : x6_2<(l0.length : Int):=of_decide_eq_true z3_
                        obtain ⟨ad290,A290_0,c290_0,A290_1,c290_1,A290_3,c290_3,e290,hx290_0,hx290_1,hx290_2,hx290_3,hl290_0,hi290_0,hl290_1,hi290_1,hl290_3,hi290_3⟩:=at_T26 HR0.out x6_2 p290 q290
                        have hw290_3:=hx290_3
                        have hw290_2:=hx290_2
                        have hw290_1:=hx290_1
                        have hw290_0:=hx290_0
                        cases e290
                        replace hx290_0:=(HB.out.cell (World.block_lt_of_cell? w _ hx290_0)).trans hx290_0
                        replace hx290_1:=(HB.out.cell (World.block_lt_of_cell? w _ hx290_1)).trans hx290_1
                        replace hx290_2:=(HB.out.cell (World.block_lt_of_cell? w _ hx290_2)).trans hx290_2
                        replace hx290_3:=(HB.out.cell (World.block_lt_of_cell? w _ hx290_3)).trans hx290_3
                        have HR290_0:=Aside0.mk hi290_0
                        have HC290_0:=Aside0.mk hl290_0
                        clear hi290_0 hl290_0
                        have HR290_1:=Aside0.mk hi290_1
                        have HC290_1:=Aside0.mk hl290_1
                        clear hi290_1 hl290_1
                        have HR290_3:=Aside0.mk hi290_3
                        have HC290_3:=Aside0.mk hl290_3
                        clear hi290_3 hl290_3
                        replace p290:=eq_true p290
                        replace q290:=eq_true q290
                        have p292 : 0≤(x6_2 : Int):=of_decide_eq_true z3_
                        have q292 : x6_2<(l1.length : Int):=of_decide_eq_true z3_
                        obtain ⟨ad292,A292_0,c292_0,e292,hx292_0,hl292_0,hi292_0⟩:=at_L3 HR1.out x6_2 p292 q292
                        have hw292_0:=hx292_0
                        cases e292
                        replace hx292_0:=(HB.out.cell (World.block_lt_of_cell? w _ hx292_0)).trans hx292_0
                        have HR292_0:=Aside0.mk hi292_0
                        have HC292_0:=Aside0.mk hl292_0
                        clear hi292_0 hl292_0
                        replace p292:=eq_true p292
                        replace q292:=eq_true q292
                        refine start_ (n:=26) (S:=fun w'=>w'.cell? (ad290.add ((x6_2).toNat * 4))=some (.slice A290_0 ((rd_T26 l0 x6_2).f0).length c290_0)∧w'.cell? ⟨(ad290.add ((x6_2).toNat * 4)).block,(ad290.add ((x6_2).toNat * 4)).off+1,none⟩=some (.slice A290_1 ((rd_T26 l0 x6_2).f1).length c290_1)∧w'.cell? ⟨(ad290.add ((x6_2).toNat * 4)).block,(ad290.add ((x6_2).toNat * 4)).off+2,none⟩=some (.int .i64 ((rd_T26 l0 x6_2).f2))∧w'.cell? ⟨(ad290.add ((x6_2).toNat * 4)).block,(ad290.add ((x6_2).toNat * 4)).off+3,none⟩=some (.slice A290_3 ((rd_T26 l0 x6_2).f3).length c290_3)∧w'.cell? (ad292.add (x6_2).toNat)=some (.slice A292_0 (rd_L3 l1 x6_2).length c292_0)) (ds:=[]) #[false,false,false,false,false,false,false,false,false,false,false,false,false,false,false,false,false,false,false,false,false,false,false,false,false,false] (by kernel_rfl) rfl rfl ⟨((HB.out.cell (World.block_lt_of_cell? w _ hw290_0)).trans hw290_0),((HB.out.cell (World.block_lt_of_cell? w _ hw290_1)).trans hw290_1),((HB.out.cell (World.block_lt_of_cell? w _ hw290_2)).trans hw290_2),((HB.out.cell (World.block_lt_of_cell? w _ hw290_3)).trans hw290_3),((HB.out.cell (World.block_lt_of_cell? w _ hw292_0)).trans hw292_0)⟩ (fun hHeld=>?_);refine with_tabW handshapelaw09_ExamsRanked.tab7 handshapelaw09_ExamsRanked.bits7 (fun HT_ HW_=>?_)
                        generalize wr.drew=w15 at HO_5 HB HR290_0 HR290_1 HR290_3 HR292_0 hx290_0 hx290_1 hx290_2 hx290_3 hx292_0 hHeld ⊢
                        refine pure_ (i:=0) (N:=some 34) (v:=?_) (a':=?_) #[true,false,false,false,false,false,false,false,false,false,false,false,false,false,false,false,false,false,false,false,false,false,false,false,false,false] rfl rfl (any_of HT_.out (by kernel_rfl)) (fun _ _ _ h=>h) (Or.inl ⟨by rfl,?_⟩) ?_ ?_
                        rotate_left
                        · intro w'
                          go_simp
                          with_reducible rfl
                        rotate_left
                        · simp only [Act.put,List.setIfInBounds_toArray,List.set_cons_zero,List.set_cons_succ,i64_w,i32_w]
                          rfl
                        refine pure_ (i:=1) (N:=some 35) (v:=?_) (a':=?_) #[true,true,false,false,false,false,false,false,false,false,false,false,false,false,false,false,false,false,false,false,false,false,false,false,false,false] rfl rfl (any_of HT_.out (by kernel_rfl)) (fun _ _ _ h=>h) (Or.inl ⟨by rfl,?_⟩) ?_ ?_
                        rotate_left
                        · intro w'
                          go_simp
                          with_reducible rfl
                        rotate_left
                        · simp only [Act.put,List.setIfInBounds_toArray,List.set_cons_zero,List.set_cons_succ,i64_w,i32_w]
                          rfl
                        refine pure_ (i:=2) (N:=some 36) (v:=?_) (a':=?_) #[true,true,true,false,false,false,false,false,false,false,false,false,false,false,false,false,false,false,false,false,false,false,false,false,false,false] rfl rfl (any_of HT_.out (by kernel_rfl)) (fun _ _ _ h=>h) (Or.inl ⟨by rfl,?_⟩) ?_ ?_
                        rotate_left
                        · intro w'
                          go_simp
                          with_reducible rfl
                        rotate_left
                        · simp only [Act.put,List.setIfInBounds_toArray,List.set_cons_zero,List.set_cons_succ,i64_w,i32_w]
                          rfl
                        refine take_ (i:=3) (N:=some 37) (v:=?_) (a':=?_) #[true,true,true,true,false,false,false,false,false,false,false,false,false,false,false,false,false,false,false,false,false,false,false,false,false,false] rfl rfl (take_ofW HT_.out HW_.out (by kernel_rfl)) (fun _ _ _ h=>h) (Or.inl ⟨by rfl,?_⟩) hHeld ?_ ?_
                        rotate_left
                        · rintro w' ⟨s0,s1,s2,s3,s4⟩
                          go_simp
                          with_reducible rfl
                        rotate_left
                        · simp only [Act.put,List.setIfInBounds_toArray,List.set_cons_zero,List.set_cons_succ,i64_w,i32_w]
                          rfl
                        refine one_ (i:=4) (N:=some 38) #[true,true,true,true,true,false,false,false,false,false,false,false,false,false,false,false,false,false,false,false,false,false,false,false,false,false] rfl rfl (one_of HT_.out (by kernel_rfl)) (by decide) (fun K hK=>?_)
                        refine goes_ Try.func7 (by kernel_rfl) rfl #[.agg #[.slice A290_0 ((rd_T26 l0 x6_2).f0).length c290_0,.slice A290_1 ((rd_T26 l0 x6_2).f1).length c290_1,.int .i64 ((rd_T26 l0 x6_2).f2),.slice A290_3 ((rd_T26 l0 x6_2).f3).length c290_3]] (by rfl) rfl rfl z5_ ?_
                        with_reducible refine (handshapelaw09_ready.calls k2 _ _ ((rd_T26 l0 x6_2).f0) _ _ ((rd_T26 l0 x6_2).f1) ((rd_T26 l0 x6_2).f2) _ _ ((rd_T26 l0 x6_2).f3) true _ ?side1 ?side2 ?side3 ?side4 ?side5 ?side6 A11.out).mono ?_
                        (case side1=>repeat (first|exact (Kd.C_below HR290_0.out HB.out)|(with_reducible refine Kd.C_alloc ?_ _)|(with_reducible refine Kd.C_drewN ?_ _)|(with_reducible refine Kd.C_drew ?_)))
                        (case side2=>exact HC290_0.out)
                        (case side3=>repeat (first|exact (Kd.C_below HR290_1.out HB.out)|(with_reducible refine Kd.C_alloc ?_ _)|(with_reducible refine Kd.C_drewN ?_ _)|(with_reducible refine Kd.C_drew ?_)))
                        (case side4=>exact HC290_1.out)
                        (case side5=>repeat (first|exact (Kd.C_below HR290_3.out HB.out)|(with_reducible refine Kd.C_alloc ?_ _)|(with_reducible refine Kd.C_drewN ?_ _)|(with_reducible refine Kd.C_drew ?_)))
                        (case side6=>exact HC290_3.out)
                        rintro e w16 ⟨rfl,hb⟩
                        refine ⟨_,rfl,?_⟩
                        have n0_:=Aside0.mk (Kd.R_below z6_ hb)
                        have n1_:=Aside0.mk (below_step z1_ hb)
                        clear HO_5
                        clear HB
                        have HO_5:=n0_
                        have HB:=n1_
                        clear n0_ n1_
                        (try clear hb)
                        (try clear hb2)
                        (try clear hk)
                        (try clear hi)
                        refine hK.out _ _ ⟨((HB.out.cell (World.block_lt_of_cell? w _ hw290_0)).trans hw290_0),((HB.out.cell (World.block_lt_of_cell? w _ hw290_1)).trans hw290_1),((HB.out.cell (World.block_lt_of_cell? w _ hw290_2)).trans hw290_2),((HB.out.cell (World.block_lt_of_cell? w _ hw290_3)).trans hw290_3),((HB.out.cell (World.block_lt_of_cell? w _ hw292_0)).trans hw292_0)⟩ (fun hHeld=>?_)
                        clear hK K
                        refine norm_ (a':=?_) ?_ ?_
                        rotate_left
                        · show Act.put _ (some 38) _=_
                          simp only [Act.put,List.setIfInBounds_toArray,List.set_cons_zero,List.set_cons_succ,i64_w,i32_w]
                          rfl
                        refine pure_ (i:=5) (N:=some 39) (v:=?_) (a':=?_) #[true,true,true,true,true,true,false,false,false,false,false,false,false,false,false,false,false,false,false,false,false,false,false,false,false,false] rfl rfl (any_of HT_.out (by kernel_rfl)) (fun _ _ _ h=>h) (Or.inl ⟨by rfl,?_⟩) ?_ ?_
                        rotate_left
                        · intro w'
                          go_simp
                          with_reducible rfl
                        rotate_left
                        · simp only [Act.put,List.setIfInBounds_toArray,List.set_cons_zero,List.set_cons_succ,i64_w,i32_w]
                          rfl
                        refine pure_ (i:=6) (N:=some 40) (v:=?_) (a':=?_) #[true,true,true,true,true,true,true,false,false,false,false,false,false,false,false,false,false,false,false,false,false,false,false,false,false,false] rfl rfl (any_of HT_.out (by kernel_rfl)) (fun _ _ _ h=>h) (Or.inl ⟨by rfl,?_⟩) ?_ ?_
                        rotate_left
                        · intro w'
                          go_simp
                          with_reducible rfl
                        rotate_left
                        · simp only [Act.put,List.setIfInBounds_toArray,List.set_cons_zero,List.set_cons_succ,i64_w,i32_w]
                          rfl
                        refine pure_ (i:=7) (N:=some 41) (v:=?_) (a':=?_) #[true,true,true,true,true,true,true,true,false,false,false,false,false,false,false,false,false,false,false,false,false,false,false,false,false,false] rfl rfl (any_of HT_.out (by kernel_rfl)) (fun _ _ _ h=>h) (Or.inl ⟨by rfl,?_⟩) ?_ ?_
                        rotate_left
                        · intro w'
                          go_simp
                          with_reducible rfl
                        rotate_left
                        · simp only [Act.put,List.setIfInBounds_toArray,List.set_cons_zero,List.set_cons_succ,i64_w,i32_w]
                          rfl
                        refine pure_ (i:=8) (N:=some 42) (v:=?_) (a':=?_) #[true,true,true,true,true,true,true,true,true,false,false,false,false,false,false,false,false,false,false,false,false,false,false,false,false,false] rfl rfl (any_of HT_.out (by kernel_rfl)) (fun _ _ _ h=>h) (Or.inl ⟨by rfl,?_⟩) ?_ ?_
                        rotate_left
                        · intro w'
                          go_simp
                          with_reducible rfl
                        rotate_left
                        · simp only [Act.put,List.setIfInBounds_toArray,List.set_cons_zero,List.set_cons_succ,i64_w,i32_w]
                          rfl
                        refine pure_ (i:=9) (N:=some 43) (v:=?_) (a':=?_) #[true,true,true,true,true,true,true,true,true,true,false,false,false,false,false,false,false,false,false,false,false,false,false,false,false,false] rfl rfl (any_of HT_.out (by kernel_rfl)) (fun _ _ _ h=>h) (Or.inl ⟨by rfl,?_⟩) ?_ ?_
                        rotate_left
                        · intro w'
                          go_simp
                          with_reducible rfl
                        rotate_left
                        · simp only [Act.put,List.setIfInBounds_toArray,List.set_cons_zero,List.set_cons_succ,i64_w,i32_w]
                          rfl
                        refine take_ (i:=10) (N:=some 44) (v:=?_) (a':=?_) #[true,true,true,true,true,true,true,true,true,true,true,false,false,false,false,false,false,false,false,false,false,false,false,false,false,false] rfl rfl (take_ofW HT_.out HW_.out (by kernel_rfl)) (fun _ _ _ h=>h) (Or.inl ⟨by rfl,?_⟩) hHeld ?_ ?_
                        rotate_left
                        · rintro w' ⟨s0,s1,s2,s3,s4⟩
                          go_simp
                          with_reducible rfl
                        rotate_left
                        · simp only [Act.put,List.setIfInBounds_toArray,List.set_cons_zero,List.set_cons_succ,i64_w,i32_w]
                          rfl
                        refine pure_ (i:=11) (N:=some 45) (v:=?_) (a':=?_) #[true,true,true,true,true,true,true,true,true,true,true,true,false,false,false,false,false,false,false,false,false,false,false,false,false,false] rfl rfl (any_of HT_.out (by kernel_rfl)) (fun _ _ _ h=>h) (Or.inl ⟨by rfl,?_⟩) ?_ ?_
                        rotate_left
                        · intro w'
                          go_simp
                          with_reducible rfl
                        rotate_left
                        · simp only [Act.put,List.setIfInBounds_toArray,List.set_cons_zero,List.set_cons_succ,i64_w,i32_w]
                          rfl
                        refine pure_ (i:=12) (N:=some 46) (v:=?_) (a':=?_) #[true,true,true,true,true,true,true,true,true,true,true,true,true,false,false,false,false,false,false,false,false,false,false,false,false,false] rfl rfl (any_of HT_.out (by kernel_rfl)) (fun _ _ _ h=>h) (Or.inl ⟨by rfl,?_⟩) ?_ ?_
                        rotate_left
                        · intro w'
                          go_simp
                          with_reducible rfl
                        rotate_left
                        · simp only [Act.put,List.setIfInBounds_toArray,List.set_cons_zero,List.set_cons_succ,i64_w,i32_w]
                          rfl
                        refine pure_ (i:=13) (N:=some 47) (v:=?_) (a':=?_) #[true,true,true,true,true,true,true,true,true,true,true,true,true,true,false,false,false,false,false,false,false,false,false,false,false,false] rfl rfl (any_of HT_.out (by kernel_rfl)) (fun _ _ _ h=>h) (Or.inl ⟨by rfl,?_⟩) ?_ ?_
                        rotate_left
                        · intro w'
                          go_simp
                          with_reducible rfl
                        rotate_left
                        · simp only [Act.put,List.setIfInBounds_toArray,List.set_cons_zero,List.set_cons_succ,i64_w,i32_w]
                          rfl
                        refine pure_ (i:=14) (N:=some 48) (v:=?_) (a':=?_) #[true,true,true,true,true,true,true,true,true,true,true,true,true,true,true,false,false,false,false,false,false,false,false,false,false,false] rfl rfl (any_of HT_.out (by kernel_rfl)) (fun _ _ _ h=>h) (Or.inl ⟨by rfl,?_⟩) ?_ ?_
                        rotate_left
                        · intro w'
                          go_simp
                          with_reducible rfl
                        rotate_left
                        · simp only [Act.put,List.setIfInBounds_toArray,List.set_cons_zero,List.set_cons_succ,i64_w,i32_w]
                          rfl
                        refine pure_ (i:=15) (N:=some 49) (v:=undef) (a':=?_) #[true,true,true,true,true,true,true,true,true,true,true,true,true,true,true,true,false,false,false,false,false,false,false,false,false,false] rfl rfl (any_of HT_.out (by kernel_rfl)) (fun _ _ _ h=>h) (Or.inr ⟨by rfl,rfl⟩) ?_ ?_
                        rotate_left
                        · simp only [Act.put,List.setIfInBounds_toArray,List.set_cons_zero,List.set_cons_succ,i64_w,i32_w]
                          rfl
                        refine pure_ (i:=16) (N:=some 50) (v:=undef) (a':=?_) #[true,true,true,true,true,true,true,true,true,true,true,true,true,true,true,true,true,false,false,false,false,false,false,false,false,false] rfl rfl (any_of HT_.out (by kernel_rfl)) (fun _ _ _ h=>h) (Or.inr ⟨by rfl,rfl⟩) ?_ ?_
                        rotate_left
                        · simp only [Act.put,List.setIfInBounds_toArray,List.set_cons_zero,List.set_cons_succ,i64_w,i32_w]
                          rfl
                        refine pure_ (i:=17) (N:=some 51) (v:=undef) (a':=?_) #[true,true,true,true,true,true,true,true,true,true,true,true,true,true,true,true,true,true,false,false,false,false,false,false,false,false] rfl rfl (any_of HT_.out (by kernel_rfl)) (fun _ _ _ h=>h) (Or.inr ⟨by rfl,rfl⟩) ?_ ?_
                        rotate_left
                        · simp only [Act.put,List.setIfInBounds_toArray,List.set_cons_zero,List.set_cons_succ,i64_w,i32_w]
                          rfl
                        refine pure_ (i:=18) (N:=some 52) (v:=undef) (a':=?_) #[true,true,true,true,true,true,true,true,true,true,true,true,true,true,true,true,true,true,true,false,false,false,false,false,false,false] rfl rfl (any_of HT_.out (by kernel_rfl)) (fun _ _ _ h=>h) (Or.inr ⟨by rfl,rfl⟩) ?_ ?_
                        rotate_left
                        · simp only [Act.put,List.setIfInBounds_toArray,List.set_cons_zero,List.set_cons_succ,i64_w,i32_w]
                          rfl
                        refine pure_ (i:=19) (N:=some 53) (v:=undef) (a':=?_) #[true,true,true,true,true,true,true,true,true,true,true,true,true,true,true,true,true,true,true,true,false,false,false,false,false,false] rfl rfl (any_of HT_.out (by kernel_rfl)) (fun _ _ _ h=>h) (Or.inr ⟨by rfl,rfl⟩) ?_ ?_
                        rotate_left
                        · simp only [Act.put,List.setIfInBounds_toArray,List.set_cons_zero,List.set_cons_succ,i64_w,i32_w]
                          rfl
                        refine pure_ (i:=20) (N:=some 54) (v:=undef) (a':=?_) #[true,true,true,true,true,true,true,true,true,true,true,true,true,true,true,true,true,true,true,true,true,false,false,false,false,false] rfl rfl (any_of HT_.out (by kernel_rfl)) (fun _ _ _ h=>h) (Or.inr ⟨by rfl,rfl⟩) ?_ ?_
                        rotate_left
                        · simp only [Act.put,List.setIfInBounds_toArray,List.set_cons_zero,List.set_cons_succ,i64_w,i32_w]
                          rfl
                        refine pure_ (i:=21) (N:=some 55) (v:=undef) (a':=?_) #[true,true,true,true,true,true,true,true,true,true,true,true,true,true,true,true,true,true,true,true,true,true,false,false,false,false] rfl rfl (any_of HT_.out (by kernel_rfl)) (fun _ _ _ h=>h) (Or.inr ⟨by rfl,rfl⟩) ?_ ?_
                        rotate_left
                        · simp only [Act.put,List.setIfInBounds_toArray,List.set_cons_zero,List.set_cons_succ,i64_w,i32_w]
                          rfl
                        refine pure_ (i:=22) (N:=some 56) (v:=undef) (a':=?_) #[true,true,true,true,true,true,true,true,true,true,true,true,true,true,true,true,true,true,true,true,true,true,true,false,false,false] rfl rfl (any_of HT_.out (by kernel_rfl)) (fun _ _ _ h=>h) (Or.inr ⟨by rfl,rfl⟩) ?_ ?_
                        rotate_left
                        · simp only [Act.put,List.setIfInBounds_toArray,List.set_cons_zero,List.set_cons_succ,i64_w,i32_w]
                          rfl
                        refine pure_ (i:=23) (N:=some 57) (v:=undef) (a':=?_) #[true,true,true,true,true,true,true,true,true,true,true,true,true,true,true,true,true,true,true,true,true,true,true,true,false,false] rfl rfl (any_of HT_.out (by kernel_rfl)) (fun _ _ _ h=>h) (Or.inr ⟨by rfl,rfl⟩) ?_ ?_
                        rotate_left
                        · simp only [Act.put,List.setIfInBounds_toArray,List.set_cons_zero,List.set_cons_succ,i64_w,i32_w]
                          rfl
                        refine pure_ (i:=24) (N:=some 58) (v:=undef) (a':=?_) #[true,true,true,true,true,true,true,true,true,true,true,true,true,true,true,true,true,true,true,true,true,true,true,true,true,false] rfl rfl (any_of HT_.out (by kernel_rfl)) (fun _ _ _ h=>h) (Or.inr ⟨by rfl,rfl⟩) ?_ ?_
                        rotate_left
                        · simp only [Act.put,List.setIfInBounds_toArray,List.set_cons_zero,List.set_cons_succ,i64_w,i32_w]
                          rfl
                        refine pure_ (i:=25) (N:=some 59) (v:=?_) (a':=?_) #[true,true,true,true,true,true,true,true,true,true,true,true,true,true,true,true,true,true,true,true,true,true,true,true,true,true] rfl rfl (any_of HT_.out (by kernel_rfl)) (fun _ _ _ h=>h) (Or.inl ⟨by rfl,?_⟩) ?_ ?_
                        rotate_left
                        · intro w'
                          go_simp
                          with_reducible rfl
                        rotate_left
                        · simp only [Act.put,List.setIfInBounds_toArray,List.set_cons_zero,List.set_cons_succ,i64_w,i32_w]
                          rfl
                        refine done_ (done_of HT_.out (by kernel_rfl)) ?_
                        try go_wp2
                        go_meet
                        case rel=>exact ⟨_,(true),z8_,H',⟨z22_⟩,⟨z7_⟩,⟨z2_⟩⟩
                      · rw [if_neg c14] at H
                        have c14b0 : decide (20<((rd_L3 l1 x6_2).length : Int))=false:=decide_eq_false c14
                        have c14b1 : decide (20<(rd_L3 l1 x6_2).length)=false:=decide_eq_false (by omega)
                        clear c14
                        replace H:=Option.bind_eq_some_iff.mp H
                        obtain ⟨t295,A170,H⟩:=H
                        replace H : (handshapelaw09_ExamsRanked.j2 k2 l0 l1 x5_2 x6_2 (!t295))=some r:=H
                        have A17:=Aside0.mk A170
                        clear A170
                        have H':=Aside0.mk H
                        clear H
                        try go_wp2
                        have n0_:=Aside0.mk (Kd.R_drew HO_5.out)
                        have n1_:=Aside0.mk (below_drew1 HB.out)
                        clear HO_5
                        clear HB
                        have HO_5:=n0_
                        have HB:=n1_
                        clear n0_ n1_
                        have p290 : 0≤(x6_2 : Int):=of_decide_eq_true z3_
                        have q290 : x6_2<(l0.length : Int):=of_decide_eq_true z3_
                        obtain ⟨ad290,A290_0,c290_0,A290_1,c290_1,A290_3,c290_3,e290,hx290_0,hx290_1,hx290_2,hx290_3,hl290_0,hi290_0,hl290_1,hi290_1,hl290_3,hi290_3⟩:=at_T26 HR0.out x6_2 p290 q290
                        have hw290_3:=hx290_3
                        have hw290_2:=hx290_2
                        have hw290_1:=hx290_1
                        have hw290_0:=hx290_0
                        cases e290
                        replace hx290_0:=(HB.out.cell (World.block_lt_of_cell? w _ hx290_0)).trans hx290_0
                        replace hx290_1:=(HB.out.cell (World.block_lt_of_cell? w _ hx290_1)).trans hx290_1
                        replace hx290_2:=(HB.out.cell (World.block_lt_of_cell? w _ hx290_2)).trans hx290_2
                        replace hx290_3:=(HB.out.cell (World.block_lt_of_cell? w _ hx290_3)).trans hx290_3
                        have HR290_0:=Aside0.mk hi290_0
                        have HC290_0:=Aside0.mk hl290_0
                        clear hi290_0 hl290_0
                        have HR290_1:=Aside0.mk hi290_1
                        have HC290_1:=Aside0.mk hl290_1
                        clear hi290_1 hl290_1
                        have HR290_3:=Aside0.mk hi290_3
                        have HC290_3:=Aside0.mk hl290_3
                        clear hi290_3 hl290_3
                        replace p290:=eq_true p290
                        replace q290:=eq_true q290
                        have p292 : 0≤(x6_2 : Int):=of_decide_eq_true z3_
                        have q292 : x6_2<(l1.length : Int):=of_decide_eq_true z3_
                        obtain ⟨ad292,A292_0,c292_0,e292,hx292_0,hl292_0,hi292_0⟩:=at_L3 HR1.out x6_2 p292 q292
                        have hw292_0:=hx292_0
                        cases e292
                        replace hx292_0:=(HB.out.cell (World.block_lt_of_cell? w _ hx292_0)).trans hx292_0
                        have HR292_0:=Aside0.mk hi292_0
                        have HC292_0:=Aside0.mk hl292_0
                        clear hi292_0 hl292_0
                        replace p292:=eq_true p292
                        replace q292:=eq_true q292
                        have p293 : 0≤(x6_2 : Int):=of_decide_eq_true z3_
                        have q293 : x6_2<(l0.length : Int):=of_decide_eq_true z3_
                        obtain ⟨ad293,A293_0,c293_0,A293_1,c293_1,A293_3,c293_3,e293,hx293_0,hx293_1,hx293_2,hx293_3,hl293_0,hi293_0,hl293_1,hi293_1,hl293_3,hi293_3⟩:=at_T26 HR0.out x6_2 p293 q293
                        have hw293_3:=hx293_3
                        have hw293_2:=hx293_2
                        have hw293_1:=hx293_1
                        have hw293_0:=hx293_0
                        obtain rfl : ad290=ad293:=(by injection e293)
                        replace hx293_0:=(HB.out.cell (World.block_lt_of_cell? w _ hx293_0)).trans hx293_0
                        replace hx293_1:=(HB.out.cell (World.block_lt_of_cell? w _ hx293_1)).trans hx293_1
                        replace hx293_2:=(HB.out.cell (World.block_lt_of_cell? w _ hx293_2)).trans hx293_2
                        replace hx293_3:=(HB.out.cell (World.block_lt_of_cell? w _ hx293_3)).trans hx293_3
                        have HR293_0:=Aside0.mk hi293_0
                        have HC293_0:=Aside0.mk hl293_0
                        clear hi293_0 hl293_0
                        have HR293_1:=Aside0.mk hi293_1
                        have HC293_1:=Aside0.mk hl293_1
                        clear hi293_1 hl293_1
                        have HR293_3:=Aside0.mk hi293_3
                        have HC293_3:=Aside0.mk hl293_3
                        clear hi293_3 hl293_3
                        replace p293:=eq_true p293
                        replace q293:=eq_true q293
                        have p294 : 0≤(x6_2 : Int):=of_decide_eq_true z3_
                        have q294 : x6_2<(l1.length : Int):=of_decide_eq_true z3_
                        obtain ⟨ad294,A294_0,c294_0,e294,hx294_0,hl294_0,hi294_0⟩:=at_L3 HR1.out x6_2 p294 q294
                        have hw294_0:=hx294_0
                        obtain rfl : ad292=ad294:=(by injection e294)
                        replace hx294_0:=(HB.out.cell (World.block_lt_of_cell? w _ hx294_0)).trans hx294_0
                        have HR294_0:=Aside0.mk hi294_0
                        have HC294_0:=Aside0.mk hl294_0
                        clear hi294_0 hl294_0
                        replace p294:=eq_true p294
                        replace q294:=eq_true q294
                        have ea_:=Option.some.inj (hx292_0.symm.trans hx294_0)
                        injection ea_ with ea_ en_ ec_
                        subst ea_
                        subst ec_
                        clear en_
                        refine start_ (n:=26) (S:=fun w'=>w'.cell? (ad290.add ((x6_2).toNat * 4))=some (.slice A290_0 ((rd_T26 l0 x6_2).f0).length c290_0)∧w'.cell? ⟨(ad290.add ((x6_2).toNat * 4)).block,(ad290.add ((x6_2).toNat * 4)).off+1,none⟩=some (.slice A290_1 ((rd_T26 l0 x6_2).f1).length c290_1)∧w'.cell? ⟨(ad290.add ((x6_2).toNat * 4)).block,(ad290.add ((x6_2).toNat * 4)).off+2,none⟩=some (.int .i64 ((rd_T26 l0 x6_2).f2))∧w'.cell? ⟨(ad290.add ((x6_2).toNat * 4)).block,(ad290.add ((x6_2).toNat * 4)).off+3,none⟩=some (.slice A290_3 ((rd_T26 l0 x6_2).f3).length c290_3)∧w'.cell? (ad292.add (x6_2).toNat)=some (.slice A292_0 (rd_L3 l1 x6_2).length c292_0)∧w'.cell? (ad290.add ((x6_2).toNat * 4))=some (.slice A293_0 ((rd_T26 l0 x6_2).f0).length c293_0)∧w'.cell? ⟨(ad290.add ((x6_2).toNat * 4)).block,(ad290.add ((x6_2).toNat * 4)).off+1,none⟩=some (.slice A293_1 ((rd_T26 l0 x6_2).f1).length c293_1)∧w'.cell? ⟨(ad290.add ((x6_2).toNat * 4)).block,(ad290.add ((x6_2).toNat * 4)).off+2,none⟩=some (.int .i64 ((rd_T26 l0 x6_2).f2))∧w'.cell? ⟨(ad290.add ((x6_2).toNat * 4)).block,(ad290.add ((x6_2).toNat * 4)).off+3,none⟩=some (.slice A293_3 ((rd_T26 l0 x6_2).f3).length c293_3)∧w'.cell? (ad292.add (x6_2).toNat)=some (.slice A292_0 (rd_L3 l1 x6_2).length c292_0)) (ds:=[]) #[false,false,false,false,false,false,false,false,false,false,false,false,false,false,false,false,false,false,false,false,false,false,false,false,false,false] (by kernel_rfl) rfl rfl ⟨((HB.out.cell (World.block_lt_of_cell? w _ hw290_0)).trans hw290_0),((HB.out.cell (World.block_lt_of_cell? w _ hw290_1)).trans hw290_1),((HB.out.cell (World.block_lt_of_cell? w _ hw290_2)).trans hw290_2),((HB.out.cell (World.block_lt_of_cell? w _ hw290_3)).trans hw290_3),((HB.out.cell (World.block_lt_of_cell? w _ hw292_0)).trans hw292_0),((HB.out.cell (World.block_lt_of_cell? w _ hw293_0)).trans hw293_0),((HB.out.cell (World.block_lt_of_cell? w _ hw293_1)).trans hw293_1),((HB.out.cell (World.block_lt_of_cell? w _ hw293_2)).trans hw293_2),((HB.out.cell (World.block_lt_of_cell? w _ hw293_3)).trans hw293_3),((HB.out.cell (World.block_lt_of_cell? w _ hw294_0)).trans hw294_0)⟩ (fun hHeld=>?_);refine with_tabW handshapelaw09_ExamsRanked.tab7 handshapelaw09_ExamsRanked.bits7 (fun HT_ HW_=>?_)
                        generalize wr.drew=w18 at HO_5 HB HR290_0 HR290_1 HR290_3 HR292_0 HR293_0 HR293_1 HR293_3 HR294_0 hx290_0 hx290_1 hx290_2 hx290_3 hx292_0 hx293_0 hx293_1 hx293_2 hx293_3 hx294_0 hHeld ⊢
                        refine pure_ (i:=0) (N:=some 34) (v:=?_) (a':=?_) #[true,false,false,false,false,false,false,false,false,false,false,false,false,false,false,false,false,false,false,false,false,false,false,false,false,false] rfl rfl (any_of HT_.out (by kernel_rfl)) (fun _ _ _ h=>h) (Or.inl ⟨by rfl,?_⟩) ?_ ?_
                        rotate_left
                        · intro w'
                          go_simp
                          with_reducible rfl
                        rotate_left
                        · simp only [Act.put,List.setIfInBounds_toArray,List.set_cons_zero,List.set_cons_succ,i64_w,i32_w]
                          rfl
                        refine pure_ (i:=1) (N:=some 35) (v:=?_) (a':=?_) #[true,true,false,false,false,false,false,false,false,false,false,false,false,false,false,false,false,false,false,false,false,false,false,false,false,false] rfl rfl (any_of HT_.out (by kernel_rfl)) (fun _ _ _ h=>h) (Or.inl ⟨by rfl,?_⟩) ?_ ?_
                        rotate_left
                        · intro w'
                          go_simp
                          with_reducible rfl
                        rotate_left
                        · simp only [Act.put,List.setIfInBounds_toArray,List.set_cons_zero,List.set_cons_succ,i64_w,i32_w]
                          rfl
                        refine pure_ (i:=2) (N:=some 36) (v:=?_) (a':=?_) #[true,true,true,false,false,false,false,false,false,false,false,false,false,false,false,false,false,false,false,false,false,false,false,false,false,false] rfl rfl (any_of HT_.out (by kernel_rfl)) (fun _ _ _ h=>h) (Or.inl ⟨by rfl,?_⟩) ?_ ?_
                        rotate_left
                        · intro w'
                          go_simp
                          with_reducible rfl
                        rotate_left
                        · simp only [Act.put,List.setIfInBounds_toArray,List.set_cons_zero,List.set_cons_succ,i64_w,i32_w]
                          rfl
                        refine take_ (i:=3) (N:=some 37) (v:=?_) (a':=?_) #[true,true,true,true,false,false,false,false,false,false,false,false,false,false,false,false,false,false,false,false,false,false,false,false,false,false] rfl rfl (take_ofW HT_.out HW_.out (by kernel_rfl)) (fun _ _ _ h=>h) (Or.inl ⟨by rfl,?_⟩) hHeld ?_ ?_
                        rotate_left
                        · rintro w' ⟨s0,s1,s2,s3,s4,s5,s6,s7,s8,s9⟩
                          go_simp
                          with_reducible rfl
                        rotate_left
                        · simp only [Act.put,List.setIfInBounds_toArray,List.set_cons_zero,List.set_cons_succ,i64_w,i32_w]
                          rfl
                        refine one_ (i:=4) (N:=some 38) #[true,true,true,true,true,false,false,false,false,false,false,false,false,false,false,false,false,false,false,false,false,false,false,false,false,false] rfl rfl (one_of HT_.out (by kernel_rfl)) (by decide) (fun K hK=>?_)
                        refine goes_ Try.func7 (by kernel_rfl) rfl #[.agg #[.slice A290_0 ((rd_T26 l0 x6_2).f0).length c290_0,.slice A290_1 ((rd_T26 l0 x6_2).f1).length c290_1,.int .i64 ((rd_T26 l0 x6_2).f2),.slice A290_3 ((rd_T26 l0 x6_2).f3).length c290_3]] (by rfl) rfl rfl z5_ ?_
                        with_reducible refine (handshapelaw09_ready.calls k2 _ _ ((rd_T26 l0 x6_2).f0) _ _ ((rd_T26 l0 x6_2).f1) ((rd_T26 l0 x6_2).f2) _ _ ((rd_T26 l0 x6_2).f3) true _ ?side1 ?side2 ?side3 ?side4 ?side5 ?side6 A11.out).mono ?_
                        (case side1=>repeat (first|exact (Kd.C_below HR290_0.out HB.out)|(with_reducible refine Kd.C_alloc ?_ _)|(with_reducible refine Kd.C_drewN ?_ _)|(with_reducible refine Kd.C_drew ?_)))
                        (case side2=>exact HC290_0.out)
                        (case side3=>repeat (first|exact (Kd.C_below HR290_1.out HB.out)|(with_reducible refine Kd.C_alloc ?_ _)|(with_reducible refine Kd.C_drewN ?_ _)|(with_reducible refine Kd.C_drew ?_)))
                        (case side4=>exact HC290_1.out)
                        (case side5=>repeat (first|exact (Kd.C_below HR290_3.out HB.out)|(with_reducible refine Kd.C_alloc ?_ _)|(with_reducible refine Kd.C_drewN ?_ _)|(with_reducible refine Kd.C_drew ?_)))
                        (case side6=>exact HC290_3.out)
                        rintro e w19 ⟨rfl,hb⟩
                        refine ⟨_,rfl,?_⟩
                        have n0_:=Aside0.mk (Kd.R_below z6_ hb)
                        have n1_:=Aside0.mk (below_step z1_ hb)
                        clear HO_5
                        clear HB
                        have HO_5:=n0_
                        have HB:=n1_
                        clear n0_ n1_
                        (try clear hb)
                        (try clear hb2)
                        (try clear hk)
                        (try clear hi)
                        refine hK.out _ _ ⟨((HB.out.cell (World.block_lt_of_cell? w _ hw290_0)).trans hw290_0),((HB.out.cell (World.block_lt_of_cell? w _ hw290_1)).trans hw290_1),((HB.out.cell (World.block_lt_of_cell? w _ hw290_2)).trans hw290_2),((HB.out.cell (World.block_lt_of_cell? w _ hw290_3)).trans hw290_3),((HB.out.cell (World.block_lt_of_cell? w _ hw292_0)).trans hw292_0),((HB.out.cell (World.block_lt_of_cell? w _ hw293_0)).trans hw293_0),((HB.out.cell (World.block_lt_of_cell? w _ hw293_1)).trans hw293_1),((HB.out.cell (World.block_lt_of_cell? w _ hw293_2)).trans hw293_2),((HB.out.cell (World.block_lt_of_cell? w _ hw293_3)).trans hw293_3),((HB.out.cell (World.block_lt_of_cell? w _ hw294_0)).trans hw294_0)⟩ (fun hHeld=>?_)
                        clear hK K
                        refine norm_ (a':=?_) ?_ ?_
                        rotate_left
                        · show Act.put _ (some 38) _=_
                          simp only [Act.put,List.setIfInBounds_toArray,List.set_cons_zero,List.set_cons_succ,i64_w,i32_w]
                          rfl
                        refine pure_ (i:=5) (N:=some 39) (v:=?_) (a':=?_) #[true,true,true,true,true,true,false,false,false,false,false,false,false,false,false,false,false,false,false,false,false,false,false,false,false,false] rfl rfl (any_of HT_.out (by kernel_rfl)) (fun _ _ _ h=>h) (Or.inl ⟨by rfl,?_⟩) ?_ ?_
                        rotate_left
                        · intro w'
                          go_simp
                          with_reducible rfl
                        rotate_left
                        · simp only [Act.put,List.setIfInBounds_toArray,List.set_cons_zero,List.set_cons_succ,i64_w,i32_w]
                          rfl
                        refine pure_ (i:=6) (N:=some 40) (v:=?_) (a':=?_) #[true,true,true,true,true,true,true,false,false,false,false,false,false,false,false,false,false,false,false,false,false,false,false,false,false,false] rfl rfl (any_of HT_.out (by kernel_rfl)) (fun _ _ _ h=>h) (Or.inl ⟨by rfl,?_⟩) ?_ ?_
                        rotate_left
                        · intro w'
                          go_simp
                          with_reducible rfl
                        rotate_left
                        · simp only [Act.put,List.setIfInBounds_toArray,List.set_cons_zero,List.set_cons_succ,i64_w,i32_w]
                          rfl
                        refine pure_ (i:=7) (N:=some 41) (v:=?_) (a':=?_) #[true,true,true,true,true,true,true,true,false,false,false,false,false,false,false,false,false,false,false,false,false,false,false,false,false,false] rfl rfl (any_of HT_.out (by kernel_rfl)) (fun _ _ _ h=>h) (Or.inl ⟨by rfl,?_⟩) ?_ ?_
                        rotate_left
                        · intro w'
                          go_simp
                          with_reducible rfl
                        rotate_left
                        · simp only [Act.put,List.setIfInBounds_toArray,List.set_cons_zero,List.set_cons_succ,i64_w,i32_w]
                          rfl
                        refine pure_ (i:=8) (N:=some 42) (v:=?_) (a':=?_) #[true,true,true,true,true,true,true,true,true,false,false,false,false,false,false,false,false,false,false,false,false,false,false,false,false,false] rfl rfl (any_of HT_.out (by kernel_rfl)) (fun _ _ _ h=>h) (Or.inl ⟨by rfl,?_⟩) ?_ ?_
                        rotate_left
                        · intro w'
                          go_simp
                          with_reducible rfl
                        rotate_left
                        · simp only [Act.put,List.setIfInBounds_toArray,List.set_cons_zero,List.set_cons_succ,i64_w,i32_w]
                          rfl
                        refine pure_ (i:=9) (N:=some 43) (v:=?_) (a':=?_) #[true,true,true,true,true,true,true,true,true,true,false,false,false,false,false,false,false,false,false,false,false,false,false,false,false,false] rfl rfl (any_of HT_.out (by kernel_rfl)) (fun _ _ _ h=>h) (Or.inl ⟨by rfl,?_⟩) ?_ ?_
                        rotate_left
                        · intro w'
                          go_simp
                          with_reducible rfl
                        rotate_left
                        · simp only [Act.put,List.setIfInBounds_toArray,List.set_cons_zero,List.set_cons_succ,i64_w,i32_w]
                          rfl
                        refine take_ (i:=10) (N:=some 44) (v:=?_) (a':=?_) #[true,true,true,true,true,true,true,true,true,true,true,false,false,false,false,false,false,false,false,false,false,false,false,false,false,false] rfl rfl (take_ofW HT_.out HW_.out (by kernel_rfl)) (fun _ _ _ h=>h) (Or.inl ⟨by rfl,?_⟩) hHeld ?_ ?_
                        rotate_left
                        · rintro w' ⟨s0,s1,s2,s3,s4,s5,s6,s7,s8,s9⟩
                          go_simp
                          with_reducible rfl
                        rotate_left
                        · simp only [Act.put,List.setIfInBounds_toArray,List.set_cons_zero,List.set_cons_succ,i64_w,i32_w]
                          rfl
                        refine pure_ (i:=11) (N:=some 45) (v:=?_) (a':=?_) #[true,true,true,true,true,true,true,true,true,true,true,true,false,false,false,false,false,false,false,false,false,false,false,false,false,false] rfl rfl (any_of HT_.out (by kernel_rfl)) (fun _ _ _ h=>h) (Or.inl ⟨by rfl,?_⟩) ?_ ?_
                        rotate_left
                        · intro w'
                          go_simp
                          with_reducible rfl
                        rotate_left
                        · simp only [Act.put,List.setIfInBounds_toArray,List.set_cons_zero,List.set_cons_succ,i64_w,i32_w]
                          rfl
                        refine pure_ (i:=12) (N:=some 46) (v:=?_) (a':=?_) #[true,true,true,true,true,true,true,true,true,true,true,true,true,false,false,false,false,false,false,false,false,false,false,false,false,false] rfl rfl (any_of HT_.out (by kernel_rfl)) (fun _ _ _ h=>h) (Or.inl ⟨by rfl,?_⟩) ?_ ?_
                        rotate_left
                        · intro w'
                          go_simp
                          with_reducible rfl
                        rotate_left
                        · simp only [Act.put,List.setIfInBounds_toArray,List.set_cons_zero,List.set_cons_succ,i64_w,i32_w]
                          rfl
                        refine pure_ (i:=13) (N:=some 47) (v:=?_) (a':=?_) #[true,true,true,true,true,true,true,true,true,true,true,true,true,true,false,false,false,false,false,false,false,false,false,false,false,false] rfl rfl (any_of HT_.out (by kernel_rfl)) (fun _ _ _ h=>h) (Or.inl ⟨by rfl,?_⟩) ?_ ?_
                        rotate_left
                        · intro w'
                          go_simp
                          with_reducible rfl
                        rotate_left
                        · simp only [Act.put,List.setIfInBounds_toArray,List.set_cons_zero,List.set_cons_succ,i64_w,i32_w]
                          rfl
                        refine pure_ (i:=14) (N:=some 48) (v:=?_) (a':=?_) #[true,true,true,true,true,true,true,true,true,true,true,true,true,true,true,false,false,false,false,false,false,false,false,false,false,false] rfl rfl (any_of HT_.out (by kernel_rfl)) (fun _ _ _ h=>h) (Or.inl ⟨by rfl,?_⟩) ?_ ?_
                        rotate_left
                        · intro w'
                          go_simp
                          with_reducible rfl
                        rotate_left
                        · simp only [Act.put,List.setIfInBounds_toArray,List.set_cons_zero,List.set_cons_succ,i64_w,i32_w]
                          rfl
                        refine pure_ (i:=15) (N:=some 49) (v:=?_) (a':=?_) #[true,true,true,true,true,true,true,true,true,true,true,true,true,true,true,true,false,false,false,false,false,false,false,false,false,false] rfl rfl (any_of HT_.out (by kernel_rfl)) (fun _ _ _ h=>h) (Or.inl ⟨by rfl,?_⟩) ?_ ?_
                        rotate_left
                        · intro w'
                          go_simp
                          with_reducible rfl
                        rotate_left
                        · simp only [Act.put,List.setIfInBounds_toArray,List.set_cons_zero,List.set_cons_succ,i64_w,i32_w]
                          rfl
                        refine pure_ (i:=16) (N:=some 50) (v:=?_) (a':=?_) #[true,true,true,true,true,true,true,true,true,true,true,true,true,true,true,true,true,false,false,false,false,false,false,false,false,false] rfl rfl (any_of HT_.out (by kernel_rfl)) (fun _ _ _ h=>h) (Or.inl ⟨by rfl,?_⟩) ?_ ?_
                        rotate_left
                        · intro w'
                          go_simp
                          with_reducible rfl
                        rotate_left
                        · simp only [Act.put,List.setIfInBounds_toArray,List.set_cons_zero,List.set_cons_succ,i64_w,i32_w]
                          rfl
                        refine pure_ (i:=17) (N:=some 51) (v:=?_) (a':=?_) #[true,true,true,true,true,true,true,true,true,true,true,true,true,true,true,true,true,true,false,false,false,false,false,false,false,false] rfl rfl (any_of HT_.out (by kernel_rfl)) (fun _ _ _ h=>h) (Or.inl ⟨by rfl,?_⟩) ?_ ?_
                        rotate_left
                        · intro w'
                          go_simp
                          with_reducible rfl
                        rotate_left
                        · simp only [Act.put,List.setIfInBounds_toArray,List.set_cons_zero,List.set_cons_succ,i64_w,i32_w]
                          rfl
                        refine pure_ (i:=19) (N:=some 53) (v:=?_) (a':=?_) #[true,true,true,true,true,true,true,true,true,true,true,true,true,true,true,true,true,true,false,true,false,false,false,false,false,false] rfl rfl (any_of HT_.out (by kernel_rfl)) (fun _ _ _ h=>h) (Or.inl ⟨by rfl,?_⟩) ?_ ?_
                        rotate_left
                        · intro w'
                          go_simp
                          with_reducible rfl
                        rotate_left
                        · simp only [Act.put,List.setIfInBounds_toArray,List.set_cons_zero,List.set_cons_succ,i64_w,i32_w]
                          rfl
                        refine pure_ (i:=20) (N:=some 54) (v:=?_) (a':=?_) #[true,true,true,true,true,true,true,true,true,true,true,true,true,true,true,true,true,true,false,true,true,false,false,false,false,false] rfl rfl (any_of HT_.out (by kernel_rfl)) (fun _ _ _ h=>h) (Or.inl ⟨by rfl,?_⟩) ?_ ?_
                        rotate_left
                        · intro w'
                          go_simp
                          with_reducible rfl
                        rotate_left
                        · simp only [Act.put,List.setIfInBounds_toArray,List.set_cons_zero,List.set_cons_succ,i64_w,i32_w]
                          rfl
                        refine pure_ (i:=21) (N:=some 55) (v:=?_) (a':=?_) #[true,true,true,true,true,true,true,true,true,true,true,true,true,true,true,true,true,true,false,true,true,true,false,false,false,false] rfl rfl (any_of HT_.out (by kernel_rfl)) (fun _ _ _ h=>h) (Or.inl ⟨by rfl,?_⟩) ?_ ?_
                        rotate_left
                        · intro w'
                          go_simp
                          with_reducible rfl
                        rotate_left
                        · simp only [Act.put,List.setIfInBounds_toArray,List.set_cons_zero,List.set_cons_succ,i64_w,i32_w]
                          rfl
                        refine take_ (i:=18) (N:=some 52) (v:=?_) (a':=?_) #[true,true,true,true,true,true,true,true,true,true,true,true,true,true,true,true,true,true,true,true,true,true,false,false,false,false] rfl rfl (take_ofW HT_.out HW_.out (by kernel_rfl)) (fun _ _ _ h=>h) (Or.inl ⟨by rfl,?_⟩) hHeld ?_ ?_
                        rotate_left
                        · rintro w' ⟨s0,s1,s2,s3,s4,s5,s6,s7,s8,s9⟩
                          go_simp
                          with_reducible rfl
                        rotate_left
                        · simp only [Act.put,List.setIfInBounds_toArray,List.set_cons_zero,List.set_cons_succ,i64_w,i32_w]
                          rfl
                        refine take_ (i:=22) (N:=some 56) (v:=?_) (a':=?_) #[true,true,true,true,true,true,true,true,true,true,true,true,true,true,true,true,true,true,true,true,true,true,true,false,false,false] rfl rfl (take_ofW HT_.out HW_.out (by kernel_rfl)) (fun _ _ _ h=>h) (Or.inl ⟨by rfl,?_⟩) hHeld ?_ ?_
                        rotate_left
                        · rintro w' ⟨s0,s1,s2,s3,s4,s5,s6,s7,s8,s9⟩
                          go_simp
                          with_reducible rfl
                        rotate_left
                        · simp only [Act.put,List.setIfInBounds_toArray,List.set_cons_zero,List.set_cons_succ,i64_w,i32_w]
                          rfl
                        refine one_ (i:=23) (N:=some 57) #[true,true,true,true,true,true,true,true,true,true,true,true,true,true,true,true,true,true,true,true,true,true,true,true,false,false] rfl rfl (one_of HT_.out (by kernel_rfl)) (by decide) (fun K hK=>?_)
                        refine goes_ Try.func13 (by kernel_rfl) rfl #[.agg #[.slice A293_0 ((rd_T26 l0 x6_2).f0).length c293_0,.slice A293_1 ((rd_T26 l0 x6_2).f1).length c293_1,.int .i64 ((rd_T26 l0 x6_2).f2),.slice A293_3 ((rd_T26 l0 x6_2).f3).length c293_3],.slice A292_0 (rd_L3 l1 x6_2).length c292_0] (by rfl) rfl rfl (by have e0:=hw293_0.symm.trans hw290_0;have e1:=hw293_1.symm.trans hw290_1;have e3:=hw293_3.symm.trans hw290_3;injection e0 with e0;injection e0 with a0 b0 c0;injection e1 with e1;injection e1 with a1 b1 c1;injection e3 with e3;injection e3 with a3 b3 c3;rw [a0,a1,a3,c0,c1,c3];(try simp only [List.map_toArray,List.map_cons,List.map_nil]);first|done|rfl) ?_
                        with_reducible refine (handshaperef09_IsPossible.calls k2 _ _ ((rd_T26 l0 x6_2).f0) _ _ ((rd_T26 l0 x6_2).f1) ((rd_T26 l0 x6_2).f2) _ _ ((rd_T26 l0 x6_2).f3) _ _ (rd_L3 l1 x6_2) t295 _ ?side1 ?side2 ?side3 ?side4 ?side5 ?side6 ?side7 ?side8 A17.out).mono ?_
                        (case side1=>repeat (first|exact (Kd.C_below HR293_0.out HB.out)|(with_reducible refine Kd.C_alloc ?_ _)|(with_reducible refine Kd.C_drewN ?_ _)|(with_reducible refine Kd.C_drew ?_)))
                        (case side2=>exact HC293_0.out)
                        (case side3=>repeat (first|exact (Kd.C_below HR293_1.out HB.out)|(with_reducible refine Kd.C_alloc ?_ _)|(with_reducible refine Kd.C_drewN ?_ _)|(with_reducible refine Kd.C_drew ?_)))
                        (case side4=>exact HC293_1.out)
                        (case side5=>repeat (first|exact (Kd.C_below HR293_3.out HB.out)|(with_reducible refine Kd.C_alloc ?_ _)|(with_reducible refine Kd.C_drewN ?_ _)|(with_reducible refine Kd.C_drew ?_)))
                        (case side6=>exact HC293_3.out)
                        (case side7=>repeat (first|exact (Kd.C_below HR294_0.out HB.out)|(with_reducible refine Kd.C_alloc ?_ _)|(with_reducible refine Kd.C_drewN ?_ _)|(with_reducible refine Kd.C_drew ?_)))
                        (case side8=>exact HC294_0.out)
                        rintro e w20 ⟨rfl,hb⟩
                        refine ⟨_,rfl,?_⟩
                        have n0_:=Aside0.mk (Kd.R_below z6_ hb)
                        have n1_:=Aside0.mk (below_step z1_ hb)
                        clear HO_5
                        clear HB
                        have HO_5:=n0_
                        have HB:=n1_
                        clear n0_ n1_
                        (try clear hb)
                        (try clear hb2)
                        (try clear hk)
                        (try clear hi)
                        refine hK.out _ _ ⟨((HB.out.cell (World.block_lt_of_cell? w _ hw290_0)).trans hw290_0),((HB.out.cell (World.block_lt_of_cell? w _ hw290_1)).trans hw290_1),((HB.out.cell (World.block_lt_of_cell? w _ hw290_2)).trans hw290_2),((HB.out.cell (World.block_lt_of_cell? w _ hw290_3)).trans hw290_3),((HB.out.cell (World.block_lt_of_cell? w _ hw292_0)).trans hw292_0),((HB.out.cell (World.block_lt_of_cell? w _ hw293_0)).trans hw293_0),((HB.out.cell (World.block_lt_of_cell? w _ hw293_1)).trans hw293_1),((HB.out.cell (World.block_lt_of_cell? w _ hw293_2)).trans hw293_2),((HB.out.cell (World.block_lt_of_cell? w _ hw293_3)).trans hw293_3),((HB.out.cell (World.block_lt_of_cell? w _ hw294_0)).trans hw294_0)⟩ (fun hHeld=>?_)
                        clear hK K
                        refine norm_ (a':=?_) ?_ ?_
                        rotate_left
                        · show Act.put _ (some 57) _=_
                          simp only [Act.put,List.setIfInBounds_toArray,List.set_cons_zero,List.set_cons_succ,i64_w,i32_w]
                          rfl
                        refine pure_ (i:=24) (N:=some 58) (v:=?_) (a':=?_) #[true,true,true,true,true,true,true,true,true,true,true,true,true,true,true,true,true,true,true,true,true,true,true,true,true,false] rfl rfl (any_of HT_.out (by kernel_rfl)) (fun _ _ _ h=>h) (Or.inl ⟨by rfl,?_⟩) ?_ ?_
                        rotate_left
                        · intro w'
                          go_simp
                          with_reducible rfl
                        rotate_left
                        · simp only [Act.put,List.setIfInBounds_toArray,List.set_cons_zero,List.set_cons_succ,i64_w,i32_w]
                          rfl
                        refine pure_ (i:=25) (N:=some 59) (v:=?_) (a':=?_) #[true,true,true,true,true,true,true,true,true,true,true,true,true,true,true,true,true,true,true,true,true,true,true,true,true,true] rfl rfl (any_of HT_.out (by kernel_rfl)) (fun _ _ _ h=>h) (Or.inl ⟨by rfl,?_⟩) ?_ ?_
                        rotate_left
                        · intro w'
                          go_simp
                          with_reducible rfl
                        rotate_left
                        · simp only [Act.put,List.setIfInBounds_toArray,List.set_cons_zero,List.set_cons_succ,i64_w,i32_w]
                          rfl
                        refine done_ (done_of HT_.out (by kernel_rfl)) ?_
                        try go_wp2
                        go_meet
                        case rel=>exact ⟨_,(!t295),z8_,H',⟨z22_⟩,⟨z7_⟩,⟨z2_⟩⟩
                    · rw [if_neg c13] at H
                      exact absurd H (by simp)
                  · replace c12:=Bool.eq_false_iff.mpr c12
                    subst c12
                    have H1 : (handshapelaw09_ExamsRanked.j2 k2 l0 l1 x5_2 x6_2 true)=some r:=by rw [if_neg (show ¬ (false=true) by decide)] at H;exact H
                    clear H
                    have H:=H1
                    clear H1
                    have H':=Aside0.mk H
                    clear H
                    try go_wp2
                    have n0_:=Aside0.mk (Kd.R_drew HO_5.out)
                    have n1_:=Aside0.mk (below_drew1 HB.out)
                    clear HO_5
                    clear HB
                    have HO_5:=n0_
                    have HB:=n1_
                    clear n0_ n1_
                    have p290 : 0≤(x6_2 : Int):=of_decide_eq_true z3_
                    have q290 : x6_2<(l0.length : Int):=of_decide_eq_true z3_
                    obtain ⟨ad290,A290_0,c290_0,A290_1,c290_1,A290_3,c290_3,e290,hx290_0,hx290_1,hx290_2,hx290_3,hl290_0,hi290_0,hl290_1,hi290_1,hl290_3,hi290_3⟩:=at_T26 HR0.out x6_2 p290 q290
                    have hw290_3:=hx290_3
                    have hw290_2:=hx290_2
                    have hw290_1:=hx290_1
                    have hw290_0:=hx290_0
                    cases e290
                    replace hx290_0:=(HB.out.cell (World.block_lt_of_cell? w _ hx290_0)).trans hx290_0
                    replace hx290_1:=(HB.out.cell (World.block_lt_of_cell? w _ hx290_1)).trans hx290_1
                    replace hx290_2:=(HB.out.cell (World.block_lt_of_cell? w _ hx290_2)).trans hx290_2
                    replace hx290_3:=(HB.out.cell (World.block_lt_of_cell? w _ hx290_3)).trans hx290_3
                    have HR290_0:=Aside0.mk hi290_0
                    have HC290_0:=Aside0.mk hl290_0
                    clear hi290_0 hl290_0
                    have HR290_1:=Aside0.mk hi290_1
                    have HC290_1:=Aside0.mk hl290_1
                    clear hi290_1 hl290_1
                    have HR290_3:=Aside0.mk hi290_3
                    have HC290_3:=Aside0.mk hl290_3
                    clear hi290_3 hl290_3
                    replace p290:=eq_true p290
                    replace q290:=eq_true q290
                    refine start_ (n:=26) (S:=fun w'=>w'.cell? (ad290.add ((x6_2).toNat * 4))=some (.slice A290_0 ((rd_T26 l0 x6_2).f0).length c290_0)∧w'.cell? ⟨(ad290.add ((x6_2).toNat * 4)).block,(ad290.add ((x6_2).toNat * 4)).off+1,none⟩=some (.slice A290_1 ((rd_T26 l0 x6_2).f1).length c290_1)∧w'.cell? ⟨(ad290.add ((x6_2).toNat * 4)).block,(ad290.add ((x6_2).toNat * 4)).off+2,none⟩=some (.int .i64 ((rd_T26 l0 x6_2).f2))∧w'.cell? ⟨(ad290.add ((x6_2).toNat * 4)).block,(ad290.add ((x6_2).toNat * 4)).off+3,none⟩=some (.slice A290_3 ((rd_T26 l0 x6_2).f3).length c290_3)) (ds:=[]) #[false,false,false,false,false,false,false,false,false,false,false,false,false,false,false,false,false,false,false,false,false,false,false,false,false,false] (by kernel_rfl) rfl rfl ⟨((HB.out.cell (World.block_lt_of_cell? w _ hw290_0)).trans hw290_0),((HB.out.cell (World.block_lt_of_cell? w _ hw290_1)).trans hw290_1),((HB.out.cell (World.block_lt_of_cell? w _ hw290_2)).trans hw290_2),((HB.out.cell (World.block_lt_of_cell? w _ hw290_3)).trans hw290_3)⟩ (fun hHeld=>?_);refine with_tabW handshapelaw09_ExamsRanked.tab7 handshapelaw09_ExamsRanked.bits7 (fun HT_ HW_=>?_)
                    generalize wr.drew=w21 at HO_5 HB HR290_0 HR290_1 HR290_3 hx290_0 hx290_1 hx290_2 hx290_3 hHeld ⊢
                    refine pure_ (i:=0) (N:=some 34) (v:=?_) (a':=?_) #[true,false,false,false,false,false,false,false,false,false,false,false,false,false,false,false,false,false,false,false,false,false,false,false,false,false] rfl rfl (any_of HT_.out (by kernel_rfl)) (fun _ _ _ h=>h) (Or.inl ⟨by rfl,?_⟩) ?_ ?_
                    rotate_left
                    · intro w'
                      go_simp
                      with_reducible rfl
                    rotate_left
                    · simp only [Act.put,List.setIfInBounds_toArray,List.set_cons_zero,List.set_cons_succ,i64_w,i32_w]
                      rfl
                    refine pure_ (i:=1) (N:=some 35) (v:=?_) (a':=?_) #[true,true,false,false,false,false,false,false,false,false,false,false,false,false,false,false,false,false,false,false,false,false,false,false,false,false] rfl rfl (any_of HT_.out (by kernel_rfl)) (fun _ _ _ h=>h) (Or.inl ⟨by rfl,?_⟩) ?_ ?_
                    rotate_left
                    · intro w'
                      go_simp
                      with_reducible rfl
                    rotate_left
                    · simp only [Act.put,List.setIfInBounds_toArray,List.set_cons_zero,List.set_cons_succ,i64_w,i32_w]
                      rfl
                    refine pure_ (i:=2) (N:=some 36) (v:=?_) (a':=?_) #[true,true,true,false,false,false,false,false,false,false,false,false,false,false,false,false,false,false,false,false,false,false,false,false,false,false] rfl rfl (any_of HT_.out (by kernel_rfl)) (fun _ _ _ h=>h) (Or.inl ⟨by rfl,?_⟩) ?_ ?_
                    rotate_left
                    · intro w'
                      go_simp
                      with_reducible rfl
                    rotate_left
                    · simp only [Act.put,List.setIfInBounds_toArray,List.set_cons_zero,List.set_cons_succ,i64_w,i32_w]
                      rfl
                    refine take_ (i:=3) (N:=some 37) (v:=?_) (a':=?_) #[true,true,true,true,false,false,false,false,false,false,false,false,false,false,false,false,false,false,false,false,false,false,false,false,false,false] rfl rfl (take_ofW HT_.out HW_.out (by kernel_rfl)) (fun _ _ _ h=>h) (Or.inl ⟨by rfl,?_⟩) hHeld ?_ ?_
                    rotate_left
                    · rintro w' ⟨s0,s1,s2,s3⟩
                      go_simp
                      with_reducible rfl
                    rotate_left
                    · simp only [Act.put,List.setIfInBounds_toArray,List.set_cons_zero,List.set_cons_succ,i64_w,i32_w]
                      rfl
                    refine one_ (i:=4) (N:=some 38) #[true,true,true,true,true,false,false,false,false,false,false,false,false,false,false,false,false,false,false,false,false,false,false,false,false,false] rfl rfl (one_of HT_.out (by kernel_rfl)) (by decide) (fun K hK=>?_)
                    refine goes_ Try.func7 (by kernel_rfl) rfl #[.agg #[.slice A290_0 ((rd_T26 l0 x6_2).f0).length c290_0,.slice A290_1 ((rd_T26 l0 x6_2).f1).length c290_1,.int .i64 ((rd_T26 l0 x6_2).f2),.slice A290_3 ((rd_T26 l0 x6_2).f3).length c290_3]] (by rfl) rfl rfl z5_ ?_
                    with_reducible refine (handshapelaw09_ready.calls k2 _ _ ((rd_T26 l0 x6_2).f0) _ _ ((rd_T26 l0 x6_2).f1) ((rd_T26 l0 x6_2).f2) _ _ ((rd_T26 l0 x6_2).f3) false _ ?side1 ?side2 ?side3 ?side4 ?side5 ?side6 A11.out).mono ?_
                    (case side1=>repeat (first|exact (Kd.C_below HR290_0.out HB.out)|(with_reducible refine Kd.C_alloc ?_ _)|(with_reducible refine Kd.C_drewN ?_ _)|(with_reducible refine Kd.C_drew ?_)))
                    (case side2=>exact HC290_0.out)
                    (case side3=>repeat (first|exact (Kd.C_below HR290_1.out HB.out)|(with_reducible refine Kd.C_alloc ?_ _)|(with_reducible refine Kd.C_drewN ?_ _)|(with_reducible refine Kd.C_drew ?_)))
                    (case side4=>exact HC290_1.out)
                    (case side5=>repeat (first|exact (Kd.C_below HR290_3.out HB.out)|(with_reducible refine Kd.C_alloc ?_ _)|(with_reducible refine Kd.C_drewN ?_ _)|(with_reducible refine Kd.C_drew ?_)))
                    (case side6=>exact HC290_3.out)
                    rintro e w22 ⟨rfl,hb⟩
                    refine ⟨_,rfl,?_⟩
                    have n0_:=Aside0.mk (Kd.R_below z6_ hb)
                    have n1_:=Aside0.mk (below_step z1_ hb)
                    clear HO_5
                    clear HB
                    have HO_5:=n0_
                    have HB:=n1_
                    clear n0_ n1_
                    (try clear hb)
                    (try clear hb2)
                    (try clear hk)
                    (try clear hi)
                    refine hK.out _ _ ⟨((HB.out.cell (World.block_lt_of_cell? w _ hw290_0)).trans hw290_0),((HB.out.cell (World.block_lt_of_cell? w _ hw290_1)).trans hw290_1),((HB.out.cell (World.block_lt_of_cell? w _ hw290_2)).trans hw290_2),((HB.out.cell (World.block_lt_of_cell? w _ hw290_3)).trans hw290_3)⟩ (fun hHeld=>?_)
                    clear hK K
                    refine norm_ (a':=?_) ?_ ?_
                    rotate_left
                    · show Act.put _ (some 38) _=_
                      simp only [Act.put,List.setIfInBounds_toArray,List.set_cons_zero,List.set_cons_succ,i64_w,i32_w]
                      rfl
                    refine pure_ (i:=5) (N:=some 39) (v:=?_) (a':=?_) #[true,true,true,true,true,true,false,false,false,false,false,false,false,false,false,false,false,false,false,false,false,false,false,false,false,false] rfl rfl (any_of HT_.out (by kernel_rfl)) (fun _ _ _ h=>h) (Or.inl ⟨by rfl,?_⟩) ?_ ?_
                    rotate_left
                    · intro w'
                      go_simp
                      with_reducible rfl
                    rotate_left
                    · simp only [Act.put,List.setIfInBounds_toArray,List.set_cons_zero,List.set_cons_succ,i64_w,i32_w]
                      rfl
                    refine pure_ (i:=6) (N:=some 40) (v:=?_) (a':=?_) #[true,true,true,true,true,true,true,false,false,false,false,false,false,false,false,false,false,false,false,false,false,false,false,false,false,false] rfl rfl (any_of HT_.out (by kernel_rfl)) (fun _ _ _ h=>h) (Or.inl ⟨by rfl,?_⟩) ?_ ?_
                    rotate_left
                    · intro w'
                      go_simp
                      with_reducible rfl
                    rotate_left
                    · simp only [Act.put,List.setIfInBounds_toArray,List.set_cons_zero,List.set_cons_succ,i64_w,i32_w]
                      rfl
                    refine pure_ (i:=7) (N:=some 41) (v:=undef) (a':=?_) #[true,true,true,true,true,true,true,true,false,false,false,false,false,false,false,false,false,false,false,false,false,false,false,false,false,false] rfl rfl (any_of HT_.out (by kernel_rfl)) (fun _ _ _ h=>h) (Or.inr ⟨by rfl,rfl⟩) ?_ ?_
                    rotate_left
                    · simp only [Act.put,List.setIfInBounds_toArray,List.set_cons_zero,List.set_cons_succ,i64_w,i32_w]
                      rfl
                    refine pure_ (i:=8) (N:=some 42) (v:=undef) (a':=?_) #[true,true,true,true,true,true,true,true,true,false,false,false,false,false,false,false,false,false,false,false,false,false,false,false,false,false] rfl rfl (any_of HT_.out (by kernel_rfl)) (fun _ _ _ h=>h) (Or.inr ⟨by rfl,rfl⟩) ?_ ?_
                    rotate_left
                    · simp only [Act.put,List.setIfInBounds_toArray,List.set_cons_zero,List.set_cons_succ,i64_w,i32_w]
                      rfl
                    refine pure_ (i:=9) (N:=some 43) (v:=undef) (a':=?_) #[true,true,true,true,true,true,true,true,true,true,false,false,false,false,false,false,false,false,false,false,false,false,false,false,false,false] rfl rfl (any_of HT_.out (by kernel_rfl)) (fun _ _ _ h=>h) (Or.inr ⟨by rfl,rfl⟩) ?_ ?_
                    rotate_left
                    · simp only [Act.put,List.setIfInBounds_toArray,List.set_cons_zero,List.set_cons_succ,i64_w,i32_w]
                      rfl
                    refine pure_ (i:=10) (N:=some 44) (v:=undef) (a':=?_) #[true,true,true,true,true,true,true,true,true,true,true,false,false,false,false,false,false,false,false,false,false,false,false,false,false,false] rfl rfl (any_of HT_.out (by kernel_rfl)) (fun _ _ _ h=>h) (Or.inr ⟨by rfl,rfl⟩) ?_ ?_
                    rotate_left
                    · simp only [Act.put,List.setIfInBounds_toArray,List.set_cons_zero,List.set_cons_succ,i64_w,i32_w]
                      rfl
                    refine pure_ (i:=11) (N:=some 45) (v:=undef) (a':=?_) #[true,true,true,true,true,true,true,true,true,true,true,true,false,false,false,false,false,false,false,false,false,false,false,false,false,false] rfl rfl (any_of HT_.out (by kernel_rfl)) (fun _ _ _ h=>h) (Or.inr ⟨by rfl,rfl⟩) ?_ ?_
                    rotate_left
                    · simp only [Act.put,List.setIfInBounds_toArray,List.set_cons_zero,List.set_cons_succ,i64_w,i32_w]
                      rfl
                    refine pure_ (i:=12) (N:=some 46) (v:=undef) (a':=?_) #[true,true,true,true,true,true,true,true,true,true,true,true,true,false,false,false,false,false,false,false,false,false,false,false,false,false] rfl rfl (any_of HT_.out (by kernel_rfl)) (fun _ _ _ h=>h) (Or.inr ⟨by rfl,rfl⟩) ?_ ?_
                    rotate_left
                    · simp only [Act.put,List.setIfInBounds_toArray,List.set_cons_zero,List.set_cons_succ,i64_w,i32_w]
                      rfl
                    refine pure_ (i:=13) (N:=some 47) (v:=?_) (a':=?_) #[true,true,true,true,true,true,true,true,true,true,true,true,true,true,false,false,false,false,false,false,false,false,false,false,false,false] rfl rfl (any_of HT_.out (by kernel_rfl)) (fun _ _ _ h=>h) (Or.inl ⟨by rfl,?_⟩) ?_ ?_
                    rotate_left
                    · intro w'
                      go_simp
                      with_reducible rfl
                    rotate_left
                    · simp only [Act.put,List.setIfInBounds_toArray,List.set_cons_zero,List.set_cons_succ,i64_w,i32_w]
                      rfl
                    refine pure_ (i:=14) (N:=some 48) (v:=?_) (a':=?_) #[true,true,true,true,true,true,true,true,true,true,true,true,true,true,true,false,false,false,false,false,false,false,false,false,false,false] rfl rfl (any_of HT_.out (by kernel_rfl)) (fun _ _ _ h=>h) (Or.inl ⟨by rfl,?_⟩) ?_ ?_
                    rotate_left
                    · intro w'
                      go_simp
                      with_reducible rfl
                    rotate_left
                    · simp only [Act.put,List.setIfInBounds_toArray,List.set_cons_zero,List.set_cons_succ,i64_w,i32_w]
                      rfl
                    refine pure_ (i:=15) (N:=some 49) (v:=undef) (a':=?_) #[true,true,true,true,true,true,true,true,true,true,true,true,true,true,true,true,false,false,false,false,false,false,false,false,false,false] rfl rfl (any_of HT_.out (by kernel_rfl)) (fun _ _ _ h=>h) (Or.inr ⟨by rfl,rfl⟩) ?_ ?_
                    rotate_left
                    · simp only [Act.put,List.setIfInBounds_toArray,List.set_cons_zero,List.set_cons_succ,i64_w,i32_w]
                      rfl
                    refine pure_ (i:=16) (N:=some 50) (v:=undef) (a':=?_) #[true,true,true,true,true,true,true,true,true,true,true,true,true,true,true,true,true,false,false,false,false,false,false,false,false,false] rfl rfl (any_of HT_.out (by kernel_rfl)) (fun _ _ _ h=>h) (Or.inr ⟨by rfl,rfl⟩) ?_ ?_
                    rotate_left
                    · simp only [Act.put,List.setIfInBounds_toArray,List.set_cons_zero,List.set_cons_succ,i64_w,i32_w]
                      rfl
                    refine pure_ (i:=17) (N:=some 51) (v:=undef) (a':=?_) #[true,true,true,true,true,true,true,true,true,true,true,true,true,true,true,true,true,true,false,false,false,false,false,false,false,false] rfl rfl (any_of HT_.out (by kernel_rfl)) (fun _ _ _ h=>h) (Or.inr ⟨by rfl,rfl⟩) ?_ ?_
                    rotate_left
                    · simp only [Act.put,List.setIfInBounds_toArray,List.set_cons_zero,List.set_cons_succ,i64_w,i32_w]
                      rfl
                    refine pure_ (i:=18) (N:=some 52) (v:=undef) (a':=?_) #[true,true,true,true,true,true,true,true,true,true,true,true,true,true,true,true,true,true,true,false,false,false,false,false,false,false] rfl rfl (any_of HT_.out (by kernel_rfl)) (fun _ _ _ h=>h) (Or.inr ⟨by rfl,rfl⟩) ?_ ?_
                    rotate_left
                    · simp only [Act.put,List.setIfInBounds_toArray,List.set_cons_zero,List.set_cons_succ,i64_w,i32_w]
                      rfl
                    refine pure_ (i:=19) (N:=some 53) (v:=undef) (a':=?_) #[true,true,true,true,true,true,true,true,true,true,true,true,true,true,true,true,true,true,true,true,false,false,false,false,false,false] rfl rfl (any_of HT_.out (by kernel_rfl)) (fun _ _ _ h=>h) (Or.inr ⟨by rfl,rfl⟩) ?_ ?_
                    rotate_left
                    · simp only [Act.put,List.setIfInBounds_toArray,List.set_cons_zero,List.set_cons_succ,i64_w,i32_w]
                      rfl
                    refine pure_ (i:=20) (N:=some 54) (v:=undef) (a':=?_) #[true,true,true,true,true,true,true,true,true,true,true,true,true,true,true,true,true,true,true,true,true,false,false,false,false,false] rfl rfl (any_of HT_.out (by kernel_rfl)) (fun _ _ _ h=>h) (Or.inr ⟨by rfl,rfl⟩) ?_ ?_
                    rotate_left
                    · simp only [Act.put,List.setIfInBounds_toArray,List.set_cons_zero,List.set_cons_succ,i64_w,i32_w]
                      rfl
                    refine pure_ (i:=21) (N:=some 55) (v:=undef) (a':=?_) #[true,true,true,true,true,true,true,true,true,true,true,true,true,true,true,true,true,true,true,true,true,true,false,false,false,false] rfl rfl (any_of HT_.out (by kernel_rfl)) (fun _ _ _ h=>h) (Or.inr ⟨by rfl,rfl⟩) ?_ ?_
                    rotate_left
                    · simp only [Act.put,List.setIfInBounds_toArray,List.set_cons_zero,List.set_cons_succ,i64_w,i32_w]
                      rfl
                    refine pure_ (i:=22) (N:=some 56) (v:=undef) (a':=?_) #[true,true,true,true,true,true,true,true,true,true,true,true,true,true,true,true,true,true,true,true,true,true,true,false,false,false] rfl rfl (any_of HT_.out (by kernel_rfl)) (fun _ _ _ h=>h) (Or.inr ⟨by rfl,rfl⟩) ?_ ?_
                    rotate_left
                    · simp only [Act.put,List.setIfInBounds_toArray,List.set_cons_zero,List.set_cons_succ,i64_w,i32_w]
                      rfl
                    refine pure_ (i:=23) (N:=some 57) (v:=undef) (a':=?_) #[true,true,true,true,true,true,true,true,true,true,true,true,true,true,true,true,true,true,true,true,true,true,true,true,false,false] rfl rfl (any_of HT_.out (by kernel_rfl)) (fun _ _ _ h=>h) (Or.inr ⟨by rfl,rfl⟩) ?_ ?_
                    rotate_left
                    · simp only [Act.put,List.setIfInBounds_toArray,List.set_cons_zero,List.set_cons_succ,i64_w,i32_w]
                      rfl
                    refine pure_ (i:=24) (N:=some 58) (v:=undef) (a':=?_) #[true,true,true,true,true,true,true,true,true,true,true,true,true,true,true,true,true,true,true,true,true,true,true,true,true,false] rfl rfl (any_of HT_.out (by kernel_rfl)) (fun _ _ _ h=>h) (Or.inr ⟨by rfl,rfl⟩) ?_ ?_
                    rotate_left
                    · simp only [Act.put,List.setIfInBounds_toArray,List.set_cons_zero,List.set_cons_succ,i64_w,i32_w]
                      rfl
                    refine pure_ (i:=25) (N:=some 59) (v:=?_) (a':=?_) #[true,true,true,true,true,true,true,true,true,true,true,true,true,true,true,true,true,true,true,true,true,true,true,true,true,true] rfl rfl (any_of HT_.out (by kernel_rfl)) (fun _ _ _ h=>h) (Or.inl ⟨by rfl,?_⟩) ?_ ?_
                    rotate_left
                    · intro w'
                      go_simp
                      with_reducible rfl
                    rotate_left
                    · simp only [Act.put,List.setIfInBounds_toArray,List.set_cons_zero,List.set_cons_succ,i64_w,i32_w]
                      rfl
                    refine done_ (done_of HT_.out (by kernel_rfl)) ?_
                    try go_wp2
                    go_meet
                    case rel=>exact ⟨_,(true),z8_,H',⟨z22_⟩,⟨z7_⟩,⟨z2_⟩⟩
                · rw [if_neg c10] at H
                  exact absurd H (by simp)
              case rest =>
                as_aux_lemma =>
                clear HC9
                try clear c1;try clear c2;try clear p2;try clear q2;try clear hx2;try clear c7;try clear hx290_0;try clear hx290_1;try clear hx290_2;try clear hx290_3;try clear hx292_0;try clear hx293_0;try clear hx293_1;try clear hx293_2;try clear hx293_3;try clear hx294_0;try clear p290;try clear p292;try clear p293;try clear p294;try clear q290;try clear q292;try clear q293;try clear q294
                obtain ⟨kq,x59_8,rfl,HA,HJ8,HO_5,HB⟩:=hcut
                cases kq with
                | zero=>exact absurd HA.out (by simp [handshapelaw09_ExamsRanked.j2])
                | succ kj8 =>
                  have H:=HA.out
                  clear HA
                  simp only [handshapelaw09_ExamsRanked.j2] at H
                  by_cases c23 : x59_8=true
                  · subst c23
                    have H1 : ((handshapelaw09_works.f kj8).bind fun t296=>(some t296))=some r:=by rw [if_pos rfl] at H;exact H
                    clear H
                    have H:=H1
                    clear H1
                    replace H:=Option.bind_eq_some_iff.mp H
                    obtain ⟨t296,A240,H⟩:=H
                    replace H : (some t296)=some r:=H
                    have A24:=Aside0.mk A240
                    clear A240
                    obtain rfl:=Option.some.inj H
                    go_wp2_with (first|((with_reducible refine gate_callee (f:=8) rfl ?_);refine goesL_ (some 60) rfl rfl Try.func8 (by kernel_rfl) rfl #[] rfl z5_ ?_;(with_reducible refine (handshapelaw09_works.calls kj8  t296 _ A24.out).mono ?_);rintro e w25 ⟨rfl,hb⟩;refine ⟨_,rfl,?_⟩;have n0_:=Aside0.mk (Kd.R_below z6_ hb);have n1_:=Aside0.mk (below_step z1_ hb);clear HO_5;clear HB;have HO_5:=n0_;have HB:=n1_;clear n0_ n1_;(try clear hb);(try clear hb2);(try clear hk);(try clear hi)))
                    go_ret
                    exact ⟨z26_,z2_⟩
                  · replace c23:=Bool.eq_false_iff.mpr c23
                    subst c23
                    have H1 : (if 0≤x6_2 then (if x6_2<(l0.length : Int) then (if x6_2<(l1.length : Int) then ((handshaperef09_Result.f kj8 ((rd_T26 l0 x6_2).f0) ((rd_T26 l0 x6_2).f1) ((rd_T26 l0 x6_2).f2) ((rd_T26 l0 x6_2).f3) (rd_L3 l1 x6_2)).bind fun t299=>(if x5_2.length<17592186044416 then (handshapelaw09_ExamsRanked.l0 kj8 l0 l1 (x5_2++[t299]) (wrap64 (x6_2+1))) else (none))) else (none)) else (none)) else (none))=some r:=by rw [if_neg (show ¬ (false=true) by decide)] at H;exact H
                    clear H
                    have H:=H1
                    clear H1
                    by_cases c26 : 0≤x6_2
                    · rw [if_pos c26] at H
                      have c26b0 : decide (0≤x6_2)=true:=decide_eq_true c26
                      clear c26
                      by_cases c27 : x6_2<(l0.length : Int)
                      · rw [if_pos c27] at H
                        have c27b0 : decide (x6_2<(l0.length : Int))=true:=decide_eq_true c27
                        clear c27
                        by_cases c28 : x6_2<(l1.length : Int)
                        · rw [if_pos c28] at H
                          have c28b0 : decide (x6_2<(l1.length : Int))=true:=decide_eq_true c28
                          clear c28
                          replace H:=Option.bind_eq_some_iff.mp H
                          obtain ⟨t299,A290,H⟩:=H
                          replace H : (if x5_2.length<17592186044416 then (handshapelaw09_ExamsRanked.l0 kj8 l0 l1 (x5_2++[t299]) (wrap64 (x6_2+1))) else (none))=some r:=H
                          have A29:=Aside0.mk A290
                          clear A290
                          by_cases c30 : x5_2.length<17592186044416
                          · rw [if_pos c30] at H
                            have LMc30:=Aside0.mk c30
                            clear c30
                            obtain ⟨y300,hy300⟩ : ∃ y_ : List Int,y_=(x5_2++[t299]):=⟨_,rfl⟩
                            replace H : (handshapelaw09_ExamsRanked.l0 kj8 l0 l1 y300 (wrap64 (x6_2+1)))=some r:=by first|(rw [hy300];with_reducible exact H)|(have H2_:=(Option.bind_some _ _).symm.trans H;rw [hy300];with_reducible exact H2_)|(have H2_:=(Option.bind_some _ _).symm.trans H;with_reducible exact H2_)|with_reducible exact H|(rw [hy300];exact H)|exact H
                            have Ny300:=Aside0.mk hy300
                            clear hy300
                            have H':=Aside0.mk H
                            clear H
                            try go_wp2
                            have n0_:=Aside0.mk (Kd.R_drew HO_5.out)
                            have n1_:=Aside0.mk (below_drew1 HB.out)
                            clear HO_5
                            clear HB
                            have HO_5:=n0_
                            have HB:=n1_
                            clear n0_ n1_
                            have p297 : 0≤(x6_2 : Int):=of_decide_eq_true z3_
                            have q297 : x6_2<(l0.length : Int):=of_decide_eq_true z3_
                            obtain ⟨ad297,A297_0,c297_0,A297_1,c297_1,A297_3,c297_3,e297,hx297_0,hx297_1,hx297_2,hx297_3,hl297_0,hi297_0,hl297_1,hi297_1,hl297_3,hi297_3⟩:=at_T26 HR0.out x6_2 p297 q297
                            have hw297_3:=hx297_3
                            have hw297_2:=hx297_2
                            have hw297_1:=hx297_1
                            have hw297_0:=hx297_0
                            cases e297
                            replace hx297_0:=(HB.out.cell (World.block_lt_of_cell? w _ hx297_0)).trans hx297_0
                            replace hx297_1:=(HB.out.cell (World.block_lt_of_cell? w _ hx297_1)).trans hx297_1
                            replace hx297_2:=(HB.out.cell (World.block_lt_of_cell? w _ hx297_2)).trans hx297_2
                            replace hx297_3:=(HB.out.cell (World.block_lt_of_cell? w _ hx297_3)).trans hx297_3
                            have HR297_0:=Aside0.mk hi297_0
                            have HC297_0:=Aside0.mk hl297_0
                            clear hi297_0 hl297_0
                            have HR297_1:=Aside0.mk hi297_1
                            have HC297_1:=Aside0.mk hl297_1
                            clear hi297_1 hl297_1
                            have HR297_3:=Aside0.mk hi297_3
                            have HC297_3:=Aside0.mk hl297_3
                            clear hi297_3 hl297_3
                            replace p297:=eq_true p297
                            replace q297:=eq_true q297
                            have p298 : 0≤(x6_2 : Int):=of_decide_eq_true z3_
                            have q298 : x6_2<(l1.length : Int):=of_decide_eq_true z3_
                            obtain ⟨ad298,A298_0,c298_0,e298,hx298_0,hl298_0,hi298_0⟩:=at_L3 HR1.out x6_2 p298 q298
                            have hw298_0:=hx298_0
                            cases e298
                            replace hx298_0:=(HB.out.cell (World.block_lt_of_cell? w _ hx298_0)).trans hx298_0
                            have HR298_0:=Aside0.mk hi298_0
                            have HC298_0:=Aside0.mk hl298_0
                            clear hi298_0 hl298_0
                            replace p298:=eq_true p298
                            replace q298:=eq_true q298
                            refine start_ (n:=13) (S:=fun w'=>w'.cell? (ad297.add ((x6_2).toNat * 4))=some (.slice A297_0 ((rd_T26 l0 x6_2).f0).length c297_0)∧w'.cell? ⟨(ad297.add ((x6_2).toNat * 4)).block,(ad297.add ((x6_2).toNat * 4)).off+1,none⟩=some (.slice A297_1 ((rd_T26 l0 x6_2).f1).length c297_1)∧w'.cell? ⟨(ad297.add ((x6_2).toNat * 4)).block,(ad297.add ((x6_2).toNat * 4)).off+2,none⟩=some (.int .i64 ((rd_T26 l0 x6_2).f2))∧w'.cell? ⟨(ad297.add ((x6_2).toNat * 4)).block,(ad297.add ((x6_2).toNat * 4)).off+3,none⟩=some (.slice A297_3 ((rd_T26 l0 x6_2).f3).length c297_3)∧w'.cell? (ad298.add (x6_2).toNat)=some (.slice A298_0 (rd_L3 l1 x6_2).length c298_0)) (ds:=[]) #[false,false,false,false,false,false,false,false,false,false,false,false,false] (by kernel_rfl) rfl rfl ⟨((HB.out.cell (World.block_lt_of_cell? w _ hw297_0)).trans hw297_0),((HB.out.cell (World.block_lt_of_cell? w _ hw297_1)).trans hw297_1),((HB.out.cell (World.block_lt_of_cell? w _ hw297_2)).trans hw297_2),((HB.out.cell (World.block_lt_of_cell? w _ hw297_3)).trans hw297_3),((HB.out.cell (World.block_lt_of_cell? w _ hw298_0)).trans hw298_0)⟩ (fun hHeld=>?_);refine with_tabW handshapelaw09_ExamsRanked.tab9 handshapelaw09_ExamsRanked.bits9 (fun HT_ HW_=>?_)
                            generalize wc.drew=w31 at HO_5 HB HR297_0 HR297_1 HR297_3 HR298_0 hx297_0 hx297_1 hx297_2 hx297_3 hx298_0 hHeld ⊢
                            refine pure_ (i:=0) (N:=some 61) (v:=?_) (a':=?_) #[true,false,false,false,false,false,false,false,false,false,false,false,false] rfl rfl (any_of HT_.out (by kernel_rfl)) (fun _ _ _ h=>h) (Or.inl ⟨by rfl,?_⟩) ?_ ?_
                            rotate_left
                            · intro w'
                              go_simp
                              with_reducible rfl
                            rotate_left
                            · simp only [Act.put,List.setIfInBounds_toArray,List.set_cons_zero,List.set_cons_succ,i64_w,i32_w]
                              rfl
                            refine pure_ (i:=1) (N:=some 62) (v:=?_) (a':=?_) #[true,true,false,false,false,false,false,false,false,false,false,false,false] rfl rfl (any_of HT_.out (by kernel_rfl)) (fun _ _ _ h=>h) (Or.inl ⟨by rfl,?_⟩) ?_ ?_
                            rotate_left
                            · intro w'
                              go_simp
                              with_reducible rfl
                            rotate_left
                            · simp only [Act.put,List.setIfInBounds_toArray,List.set_cons_zero,List.set_cons_succ,i64_w,i32_w]
                              rfl
                            refine pure_ (i:=2) (N:=some 63) (v:=?_) (a':=?_) #[true,true,true,false,false,false,false,false,false,false,false,false,false] rfl rfl (any_of HT_.out (by kernel_rfl)) (fun _ _ _ h=>h) (Or.inl ⟨by rfl,?_⟩) ?_ ?_
                            rotate_left
                            · intro w'
                              go_simp
                              with_reducible rfl
                            rotate_left
                            · simp only [Act.put,List.setIfInBounds_toArray,List.set_cons_zero,List.set_cons_succ,i64_w,i32_w]
                              rfl
                            refine pure_ (i:=3) (N:=some 64) (v:=?_) (a':=?_) #[true,true,true,true,false,false,false,false,false,false,false,false,false] rfl rfl (any_of HT_.out (by kernel_rfl)) (fun _ _ _ h=>h) (Or.inl ⟨by rfl,?_⟩) ?_ ?_
                            rotate_left
                            · intro w'
                              go_simp
                              with_reducible rfl
                            rotate_left
                            · simp only [Act.put,List.setIfInBounds_toArray,List.set_cons_zero,List.set_cons_succ,i64_w,i32_w]
                              rfl
                            refine pure_ (i:=5) (N:=some 66) (v:=?_) (a':=?_) #[true,true,true,true,false,true,false,false,false,false,false,false,false] rfl rfl (any_of HT_.out (by kernel_rfl)) (fun _ _ _ h=>h) (Or.inl ⟨by rfl,?_⟩) ?_ ?_
                            rotate_left
                            · intro w'
                              go_simp
                              with_reducible rfl
                            rotate_left
                            · simp only [Act.put,List.setIfInBounds_toArray,List.set_cons_zero,List.set_cons_succ,i64_w,i32_w]
                              rfl
                            refine pure_ (i:=6) (N:=some 67) (v:=?_) (a':=?_) #[true,true,true,true,false,true,true,false,false,false,false,false,false] rfl rfl (any_of HT_.out (by kernel_rfl)) (fun _ _ _ h=>h) (Or.inl ⟨by rfl,?_⟩) ?_ ?_
                            rotate_left
                            · intro w'
                              go_simp
                              with_reducible rfl
                            rotate_left
                            · simp only [Act.put,List.setIfInBounds_toArray,List.set_cons_zero,List.set_cons_succ,i64_w,i32_w]
                              rfl
                            refine pure_ (i:=7) (N:=some 68) (v:=?_) (a':=?_) #[true,true,true,true,false,true,true,true,false,false,false,false,false] rfl rfl (any_of HT_.out (by kernel_rfl)) (fun _ _ _ h=>h) (Or.inl ⟨by rfl,?_⟩) ?_ ?_
                            rotate_left
                            · intro w'
                              go_simp
                              with_reducible rfl
                            rotate_left
                            · simp only [Act.put,List.setIfInBounds_toArray,List.set_cons_zero,List.set_cons_succ,i64_w,i32_w]
                              rfl
                            refine take_ (i:=4) (N:=some 65) (v:=?_) (a':=?_) #[true,true,true,true,true,true,true,true,false,false,false,false,false] rfl rfl (take_ofW HT_.out HW_.out (by kernel_rfl)) (fun _ _ _ h=>h) (Or.inl ⟨by rfl,?_⟩) hHeld ?_ ?_
                            rotate_left
                            · rintro w' ⟨s0,s1,s2,s3,s4⟩
                              go_simp
                              with_reducible rfl
                            rotate_left
                            · simp only [Act.put,List.setIfInBounds_toArray,List.set_cons_zero,List.set_cons_succ,i64_w,i32_w]
                              rfl
                            refine take_ (i:=8) (N:=some 69) (v:=?_) (a':=?_) #[true,true,true,true,true,true,true,true,true,false,false,false,false] rfl rfl (take_ofW HT_.out HW_.out (by kernel_rfl)) (fun _ _ _ h=>h) (Or.inl ⟨by rfl,?_⟩) hHeld ?_ ?_
                            rotate_left
                            · rintro w' ⟨s0,s1,s2,s3,s4⟩
                              go_simp
                              with_reducible rfl
                            rotate_left
                            · simp only [Act.put,List.setIfInBounds_toArray,List.set_cons_zero,List.set_cons_succ,i64_w,i32_w]
                              rfl
                            refine one_ (i:=9) (N:=some 70) #[true,true,true,true,true,true,true,true,true,true,false,false,false] rfl rfl (one_of HT_.out (by kernel_rfl)) (by decide) (fun K hK=>?_)
                            refine goes_ Try.func14 (by kernel_rfl) rfl #[.agg #[.slice A297_0 ((rd_T26 l0 x6_2).f0).length c297_0,.slice A297_1 ((rd_T26 l0 x6_2).f1).length c297_1,.int .i64 ((rd_T26 l0 x6_2).f2),.slice A297_3 ((rd_T26 l0 x6_2).f3).length c297_3],.slice A298_0 (rd_L3 l1 x6_2).length c298_0] (by rfl) rfl rfl z5_ ?_
                            with_reducible refine (handshaperef09_Result.calls kj8 _ _ ((rd_T26 l0 x6_2).f0) _ _ ((rd_T26 l0 x6_2).f1) ((rd_T26 l0 x6_2).f2) _ _ ((rd_T26 l0 x6_2).f3) _ _ (rd_L3 l1 x6_2) t299 _ ?side1 ?side2 ?side3 ?side4 ?side5 ?side6 ?side7 ?side8 A29.out).mono ?_
                            (case side1=>repeat (first|exact (Kd.C_below HR297_0.out HB.out)|(with_reducible refine Kd.C_alloc ?_ _)|(with_reducible refine Kd.C_drewN ?_ _)|(with_reducible refine Kd.C_drew ?_)))
                            (case side2=>exact HC297_0.out)
                            (case side3=>repeat (first|exact (Kd.C_below HR297_1.out HB.out)|(with_reducible refine Kd.C_alloc ?_ _)|(with_reducible refine Kd.C_drewN ?_ _)|(with_reducible refine Kd.C_drew ?_)))
                            (case side4=>exact HC297_1.out)
                            (case side5=>repeat (first|exact (Kd.C_below HR297_3.out HB.out)|(with_reducible refine Kd.C_alloc ?_ _)|(with_reducible refine Kd.C_drewN ?_ _)|(with_reducible refine Kd.C_drew ?_)))
                            (case side6=>exact HC297_3.out)
                            (case side7=>repeat (first|exact (Kd.C_below HR298_0.out HB.out)|(with_reducible refine Kd.C_alloc ?_ _)|(with_reducible refine Kd.C_drewN ?_ _)|(with_reducible refine Kd.C_drew ?_)))
                            (case side8=>exact HC298_0.out)
                            rintro e w32 ⟨rfl,hb⟩
                            refine ⟨_,rfl,?_⟩
                            have n0_:=Aside0.mk (Kd.R_below z6_ hb)
                            have n1_:=Aside0.mk (below_step z1_ hb)
                            clear HO_5
                            clear HB
                            have HO_5:=n0_
                            have HB:=n1_
                            clear n0_ n1_
                            (try clear hb)
                            (try clear hb2)
                            (try clear hk)
                            (try clear hi)
                            refine hK.out _ _ ⟨((HB.out.cell (World.block_lt_of_cell? w _ hw297_0)).trans hw297_0),((HB.out.cell (World.block_lt_of_cell? w _ hw297_1)).trans hw297_1),((HB.out.cell (World.block_lt_of_cell? w _ hw297_2)).trans hw297_2),((HB.out.cell (World.block_lt_of_cell? w _ hw297_3)).trans hw297_3),((HB.out.cell (World.block_lt_of_cell? w _ hw298_0)).trans hw298_0)⟩ (fun hHeld=>?_)
                            clear hK K
                            refine norm_ (a':=?_) ?_ ?_
                            rotate_left
                            · show Act.put _ (some 70) _=_
                              simp only [Act.put,List.setIfInBounds_toArray,List.set_cons_zero,List.set_cons_succ,i64_w,i32_w]
                              rfl
                            refine one_ (i:=10) (N:=some 71) #[true,true,true,true,true,true,true,true,true,true,true,false,false] rfl rfl (one_of HT_.out (by kernel_rfl)) (by decide) (fun K hK=>?_)
                            refine value_ (w1:=?_) (v:=?_) (by rfl) rfl ?_ ?_
                            rotate_left 2
                            · go_simp
                              constructor
                              · rfl
                              · rfl
                            refine hK.out _ _ ⟨(World.cell?_alloc_lt _ _ _ (World.block_lt_of_cell? _ _ (((HB.out.cell (World.block_lt_of_cell? w _ hw297_0)).trans hw297_0)))).trans (((HB.out.cell (World.block_lt_of_cell? w _ hw297_0)).trans hw297_0)),(World.cell?_alloc_lt _ _ _ (World.block_lt_of_cell? _ _ (((HB.out.cell (World.block_lt_of_cell? w _ hw297_1)).trans hw297_1)))).trans (((HB.out.cell (World.block_lt_of_cell? w _ hw297_1)).trans hw297_1)),(World.cell?_alloc_lt _ _ _ (World.block_lt_of_cell? _ _ (((HB.out.cell (World.block_lt_of_cell? w _ hw297_2)).trans hw297_2)))).trans (((HB.out.cell (World.block_lt_of_cell? w _ hw297_2)).trans hw297_2)),(World.cell?_alloc_lt _ _ _ (World.block_lt_of_cell? _ _ (((HB.out.cell (World.block_lt_of_cell? w _ hw297_3)).trans hw297_3)))).trans (((HB.out.cell (World.block_lt_of_cell? w _ hw297_3)).trans hw297_3)),(World.cell?_alloc_lt _ _ _ (World.block_lt_of_cell? _ _ (((HB.out.cell (World.block_lt_of_cell? w _ hw298_0)).trans hw298_0)))).trans (((HB.out.cell (World.block_lt_of_cell? w _ hw298_0)).trans hw298_0))⟩ (fun hHeld=>?_)
                            clear hK K
                            refine norm_ (a':=?_) ?_ ?_
                            rotate_left
                            · show Act.put _ (some 71) _=_
                              simp only [Act.put,List.setIfInBounds_toArray,List.set_cons_zero,List.set_cons_succ,i64_w,i32_w]
                              rfl
                            refine one_ (i:=11) (N:=some 72) #[true,true,true,true,true,true,true,true,true,true,true,true,false] rfl rfl (one_of HT_.out (by kernel_rfl)) (by decide) (fun K hK=>?_)
                            refine Kd.R_append_step (Kd.int .i64) (w0:=w) w.heap.size (by rfl) (.tmp 61) (.tmp 71) 24 3 (.int .i64 0) 8 rfl Try.underlying24 info3 rfl (by decide) (by omega) u5 x5_2 t299 [.int .i64 t299] (fun _=>True) (fun _=>False) rfl rfl ?aP (fun _ hk=>hk.elim) ?aF ?aO ?aB ?aS ?aL ?_
                            (case aP=>exact rfl)
                            (case aB=>exact z1_)
                            (case aF=>exact (fun _ _=>trivial))
                            (case aO=>exact z6_)
                            (case aS=>exact (below_size z1_))
                            (case aL=>have:=LMc30.out;omega)
                            intro v301 w33 ho hb hg hat
                            rw [← Ny300.out] at ho
                            have n0_:=Aside0.mk (hb)
                            have n1_:=Aside0.mk (ho)
                            clear HB
                            clear HO_5
                            have HB:=n0_
                            have HO302:=n1_
                            clear n0_ n1_
                            clear ho hb hg hat
                            refine hK.out _ _ ⟨((HB.out.cell (World.block_lt_of_cell? w _ hw297_0)).trans hw297_0),((HB.out.cell (World.block_lt_of_cell? w _ hw297_1)).trans hw297_1),((HB.out.cell (World.block_lt_of_cell? w _ hw297_2)).trans hw297_2),((HB.out.cell (World.block_lt_of_cell? w _ hw297_3)).trans hw297_3),((HB.out.cell (World.block_lt_of_cell? w _ hw298_0)).trans hw298_0)⟩ (fun hHeld=>?_)
                            clear hK K
                            refine norm_ (a':=?_) ?_ ?_
                            rotate_left
                            · show Act.put _ (some 72) _=_
                              simp only [Act.put,List.setIfInBounds_toArray,List.set_cons_zero,List.set_cons_succ,i64_w,i32_w]
                              rfl
                            refine pure_ (i:=12) (N:=some 5) (v:=?_) (a':=?_) #[true,true,true,true,true,true,true,true,true,true,true,true,true] rfl rfl (any_of HT_.out (by kernel_rfl)) (fun _ _ _ h=>h) (Or.inl ⟨by rfl,?_⟩) ?_ ?_
                            rotate_left
                            · intro w'
                              go_simp
                              with_reducible rfl
                            rotate_left
                            · simp only [Act.put,List.setIfInBounds_toArray,List.set_cons_zero,List.set_cons_succ,i64_w,i32_w]
                              rfl
                            refine done_ (done_of HT_.out (by kernel_rfl)) ?_
                            try go_wp2
                            go_roundg kj8
                            case measure=>have:=HJ2.out;have:=HK2.out;have:=HJ8.out;omega
                            case rel=>exact ⟨(y300),(wrap64 (x6_2+1)),z8_,H',⟨by have:=HJ2.out;have:=HK2.out;have:=HJ8.out;omega⟩,⟨by (with_reducible repeat (first|apply Kd.R_alloc|apply Kd.R_drewN|apply Kd.R_drew));exact HO302.out⟩,⟨z2_⟩⟩
                          · rw [if_neg c30] at H
                            exact absurd H (by simp)
                        · rw [if_neg c28] at H
                          exact absurd H (by simp)
                      · rw [if_neg c27] at H
                        exact absurd H (by simp)
                    · rw [if_neg c26] at H
                      exact absurd H (by simp)
            · rw [if_neg c8] at H
              have c8b0 : decide (x6_2<(l0.length : Int))=false:=decide_eq_false c8
              clear c8
              replace H:=Option.bind_eq_some_iff.mp H
              obtain ⟨⟨t303,t304⟩,A340,H⟩:=H
              replace H : (if t304=0 then (handshapelaw09_ExamsRanked.j3 k2 l0 x5_2 t303 ((t303.length : Int) != (l0.length : Int))) else (handshapelaw09_ExamsRanked.j3 k2 l0 x5_2 t303 true))=some r:=H
              have A34:=Aside0.mk A340
              clear A340
              have HC35:=Aside0.mk H
              clear H
              go_upto_region 11 with (first|((with_reducible refine gate_callee (f:=15) rfl ?_);refine goesL_ (some 75) rfl rfl Try.func15 (by kernel_rfl) rfl #[.slice A0 l0.length c0] rfl z5_ ?_;(with_reducible refine (exams_Ranks.calls k2 _ _ l0 t303 t304 _ ?side1 ?side2 A34.out).mono ?_);(case side1=>repeat (first|exact (Kd.C_below HR0.out HB.out)|(with_reducible refine Kd.C_alloc ?_ _)|(with_reducible refine Kd.C_drewN ?_ _)|(with_reducible refine Kd.C_drew ?_)));(case side2=>exact HC0.out);rintro e w36 ⟨v305,rfl,ho0,hb⟩;refine ⟨_,rfl,?_⟩;have n0_:=Aside0.mk (Kd.R_below z6_ hb);have n1_:=Aside0.mk (Kd.R_lower ho0 (below_size (by repeat (first|(with_reducible first|exact HB.out|apply below_alloc|apply pw_below_drewN|apply below_drew1)|exact HB.out))));have n2_:=Aside0.mk (below_step z1_ hb);clear HO_5;clear HB;have HO_5:=n0_;have HO306:=n1_;have HB:=n2_;clear n0_ n1_ n2_;(try clear hb);(try clear hb2);(try clear hk);(try clear hi);(try clear ho0)))
              (try simp only [Act.put,List.setIfInBounds_toArray,List.set_cons_zero,List.set_cons_succ])
              go_cut [86] (fun v86 wc=>∃ (kq : Nat) (x86_34 : Bool),v86=.bool x86_34∧Aside0 (handshapelaw09_ExamsRanked.j3 kq l0 x5_2 t303 x86_34=some r)∧Aside0 (kq≤k2)∧Aside0 (Kd.R (Kd.int .i64) 3 wc w.heap.size (fun _=>True) u5 x5_2)∧Aside0 (Kd.R k28 28 wc w.heap.size (fun _=>True) v305 t303)∧Aside0 (Below w.heap.size w wc))
              case first =>
                as_aux_lemma =>
                have H:=HC35.out
                clear HC35
                by_cases c37 : t304=0
                · rw [if_pos c37] at H
                  have c37b0 : (t304 == 0)=true:=beq_iff_eq.mpr c37
                  have c37b1 : (t304 != 0)=false:=bne_eq_false_iff_eq.mpr c37
                  clear c37
                  (first|rw [c37b0]|(simp only [i64_w,i32_w];rw [c37b0])|skip)
                  have H':=Aside0.mk H
                  clear H
                  obtain ⟨Ao38,co38,eo38⟩:=Kd.R_slice HO306.out
                  subst eo38
                  go_wp2
                  go_meet
                  case rel=>exact ⟨_,(((t303.length : Int) != (l0.length : Int))),z8_,H',⟨z22_⟩,⟨z7_⟩,⟨by (with_reducible repeat (first|apply Kd.R_alloc|apply Kd.R_drewN|apply Kd.R_drew));exact HO306.out⟩,⟨z2_⟩⟩
                · rw [if_neg c37] at H
                  have c37b0 : (t304 == 0)=false:=beq_eq_false_iff_ne.mpr c37
                  have c37b1 : (t304 != 0)=true:=bne_iff_ne.mpr c37
                  (first|rw [c37b0]|(simp only [i64_w,i32_w];rw [c37b0])|skip)
                  have H':=Aside0.mk H
                  clear H
                  go_wp2
                  go_meet
                  case rel=>exact ⟨_,(true),z8_,H',⟨z22_⟩,⟨z7_⟩,⟨by (with_reducible repeat (first|apply Kd.R_alloc|apply Kd.R_drewN|apply Kd.R_drew));exact HO306.out⟩,⟨z2_⟩⟩
              case rest =>
                as_aux_lemma =>
                clear HC35
                try clear c1;try clear c2;try clear p2;try clear q2;try clear hx2;try clear c3;try clear p6;try clear c7;try clear c8;try clear c8b0;try clear c15;try clear c29;try clear p29;try clear q29;try clear hx29;try clear hx290_0;try clear hx290_1;try clear hx290_2;try clear hx290_3;try clear hx292_0;try clear hx293_0;try clear hx293_1;try clear hx293_2;try clear hx293_3;try clear hx294_0;try clear hx297_0;try clear hx297_1;try clear hx297_2;try clear hx297_3;try clear hx298_0;try clear p2;try clear p290;try clear p292;try clear p293;try clear p294;try clear p297;try clear p298;try clear q2;try clear q290;try clear q292;try clear q293;try clear q294;try clear q297;try clear q298
                obtain ⟨kq,x86_34,rfl,HA,HJ34,HO_5,HO_7,HB⟩:=hcut
                cases kq with
                | zero=>exact absurd HA.out (by simp [handshapelaw09_ExamsRanked.j3])
                | succ kj34 =>
                  have H:=HA.out
                  clear HA
                  simp only [handshapelaw09_ExamsRanked.j3] at H
                  by_cases c39 : x86_34=true
                  · subst c39
                    have H1 : (none)=some r:=by rw [if_pos rfl] at H;exact H
                    clear H
                    have H:=H1
                    clear H1
                    exact absurd H (by simp)
                  · replace c39:=Bool.eq_false_iff.mpr c39
                    subst c39
                    have H1 : (handshapelaw09_ExamsRanked.l1 kj34 l0 x5_2 t303 0)=some r:=by rw [if_neg (show ¬ (false=true) by decide)] at H;exact H
                    clear H
                    have H:=H1
                    clear H1
                    have H':=Aside0.mk H
                    clear H
                    go_wp2
                    go_loopg [9] kj34 (fun kq v9 w'=>∃ (x9_4 : Int),v9=.int .i64 x9_4∧Aside0 (handshapelaw09_ExamsRanked.l1 kq l0 x5_2 t303 x9_4=some r)∧Aside0 (kq≤kj34)∧Aside0 (Kd.R (Kd.int .i64) 3 w' w.heap.size (fun _=>True) u5 x5_2)∧Aside0 (Kd.R k28 28 w' w.heap.size (fun _=>True) v305 t303)∧Aside0 (Below w.heap.size w w'))
                    case atStart=>exact ⟨(0),z8_,H',⟨Nat.le_refl _⟩,⟨z7_⟩,⟨z12_⟩,⟨z2_⟩⟩
                    case round =>
                      as_aux_lemma =>
                      clear H'
                      try clear c1;try clear c2;try clear p2;try clear q2;try clear hx2;try clear c3;try clear p6;try clear c7;try clear c8;try clear c8b0;try clear c15;try clear c29;try clear p29;try clear q29;try clear hx29;try clear c39;try clear hx290_0;try clear hx290_1;try clear hx290_2;try clear hx290_3;try clear hx292_0;try clear hx293_0;try clear hx293_1;try clear hx293_2;try clear hx293_3;try clear hx294_0;try clear hx297_0;try clear hx297_1;try clear hx297_2;try clear hx297_3;try clear hx298_0;try clear p2;try clear p29;try clear p290;try clear p292;try clear p293;try clear p294;try clear p297;try clear p298;try clear p6;try clear q2;try clear q29;try clear q290;try clear q292;try clear q293;try clear q294;try clear q297;try clear q298
                      obtain ⟨x9_4,rfl,HA,HK4,HO_5,HO_7,HB⟩:=hrel
                      cases gk with
                      | zero=>exact absurd HA.out (by simp [handshapelaw09_ExamsRanked.l1])
                      | succ k4 =>
                        have H:=HA.out
                        clear HA
                        simp only [handshapelaw09_ExamsRanked.l1] at H
                        by_cases c40 : x9_4<(l0.length : Int)
                        · rw [if_pos c40] at H
                          have c40b0 : decide (x9_4<(l0.length : Int))=true:=decide_eq_true c40
                          clear c40
                          have H':=Aside0.mk H
                          clear H
                          go_wp2
                          go_loopg [10,11] k4 (fun kq v10 v11 w'=>∃ (x10_5 : Int) (x11_5 : Int),v10=.int .i64 x10_5∧v11=.int .i64 x11_5∧Aside0 (handshapelaw09_ExamsRanked.l2 kq l0 x5_2 t303 x9_4 x10_5 x11_5=some r)∧Aside0 (kq≤k4)∧Aside0 (Kd.R (Kd.int .i64) 3 w' w.heap.size (fun _=>True) u5 x5_2)∧Aside0 (Kd.R k28 28 w' w.heap.size (fun _=>True) v305 t303)∧Aside0 (Below w.heap.size w w'))
                          case atStart=>exact ⟨(1),(0),z8_,z8_,H',⟨Nat.le_refl _⟩,⟨z7_⟩,⟨z12_⟩,⟨z2_⟩⟩
                          case round =>
                            as_aux_lemma =>
                            clear H'
                            try clear c1;try clear c2;try clear p2;try clear q2;try clear hx2;try clear c3;try clear p6;try clear c7;try clear c8;try clear c8b0;try clear c15;try clear c29;try clear p29;try clear q29;try clear hx29;try clear c39;try clear c40;try clear c40b0;try clear hx290_0;try clear hx290_1;try clear hx290_2;try clear hx290_3;try clear hx292_0;try clear hx293_0;try clear hx293_1;try clear hx293_2;try clear hx293_3;try clear hx294_0;try clear hx297_0;try clear hx297_1;try clear hx297_2;try clear hx297_3;try clear hx298_0;try clear p2;try clear p29;try clear p290;try clear p292;try clear p293;try clear p294;try clear p297;try clear p298;try clear p6;try clear q2;try clear q29;try clear q290;try clear q292;try clear q293;try clear q294;try clear q297;try clear q298
                            obtain ⟨x10_5,x11_5,rfl,rfl,HA,HK5,HO_5,HO_7,HB⟩:=hrel
                            cases gk with
                            | zero=>exact absurd HA.out (by simp [handshapelaw09_ExamsRanked.l2])
                            | succ k5 =>
                              have H:=HA.out
                              clear HA
                              simp only [handshapelaw09_ExamsRanked.l2] at H
                              by_cases c41 : x11_5<(l0.length : Int)
                              · rw [if_pos c41] at H
                                have c41b0 : decide (x11_5<(l0.length : Int))=true:=decide_eq_true c41
                                clear c41
                                by_cases c42 : 0≤x11_5
                                · rw [if_pos c42] at H
                                  have c42b0 : decide (0≤x11_5)=true:=decide_eq_true c42
                                  clear c42
                                  by_cases c43 : x11_5<(x5_2.length : Int)
                                  · rw [if_pos c43] at H
                                    have c43b0 : decide (x11_5<(x5_2.length : Int))=true:=decide_eq_true c43
                                    clear c43
                                    by_cases c44 : 0≤x9_4
                                    · rw [if_pos c44] at H
                                      have c44b0 : decide (0≤x9_4)=true:=decide_eq_true c44
                                      clear c44
                                      by_cases c45 : x9_4<(x5_2.length : Int)
                                      · rw [if_pos c45] at H
                                        have c45b0 : decide (x9_4<(x5_2.length : Int))=true:=decide_eq_true c45
                                        clear c45
                                        by_cases c46 : (rd x5_2 x11_5) > (rd x5_2 x9_4)
                                        · rw [if_pos c46] at H
                                          have c46b0 : decide ((rd x5_2 x9_4)<(rd x5_2 x11_5))=true:=decide_eq_true c46
                                          clear c46
                                          have H':=Aside0.mk H
                                          clear H
                                          try go_wp2
                                          have n0_:=Aside0.mk (Kd.R_drew HO_5.out)
                                          have n1_:=Aside0.mk (Kd.R_drew HO_7.out)
                                          have n2_:=Aside0.mk (below_drew1 HB.out)
                                          clear HO_5
                                          clear HO_7
                                          clear HB
                                          have HO_5:=n0_
                                          have HO_7:=n1_
                                          have HB:=n2_
                                          clear n0_ n1_ n2_
                                          obtain ⟨Ao48,co48,eo48⟩:=Kd.R_slice HO_5.out
                                          (first|subst eo48|(injection eo48 with f1_ f2_ f3_;have f4_:=f1_.symm;have f5_:=f3_.symm;clear f1_ f2_ f3_;subst f4_;subst f5_))
                                          have p308 : 0≤(x11_5 : Int):=of_decide_eq_true z3_
                                          have q308 : x11_5<(x5_2.length : Int):=of_decide_eq_true z3_
                                          obtain ⟨ad308,e308,hx308_0⟩:=Kd.at_int (Kd.R_reads' HO_5.out).2.2 x11_5 p308 q308
                                          cases e308
                                          replace p308:=eq_true p308
                                          replace q308:=eq_true q308
                                          have p309 : 0≤(x9_4 : Int):=of_decide_eq_true z3_
                                          have q309 : x9_4<(x5_2.length : Int):=of_decide_eq_true z3_
                                          obtain ⟨ad309,e309,hx309_0⟩:=Kd.at_int (Kd.R_reads' HO_5.out).2.2 x9_4 p309 q309
                                          obtain rfl : ad308=ad309:=(by injection e309)
                                          replace p309:=eq_true p309
                                          replace q309:=eq_true q309
                                          refine start_ (n:=9) (S:=fun w'=>w'.cell? (ad308.add (x11_5).toNat)=some (.int .i64 (rd x5_2 x11_5))∧w'.cell? (ad308.add (x9_4).toNat)=some (.int .i64 (rd x5_2 x9_4))) (ds:=[]) #[false,false,false,false,false,false,false,false,false] (by kernel_rfl) rfl rfl ⟨hx308_0,hx309_0⟩ (fun hHeld=>?_);refine with_tabW handshapelaw09_ExamsRanked.tab20 handshapelaw09_ExamsRanked.bits20 (fun HT_ HW_=>?_)
                                          generalize wr.drew=w47 at HO_5 HO_7 HB hx308_0 hx309_0 hHeld ⊢
                                          refine pure_ (i:=0) (N:=some 99) (v:=?_) (a':=?_) #[true,false,false,false,false,false,false,false,false] rfl rfl (any_of HT_.out (by kernel_rfl)) (fun _ _ _ h=>h) (Or.inl ⟨by rfl,?_⟩) ?_ ?_
                                          rotate_left
                                          · intro w'
                                            go_simp
                                            with_reducible rfl
                                          rotate_left
                                          · simp only [Act.put,List.setIfInBounds_toArray,List.set_cons_zero,List.set_cons_succ,i64_w,i32_w]
                                            rfl
                                          refine pure_ (i:=1) (N:=some 100) (v:=?_) (a':=?_) #[true,true,false,false,false,false,false,false,false] rfl rfl (any_of HT_.out (by kernel_rfl)) (fun _ _ _ h=>h) (Or.inl ⟨by rfl,?_⟩) ?_ ?_
                                          rotate_left
                                          · intro w'
                                            go_simp
                                            with_reducible rfl
                                          rotate_left
                                          · simp only [Act.put,List.setIfInBounds_toArray,List.set_cons_zero,List.set_cons_succ,i64_w,i32_w]
                                            rfl
                                          refine pure_ (i:=2) (N:=some 101) (v:=?_) (a':=?_) #[true,true,true,false,false,false,false,false,false] rfl rfl (any_of HT_.out (by kernel_rfl)) (fun _ _ _ h=>h) (Or.inl ⟨by rfl,?_⟩) ?_ ?_
                                          rotate_left
                                          · intro w'
                                            go_simp
                                            with_reducible rfl
                                          rotate_left
                                          · simp only [Act.put,List.setIfInBounds_toArray,List.set_cons_zero,List.set_cons_succ,i64_w,i32_w]
                                            rfl
                                          refine pure_ (i:=4) (N:=some 103) (v:=?_) (a':=?_) #[true,true,true,false,true,false,false,false,false] rfl rfl (any_of HT_.out (by kernel_rfl)) (fun _ _ _ h=>h) (Or.inl ⟨by rfl,?_⟩) ?_ ?_
                                          rotate_left
                                          · intro w'
                                            go_simp
                                            with_reducible rfl
                                          rotate_left
                                          · simp only [Act.put,List.setIfInBounds_toArray,List.set_cons_zero,List.set_cons_succ,i64_w,i32_w]
                                            rfl
                                          refine pure_ (i:=5) (N:=some 104) (v:=?_) (a':=?_) #[true,true,true,false,true,true,false,false,false] rfl rfl (any_of HT_.out (by kernel_rfl)) (fun _ _ _ h=>h) (Or.inl ⟨by rfl,?_⟩) ?_ ?_
                                          rotate_left
                                          · intro w'
                                            go_simp
                                            with_reducible rfl
                                          rotate_left
                                          · simp only [Act.put,List.setIfInBounds_toArray,List.set_cons_zero,List.set_cons_succ,i64_w,i32_w]
                                            rfl
                                          refine pure_ (i:=6) (N:=some 105) (v:=?_) (a':=?_) #[true,true,true,false,true,true,true,false,false] rfl rfl (any_of HT_.out (by kernel_rfl)) (fun _ _ _ h=>h) (Or.inl ⟨by rfl,?_⟩) ?_ ?_
                                          rotate_left
                                          · intro w'
                                            go_simp
                                            with_reducible rfl
                                          rotate_left
                                          · simp only [Act.put,List.setIfInBounds_toArray,List.set_cons_zero,List.set_cons_succ,i64_w,i32_w]
                                            rfl
                                          refine take_ (i:=3) (N:=some 102) (v:=?_) (a':=?_) #[true,true,true,true,true,true,true,false,false] rfl rfl (take_ofW HT_.out HW_.out (by kernel_rfl)) (fun _ _ _ h=>h) (Or.inl ⟨by rfl,?_⟩) hHeld ?_ ?_
                                          rotate_left
                                          · rintro w' ⟨s0,s1⟩
                                            go_simp
                                            with_reducible rfl
                                          rotate_left
                                          · simp only [Act.put,List.setIfInBounds_toArray,List.set_cons_zero,List.set_cons_succ,i64_w,i32_w]
                                            rfl
                                          refine take_ (i:=7) (N:=some 106) (v:=?_) (a':=?_) #[true,true,true,true,true,true,true,true,false] rfl rfl (take_ofW HT_.out HW_.out (by kernel_rfl)) (fun _ _ _ h=>h) (Or.inl ⟨by rfl,?_⟩) hHeld ?_ ?_
                                          rotate_left
                                          · rintro w' ⟨s0,s1⟩
                                            go_simp
                                            with_reducible rfl
                                          rotate_left
                                          · simp only [Act.put,List.setIfInBounds_toArray,List.set_cons_zero,List.set_cons_succ,i64_w,i32_w]
                                            rfl
                                          refine pure_ (i:=8) (N:=some 107) (v:=?_) (a':=?_) #[true,true,true,true,true,true,true,true,true] rfl rfl (any_of HT_.out (by kernel_rfl)) (fun _ _ _ h=>h) (Or.inl ⟨by rfl,?_⟩) ?_ ?_
                                          rotate_left
                                          · intro w'
                                            go_simp
                                            with_reducible rfl
                                          rotate_left
                                          · simp only [Act.put,List.setIfInBounds_toArray,List.set_cons_zero,List.set_cons_succ,i64_w,i32_w]
                                            rfl
                                          refine done_ (done_of HT_.out (by kernel_rfl)) ?_
                                          try go_wp2
                                          go_roundg k5
                                          case measure=>have:=HJ2.out;have:=HK2.out;have:=HJ34.out;have:=HK4.out;have:=HK5.out;omega
                                          case rel=>exact ⟨(wrap64 (x10_5+1)),(wrap64 (x11_5+1)),z8_,z8_,H',⟨by have:=HJ2.out;have:=HK2.out;have:=HJ34.out;have:=HK4.out;have:=HK5.out;omega⟩,⟨z7_⟩,⟨z12_⟩,⟨z2_⟩⟩
                                        · rw [if_neg c46] at H
                                          have c46b0 : decide ((rd x5_2 x9_4)<(rd x5_2 x11_5))=false:=decide_eq_false c46
                                          clear c46
                                          have H':=Aside0.mk H
                                          clear H
                                          try go_wp2
                                          have n0_:=Aside0.mk (Kd.R_drew HO_5.out)
                                          have n1_:=Aside0.mk (Kd.R_drew HO_7.out)
                                          have n2_:=Aside0.mk (below_drew1 HB.out)
                                          clear HO_5
                                          clear HO_7
                                          clear HB
                                          have HO_5:=n0_
                                          have HO_7:=n1_
                                          have HB:=n2_
                                          clear n0_ n1_ n2_
                                          obtain ⟨Ao50,co50,eo50⟩:=Kd.R_slice HO_5.out
                                          (first|subst eo50|(injection eo50 with f1_ f2_ f3_;have f4_:=f1_.symm;have f5_:=f3_.symm;clear f1_ f2_ f3_;subst f4_;subst f5_))
                                          have p308 : 0≤(x11_5 : Int):=of_decide_eq_true z3_
                                          have q308 : x11_5<(x5_2.length : Int):=of_decide_eq_true z3_
                                          obtain ⟨ad308,e308,hx308_0⟩:=Kd.at_int (Kd.R_reads' HO_5.out).2.2 x11_5 p308 q308
                                          cases e308
                                          replace p308:=eq_true p308
                                          replace q308:=eq_true q308
                                          have p309 : 0≤(x9_4 : Int):=of_decide_eq_true z3_
                                          have q309 : x9_4<(x5_2.length : Int):=of_decide_eq_true z3_
                                          obtain ⟨ad309,e309,hx309_0⟩:=Kd.at_int (Kd.R_reads' HO_5.out).2.2 x9_4 p309 q309
                                          obtain rfl : ad308=ad309:=(by injection e309)
                                          replace p309:=eq_true p309
                                          replace q309:=eq_true q309
                                          refine start_ (n:=9) (S:=fun w'=>w'.cell? (ad308.add (x11_5).toNat)=some (.int .i64 (rd x5_2 x11_5))∧w'.cell? (ad308.add (x9_4).toNat)=some (.int .i64 (rd x5_2 x9_4))) (ds:=[]) #[false,false,false,false,false,false,false,false,false] (by kernel_rfl) rfl rfl ⟨hx308_0,hx309_0⟩ (fun hHeld=>?_);refine with_tabW handshapelaw09_ExamsRanked.tab20 handshapelaw09_ExamsRanked.bits20 (fun HT_ HW_=>?_)
                                          generalize wr.drew=w49 at HO_5 HO_7 HB hx308_0 hx309_0 hHeld ⊢
                                          refine pure_ (i:=0) (N:=some 99) (v:=?_) (a':=?_) #[true,false,false,false,false,false,false,false,false] rfl rfl (any_of HT_.out (by kernel_rfl)) (fun _ _ _ h=>h) (Or.inl ⟨by rfl,?_⟩) ?_ ?_
                                          rotate_left
                                          · intro w'
                                            go_simp
                                            with_reducible rfl
                                          rotate_left
                                          · simp only [Act.put,List.setIfInBounds_toArray,List.set_cons_zero,List.set_cons_succ,i64_w,i32_w]
                                            rfl
                                          refine pure_ (i:=1) (N:=some 100) (v:=?_) (a':=?_) #[true,true,false,false,false,false,false,false,false] rfl rfl (any_of HT_.out (by kernel_rfl)) (fun _ _ _ h=>h) (Or.inl ⟨by rfl,?_⟩) ?_ ?_
                                          rotate_left
                                          · intro w'
                                            go_simp
                                            with_reducible rfl
                                          rotate_left
                                          · simp only [Act.put,List.setIfInBounds_toArray,List.set_cons_zero,List.set_cons_succ,i64_w,i32_w]
                                            rfl
                                          refine pure_ (i:=2) (N:=some 101) (v:=?_) (a':=?_) #[true,true,true,false,false,false,false,false,false] rfl rfl (any_of HT_.out (by kernel_rfl)) (fun _ _ _ h=>h) (Or.inl ⟨by rfl,?_⟩) ?_ ?_
                                          rotate_left
                                          · intro w'
                                            go_simp
                                            with_reducible rfl
                                          rotate_left
                                          · simp only [Act.put,List.setIfInBounds_toArray,List.set_cons_zero,List.set_cons_succ,i64_w,i32_w]
                                            rfl
                                          refine pure_ (i:=4) (N:=some 103) (v:=?_) (a':=?_) #[true,true,true,false,true,false,false,false,false] rfl rfl (any_of HT_.out (by kernel_rfl)) (fun _ _ _ h=>h) (Or.inl ⟨by rfl,?_⟩) ?_ ?_
                                          rotate_left
                                          · intro w'
                                            go_simp
                                            with_reducible rfl
                                          rotate_left
                                          · simp only [Act.put,List.setIfInBounds_toArray,List.set_cons_zero,List.set_cons_succ,i64_w,i32_w]
                                            rfl
                                          refine pure_ (i:=5) (N:=some 104) (v:=?_) (a':=?_) #[true,true,true,false,true,true,false,false,false] rfl rfl (any_of HT_.out (by kernel_rfl)) (fun _ _ _ h=>h) (Or.inl ⟨by rfl,?_⟩) ?_ ?_
                                          rotate_left
                                          · intro w'
                                            go_simp
                                            with_reducible rfl
                                          rotate_left
                                          · simp only [Act.put,List.setIfInBounds_toArray,List.set_cons_zero,List.set_cons_succ,i64_w,i32_w]
                                            rfl
                                          refine pure_ (i:=6) (N:=some 105) (v:=?_) (a':=?_) #[true,true,true,false,true,true,true,false,false] rfl rfl (any_of HT_.out (by kernel_rfl)) (fun _ _ _ h=>h) (Or.inl ⟨by rfl,?_⟩) ?_ ?_
                                          rotate_left
                                          · intro w'
                                            go_simp
                                            with_reducible rfl
                                          rotate_left
                                          · simp only [Act.put,List.setIfInBounds_toArray,List.set_cons_zero,List.set_cons_succ,i64_w,i32_w]
                                            rfl
                                          refine take_ (i:=3) (N:=some 102) (v:=?_) (a':=?_) #[true,true,true,true,true,true,true,false,false] rfl rfl (take_ofW HT_.out HW_.out (by kernel_rfl)) (fun _ _ _ h=>h) (Or.inl ⟨by rfl,?_⟩) hHeld ?_ ?_
                                          rotate_left
                                          · rintro w' ⟨s0,s1⟩
                                            go_simp
                                            with_reducible rfl
                                          rotate_left
                                          · simp only [Act.put,List.setIfInBounds_toArray,List.set_cons_zero,List.set_cons_succ,i64_w,i32_w]
                                            rfl
                                          refine take_ (i:=7) (N:=some 106) (v:=?_) (a':=?_) #[true,true,true,true,true,true,true,true,false] rfl rfl (take_ofW HT_.out HW_.out (by kernel_rfl)) (fun _ _ _ h=>h) (Or.inl ⟨by rfl,?_⟩) hHeld ?_ ?_
                                          rotate_left
                                          · rintro w' ⟨s0,s1⟩
                                            go_simp
                                            with_reducible rfl
                                          rotate_left
                                          · simp only [Act.put,List.setIfInBounds_toArray,List.set_cons_zero,List.set_cons_succ,i64_w,i32_w]
                                            rfl
                                          refine pure_ (i:=8) (N:=some 107) (v:=?_) (a':=?_) #[true,true,true,true,true,true,true,true,true] rfl rfl (any_of HT_.out (by kernel_rfl)) (fun _ _ _ h=>h) (Or.inl ⟨by rfl,?_⟩) ?_ ?_
                                          rotate_left
                                          · intro w'
                                            go_simp
                                            with_reducible rfl
                                          rotate_left
                                          · simp only [Act.put,List.setIfInBounds_toArray,List.set_cons_zero,List.set_cons_succ,i64_w,i32_w]
                                            rfl
                                          refine done_ (done_of HT_.out (by kernel_rfl)) ?_
                                          try go_wp2
                                          go_roundg k5
                                          case measure=>have:=HJ2.out;have:=HK2.out;have:=HJ34.out;have:=HK4.out;have:=HK5.out;omega
                                          case rel=>exact ⟨(x10_5),(wrap64 (x11_5+1)),z8_,z8_,H',⟨by have:=HJ2.out;have:=HK2.out;have:=HJ34.out;have:=HK4.out;have:=HK5.out;omega⟩,⟨z7_⟩,⟨z12_⟩,⟨z2_⟩⟩
                                      · rw [if_neg c45] at H
                                        exact absurd H (by simp)
                                    · rw [if_neg c44] at H
                                      exact absurd H (by simp)
                                  · rw [if_neg c43] at H
                                    exact absurd H (by simp)
                                · rw [if_neg c42] at H
                                  exact absurd H (by simp)
                              · rw [if_neg c41] at H
                                have c41b0 : decide (x11_5<(l0.length : Int))=false:=decide_eq_false c41
                                clear c41
                                have HC51:=Aside0.mk H
                                clear H
                                go_upto_region 22 with (fail)
                                go_cut [134] (fun v134 wc=>∃ (kq : Nat) (x134_50 : Bool),v134=.bool x134_50∧Aside0 (handshapelaw09_ExamsRanked.j6 kq l0 x5_2 t303 x9_4 x134_50=some r)∧Aside0 (kq≤k5)∧Aside0 (Kd.R (Kd.int .i64) 3 wc w.heap.size (fun _=>True) u5 x5_2)∧Aside0 (Kd.R k28 28 wc w.heap.size (fun _=>True) v305 t303)∧Aside0 (Below w.heap.size w wc))
                                case first =>
                                  as_aux_lemma =>
                                  have H:=HC51.out
                                  clear HC51
                                  by_cases c52 : 0≤x9_4
                                  · rw [if_pos c52] at H
                                    have c52b0 : decide (0≤x9_4)=true:=decide_eq_true c52
                                    clear c52
                                    (first|rw [c52b0]|(simp only [i64_w,i32_w];rw [c52b0])|skip)
                                    by_cases c53 : x9_4<(t303.length : Int)
                                    · rw [if_pos c53] at H
                                      have c53b0 : decide (x9_4<(t303.length : Int))=true:=decide_eq_true c53
                                      clear c53
                                      replace H:=Option.bind_eq_some_iff.mp H
                                      obtain ⟨t311,A540,H⟩:=H
                                      replace H : (if t311=true then (if ((rd_T28 t303 x9_4).f0)<1 then (handshapelaw09_ExamsRanked.j6 k5 l0 x5_2 t303 x9_4 true) else (handshapelaw09_ExamsRanked.j6 k5 l0 x5_2 t303 x9_4 (decide (((rd_T28 t303 x9_4).f1) > (l0.length : Int))))) else (handshapelaw09_ExamsRanked.j6 k5 l0 x5_2 t303 x9_4 true))=some r:=H
                                      have A54:=Aside0.mk A540
                                      clear A540
                                      by_cases c55 : t311=true
                                      · subst c55
                                        have H1 : (if ((rd_T28 t303 x9_4).f0)<1 then (handshapelaw09_ExamsRanked.j6 k5 l0 x5_2 t303 x9_4 true) else (handshapelaw09_ExamsRanked.j6 k5 l0 x5_2 t303 x9_4 (decide (((rd_T28 t303 x9_4).f1) > (l0.length : Int)))))=some r:=by rw [if_pos rfl] at H;exact H
                                        clear H
                                        have H:=H1
                                        clear H1
                                        by_cases c56 : ((rd_T28 t303 x9_4).f0)<1
                                        · rw [if_pos c56] at H
                                          have c56b0 : decide (((rd_T28 t303 x9_4).f0)<1)=true:=decide_eq_true c56
                                          clear c56
                                          have H':=Aside0.mk H
                                          clear H
                                          obtain ⟨Ao57,co57,eo57⟩:=Kd.R_slice HO_7.out
                                          subst eo57
                                          have p310 : 0≤(x9_4 : Int):=of_decide_eq_true z3_
                                          have q310 : x9_4<(t303.length : Int):=of_decide_eq_true z3_
                                          obtain ⟨ad310,e310,hx310_0,hx310_1⟩:=at_T28 (Kd.R_reads' HO_7.out).2.2 x9_4 p310 q310
                                          cases e310
                                          replace p310:=eq_true p310
                                          replace q310:=eq_true q310
                                          go_wp2_with (first|((with_reducible refine gate_callee (f:=16) rfl ?_);refine goesL_ (some 115) rfl rfl Try.func16 (by kernel_rfl) rfl #[.int .i64 x10_5,.agg #[.int .i64 ((rd_T28 t303 x9_4).f0),.int .i64 ((rd_T28 t303 x9_4).f1)]] rfl z5_ ?_;(with_reducible refine (handshapelaw09_inside.calls x10_5 ((rd_T28 t303 x9_4).f0) ((rd_T28 t303 x9_4).f1) true _ A54.out).mono ?_);rintro e w58 ⟨rfl,hb⟩;refine ⟨_,rfl,?_⟩;have n0_:=Aside0.mk (Kd.R_below z6_ hb);have n1_:=Aside0.mk (Kd.R_below z9_ hb);have n2_:=Aside0.mk (below_step z1_ hb);clear HO_5;clear HO_7;clear HB;have HO_5:=n0_;have HO_7:=n1_;have HB:=n2_;clear n0_ n1_ n2_;(try clear hb);(try clear hb2);(try clear hk);(try clear hi);have p312 : 0≤(x9_4 : Int):=of_decide_eq_true z3_;have q312 : x9_4<(t303.length : Int):=of_decide_eq_true z3_;obtain ⟨ad312,e312,hx312_0,hx312_1⟩:=at_T28 (Kd.R_reads' HO_7.out).2.2 x9_4 p312 q312;obtain rfl : ad310=ad312:=(by injection e312);replace p312:=eq_true p312;replace q312:=eq_true q312))
                                          go_meet
                                          case rel=>exact ⟨_,(true),z8_,H',⟨z25_⟩,⟨z7_⟩,⟨z12_⟩,⟨z2_⟩⟩
                                        · rw [if_neg c56] at H
                                          have c56b0 : decide (((rd_T28 t303 x9_4).f0)<1)=false:=decide_eq_false c56
                                          clear c56
                                          have H':=Aside0.mk H
                                          clear H
                                          obtain ⟨Ao59,co59,eo59⟩:=Kd.R_slice HO_7.out
                                          subst eo59
                                          have p310 : 0≤(x9_4 : Int):=of_decide_eq_true z3_
                                          have q310 : x9_4<(t303.length : Int):=of_decide_eq_true z3_
                                          obtain ⟨ad310,e310,hx310_0,hx310_1⟩:=at_T28 (Kd.R_reads' HO_7.out).2.2 x9_4 p310 q310
                                          cases e310
                                          replace p310:=eq_true p310
                                          replace q310:=eq_true q310
                                          go_wp2_with (first|((with_reducible refine gate_callee (f:=16) rfl ?_);refine goesL_ (some 115) rfl rfl Try.func16 (by kernel_rfl) rfl #[.int .i64 x10_5,.agg #[.int .i64 ((rd_T28 t303 x9_4).f0),.int .i64 ((rd_T28 t303 x9_4).f1)]] rfl z5_ ?_;(with_reducible refine (handshapelaw09_inside.calls x10_5 ((rd_T28 t303 x9_4).f0) ((rd_T28 t303 x9_4).f1) true _ A54.out).mono ?_);rintro e w60 ⟨rfl,hb⟩;refine ⟨_,rfl,?_⟩;have n0_:=Aside0.mk (Kd.R_below z6_ hb);have n1_:=Aside0.mk (Kd.R_below z9_ hb);have n2_:=Aside0.mk (below_step z1_ hb);clear HO_5;clear HO_7;clear HB;have HO_5:=n0_;have HO_7:=n1_;have HB:=n2_;clear n0_ n1_ n2_;(try clear hb);(try clear hb2);(try clear hk);(try clear hi);have p312 : 0≤(x9_4 : Int):=of_decide_eq_true z3_;have q312 : x9_4<(t303.length : Int):=of_decide_eq_true z3_;obtain ⟨ad312,e312,hx312_0,hx312_1⟩:=at_T28 (Kd.R_reads' HO_7.out).2.2 x9_4 p312 q312;obtain rfl : ad310=ad312:=(by injection e312);replace p312:=eq_true p312;replace q312:=eq_true q312;have p313 : 0≤(x9_4 : Int):=of_decide_eq_true z3_;have q313 : x9_4<(t303.length : Int):=of_decide_eq_true z3_;obtain ⟨ad313,e313,hx313_0,hx313_1⟩:=at_T28 (Kd.R_reads' HO_7.out).2.2 x9_4 p313 q313;obtain rfl : ad310=ad313:=(by injection e313);replace p313:=eq_true p313;replace q313:=eq_true q313))
                                          go_meet
                                          case rel=>exact ⟨_,(decide (((rd_T28 t303 x9_4).f1) > (l0.length : Int))),z8_,H',⟨z25_⟩,⟨z7_⟩,⟨z12_⟩,⟨z2_⟩⟩
                                      · replace c55:=Bool.eq_false_iff.mpr c55
                                        subst c55
                                        have H1 : (handshapelaw09_ExamsRanked.j6 k5 l0 x5_2 t303 x9_4 true)=some r:=by rw [if_neg (show ¬ (false=true) by decide)] at H;exact H
                                        clear H
                                        have H:=H1
                                        clear H1
                                        have H':=Aside0.mk H
                                        clear H
                                        obtain ⟨Ao61,co61,eo61⟩:=Kd.R_slice HO_7.out
                                        subst eo61
                                        have p310 : 0≤(x9_4 : Int):=of_decide_eq_true z3_
                                        have q310 : x9_4<(t303.length : Int):=of_decide_eq_true z3_
                                        obtain ⟨ad310,e310,hx310_0,hx310_1⟩:=at_T28 (Kd.R_reads' HO_7.out).2.2 x9_4 p310 q310
                                        cases e310
                                        replace p310:=eq_true p310
                                        replace q310:=eq_true q310
                                        go_wp2_with (first|((with_reducible refine gate_callee (f:=16) rfl ?_);refine goesL_ (some 115) rfl rfl Try.func16 (by kernel_rfl) rfl #[.int .i64 x10_5,.agg #[.int .i64 ((rd_T28 t303 x9_4).f0),.int .i64 ((rd_T28 t303 x9_4).f1)]] rfl z5_ ?_;(with_reducible refine (handshapelaw09_inside.calls x10_5 ((rd_T28 t303 x9_4).f0) ((rd_T28 t303 x9_4).f1) false _ A54.out).mono ?_);rintro e w62 ⟨rfl,hb⟩;refine ⟨_,rfl,?_⟩;have n0_:=Aside0.mk (Kd.R_below z6_ hb);have n1_:=Aside0.mk (Kd.R_below z9_ hb);have n2_:=Aside0.mk (below_step z1_ hb);clear HO_5;clear HO_7;clear HB;have HO_5:=n0_;have HO_7:=n1_;have HB:=n2_;clear n0_ n1_ n2_;(try clear hb);(try clear hb2);(try clear hk);(try clear hi)))
                                        go_meet
                                        case rel=>exact ⟨_,(true),z8_,H',⟨z25_⟩,⟨z7_⟩,⟨z12_⟩,⟨z2_⟩⟩
                                    · rw [if_neg c53] at H
                                      exact absurd H (by simp)
                                  · rw [if_neg c52] at H
                                    exact absurd H (by simp)
                                case rest =>
                                  as_aux_lemma =>
                                  clear HC51
                                  try clear c1;try clear c2;try clear p2;try clear q2;try clear hx2;try clear c3;try clear p3;try clear q3;try clear hx3;try clear c5;try clear p6;try clear c7;try clear c8;try clear c8b0;try clear c15;try clear c16;try clear c29;try clear p29;try clear q29;try clear hx29;try clear p30;try clear q30;try clear hx30;try clear p31;try clear q31;try clear hx31;try clear c39;try clear c40;try clear c40b0;try clear c41;try clear c41b0;try clear hx290_0;try clear hx290_1;try clear hx290_2;try clear hx290_3;try clear hx292_0;try clear hx293_0;try clear hx293_1;try clear hx293_2;try clear hx293_3;try clear hx294_0;try clear hx297_0;try clear hx297_1;try clear hx297_2;try clear hx297_3;try clear hx298_0;try clear hx308_0;try clear hx309_0;try clear hx310_0;try clear hx310_1;try clear hx312_0;try clear hx312_1;try clear hx313_0;try clear hx313_1;try clear p2;try clear p29;try clear p290;try clear p292;try clear p293;try clear p294;try clear p297;try clear p298;try clear p308;try clear p309;try clear p310;try clear p312;try clear p313;try clear p6;try clear q2;try clear q29;try clear q290;try clear q292;try clear q293;try clear q294;try clear q297;try clear q298;try clear q308;try clear q309;try clear q310;try clear q312;try clear q313
                                  obtain ⟨kq,x134_50,rfl,HA,HJ50,HO_5,HO_7,HB⟩:=hcut
                                  cases kq with
                                  | zero=>exact absurd HA.out (by simp [handshapelaw09_ExamsRanked.j6])
                                  | succ kj50 =>
                                    have H:=HA.out
                                    clear HA
                                    simp only [handshapelaw09_ExamsRanked.j6] at H
                                    by_cases c63 : x134_50=true
                                    · subst c63
                                      have H1 : (none)=some r:=by rw [if_pos rfl] at H;exact H
                                      clear H
                                      have H:=H1
                                      clear H1
                                      exact absurd H (by simp)
                                    · replace c63:=Bool.eq_false_iff.mpr c63
                                      subst c63
                                      have H1 : (handshapelaw09_ExamsRanked.l3 kj50 l0 x5_2 t303 x9_4 0)=some r:=by rw [if_neg (show ¬ (false=true) by decide)] at H;exact H
                                      clear H
                                      have H:=H1
                                      clear H1
                                      have H':=Aside0.mk H
                                      clear H
                                      go_wp2
                                      go_loopg [12] kj50 (fun kq v12 w'=>∃ (x12_7 : Int),v12=.int .i64 x12_7∧Aside0 (handshapelaw09_ExamsRanked.l3 kq l0 x5_2 t303 x9_4 x12_7=some r)∧Aside0 (kq≤kj50)∧Aside0 (Kd.R (Kd.int .i64) 3 w' w.heap.size (fun _=>True) u5 x5_2)∧Aside0 (Kd.R k28 28 w' w.heap.size (fun _=>True) v305 t303)∧Aside0 (Below w.heap.size w w'))
                                      case atStart=>exact ⟨(0),z8_,H',⟨Nat.le_refl _⟩,⟨z7_⟩,⟨z12_⟩,⟨z2_⟩⟩
                                      case round =>
                                        as_aux_lemma =>
                                        clear H'
                                        try clear c1;try clear c2;try clear p2;try clear q2;try clear hx2;try clear c3;try clear p3;try clear q3;try clear hx3;try clear c5;try clear c6;try clear p6;try clear c7;try clear c8;try clear c8b0;try clear c15;try clear c16;try clear c29;try clear p29;try clear q29;try clear hx29;try clear p30;try clear q30;try clear hx30;try clear p31;try clear q31;try clear hx31;try clear c39;try clear c40;try clear c40b0;try clear c41;try clear c41b0;try clear c63;try clear hx290_0;try clear hx290_1;try clear hx290_2;try clear hx290_3;try clear hx292_0;try clear hx293_0;try clear hx293_1;try clear hx293_2;try clear hx293_3;try clear hx294_0;try clear hx297_0;try clear hx297_1;try clear hx297_2;try clear hx297_3;try clear hx298_0;try clear hx308_0;try clear hx309_0;try clear hx310_0;try clear hx310_1;try clear hx312_0;try clear hx312_1;try clear hx313_0;try clear hx313_1;try clear p2;try clear p29;try clear p290;try clear p292;try clear p293;try clear p294;try clear p297;try clear p298;try clear p3;try clear p30;try clear p308;try clear p309;try clear p31;try clear p310;try clear p312;try clear p313;try clear p6;try clear q2;try clear q29;try clear q290;try clear q292;try clear q293;try clear q294;try clear q297;try clear q298;try clear q3;try clear q30;try clear q308;try clear q309;try clear q31;try clear q310;try clear q312;try clear q313
                                        obtain ⟨x12_7,rfl,HA,HK7,HO_5,HO_7,HB⟩:=hrel
                                        cases gk with
                                        | zero=>exact absurd HA.out (by simp [handshapelaw09_ExamsRanked.l3])
                                        | succ k7 =>
                                          have H:=HA.out
                                          clear HA
                                          simp only [handshapelaw09_ExamsRanked.l3] at H
                                          by_cases c64 : x12_7<(l0.length : Int)
                                          · rw [if_pos c64] at H
                                            have c64b0 : decide (x12_7<(l0.length : Int))=true:=decide_eq_true c64
                                            clear c64
                                            by_cases c65 : 0≤x9_4
                                            · rw [if_pos c65] at H
                                              have c65b0 : decide (0≤x9_4)=true:=decide_eq_true c65
                                              clear c65
                                              by_cases c66 : x9_4<(l0.length : Int)
                                              · rw [if_pos c66] at H
                                                have c66b0 : decide (x9_4<(l0.length : Int))=true:=decide_eq_true c66
                                                clear c66
                                                replace H:=Option.bind_eq_some_iff.mp H
                                                obtain ⟨⟨t315,t316,t317⟩,A670,H⟩:=H
                                                replace H : (if 0≤x12_7 then ((exams_Range.f ((rd_T26 l0 x12_7).f0) ((rd_T26 l0 x12_7).f1) ((rd_T26 l0 x12_7).f2) ((rd_T26 l0 x12_7).f3)).bind fun bt320=>(if t317=0 then (if bt320.2.2=0 then (if t315 > bt320.2.1 then (if x9_4<(t303.length : Int) then (if x12_7<(t303.length : Int) then (if ((rd_T28 t303 x9_4).f0) ≥ ((rd_T28 t303 x12_7).f0) then (none) else (if ((rd_T28 t303 x9_4).f1) ≥ ((rd_T28 t303 x12_7).f1) then (none) else (handshapelaw09_ExamsRanked.l3 k7 l0 x5_2 t303 x9_4 (wrap64 (x12_7+1))))) else (none)) else (none)) else (handshapelaw09_ExamsRanked.l3 k7 l0 x5_2 t303 x9_4 (wrap64 (x12_7+1)))) else (none)) else (none))) else (none))=some r:=H
                                                have A67:=Aside0.mk A670
                                                clear A670
                                                by_cases c68 : 0≤x12_7
                                                · rw [if_pos c68] at H
                                                  have c68b0 : decide (0≤x12_7)=true:=decide_eq_true c68
                                                  clear c68
                                                  replace H:=Option.bind_eq_some_iff.mp H
                                                  obtain ⟨⟨t320,t321,t322⟩,A690,H⟩:=H
                                                  replace H : (if t317=0 then (if t322=0 then (if t315 > t321 then (if x9_4<(t303.length : Int) then (if x12_7<(t303.length : Int) then (if ((rd_T28 t303 x9_4).f0) ≥ ((rd_T28 t303 x12_7).f0) then (none) else (if ((rd_T28 t303 x9_4).f1) ≥ ((rd_T28 t303 x12_7).f1) then (none) else (handshapelaw09_ExamsRanked.l3 k7 l0 x5_2 t303 x9_4 (wrap64 (x12_7+1))))) else (none)) else (none)) else (handshapelaw09_ExamsRanked.l3 k7 l0 x5_2 t303 x9_4 (wrap64 (x12_7+1)))) else (none)) else (none))=some r:=H
                                                  have A69:=Aside0.mk A690
                                                  clear A690
                                                  by_cases c70 : t317=0
                                                  · rw [if_pos c70] at H
                                                    have c70b0 : (t317 == 0)=true:=beq_iff_eq.mpr c70
                                                    have c70b1 : (t317 != 0)=false:=bne_eq_false_iff_eq.mpr c70
                                                    clear c70
                                                    by_cases c71 : t322=0
                                                    · rw [if_pos c71] at H
                                                      have c71b0 : (t322 == 0)=true:=beq_iff_eq.mpr c71
                                                      have c71b1 : (t322 != 0)=false:=bne_eq_false_iff_eq.mpr c71
                                                      clear c71
                                                      by_cases c72 : t315 > t321
                                                      · rw [if_pos c72] at H
                                                        have c72b0 : decide (t321<t315)=true:=decide_eq_true c72
                                                        clear c72
                                                        by_cases c73 : x9_4<(t303.length : Int)
                                                        · rw [if_pos c73] at H
                                                          have c73b0 : decide (x9_4<(t303.length : Int))=true:=decide_eq_true c73
                                                          clear c73
                                                          by_cases c74 : x12_7<(t303.length : Int)
                                                          · rw [if_pos c74] at H
                                                            have c74b0 : decide (x12_7<(t303.length : Int))=true:=decide_eq_true c74
                                                            clear c74
                                                            by_cases c75 : ((rd_T28 t303 x9_4).f0) ≥ ((rd_T28 t303 x12_7).f0)
                                                            · rw [if_pos c75] at H
                                                              have c75b0 : decide (((rd_T28 t303 x12_7).f0)≤((rd_T28 t303 x9_4).f0))=true:=decide_eq_true c75
                                                              clear c75
                                                              exact absurd H (by simp)
                                                            · rw [if_neg c75] at H
                                                              have c75b0 : decide (((rd_T28 t303 x12_7).f0)≤((rd_T28 t303 x9_4).f0))=false:=decide_eq_false c75
                                                              clear c75
                                                              by_cases c76 : ((rd_T28 t303 x9_4).f1) ≥ ((rd_T28 t303 x12_7).f1)
                                                              · rw [if_pos c76] at H
                                                                exact absurd H (by simp)
                                                              · rw [if_neg c76] at H
                                                                have c76b0 : decide (((rd_T28 t303 x12_7).f1)≤((rd_T28 t303 x9_4).f1))=false:=decide_eq_false c76
                                                                clear c76
                                                                have H':=Aside0.mk H
                                                                clear H
                                                                have p314 : 0≤(x9_4 : Int):=of_decide_eq_true z3_
                                                                have q314 : x9_4<(l0.length : Int):=of_decide_eq_true z3_
                                                                obtain ⟨ad314,A314_0,c314_0,A314_1,c314_1,A314_3,c314_3,e314,hx314_0,hx314_1,hx314_2,hx314_3,hl314_0,hi314_0,hl314_1,hi314_1,hl314_3,hi314_3⟩:=at_T26 HR0.out x9_4 p314 q314
                                                                cases e314
                                                                replace hx314_0:=(HB.out.cell (World.block_lt_of_cell? w _ hx314_0)).trans hx314_0
                                                                replace hx314_1:=(HB.out.cell (World.block_lt_of_cell? w _ hx314_1)).trans hx314_1
                                                                replace hx314_2:=(HB.out.cell (World.block_lt_of_cell? w _ hx314_2)).trans hx314_2
                                                                replace hx314_3:=(HB.out.cell (World.block_lt_of_cell? w _ hx314_3)).trans hx314_3
                                                                have HR314_0:=Aside0.mk hi314_0
                                                                have HC314_0:=Aside0.mk hl314_0
                                                                clear hi314_0 hl314_0
                                                                have HR314_1:=Aside0.mk hi314_1
                                                                have HC314_1:=Aside0.mk hl314_1
                                                                clear hi314_1 hl314_1
                                                                have HR314_3:=Aside0.mk hi314_3
                                                                have HC314_3:=Aside0.mk hl314_3
                                                                clear hi314_3 hl314_3
                                                                replace p314:=eq_true p314
                                                                replace q314:=eq_true q314
                                                                try go_wp2_with (first|((with_reducible refine gate_callee (f:=9) rfl ?_);refine goesL_ (some 146) rfl rfl Try.func9 (by kernel_rfl) rfl #[.agg #[.slice A314_0 ((rd_T26 l0 x9_4).f0).length c314_0,.slice A314_1 ((rd_T26 l0 x9_4).f1).length c314_1,.int .i64 ((rd_T26 l0 x9_4).f2),.slice A314_3 ((rd_T26 l0 x9_4).f3).length c314_3]] rfl z5_ ?_;(with_reducible refine (exams_Range.calls _ _ ((rd_T26 l0 x9_4).f0) _ _ ((rd_T26 l0 x9_4).f1) ((rd_T26 l0 x9_4).f2) _ _ ((rd_T26 l0 x9_4).f3) t315 t316 t317 _ ?side1 ?side2 ?side3 ?side4 ?side5 ?side6 A67.out).mono ?_);(case side1=>repeat (first|exact (Kd.C_below HR314_0.out HB.out)|(with_reducible refine Kd.C_alloc ?_ _)|(with_reducible refine Kd.C_drewN ?_ _)|(with_reducible refine Kd.C_drew ?_)));(case side2=>exact HC314_0.out);(case side3=>repeat (first|exact (Kd.C_below HR314_1.out HB.out)|(with_reducible refine Kd.C_alloc ?_ _)|(with_reducible refine Kd.C_drewN ?_ _)|(with_reducible refine Kd.C_drew ?_)));(case side4=>exact HC314_1.out);(case side5=>repeat (first|exact (Kd.C_below HR314_3.out HB.out)|(with_reducible refine Kd.C_alloc ?_ _)|(with_reducible refine Kd.C_drewN ?_ _)|(with_reducible refine Kd.C_drew ?_)));(case side6=>exact HC314_3.out);rintro e w77 ⟨rfl,hb⟩;refine ⟨_,rfl,?_⟩;have n0_:=Aside0.mk (Kd.R_below z6_ hb);have n1_:=Aside0.mk (Kd.R_below z9_ hb);have n2_:=Aside0.mk (below_step z1_ hb);clear HO_5;clear HO_7;clear HB;have HO_5:=n0_;have HO_7:=n1_;have HB:=n2_;clear n0_ n1_ n2_;(try clear hb);(try clear hb2);(try clear hk);(try clear hi))|((with_reducible refine gate_dst (N:=13) rfl ?_);(try (refine gate_guard (by rfl) ?_;dsimp only));refine box_event ?hg (N:=13) ?hd (cs:=#[.int .i64 0,.int .i64 0]) (t:=28) ?hr ?_;(case hd=>rfl);(case hg=>rfl);(case hr=>first|(go_simp;done)|(go_simp;rfl));intro gb318 hg w78 hbox hb;have n0_:=Aside0.mk (Kd.R_below z6_ hb);have n1_:=Aside0.mk (Kd.R_below (Kd.R_elderB z9_ gb318 (Nat.le_of_eq hg.symm)) hb);have n2_:=Aside0.mk (below_step z1_ hb);have n3_:=Aside0.mk (hbox);have n4_:=Aside0.mk ((z27_ : w.heap.size≤gb318));have n5_:=Aside0.mk ((z27_ : w.heap.size≤gb318));clear HO_5;clear HO_7;clear HB;have HO_5:=n0_;have HO_7:=n1_;have HB:=n2_;have BK318:=n3_;have GW318:=n4_;have GE318:=n5_;clear n0_ n1_ n2_ n3_ n4_ n5_;clear hb hbox hg;have hcz79_0 : w78.cell? ⟨gb318,0,none⟩=some (.int .i64 0):=(blk_cell BK318.out 0).trans rfl;have hcz79_1 : w78.cell? ⟨gb318,1,none⟩=some (.int .i64 0):=(blk_cell BK318.out 1).trans rfl;have hfz79_0:=blk_frozen BK318.out 0;have hfz79_1:=blk_frozen BK318.out 1;have p319 : 0≤(x12_7 : Int):=of_decide_eq_true z3_;have q319 : x12_7<(l0.length : Int):=of_decide_eq_true z3_;obtain ⟨ad319,A319_0,c319_0,A319_1,c319_1,A319_3,c319_3,e319,hx319_0,hx319_1,hx319_2,hx319_3,hl319_0,hi319_0,hl319_1,hi319_1,hl319_3,hi319_3⟩:=at_T26 HR0.out x12_7 p319 q319;obtain rfl : ad314=ad319:=(by injection e319);have hn319_0 : ad314.block≠gb318:=Nat.ne_of_lt (Nat.lt_of_lt_of_le z23_ GW318.out);have hn319_1 : ad314.block≠gb318:=Nat.ne_of_lt (Nat.lt_of_lt_of_le z23_ GW318.out);replace hx319_0:=(HB.out.cell (World.block_lt_of_cell? w _ hx319_0)).trans hx319_0;replace hx319_1:=(HB.out.cell (World.block_lt_of_cell? w _ hx319_1)).trans hx319_1;replace hx319_2:=(HB.out.cell (World.block_lt_of_cell? w _ hx319_2)).trans hx319_2;replace hx319_3:=(HB.out.cell (World.block_lt_of_cell? w _ hx319_3)).trans hx319_3;have HR319_0:=Aside0.mk hi319_0;have HC319_0:=Aside0.mk hl319_0;clear hi319_0 hl319_0;have HR319_1:=Aside0.mk hi319_1;have HC319_1:=Aside0.mk hl319_1;clear hi319_1 hl319_1;have HR319_3:=Aside0.mk hi319_3;have HC319_3:=Aside0.mk hl319_3;clear hi319_3 hl319_3;replace hx319_0:=(cell_far (p:=⟨gb318,0,none⟩) z10_ (.int .i64 t315)).trans hx319_0;replace hx319_1:=(cell_far (p:=⟨gb318,0,none⟩) z10_ (.int .i64 t315)).trans hx319_1;replace hx319_2:=(cell_far (p:=⟨gb318,0,none⟩) z10_ (.int .i64 t315)).trans hx319_2;replace hx319_3:=(cell_far (p:=⟨gb318,0,none⟩) z10_ (.int .i64 t315)).trans hx319_3;replace hx319_0:=(cell_far (p:=⟨gb318,1,none⟩) z11_ (.int .i64 t316)).trans hx319_0;replace hx319_1:=(cell_far (p:=⟨gb318,1,none⟩) z11_ (.int .i64 t316)).trans hx319_1;replace hx319_2:=(cell_far (p:=⟨gb318,1,none⟩) z11_ (.int .i64 t316)).trans hx319_2;replace hx319_3:=(cell_far (p:=⟨gb318,1,none⟩) z11_ (.int .i64 t316)).trans hx319_3;clear hn319_0;clear hn319_1;replace p319:=eq_true p319;replace q319:=eq_true q319)|((with_reducible refine gate_callee (f:=9) rfl ?_);refine goesL_ (some 154) rfl rfl Try.func9 (by kernel_rfl) rfl #[.agg #[.slice A319_0 ((rd_T26 l0 x12_7).f0).length c319_0,.slice A319_1 ((rd_T26 l0 x12_7).f1).length c319_1,.int .i64 ((rd_T26 l0 x12_7).f2),.slice A319_3 ((rd_T26 l0 x12_7).f3).length c319_3]] rfl z5_ ?_;(with_reducible refine (exams_Range.calls _ _ ((rd_T26 l0 x12_7).f0) _ _ ((rd_T26 l0 x12_7).f1) ((rd_T26 l0 x12_7).f2) _ _ ((rd_T26 l0 x12_7).f3) t320 t321 t322 _ ?side1 ?side2 ?side3 ?side4 ?side5 ?side6 A69.out).mono ?_);(case side1=>exact Kd.C_below HR319_0.out z4_);(case side2=>exact HC319_0.out);(case side3=>exact Kd.C_below HR319_1.out z4_);(case side4=>exact HC319_1.out);(case side5=>exact Kd.C_below HR319_3.out z4_);(case side6=>exact HC319_3.out);rintro e w80 ⟨rfl,hb⟩;refine ⟨_,rfl,?_⟩;have n0_:=Aside0.mk (Kd.R_below z20_ hb);have n1_:=Aside0.mk (Kd.R_below z19_ hb);have n2_:=Aside0.mk (blk_below (g:=gb318) (o:=.cells #[.int .i64 t315,.int .i64 t316] 28 (0,0)) z15_ hb);have n3_:=Aside0.mk (below_step z4_ hb);clear HO_5;clear HO_7;clear BK318;clear HB;have HO_5:=n0_;have HO_7:=n1_;have BK318:=n2_;have HB:=n3_;clear n0_ n1_ n2_ n3_;(try clear hb);(try clear hb2);(try clear hk);(try clear hi))|((with_reducible refine gate_dst (N:=15) rfl ?_);(try (refine gate_guard (by rfl) ?_;dsimp only));refine box_event ?hg (N:=15) ?hd (cs:=#[.int .i64 0,.int .i64 0]) (t:=28) ?hr ?_;(case hd=>rfl);(case hg=>rfl);(case hr=>first|(go_simp;done)|(go_simp;rfl));intro gb323 hg w81 hbox hb;have n0_:=Aside0.mk (Kd.R_below z6_ hb);have n1_:=Aside0.mk (Kd.R_below (Kd.R_elderB z9_ gb323 (Nat.le_of_eq hg.symm)) hb);have n2_:=Aside0.mk (blk_below (g:=gb318) (o:=.cells #[.int .i64 t315,.int .i64 t316] 28 (0,0)) z13_ hb);have n3_:=Aside0.mk (below_step z4_ hb);have n4_:=Aside0.mk (hbox);have n5_:=Aside0.mk ((z28_ : w.heap.size≤gb323));have n6_:=Aside0.mk ((z28_ : w.heap.size≤gb323));have n7_:=Aside0.mk ((z30_ : gb318≠gb323));have n8_:=Aside0.mk ((z31_ : gb323≠gb318));clear HO_5;clear HO_7;clear BK318;clear HB;have HO_5:=n0_;have HO_7:=n1_;have BK318:=n2_;have HB:=n3_;have BK323:=n4_;have GW323:=n5_;have GE323:=n6_;have NB318_323:=n7_;have NB323_318:=n8_;clear n0_ n1_ n2_ n3_ n4_ n5_ n6_ n7_ n8_;clear hb hbox hg;have hnb82:=NB323_318.out;have hnc82:=NB318_323.out;have hcz83_0 : w81.cell? ⟨gb323,0,none⟩=some (.int .i64 0):=(blk_cell BK323.out 0).trans rfl;have hcz83_1 : w81.cell? ⟨gb323,1,none⟩=some (.int .i64 0):=(blk_cell BK323.out 1).trans rfl;have hfz83_0:=blk_frozen BK323.out 0;have hfz83_1:=blk_frozen BK323.out 1))
                                                                have n0_ : Aside0 (Kd.R (Kd.int .i64) 3 ((w81.setCell ⟨gb323,0,none⟩ (.int .i64 t320)).setCell ⟨gb323,1,none⟩ (.int .i64 t321)) w.heap.size (fun _=>True) u5 x5_2):=⟨z21_⟩
                                                                have n1_ : Aside0 (Kd.R k28 28 ((w81.setCell ⟨gb323,0,none⟩ (.int .i64 t320)).setCell ⟨gb323,1,none⟩ (.int .i64 t321)) w.heap.size (fun k_=>k_≠gb318∧k_≠gb323) v305 t303):=⟨z18_⟩
                                                                have n2_ : Aside0 (((w81.setCell ⟨gb323,0,none⟩ (.int .i64 t320)).setCell ⟨gb323,1,none⟩ (.int .i64 t321)).heap[gb318]?=some (.cells #[.int .i64 t315,.int .i64 t316] 28 (0,0))):=⟨z17_⟩
                                                                have n3_ : Aside0 (((w81.setCell ⟨gb323,0,none⟩ (.int .i64 t320)).setCell ⟨gb323,1,none⟩ (.int .i64 t321)).heap[gb323]?=some (.cells #[.int .i64 t320,.int .i64 t321] 28 (0,0))):=⟨z16_⟩
                                                                have n4_ : Aside0 (Below w.heap.size w ((w81.setCell ⟨gb323,0,none⟩ (.int .i64 t320)).setCell ⟨gb323,1,none⟩ (.int .i64 t321))):=⟨z14_⟩
                                                                (try clear HO_5)
                                                                (try clear HO_7)
                                                                (try clear BK318)
                                                                (try clear BK323)
                                                                (try clear HB)
                                                                generalize ((w81.setCell ⟨gb323,0,none⟩ (.int .i64 t320)).setCell ⟨gb323,1,none⟩ (.int .i64 t321))=w84 at n0_ n1_ n2_ n3_ n4_ ⊢
                                                                have HO_5:=n0_
                                                                have HO_7:=n1_
                                                                have BK318:=n2_
                                                                have BK323:=n3_
                                                                have HB:=n4_
                                                                clear n0_ n1_ n2_ n3_ n4_
                                                                have n0_:=Aside0.mk (Kd.R_drew HO_5.out)
                                                                have n1_:=Aside0.mk (Kd.R_drew HO_7.out)
                                                                have n2_:=Aside0.mk (blk_drew BK318.out)
                                                                have n3_:=Aside0.mk (blk_drew BK323.out)
                                                                have n4_:=Aside0.mk (below_drew1 HB.out)
                                                                clear HO_5
                                                                clear HO_7
                                                                clear BK318
                                                                clear BK323
                                                                clear HB
                                                                have HO_5:=n0_
                                                                have HO_7:=n1_
                                                                have BK318:=n2_
                                                                have BK323:=n3_
                                                                have HB:=n4_
                                                                clear n0_ n1_ n2_ n3_ n4_
                                                                obtain ⟨Ao86,co86,eo86⟩:=Kd.R_slice HO_7.out
                                                                (first|subst eo86|(injection eo86 with f1_ f2_ f3_;have f4_:=f1_.symm;have f5_:=f3_.symm;clear f1_ f2_ f3_;subst f4_;subst f5_))
                                                                have p324 : 0≤(x9_4 : Int):=of_decide_eq_true z3_
                                                                have q324 : x9_4<(t303.length : Int):=of_decide_eq_true z3_
                                                                obtain ⟨ad324,e324,hx324_0,hx324_1⟩:=at_T28 (Kd.R_reads' HO_7.out).2.2 x9_4 p324 q324
                                                                cases e324
                                                                replace p324:=eq_true p324
                                                                replace q324:=eq_true q324
                                                                have p325 : 0≤(x12_7 : Int):=of_decide_eq_true z3_
                                                                have q325 : x12_7<(t303.length : Int):=of_decide_eq_true z3_
                                                                obtain ⟨ad325,e325,hx325_0,hx325_1⟩:=at_T28 (Kd.R_reads' HO_7.out).2.2 x12_7 p325 q325
                                                                obtain rfl : ad324=ad325:=(by injection e325)
                                                                replace p325:=eq_true p325
                                                                replace q325:=eq_true q325
                                                                have p326 : 0≤(x9_4 : Int):=of_decide_eq_true z3_
                                                                have q326 : x9_4<(t303.length : Int):=of_decide_eq_true z3_
                                                                obtain ⟨ad326,e326,hx326_0,hx326_1⟩:=at_T28 (Kd.R_reads' HO_7.out).2.2 x9_4 p326 q326
                                                                obtain rfl : ad324=ad326:=(by injection e326)
                                                                replace p326:=eq_true p326
                                                                replace q326:=eq_true q326
                                                                have p327 : 0≤(x12_7 : Int):=of_decide_eq_true z3_
                                                                have q327 : x12_7<(t303.length : Int):=of_decide_eq_true z3_
                                                                obtain ⟨ad327,e327,hx327_0,hx327_1⟩:=at_T28 (Kd.R_reads' HO_7.out).2.2 x12_7 p327 q327
                                                                obtain rfl : ad324=ad327:=(by injection e327)
                                                                replace p327:=eq_true p327
                                                                replace q327:=eq_true q327
                                                                refine start_ (n:=39) (S:=fun w'=>w'.cell? ⟨gb318,0,none⟩=some (.int .i64 t315)∧w'.cell? ⟨gb318,1,none⟩=some (.int .i64 t316)∧w'.cell? ⟨gb323,0,none⟩=some (.int .i64 t320)∧w'.cell? ⟨gb323,1,none⟩=some (.int .i64 t321)∧w'.cell? (ad324.add ((x9_4).toNat * 2))=some (.int .i64 ((rd_T28 t303 x9_4).f0))∧w'.cell? ⟨(ad324.add ((x9_4).toNat * 2)).block,(ad324.add ((x9_4).toNat * 2)).off+1,none⟩=some (.int .i64 ((rd_T28 t303 x9_4).f1))∧w'.cell? (ad324.add ((x12_7).toNat * 2))=some (.int .i64 ((rd_T28 t303 x12_7).f0))∧w'.cell? ⟨(ad324.add ((x12_7).toNat * 2)).block,(ad324.add ((x12_7).toNat * 2)).off+1,none⟩=some (.int .i64 ((rd_T28 t303 x12_7).f1))∧w'.cell? (ad324.add ((x9_4).toNat * 2))=some (.int .i64 ((rd_T28 t303 x9_4).f0))∧w'.cell? ⟨(ad324.add ((x9_4).toNat * 2)).block,(ad324.add ((x9_4).toNat * 2)).off+1,none⟩=some (.int .i64 ((rd_T28 t303 x9_4).f1))∧w'.cell? (ad324.add ((x12_7).toNat * 2))=some (.int .i64 ((rd_T28 t303 x12_7).f0))∧w'.cell? ⟨(ad324.add ((x12_7).toNat * 2)).block,(ad324.add ((x12_7).toNat * 2)).off+1,none⟩=some (.int .i64 ((rd_T28 t303 x12_7).f1))) (ds:=[]) #[false,false,false,false,false,false,false,false,false,false,false,false,false,false,false,false,false,false,false,false,false,false,false,false,false,false,false,false,false,false,false,false,false,false,false,false,false,false,false] (by kernel_rfl) rfl rfl ⟨(blk_cell BK318.out 0).trans rfl,(blk_cell BK318.out 1).trans rfl,(blk_cell BK323.out 0).trans rfl,(blk_cell BK323.out 1).trans rfl,hx324_0,hx324_1,hx325_0,hx325_1,hx326_0,hx326_1,hx327_0,hx327_1⟩ (fun hHeld=>?_);refine with_tabW handshapelaw09_ExamsRanked.tab29 handshapelaw09_ExamsRanked.bits29 (fun HT_ HW_=>?_)
                                                                generalize w84.drew=w85 at HO_5 HO_7 BK318 BK323 HB hx324_0 hx324_1 hx325_0 hx325_1 hx326_0 hx326_1 hx327_0 hx327_1 hHeld ⊢
                                                                refine pure_ (i:=0) (N:=some 157) (v:=?_) (a':=?_) #[true,false,false,false,false,false,false,false,false,false,false,false,false,false,false,false,false,false,false,false,false,false,false,false,false,false,false,false,false,false,false,false,false,false,false,false,false,false,false] rfl rfl (any_of HT_.out (by kernel_rfl)) (fun _ _ _ h=>h) (Or.inl ⟨by rfl,?_⟩) ?_ ?_
                                                                rotate_left
                                                                · intro w'
                                                                  go_simp
                                                                  with_reducible rfl
                                                                rotate_left
                                                                · simp only [Act.put,List.setIfInBounds_toArray,List.set_cons_zero,List.set_cons_succ,i64_w,i32_w]
                                                                  rfl
                                                                refine pure_ (i:=1) (N:=some 158) (v:=?_) (a':=?_) #[true,true,false,false,false,false,false,false,false,false,false,false,false,false,false,false,false,false,false,false,false,false,false,false,false,false,false,false,false,false,false,false,false,false,false,false,false,false,false] rfl rfl (any_of HT_.out (by kernel_rfl)) (fun _ _ _ h=>h) (Or.inl ⟨by rfl,?_⟩) ?_ ?_
                                                                rotate_left
                                                                · intro w'
                                                                  go_simp
                                                                  with_reducible rfl
                                                                rotate_left
                                                                · simp only [Act.put,List.setIfInBounds_toArray,List.set_cons_zero,List.set_cons_succ,i64_w,i32_w]
                                                                  rfl
                                                                refine pure_ (i:=2) (N:=some 159) (v:=?_) (a':=?_) #[true,true,true,false,false,false,false,false,false,false,false,false,false,false,false,false,false,false,false,false,false,false,false,false,false,false,false,false,false,false,false,false,false,false,false,false,false,false,false] rfl rfl (any_of HT_.out (by kernel_rfl)) (fun _ _ _ h=>h) (Or.inl ⟨by rfl,?_⟩) ?_ ?_
                                                                rotate_left
                                                                · intro w'
                                                                  go_simp
                                                                  with_reducible rfl
                                                                rotate_left
                                                                · simp only [Act.put,List.setIfInBounds_toArray,List.set_cons_zero,List.set_cons_succ,i64_w,i32_w]
                                                                  rfl
                                                                refine pure_ (i:=3) (N:=some 160) (v:=?_) (a':=?_) #[true,true,true,true,false,false,false,false,false,false,false,false,false,false,false,false,false,false,false,false,false,false,false,false,false,false,false,false,false,false,false,false,false,false,false,false,false,false,false] rfl rfl (any_of HT_.out (by kernel_rfl)) (fun _ _ _ h=>h) (Or.inl ⟨by rfl,?_⟩) ?_ ?_
                                                                rotate_left
                                                                · intro w'
                                                                  go_simp
                                                                  with_reducible rfl
                                                                rotate_left
                                                                · simp only [Act.put,List.setIfInBounds_toArray,List.set_cons_zero,List.set_cons_succ,i64_w,i32_w]
                                                                  rfl
                                                                refine pure_ (i:=4) (N:=some 161) (v:=?_) (a':=?_) #[true,true,true,true,true,false,false,false,false,false,false,false,false,false,false,false,false,false,false,false,false,false,false,false,false,false,false,false,false,false,false,false,false,false,false,false,false,false,false] rfl rfl (any_of HT_.out (by kernel_rfl)) (fun _ _ _ h=>h) (Or.inl ⟨by rfl,?_⟩) ?_ ?_
                                                                rotate_left
                                                                · intro w'
                                                                  go_simp
                                                                  with_reducible rfl
                                                                rotate_left
                                                                · simp only [Act.put,List.setIfInBounds_toArray,List.set_cons_zero,List.set_cons_succ,i64_w,i32_w]
                                                                  rfl
                                                                refine pure_ (i:=5) (N:=some 162) (v:=?_) (a':=?_) #[true,true,true,true,true,true,false,false,false,false,false,false,false,false,false,false,false,false,false,false,false,false,false,false,false,false,false,false,false,false,false,false,false,false,false,false,false,false,false] rfl rfl (any_of HT_.out (by kernel_rfl)) (fun _ _ _ h=>h) (Or.inl ⟨by rfl,?_⟩) ?_ ?_
                                                                rotate_left
                                                                · intro w'
                                                                  go_simp
                                                                  with_reducible rfl
                                                                rotate_left
                                                                · simp only [Act.put,List.setIfInBounds_toArray,List.set_cons_zero,List.set_cons_succ,i64_w,i32_w]
                                                                  rfl
                                                                refine pure_ (i:=6) (N:=some 163) (v:=?_) (a':=?_) #[true,true,true,true,true,true,true,false,false,false,false,false,false,false,false,false,false,false,false,false,false,false,false,false,false,false,false,false,false,false,false,false,false,false,false,false,false,false,false] rfl rfl (any_of HT_.out (by kernel_rfl)) (fun _ _ _ h=>h) (Or.inl ⟨by rfl,?_⟩) ?_ ?_
                                                                rotate_left
                                                                · intro w'
                                                                  go_simp
                                                                  with_reducible rfl
                                                                rotate_left
                                                                · simp only [Act.put,List.setIfInBounds_toArray,List.set_cons_zero,List.set_cons_succ,i64_w,i32_w]
                                                                  rfl
                                                                refine pure_ (i:=7) (N:=some 164) (v:=?_) (a':=?_) #[true,true,true,true,true,true,true,true,false,false,false,false,false,false,false,false,false,false,false,false,false,false,false,false,false,false,false,false,false,false,false,false,false,false,false,false,false,false,false] rfl rfl (any_of HT_.out (by kernel_rfl)) (fun _ _ _ h=>h) (Or.inl ⟨by rfl,?_⟩) ?_ ?_
                                                                rotate_left
                                                                · intro w'
                                                                  go_simp
                                                                  with_reducible rfl
                                                                rotate_left
                                                                · simp only [Act.put,List.setIfInBounds_toArray,List.set_cons_zero,List.set_cons_succ,i64_w,i32_w]
                                                                  rfl
                                                                refine pure_ (i:=9) (N:=some 166) (v:=?_) (a':=?_) #[true,true,true,true,true,true,true,true,false,true,false,false,false,false,false,false,false,false,false,false,false,false,false,false,false,false,false,false,false,false,false,false,false,false,false,false,false,false,false] rfl rfl (any_of HT_.out (by kernel_rfl)) (fun _ _ _ h=>h) (Or.inl ⟨by rfl,?_⟩) ?_ ?_
                                                                rotate_left
                                                                · intro w'
                                                                  go_simp
                                                                  with_reducible rfl
                                                                rotate_left
                                                                · simp only [Act.put,List.setIfInBounds_toArray,List.set_cons_zero,List.set_cons_succ,i64_w,i32_w]
                                                                  rfl
                                                                refine take_ (i:=8) (N:=some 165) (v:=?_) (a':=?_) #[true,true,true,true,true,true,true,true,true,true,false,false,false,false,false,false,false,false,false,false,false,false,false,false,false,false,false,false,false,false,false,false,false,false,false,false,false,false,false] rfl rfl (take_ofW HT_.out HW_.out (by kernel_rfl)) (fun _ _ _ h=>h) (Or.inl ⟨by rfl,?_⟩) hHeld ?_ ?_
                                                                rotate_left
                                                                · rintro w' ⟨s0,s1,s2,s3,s4,s5,s6,s7,s8,s9,s10,s11⟩
                                                                  go_simp
                                                                  with_reducible rfl
                                                                rotate_left
                                                                · simp only [Act.put,List.setIfInBounds_toArray,List.set_cons_zero,List.set_cons_succ,i64_w,i32_w]
                                                                  rfl
                                                                refine take_ (i:=10) (N:=some 167) (v:=?_) (a':=?_) #[true,true,true,true,true,true,true,true,true,true,true,false,false,false,false,false,false,false,false,false,false,false,false,false,false,false,false,false,false,false,false,false,false,false,false,false,false,false,false] rfl rfl (take_ofW HT_.out HW_.out (by kernel_rfl)) (fun _ _ _ h=>h) (Or.inl ⟨by rfl,?_⟩) hHeld ?_ ?_
                                                                rotate_left
                                                                · rintro w' ⟨s0,s1,s2,s3,s4,s5,s6,s7,s8,s9,s10,s11⟩
                                                                  go_simp
                                                                  with_reducible rfl
                                                                rotate_left
                                                                · simp only [Act.put,List.setIfInBounds_toArray,List.set_cons_zero,List.set_cons_succ,i64_w,i32_w]
                                                                  rfl
                                                                refine pure_ (i:=11) (N:=some 168) (v:=?_) (a':=?_) #[true,true,true,true,true,true,true,true,true,true,true,true,false,false,false,false,false,false,false,false,false,false,false,false,false,false,false,false,false,false,false,false,false,false,false,false,false,false,false] rfl rfl (any_of HT_.out (by kernel_rfl)) (fun _ _ _ h=>h) (Or.inl ⟨by rfl,?_⟩) ?_ ?_
                                                                rotate_left
                                                                · intro w'
                                                                  go_simp
                                                                  with_reducible rfl
                                                                rotate_left
                                                                · simp only [Act.put,List.setIfInBounds_toArray,List.set_cons_zero,List.set_cons_succ,i64_w,i32_w]
                                                                  rfl
                                                                refine pure_ (i:=12) (N:=some 169) (v:=?_) (a':=?_) #[true,true,true,true,true,true,true,true,true,true,true,true,true,false,false,false,false,false,false,false,false,false,false,false,false,false,false,false,false,false,false,false,false,false,false,false,false,false,false] rfl rfl (any_of HT_.out (by kernel_rfl)) (fun _ _ _ h=>h) (Or.inl ⟨by rfl,?_⟩) ?_ ?_
                                                                rotate_left
                                                                · intro w'
                                                                  go_simp
                                                                  with_reducible rfl
                                                                rotate_left
                                                                · simp only [Act.put,List.setIfInBounds_toArray,List.set_cons_zero,List.set_cons_succ,i64_w,i32_w]
                                                                  rfl
                                                                refine pure_ (i:=13) (N:=some 170) (v:=?_) (a':=?_) #[true,true,true,true,true,true,true,true,true,true,true,true,true,true,false,false,false,false,false,false,false,false,false,false,false,false,false,false,false,false,false,false,false,false,false,false,false,false,false] rfl rfl (any_of HT_.out (by kernel_rfl)) (fun _ _ _ h=>h) (Or.inl ⟨by rfl,?_⟩) ?_ ?_
                                                                rotate_left
                                                                · intro w'
                                                                  go_simp
                                                                  with_reducible rfl
                                                                rotate_left
                                                                · simp only [Act.put,List.setIfInBounds_toArray,List.set_cons_zero,List.set_cons_succ,i64_w,i32_w]
                                                                  rfl
                                                                refine pure_ (i:=14) (N:=some 171) (v:=?_) (a':=?_) #[true,true,true,true,true,true,true,true,true,true,true,true,true,true,true,false,false,false,false,false,false,false,false,false,false,false,false,false,false,false,false,false,false,false,false,false,false,false,false] rfl rfl (any_of HT_.out (by kernel_rfl)) (fun _ _ _ h=>h) (Or.inl ⟨by rfl,?_⟩) ?_ ?_
                                                                rotate_left
                                                                · intro w'
                                                                  go_simp
                                                                  with_reducible rfl
                                                                rotate_left
                                                                · simp only [Act.put,List.setIfInBounds_toArray,List.set_cons_zero,List.set_cons_succ,i64_w,i32_w]
                                                                  rfl
                                                                refine pure_ (i:=15) (N:=some 172) (v:=?_) (a':=?_) #[true,true,true,true,true,true,true,true,true,true,true,true,true,true,true,true,false,false,false,false,false,false,false,false,false,false,false,false,false,false,false,false,false,false,false,false,false,false,false] rfl rfl (any_of HT_.out (by kernel_rfl)) (fun _ _ _ h=>h) (Or.inl ⟨by rfl,?_⟩) ?_ ?_
                                                                rotate_left
                                                                · intro w'
                                                                  go_simp
                                                                  with_reducible rfl
                                                                rotate_left
                                                                · simp only [Act.put,List.setIfInBounds_toArray,List.set_cons_zero,List.set_cons_succ,i64_w,i32_w]
                                                                  rfl
                                                                refine pure_ (i:=16) (N:=some 173) (v:=?_) (a':=?_) #[true,true,true,true,true,true,true,true,true,true,true,true,true,true,true,true,true,false,false,false,false,false,false,false,false,false,false,false,false,false,false,false,false,false,false,false,false,false,false] rfl rfl (any_of HT_.out (by kernel_rfl)) (fun _ _ _ h=>h) (Or.inl ⟨by rfl,?_⟩) ?_ ?_
                                                                rotate_left
                                                                · intro w'
                                                                  go_simp
                                                                  with_reducible rfl
                                                                rotate_left
                                                                · simp only [Act.put,List.setIfInBounds_toArray,List.set_cons_zero,List.set_cons_succ,i64_w,i32_w]
                                                                  rfl
                                                                refine pure_ (i:=18) (N:=some 175) (v:=?_) (a':=?_) #[true,true,true,true,true,true,true,true,true,true,true,true,true,true,true,true,true,false,true,false,false,false,false,false,false,false,false,false,false,false,false,false,false,false,false,false,false,false,false] rfl rfl (any_of HT_.out (by kernel_rfl)) (fun _ _ _ h=>h) (Or.inl ⟨by rfl,?_⟩) ?_ ?_
                                                                rotate_left
                                                                · intro w'
                                                                  go_simp
                                                                  with_reducible rfl
                                                                rotate_left
                                                                · simp only [Act.put,List.setIfInBounds_toArray,List.set_cons_zero,List.set_cons_succ,i64_w,i32_w]
                                                                  rfl
                                                                refine pure_ (i:=19) (N:=some 176) (v:=?_) (a':=?_) #[true,true,true,true,true,true,true,true,true,true,true,true,true,true,true,true,true,false,true,true,false,false,false,false,false,false,false,false,false,false,false,false,false,false,false,false,false,false,false] rfl rfl (any_of HT_.out (by kernel_rfl)) (fun _ _ _ h=>h) (Or.inl ⟨by rfl,?_⟩) ?_ ?_
                                                                rotate_left
                                                                · intro w'
                                                                  go_simp
                                                                  with_reducible rfl
                                                                rotate_left
                                                                · simp only [Act.put,List.setIfInBounds_toArray,List.set_cons_zero,List.set_cons_succ,i64_w,i32_w]
                                                                  rfl
                                                                refine pure_ (i:=20) (N:=some 177) (v:=?_) (a':=?_) #[true,true,true,true,true,true,true,true,true,true,true,true,true,true,true,true,true,false,true,true,true,false,false,false,false,false,false,false,false,false,false,false,false,false,false,false,false,false,false] rfl rfl (any_of HT_.out (by kernel_rfl)) (fun _ _ _ h=>h) (Or.inl ⟨by rfl,?_⟩) ?_ ?_
                                                                rotate_left
                                                                · intro w'
                                                                  go_simp
                                                                  with_reducible rfl
                                                                rotate_left
                                                                · simp only [Act.put,List.setIfInBounds_toArray,List.set_cons_zero,List.set_cons_succ,i64_w,i32_w]
                                                                  rfl
                                                                refine pure_ (i:=21) (N:=some 178) (v:=?_) (a':=?_) #[true,true,true,true,true,true,true,true,true,true,true,true,true,true,true,true,true,false,true,true,true,true,false,false,false,false,false,false,false,false,false,false,false,false,false,false,false,false,false] rfl rfl (any_of HT_.out (by kernel_rfl)) (fun _ _ _ h=>h) (Or.inl ⟨by rfl,?_⟩) ?_ ?_
                                                                rotate_left
                                                                · intro w'
                                                                  go_simp
                                                                  with_reducible rfl
                                                                rotate_left
                                                                · simp only [Act.put,List.setIfInBounds_toArray,List.set_cons_zero,List.set_cons_succ,i64_w,i32_w]
                                                                  rfl
                                                                refine take_ (i:=17) (N:=some 174) (v:=?_) (a':=?_) #[true,true,true,true,true,true,true,true,true,true,true,true,true,true,true,true,true,true,true,true,true,true,false,false,false,false,false,false,false,false,false,false,false,false,false,false,false,false,false] rfl rfl (take_ofW HT_.out HW_.out (by kernel_rfl)) (fun _ _ _ h=>h) (Or.inl ⟨by rfl,?_⟩) hHeld ?_ ?_
                                                                rotate_left
                                                                · rintro w' ⟨s0,s1,s2,s3,s4,s5,s6,s7,s8,s9,s10,s11⟩
                                                                  go_simp
                                                                  with_reducible rfl
                                                                rotate_left
                                                                · simp only [Act.put,List.setIfInBounds_toArray,List.set_cons_zero,List.set_cons_succ,i64_w,i32_w]
                                                                  rfl
                                                                refine take_ (i:=22) (N:=some 179) (v:=?_) (a':=?_) #[true,true,true,true,true,true,true,true,true,true,true,true,true,true,true,true,true,true,true,true,true,true,true,false,false,false,false,false,false,false,false,false,false,false,false,false,false,false,false] rfl rfl (take_ofW HT_.out HW_.out (by kernel_rfl)) (fun _ _ _ h=>h) (Or.inl ⟨by rfl,?_⟩) hHeld ?_ ?_
                                                                rotate_left
                                                                · rintro w' ⟨s0,s1,s2,s3,s4,s5,s6,s7,s8,s9,s10,s11⟩
                                                                  go_simp
                                                                  with_reducible rfl
                                                                rotate_left
                                                                · simp only [Act.put,List.setIfInBounds_toArray,List.set_cons_zero,List.set_cons_succ,i64_w,i32_w]
                                                                  rfl
                                                                refine pure_ (i:=23) (N:=some 180) (v:=?_) (a':=?_) #[true,true,true,true,true,true,true,true,true,true,true,true,true,true,true,true,true,true,true,true,true,true,true,true,false,false,false,false,false,false,false,false,false,false,false,false,false,false,false] rfl rfl (any_of HT_.out (by kernel_rfl)) (fun _ _ _ h=>h) (Or.inl ⟨by rfl,?_⟩) ?_ ?_
                                                                rotate_left
                                                                · intro w'
                                                                  go_simp
                                                                  with_reducible rfl
                                                                rotate_left
                                                                · simp only [Act.put,List.setIfInBounds_toArray,List.set_cons_zero,List.set_cons_succ,i64_w,i32_w]
                                                                  rfl
                                                                refine pure_ (i:=24) (N:=some 181) (v:=?_) (a':=?_) #[true,true,true,true,true,true,true,true,true,true,true,true,true,true,true,true,true,true,true,true,true,true,true,true,true,false,false,false,false,false,false,false,false,false,false,false,false,false,false] rfl rfl (any_of HT_.out (by kernel_rfl)) (fun _ _ _ h=>h) (Or.inl ⟨by rfl,?_⟩) ?_ ?_
                                                                rotate_left
                                                                · intro w'
                                                                  go_simp
                                                                  with_reducible rfl
                                                                rotate_left
                                                                · simp only [Act.put,List.setIfInBounds_toArray,List.set_cons_zero,List.set_cons_succ,i64_w,i32_w]
                                                                  rfl
                                                                refine pure_ (i:=25) (N:=some 182) (v:=?_) (a':=?_) #[true,true,true,true,true,true,true,true,true,true,true,true,true,true,true,true,true,true,true,true,true,true,true,true,true,true,false,false,false,false,false,false,false,false,false,false,false,false,false] rfl rfl (any_of HT_.out (by kernel_rfl)) (fun _ _ _ h=>h) (Or.inl ⟨by rfl,?_⟩) ?_ ?_
                                                                rotate_left
                                                                · intro w'
                                                                  go_simp
                                                                  with_reducible rfl
                                                                rotate_left
                                                                · simp only [Act.put,List.setIfInBounds_toArray,List.set_cons_zero,List.set_cons_succ,i64_w,i32_w]
                                                                  rfl
                                                                refine pure_ (i:=26) (N:=some 183) (v:=?_) (a':=?_) #[true,true,true,true,true,true,true,true,true,true,true,true,true,true,true,true,true,true,true,true,true,true,true,true,true,true,true,false,false,false,false,false,false,false,false,false,false,false,false] rfl rfl (any_of HT_.out (by kernel_rfl)) (fun _ _ _ h=>h) (Or.inl ⟨by rfl,?_⟩) ?_ ?_
                                                                rotate_left
                                                                · intro w'
                                                                  go_simp
                                                                  with_reducible rfl
                                                                rotate_left
                                                                · simp only [Act.put,List.setIfInBounds_toArray,List.set_cons_zero,List.set_cons_succ,i64_w,i32_w]
                                                                  rfl
                                                                refine pure_ (i:=27) (N:=some 184) (v:=?_) (a':=?_) #[true,true,true,true,true,true,true,true,true,true,true,true,true,true,true,true,true,true,true,true,true,true,true,true,true,true,true,true,false,false,false,false,false,false,false,false,false,false,false] rfl rfl (any_of HT_.out (by kernel_rfl)) (fun _ _ _ h=>h) (Or.inl ⟨by rfl,?_⟩) ?_ ?_
                                                                rotate_left
                                                                · intro w'
                                                                  go_simp
                                                                  with_reducible rfl
                                                                rotate_left
                                                                · simp only [Act.put,List.setIfInBounds_toArray,List.set_cons_zero,List.set_cons_succ,i64_w,i32_w]
                                                                  rfl
                                                                refine pure_ (i:=28) (N:=some 185) (v:=?_) (a':=?_) #[true,true,true,true,true,true,true,true,true,true,true,true,true,true,true,true,true,true,true,true,true,true,true,true,true,true,true,true,true,false,false,false,false,false,false,false,false,false,false] rfl rfl (any_of HT_.out (by kernel_rfl)) (fun _ _ _ h=>h) (Or.inl ⟨by rfl,?_⟩) ?_ ?_
                                                                rotate_left
                                                                · intro w'
                                                                  go_simp
                                                                  with_reducible rfl
                                                                rotate_left
                                                                · simp only [Act.put,List.setIfInBounds_toArray,List.set_cons_zero,List.set_cons_succ,i64_w,i32_w]
                                                                  rfl
                                                                refine pure_ (i:=30) (N:=some 187) (v:=?_) (a':=?_) #[true,true,true,true,true,true,true,true,true,true,true,true,true,true,true,true,true,true,true,true,true,true,true,true,true,true,true,true,true,false,true,false,false,false,false,false,false,false,false] rfl rfl (any_of HT_.out (by kernel_rfl)) (fun _ _ _ h=>h) (Or.inl ⟨by rfl,?_⟩) ?_ ?_
                                                                rotate_left
                                                                · intro w'
                                                                  go_simp
                                                                  with_reducible rfl
                                                                rotate_left
                                                                · simp only [Act.put,List.setIfInBounds_toArray,List.set_cons_zero,List.set_cons_succ,i64_w,i32_w]
                                                                  rfl
                                                                refine pure_ (i:=31) (N:=some 188) (v:=?_) (a':=?_) #[true,true,true,true,true,true,true,true,true,true,true,true,true,true,true,true,true,true,true,true,true,true,true,true,true,true,true,true,true,false,true,true,false,false,false,false,false,false,false] rfl rfl (any_of HT_.out (by kernel_rfl)) (fun _ _ _ h=>h) (Or.inl ⟨by rfl,?_⟩) ?_ ?_
                                                                rotate_left
                                                                · intro w'
                                                                  go_simp
                                                                  with_reducible rfl
                                                                rotate_left
                                                                · simp only [Act.put,List.setIfInBounds_toArray,List.set_cons_zero,List.set_cons_succ,i64_w,i32_w]
                                                                  rfl
                                                                refine pure_ (i:=32) (N:=some 189) (v:=?_) (a':=?_) #[true,true,true,true,true,true,true,true,true,true,true,true,true,true,true,true,true,true,true,true,true,true,true,true,true,true,true,true,true,false,true,true,true,false,false,false,false,false,false] rfl rfl (any_of HT_.out (by kernel_rfl)) (fun _ _ _ h=>h) (Or.inl ⟨by rfl,?_⟩) ?_ ?_
                                                                rotate_left
                                                                · intro w'
                                                                  go_simp
                                                                  with_reducible rfl
                                                                rotate_left
                                                                · simp only [Act.put,List.setIfInBounds_toArray,List.set_cons_zero,List.set_cons_succ,i64_w,i32_w]
                                                                  rfl
                                                                refine pure_ (i:=33) (N:=some 190) (v:=?_) (a':=?_) #[true,true,true,true,true,true,true,true,true,true,true,true,true,true,true,true,true,true,true,true,true,true,true,true,true,true,true,true,true,false,true,true,true,true,false,false,false,false,false] rfl rfl (any_of HT_.out (by kernel_rfl)) (fun _ _ _ h=>h) (Or.inl ⟨by rfl,?_⟩) ?_ ?_
                                                                rotate_left
                                                                · intro w'
                                                                  go_simp
                                                                  with_reducible rfl
                                                                rotate_left
                                                                · simp only [Act.put,List.setIfInBounds_toArray,List.set_cons_zero,List.set_cons_succ,i64_w,i32_w]
                                                                  rfl
                                                                refine take_ (i:=29) (N:=some 186) (v:=?_) (a':=?_) #[true,true,true,true,true,true,true,true,true,true,true,true,true,true,true,true,true,true,true,true,true,true,true,true,true,true,true,true,true,true,true,true,true,true,false,false,false,false,false] rfl rfl (take_ofW HT_.out HW_.out (by kernel_rfl)) (fun _ _ _ h=>h) (Or.inl ⟨by rfl,?_⟩) hHeld ?_ ?_
                                                                rotate_left
                                                                · rintro w' ⟨s0,s1,s2,s3,s4,s5,s6,s7,s8,s9,s10,s11⟩
                                                                  go_simp
                                                                  with_reducible rfl
                                                                rotate_left
                                                                · simp only [Act.put,List.setIfInBounds_toArray,List.set_cons_zero,List.set_cons_succ,i64_w,i32_w]
                                                                  rfl
                                                                refine take_ (i:=34) (N:=some 191) (v:=?_) (a':=?_) #[true,true,true,true,true,true,true,true,true,true,true,true,true,true,true,true,true,true,true,true,true,true,true,true,true,true,true,true,true,true,true,true,true,true,true,false,false,false,false] rfl rfl (take_ofW HT_.out HW_.out (by kernel_rfl)) (fun _ _ _ h=>h) (Or.inl ⟨by rfl,?_⟩) hHeld ?_ ?_
                                                                rotate_left
                                                                · rintro w' ⟨s0,s1,s2,s3,s4,s5,s6,s7,s8,s9,s10,s11⟩
                                                                  go_simp
                                                                  with_reducible rfl
                                                                rotate_left
                                                                · simp only [Act.put,List.setIfInBounds_toArray,List.set_cons_zero,List.set_cons_succ,i64_w,i32_w]
                                                                  rfl
                                                                refine pure_ (i:=35) (N:=some 192) (v:=?_) (a':=?_) #[true,true,true,true,true,true,true,true,true,true,true,true,true,true,true,true,true,true,true,true,true,true,true,true,true,true,true,true,true,true,true,true,true,true,true,true,false,false,false] rfl rfl (any_of HT_.out (by kernel_rfl)) (fun _ _ _ h=>h) (Or.inl ⟨by rfl,?_⟩) ?_ ?_
                                                                rotate_left
                                                                · intro w'
                                                                  go_simp
                                                                  with_reducible rfl
                                                                rotate_left
                                                                · simp only [Act.put,List.setIfInBounds_toArray,List.set_cons_zero,List.set_cons_succ,i64_w,i32_w]
                                                                  rfl
                                                                refine pure_ (i:=36) (N:=some 193) (v:=?_) (a':=?_) #[true,true,true,true,true,true,true,true,true,true,true,true,true,true,true,true,true,true,true,true,true,true,true,true,true,true,true,true,true,true,true,true,true,true,true,true,true,false,false] rfl rfl (any_of HT_.out (by kernel_rfl)) (fun _ _ _ h=>h) (Or.inl ⟨by rfl,?_⟩) ?_ ?_
                                                                rotate_left
                                                                · intro w'
                                                                  go_simp
                                                                  with_reducible rfl
                                                                rotate_left
                                                                · simp only [Act.put,List.setIfInBounds_toArray,List.set_cons_zero,List.set_cons_succ,i64_w,i32_w]
                                                                  rfl
                                                                refine pure_ (i:=37) (N:=some 194) (v:=?_) (a':=?_) #[true,true,true,true,true,true,true,true,true,true,true,true,true,true,true,true,true,true,true,true,true,true,true,true,true,true,true,true,true,true,true,true,true,true,true,true,true,true,false] rfl rfl (any_of HT_.out (by kernel_rfl)) (fun _ _ _ h=>h) (Or.inl ⟨by rfl,?_⟩) ?_ ?_
                                                                rotate_left
                                                                · intro w'
                                                                  go_simp
                                                                  with_reducible rfl
                                                                rotate_left
                                                                · simp only [Act.put,List.setIfInBounds_toArray,List.set_cons_zero,List.set_cons_succ,i64_w,i32_w]
                                                                  rfl
                                                                refine pure_ (i:=38) (N:=some 195) (v:=?_) (a':=?_) #[true,true,true,true,true,true,true,true,true,true,true,true,true,true,true,true,true,true,true,true,true,true,true,true,true,true,true,true,true,true,true,true,true,true,true,true,true,true,true] rfl rfl (any_of HT_.out (by kernel_rfl)) (fun _ _ _ h=>h) (Or.inl ⟨by rfl,?_⟩) ?_ ?_
                                                                rotate_left
                                                                · intro w'
                                                                  go_simp
                                                                  with_reducible rfl
                                                                rotate_left
                                                                · simp only [Act.put,List.setIfInBounds_toArray,List.set_cons_zero,List.set_cons_succ,i64_w,i32_w]
                                                                  rfl
                                                                refine done_ (done_of HT_.out (by kernel_rfl)) ?_
                                                                try go_wp2
                                                                go_roundg k7
                                                                case measure=>have:=HJ2.out;have:=HK2.out;have:=HJ34.out;have:=HK4.out;have:=HK5.out;have:=HJ50.out;have:=HK7.out;omega
                                                                case rel=>exact ⟨(wrap64 (x12_7+1)),z8_,H',⟨z24_⟩,⟨z7_⟩,⟨z29_⟩,⟨z14_⟩⟩
                                                          · rw [if_neg c74] at H
                                                            exact absurd H (by simp)
                                                        · rw [if_neg c73] at H
                                                          exact absurd H (by simp)
                                                      · rw [if_neg c72] at H
                                                        have c72b0 : decide (t321<t315)=false:=decide_eq_false c72
                                                        clear c72
                                                        have H':=Aside0.mk H
                                                        clear H
                                                        have p314 : 0≤(x9_4 : Int):=of_decide_eq_true z3_
                                                        have q314 : x9_4<(l0.length : Int):=of_decide_eq_true z3_
                                                        obtain ⟨ad314,A314_0,c314_0,A314_1,c314_1,A314_3,c314_3,e314,hx314_0,hx314_1,hx314_2,hx314_3,hl314_0,hi314_0,hl314_1,hi314_1,hl314_3,hi314_3⟩:=at_T26 HR0.out x9_4 p314 q314
                                                        cases e314
                                                        replace hx314_0:=(HB.out.cell (World.block_lt_of_cell? w _ hx314_0)).trans hx314_0
                                                        replace hx314_1:=(HB.out.cell (World.block_lt_of_cell? w _ hx314_1)).trans hx314_1
                                                        replace hx314_2:=(HB.out.cell (World.block_lt_of_cell? w _ hx314_2)).trans hx314_2
                                                        replace hx314_3:=(HB.out.cell (World.block_lt_of_cell? w _ hx314_3)).trans hx314_3
                                                        have HR314_0:=Aside0.mk hi314_0
                                                        have HC314_0:=Aside0.mk hl314_0
                                                        clear hi314_0 hl314_0
                                                        have HR314_1:=Aside0.mk hi314_1
                                                        have HC314_1:=Aside0.mk hl314_1
                                                        clear hi314_1 hl314_1
                                                        have HR314_3:=Aside0.mk hi314_3
                                                        have HC314_3:=Aside0.mk hl314_3
                                                        clear hi314_3 hl314_3
                                                        replace p314:=eq_true p314
                                                        replace q314:=eq_true q314
                                                        try go_wp2_with (first|((with_reducible refine gate_callee (f:=9) rfl ?_);refine goesL_ (some 146) rfl rfl Try.func9 (by kernel_rfl) rfl #[.agg #[.slice A314_0 ((rd_T26 l0 x9_4).f0).length c314_0,.slice A314_1 ((rd_T26 l0 x9_4).f1).length c314_1,.int .i64 ((rd_T26 l0 x9_4).f2),.slice A314_3 ((rd_T26 l0 x9_4).f3).length c314_3]] rfl z5_ ?_;(with_reducible refine (exams_Range.calls _ _ ((rd_T26 l0 x9_4).f0) _ _ ((rd_T26 l0 x9_4).f1) ((rd_T26 l0 x9_4).f2) _ _ ((rd_T26 l0 x9_4).f3) t315 t316 t317 _ ?side1 ?side2 ?side3 ?side4 ?side5 ?side6 A67.out).mono ?_);(case side1=>repeat (first|exact (Kd.C_below HR314_0.out HB.out)|(with_reducible refine Kd.C_alloc ?_ _)|(with_reducible refine Kd.C_drewN ?_ _)|(with_reducible refine Kd.C_drew ?_)));(case side2=>exact HC314_0.out);(case side3=>repeat (first|exact (Kd.C_below HR314_1.out HB.out)|(with_reducible refine Kd.C_alloc ?_ _)|(with_reducible refine Kd.C_drewN ?_ _)|(with_reducible refine Kd.C_drew ?_)));(case side4=>exact HC314_1.out);(case side5=>repeat (first|exact (Kd.C_below HR314_3.out HB.out)|(with_reducible refine Kd.C_alloc ?_ _)|(with_reducible refine Kd.C_drewN ?_ _)|(with_reducible refine Kd.C_drew ?_)));(case side6=>exact HC314_3.out);rintro e w87 ⟨rfl,hb⟩;refine ⟨_,rfl,?_⟩;have n0_:=Aside0.mk (Kd.R_below z6_ hb);have n1_:=Aside0.mk (Kd.R_below z9_ hb);have n2_:=Aside0.mk (below_step z1_ hb);clear HO_5;clear HO_7;clear HB;have HO_5:=n0_;have HO_7:=n1_;have HB:=n2_;clear n0_ n1_ n2_;(try clear hb);(try clear hb2);(try clear hk);(try clear hi))|((with_reducible refine gate_dst (N:=13) rfl ?_);(try (refine gate_guard (by rfl) ?_;dsimp only));refine box_event ?hg (N:=13) ?hd (cs:=#[.int .i64 0,.int .i64 0]) (t:=28) ?hr ?_;(case hd=>rfl);(case hg=>rfl);(case hr=>first|(go_simp;done)|(go_simp;rfl));intro gb318 hg w88 hbox hb;have n0_:=Aside0.mk (Kd.R_below z6_ hb);have n1_:=Aside0.mk (Kd.R_below (Kd.R_elderB z9_ gb318 (Nat.le_of_eq hg.symm)) hb);have n2_:=Aside0.mk (below_step z1_ hb);have n3_:=Aside0.mk (hbox);have n4_:=Aside0.mk ((z27_ : w.heap.size≤gb318));have n5_:=Aside0.mk ((z27_ : w.heap.size≤gb318));clear HO_5;clear HO_7;clear HB;have HO_5:=n0_;have HO_7:=n1_;have HB:=n2_;have BK318:=n3_;have GW318:=n4_;have GE318:=n5_;clear n0_ n1_ n2_ n3_ n4_ n5_;clear hb hbox hg;have hcz89_0 : w88.cell? ⟨gb318,0,none⟩=some (.int .i64 0):=(blk_cell BK318.out 0).trans rfl;have hcz89_1 : w88.cell? ⟨gb318,1,none⟩=some (.int .i64 0):=(blk_cell BK318.out 1).trans rfl;have hfz89_0:=blk_frozen BK318.out 0;have hfz89_1:=blk_frozen BK318.out 1;have p319 : 0≤(x12_7 : Int):=of_decide_eq_true z3_;have q319 : x12_7<(l0.length : Int):=of_decide_eq_true z3_;obtain ⟨ad319,A319_0,c319_0,A319_1,c319_1,A319_3,c319_3,e319,hx319_0,hx319_1,hx319_2,hx319_3,hl319_0,hi319_0,hl319_1,hi319_1,hl319_3,hi319_3⟩:=at_T26 HR0.out x12_7 p319 q319;obtain rfl : ad314=ad319:=(by injection e319);have hn319_0 : ad314.block≠gb318:=Nat.ne_of_lt (Nat.lt_of_lt_of_le z23_ GW318.out);have hn319_1 : ad314.block≠gb318:=Nat.ne_of_lt (Nat.lt_of_lt_of_le z23_ GW318.out);replace hx319_0:=(HB.out.cell (World.block_lt_of_cell? w _ hx319_0)).trans hx319_0;replace hx319_1:=(HB.out.cell (World.block_lt_of_cell? w _ hx319_1)).trans hx319_1;replace hx319_2:=(HB.out.cell (World.block_lt_of_cell? w _ hx319_2)).trans hx319_2;replace hx319_3:=(HB.out.cell (World.block_lt_of_cell? w _ hx319_3)).trans hx319_3;have HR319_0:=Aside0.mk hi319_0;have HC319_0:=Aside0.mk hl319_0;clear hi319_0 hl319_0;have HR319_1:=Aside0.mk hi319_1;have HC319_1:=Aside0.mk hl319_1;clear hi319_1 hl319_1;have HR319_3:=Aside0.mk hi319_3;have HC319_3:=Aside0.mk hl319_3;clear hi319_3 hl319_3;replace hx319_0:=(cell_far (p:=⟨gb318,0,none⟩) z10_ (.int .i64 t315)).trans hx319_0;replace hx319_1:=(cell_far (p:=⟨gb318,0,none⟩) z10_ (.int .i64 t315)).trans hx319_1;replace hx319_2:=(cell_far (p:=⟨gb318,0,none⟩) z10_ (.int .i64 t315)).trans hx319_2;replace hx319_3:=(cell_far (p:=⟨gb318,0,none⟩) z10_ (.int .i64 t315)).trans hx319_3;replace hx319_0:=(cell_far (p:=⟨gb318,1,none⟩) z11_ (.int .i64 t316)).trans hx319_0;replace hx319_1:=(cell_far (p:=⟨gb318,1,none⟩) z11_ (.int .i64 t316)).trans hx319_1;replace hx319_2:=(cell_far (p:=⟨gb318,1,none⟩) z11_ (.int .i64 t316)).trans hx319_2;replace hx319_3:=(cell_far (p:=⟨gb318,1,none⟩) z11_ (.int .i64 t316)).trans hx319_3;clear hn319_0;clear hn319_1;replace p319:=eq_true p319;replace q319:=eq_true q319)|((with_reducible refine gate_callee (f:=9) rfl ?_);refine goesL_ (some 154) rfl rfl Try.func9 (by kernel_rfl) rfl #[.agg #[.slice A319_0 ((rd_T26 l0 x12_7).f0).length c319_0,.slice A319_1 ((rd_T26 l0 x12_7).f1).length c319_1,.int .i64 ((rd_T26 l0 x12_7).f2),.slice A319_3 ((rd_T26 l0 x12_7).f3).length c319_3]] rfl z5_ ?_;(with_reducible refine (exams_Range.calls _ _ ((rd_T26 l0 x12_7).f0) _ _ ((rd_T26 l0 x12_7).f1) ((rd_T26 l0 x12_7).f2) _ _ ((rd_T26 l0 x12_7).f3) t320 t321 t322 _ ?side1 ?side2 ?side3 ?side4 ?side5 ?side6 A69.out).mono ?_);(case side1=>exact Kd.C_below HR319_0.out z4_);(case side2=>exact HC319_0.out);(case side3=>exact Kd.C_below HR319_1.out z4_);(case side4=>exact HC319_1.out);(case side5=>exact Kd.C_below HR319_3.out z4_);(case side6=>exact HC319_3.out);rintro e w90 ⟨rfl,hb⟩;refine ⟨_,rfl,?_⟩;have n0_:=Aside0.mk (Kd.R_below z20_ hb);have n1_:=Aside0.mk (Kd.R_below z19_ hb);have n2_:=Aside0.mk (blk_below (g:=gb318) (o:=.cells #[.int .i64 t315,.int .i64 t316] 28 (0,0)) z15_ hb);have n3_:=Aside0.mk (below_step z4_ hb);clear HO_5;clear HO_7;clear BK318;clear HB;have HO_5:=n0_;have HO_7:=n1_;have BK318:=n2_;have HB:=n3_;clear n0_ n1_ n2_ n3_;(try clear hb);(try clear hb2);(try clear hk);(try clear hi))|((with_reducible refine gate_dst (N:=15) rfl ?_);(try (refine gate_guard (by rfl) ?_;dsimp only));refine box_event ?hg (N:=15) ?hd (cs:=#[.int .i64 0,.int .i64 0]) (t:=28) ?hr ?_;(case hd=>rfl);(case hg=>rfl);(case hr=>first|(go_simp;done)|(go_simp;rfl));intro gb323 hg w91 hbox hb;have n0_:=Aside0.mk (Kd.R_below z6_ hb);have n1_:=Aside0.mk (Kd.R_below (Kd.R_elderB z9_ gb323 (Nat.le_of_eq hg.symm)) hb);have n2_:=Aside0.mk (blk_below (g:=gb318) (o:=.cells #[.int .i64 t315,.int .i64 t316] 28 (0,0)) z13_ hb);have n3_:=Aside0.mk (below_step z4_ hb);have n4_:=Aside0.mk (hbox);have n5_:=Aside0.mk ((z28_ : w.heap.size≤gb323));have n6_:=Aside0.mk ((z28_ : w.heap.size≤gb323));have n7_:=Aside0.mk ((z30_ : gb318≠gb323));have n8_:=Aside0.mk ((z31_ : gb323≠gb318));clear HO_5;clear HO_7;clear BK318;clear HB;have HO_5:=n0_;have HO_7:=n1_;have BK318:=n2_;have HB:=n3_;have BK323:=n4_;have GW323:=n5_;have GE323:=n6_;have NB318_323:=n7_;have NB323_318:=n8_;clear n0_ n1_ n2_ n3_ n4_ n5_ n6_ n7_ n8_;clear hb hbox hg;have hnb92:=NB323_318.out;have hnc92:=NB318_323.out;have hcz93_0 : w91.cell? ⟨gb323,0,none⟩=some (.int .i64 0):=(blk_cell BK323.out 0).trans rfl;have hcz93_1 : w91.cell? ⟨gb323,1,none⟩=some (.int .i64 0):=(blk_cell BK323.out 1).trans rfl;have hfz93_0:=blk_frozen BK323.out 0;have hfz93_1:=blk_frozen BK323.out 1))
                                                        have n0_ : Aside0 (Kd.R (Kd.int .i64) 3 ((w91.setCell ⟨gb323,0,none⟩ (.int .i64 t320)).setCell ⟨gb323,1,none⟩ (.int .i64 t321)) w.heap.size (fun _=>True) u5 x5_2):=⟨z21_⟩
                                                        have n1_ : Aside0 (Kd.R k28 28 ((w91.setCell ⟨gb323,0,none⟩ (.int .i64 t320)).setCell ⟨gb323,1,none⟩ (.int .i64 t321)) w.heap.size (fun k_=>k_≠gb318∧k_≠gb323) v305 t303):=⟨z18_⟩
                                                        have n2_ : Aside0 (((w91.setCell ⟨gb323,0,none⟩ (.int .i64 t320)).setCell ⟨gb323,1,none⟩ (.int .i64 t321)).heap[gb318]?=some (.cells #[.int .i64 t315,.int .i64 t316] 28 (0,0))):=⟨z17_⟩
                                                        have n3_ : Aside0 (((w91.setCell ⟨gb323,0,none⟩ (.int .i64 t320)).setCell ⟨gb323,1,none⟩ (.int .i64 t321)).heap[gb323]?=some (.cells #[.int .i64 t320,.int .i64 t321] 28 (0,0))):=⟨z16_⟩
                                                        have n4_ : Aside0 (Below w.heap.size w ((w91.setCell ⟨gb323,0,none⟩ (.int .i64 t320)).setCell ⟨gb323,1,none⟩ (.int .i64 t321))):=⟨z14_⟩
                                                        (try clear HO_5)
                                                        (try clear HO_7)
                                                        (try clear BK318)
                                                        (try clear BK323)
                                                        (try clear HB)
                                                        generalize ((w91.setCell ⟨gb323,0,none⟩ (.int .i64 t320)).setCell ⟨gb323,1,none⟩ (.int .i64 t321))=w94 at n0_ n1_ n2_ n3_ n4_ ⊢
                                                        have HO_5:=n0_
                                                        have HO_7:=n1_
                                                        have BK318:=n2_
                                                        have BK323:=n3_
                                                        have HB:=n4_
                                                        clear n0_ n1_ n2_ n3_ n4_
                                                        have n0_:=Aside0.mk (Kd.R_drew HO_5.out)
                                                        have n1_:=Aside0.mk (Kd.R_drew HO_7.out)
                                                        have n2_:=Aside0.mk (blk_drew BK318.out)
                                                        have n3_:=Aside0.mk (blk_drew BK323.out)
                                                        have n4_:=Aside0.mk (below_drew1 HB.out)
                                                        clear HO_5
                                                        clear HO_7
                                                        clear BK318
                                                        clear BK323
                                                        clear HB
                                                        have HO_5:=n0_
                                                        have HO_7:=n1_
                                                        have BK318:=n2_
                                                        have BK323:=n3_
                                                        have HB:=n4_
                                                        clear n0_ n1_ n2_ n3_ n4_
                                                        refine start_ (n:=39) (S:=fun w'=>w'.cell? ⟨gb318,0,none⟩=some (.int .i64 t315)∧w'.cell? ⟨gb318,1,none⟩=some (.int .i64 t316)∧w'.cell? ⟨gb323,0,none⟩=some (.int .i64 t320)∧w'.cell? ⟨gb323,1,none⟩=some (.int .i64 t321)) (ds:=[]) #[false,false,false,false,false,false,false,false,false,false,false,false,false,false,false,false,false,false,false,false,false,false,false,false,false,false,false,false,false,false,false,false,false,false,false,false,false,false,false] (by kernel_rfl) rfl rfl ⟨(blk_cell BK318.out 0).trans rfl,(blk_cell BK318.out 1).trans rfl,(blk_cell BK323.out 0).trans rfl,(blk_cell BK323.out 1).trans rfl⟩ (fun hHeld=>?_);refine with_tabW handshapelaw09_ExamsRanked.tab29 handshapelaw09_ExamsRanked.bits29 (fun HT_ HW_=>?_)
                                                        generalize w94.drew=w95 at HO_5 HO_7 BK318 BK323 HB hHeld ⊢
                                                        refine pure_ (i:=0) (N:=some 157) (v:=?_) (a':=?_) #[true,false,false,false,false,false,false,false,false,false,false,false,false,false,false,false,false,false,false,false,false,false,false,false,false,false,false,false,false,false,false,false,false,false,false,false,false,false,false] rfl rfl (any_of HT_.out (by kernel_rfl)) (fun _ _ _ h=>h) (Or.inl ⟨by rfl,?_⟩) ?_ ?_
                                                        rotate_left
                                                        · intro w'
                                                          go_simp
                                                          with_reducible rfl
                                                        rotate_left
                                                        · simp only [Act.put,List.setIfInBounds_toArray,List.set_cons_zero,List.set_cons_succ,i64_w,i32_w]
                                                          rfl
                                                        refine pure_ (i:=1) (N:=some 158) (v:=?_) (a':=?_) #[true,true,false,false,false,false,false,false,false,false,false,false,false,false,false,false,false,false,false,false,false,false,false,false,false,false,false,false,false,false,false,false,false,false,false,false,false,false,false] rfl rfl (any_of HT_.out (by kernel_rfl)) (fun _ _ _ h=>h) (Or.inl ⟨by rfl,?_⟩) ?_ ?_
                                                        rotate_left
                                                        · intro w'
                                                          go_simp
                                                          with_reducible rfl
                                                        rotate_left
                                                        · simp only [Act.put,List.setIfInBounds_toArray,List.set_cons_zero,List.set_cons_succ,i64_w,i32_w]
                                                          rfl
                                                        refine pure_ (i:=2) (N:=some 159) (v:=?_) (a':=?_) #[true,true,true,false,false,false,false,false,false,false,false,false,false,false,false,false,false,false,false,false,false,false,false,false,false,false,false,false,false,false,false,false,false,false,false,false,false,false,false] rfl rfl (any_of HT_.out (by kernel_rfl)) (fun _ _ _ h=>h) (Or.inl ⟨by rfl,?_⟩) ?_ ?_
                                                        rotate_left
                                                        · intro w'
                                                          go_simp
                                                          with_reducible rfl
                                                        rotate_left
                                                        · simp only [Act.put,List.setIfInBounds_toArray,List.set_cons_zero,List.set_cons_succ,i64_w,i32_w]
                                                          rfl
                                                        refine pure_ (i:=3) (N:=some 160) (v:=?_) (a':=?_) #[true,true,true,true,false,false,false,false,false,false,false,false,false,false,false,false,false,false,false,false,false,false,false,false,false,false,false,false,false,false,false,false,false,false,false,false,false,false,false] rfl rfl (any_of HT_.out (by kernel_rfl)) (fun _ _ _ h=>h) (Or.inl ⟨by rfl,?_⟩) ?_ ?_
                                                        rotate_left
                                                        · intro w'
                                                          go_simp
                                                          with_reducible rfl
                                                        rotate_left
                                                        · simp only [Act.put,List.setIfInBounds_toArray,List.set_cons_zero,List.set_cons_succ,i64_w,i32_w]
                                                          rfl
                                                        refine pure_ (i:=4) (N:=some 161) (v:=?_) (a':=?_) #[true,true,true,true,true,false,false,false,false,false,false,false,false,false,false,false,false,false,false,false,false,false,false,false,false,false,false,false,false,false,false,false,false,false,false,false,false,false,false] rfl rfl (any_of HT_.out (by kernel_rfl)) (fun _ _ _ h=>h) (Or.inl ⟨by rfl,?_⟩) ?_ ?_
                                                        rotate_left
                                                        · intro w'
                                                          go_simp
                                                          with_reducible rfl
                                                        rotate_left
                                                        · simp only [Act.put,List.setIfInBounds_toArray,List.set_cons_zero,List.set_cons_succ,i64_w,i32_w]
                                                          rfl
                                                        refine pure_ (i:=5) (N:=some 162) (v:=?_) (a':=?_) #[true,true,true,true,true,true,false,false,false,false,false,false,false,false,false,false,false,false,false,false,false,false,false,false,false,false,false,false,false,false,false,false,false,false,false,false,false,false,false] rfl rfl (any_of HT_.out (by kernel_rfl)) (fun _ _ _ h=>h) (Or.inl ⟨by rfl,?_⟩) ?_ ?_
                                                        rotate_left
                                                        · intro w'
                                                          go_simp
                                                          with_reducible rfl
                                                        rotate_left
                                                        · simp only [Act.put,List.setIfInBounds_toArray,List.set_cons_zero,List.set_cons_succ,i64_w,i32_w]
                                                          rfl
                                                        refine pure_ (i:=6) (N:=some 163) (v:=?_) (a':=?_) #[true,true,true,true,true,true,true,false,false,false,false,false,false,false,false,false,false,false,false,false,false,false,false,false,false,false,false,false,false,false,false,false,false,false,false,false,false,false,false] rfl rfl (any_of HT_.out (by kernel_rfl)) (fun _ _ _ h=>h) (Or.inl ⟨by rfl,?_⟩) ?_ ?_
                                                        rotate_left
                                                        · intro w'
                                                          go_simp
                                                          with_reducible rfl
                                                        rotate_left
                                                        · simp only [Act.put,List.setIfInBounds_toArray,List.set_cons_zero,List.set_cons_succ,i64_w,i32_w]
                                                          rfl
                                                        refine pure_ (i:=7) (N:=some 164) (v:=?_) (a':=?_) #[true,true,true,true,true,true,true,true,false,false,false,false,false,false,false,false,false,false,false,false,false,false,false,false,false,false,false,false,false,false,false,false,false,false,false,false,false,false,false] rfl rfl (any_of HT_.out (by kernel_rfl)) (fun _ _ _ h=>h) (Or.inl ⟨by rfl,?_⟩) ?_ ?_
                                                        rotate_left
                                                        · intro w'
                                                          go_simp
                                                          with_reducible rfl
                                                        rotate_left
                                                        · simp only [Act.put,List.setIfInBounds_toArray,List.set_cons_zero,List.set_cons_succ,i64_w,i32_w]
                                                          rfl
                                                        refine pure_ (i:=9) (N:=some 166) (v:=?_) (a':=?_) #[true,true,true,true,true,true,true,true,false,true,false,false,false,false,false,false,false,false,false,false,false,false,false,false,false,false,false,false,false,false,false,false,false,false,false,false,false,false,false] rfl rfl (any_of HT_.out (by kernel_rfl)) (fun _ _ _ h=>h) (Or.inl ⟨by rfl,?_⟩) ?_ ?_
                                                        rotate_left
                                                        · intro w'
                                                          go_simp
                                                          with_reducible rfl
                                                        rotate_left
                                                        · simp only [Act.put,List.setIfInBounds_toArray,List.set_cons_zero,List.set_cons_succ,i64_w,i32_w]
                                                          rfl
                                                        refine take_ (i:=8) (N:=some 165) (v:=?_) (a':=?_) #[true,true,true,true,true,true,true,true,true,true,false,false,false,false,false,false,false,false,false,false,false,false,false,false,false,false,false,false,false,false,false,false,false,false,false,false,false,false,false] rfl rfl (take_ofW HT_.out HW_.out (by kernel_rfl)) (fun _ _ _ h=>h) (Or.inl ⟨by rfl,?_⟩) hHeld ?_ ?_
                                                        rotate_left
                                                        · rintro w' ⟨s0,s1,s2,s3⟩
                                                          go_simp
                                                          with_reducible rfl
                                                        rotate_left
                                                        · simp only [Act.put,List.setIfInBounds_toArray,List.set_cons_zero,List.set_cons_succ,i64_w,i32_w]
                                                          rfl
                                                        refine take_ (i:=10) (N:=some 167) (v:=?_) (a':=?_) #[true,true,true,true,true,true,true,true,true,true,true,false,false,false,false,false,false,false,false,false,false,false,false,false,false,false,false,false,false,false,false,false,false,false,false,false,false,false,false] rfl rfl (take_ofW HT_.out HW_.out (by kernel_rfl)) (fun _ _ _ h=>h) (Or.inl ⟨by rfl,?_⟩) hHeld ?_ ?_
                                                        rotate_left
                                                        · rintro w' ⟨s0,s1,s2,s3⟩
                                                          go_simp
                                                          with_reducible rfl
                                                        rotate_left
                                                        · simp only [Act.put,List.setIfInBounds_toArray,List.set_cons_zero,List.set_cons_succ,i64_w,i32_w]
                                                          rfl
                                                        refine pure_ (i:=11) (N:=some 168) (v:=?_) (a':=?_) #[true,true,true,true,true,true,true,true,true,true,true,true,false,false,false,false,false,false,false,false,false,false,false,false,false,false,false,false,false,false,false,false,false,false,false,false,false,false,false] rfl rfl (any_of HT_.out (by kernel_rfl)) (fun _ _ _ h=>h) (Or.inl ⟨by rfl,?_⟩) ?_ ?_
                                                        rotate_left
                                                        · intro w'
                                                          go_simp
                                                          with_reducible rfl
                                                        rotate_left
                                                        · simp only [Act.put,List.setIfInBounds_toArray,List.set_cons_zero,List.set_cons_succ,i64_w,i32_w]
                                                          rfl
                                                        refine pure_ (i:=12) (N:=some 169) (v:=?_) (a':=?_) #[true,true,true,true,true,true,true,true,true,true,true,true,true,false,false,false,false,false,false,false,false,false,false,false,false,false,false,false,false,false,false,false,false,false,false,false,false,false,false] rfl rfl (any_of HT_.out (by kernel_rfl)) (fun _ _ _ h=>h) (Or.inl ⟨by rfl,?_⟩) ?_ ?_
                                                        rotate_left
                                                        · intro w'
                                                          go_simp
                                                          with_reducible rfl
                                                        rotate_left
                                                        · simp only [Act.put,List.setIfInBounds_toArray,List.set_cons_zero,List.set_cons_succ,i64_w,i32_w]
                                                          rfl
                                                        refine pure_ (i:=13) (N:=some 170) (v:=undef) (a':=?_) #[true,true,true,true,true,true,true,true,true,true,true,true,true,true,false,false,false,false,false,false,false,false,false,false,false,false,false,false,false,false,false,false,false,false,false,false,false,false,false] rfl rfl (any_of HT_.out (by kernel_rfl)) (fun _ _ _ h=>h) (Or.inr ⟨by rfl,rfl⟩) ?_ ?_
                                                        rotate_left
                                                        · simp only [Act.put,List.setIfInBounds_toArray,List.set_cons_zero,List.set_cons_succ,i64_w,i32_w]
                                                          rfl
                                                        refine pure_ (i:=14) (N:=some 171) (v:=undef) (a':=?_) #[true,true,true,true,true,true,true,true,true,true,true,true,true,true,true,false,false,false,false,false,false,false,false,false,false,false,false,false,false,false,false,false,false,false,false,false,false,false,false] rfl rfl (any_of HT_.out (by kernel_rfl)) (fun _ _ _ h=>h) (Or.inr ⟨by rfl,rfl⟩) ?_ ?_
                                                        rotate_left
                                                        · simp only [Act.put,List.setIfInBounds_toArray,List.set_cons_zero,List.set_cons_succ,i64_w,i32_w]
                                                          rfl
                                                        refine pure_ (i:=15) (N:=some 172) (v:=undef) (a':=?_) #[true,true,true,true,true,true,true,true,true,true,true,true,true,true,true,true,false,false,false,false,false,false,false,false,false,false,false,false,false,false,false,false,false,false,false,false,false,false,false] rfl rfl (any_of HT_.out (by kernel_rfl)) (fun _ _ _ h=>h) (Or.inr ⟨by rfl,rfl⟩) ?_ ?_
                                                        rotate_left
                                                        · simp only [Act.put,List.setIfInBounds_toArray,List.set_cons_zero,List.set_cons_succ,i64_w,i32_w]
                                                          rfl
                                                        refine pure_ (i:=16) (N:=some 173) (v:=undef) (a':=?_) #[true,true,true,true,true,true,true,true,true,true,true,true,true,true,true,true,true,false,false,false,false,false,false,false,false,false,false,false,false,false,false,false,false,false,false,false,false,false,false] rfl rfl (any_of HT_.out (by kernel_rfl)) (fun _ _ _ h=>h) (Or.inr ⟨by rfl,rfl⟩) ?_ ?_
                                                        rotate_left
                                                        · simp only [Act.put,List.setIfInBounds_toArray,List.set_cons_zero,List.set_cons_succ,i64_w,i32_w]
                                                          rfl
                                                        refine pure_ (i:=17) (N:=some 174) (v:=undef) (a':=?_) #[true,true,true,true,true,true,true,true,true,true,true,true,true,true,true,true,true,true,false,false,false,false,false,false,false,false,false,false,false,false,false,false,false,false,false,false,false,false,false] rfl rfl (any_of HT_.out (by kernel_rfl)) (fun _ _ _ h=>h) (Or.inr ⟨by rfl,rfl⟩) ?_ ?_
                                                        rotate_left
                                                        · simp only [Act.put,List.setIfInBounds_toArray,List.set_cons_zero,List.set_cons_succ,i64_w,i32_w]
                                                          rfl
                                                        refine pure_ (i:=18) (N:=some 175) (v:=undef) (a':=?_) #[true,true,true,true,true,true,true,true,true,true,true,true,true,true,true,true,true,true,true,false,false,false,false,false,false,false,false,false,false,false,false,false,false,false,false,false,false,false,false] rfl rfl (any_of HT_.out (by kernel_rfl)) (fun _ _ _ h=>h) (Or.inr ⟨by rfl,rfl⟩) ?_ ?_
                                                        rotate_left
                                                        · simp only [Act.put,List.setIfInBounds_toArray,List.set_cons_zero,List.set_cons_succ,i64_w,i32_w]
                                                          rfl
                                                        refine pure_ (i:=19) (N:=some 176) (v:=undef) (a':=?_) #[true,true,true,true,true,true,true,true,true,true,true,true,true,true,true,true,true,true,true,true,false,false,false,false,false,false,false,false,false,false,false,false,false,false,false,false,false,false,false] rfl rfl (any_of HT_.out (by kernel_rfl)) (fun _ _ _ h=>h) (Or.inr ⟨by rfl,rfl⟩) ?_ ?_
                                                        rotate_left
                                                        · simp only [Act.put,List.setIfInBounds_toArray,List.set_cons_zero,List.set_cons_succ,i64_w,i32_w]
                                                          rfl
                                                        refine pure_ (i:=20) (N:=some 177) (v:=undef) (a':=?_) #[true,true,true,true,true,true,true,true,true,true,true,true,true,true,true,true,true,true,true,true,true,false,false,false,false,false,false,false,false,false,false,false,false,false,false,false,false,false,false] rfl rfl (any_of HT_.out (by kernel_rfl)) (fun _ _ _ h=>h) (Or.inr ⟨by rfl,rfl⟩) ?_ ?_
                                                        rotate_left
                                                        · simp only [Act.put,List.setIfInBounds_toArray,List.set_cons_zero,List.set_cons_succ,i64_w,i32_w]
                                                          rfl
                                                        refine pure_ (i:=21) (N:=some 178) (v:=undef) (a':=?_) #[true,true,true,true,true,true,true,true,true,true,true,true,true,true,true,true,true,true,true,true,true,true,false,false,false,false,false,false,false,false,false,false,false,false,false,false,false,false,false] rfl rfl (any_of HT_.out (by kernel_rfl)) (fun _ _ _ h=>h) (Or.inr ⟨by rfl,rfl⟩) ?_ ?_
                                                        rotate_left
                                                        · simp only [Act.put,List.setIfInBounds_toArray,List.set_cons_zero,List.set_cons_succ,i64_w,i32_w]
                                                          rfl
                                                        refine pure_ (i:=22) (N:=some 179) (v:=undef) (a':=?_) #[true,true,true,true,true,true,true,true,true,true,true,true,true,true,true,true,true,true,true,true,true,true,true,false,false,false,false,false,false,false,false,false,false,false,false,false,false,false,false] rfl rfl (any_of HT_.out (by kernel_rfl)) (fun _ _ _ h=>h) (Or.inr ⟨by rfl,rfl⟩) ?_ ?_
                                                        rotate_left
                                                        · simp only [Act.put,List.setIfInBounds_toArray,List.set_cons_zero,List.set_cons_succ,i64_w,i32_w]
                                                          rfl
                                                        refine pure_ (i:=23) (N:=some 180) (v:=undef) (a':=?_) #[true,true,true,true,true,true,true,true,true,true,true,true,true,true,true,true,true,true,true,true,true,true,true,true,false,false,false,false,false,false,false,false,false,false,false,false,false,false,false] rfl rfl (any_of HT_.out (by kernel_rfl)) (fun _ _ _ h=>h) (Or.inr ⟨by rfl,rfl⟩) ?_ ?_
                                                        rotate_left
                                                        · simp only [Act.put,List.setIfInBounds_toArray,List.set_cons_zero,List.set_cons_succ,i64_w,i32_w]
                                                          rfl
                                                        refine pure_ (i:=24) (N:=some 181) (v:=undef) (a':=?_) #[true,true,true,true,true,true,true,true,true,true,true,true,true,true,true,true,true,true,true,true,true,true,true,true,true,false,false,false,false,false,false,false,false,false,false,false,false,false,false] rfl rfl (any_of HT_.out (by kernel_rfl)) (fun _ _ _ h=>h) (Or.inr ⟨by rfl,rfl⟩) ?_ ?_
                                                        rotate_left
                                                        · simp only [Act.put,List.setIfInBounds_toArray,List.set_cons_zero,List.set_cons_succ,i64_w,i32_w]
                                                          rfl
                                                        refine pure_ (i:=25) (N:=some 182) (v:=undef) (a':=?_) #[true,true,true,true,true,true,true,true,true,true,true,true,true,true,true,true,true,true,true,true,true,true,true,true,true,true,false,false,false,false,false,false,false,false,false,false,false,false,false] rfl rfl (any_of HT_.out (by kernel_rfl)) (fun _ _ _ h=>h) (Or.inr ⟨by rfl,rfl⟩) ?_ ?_
                                                        rotate_left
                                                        · simp only [Act.put,List.setIfInBounds_toArray,List.set_cons_zero,List.set_cons_succ,i64_w,i32_w]
                                                          rfl
                                                        refine pure_ (i:=26) (N:=some 183) (v:=undef) (a':=?_) #[true,true,true,true,true,true,true,true,true,true,true,true,true,true,true,true,true,true,true,true,true,true,true,true,true,true,true,false,false,false,false,false,false,false,false,false,false,false,false] rfl rfl (any_of HT_.out (by kernel_rfl)) (fun _ _ _ h=>h) (Or.inr ⟨by rfl,rfl⟩) ?_ ?_
                                                        rotate_left
                                                        · simp only [Act.put,List.setIfInBounds_toArray,List.set_cons_zero,List.set_cons_succ,i64_w,i32_w]
                                                          rfl
                                                        refine pure_ (i:=27) (N:=some 184) (v:=undef) (a':=?_) #[true,true,true,true,true,true,true,true,true,true,true,true,true,true,true,true,true,true,true,true,true,true,true,true,true,true,true,true,false,false,false,false,false,false,false,false,false,false,false] rfl rfl (any_of HT_.out (by kernel_rfl)) (fun _ _ _ h=>h) (Or.inr ⟨by rfl,rfl⟩) ?_ ?_
                                                        rotate_left
                                                        · simp only [Act.put,List.setIfInBounds_toArray,List.set_cons_zero,List.set_cons_succ,i64_w,i32_w]
                                                          rfl
                                                        refine pure_ (i:=28) (N:=some 185) (v:=undef) (a':=?_) #[true,true,true,true,true,true,true,true,true,true,true,true,true,true,true,true,true,true,true,true,true,true,true,true,true,true,true,true,true,false,false,false,false,false,false,false,false,false,false] rfl rfl (any_of HT_.out (by kernel_rfl)) (fun _ _ _ h=>h) (Or.inr ⟨by rfl,rfl⟩) ?_ ?_
                                                        rotate_left
                                                        · simp only [Act.put,List.setIfInBounds_toArray,List.set_cons_zero,List.set_cons_succ,i64_w,i32_w]
                                                          rfl
                                                        refine pure_ (i:=29) (N:=some 186) (v:=undef) (a':=?_) #[true,true,true,true,true,true,true,true,true,true,true,true,true,true,true,true,true,true,true,true,true,true,true,true,true,true,true,true,true,true,false,false,false,false,false,false,false,false,false] rfl rfl (any_of HT_.out (by kernel_rfl)) (fun _ _ _ h=>h) (Or.inr ⟨by rfl,rfl⟩) ?_ ?_
                                                        rotate_left
                                                        · simp only [Act.put,List.setIfInBounds_toArray,List.set_cons_zero,List.set_cons_succ,i64_w,i32_w]
                                                          rfl
                                                        refine pure_ (i:=30) (N:=some 187) (v:=undef) (a':=?_) #[true,true,true,true,true,true,true,true,true,true,true,true,true,true,true,true,true,true,true,true,true,true,true,true,true,true,true,true,true,true,true,false,false,false,false,false,false,false,false] rfl rfl (any_of HT_.out (by kernel_rfl)) (fun _ _ _ h=>h) (Or.inr ⟨by rfl,rfl⟩) ?_ ?_
                                                        rotate_left
                                                        · simp only [Act.put,List.setIfInBounds_toArray,List.set_cons_zero,List.set_cons_succ,i64_w,i32_w]
                                                          rfl
                                                        refine pure_ (i:=31) (N:=some 188) (v:=undef) (a':=?_) #[true,true,true,true,true,true,true,true,true,true,true,true,true,true,true,true,true,true,true,true,true,true,true,true,true,true,true,true,true,true,true,true,false,false,false,false,false,false,false] rfl rfl (any_of HT_.out (by kernel_rfl)) (fun _ _ _ h=>h) (Or.inr ⟨by rfl,rfl⟩) ?_ ?_
                                                        rotate_left
                                                        · simp only [Act.put,List.setIfInBounds_toArray,List.set_cons_zero,List.set_cons_succ,i64_w,i32_w]
                                                          rfl
                                                        refine pure_ (i:=32) (N:=some 189) (v:=undef) (a':=?_) #[true,true,true,true,true,true,true,true,true,true,true,true,true,true,true,true,true,true,true,true,true,true,true,true,true,true,true,true,true,true,true,true,true,false,false,false,false,false,false] rfl rfl (any_of HT_.out (by kernel_rfl)) (fun _ _ _ h=>h) (Or.inr ⟨by rfl,rfl⟩) ?_ ?_
                                                        rotate_left
                                                        · simp only [Act.put,List.setIfInBounds_toArray,List.set_cons_zero,List.set_cons_succ,i64_w,i32_w]
                                                          rfl
                                                        refine pure_ (i:=33) (N:=some 190) (v:=undef) (a':=?_) #[true,true,true,true,true,true,true,true,true,true,true,true,true,true,true,true,true,true,true,true,true,true,true,true,true,true,true,true,true,true,true,true,true,true,false,false,false,false,false] rfl rfl (any_of HT_.out (by kernel_rfl)) (fun _ _ _ h=>h) (Or.inr ⟨by rfl,rfl⟩) ?_ ?_
                                                        rotate_left
                                                        · simp only [Act.put,List.setIfInBounds_toArray,List.set_cons_zero,List.set_cons_succ,i64_w,i32_w]
                                                          rfl
                                                        refine pure_ (i:=34) (N:=some 191) (v:=undef) (a':=?_) #[true,true,true,true,true,true,true,true,true,true,true,true,true,true,true,true,true,true,true,true,true,true,true,true,true,true,true,true,true,true,true,true,true,true,true,false,false,false,false] rfl rfl (any_of HT_.out (by kernel_rfl)) (fun _ _ _ h=>h) (Or.inr ⟨by rfl,rfl⟩) ?_ ?_
                                                        rotate_left
                                                        · simp only [Act.put,List.setIfInBounds_toArray,List.set_cons_zero,List.set_cons_succ,i64_w,i32_w]
                                                          rfl
                                                        refine pure_ (i:=35) (N:=some 192) (v:=undef) (a':=?_) #[true,true,true,true,true,true,true,true,true,true,true,true,true,true,true,true,true,true,true,true,true,true,true,true,true,true,true,true,true,true,true,true,true,true,true,true,false,false,false] rfl rfl (any_of HT_.out (by kernel_rfl)) (fun _ _ _ h=>h) (Or.inr ⟨by rfl,rfl⟩) ?_ ?_
                                                        rotate_left
                                                        · simp only [Act.put,List.setIfInBounds_toArray,List.set_cons_zero,List.set_cons_succ,i64_w,i32_w]
                                                          rfl
                                                        refine pure_ (i:=36) (N:=some 193) (v:=undef) (a':=?_) #[true,true,true,true,true,true,true,true,true,true,true,true,true,true,true,true,true,true,true,true,true,true,true,true,true,true,true,true,true,true,true,true,true,true,true,true,true,false,false] rfl rfl (any_of HT_.out (by kernel_rfl)) (fun _ _ _ h=>h) (Or.inr ⟨by rfl,rfl⟩) ?_ ?_
                                                        rotate_left
                                                        · simp only [Act.put,List.setIfInBounds_toArray,List.set_cons_zero,List.set_cons_succ,i64_w,i32_w]
                                                          rfl
                                                        refine pure_ (i:=37) (N:=some 194) (v:=?_) (a':=?_) #[true,true,true,true,true,true,true,true,true,true,true,true,true,true,true,true,true,true,true,true,true,true,true,true,true,true,true,true,true,true,true,true,true,true,true,true,true,true,false] rfl rfl (any_of HT_.out (by kernel_rfl)) (fun _ _ _ h=>h) (Or.inl ⟨by rfl,?_⟩) ?_ ?_
                                                        rotate_left
                                                        · intro w'
                                                          go_simp
                                                          with_reducible rfl
                                                        rotate_left
                                                        · simp only [Act.put,List.setIfInBounds_toArray,List.set_cons_zero,List.set_cons_succ,i64_w,i32_w]
                                                          rfl
                                                        refine pure_ (i:=38) (N:=some 195) (v:=?_) (a':=?_) #[true,true,true,true,true,true,true,true,true,true,true,true,true,true,true,true,true,true,true,true,true,true,true,true,true,true,true,true,true,true,true,true,true,true,true,true,true,true,true] rfl rfl (any_of HT_.out (by kernel_rfl)) (fun _ _ _ h=>h) (Or.inl ⟨by rfl,?_⟩) ?_ ?_
                                                        rotate_left
                                                        · intro w'
                                                          go_simp
                                                          with_reducible rfl
                                                        rotate_left
                                                        · simp only [Act.put,List.setIfInBounds_toArray,List.set_cons_zero,List.set_cons_succ,i64_w,i32_w]
                                                          rfl
                                                        refine done_ (done_of HT_.out (by kernel_rfl)) ?_
                                                        try go_wp2
                                                        go_roundg k7
                                                        case measure=>have:=HJ2.out;have:=HK2.out;have:=HJ34.out;have:=HK4.out;have:=HK5.out;have:=HJ50.out;have:=HK7.out;omega
                                                        case rel=>exact ⟨(wrap64 (x12_7+1)),z8_,H',⟨z24_⟩,⟨z7_⟩,⟨z29_⟩,⟨z14_⟩⟩
                                                    · rw [if_neg c71] at H
                                                      have c71b0 : (t322 == 0)=false:=beq_eq_false_iff_ne.mpr c71
                                                      have c71b1 : (t322 != 0)=true:=bne_iff_ne.mpr c71
                                                      exact absurd H (by simp)
                                                  · rw [if_neg c70] at H
                                                    have c70b0 : (t317 == 0)=false:=beq_eq_false_iff_ne.mpr c70
                                                    have c70b1 : (t317 != 0)=true:=bne_iff_ne.mpr c70
                                                    exact absurd H (by simp)
                                                · rw [if_neg c68] at H
                                                  exact absurd H (by simp)
                                              · rw [if_neg c66] at H
                                                exact absurd H (by simp)
                                            · rw [if_neg c65] at H
                                              exact absurd H (by simp)
                                          · rw [if_neg c64] at H
                                            have c64b0 : decide (x12_7<(l0.length : Int))=false:=decide_eq_false c64
                                            clear c64
                                            have H':=Aside0.mk H
                                            clear H
                                            go_wp2
                                            go_roundg k7
                                            case measure=>have:=HJ2.out;have:=HK2.out;have:=HJ34.out;have:=HK4.out;have:=HK5.out;have:=HJ50.out;have:=HK7.out;omega
                                            case rel=>exact ⟨(wrap64 (x9_4+1)),z8_,H',⟨z24_⟩,⟨z7_⟩,⟨z12_⟩,⟨z2_⟩⟩
                        · rw [if_neg c40] at H
                          have c40b0 : decide (x9_4<(l0.length : Int))=false:=decide_eq_false c40
                          clear c40
                          replace H:=Option.bind_eq_some_iff.mp H
                          obtain ⟨t307,A960,H⟩:=H
                          replace H : (some t307)=some r:=H
                          have A96:=Aside0.mk A960
                          clear A960
                          obtain rfl:=Option.some.inj H
                          go_wp2_with (first|((with_reducible refine gate_callee (f:=8) rfl ?_);refine goesL_ (some 196) rfl rfl Try.func8 (by kernel_rfl) rfl #[] rfl z5_ ?_;(with_reducible refine (handshapelaw09_works.calls k4  t307 _ A96.out).mono ?_);rintro e w97 ⟨rfl,hb⟩;refine ⟨_,rfl,?_⟩;have n0_:=Aside0.mk (Kd.R_below z6_ hb);have n1_:=Aside0.mk (Kd.R_below z9_ hb);have n2_:=Aside0.mk (below_step z1_ hb);clear HO_5;clear HO_7;clear HB;have HO_5:=n0_;have HO_7:=n1_;have HB:=n2_;clear n0_ n1_ n2_;(try clear hb);(try clear hb2);(try clear hk);(try clear hi)))
                          go_ret
                          exact ⟨z26_,z2_⟩

end Go.Proofs.Ytinnjghpmambiaa.Print
