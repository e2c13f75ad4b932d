/- The row of ExamsMore: the law holds for all that comes in, and its arguments read as they did. -/
import Derived.Test.YtinnjghpmambiaaRows
import Derived.Test.YtinnjghpmambiaaExP4
import Derived.Test.YtinnjghpmambiaaPrint7c
import Derived.Test.YtinnjghpmambiaaOpen
import Derived.WalkKit
import Derived.ProofKit
import Derived.OpenShut
import Derived.ShutString
import Derived.ChangeOld
import Derived.Below
import Derived.SizedLaws
namespace Go.Proofs.Ytinnjghpmambiaa.examsMore
open Go.ChangeShapes Go.WideShapes Go.ChangeAt Go.RowKit Go.Proofs.YtinnjghpmambiaaW.PrintWords Go.Proofs.YtinnjghpmambiaaW.PrintMore Go.Proofs.Ytinnjghpmambiaa.Print Go.Proofs.Ytinnjghpmambiaa.Open Go.Proofs.Ytinnjghpmambiaa.Ext
set_option linter.unusedVariables false
theorem own : ownKnob Try.prog.godebug = none := by kernel_rfl
theorem laidOut : laidOutB Try.prog = true := by kernel_rfl
section
variable {H : Type} {enc : TypeId × Value → H} {W : World}
theorem o_int : Opens enc Try.prog W 3 (Kd.int .i64) (fun _ => True) := (Opens.int Try.underlying3).weaken fun _ _ => trivial
theorem o_ints : Opens enc Try.prog W 24 (Kd.slice 3 (Kd.int .i64)) (fun l => l.length ≤ maxLen) := (Opens.slice Try.underlying24 (by kernel_rfl) o_int).weaken fun _ h => h.1
theorem o_item : Opens enc Try.prog W 93 k93 (fun _ => True) :=
  (Opens.iso (Opens.struct Try.underlying93 (OpensF.cons o_int (by kernel_rfl) rfl (OpensF.one o_int (by kernel_rfl) rfl)) (by kernel_rfl)) (fun x : S93 => (x.f0, x.f1)) (fun a => ⟨⟨a.1, a.2⟩, rfl⟩)).weaken fun _ _ => trivial
theorem o_span : Opens enc Try.prog W 28 k28 (fun _ => True) :=
  (Opens.iso (Opens.struct Try.underlying28 (OpensF.cons o_int (by kernel_rfl) rfl (OpensF.one o_int (by kernel_rfl) rfl)) (by kernel_rfl)) (fun x : S28 => (x.f0, x.f1)) (fun a => ⟨⟨a.1, a.2⟩, rfl⟩)).weaken fun _ _ => trivial
theorem o_judge : Opens enc Try.prog W 30 k30 (fun x => x.f2.length ≤ maxLen) :=
  (Opens.iso (Opens.struct Try.underlying30 (OpensF.cons o_span (by kernel_rfl) rfl (OpensF.cons o_int (by kernel_rfl) rfl (OpensF.one o_ints (by kernel_rfl) rfl))) (by kernel_rfl)) (fun x : S30 => (x.f0, x.f1, x.f2)) (fun a => ⟨⟨a.1, a.2.1, a.2.2⟩, rfl⟩)).weaken fun _ h => h.2.2
theorem o_paper : Opens enc Try.prog W 26 k26 (fun x => x.f0.length ≤ maxLen ∧ x.f1.length ≤ maxLen ∧ (∀ j ∈ x.f1, j.f2.length ≤ maxLen) ∧ x.f3.length ≤ maxLen) :=
  (Opens.iso (Opens.struct Try.underlying26 (OpensF.cons (Opens.slice Try.underlying22 (by kernel_rfl) o_item) (by kernel_rfl) rfl (OpensF.cons (Opens.slice Try.underlying23 (by kernel_rfl) o_judge) (by kernel_rfl) rfl (OpensF.cons o_int (by kernel_rfl) rfl (OpensF.one o_ints (by kernel_rfl) rfl)))) (by kernel_rfl)) (fun x : S26 => (x.f0, x.f1, x.f2, x.f3)) (fun a => ⟨⟨a.1, a.2.1, a.2.2.1, a.2.2.2⟩, rfl⟩)).weaken fun _ h => ⟨h.1.1, h.2.1.1, h.2.1.2, h.2.2.2⟩
theorem o_ease : Opens enc Try.prog W 32 (Kd.pair k30 (Kd.pair (Kd.int .i64) (Kd.pair (Kd.int .i64) (Kd.pair (Kd.int .i64) (Kd.int .i64))))) (fun _ => True) :=
  (Opens.struct Try.underlying32 (OpensF.cons o_judge (by kernel_rfl) rfl (OpensF.cons o_int (by kernel_rfl) rfl (OpensF.cons o_int (by kernel_rfl) rfl (OpensF.cons o_int (by kernel_rfl) rfl (OpensF.one o_int (by kernel_rfl) rfl))))) (by kernel_rfl)).weaken fun _ _ => trivial
end
set_option maxRecDepth 100000 in
theorem lifted (os : Os) (started : os.Started) (H : Type) (enc : TypeId × Value → H) :
    ReturnsInHanded {} Try.checked os 3 .any (Rows.examsMoreSpec.pre6 enc Try.prog Try.f3 Rows.examsMoreRow.domain false) (Rows.examsMoreSpec.post enc Try.prog Try.f3 false true false false) := by
  refine returnsInHanded_of_change_sized (C := Try.checked) own started (by kernel_rfl) Try.func3
    (ChangeSpec.witness6 (enc := enc) (C := Try.checked) false ⟨#[], #[.agg #[.slice none 0 0, .slice none 0 0, .int .i64 0, .slice none 0 0], .agg #[.int .i64 0, .int .i64 0, .int .i64 0, .slice none 0 0, .int .i64 0, .int .i64 0, .int .i64 0, .int .i64 0]], []⟩ 8 (by kernel_rfl) (by kernel_rfl) (by kernel_rfl) (by kernel_rfl)) ?_
  intro W base args ds gs before hval0 hW hcnd hsz0 _
  have hval : ∀ (j : Nat) t v, Try.f3.params[j]? = some t → args[j]? = some v → Value.okWide Try.prog W .any base t v := hval0
  have hW' := hW
  obtain ⟨p, q, hA0, hV, rfl, hfz, hnd⟩ := hW
  have hA : DataW.TrodAll enc Try.prog W 0 (fun _ => true) true Try.f3.params.toList args.toList ds p := hA0
  rw [Try.params3] at hA hval
  obtain ⟨v0, vs0, d0, ds0, p0, q0, hargs, rfl, rfl, h0, r0⟩ := trodAll_cons hA
  obtain ⟨v1, vs1, d1, ds1, p1, q1, rfl, rfl, rfl, h1, r1⟩ := trodAll_cons r0
  obtain ⟨rfl, rfl, rfl⟩ := trodAll_nil r1
  obtain rfl : args = #[v0, v1] := by cases args; simp_all
  obtain ⟨rfl, rfl⟩ := trodVars_none hV
  have k0 := h0
  have lt0 : ∀ x ∈ p0, x.block < W.heap.size := by obtain ⟨m, hm⟩ := k0; exact DataW.trod_lt m _ _ _ hm
  have k1 := h1
  have lt1 : ∀ x ∈ p1, x.block < W.heap.size := by obtain ⟨m, hm⟩ := k1; exact DataW.trod_lt m _ _ _ hm
  obtain ⟨x, hK, b0, b1, b2, b3⟩ := o_paper.arg h0
  obtain ⟨A0, c0, A1, c1, A3, c3, hcs, l0, g0, l1, g1, l3, g3⟩ := k26_open hK
  obtain rfl := agg_of Try.underlying26 (hval 0 26 v0 rfl rfl) hcs
  obtain ⟨⟨j, n1, n2, n3, n4⟩, ⟨cj, cr, hcs1, hj, cr1, cr2, rfl, e1, cr3, cr4, rfl, e2, cr5, cr6, rfl, e3, e4⟩, _⟩ := o_ease.arg h1
  obtain ⟨Am, cm, rfl, lm, gm⟩ := k30_open hj
  obtain rfl : cr1 = [.int .i64 n1] := e1
  obtain rfl : cr3 = [.int .i64 n2] := e2
  obtain rfl : cr5 = [.int .i64 n3] := e3
  obtain rfl : cr6 = [.int .i64 n4] := e4
  obtain rfl := agg_of Try.underlying32 (hval 1 32 v1 rfl rfl) hcs1
  clear hA0 hval0 hsz0
  have hml : maxLen < 9223372036854775808 := by decide
  obtain ⟨k, hk⟩ := (ExamsMore_ev x.f0 x.f1 x.f2 x.f3 j.f0.f0 j.f0.f1 j.f1 j.f2 n1 n2 n3 n4 (by omega) (by omega) (fun z hz => by have := b2 z hz; omega) (by omega)).rounds
  refine (handshapelaw09_ExamsMore.calls k A0 c0 x.f0 A1 c1 x.f1 x.f2 A3 c3 x.f3 j.f0.f0 j.f0.f1 j.f1 (fun _ => True) Am cm j.f2 n1 n2 n3 n4 true W g0 l0 g1 l1 g3 l3 (V_of_C gm lm) hk).mono fun e W' ⟨he, bel⟩ => ?_
  subst he
  exact ⟨_, rfl, _, _, _, [], _, [], hW', trodAll_mk1 (shut_bool Try.underlying4 _), (trodAll_cons_mk (Below.trod laidOut (by kernel_rfl) (of_decide_eq_true (by kernel_rfl)) k0 bel lt0) (trodAll_cons_mk (Below.trod laidOut (by kernel_rfl) (of_decide_eq_true (by kernel_rfl)) k1 bel lt1) trodAll_mk0)), rfl, bel.frame _, fun h => by cases h⟩
theorem over : Rows.examsMoreRow.holds Try.pinned (OpenSpec.ofChange Rows.examsMoreSpec) :=
  OpenClaim.holds_of_wide 3 Try.f3 rfl rfl rfl rfl rfl rfl rfl ⟨rfl, rfl, rfl, rfl, rfl⟩ rfl rfl rfl rfl rfl (by kernel_rfl) Try.func3 (by kernel_rfl)
    (of_decide_eq_true (by kernel_rfl)) (by unfold Func.isWrapper; first | (rw [if_pos (by decide +kernel)]; kernel_rfl) | (rw [if_neg (by decide +kernel)]; exact ⟨rfl, rfl⟩))
    (fun os started H enc _ => lifted os started H enc)
end Go.Proofs.Ytinnjghpmambiaa.examsMore
namespace Go.Proofs.Ytinnjghpmambiaa
/-- ExamsMore, as it was said. -/
theorem examsMore_holds : Rows.ExamsMoreSaid := examsMore.over
#print axioms examsMore_holds
end Go.Proofs.Ytinnjghpmambiaa
