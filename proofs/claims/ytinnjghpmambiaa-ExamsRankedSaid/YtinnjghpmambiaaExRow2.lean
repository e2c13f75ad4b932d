/- The row of ExamsRanked: the law holds for all that comes in, and its arguments read as they did. -/
import Derived.Test.YtinnjghpmambiaaRows
import Derived.Test.YtinnjghpmambiaaExP6
import Derived.Test.YtinnjghpmambiaaPrint12c
import Derived.Test.YtinnjghpmambiaaOpen
import Derived.WalkKit
import Derived.ProofKit
import Derived.OpenShut
import Derived.ShutString
import Derived.ChangeOld
import Derived.Below
import Derived.SizedLaws
namespace Go.Proofs.Ytinnjghpmambiaa.examsRanked
open Go.ChangeShapes Go.WideShapes Go.ChangeAt Go.RowKit Go.Proofs.YtinnjghpmambiaaW.PrintWords Go.Proofs.YtinnjghpmambiaaW.PrintMore Go.Proofs.Ytinnjghpmambiaa.Print Go.Proofs.Ytinnjghpmambiaa.Open Go.Proofs.Ytinnjghpmambiaa.Ext
set_option linter.unusedVariables false
theorem own : ownKnob Try.prog.godebug = none := by kernel_rfl
theorem laidOut : laidOutB Try.prog = true := by kernel_rfl
section
variable {H : Type} {enc : TypeId × Value → H} {W : World}
theorem o_int : Opens enc Try.prog W 3 (Kd.int .i64) (fun _ => True) := (Opens.int Try.underlying3).weaken fun _ _ => trivial
theorem o_ints : Opens enc Try.prog W 24 (Kd.slice 3 (Kd.int .i64)) (fun l => l.length ≤ maxLen) := (Opens.slice Try.underlying24 (by kernel_rfl) o_int).weaken fun _ h => h.1
theorem o_item : Opens enc Try.prog W 93 k93 (fun _ => True) :=
  (Opens.iso (Opens.struct Try.underlying93 (OpensF.cons o_int (by kernel_rfl) rfl (OpensF.one o_int (by kernel_rfl) rfl)) (by kernel_rfl)) (fun x : S93 => (x.f0, x.f1)) (fun a => ⟨⟨a.1, a.2⟩, rfl⟩)).weaken fun _ _ => trivial
theorem o_span : Opens enc Try.prog W 28 k28 (fun _ => True) :=
  (Opens.iso (Opens.struct Try.underlying28 (OpensF.cons o_int (by kernel_rfl) rfl (OpensF.one o_int (by kernel_rfl) rfl)) (by kernel_rfl)) (fun x : S28 => (x.f0, x.f1)) (fun a => ⟨⟨a.1, a.2⟩, rfl⟩)).weaken fun _ _ => trivial
theorem o_judge : Opens enc Try.prog W 30 k30 (fun x => x.f2.length ≤ maxLen) :=
  (Opens.iso (Opens.struct Try.underlying30 (OpensF.cons o_span (by kernel_rfl) rfl (OpensF.cons o_int (by kernel_rfl) rfl (OpensF.one o_ints (by kernel_rfl) rfl))) (by kernel_rfl)) (fun x : S30 => (x.f0, x.f1, x.f2)) (fun a => ⟨⟨a.1, a.2.1, a.2.2⟩, rfl⟩)).weaken fun _ h => h.2.2
theorem o_paper : Opens enc Try.prog W 26 k26 (fun x => x.f0.length ≤ maxLen ∧ x.f1.length ≤ maxLen ∧ (∀ j ∈ x.f1, j.f2.length ≤ maxLen) ∧ x.f3.length ≤ maxLen) :=
  (Opens.iso (Opens.struct Try.underlying26 (OpensF.cons (Opens.slice Try.underlying22 (by kernel_rfl) o_item) (by kernel_rfl) rfl (OpensF.cons (Opens.slice Try.underlying23 (by kernel_rfl) o_judge) (by kernel_rfl) rfl (OpensF.cons o_int (by kernel_rfl) rfl (OpensF.one o_ints (by kernel_rfl) rfl)))) (by kernel_rfl)) (fun x : S26 => (x.f0, x.f1, x.f2, x.f3)) (fun a => ⟨⟨a.1, a.2.1, a.2.2.1, a.2.2.2⟩, rfl⟩)).weaken fun _ h => ⟨h.1.1, h.2.1.1, h.2.1.2, h.2.2.2⟩
theorem o_papers : Opens enc Try.prog W 42 (Kd.slice 26 k26) (fun l => l.length ≤ maxLen ∧ ∀ x ∈ l, x.f0.length ≤ maxLen ∧ x.f1.length ≤ maxLen ∧ (∀ j ∈ x.f1, j.f2.length ≤ maxLen) ∧ x.f3.length ≤ maxLen) := Opens.slice Try.underlying42 (by kernel_rfl) o_paper
theorem o_rows : Opens enc Try.prog W 43 (Kd.slice 24 (Kd.slice 3 (Kd.int .i64))) (fun _ => True) := (Opens.slice Try.underlying43 (by kernel_rfl) o_ints).weaken fun _ _ => trivial
end
set_option maxRecDepth 100000 in
theorem lifted (os : Os) (started : os.Started) (H : Type) (enc : TypeId × Value → H) :
    ReturnsInHanded {} Try.checked os 4 .any (Rows.examsRankedSpec.pre6 enc Try.prog Try.f4 Rows.examsRankedRow.domain false) (Rows.examsRankedSpec.post enc Try.prog Try.f4 false true false false) := by
  refine returnsInHanded_of_change_sized (C := Try.checked) own started (by kernel_rfl) Try.func4
    (ChangeSpec.witness6 (enc := enc) (C := Try.checked) false ⟨#[], #[.slice none 0 0, .slice none 0 0], []⟩ 8 (by kernel_rfl) (by kernel_rfl) (by kernel_rfl) (by kernel_rfl)) ?_
  intro W base args ds gs before hval0 hW hcnd hsz0 _
  have hval : ∀ (j : Nat) t v, Try.f4.params[j]? = some t → args[j]? = some v → Value.okWide Try.prog W .any base t v := hval0
  have hW' := hW
  obtain ⟨p, q, hA0, hV, rfl, hfz, hnd⟩ := hW
  have hA : DataW.TrodAll enc Try.prog W 0 (fun _ => true) true Try.f4.params.toList args.toList ds p := hA0
  rw [Try.params4] at hA hval
  obtain ⟨v0, vs0, d0, ds0, p0, q0, hargs, rfl, rfl, h0, r0⟩ := trodAll_cons hA
  obtain ⟨v1, vs1, d1, ds1, p1, q1, rfl, rfl, rfl, h1, r1⟩ := trodAll_cons r0
  obtain ⟨rfl, rfl, rfl⟩ := trodAll_nil r1
  obtain rfl : args = #[v0, v1] := by cases args; simp_all
  obtain ⟨rfl, rfl⟩ := trodVars_none hV
  have k0 := h0
  have lt0 : ∀ x ∈ p0, x.block < W.heap.size := by obtain ⟨m, hm⟩ := k0; exact DataW.trod_lt m _ _ _ hm
  have k1 := h1
  have lt1 : ∀ x ∈ p1, x.block < W.heap.size := by obtain ⟨m, hm⟩ := k1; exact DataW.trod_lt m _ _ _ hm
  obtain ⟨a0_, len0_, cap0_, rfl⟩ := okWide_slice Try.underlying42 (hval 0 42 _ rfl rfl)
  obtain ⟨a1_, len1_, cap1_, rfl⟩ := okWide_slice Try.underlying43 (hval 1 43 _ rfl rfl)
  obtain ⟨l, ⟨A0, c0, hcs0, hl0, hC0⟩, b0, b1⟩ := o_papers.arg h0
  obtain ⟨ts, ⟨A1, c1, hcs1, hl1, hC1⟩, _⟩ := o_rows.arg h1
  obtain ⟨rfl, rfl, rfl⟩ : a0_ = A0 ∧ len0_ = l.length ∧ cap0_ = c0 := by simpa [Value.cells] using hcs0
  obtain ⟨rfl, rfl, rfl⟩ : a1_ = A1 ∧ len1_ = ts.length ∧ cap1_ = c1 := by simpa [Value.cells] using hcs1
  clear hA0 hval0 hsz0
  have hml : maxLen < 9223372036854775808 := by decide
  obtain ⟨k, hk⟩ := (ExamsRanked_ev l ts (fun p hp => by
    obtain ⟨g0, g1, g2, g3⟩ := b1 p hp
    exact ⟨by omega, by omega, fun x hx => by have := g2 x hx; omega, by omega⟩)).rounds
  refine (handshapelaw09_ExamsRanked.calls k a0_ cap0_ l a1_ cap1_ ts true W hC0 hl0 hC1 hl1 hk).mono fun e W' ⟨he, bel⟩ => ?_
  subst he
  exact ⟨_, rfl, _, _, _, [], _, [], hW', trodAll_mk1 (shut_bool Try.underlying4 _), (trodAll_cons_mk (Below.trod laidOut (by kernel_rfl) (of_decide_eq_true (by kernel_rfl)) k0 bel lt0) (trodAll_cons_mk (Below.trod laidOut (by kernel_rfl) (of_decide_eq_true (by kernel_rfl)) k1 bel lt1) trodAll_mk0)), rfl, bel.frame _, fun h => by cases h⟩
theorem over : Rows.examsRankedRow.holds Try.pinned (OpenSpec.ofChange Rows.examsRankedSpec) :=
  OpenClaim.holds_of_wide 4 Try.f4 rfl rfl rfl rfl rfl rfl rfl ⟨rfl, rfl, rfl, rfl, rfl⟩ rfl rfl rfl rfl rfl (by kernel_rfl) Try.func4 (by kernel_rfl)
    (of_decide_eq_true (by kernel_rfl)) (by unfold Func.isWrapper; first | (rw [if_pos (by decide +kernel)]; kernel_rfl) | (rw [if_neg (by decide +kernel)]; exact ⟨rfl, rfl⟩))
    (fun os started H enc _ => lifted os started H enc)
end Go.Proofs.Ytinnjghpmambiaa.examsRanked
namespace Go.Proofs.Ytinnjghpmambiaa
/-- ExamsRanked, as it was said. -/
theorem examsRanked_holds : Rows.ExamsRankedSaid := examsRanked.over
#print axioms examsRanked_holds
end Go.Proofs.Ytinnjghpmambiaa
