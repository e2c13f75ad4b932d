import Derived.Test.YtinnjghpmambiaaExCheck
namespace Go.Proofs.Ytinnjghpmambiaa.Ext
open Go.RowKit Go.Proofs.YtinnjghpmambiaaW.PrintWords Go.Proofs.YtinnjghpmambiaaW.PrintLast Go.Proofs.YtinnjghpmambiaaW.PrintMore Go.Proofs.Ytinnjghpmambiaa.Print
set_option linter.unusedVariables false
set_option linter.unusedSimpArgs false

theorem bcell {W w1 : World} (hb : Below W.heap.size W w1) : (∀ b o, b < W.heap.size → w1.cell? ⟨b, o, none⟩ = W.cell? ⟨b, o, none⟩) ∧ (∀ b o, b < W.heap.size → w1.frozen? ⟨b, o, none⟩ = W.frozen? ⟨b, o, none⟩) :=
  ⟨fun b o h => hb.cell (p := ⟨b, o, none⟩) h, fun b o h => hb.frozen (p := ⟨b, o, none⟩) h⟩
theorem alloc3_new (w : World) (A B C : Obj) : (((w.alloc A).alloc B).alloc C).heap[w.heap.size + 2]? = some C := by
  have := heap_alloc_new ((w.alloc A).alloc B) C
  simpa using this
theorem boxes3 {w w1 : World} {A B C : Obj} (hb : Below (((w.alloc A).alloc B).alloc C).heap.size (((w.alloc A).alloc B).alloc C) w1) :
    w1.heap[w.heap.size]? = some A ∧ w1.heap[w.heap.size + 1]? = some B ∧ w1.heap[w.heap.size + 2]? = some C ∧ Below w.heap.size w w1 ∧ w.heap.size + 2 < w1.heap.size := by
  have hs : (((w.alloc A).alloc B).alloc C).heap.size = w.heap.size + 3 := by simp
  refine ⟨(hb.block _ (by omega)).trans ?_, (hb.block _ (by omega)).trans ?_, (hb.block _ (by omega)).trans (alloc3_new _ _ _ _), ?_, by have := hb.size; omega⟩
  · rw [Below.heap_alloc _ _ _ (by simp; omega), Below.heap_alloc _ _ _ (by simp)]; exact heap_alloc_new _ _
  · rw [Below.heap_alloc _ _ _ (by simp)]; simpa using heap_alloc_new (w.alloc A) B
  · exact below_then ((((Below.refl _ _).alloc (Nat.le_refl _) _).alloc (by simp) _).alloc (by simp; omega) _) (by omega) hb
theorem cell_of_blk {w : World} {b i : Nat} {cs : Array Value} {t : TypeId} {fr : Nat × Nat} {v : Value} (h : w.heap[b]? = some (.cells cs t fr)) (hv : cs[i]? = some v) : w.cell? ⟨b, i, none⟩ = some v := by simp [World.cell?, h, hv]
theorem C_len {α : Type} {d : Kd α} {w : World} {A : Option Addr} {n : Nat} {l : List α} (h : d.C w A n l) : l.length ≤ 9223372036854775807 := by
  have h1 := h.1; have h2 := h.2.1; omega

def errOf (c : Int) (b : Bool) : Int := if b = true then 0 else c
/-- Whether a paper is valid, as exams.Check has it. -/
def paperOk (items : List S93) (judges : List S30) (wrong : Int) (grades : List Int) : Bool :=
  wiB items.length 1 4 && (items.all (fun x => itemOk x.f0 x.f1) && (!decide ((4 : Int) < judges.length) && (judges.all (fun x => judgeOk items.length x.f0.f0 x.f0.f1 x.f1 x.f2) && (wiB wrong 0 2 && (!decide ((5 : Int) < grades.length) && gradesOk grades)))))

theorem chain7 (b1 b2 b3 b4 b5 b6 b7 : Bool) : (b1 = false) ∨ (b1 = true ∧ b2 = false) ∨ (b1 = true ∧ b2 = true ∧ b3 = false) ∨ (b1 = true ∧ b2 = true ∧ b3 = true ∧ b4 = false) ∨ (b1 = true ∧ b2 = true ∧ b3 = true ∧ b4 = true ∧ b5 = false) ∨ (b1 = true ∧ b2 = true ∧ b3 = true ∧ b4 = true ∧ b5 = true ∧ b6 = false) ∨ (b1 = true ∧ b2 = true ∧ b3 = true ∧ b4 = true ∧ b5 = true ∧ b6 = true ∧ b7 = false) ∨ (b1 = true ∧ b2 = true ∧ b3 = true ∧ b4 = true ∧ b5 = true ∧ b6 = true ∧ b7 = true) := by
  cases b1 <;> cases b2 <;> cases b3 <;> cases b4 <;> cases b5 <;> cases b6 <;> cases b7 <;> simp

set_option maxHeartbeats 2000000 in
theorem ex_Check (A0 : Option Addr) (c0 : Nat) (l0 : List S93) (A1 : Option Addr) (c1 : Nat) (l1 : List S30) (a2 : Int) (A3 : Option Addr) (c3 : Nat) (l3 : List Int) (w : World)
    (hr0 : Kd.C k93 w A0 l0.length l0) (hr1 : Kd.C k30 w A1 l1.length l1) (hr3 : Kd.C (Kd.int .i64) w A3 l3.length l3)
    (hm : ∀ x ∈ l1, x.f2.length ≤ 9223372036854775807) :
    Calls Try.prog 63 #[.agg #[.slice A0 l0.length c0, .slice A1 l1.length c1, .int .i64 a2, .slice A3 l3.length c3]] w
      fun e w' => e = .returned (.int .i64 (errOf 90 (paperOk l0 l1 a2 l3))) ∧ Below w.heap.size w w' := by
  have b0 := C_len hr0
  have b1 := C_len hr1
  have b3 := C_len hr3
  have HI := Aside0.mk (fun W (hw : Below w.heap.size w W) => ex_items A0 c0 l0 w W hr0 b0 hw)
  have HJ := Aside0.mk (fun W (hw : Below w.heap.size w W) => ex_judges A1 c1 l1 w W hr1 b1 hw hm A0 l0.length c0 w.heap.size (w.heap.size + 1) b0)
  have HG := Aside0.mk (fun W (hw : Below w.heap.size w W) => ex_grades A3 c3 l3 w W (w.heap.size + 2) hr3 b3 hw (by omega))
  clear hr0 hr1 hr3 hm
  have HF : Hid (paperOk l0 l1 a2 l3 = (wiB l0.length 1 4 && (l0.all (fun x => itemOk x.f0 x.f1) && (!decide ((4 : Int) < l1.length) && (l1.all (fun x => judgeOk l0.length x.f0.f0 x.f0.f1 x.f1 x.f2) && (wiB a2 0 2 && (!decide ((5 : Int) < l3.length) && gradesOk l3))))))) := rfl
  generalize q2 : (l0.all fun x => itemOk x.f0 x.f1) = p2 at HI HF
  generalize q4 : (l1.all fun x => judgeOk l0.length x.f0.f0 x.f0.f1 x.f1 x.f2) = p4 at HJ HF
  generalize q7 : gradesOk l3 = p7 at HG HF
  generalize q0 : paperOk l0 l1 a2 l3 = p0 at HF ⊢
  clear q2 q4 q7 q0
  generalize q1 : wiB l0.length 1 4 = p1 at HF
  generalize q5 : wiB a2 0 2 = p5 at HF
  generalize q3 : decide ((4 : Int) < l1.length) = p3 at HF
  generalize q6 : decide ((5 : Int) < l3.length) = p6 at HF
  rcases chain7 p1 p2 (!p3) p4 p5 (!p6) p7 with h | ⟨h1, h⟩ | ⟨h1, h2, h⟩ | ⟨h1, h2, h3, h⟩ | ⟨h1, h2, h3, h4, h⟩ | ⟨h1, h2, h3, h4, h5, h⟩ | ⟨h1, h2, h3, h4, h5, h6, h⟩ | ⟨h1, h2, h3, h4, h5, h6, h⟩
  all_goals
    have HF2 := HF
    unfold Hid at HF2
    first | simp only [h1, h2, h3, h4, h5, h6, h, Bool.false_and, Bool.true_and] at HF2 | simp only [h1, h2, h3, h4, h5, h, Bool.false_and, Bool.true_and] at HF2 | simp only [h1, h2, h3, h4, h, Bool.false_and, Bool.true_and] at HF2 | simp only [h1, h2, h3, h, Bool.false_and, Bool.true_and] at HF2 | simp only [h1, h2, h, Bool.false_and, Bool.true_and] at HF2 | simp only [h1, h, Bool.false_and, Bool.true_and] at HF2 | simp only [h, Bool.false_and] at HF2
    clear HF
    subst HF2
    try (simp only [Bool.not_eq_true', Bool.not_eq_false'] at h3; subst h3)
    try (simp only [Bool.not_eq_true', Bool.not_eq_false'] at h6; subst h6)
    try subst h1
    try subst h2
    try subst h4
    try subst h5
    try (simp only [Bool.not_eq_true', Bool.not_eq_false'] at h)
    try subst h
    go_enter Try.func63, Try.ntmps63
    go_wp2_with (first
      | (go_at_call 51; refine (ex_within _ _ _ _).mono ?_; rintro e w' ⟨rfl, rfl⟩)
      | (go_at_call 83; go_must (refine (HI.out _ ((((Below.refl _ _).alloc (Nat.le_refl _) _).alloc (by simp) _).alloc (by simp; omega) _)).mono ?_); rintro e w1 ⟨rfl, hb1⟩; obtain ⟨hc1, hf1⟩ := bcell hb1; have hB1 := Aside0.mk (boxes3 hb1); have hz1 : w.heap.size + 2 < w1.heap.size := hB1.out.2.2.2.2; have hz1a : w.heap.size < w1.heap.size := (by omega); clear hb1)
      | (go_at_call 84; go_must (refine (HJ.out _ hB1.out.2.2.2.1 (cell_of_blk hB1.out.1 rfl) (cell_of_blk hB1.out.2.1 rfl)).mono ?_); rintro e w2 ⟨rfl, hb2⟩; obtain ⟨hc2, hf2⟩ := bcell hb2; have hB2 := Aside0.mk (below_then hB1.out.2.2.2.1 hB1.out.2.2.2.1.size hb2); have hz2a : w.heap.size < w2.heap.size := (by have := hb2.size; omega); have hk2 := Aside0.mk ((hb2.block _ hz1).trans hB1.out.2.2.1); clear hb2)
      | (go_at_call 81; go_must (refine (HG.out _ hB2.out hk2.out).mono ?_); rintro e w3 ⟨rfl, hb3⟩; replace hb3 := Aside0.mk hb3))
    go_ret
  all_goals first
    | exact ⟨rfl, (((Below.refl _ _).alloc (Nat.le_refl _) _).alloc (by simp) _).alloc (by simp; omega) _⟩
    | exact ⟨rfl, hB1.out.2.2.2.1⟩
    | exact ⟨rfl, hB2.out⟩
    | exact ⟨rfl, hb3.out⟩
end Go.Proofs.Ytinnjghpmambiaa.Ext
