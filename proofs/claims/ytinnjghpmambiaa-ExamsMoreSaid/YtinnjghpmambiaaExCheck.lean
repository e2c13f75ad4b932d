import Derived.Test.YtinnjghpmambiaaExClos
namespace Go.Proofs.Ytinnjghpmambiaa.Ext
open Go.RowKit Go.Proofs.YtinnjghpmambiaaW.PrintWords Go.Proofs.YtinnjghpmambiaaW.PrintLast Go.Proofs.YtinnjghpmambiaaW.PrintMore Go.Proofs.Ytinnjghpmambiaa.Print
set_option linter.unusedVariables false
set_option linter.unusedSimpArgs false

/-- within. -/
def wiB (n low high : Int) : Bool := decide (low ≤ n) && decide (n ≤ high)
theorem wiB_iff {n a b : Int} : wiB n a b = true ↔ a ≤ n ∧ n ≤ b := by unfold wiB; simp

theorem ex_within (a b c : Int) (w : World) : Calls Try.prog 51 #[.int .i64 a, .int .i64 b, .int .i64 c] w fun e w' => e = .returned (.bool (wiB a b c)) ∧ w = w' := by
  by_cases h : b ≤ a
  · by_cases h2 : a ≤ c
    · go_enter Try.func51, Try.ntmps51
      go_wp2
      go_ret
      exact ⟨by simp [wiB, h, h2], rfl⟩
    · go_enter Try.func51, Try.ntmps51
      go_wp2
      go_ret
      exact ⟨by simp [wiB, h, h2], rfl⟩
  · go_enter Try.func51, Try.ntmps51
    go_wp2
    go_ret
    exact ⟨by simp [wiB]; omega, rfl⟩

def itemOk (a b : Int) : Bool := wiB a 0 10 && wiB b 0 30
theorem ex_item (a b : Int) (w : World) : Calls Try.prog 78 #[.agg #[.int .i64 a, .int .i64 b]] w fun e w' => e = .returned (.bool (itemOk a b)) ∧ Below w.heap.size w w' := by
  cases h : wiB a 0 10
  · have HF : Hid (itemOk a b = false) := by unfold itemOk; rw [h]; rfl
    go_enter Try.func78, Try.ntmps78
    go_wp2_with (go_at_call 51; refine (ex_within _ _ _ _).mono ?_; rintro e w' ⟨rfl, rfl⟩)
    go_ret
    exact ⟨by rw [HF.out]; rfl, (Below.refl _ _).alloc (Nat.le_refl _) _⟩
  · have HF : Hid (itemOk a b = wiB b 0 30) := by unfold itemOk; rw [h]; rfl
    go_enter Try.func78, Try.ntmps78
    go_wp2_with (go_at_call 51; refine (ex_within _ _ _ _).mono ?_; rintro e w' ⟨rfl, rfl⟩)
    go_ret
    exact ⟨by rw [HF.out]; rfl, (Below.refl _ _).alloc (Nat.le_refl _) _⟩

theorem ex_mark (a : Int) (w : World) : Calls Try.prog 79 #[.int .i64 a] w fun e w' => e = .returned (.bool (wiB a (-1) 50)) ∧ w = w' := by
  go_enter Try.func79, Try.ntmps79
  go_wp2_with (go_at_call 51; refine (ex_within _ _ _ _).mono ?_; rintro e w' ⟨rfl, rfl⟩)
  go_ret
  exact ⟨rfl, rfl⟩

/-- The grades' function, which keeps the last one: the box holds what it was, then what came in. -/
theorem ex_gradefn (a last : Int) (B : Nat) (w : World) (hc : w.cell? ⟨B, 0, none⟩ = some (.int .i64 last)) (hf : w.frozen? ⟨B, 0, none⟩ = false) :
    Calls Try.prog 82 (#[.int .i64 a] ++ #[.pointer (some ⟨B, 0, none⟩)]) w fun e w' => e = .returned (.bool (wiB a (wrap64 (last + 1)) 1200)) ∧ w.setCell ⟨B, 0, none⟩ (.int .i64 a) = w' := by
  go_enter Try.func82, Try.ntmps82
  go_wp2_with (go_at_call 51; refine (ex_within _ _ _ _).mono ?_; rintro e w' ⟨rfl, rfl⟩)
  go_ret
  exact ⟨rfl, rfl⟩

theorem allN_list {α : Type} (l : List α) (z : α) (f : α → Bool) : allN (fun k => f (l.getD k z)) l.length = l.all f := by
  unfold allN
  rw [Bool.eq_iff_iff, List.all_eq_true, List.all_eq_true]
  constructor
  · intro h x hx
    obtain ⟨j, hj, rfl⟩ := List.getElem_of_mem hx
    have := h j (List.mem_range.2 hj)
    simpa [List.getD_eq_getElem?_getD, List.getElem?_eq_getElem hj] using this
  · intro h k hk
    have hk := List.mem_range.1 hk
    rw [List.getD_eq_getElem?_getD, List.getElem?_eq_getElem hk]
    exact h _ (List.getElem_mem hk)

/-- All marks of a judge. -/
theorem ex_marks (A : Option Addr) (c : Nat) (l : List Int) (w : World) (hr : Kd.C (Kd.int .i64) w A l.length l) (hl : l.length ≤ 9223372036854775807) :
    Calls Try.prog 81 #[.slice A l.length c, .func (.func 79) #[] #[]] w fun e w' => e = .returned (.bool (l.all fun n => wiB n (-1) 50)) ∧ Below w.heap.size w w' := by
  have H := every_exams_int A c l.length (fun k => .int .i64 (l.getD k 0)) 79 #[] (fun k => wiB (l.getD k 0) (-1) 50) (fun _ W => Below w.heap.size w W) w (enters_of Try.func79 (by kernel_rfl) rfl) hl
    (fun _ W W' h hb => h.trans (hb.mono h.size)) (Below.refl _ _)
    (fun k hk W hW => by
      obtain ⟨ad, e, hc⟩ := Kd.at_int (Kd.C_below hr hW) (k : Int) (by omega) (by omega)
      exact ⟨ad, e, by simpa [rd] using hc⟩)
    (fun k hk W hW => (ex_mark _ W).mono fun e W' ⟨he, hw⟩ => by subst hw; exact ⟨he, hW, fun _ _ _ => rfl⟩)
  rw [allN_list l 0 (fun n => wiB n (-1) 50)] at H
  exact H.mono fun e w' ⟨he, hs⟩ => ⟨he, by obtain ⟨_, _, h⟩ := hs; exact h⟩

def judgeOk (n : Nat) (a b c : Int) (l : List Int) : Bool := decide (-3 ≤ a) && (decide (a ≤ b) && (decide (b ≤ 3) && (wiB c 0 5 && (decide (l.length = n) && l.all fun n => wiB n (-1) 50))))

theorem chain6 (b1 b2 b3 b4 b5 b6 : Bool) : (b1 = false) ∨ (b1 = true ∧ b2 = false) ∨ (b1 = true ∧ b2 = true ∧ b3 = false) ∨ (b1 = true ∧ b2 = true ∧ b3 = true ∧ b4 = false) ∨ (b1 = true ∧ b2 = true ∧ b3 = true ∧ b4 = true ∧ b5 = false) ∨ (b1 = true ∧ b2 = true ∧ b3 = true ∧ b4 = true ∧ b5 = true) := by
  cases b1 <;> cases b2 <;> cases b3 <;> cases b4 <;> cases b5 <;> simp

set_option maxHeartbeats 1000000 in
theorem ex_judge (a b c : Int) (A : Option Addr) (cap : Nat) (l : List Int) (Bp Bm : Nat) (AI : Option Addr) (n cI : Nat) (w : World)
    (hI : w.cell? ⟨Bp, 0, none⟩ = some (.slice AI n cI)) (hM : w.cell? ⟨Bm, 0, none⟩ = some (.func (.func 79) #[] #[]))
    (hr : Kd.C (Kd.int .i64) w A l.length l) (hl : l.length ≤ 9223372036854775807) (hn : n ≤ 9223372036854775807) :
    Calls Try.prog 80 (#[.agg #[.int .i64 a, .int .i64 b, .int .i64 c, .slice A l.length cap]] ++ #[.pointer (some ⟨Bp, 0, none⟩), .pointer (some ⟨Bm, 0, none⟩)]) w
      fun e w' => e = .returned (.bool (judgeOk n a b c l)) ∧ Below w.heap.size w w' := by
  have hIl := World.block_lt_of_cell? w _ hI
  have hMl := World.block_lt_of_cell? w _ hM
  have HM := Aside0.mk (fun W (hb : Below w.heap.size w W) => ex_marks A cap l W (Kd.C_below hr hb) hl)
  clear hr
  have e5 : decide (l.length = n) = (l.length == n) := rfl
  have e5' : ((l.length : Int) == (n : Int)) = (l.length == n) := by rw [Bool.eq_iff_iff]; simp only [beq_iff_eq]; omega
  have HF : Hid (judgeOk n a b c l = (decide (-3 ≤ a) && (decide (a ≤ b) && (decide (b ≤ 3) && (wiB c 0 5 && ((l.length == n) && l.all fun n => wiB n (-1) 50)))))) := by unfold judgeOk; rw [e5]; rfl
  have E5 : Hid (((l.length : Int) == (n : Int)) = (l.length == n)) := e5'
  clear e5 e5'
  rcases chain6 (decide (-3 ≤ a)) (decide (a ≤ b)) (decide (b ≤ 3)) (wiB c 0 5) (l.length == n) true with h | ⟨h1, h⟩ | ⟨h1, h2, h⟩ | ⟨h1, h2, h3, h⟩ | ⟨h1, h2, h3, h4, h⟩ | ⟨h1, h2, h3, h4, h⟩
  all_goals
    have HF2 := HF
    unfold Hid at HF2
    first | simp only [h1, h2, h3, h4, h, Bool.false_and, Bool.true_and] at HF2 | simp only [h1, h2, h3, h, Bool.false_and, Bool.true_and] at HF2 | simp only [h1, h2, h, Bool.false_and, Bool.true_and] at HF2 | simp only [h1, h, Bool.false_and, Bool.true_and] at HF2 | simp only [h, Bool.false_and] at HF2
    have HF3 := Aside0.mk HF2
    clear HF2 HF
    try have h5 := E5.out.trans h
    clear E5
    go_enter Try.func80, Try.ntmps80
    go_wp2_with (first | (go_at_call 51; refine (ex_within _ _ _ _).mono ?_; rintro e w' ⟨rfl, rfl⟩) | (go_at_call 81; refine (HM.out _ ((Below.refl _ _).alloc (Nat.le_refl _) _)).mono ?_; rintro e w' ⟨rfl, hb'⟩))
    go_ret
  all_goals first
    | exact ⟨by rw [HF3.out]; rfl, (Below.refl _ _).alloc (Nat.le_refl _) _⟩
    | exact ⟨by rw [HF3.out]; rfl, below_then ((Below.refl _ _).alloc (Nat.le_refl _) _) (by simp) hb'⟩

theorem ex_items (A : Option Addr) (c : Nat) (l : List S93) (w W : World) (hr : Kd.C k93 w A l.length l) (hl : l.length ≤ 9223372036854775807) (hw : Below w.heap.size w W) :
    Calls Try.prog 83 #[.slice A l.length c, .func (.func 78) #[] #[]] W fun e w' => e = .returned (.bool (l.all fun x => itemOk x.f0 x.f1)) ∧ Below W.heap.size W w' := by
  have H := every_exams_item A c l.length (fun k => .int .i64 (l.getD k z93).f0) (fun k => .int .i64 (l.getD k z93).f1) 78 #[] (fun k => itemOk (l.getD k z93).f0 (l.getD k z93).f1) (fun _ V => Below W.heap.size W V) W (enters_of Try.func78 (by kernel_rfl) rfl) hl
    (fun _ V V' h hb => h.trans (hb.mono h.size)) (Below.refl _ _)
    (fun k hk V hV => by
      obtain ⟨ad, e, h0, h1⟩ := at_T93 (Kd.C_below (Kd.C_below hr hw) hV) (k : Int) (by omega) (by omega)
      exact ⟨ad, e, by simpa [rd_T93] using h0, by simpa [rd_T93] using h1⟩)
    (fun k hk V hV => (ex_item _ _ V).mono fun e V' ⟨he, hb⟩ => ⟨he, hV.trans (hb.mono hV.size), fun b _ h => hb.block b h⟩)
  rw [allN_list l z93 (fun x => itemOk x.f0 x.f1)] at H
  exact H.mono fun e w' ⟨he, hs⟩ => ⟨he, by obtain ⟨_, _, h⟩ := hs; exact h⟩

theorem ex_judges (A : Option Addr) (c : Nat) (l : List S30) (w W : World) (hr : Kd.C k30 w A l.length l) (hl : l.length ≤ 9223372036854775807) (hw : Below w.heap.size w W)
    (hm : ∀ x ∈ l, x.f2.length ≤ 9223372036854775807) (AI : Option Addr) (n cI Bp Bm : Nat) (hn : n ≤ 9223372036854775807)
    (hI : W.cell? ⟨Bp, 0, none⟩ = some (.slice AI n cI)) (hM : W.cell? ⟨Bm, 0, none⟩ = some (.func (.func 79) #[] #[])) :
    Calls Try.prog 84 #[.slice A l.length c, .func (.func 80) #[] #[.pointer (some ⟨Bp, 0, none⟩), .pointer (some ⟨Bm, 0, none⟩)]] W
      fun e w' => e = .returned (.bool (l.all fun x => judgeOk n x.f0.f0 x.f0.f1 x.f1 x.f2)) ∧ Below W.heap.size W w' := by
  have hz : ∀ k, k < l.length → ∃ A3 c3, (∀ V, Below W.heap.size W V → ∃ ad, A = some ad ∧ V.cell? (ad.add (k * 4)) = some (.int .i64 (l.getD k z30).f0.f0) ∧ V.cell? ⟨(ad.add (k * 4)).block, (ad.add (k * 4)).off + 1, none⟩ = some (.int .i64 (l.getD k z30).f0.f1) ∧ V.cell? ⟨(ad.add (k * 4)).block, (ad.add (k * 4)).off + 2, none⟩ = some (.int .i64 (l.getD k z30).f1) ∧ V.cell? ⟨(ad.add (k * 4)).block, (ad.add (k * 4)).off + 3, none⟩ = some (.slice A3 (l.getD k z30).f2.length c3)) ∧ (Kd.int .i64).C W A3 (l.getD k z30).f2.length (l.getD k z30).f2 := by
    intro k hk
    obtain ⟨ad, A3, c3, e, h0, h1, h2, h3, _, hC⟩ := at_T30 (Kd.C_below hr hw) (k : Int) (by omega) (by omega)
    simp only [rd_T30, Int.toNat_natCast] at h0 h1 h2 h3 hC
    exact ⟨A3, c3, fun V hV => ⟨ad, e, pw_cell_below hV h0, pw_cell_below hV h1, pw_cell_below hV h2, pw_cell_below hV h3⟩, hC⟩
  have hz2 : ∃ f : Nat → Option Addr × Nat, ∀ k, k < l.length → (∀ V, Below W.heap.size W V → ∃ ad, A = some ad ∧ V.cell? (ad.add (k * 4)) = some (.int .i64 (l.getD k z30).f0.f0) ∧ V.cell? ⟨(ad.add (k * 4)).block, (ad.add (k * 4)).off + 1, none⟩ = some (.int .i64 (l.getD k z30).f0.f1) ∧ V.cell? ⟨(ad.add (k * 4)).block, (ad.add (k * 4)).off + 2, none⟩ = some (.int .i64 (l.getD k z30).f1) ∧ V.cell? ⟨(ad.add (k * 4)).block, (ad.add (k * 4)).off + 3, none⟩ = some (.slice (f k).1 (l.getD k z30).f2.length (f k).2)) ∧ (Kd.int .i64).C W (f k).1 (l.getD k z30).f2.length (l.getD k z30).f2 :=
    ⟨fun k => if h : k < l.length then ((hz k h).choose, (hz k h).choose_spec.choose) else (none, 0), fun k hk => by simp only [dif_pos hk]; exact (hz k hk).choose_spec.choose_spec⟩
  clear hz
  obtain ⟨f, hz⟩ := hz2
  have H := every_exams_judge A c l.length (fun k => .int .i64 (l.getD k z30).f0.f0) (fun k => .int .i64 (l.getD k z30).f0.f1) (fun k => .int .i64 (l.getD k z30).f1) (fun k => .slice (f k).1 (l.getD k z30).f2.length (f k).2)
    80 #[.pointer (some ⟨Bp, 0, none⟩), .pointer (some ⟨Bm, 0, none⟩)] (fun k => judgeOk n (l.getD k z30).f0.f0 (l.getD k z30).f0.f1 (l.getD k z30).f1 (l.getD k z30).f2) (fun _ V => Below W.heap.size W V) W (enters_of Try.func80 (by kernel_rfl) rfl) hl
    (fun _ V V' h hb => h.trans (hb.mono h.size)) (Below.refl _ _)
    (fun k hk V hV => (hz k hk).1 V hV)
    (fun k hk V hV => (ex_judge _ _ _ (f k).1 (f k).2 _ Bp Bm AI n cI V (pw_cell_below hV hI) (pw_cell_below hV hM) (Kd.C_below (hz k hk).2 hV) (hm _ (by rw [List.getD_eq_getElem?_getD, List.getElem?_eq_getElem hk]; exact List.getElem_mem hk)) hn).mono fun e V' ⟨he, hb⟩ => ⟨he, hV.trans (hb.mono hV.size), fun b _ h => hb.block b h⟩)
  rw [allN_list l z30 (fun x => judgeOk n x.f0.f0 x.f0.f1 x.f1 x.f2)] at H
  exact H.mono fun e w' ⟨he, hs⟩ => ⟨he, by obtain ⟨_, _, h⟩ := hs; exact h⟩

def gradesOk (l : List Int) : Bool := allN (fun k => wiB (l.getD k 0) (wrap64 ((if k = 0 then -1 else l.getD (k - 1) 0) + 1)) 1200) l.length
theorem ex_grades (A : Option Addr) (c : Nat) (l : List Int) (w W : World) (B : Nat) (hr : Kd.C (Kd.int .i64) w A l.length l) (hl : l.length ≤ 9223372036854775807) (hw : Below w.heap.size w W) (hB : w.heap.size ≤ B)
    (hc : W.heap[B]? = some (.cells #[.int .i64 (-1)] 3 (0, 0))) :
    Calls Try.prog 81 #[.slice A l.length c, .func (.func 82) #[] #[.pointer (some ⟨B, 0, none⟩)]] W fun e w' => e = .returned (.bool (gradesOk l)) ∧ Below w.heap.size w w' := by
  have H := every_exams_int A c l.length (fun k => .int .i64 (l.getD k 0)) 82 #[.pointer (some ⟨B, 0, none⟩)] (fun k => wiB (l.getD k 0) (wrap64 ((if k = 0 then -1 else l.getD (k - 1) 0) + 1)) 1200)
    (fun k V => Below w.heap.size w V ∧ V.heap[B]? = some (.cells #[.int .i64 (if k = 0 then -1 else l.getD (k - 1) 0)] 3 (0, 0)) ∧ B < W.heap.size) W (enters_of Try.func82 (by kernel_rfl) rfl) hl
    (fun _ V V' h hb => ⟨h.1.trans (hb.mono h.1.size), (hb.block B (lt_of_block h.2.1)).trans h.2.1, h.2.2⟩) ⟨hw, hc, lt_of_block hc⟩
    (fun k hk V hV => by
      obtain ⟨ad, e, h0⟩ := Kd.at_int (Kd.C_below hr hV.1) (k : Int) (by omega) (by omega)
      exact ⟨ad, e, by simpa [rd] using h0⟩)
    (fun k hk V hV => (ex_gradefn _ _ B V (cell_of_one hV.2.1) (free_of_one hV.2.1)).mono fun e V' ⟨he, hw'⟩ => by
      subst hw'
      refine ⟨he, ⟨hV.1.setCell hB _, ?_, hV.2.2⟩, fun b hb _ => Below.heap_setCell _ _ _ _ (fun e => by have := hV.2.2; simp only at e; omega)⟩
      simpa using one_setCell hV.2.1)
  exact H.mono fun e w' ⟨he, hs⟩ => ⟨he, by obtain ⟨_, _, h⟩ := hs; exact h.1⟩
end Go.Proofs.Ytinnjghpmambiaa.Ext
