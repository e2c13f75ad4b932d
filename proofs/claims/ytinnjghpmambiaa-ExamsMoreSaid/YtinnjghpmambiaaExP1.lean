import Derived.Test.YtinnjghpmambiaaExC
namespace Go.Proofs.Ytinnjghpmambiaa.Ext
open Go.RowKit Go.Proofs.YtinnjghpmambiaaW.PrintWords Go.Proofs.Ytinnjghpmambiaa.Print

/-! The survey, read as a fold over all truths: which results are possible, and that they are fewer in a stricter paper. -/
def lv (items : List S93) (judges : List S30) : Nat → Int → List S28 → List (Int × List S28)
  | 0, r, bs => [(r, bs)]
  | d + 1, r, bs => (List.range ((items.getD (items.length - (d + 1)) z93).f1.toNat + 1)).flatMap fun (n : Nat) => lv items judges d (r + n * (items.getD (items.length - (d + 1)) z93).f0) (cutAll judges (items.length - (d + 1)) n bs)
def acc (wr : Int) (a : Int × Int × Bool) (p : Int × List S28) : Int × Int × Bool := if wr < (wrongOf p.2 : Int) then a else (min a.1 p.1, max a.2.1 p.1, true)
def proj (S : Sv) : Int × Int × Bool := (S.rlo, S.rhi, S.poss)
theorem proj_endP (n : Nat) (wr : Int) (S : Sv) (t : Nat → Int) (r : Int) (bs : List S28) : proj (endP n wr S t r bs) = acc wr (proj S) (r, bs) := by
  unfold endP acc proj
  split <;> rfl
theorem foldl_flat {α β γ : Type} (f : α → List β) (g : γ → β → γ) : ∀ (L : List α) (a : γ), (L.flatMap f).foldl g a = L.foldl (fun a x => (f x).foldl g a) a
  | [], _ => rfl
  | x :: L, a => by rw [List.flatMap_cons, List.foldl_append, foldl_flat f g L, List.foldl_cons]
theorem proj_visit (items : List S93) (judges : List S30) (wr : Int) : ∀ (d : Nat) (S : Sv) (t : Nat → Int) (r : Int) (bs : List S28), proj (visitP items judges wr d S t r bs) = (lv items judges d r bs).foldl (acc wr) (proj S)
  | 0, S, t, r, bs => by rw [visitP, lv, proj_endP]; rfl
  | d + 1, S, t, r, bs => by
    rw [visitP, lv, foldl_flat]
    generalize List.range _ = L
    induction L generalizing S with
    | nil => rfl
    | cons n L ih => rw [List.foldl_cons, List.foldl_cons, ih, proj_visit items judges wr d]
def Le3 (a b : Int × Int × Bool) : Prop := b.1 ≤ a.1 ∧ a.2.1 ≤ b.2.1 ∧ (a.2.2 = true → b.2.2 = true)
theorem Le3.refl (a : Int × Int × Bool) : Le3 a a := ⟨Int.le_refl _, Int.le_refl _, id⟩
theorem Le3.acc {wr1 wr2 : Int} {r : Int} {x y : List S28} {a b : Int × Int × Bool} (h : Le3 a b) (hg : ¬ wr1 < (wrongOf x : Int) → ¬ wr2 < (wrongOf y : Int)) : Le3 (acc wr1 a (r, x)) (acc wr2 b (r, y)) := by
  obtain ⟨h1, h2, h3⟩ := h
  unfold Ext.acc
  by_cases c1 : wr1 < (wrongOf x : Int)
  · rw [if_pos c1]
    by_cases c2 : wr2 < (wrongOf y : Int)
    · rw [if_pos c2]; exact ⟨h1, h2, h3⟩
    · rw [if_neg c2]
      refine ⟨?_, ?_, fun _ => rfl⟩
      · show min b.1 r ≤ a.1; omega
      · show a.2.1 ≤ max b.2.1 r; omega
  · rw [if_neg c1, if_neg (hg c1)]
    refine ⟨?_, ?_, fun _ => rfl⟩
    · show min b.1 r ≤ min a.1 r; omega
    · show max a.2.1 r ≤ max b.2.1 r; omega
theorem lv_le (items : List S93) (ja jb : List S30) (wr1 wr2 : Int) (Rel : List S28 → List S28 → Prop)
    (hcut : ∀ (i : Nat) (n : Int) (a b : List S28), Rel a b → Rel (cutAll ja i n a) (cutAll jb i n b)) (hend : ∀ a b, Rel a b → ¬ wr1 < (wrongOf a : Int) → ¬ wr2 < (wrongOf b : Int)) :
    ∀ (d : Nat) (r : Int) (a b : List S28) (x y : Int × Int × Bool), Rel a b → Le3 x y → Le3 ((lv items ja d r a).foldl (acc wr1) x) ((lv items jb d r b).foldl (acc wr2) y)
  | 0, r, a, b, x, y, hr, hl => by
    rw [lv, lv]
    exact Le3.acc hl (hend a b hr)
  | d + 1, r, a, b, x, y, hr, hl => by
    rw [lv, lv, foldl_flat, foldl_flat]
    generalize List.range _ = L
    induction L generalizing x y with
    | nil => exact hl
    | cons n L ih =>
      rw [List.foldl_cons, List.foldl_cons]
      exact ih _ _ (lv_le items ja jb wr1 wr2 Rel hcut hend d _ _ _ _ _ (hcut _ _ _ _ hr) hl)
theorem sv_le (items : List S93) (ja jb : List S30) (wr1 wr2 : Int) (Rel : List S28 → List S28 → Prop)
    (hcut : ∀ (i : Nat) (n : Int) (a b : List S28), Rel a b → Rel (cutAll ja i n a) (cutAll jb i n b)) (hend : ∀ a b, Rel a b → ¬ wr1 < (wrongOf a : Int) → ¬ wr2 < (wrongOf b : Int))
    (h0 : Rel (ja.map fun x => x.f0) (jb.map fun x => x.f0)) : Le3 (proj (svOf items ja wr1)) (proj (svOf items jb wr2)) := by
  unfold svOf
  rw [proj_visit, proj_visit]
  exact lv_le items ja jb wr1 wr2 Rel hcut hend _ _ _ _ _ _ h0 (Le3.refl _)

/-- Wider spans, one by one. -/
def RelW : List S28 → List S28 → Prop
  | [], [] => True
  | x :: a, y :: b => (y.f0 ≤ x.f0 ∧ x.f1 ≤ y.f1) ∧ RelW a b
  | _, _ => False
/-- Judges with the same marks and no smaller errors. -/
def RelJ : List S30 → List S30 → Prop
  | [], [] => True
  | x :: a, y :: b => (x.f2 = y.f2 ∧ x.f1 ≤ y.f1 ∧ y.f0.f0 ≤ x.f0.f0 ∧ x.f0.f1 ≤ y.f0.f1) ∧ RelJ a b
  | _, _ => False
theorem RelJ.refl : ∀ a, RelJ a a
  | [] => trivial
  | _ :: a => ⟨⟨rfl, Int.le_refl _, Int.le_refl _, Int.le_refl _⟩, RelJ.refl a⟩
theorem RelJ.set : ∀ (a : List S30) (i : Nat) (y : S30), (∀ x, a[i]? = some x → x.f2 = y.f2 ∧ x.f1 ≤ y.f1 ∧ y.f0.f0 ≤ x.f0.f0 ∧ x.f0.f1 ≤ y.f0.f1) → RelJ a (a.set i y)
  | [], _, _, _ => trivial
  | x :: a, 0, y, h => ⟨h x rfl, RelJ.refl a⟩
  | x :: a, i + 1, y, h => ⟨⟨rfl, Int.le_refl _, Int.le_refl _, Int.le_refl _⟩, RelJ.set a i y (fun z hz => h z hz)⟩
theorem RelJ.spans : ∀ {a b : List S30}, RelJ a b → RelW (a.map fun x => x.f0) (b.map fun x => x.f0)
  | [], [], _ => trivial
  | _ :: _, _ :: _, h => ⟨h.1.2.2, RelJ.spans h.2⟩
theorem RelW.cut (i : Nat) (n : Int) : ∀ {ja jb : List S30} {a b : List S28}, RelJ ja jb → RelW a b → RelW (cutAll ja i n a) (cutAll jb i n b)
  | [], [], _, _, _, _ => trivial
  | _ :: _, _ :: _, [], [], _, _ => trivial
  | x :: ja, y :: jb, p :: a, q :: b, hj, hr => by
    refine ⟨?_, RelW.cut i n hj.2 hr.2⟩
    obtain ⟨⟨e1, e2, _⟩, _⟩ := hj
    obtain ⟨⟨g1, g2⟩, _⟩ := hr
    show (cutB y i n q).f0 ≤ (cutB x i n p).f0 ∧ (cutB x i n p).f1 ≤ (cutB y i n q).f1
    unfold cutB
    rw [← e1]
    by_cases c : 0 ≤ x.f2.getD i 0
    · rw [if_pos c, if_pos c]
      exact ⟨by show max q.f0 _ ≤ max p.f0 _; omega, by show min p.f1 _ ≤ min q.f1 _; omega⟩
    · rw [if_neg c, if_neg c]; exact ⟨g1, g2⟩
theorem RelW.wrong : ∀ {a b : List S28}, RelW a b → wrongOf b ≤ wrongOf a
  | [], [], _ => Nat.le_refl _
  | x :: a, y :: b, h => by
    have ih := RelW.wrong h.2
    obtain ⟨⟨g1, g2⟩, _⟩ := h
    unfold wrongOf at ih ⊢
    rw [List.countP_cons, List.countP_cons]
    by_cases c : y.f1 < y.f0
    · have c2 : x.f1 < x.f0 := by omega
      simp only [c, c2, decide_true, if_true]; omega
    · rw [decide_eq_false c, if_neg (by decide)]
      omega
/-- A wider paper loses no result. -/
theorem sv_wide (items : List S93) (ja jb : List S30) (wr1 wr2 : Int) (hj : RelJ ja jb) (hw : wr1 ≤ wr2) : Le3 (proj (svOf items ja wr1)) (proj (svOf items jb wr2)) :=
  sv_le items ja jb wr1 wr2 RelW (fun i n _ _ h => RelW.cut i n hj h) (fun a b h h1 => by have := RelW.wrong h; omega) hj.spans
/-- With one more judge no result becomes possible. -/
theorem sv_more (items : List S93) (js : List S30) (j : S30) (wr : Int) : Le3 (proj (svOf items (js ++ [j]) wr)) (proj (svOf items js wr)) := by
  refine sv_le items (js ++ [j]) js wr wr (fun a b => b.length = js.length ∧ ∃ x, a = b ++ [x]) ?_ ?_ ⟨by simp, j.f0, by simp⟩
  · rintro i n a b ⟨hb, x, rfl⟩
    refine ⟨by simp [cutAll, hb], cutB j i n x, ?_⟩
    unfold cutAll
    rw [List.zipWith_append hb.symm]
    rfl
  · rintro a b ⟨hb, x, rfl⟩ h
    have : wrongOf b ≤ wrongOf (b ++ [x]) := by unfold wrongOf; rw [List.countP_append]; omega
    omega
end Go.Proofs.Ytinnjghpmambiaa.Ext
