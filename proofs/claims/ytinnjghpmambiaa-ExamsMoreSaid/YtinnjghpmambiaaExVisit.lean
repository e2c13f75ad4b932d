import Derived.Test.YtinnjghpmambiaaExEnd
namespace Go.Proofs.Ytinnjghpmambiaa.Ext
open Go.RowKit Go.Proofs.YtinnjghpmambiaaW.PrintWords Go.Proofs.YtinnjghpmambiaaW.PrintLast Go.Proofs.YtinnjghpmambiaaW.PrintMore Go.Proofs.Ytinnjghpmambiaa.Print
set_option linter.unusedVariables false
set_option linter.unusedSimpArgs false

theorem spanInfo : (Try.prog.info? 28).map (fun i => (i.zero, i.size, i.bytes)) = some (some (.agg #[.int .i64 0, .int .i64 0]), 2, 16) := by kernel_rfl
theorem R_fresh {α : Type} (d : Kd α) (e : TypeId) (w : World) (base : Nat) (ok : Nat → Prop) (hb : base ≤ w.heap.size) (hok : ok w.heap.size) : Kd.R d e (w.alloc (.cells #[] e)) base ok (.slice (some ⟨w.heap.size, 0, none⟩) 0 0) [] :=
  ⟨fun k hk => by simp [Value.ownBlock] at hk; subst hk; exact hok, [], ⟨by simp, .inr ⟨w.heap.size, 0, #[], rfl, hb, heap_alloc_new _ _, Nat.le_refl _, by simp [maxLen], by simp, by simp⟩⟩, Reps.none _ _⟩

theorem ex_clone (A : Option Addr) (c : Nat) (l : List S28) (w : World) (hr : Kd.C k28 w A l.length l) (hlen : l.length ≤ 1000) :
    Calls Try.prog 86 #[.slice A l.length c] w fun e w' => ∃ v, e = .returned v ∧ Kd.R k28 28 w' w.heap.size (fun _ => True) v l ∧ Below w.heap.size w w' := by
  have HR := Aside0.mk hr
  clear hr
  cases A with
  | none =>
    have h0 : l = [] := by
      rcases l with _ | ⟨x, l⟩
      · rfl
      · obtain ⟨ad, h, _⟩ := HR.out.2.2 (by simp)
        cases h
    subst h0
    have hq : ∀ W, (binOp .eql 46 (.slice none 0 c) (.slice none 0 0)).run Try.prog W = .ok (.bool true) W := fun W => by kernel_rfl
    go_enter Try.func86, Try.ntmps86
    go_wp2
    go_ret
    exact ⟨_, rfl, Kd.R_nil _ _ _ _ _, Below.refl _ _⟩
  | some ad =>
    have hq : ∀ W, (binOp .eql 46 (.slice (some ad) l.length c) (.slice none 0 0)).run Try.prog W = .ok (.bool false) W := fun W => by kernel_rfl
    go_enter Try.func86, Try.ntmps86
    go_wp2_with (at_builtin; refine Kd.R_append_rows k28 (w0 := w) w.heap.size rfl _ _ 46 28 (.agg #[.int .i64 0, .int .i64 0]) 16 rfl Try.underlying46 spanInfo rfl (by decide) (by decide) _ [] l (some ad) l.length c (fun _ => True) (fun _ => False) rfl rfl (R_fresh _ _ w _ _ (Nat.le_refl _) trivial) (Kd.C_below HR.out ((Below.refl _ _).alloc (Nat.le_refl _) _)) (fun x cs h => h) (fun _ h => h.elim) (fun _ _ => trivial) ((Below.refl _ _).alloc (Nat.le_refl _) _) (by simp) (by simp; omega) ?_; intro v1 w1 hr1 hb1 hg1 ha1; replace hr1 := Aside0.mk hr1; replace hb1 := Aside0.mk hb1; clear hg1 ha1)
    go_ret
    exact ⟨_, rfl, hr1.out, hb1.out⟩

/-- One operation after the other up to number n, whatever the order; what follows by the walk. -/
theorem still_tail {P : Program} {id : Nat} {Q : Exit → Act → World → Prop} {a : Act} {w : World} {l : List Oper} (n : Nat) (hm : P.follows .mixedOrders = true) (hB : Region.lexTailB .any l.toArray n = true)
    (h : wpStill P l.toArray w.drew (fun a' => wpList P l.toArray Q (l.drop n) a' w.drew) (l.take n) a) : (Code.region id l.toArray true).wp P Q a w := wp_region_still_tail n hm hB h

/-! ### the pure truths -/
def cutB (x : S30) (i : Nat) (n : Int) (b : S28) : S28 := if 0 ≤ x.f2.getD i 0 then ⟨max b.f0 (x.f2.getD i 0 - n - x.f1), min b.f1 (x.f2.getD i 0 - n + x.f1)⟩ else b
def cutAll (judges : List S30) (i : Nat) (n : Int) (bs : List S28) : List S28 := List.zipWith (fun x b => cutB x i n b) judges bs
def visitP (items : List S93) (judges : List S30) (wr : Int) : Nat → Sv → (Nat → Int) → Int → List S28 → Sv
  | 0, S, t, r, bs => endP items.length wr S t r bs
  | d + 1, S, t, r, bs => (List.range ((items.getD (items.length - (d + 1)) z93).f1.toNat + 1)).foldl
      (fun S (n : Nat) => visitP items judges wr d S (upd t (items.length - (d + 1)) (n : Int)) (r + n * (items.getD (items.length - (d + 1)) z93).f0) (cutAll judges (items.length - (d + 1)) n bs)) S

/-- What of a paper's numbers the walk leans on. -/
structure PapB (items : List S93) (judges : List S30) : Prop where
  n4 : items.length ≤ 4
  its : ∀ x ∈ items, 0 ≤ x.f0 ∧ x.f0 ≤ 10 ∧ 0 ≤ x.f1 ∧ x.f1 ≤ 30
  j4 : judges.length ≤ 4
  jus : ∀ x ∈ judges, 0 ≤ x.f1 ∧ x.f1 ≤ 5 ∧ x.f2.length = items.length ∧ ∀ m ∈ x.f2, -1 ≤ m ∧ m ≤ 50
theorem endP_cnt (n : Nat) (wr : Int) (S : Sv) (t : Nat → Int) (r : Int) (bs : List S28) : (endP n wr S t r bs).cnt ≤ S.cnt + 1 := by
  unfold endP
  split
  · exact Nat.le_succ _
  · exact Nat.le_refl _
theorem visitP_cnt {items : List S93} {judges : List S30} (hp : PapB items judges) (wr : Int) : ∀ (d : Nat) (S : Sv) (t : Nat → Int) (r : Int) (bs : List S28), d ≤ items.length → (visitP items judges wr d S t r bs).cnt ≤ S.cnt + 31 ^ d := by
  intro d
  induction d with
  | zero => intro S t r bs _; exact endP_cnt _ _ _ _ _ _
  | succ d ih =>
    intro S t r bs hd
    have hm : ∀ m S, ((List.range m).foldl (fun S (n : Nat) => visitP items judges wr d S (upd t (items.length - (d + 1)) (n : Int)) (r + n * (items.getD (items.length - (d + 1)) z93).f0) (cutAll judges (items.length - (d + 1)) n bs)) S).cnt ≤ S.cnt + m * 31 ^ d := by
      intro m
      induction m with
      | zero => intro S; simp
      | succ m ihm =>
        intro S
        rw [List.range_succ, List.foldl_append]
        simp only [List.foldl_cons, List.foldl_nil]
        have h1 := ih ((List.range m).foldl (fun S (n : Nat) => visitP items judges wr d S (upd t (items.length - (d + 1)) (n : Int)) (r + n * (items.getD (items.length - (d + 1)) z93).f0) (cutAll judges (items.length - (d + 1)) n bs)) S) (upd t (items.length - (d + 1)) m) (r + m * (items.getD (items.length - (d + 1)) z93).f0) (cutAll judges (items.length - (d + 1)) m bs) (by omega)
        have h2 := ihm S
        rw [Nat.succ_mul]
        omega
    have hlt : items.length - (d + 1) < items.length := by omega
    have h31 : (items.getD (items.length - (d + 1)) z93).f1.toNat + 1 ≤ 31 := by
      have := hp.its (items.getD (items.length - (d + 1)) z93) (by rw [List.getD_eq_getElem?_getD, List.getElem?_eq_getElem hlt]; exact List.getElem_mem hlt)
      omega
    refine Nat.le_trans (hm _ S) ?_
    rw [Nat.pow_succ, Nat.mul_comm (31 ^ d)]
    exact Nat.add_le_add_left (Nat.mul_le_mul_right _ h31) _

structure Reads3 (g gr gm : Nat) (A0 : Option Addr) (items : List S93) (A1 : Option Addr) (judges : List S30) (A3 : Option Addr) (l3 : List Int) (w : World) : Prop where
  it : ∀ W, Wrote (SB g gr gm) w W → Kd.C k93 W A0 items.length items
  ju : ∀ W, Wrote (SB g gr gm) w W → Kd.C k30 W A1 judges.length judges
  gd : ∀ W, Wrote (SB g gr gm) w W → Kd.C (Kd.int .i64) W A3 l3.length l3
theorem Reads3.step {g gr gm : Nat} {A0 : Option Addr} {items : List S93} {A1 : Option Addr} {judges : List S30} {A3 : Option Addr} {l3 : List Int} {w w1 : World} (h : Reads3 g gr gm A0 items A1 judges A3 l3 w) (hw : Wrote (SB g gr gm) w w1) : Reads3 g gr gm A0 items A1 judges A3 l3 w1 :=
  ⟨fun W h1 => h.it W (hw.trans h1), fun W h1 => h.ju W (hw.trans h1), fun W h1 => h.gd W (hw.trans h1)⟩

/-- The biases behind the first k judges. -/
def cutTo (judges : List S30) (i : Nat) (n : Int) (bs : List S28) (k j : Nat) : S28 := if j < k then cutB (judges.getD j z30) i n (bs.getD j z28) else bs.getD j z28
def Bnd (b : S28) : Prop := -100 ≤ b.f0 ∧ b.f0 ≤ 100 ∧ -100 ≤ b.f1 ∧ b.f1 ≤ 100
theorem cutB_bnd {items : List S93} {judges : List S30} (hp : PapB items judges) {x : S30} (hx : x ∈ judges) {i : Nat} (hi : i < items.length) {n : Int} (h0 : 0 ≤ n) (h1 : n ≤ 30) {b : S28} (hb : Bnd b) : Bnd (cutB x i n b) := by
  unfold cutB
  obtain ⟨e0, e1, hl, hm⟩ := hp.jus x hx
  have hmm := hm (x.f2.getD i 0) (by rw [List.getD_eq_getElem?_getD, List.getElem?_eq_getElem (by omega)]; exact List.getElem_mem _)
  obtain ⟨b1, b2, b3, b4⟩ := hb
  split
  · exact ⟨by show -100 ≤ max _ _; omega, by show max _ _ ≤ 100; omega, by show -100 ≤ min _ _; omega, by show min _ _ ≤ 100; omega⟩
  · exact ⟨b1, b2, b3, b4⟩
theorem cutAll_length (judges : List S30) (i : Nat) (n : Int) (bs : List S28) (h : bs.length = judges.length) : (cutAll judges i n bs).length = judges.length := by unfold cutAll; rw [List.length_zipWith, h, Nat.min_self]
theorem cutAll_getD (judges : List S30) (i : Nat) (n : Int) (bs : List S28) (h : bs.length = judges.length) (j : Nat) (hj : j < judges.length) : (cutAll judges i n bs).getD j z28 = cutTo judges i n bs judges.length j := by
  unfold cutAll cutTo
  rw [if_pos hj]
  simp [List.getD_eq_getElem?_getD, List.getElem?_zipWith, List.getElem?_eq_getElem hj, List.getElem?_eq_getElem (show j < bs.length by omega)]
theorem cutAll_bnd {items : List S93} {judges : List S30} (hp : PapB items judges) {i : Nat} (hi : i < items.length) {n : Int} (h0 : 0 ≤ n) (h1 : n ≤ 30) {bs : List S28} (hb : ∀ b ∈ bs, Bnd b) : ∀ b ∈ cutAll judges i n bs, Bnd b := by
  intro b hm
  unfold cutAll at hm
  obtain ⟨j, hj, rfl⟩ := List.getElem_of_mem hm
  rw [List.getElem_zipWith]
  exact cutB_bnd hp (List.getElem_mem _) hi h0 h1 (hb _ (List.getElem_mem _))
end Go.Proofs.Ytinnjghpmambiaa.Ext
