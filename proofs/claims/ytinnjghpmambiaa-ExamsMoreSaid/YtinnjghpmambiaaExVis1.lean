import Derived.Test.YtinnjghpmambiaaExVisit
namespace Go.Proofs.Ytinnjghpmambiaa.Ext
open Go.RowKit Go.Proofs.YtinnjghpmambiaaW.PrintWords Go.Proofs.YtinnjghpmambiaaW.PrintLast Go.Proofs.YtinnjghpmambiaaW.PrintMore Go.Proofs.Ytinnjghpmambiaa.Print
set_option linter.unusedVariables false
set_option linter.unusedSimpArgs false

/-- A list's element, by its number. -/
theorem getD_mem {α : Type} {l : List α} {z : α} {i : Nat} (h : i < l.length) : l.getD i z ∈ l := by
  rw [List.getD_eq_getElem?_getD, List.getElem?_eq_getElem h]; exact List.getElem_mem h

/-- The inner loop of visit, as far as k judges: the clone's block. -/
structure Cuts (b N : Nat) (judges : List S30) (i : Nat) (n : Int) (bs : List S28) (k : Nat) (W : World) : Prop where
  row : ∃ f, W.rowIs b 28 N f ∧ ∀ j, j < bs.length → f (2 * j) = .int .i64 (cutTo judges i n bs k j).f0 ∧ f (2 * j + 1) = .int .i64 (cutTo judges i n bs k j).f1
  size : 2 * bs.length ≤ N

theorem rowIs_of_blk {W : World} {b : Nat} {cs : Array Value} {ty : TypeId} (h : W.heap[b]? = some (.cells cs ty (0, 0))) : W.rowIs b ty cs.size (fun i => cs.getD i undef) :=
  ⟨cs, h, rfl, fun i hi => by simp [Array.getD, hi]⟩
/-- What was cloned, as the inner loop has it at its start. -/
theorem cuts_start {W : World} {base : Nat} {judges : List S30} {i : Nat} {n : Int} {bs : List S28} {v : Value} (h : Kd.R k28 28 W base (fun _ => True) v bs) :
    ∃ A c, v = .slice A bs.length c ∧ (0 < bs.length → ∃ b N, A = some ⟨b, 0, none⟩ ∧ base ≤ b ∧ Cuts b N judges i n bs 0 W) := by
  obtain ⟨A, c, rfl, hc, hC⟩ := Kd.R_reads h
  refine ⟨A, c, rfl, fun h0 => ?_⟩
  obtain ⟨_, inner, ⟨_, ho⟩, _⟩ := h
  rcases ho with ⟨_, hz⟩ | ⟨g, cap, cur, he, hg, hb, h1, h2, h3, h4⟩
  · omega
  · injection he with e1 e2 e3
    subst e1
    have hsz : cur.size = cap * 2 := h3
    refine ⟨g, cur.size, rfl, hg, ⟨_, rowIs_of_blk hb, fun j hj => ?_⟩, by rw [hsz]; omega⟩
    obtain ⟨ad, e, x0, x1⟩ := at_T28 hC (j : Int) (by omega) (by omega)
    injection e with e
    subst e
    have hy : rd_T28 bs (j : Int) = bs.getD j z28 := rfl
    rw [hy, Int.toNat_natCast] at x0 x1
    rw [add_plain] at x0 x1
    have r0 := (rowIs_of_blk hb).cell (i := j * 2) (by rw [hsz]; omega)
    have r1 := (rowIs_of_blk hb).cell (i := j * 2 + 1) (by rw [hsz]; omega)
    rw [x0] at r0
    rw [x1] at r1
    have hct : cutTo judges i n bs 0 j = bs.getD j z28 := by unfold cutTo; rw [if_neg (by omega)]
    rw [hct, Nat.mul_comm 2 j]
    exact ⟨(Option.some.inj r0).symm, (Option.some.inj r1).symm⟩
/-- The clone, read, behind the inner loop. -/
theorem cuts_end {W : World} {b N : Nat} {judges : List S30} {i : Nat} {n : Int} {bs : List S28} (h : Cuts b N judges i n bs judges.length W) (hbl : bs.length = judges.length) (hb : bs.length ≤ 1000) : Kd.C k28 W (some ⟨b, 0, none⟩) bs.length (cutAll judges i n bs) := by
  refine ⟨by rw [cutAll_length _ _ _ _ hbl, hbl], by omega, fun h0 => ⟨_, rfl, fun j p hj => ?_⟩⟩
  have hjl : j < judges.length := by
    have := (List.getElem?_eq_some_iff.1 hj).1
    rwa [cutAll_length _ _ _ _ hbl] at this
  have hp : p = cutTo judges i n bs judges.length j := by
    rw [← cutAll_getD judges i n bs hbl j hjl, List.getD_eq_getElem?_getD, hj]; rfl
  subst hp
  obtain ⟨f, hr, hf⟩ := h.row
  obtain ⟨f0, f1⟩ := hf j (by omega)
  refine ⟨_, rfl, k28_mk W _, fun q u hu => ?_⟩
  have hN := h.size
  rcases q with _ | _ | q
  · simp at hu
    subst hu
    have h2 : k28.sz = 2 := rfl
    rw [add_plain, h2, Nat.mul_comm j 2, Nat.add_zero, hr.cell (by omega), f0]
  · simp at hu
    subst hu
    have h2 : k28.sz = 2 := rfl
    rw [add_plain, h2, Nat.mul_comm j 2, hr.cell (by omega), f1]
  · simp at hu
/-- A store of both ends. -/
theorem Cuts.next {W : World} {b N : Nat} {judges : List S30} {i : Nat} {n : Int} {bs : List S28} {k : Nat} (h : Cuts b N judges i n bs k W) (hk : k < bs.length) {lo hi : Int} (h0 : lo = (cutB (judges.getD k z30) i n (bs.getD k z28)).f0) (h1 : hi = (cutB (judges.getD k z30) i n (bs.getD k z28)).f1) :
    Cuts b N judges i n bs (k + 1) ((W.setCell ⟨b, k * 2, none⟩ (.int .i64 lo)).setCell ⟨b, k * 2 + 1, none⟩ (.int .i64 hi)) := by
  obtain ⟨f, hr, hf⟩ := h.row
  refine ⟨⟨_, (hr.set _ _).set _ _, fun j hj => ?_⟩, h.size⟩
  by_cases e : j = k
  · subst e
    have hc : cutTo judges i n bs (j + 1) j = cutB (judges.getD j z30) i n (bs.getD j z28) := by unfold cutTo; rw [if_pos (by omega)]
    rw [hc]
    constructor
    · rw [if_neg (by omega), if_pos (by omega), h0]
    · rw [if_pos (by omega), h1]
  · have hc : cutTo judges i n bs (k + 1) j = cutTo judges i n bs k j := by
      unfold cutTo
      by_cases e2 : j < k
      · rw [if_pos e2, if_pos (by omega)]
      · rw [if_neg e2, if_neg (by omega)]
    rw [hc]
    obtain ⟨f0, f1⟩ := hf j hj
    constructor
    · rw [if_neg (by omega), if_neg (by omega), f0]
    · rw [if_neg (by omega), if_neg (by omega), f1]
theorem Cuts.same {W : World} {b N : Nat} {judges : List S30} {i : Nat} {n : Int} {bs : List S28} {k : Nat} (h : Cuts b N judges i n bs k W) (hk : k < bs.length) (h0 : ¬ 0 ≤ (judges.getD k z30).f2.getD i 0) : Cuts b N judges i n bs (k + 1) W := by
  obtain ⟨f, hr, hf⟩ := h.row
  refine ⟨⟨f, hr, fun j hj => ?_⟩, h.size⟩
  have hc : cutTo judges i n bs (k + 1) j = cutTo judges i n bs k j := by
    unfold cutTo
    by_cases e2 : j < k
    · rw [if_pos e2, if_pos (by omega)]
    · rw [if_neg e2]
      by_cases e : j = k
      · subst e
        rw [if_pos (by omega)]
        unfold cutB
        rw [if_neg h0]
      · rw [if_neg (by omega)]
  rw [hc]
  exact hf j hj
theorem Cuts.move {W W1 : World} {b N : Nat} {judges : List S30} {i : Nat} {n : Int} {bs : List S28} {k : Nat} {T : Nat → Prop} (h : Cuts b N judges i n bs k W) (hw : Wrote T W W1) (hn : ¬ T b) : Cuts b N judges i n bs k W1 := by
  obtain ⟨f, hr, hf⟩ := h.row
  exact ⟨⟨f, hw.row hr hn, hf⟩, h.size⟩
/-- In visit: the survey, the box of the truth, the world. -/
structure VMid (g gr gm nj : Nat) (v0 v1 : Value) (a2 : Int) (v3 : Value) (bt : Nat) (t : Nat → Int) (item : Nat) (w : World) (S : Sv) (W : World) : Prop where
  sv : IsSv W g gr gm nj v0 v1 a2 v3 S
  wr : Wrote (SB g gr gm) w W
  box : ∃ t' : Nat → Int, (∀ j, j ≠ item → t' j = t j) ∧ W.rowIs bt 129 4 (fun j => .int .i64 (t' j))
  n1 : ¬ SB g gr gm bt
  n3 : w.heap.size ≤ bt
namespace VMid
variable {g gr gm nj : Nat} {v0 v1 : Value} {a2 : Int} {v3 : Value} {bt : Nat} {t : Nat → Int} {item : Nat} {w : World} {S S' : Sv} {W W1 : World}
theorem drew (h : VMid g gr gm nj v0 v1 a2 v3 bt t item w S W) : VMid g gr gm nj v0 v1 a2 v3 bt t item w S W.drew := ⟨h.sv.drew, h.wr.drew, h.box, h.n1, h.n3⟩
theorem lt (h : VMid g gr gm nj v0 v1 a2 v3 bt t item w S W) : bt < W.heap.size := by obtain ⟨_, _, h⟩ := h.box; exact h.lt
/-- The survey has gone on. -/
theorem step (h : VMid g gr gm nj v0 v1 a2 v3 bt t item w S W) (hs : IsSv W1 g gr gm nj v0 v1 a2 v3 S') (hw : Wrote (SB g gr gm) W W1) : VMid g gr gm nj v0 v1 a2 v3 bt t item w S' W1 :=
  ⟨hs, h.wr.trans hw, by obtain ⟨t', h1, h2⟩ := h.box; exact ⟨t', h1, hw.row h2 h.n1⟩, h.n1, h.n3⟩
/-- Something else has been written. -/
theorem other {b : Nat} (h : VMid g gr gm nj v0 v1 a2 v3 bt t item w S W) (hw : Wrote (· = b) W W1) (hb : w.heap.size ≤ b) (hn : ¬ SB g gr gm b) (hbt : b ≠ bt) : VMid g gr gm nj v0 v1 a2 v3 bt t item w S W1 :=
  ⟨h.sv.keep hw (fun e => hn (.inl e.symm)) (fun e => hn (.inr (.inl e.symm))) (fun e => hn (.inr (.inr e.symm))), h.wr.then_ hw (fun i hi e => by subst e; omega), by obtain ⟨t', h1, h2⟩ := h.box; exact ⟨t', h1, hw.row h2 (fun e => hbt e.symm)⟩, h.n1, h.n3⟩
theorem below (h : VMid g gr gm nj v0 v1 a2 v3 bt t item w S W) (hw : Below W.heap.size W W1) : VMid g gr gm nj v0 v1 a2 v3 bt t item w S W1 :=
  ⟨h.sv.below hw, h.wr.trans (Wrote.of_below hw), by obtain ⟨t', h1, h2⟩ := h.box; exact ⟨t', h1, h2.of_block (hw.block _ h2.lt)⟩, h.n1, h.n3⟩
/-- The truth's number has been put in. -/
theorem put (h : VMid g gr gm nj v0 v1 a2 v3 bt t item w S W) (n : Int) : VMid g gr gm nj v0 v1 a2 v3 bt t item w S (W.setCell ⟨bt, item, none⟩ (.int .i64 n)) ∧ (W.setCell ⟨bt, item, none⟩ (.int .i64 n)).rowIs bt 129 4 (fun j => .int .i64 (upd t item n j)) := by
  obtain ⟨t', h1, h2⟩ := h.box
  have hw : Wrote (· = bt) W (W.setCell ⟨bt, item, none⟩ (.int .i64 n)) := Wrote.setCell (Wrote.refl (· = bt) W) (.inl rfl) _
  have hr := (h2.set item (.int .i64 n)).congr (g := fun j => .int .i64 (upd t item n j)) (fun j _ => by
    show (if j = item then Value.int .i64 n else .int .i64 (t' j)) = .int .i64 (upd t item n j)
    unfold upd
    by_cases e : j = item
    · rw [if_pos e, if_pos e]
    · rw [if_neg e, if_neg e, h1 j e])
  refine ⟨⟨h.sv.keep hw (fun e => h.n1 (.inl e.symm)) (fun e => h.n1 (.inr (.inl e.symm))) (fun e => h.n1 (.inr (.inr e.symm))), h.wr.then_ hw (fun i hi e => by subst e; have := h.n3; omega), ⟨upd t item n, fun j e => by unfold upd; rw [if_neg e], hr⟩, h.n1, h.n3⟩, hr⟩
end VMid
/-- In the inner loop, behind k judges. -/
structure LMid (g gr gm nj : Nat) (v0 v1 : Value) (a2 : Int) (v3 : Value) (bt : Nat) (t : Nat → Int) (item : Nat) (w : World) (S : Sv) (A' : Option Addr) (judges : List S30) (n : Int) (bs : List S28) (k : Nat) (W : World) : Prop where
  vm : VMid g gr gm nj v0 v1 a2 v3 bt t item w S W
  cuts : 0 < bs.length → ∃ b N, A' = some ⟨b, 0, none⟩ ∧ Cuts b N judges item n bs k W ∧ w.heap.size ≤ b ∧ ¬ SB g gr gm b ∧ b ≠ bt
theorem LMid.alloc {g gr gm nj : Nat} {v0 v1 : Value} {a2 : Int} {v3 : Value} {bt : Nat} {t : Nat → Int} {item : Nat} {w : World} {S : Sv} {A' : Option Addr} {judges : List S30} {n : Int} {bs : List S28} {k : Nat} {W : World} (h : LMid g gr gm nj v0 v1 a2 v3 bt t item w S A' judges n bs k W) (o : Obj) : LMid g gr gm nj v0 v1 a2 v3 bt t item w S A' judges n bs k (W.alloc o) :=
  ⟨h.vm.below ((Below.refl _ _).alloc (Nat.le_refl _) o), fun h0 => by
    obtain ⟨b, N, e, hc, r⟩ := h.cuts h0
    exact ⟨b, N, e, hc.move (T := fun _ => False) (Wrote.alloc (Wrote.refl _ _) o) (fun h => h), r⟩⟩
theorem LMid.drew {g gr gm nj : Nat} {v0 v1 : Value} {a2 : Int} {v3 : Value} {bt : Nat} {t : Nat → Int} {item : Nat} {w : World} {S : Sv} {A' : Option Addr} {judges : List S30} {n : Int} {bs : List S28} {k : Nat} {W : World} (h : LMid g gr gm nj v0 v1 a2 v3 bt t item w S A' judges n bs k W) : LMid g gr gm nj v0 v1 a2 v3 bt t item w S A' judges n bs k W.drew :=
  ⟨h.vm.drew, fun h0 => by
    obtain ⟨b, N, e, hc, r⟩ := h.cuts h0
    exact ⟨b, N, e, hc.move (T := fun _ => False) (Wrote.drew (Wrote.refl _ _)) (fun h => h), r⟩⟩
theorem fold_cnt {F : Sv → Nat → Sv} {c : Nat} (hF : ∀ S n, (F S n).cnt ≤ S.cnt + c) : ∀ (k : Nat) (S : Sv), ((List.range k).foldl F S).cnt ≤ S.cnt + k * c
  | 0, S => by simp
  | k + 1, S => by
    rw [List.range_succ, List.foldl_append, Nat.succ_mul]
    have h1 := fold_cnt hF k S
    have h2 := hF ((List.range k).foldl F S) k
    simp only [List.foldl_cons, List.foldl_nil]
    omega
theorem fold_succ {F : Sv → Nat → Sv} (k : Nat) (S : Sv) : (List.range (k + 1)).foldl F S = F ((List.range k).foldl F S) k := by
  rw [List.range_succ, List.foldl_append]; rfl
def VisPost (g gr gm nj : Nat) (v0 v1 : Value) (a2 : Int) (v3 : Value) (S : Sv) (w : World) (e : Ending) (w' : World) : Prop :=
  e = .returned (.tuple #[]) ∧ IsSv w' g gr gm nj v0 v1 a2 v3 S ∧ Wrote (SB g gr gm) w w'

end Go.Proofs.Ytinnjghpmambiaa.Ext
