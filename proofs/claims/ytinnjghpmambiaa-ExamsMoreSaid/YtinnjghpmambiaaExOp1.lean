import Derived.Test.YtinnjghpmambiaaExVis2
import Derived.Deep.RegionHeld3
import Derived.Deep.DeepCutAuto
namespace Go.Proofs.Ytinnjghpmambiaa.Ext
open Go.RowKit Go.Proofs.YtinnjghpmambiaaW.PrintWords Go.Proofs.YtinnjghpmambiaaW.PrintLast Go.Proofs.YtinnjghpmambiaaW.PrintMore Go.Proofs.Ytinnjghpmambiaa.Print
set_option linter.unusedVariables false
set_option linter.unusedSimpArgs false

theorem ex_none (w : World) : Calls Try.prog 52 #[] w fun e w' => e = .returned (.agg #[.int .i64 1073741824, .int .i64 (-1073741824)]) ∧ Below w.heap.size w w' := by
  go_enter Try.func52, Try.ntmps52
  go_wp2
  exact bodyPost_ret (v := .agg #[.int .i64 1073741824, .int .i64 (-1073741824)]) (by simp [results, Try.results52, go_sem]) rfl ⟨rfl, (Below.refl _ _).alloc (Nat.le_refl _) _⟩

theorem hget_alloc (w : World) (o : Obj) (k : Nat) : (w.alloc o).heap[k]? = if k = w.heap.size then some o else w.heap[k]? := by
  show (w.heap.push o)[k]? = _
  rw [Array.getElem?_push]
noncomputable abbrev svCells (v0 v1 : Value) (a2 : Int) (v3 : Value) (gm : Nat) (vr : Value) (nj : Nat) : Array Value :=
  (((((((((Try.zeroCells90.setIfInBounds 0 v0).setIfInBounds 1 v1).setIfInBounds 2 (.int .i64 a2)).setIfInBounds 3 v3).setIfInBounds 4 (.int .i64 1073741824)).setIfInBounds 5 (.int .i64 (-1073741824))).setIfInBounds 254 (.map (some gm))).setIfInBounds 255 vr).setIfInBounds 256 (.int .i64 nj))
theorem zeros90 : Try.zeroCells90 = #[.slice none 0 0, .slice none 0 0, .int .i64 0, .slice none 0 0, .int .i64 0, .int .i64 0] ++ Array.replicate 248 (.int .i64 0) ++ #[.map none, .slice none 0 0, .int .i64 0, .bool false] := by kernel_rfl
def sv0 (nj : Nat) : Sv := ⟨1073741824, -1073741824, fun _ => 0, fun _ => false, nj, false, 0⟩
theorem svCells_at (v0 v1 : Value) (a2 : Int) (v3 : Value) (gm : Nat) (vr : Value) (nj : Nat) : (svCells v0 v1 a2 v3 gm vr nj).size = 258 ∧ ∀ i, i < 258 → (svCells v0 v1 a2 v3 gm vr nj)[i]? = some (svc v0 v1 a2 v3 gm vr (sv0 nj) i) := by
  have hz : Try.zeroCells90.size = 258 := by rw [zeros90]; simp
  have h9 : ∀ i, 6 ≤ i → i < 254 → Try.zeroCells90[i]? = some (.int .i64 0) := by
    intro i h0 h1
    rw [zeros90, Array.getElem?_append_left (by simp; omega), Array.getElem?_append_right (by simp; omega)]
    simp [Array.getElem?_replicate]
    omega
  have h257 : Try.zeroCells90[257]? = some (.bool false) := by
    rw [zeros90, Array.getElem?_append_right (by simp)]
    simp
  refine ⟨by simp [svCells, hz], svc_case ?_ ?_ ?_ ?_ ?_ ?_ (fun i h0 h1 => ?_) ?_ ?_ ?_ ?_⟩
  · simp [svCells, Array.getElem?_setIfInBounds, hz, svc, sv0]
  · simp [svCells, Array.getElem?_setIfInBounds, hz, svc, sv0]
  · simp [svCells, Array.getElem?_setIfInBounds, hz, svc, sv0]
  · simp [svCells, Array.getElem?_setIfInBounds, hz, svc, sv0]
  · simp [svCells, Array.getElem?_setIfInBounds, hz, svc, sv0]
  · simp [svCells, Array.getElem?_setIfInBounds, hz, svc, sv0]
  · rw [svc_it _ _ _ _ _ _ _ i h0 h1]
    simp only [svCells, Array.getElem?_setIfInBounds]
    rw [if_neg (by omega), if_neg (by omega), if_neg (by omega), if_neg (by omega), if_neg (by omega), if_neg (by omega), if_neg (by omega), if_neg (by omega), if_neg (by omega), h9 i h0 h1]
    rfl
  · simp [svCells, Array.getElem?_setIfInBounds, hz, svc, sv0]
  · simp [svCells, Array.getElem?_setIfInBounds, hz, svc, sv0]
  · simp [svCells, Array.getElem?_setIfInBounds, hz, svc, sv0]
  · simp only [svCells, Array.getElem?_setIfInBounds]
    have h3 : Try.zeroCells90[257]'(by rw [hz]; omega) = .bool false := by
      rw [Array.getElem?_eq_getElem (by rw [hz]; omega)] at h257
      exact Option.some.inj h257
    simp [h3, hz, svc, sv0]
theorem sv_start {W : World} {g gr gm nj : Nat} {v0 v1 : Value} {a2 : Int} {v3 : Value}
    (hg : W.heap[g]? = some (.cells (svCells v0 v1 a2 v3 gm (.slice (some ⟨gr, 0, none⟩) nj nj) nj) 90 (0, 0)))
    (hr : W.heap[gr]? = some (.cells (madeCells #[.bool false] nj) 4 (0, 0))) (hm : W.heap[gm]? = some (.map #[] 0)) :
    IsSv W g gr gm nj v0 v1 a2 v3 (sv0 nj) :=
  ⟨⟨_, hg, (svCells_at _ _ _ _ _ _ _).1, (svCells_at _ _ _ _ _ _ _).2⟩, ⟨_, hr, by simp [size_madeCells], fun i hi => by
    simp [madeCells, sv0, hi, Nat.mod_one]⟩, .map [], #[], 0, hm, ⟨by simp, MapKept.stamped_empty 0, by simp⟩, Nat.le_refl _, rfl⟩
theorem hnew {w : World} {o : Obj} {k : Nat} (h : k = w.heap.size) : (w.alloc o).heap[k]? = some o := by rw [hget_alloc, if_pos h]
theorem hold {w : World} {o x : Obj} {k : Nat} (h : w.heap[k]? = some x) : (w.alloc o).heap[k]? = some x := by rw [hget_alloc, if_neg (by have := lt_of_block h; omega)]; exact h
theorem hbel {w w1 : World} {x : Obj} {k : Nat} (hb : Below w.heap.size w w1) (h : w.heap[k]? = some x) : w1.heap[k]? = some x := (hb.block k (lt_of_block h)).trans h
/-- The items' spans, as far as they have been emptied. -/
def initIt (c : Nat) : Nat → Int := fun k => if k < c then (if k % 2 = 0 then 1073741824 else -1073741824) else 0
theorem initIt_zero (nj : Nat) : ({ sv0 nj with it := initIt 0 } : Sv) = sv0 nj := by
  have : initIt 0 = fun _ => 0 := by funext k; unfold initIt; rw [if_neg (by omega)]
  rw [this]
  rfl
theorem initIt_succ (c : Nat) (hc : c % 2 = 0) : upd (upd (initIt c) c 1073741824) (c + 1) (-1073741824) = initIt (c + 2) := by
  funext k
  simp only [upd, initIt]
  by_cases e1 : k = c + 1
  · subst e1; rw [if_pos rfl, if_pos (by omega), if_neg (by omega)]
  · rw [if_neg e1]
    by_cases e2 : k = c
    · subst e2; rw [if_pos rfl, if_pos (by omega), if_pos hc]
    · rw [if_neg e2]
      by_cases e3 : k < c
      · rw [if_pos e3, if_pos (show k < c + 2 by omega)]
      · rw [if_neg e3, if_neg (show ¬ k < c + 2 by omega)]
theorem IsSv.emptied {W : World} {g gr gm nj : Nat} {v0 v1 : Value} {a2 : Int} {v3 : Value} {S : Sv} {c o : Nat} (h : IsSv W g gr gm nj v0 v1 a2 v3 { S with it := initIt c }) (hc : c % 2 = 0) (ho : o = 6 + c) (ho2 : c + 2 ≤ 248) :
    IsSv ((W.setCell ⟨g, o, none⟩ (.int .i64 1073741824)).setCell ⟨g, o + 1, none⟩ (.int .i64 (-1073741824))) g gr gm nj v0 v1 a2 v3 { S with it := initIt (c + 2) } := by
  have h2 := h.item (W1 := (W.setCell ⟨g, o, none⟩ (.int .i64 1073741824)).setCell ⟨g, o + 1, none⟩ (.int .i64 (-1073741824))) (o := o) (lo := 1073741824) (hi := -1073741824) (by omega) (by omega)
    (show AddPost g o 258 _ _ _ _ W (.returned (.tuple #[])) _ from ⟨rfl, Wrote.setCell (Wrote.setCell (Wrote.refl (· = g) W) (.inl rfl) _) (.inl rfl) _, (h.row.set o _).set (o + 1) _⟩)
  have e : o - 6 = c := by omega
  rw [e] at h2
  rw [← initIt_succ c hc]
  exact h2
theorem IsSv.grown {W W1 : World} {g gr gm nj : Nat} {v0 v1 : Value} {a2 : Int} {v3 : Value} {S : Sv} {row : Option Nat} (h : IsSv W g gr gm nj v0 v1 a2 v3 S) (hg : W.grownBy W1 row) (h1 : some g ≠ row) (h2 : some gr ≠ row) (h3 : some gm ≠ row) : IsSv W1 g gr gm nj v0 v1 a2 v3 S :=
  h.keep (T := fun k => some k = row) ⟨hg.os, hg.tape, hg.output, hg.size, fun i hi hn => hg.block i hi hn⟩ h1 h2 h3
theorem lit1_C (W : World) (x : S28) : Kd.C k28 (W.alloc (.cells #[.int .i64 x.f0, .int .i64 x.f1] 28)) (some ⟨W.heap.size, 0, none⟩) 1 [x] := by
  refine ⟨rfl, by omega, fun _ => ⟨_, rfl, fun j p hj => ?_⟩⟩
  have hj0 : j = 0 := by
    have := (List.getElem?_eq_some_iff.1 hj).1
    simp at this; omega
  subst hj0
  obtain rfl : x = p := by simpa using hj
  refine ⟨_, rfl, k28_mk _ x, fun q u hu => ?_⟩
  rcases q with _ | _ | q
  · simp at hu; subst hu; simp [add_plain]
  · simp at hu; subst hu; simp [add_plain]
  · simp at hu
/-- What paperOk says of the numbers. -/
theorem papB_of {items : List S93} {judges : List S30} {a2 : Int} {l3 : List Int} (h : paperOk items judges a2 l3 = true) : PapB items judges ∧ (∀ x ∈ judges, -3 ≤ x.f0.f0 ∧ x.f0.f0 ≤ x.f0.f1 ∧ x.f0.f1 ≤ 3) ∧ 1 ≤ items.length ∧ 0 ≤ a2 ∧ a2 ≤ 2 ∧ l3.length ≤ 5 := by
  unfold paperOk at h
  simp only [Bool.and_eq_true, wiB_iff, List.all_eq_true, Bool.not_eq_true', decide_eq_false_iff_not, itemOk, judgeOk, decide_eq_true_eq] at h
  obtain ⟨⟨h1, h2⟩, h3, h4, h5, ⟨h6, h7⟩, h8, _⟩ := h
  refine ⟨⟨by omega, fun x hx => ?_, by omega, fun x hx => ?_⟩, fun x hx => ?_, by omega, h6, h7, by omega⟩
  · obtain ⟨⟨a, b⟩, c, d⟩ := h3 x hx; exact ⟨a, b, c, d⟩
  · obtain ⟨_, _, _, ⟨a, b⟩, c, d⟩ := h5 x hx; exact ⟨a, b, c, d⟩
  · obtain ⟨a, b, c, _⟩ := h5 x hx; exact ⟨a, b, c⟩
def biasTo (judges : List S30) (q : Nat) : List S28 := (judges.take q).map fun x => x.f0
theorem biasTo_length (judges : List S30) (q : Nat) (h : q ≤ judges.length) : (biasTo judges q).length = q := by unfold biasTo; rw [List.length_map, List.length_take]; omega
theorem biasTo_succ (judges : List S30) (q : Nat) (h : q < judges.length) : biasTo judges (q + 1) = biasTo judges q ++ [(judges.getD q z30).f0] := by
  unfold biasTo
  rw [List.take_succ_eq_append_getElem h, List.map_append, List.getD_eq_getElem?_getD, List.getElem?_eq_getElem h]; rfl
theorem biasTo_all (judges : List S30) : biasTo judges judges.length = judges.map fun x => x.f0 := by unfold biasTo; rw [List.take_length]
/-- What open leaves of a valid paper. -/
def svOf (items : List S93) (judges : List S30) (a2 : Int) : Sv := visitP items judges a2 items.length { sv0 judges.length with it := initIt 248 } (fun _ => 0) 0 (judges.map fun x => x.f0)
def OpenPost (items : List S93) (judges : List S30) (a2 : Int) (l3 : List Int) (v0 v1 v3 : Value) (w : World) (e : Ending) (w' : World) : Prop :=
  Below w.heap.size w w' ∧ ((paperOk items judges a2 l3 = false ∧ e = .returned (.tuple #[.pointer none, .int .i64 90])) ∨
    (paperOk items judges a2 l3 = true ∧ ∃ g gr gm, e = .returned (.tuple #[.pointer (some ⟨g, 0, none⟩), .int .i64 0]) ∧ IsSv w' g gr gm judges.length v0 v1 a2 v3 (svOf items judges a2) ∧ w.heap.size ≤ g ∧ w.heap.size ≤ gr ∧ w.heap.size ≤ gm))

end Go.Proofs.Ytinnjghpmambiaa.Ext
