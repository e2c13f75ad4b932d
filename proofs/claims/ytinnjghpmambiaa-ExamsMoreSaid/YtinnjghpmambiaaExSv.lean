import Derived.Test.YtinnjghpmambiaaExChk2
namespace Go.Proofs.Ytinnjghpmambiaa.Ext
open Go.RowKit Go.Proofs.YtinnjghpmambiaaW.PrintWords Go.Proofs.YtinnjghpmambiaaW.PrintLast Go.Proofs.YtinnjghpmambiaaW.PrintMore Go.Proofs.Ytinnjghpmambiaa.Print
set_option linter.unusedVariables false
set_option linter.unusedSimpArgs false

/-- w' is w but for what the blocks of S hold, and for new blocks. -/
structure Wrote (S : Nat → Prop) (w w' : World) : Prop where
  os : w'.os = w.os
  tape : w'.tape = w.tape
  output : w'.output = w.output
  size : w.heap.size ≤ w'.heap.size
  block : ∀ k, k < w.heap.size → ¬ S k → w'.heap[k]? = w.heap[k]?
namespace Wrote
variable {S S' : Nat → Prop} {w w1 w2 : World}
theorem refl (S : Nat → Prop) (w : World) : Wrote S w w := ⟨rfl, rfl, rfl, Nat.le_refl _, fun _ _ _ => rfl⟩
theorem trans (h : Wrote S w w1) (k : Wrote S w1 w2) : Wrote S w w2 := ⟨k.os.trans h.os, k.tape.trans h.tape, k.output.trans h.output, Nat.le_trans h.size k.size, fun i hi hn => (k.block i (Nat.lt_of_lt_of_le hi h.size) hn).trans (h.block i hi hn)⟩
/-- What is written later may lie in blocks that were not there. -/
theorem then_ (h : Wrote S w w1) (k : Wrote S' w1 w2) (hs : ∀ i, i < w.heap.size → S' i → S i) : Wrote S w w2 := ⟨k.os.trans h.os, k.tape.trans h.tape, k.output.trans h.output, Nat.le_trans h.size k.size, fun i hi hn => (k.block i (Nat.lt_of_lt_of_le hi h.size) (fun e => hn (hs i hi e))).trans (h.block i hi hn)⟩
theorem mono (h : Wrote S w w1) (hs : ∀ i, S i → S' i) : Wrote S' w w1 := ⟨h.os, h.tape, h.output, h.size, fun i hi hn => h.block i hi (fun e => hn (hs i e))⟩
theorem of_below (h : Below w.heap.size w w1) : Wrote S w w1 := ⟨h.os, h.tape, h.output, h.size, fun i hi _ => h.block i hi⟩
theorem alloc (h : Wrote S w w1) (o : Obj) : Wrote S w (w1.alloc o) := h.trans (of_below ((Below.refl _ _).alloc (Nat.le_refl _) o))
theorem drewN (h : Wrote S w w1) (n : Nat) : Wrote S w (w1.drewN n) := ⟨h.os, h.tape, h.output, h.size, h.block⟩
theorem drew (h : Wrote S w w1) : Wrote S w w1.drew := ⟨h.os, h.tape, h.output, h.size, h.block⟩
theorem setCell (h : Wrote S w w1) {a : Addr} (ha : S a.block ∨ w.heap.size ≤ a.block) (u : Value) : Wrote S w (w1.setCell a u) :=
  ⟨h.os, h.tape, h.output, by have := h.size; simp [World.setCell]; exact this, fun i hi hn => (Below.heap_setCell _ _ _ _ (by rintro rfl; rcases ha with ha | ha; exact hn ha; omega)).trans (h.block i hi hn)⟩
theorem below {B : Nat} {w0 : World} (h : Wrote S w w1) (hb : Below B w0 w) (hB : B ≤ w.heap.size) (hs : ∀ i, S i → B ≤ i) : Below B w0 w1 :=
  ⟨h.os.trans hb.os, h.tape.trans hb.tape, h.output.trans hb.output, Nat.le_trans hb.size h.size, fun i hi => (h.block i (by omega) (fun e => by have := hs i e; omega)).trans (hb.block i hi)⟩
theorem row {g t n : Nat} {f : Nat → Value} (h : Wrote S w w1) (hr : w.rowIs g t n f) (hn : ¬ S g) : w1.rowIs g t n f := hr.of_block (h.block g hr.lt hn)
end Wrote

theorem min_if (a b : Int) : min a b = if b < a then b else a := by omega
theorem max_if (a b : Int) : max a b = if a < b then b else a := by omega
/-- add, at two cells of a row. -/
def AddPost (g o n t : Nat) (f : Nat → Value) (lo hi : Int) (w : World) (e : Ending) (w' : World) : Prop :=
  e = .returned (.tuple #[]) ∧ Wrote (· = g) w w' ∧ w'.rowIs g t n (fun j => if j = o + 1 then .int .i64 hi else if j = o then .int .i64 lo else f j)
set_option maxHeartbeats 1000000 in
theorem ex_add (g o n t : Nat) (f : Nat → Value) (lo0 hi0 lo hi : Int) (w : World) (hr : w.rowIs g t n f) (ho : o + 1 < n) (h0 : f o = .int .i64 lo0) (h1 : f (o + 1) = .int .i64 hi0) :
    Calls Try.prog 53 #[.pointer (some ⟨g, o, none⟩), .agg #[.int .i64 lo, .int .i64 hi]] w (AddPost g o n t f (min lo0 lo) (max hi0 hi) w) := by
  have c0 : w.cell? ⟨g, o, none⟩ = some (.int .i64 lo0) := by rw [hr.cell (by omega), h0]
  have c1 : w.cell? ⟨g, o + 1, none⟩ = some (.int .i64 hi0) := by rw [hr.cell (by omega), h1]
  have z0 := hr.frozen o
  have z1 := hr.frozen (o + 1)
  have hlt := hr.lt
  have HR := Aside0.mk hr
  clear hr h0 h1
  go_enter Try.func53, Try.ntmps53
  go_wp2
  go_region
  all_goals
    go_end0
    refine ⟨rfl, ?_, ?_⟩
    · refine Wrote.drew (Wrote.alloc (Wrote.setCell (Wrote.setCell (Wrote.refl (· = g) w) ?_ _) ?_ _) _) <;> exact .inl rfl
    · rw [← min_if, ← max_if]; exact ((HR.out.set o _).set (o + 1) _).alloc _

/-! ### the survey -/
structure Sv where
  rlo : Int
  rhi : Int
  it : Nat → Int
  right : Nat → Bool
  fewest : Int
  poss : Bool
  cnt : Nat
def upd {α : Type} (f : Nat → α) (k : Nat) (v : α) : Nat → α := fun j => if j = k then v else f j
/-- The survey's cells. -/
def svc (v0 v1 : Value) (a2 : Int) (v3 : Value) (gm : Nat) (vr : Value) (S : Sv) : Nat → Value := fun k =>
  if k = 0 then v0 else if k = 1 then v1 else if k = 2 then .int .i64 a2 else if k = 3 then v3 else if k = 4 then .int .i64 S.rlo else if k = 5 then .int .i64 S.rhi
  else if k = 254 then .map (some gm) else if k = 255 then vr else if k = 256 then .int .i64 S.fewest else if k = 257 then .bool S.poss else .int .i64 (S.it (k - 6))
/-- How whatever a map holds is read: as nothing. -/
def blind (_ : Value) : Option (DataW Unit × List MemPlace) := some (.nil, [])
structure IsSv (W : World) (g gr gm nj : Nat) (v0 v1 : Value) (a2 : Int) (v3 : Value) (S : Sv) : Prop where
  row : W.rowIs g 90 258 (svc v0 v1 a2 v3 gm (.slice (some ⟨gr, 0, none⟩) nj nj) S)
  right : W.rowIs gr 4 nj (fun j => .bool (S.right j))
  map : ∃ D, W.ownsMap Try.prog 3 blind gm S.cnt D
namespace IsSv
variable {W W1 : World} {g gr gm nj : Nat} {v0 v1 : Value} {a2 : Int} {v3 : Value} {S : Sv}
theorem ne1 (h : IsSv W g gr gm nj v0 v1 a2 v3 S) : g ≠ gr := by
  rintro rfl
  obtain ⟨⟨cs, h1, _⟩, ⟨cs2, h2, _⟩, _⟩ := h
  rw [h1] at h2
  injection h2 with h2
  injection h2 with _ h2
  exact absurd h2 (by decide)
theorem ne2 (h : IsSv W g gr gm nj v0 v1 a2 v3 S) : g ≠ gm := by
  rintro rfl
  obtain ⟨⟨cs, h1, _⟩, _, D, es, cl, h2, _⟩ := h
  rw [h1] at h2
  injection h2 with h2
  cases h2
theorem ne3 (h : IsSv W g gr gm nj v0 v1 a2 v3 S) : gr ≠ gm := by
  rintro rfl
  obtain ⟨_, ⟨cs, h1, _⟩, D, es, cl, h2, _⟩ := h
  rw [h1] at h2
  injection h2 with h2
  cases h2
theorem keep {T : Nat → Prop} (h : IsSv W g gr gm nj v0 v1 a2 v3 S) (hw : Wrote T W W1) (h1 : ¬ T g) (h2 : ¬ T gr) (h3 : ¬ T gm) : IsSv W1 g gr gm nj v0 v1 a2 v3 S :=
  ⟨hw.row h.row h1, hw.row h.right h2, by
    obtain ⟨D, es, cl, hb, r⟩ := h.map
    exact ⟨D, es, cl, (hw.block gm (Array.getElem?_eq_some_iff.1 hb).1 h3).trans hb, r⟩⟩
theorem below (h : IsSv W g gr gm nj v0 v1 a2 v3 S) (hw : Below W.heap.size W W1) : IsSv W1 g gr gm nj v0 v1 a2 v3 S :=
  h.keep (T := fun _ => False) (Wrote.of_below hw) (fun h => h) (fun h => h) (fun h => h)
/-- A row of the survey's has been written. -/
theorem wrote {S' : Sv} (h : IsSv W g gr gm nj v0 v1 a2 v3 S) (hw : Wrote (· = g) W W1) (hr : W1.rowIs g 90 258 (svc v0 v1 a2 v3 gm (.slice (some ⟨gr, 0, none⟩) nj nj) S')) (hs : S'.right = S.right) (hc : S'.cnt = S.cnt) : IsSv W1 g gr gm nj v0 v1 a2 v3 S' :=
  ⟨hr, by rw [hs]; exact hw.row h.right (fun e => h.ne1 e.symm), by
    obtain ⟨D, es, cl, hb, r⟩ := h.map
    rw [hc]
    exact ⟨D, es, cl, (hw.block gm (Array.getElem?_eq_some_iff.1 hb).1 (fun e => h.ne2 e.symm)).trans hb, r⟩⟩
end IsSv

/-- The grade of a result: how many limits it reaches. -/
def gradeF (l : List Int) (r : Int) : Int := ((l.takeWhile fun x => decide (x ≤ r)).length : Int)
theorem takeWhile_stop {l : List Int} {r : Int} {k : Nat} (hk : k ≤ l.length) (h1 : ∀ j, j < k → l.getD j 0 ≤ r) (h2 : k = l.length ∨ r < l.getD k 0) : (l.takeWhile fun x => decide (x ≤ r)).length = k := by
  induction l generalizing k with
  | nil => simp at hk; simp [hk]
  | cons x l ih =>
    cases k with
    | zero =>
      rcases h2 with h2 | h2
      · simp at h2
      · have : ¬ x ≤ r := by simpa using h2
        simp [List.takeWhile_cons, this]
    | succ k =>
      have h0 : x ≤ r := by simpa using h1 0 (by omega)
      rw [List.takeWhile_cons, if_pos (by simpa using h0), List.length_cons, ih (k := k) (by simpa using hk) (fun j hj => by simpa using h1 (j + 1) (by omega)) (by simpa using h2)]

set_option maxHeartbeats 1000000 in
theorem ex_grade (g n : Nat) (f : Nat → Value) (A : Option Addr) (c : Nat) (l : List Int) (r : Int) (w : World) (hr : w.rowIs g 90 n f) (hn : 3 < n) (hf : f 3 = .slice A l.length c) (hl : Kd.C (Kd.int .i64) w A l.length l) :
    Calls Try.prog 40 #[.pointer (some ⟨g, 0, none⟩), .int .i64 r] w fun e w' => e = .returned (.int .i64 (gradeF l r)) ∧ w = w' := by
  have c3 : w.cell? ⟨g, 3, none⟩ = some (.slice A l.length c) := by rw [hr.cell hn, hf]
  have b0 := C_len hl
  have HL := Aside0.mk hl
  clear hr hn hf hl
  go_enter Try.func40, Try.ntmps40
  go_wp2
  go_loop [5] (fun i => ∃ k : Nat, k ≤ l.length ∧ i = .int .i64 k ∧ Aside0 (∀ j, j < k → l.getD j 0 ≤ r)) (fun i => l.length - (intOf i).toNat)
  case atStart => exact ⟨0, Nat.zero_le _, rfl, ⟨fun j hj => absurd hj (Nat.not_lt_zero _)⟩⟩
  case round =>
    obtain ⟨k, hk, rfl, hm⟩ := hrel
    by_cases hlt : k < l.length
    · obtain ⟨ad, e, hc⟩ := Kd.at_int HL.out (k : Int) (by omega) (by omega)
      cases e
      have hy : rd l (k : Int) = l.getD k 0 := rfl
      rw [hy, Int.toNat_natCast] at hc
      clear hy
      generalize hy : l.getD k 0 = y at hc
      have HY := Aside0.mk hy
      clear hy
      by_cases hyr : y ≤ r
      · go_wp2
        go_round
        case rel =>
          refine ⟨k + 1, by omega, by go_num, ⟨fun j hj => ?_⟩⟩
          by_cases e : j = k
          · subst e; rw [HY.out]; exact hyr
          · exact hm.out j (by omega)
        case measure => simp [intOf]; omega
      · go_wp2
        go_ret
        exact ⟨by unfold gradeF; rw [takeWhile_stop hk hm.out (.inr (by rw [HY.out]; omega))]; rfl, rfl⟩
    · go_wp2
      go_ret
      have : k = l.length := by omega
      exact ⟨by unfold gradeF; rw [takeWhile_stop hk hm.out (.inl this)]; rfl, rfl⟩
end Go.Proofs.Ytinnjghpmambiaa.Ext
