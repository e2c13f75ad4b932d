import Derived.Test.YtinnjghpmambiaaExSv
import Derived.Maps.Own
import Derived.Deep.RegionWith
import Derived.StillTailTactics
namespace Go.Proofs.Ytinnjghpmambiaa.Ext
open Go.RowKit Go.Proofs.YtinnjghpmambiaaW.PrintWords Go.Proofs.YtinnjghpmambiaaW.PrintLast Go.Proofs.YtinnjghpmambiaaW.PrintMore Go.Proofs.Ytinnjghpmambiaa.Print
set_option linter.unusedVariables false
set_option linter.unusedSimpArgs false

/-- How many judges are wrong. -/
def wrongOf (bs : List S28) : Nat := bs.countP fun b => decide (b.f1 < b.f0)
def itAfter (t : Nat → Int) (r : Int) (it : Nat → Int) : Nat → Nat → Int
  | 0 => it
  | k + 1 => upd (upd (itAfter t r it k) (62 * k + 2 * (t k).toNat) (min (itAfter t r it k (62 * k + 2 * (t k).toNat)) r)) (62 * k + 2 * (t k).toNat + 1) (max (itAfter t r it k (62 * k + 2 * (t k).toNat + 1)) r)
def rightAfter (bs : List S28) (right : Nat → Bool) (k : Nat) : Nat → Bool := fun j => if j < k then right j || decide ((bs.getD j z28).f0 ≤ (bs.getD j z28).f1) else right j
def endP (n : Nat) (wr : Int) (S : Sv) (t : Nat → Int) (r : Int) (bs : List S28) : Sv :=
  if wr < (wrongOf bs : Int) then { S with fewest := min S.fewest (wrongOf bs : Int) }
  else { rlo := min S.rlo r, rhi := max S.rhi r, it := itAfter t r S.it n, right := rightAfter bs S.right bs.length, fewest := min S.fewest (wrongOf bs : Int), poss := true, cnt := S.cnt + 1 }

/-- The survey's three blocks. -/
def SB (g gr gm : Nat) : Nat → Prop := fun k => k = g ∨ k = gr ∨ k = gm

theorem wrongOf_succ (bs : List S28) (k : Nat) (h : k < bs.length) : wrongOf (bs.take (k + 1)) = wrongOf (bs.take k) + if (bs.getD k z28).f1 < (bs.getD k z28).f0 then 1 else 0 := by
  unfold wrongOf
  rw [List.take_succ_eq_append_getElem h, List.countP_append]
  simp only [List.countP_cons, List.countP_nil, List.getD_eq_getElem?_getD, List.getElem?_eq_getElem h, Option.getD_some, decide_eq_true_eq, Nat.zero_add]
theorem wrongOf_le (bs : List S28) (k : Nat) : wrongOf (bs.take k) ≤ k := by
  unfold wrongOf
  exact Nat.le_trans List.countP_le_length (List.length_take_le _ _)

theorem svc_it (v0 v1 : Value) (a2 : Int) (v3 : Value) (gm : Nat) (vr : Value) (S : Sv) (o : Nat) (h0 : 6 ≤ o) (h1 : o < 254) : svc v0 v1 a2 v3 gm vr S o = .int .i64 (S.it (o - 6)) := by
  unfold svc
  rw [if_neg (by omega), if_neg (by omega), if_neg (by omega), if_neg (by omega), if_neg (by omega), if_neg (by omega), if_neg (by omega), if_neg (by omega), if_neg (by omega), if_neg (by omega)]
/-- What is alike but for the results' cells. -/
theorem svc_case {P : Nat → Prop} (h0 : P 0) (h1 : P 1) (h2 : P 2) (h3 : P 3) (h4 : P 4) (h5 : P 5) (hi : ∀ i, 6 ≤ i → i < 254 → P i) (h6 : P 254) (h7 : P 255) (h8 : P 256) (h9 : P 257) : ∀ i, i < 258 → P i := by
  intro i hi'
  by_cases a0 : i < 6
  · rcases (show i = 0 ∨ i = 1 ∨ i = 2 ∨ i = 3 ∨ i = 4 ∨ i = 5 by omega) with rfl | rfl | rfl | rfl | rfl | rfl <;> assumption
  · by_cases a1 : i < 254
    · exact hi i (by omega) a1
    · rcases (show i = 254 ∨ i = 255 ∨ i = 256 ∨ i = 257 by omega) with rfl | rfl | rfl | rfl <;> assumption
theorem IsSv.late {W : World} {g gr gm nj : Nat} {v0 v1 : Value} {a2 : Int} {v3 : Value} {S : Sv} (h : IsSv W g gr gm nj v0 v1 a2 v3 S) (m : Int) : IsSv (W.setCell ⟨g, 256, none⟩ (.int .i64 m)) g gr gm nj v0 v1 a2 v3 { S with fewest := m } := by
  refine h.wrote (Wrote.setCell (Wrote.refl (· = g) W) (.inl rfl) _) ((h.row.set 256 _).congr ?_) rfl rfl
  refine svc_case rfl rfl rfl rfl rfl rfl (fun i h0 h1 => ?_) rfl rfl rfl rfl
  simp only [show ¬ i = 256 by omega, if_false]
  rw [svc_it _ _ _ _ _ _ _ i h0 h1, svc_it _ _ _ _ _ _ _ i h0 h1]
theorem IsSv.possible {W : World} {g gr gm nj : Nat} {v0 v1 : Value} {a2 : Int} {v3 : Value} {S : Sv} (h : IsSv W g gr gm nj v0 v1 a2 v3 S) : IsSv (W.setCell ⟨g, 257, none⟩ (.bool true)) g gr gm nj v0 v1 a2 v3 { S with poss := true } := by
  refine h.wrote (Wrote.setCell (Wrote.refl (· = g) W) (.inl rfl) _) ((h.row.set 257 _).congr ?_) rfl rfl
  refine svc_case rfl rfl rfl rfl rfl rfl (fun i h0 h1 => ?_) rfl rfl rfl rfl
  simp only [show ¬ i = 257 by omega, if_false]
  rw [svc_it _ _ _ _ _ _ _ i h0 h1, svc_it _ _ _ _ _ _ _ i h0 h1]
theorem IsSv.results {W W1 : World} {g gr gm nj : Nat} {v0 v1 : Value} {a2 : Int} {v3 : Value} {S : Sv} (h : IsSv W g gr gm nj v0 v1 a2 v3 S) {lo hi : Int} {e : Ending} (hp : AddPost g 4 258 90 (svc v0 v1 a2 v3 gm (.slice (some ⟨gr, 0, none⟩) nj nj) S) lo hi W e W1) :
    IsSv W1 g gr gm nj v0 v1 a2 v3 { S with rlo := lo, rhi := hi } := by
  obtain ⟨_, hw, hr⟩ := hp
  refine h.wrote hw (hr.congr ?_) rfl rfl
  refine svc_case rfl rfl rfl rfl rfl rfl (fun i h0 h1 => ?_) rfl rfl rfl rfl
  simp only [show ¬ i = 4 + 1 by omega, show ¬ i = 4 by omega, if_false]
  rw [svc_it _ _ _ _ _ _ _ i h0 h1, svc_it _ _ _ _ _ _ _ i h0 h1]
theorem IsSv.item {W W1 : World} {g gr gm nj : Nat} {v0 v1 : Value} {a2 : Int} {v3 : Value} {S : Sv} (h : IsSv W g gr gm nj v0 v1 a2 v3 S) {o : Nat} (ho : 6 ≤ o) (ho2 : o + 1 < 254) {lo hi : Int} {e : Ending} (hp : AddPost g o 258 90 (svc v0 v1 a2 v3 gm (.slice (some ⟨gr, 0, none⟩) nj nj) S) lo hi W e W1) :
    IsSv W1 g gr gm nj v0 v1 a2 v3 { S with it := upd (upd S.it (o - 6) lo) (o - 6 + 1) hi } := by
  obtain ⟨_, hw, hr⟩ := hp
  refine h.wrote hw (hr.congr ?_) rfl rfl
  have hx : ∀ c, c < 6 ∨ 254 ≤ c → (if c = o + 1 then Value.int .i64 hi else if c = o then .int .i64 lo else svc v0 v1 a2 v3 gm (.slice (some ⟨gr, 0, none⟩) nj nj) S c) = svc v0 v1 a2 v3 gm (.slice (some ⟨gr, 0, none⟩) nj nj) S c := fun c hc => by rw [if_neg (by omega), if_neg (by omega)]
  refine svc_case (hx 0 (by omega)) (hx 1 (by omega)) (hx 2 (by omega)) (hx 3 (by omega)) (hx 4 (by omega)) (hx 5 (by omega)) (fun i h0 h1 => ?_) (hx 254 (by omega)) (hx 255 (by omega)) (hx 256 (by omega)) (hx 257 (by omega))
  show (if i = o + 1 then Value.int .i64 hi else if i = o then .int .i64 lo else svc v0 v1 a2 v3 gm (.slice (some ⟨gr, 0, none⟩) nj nj) S i) = _
  rw [svc_it _ _ _ _ _ _ _ i h0 h1, svc_it _ _ _ _ _ _ _ i h0 h1]
  simp only [upd]
  by_cases e1 : i = o + 1
  · rw [if_pos e1, if_pos (show i - 6 = o - 6 + 1 by omega)]
  · rw [if_neg e1, if_neg (show ¬ i - 6 = o - 6 + 1 by omega)]
    by_cases e2 : i = o
    · rw [if_pos e2, if_pos (show i - 6 = o - 6 by omega)]
    · rw [if_neg e2, if_neg (show ¬ i - 6 = o - 6 by omega)]
theorem box4 (w : World) (ty : TypeId) (t : Nat → Int) : (w.alloc (.cells #[.int .i64 (t 0), .int .i64 (t 1), .int .i64 (t 2), .int .i64 (t 3)] ty)).rowIs w.heap.size ty 4 (fun j => .int .i64 (t j)) :=
  World.rowIs_alloc w #[.int .i64 (t 0), .int .i64 (t 1), .int .i64 (t 2), .int .i64 (t 3)] ty _ (fun i hi => by
    have : i < 4 := hi
    rcases (show i = 0 ∨ i = 1 ∨ i = 2 ∨ i = 3 by omega) with rfl | rfl | rfl | rfl <;> rfl)
theorem rightAfter_succ (bs : List S28) (right : Nat → Bool) (k : Nat) : (fun j => if j = k then (right k || decide ((bs.getD k z28).f0 ≤ (bs.getD k z28).f1)) else rightAfter bs right k j) = rightAfter bs right (k + 1) := by
  funext j
  unfold rightAfter
  by_cases e : j = k
  · subst e; rw [if_pos rfl, if_pos (by omega)]
  · rw [if_neg e]
    by_cases h : j < k
    · rw [if_pos h, if_pos (by omega)]
    · rw [if_neg h, if_neg (by omega)]
theorem rightAfter_at (bs : List S28) (right : Nat → Bool) (k : Nat) : rightAfter bs right k k = right k := by unfold rightAfter; rw [if_neg (by omega)]
def EndPost (g gr gm nj : Nat) (v0 v1 : Value) (a2 : Int) (v3 : Value) (S : Sv) (w : World) (e : Ending) (w' : World) : Prop :=
  e = .returned (.tuple #[]) ∧ IsSv w' g gr gm nj v0 v1 a2 v3 S ∧ Wrote (SB g gr gm) w w'

theorem IsSv.drew {W : World} {g gr gm nj : Nat} {v0 v1 : Value} {a2 : Int} {v3 : Value} {S : Sv} (h : IsSv W g gr gm nj v0 v1 a2 v3 S) : IsSv W.drew g gr gm nj v0 v1 a2 v3 S := ⟨h.row.drew, h.right.drew, h.map⟩
theorem grown_wrote {W W1 : World} {b : Nat} (hg : W.drew.grownBy W1 (some b)) : Wrote (· = b) W W1 := ⟨hg.os, hg.tape, hg.output, hg.size, fun i hi hn => hg.block i hi (fun e => hn (Option.some.inj e))⟩
theorem IsSv.mapped {W W1 : World} {g gr gm nj : Nat} {v0 v1 : Value} {a2 : Int} {v3 : Value} {S : Sv} {D : DataW Unit} (h : IsSv W g gr gm nj v0 v1 a2 v3 S) (hg : W.drew.grownBy W1 (some gm)) (ho : W1.ownsMap Try.prog 3 blind gm (S.cnt + 1) D) : IsSv W1 g gr gm nj v0 v1 a2 v3 { S with cnt := S.cnt + 1 } :=
  ⟨(grown_wrote hg).row h.row h.ne2, (grown_wrote hg).row h.right h.ne3, D, ho⟩
/-- In the middle of 'end': the survey, the two boxes, the world. -/
structure Mid (g gr gm nj : Nat) (v0 v1 : Value) (a2 : Int) (v3 : Value) (bt bo : Nat) (t : Nat → Int) (r : Int) (w : World) (S : Sv) (W : World) : Prop where
  sv : IsSv W g gr gm nj v0 v1 a2 v3 S
  wr : Wrote (SB g gr gm) w W
  box : W.rowIs bt 129 4 (fun j => .int .i64 (t j))
  own : W.heap[bo]? = some (.cells #[.int .i64 r, .int .i64 r] 28 (0, 0))
  n1 : ¬ SB g gr gm bt
  n2 : ¬ SB g gr gm bo
  n3 : w.heap.size ≤ bt
  n4 : w.heap.size ≤ bo
namespace Mid
variable {g gr gm nj : Nat} {v0 v1 : Value} {a2 : Int} {v3 : Value} {bt bo : Nat} {t : Nat → Int} {r : Int} {w : World} {S S' : Sv} {W W1 : World}
theorem drew (h : Mid g gr gm nj v0 v1 a2 v3 bt bo t r w S W) : Mid g gr gm nj v0 v1 a2 v3 bt bo t r w S W.drew := ⟨h.sv.drew, h.wr.drew, h.box, h.own, h.n1, h.n2, h.n3, h.n4⟩
theorem step {T : Nat → Prop} (h : Mid g gr gm nj v0 v1 a2 v3 bt bo t r w S W) (hs : IsSv W1 g gr gm nj v0 v1 a2 v3 S') (hw : Wrote T W W1) (hT : ∀ i, T i → SB g gr gm i) : Mid g gr gm nj v0 v1 a2 v3 bt bo t r w S' W1 :=
  ⟨hs, h.wr.then_ hw (fun i _ hi => hT i hi), hw.row h.box (fun e => h.n1 (hT _ e)), (hw.block bo (lt_of_block h.own) (fun e => h.n2 (hT _ e))).trans h.own, h.n1, h.n2, h.n3, h.n4⟩
theorem results (h : Mid g gr gm nj v0 v1 a2 v3 bt bo t r w S W) {lo hi : Int} {e : Ending} (hp : AddPost g 4 258 90 (svc v0 v1 a2 v3 gm (.slice (some ⟨gr, 0, none⟩) nj nj) S) lo hi W e W1) : Mid g gr gm nj v0 v1 a2 v3 bt bo t r w { S with rlo := lo, rhi := hi } W1 :=
  h.step (h.sv.results hp) hp.2.1 (fun i e => .inl e)
theorem item (h : Mid g gr gm nj v0 v1 a2 v3 bt bo t r w S W) {o : Nat} (ho : 6 ≤ o) (ho2 : o + 1 < 254) {lo hi : Int} {e : Ending} (hp : AddPost g o 258 90 (svc v0 v1 a2 v3 gm (.slice (some ⟨gr, 0, none⟩) nj nj) S) lo hi W e W1) : Mid g gr gm nj v0 v1 a2 v3 bt bo t r w { S with it := upd (upd S.it (o - 6) lo) (o - 6 + 1) hi } W1 :=
  h.step (h.sv.item ho ho2 hp) hp.2.1 (fun i e => .inl e)
theorem setRight (h : Mid g gr gm nj v0 v1 a2 v3 bt bo t r w S W) (k : Nat) (v : Bool) : Mid g gr gm nj v0 v1 a2 v3 bt bo t r w { S with right := fun j => if j = k then v else S.right j } (W.setCell ⟨gr, k, none⟩ (.bool v)) :=
  h.step (T := (· = gr)) ⟨h.sv.row.setOther h.sv.ne1 _, (h.sv.right.set k _).congr (fun i _ => by show (if i = k then Value.bool v else .bool (S.right i)) = .bool (if i = k then v else S.right i); split <;> rfl), by
    obtain ⟨D, es, cl, hb, r⟩ := h.sv.map
    exact ⟨D, es, cl, (Below.heap_setCell _ _ _ _ (fun e => h.sv.ne3 e.symm)).trans hb, r⟩⟩ (Wrote.setCell (Wrote.refl (· = gr) W) (.inl rfl) _) (fun i e => .inr (.inl e))
theorem alloc (h : Mid g gr gm nj v0 v1 a2 v3 bt bo t r w S W) (o : Obj) : Mid g gr gm nj v0 v1 a2 v3 bt bo t r w S (W.alloc o) :=
  h.step (T := fun _ => False) (h.sv.below ((Below.refl _ _).alloc (Nat.le_refl _) o)) (Wrote.alloc (Wrote.refl _ _) o) (fun _ h => h.elim)
end Mid

set_option maxRecDepth 100000 in
set_option maxHeartbeats 4000000 in
theorem ex_end (g gr gm : Nat) (A0 : Option Addr) (n0 c0 : Nat) (v1 : Value) (a2 : Int) (A3 : Option Addr) (c3 : Nat) (l3 : List Int) (S : Sv) (t : Nat → Int) (r : Int) (A : Option Addr) (c : Nat) (bs : List S28) (w : World)
    (hI : IsSv w g gr gm bs.length (.slice A0 n0 c0) v1 a2 (.slice A3 l3.length c3) S)
    (hbs : ∀ W, Wrote (SB g gr gm) w W → Kd.C k28 W A bs.length bs)
    (hl3 : ∀ W, Wrote (SB g gr gm) w W → Kd.C (Kd.int .i64) W A3 l3.length l3)
    (hn0 : n0 ≤ 4) (ht : ∀ i, i < 4 → 0 ≤ t i ∧ t i ≤ 30) (hcnt : S.cnt < 1000000000) :
    Calls Try.prog 85 #[.pointer (some ⟨g, 0, none⟩), .agg #[.int .i64 (t 0), .int .i64 (t 1), .int .i64 (t 2), .int .i64 (t 3)], .int .i64 r, .slice A bs.length c] w
      (EndPost g gr gm bs.length (.slice A0 n0 c0) v1 a2 (.slice A3 l3.length c3) (endP n0 a2 S t r bs) w) := by
  have hgl := hI.row.lt
  have hrl := hI.right.lt
  have hml : gm < w.heap.size := by obtain ⟨D, h⟩ := hI.map; exact h.lt
  have b0 := C_len (hbs w (Wrote.refl _ _))
  have HBS := Aside0.mk hbs
  have HL3 := Aside0.mk hl3
  have HI := Aside0.mk hI
  clear hbs hl3 hI
  go_enter Try.func85, Try.ntmps85
  go_wp2
  obtain ⟨w1, hw1⟩ : ∃ w1, w1 = w.alloc (.cells #[.int .i64 (t 0), .int .i64 (t 1), .int .i64 (t 2), .int .i64 (t 3)] 129) := ⟨_, rfl⟩
  rw [← hw1]
  have HW1 := Aside0.mk hw1
  clear hw1
  go_loopw [8, 17] (fun x i wr => ∃ k : Nat, k ≤ bs.length ∧ i = .int .i64 k ∧ x = .int .i64 (wrongOf (bs.take k) : Nat) ∧ Aside0 (Wrote (fun _ => False) w1 wr)) (fun _ i _ => bs.length - (intOf i).toNat)
  case atStart => exact ⟨0, Nat.zero_le _, rfl, rfl, ⟨Wrote.refl _ _⟩⟩
  case round =>
    obtain ⟨k, hk, rfl, rfl, hW⟩ := hrel
    by_cases hlt : k < bs.length
    · have hle := wrongOf_le bs k
      obtain ⟨ad, e, hc0, hc1⟩ := at_T28 (HBS.out wr ((Wrote.alloc (Wrote.refl _ _) _).trans ((HW1.out ▸ hW.out : Wrote (fun _ => False) (w.alloc _) wr).mono (fun _ h => h.elim)))) (k : Int) (by omega) (by omega)
      cases e
      have hy : rd_T28 bs (k : Int) = bs.getD k z28 := rfl
      rw [hy, Int.toNat_natCast] at hc0 hc1
      clear hy
      have HS := Aside0.mk (wrongOf_succ bs k hlt)
      generalize hy : bs.getD k z28 = y at hc0 hc1 HS
      clear hy
      generalize hq : wrongOf (bs.take k) = q at hle HS
      clear hq
      by_cases hyr : y.f1 < y.f0
      · have HS2 := HS.out
        rw [if_pos hyr] at HS2
        replace HS2 := Aside0.mk HS2
        go_wp2
        go_roundw
        case rel => exact ⟨k + 1, by omega, by go_num, by rw [HS2.out]; go_num, ⟨hW.out.alloc _⟩⟩
        case measure => simp [intOf]; omega
      · have HS2 := HS.out
        rw [if_neg hyr] at HS2
        replace HS2 := Aside0.mk HS2
        go_wp2
        go_roundw
        case rel => exact ⟨k + 1, by omega, by go_num, by rw [HS2.out]; go_num, ⟨hW.out.alloc _⟩⟩
        case measure => simp [intOf]; omega
    · have hkb : k = bs.length := by omega
      subst hkb
      rw [List.take_length]
      have hwf : Wrote (fun _ => False) w wr := (Wrote.alloc (Wrote.refl _ _) _).trans ((HW1.out ▸ hW.out : Wrote (fun _ => False) (w.alloc _) wr))
      have hbox : wr.rowIs w.heap.size 129 4 (fun j => .int .i64 (t j)) := (HW1.out ▸ hW.out : Wrote (fun _ => False) (w.alloc _) wr).row (box4 w _ t) (fun h => h)
      have HI2 := Aside0.mk (HI.out.keep hwf (fun h => h) (fun h => h) (fun h => h))
      have HB := Aside0.mk hbox
      have HWF := Aside0.mk hwf
      clear hwf hbox hW HI HW1 hk hlt
      have hgl2 : g < wr.heap.size := HI2.out.row.lt
      have x256 : wr.cell? ⟨g, 256, none⟩ = some (.int .i64 S.fewest) := HI2.out.row.cell (by omega)
      have z256 := HI2.out.row.frozen 256
      have x2 : wr.cell? ⟨g, 2, none⟩ = some (.int .i64 a2) := HI2.out.row.cell (by omega)
      have x257 : wr.cell? ⟨g, 257, none⟩ = some (.bool S.poss) := HI2.out.row.cell (by omega)
      have z257 := HI2.out.row.frozen 257
      have hq0 : wrongOf bs ≤ bs.length := by have := wrongOf_le bs bs.length; rwa [List.take_length] at this
      have HF : Hid (endP n0 a2 S t r bs = endP n0 a2 S t r bs) := rfl
      obtain ⟨q, hq⟩ : ∃ q, q = wrongOf bs := ⟨_, rfl⟩
      rw [← hq] at hq0 ⊢
      have HQ := Aside0.mk hq
      clear hq
      obtain ⟨m, hm⟩ : ∃ m, (if (q : Int) < S.fewest then (q : Int) else S.fewest) = m := ⟨_, rfl⟩
      have HM : Hid (min S.fewest (q : Int) = m) := by rw [min_if]; exact hm
      by_cases hlate : a2 < (q : Int)
      · go_wp2
        go_end0
        refine ⟨rfl, ?_, ?_⟩
        · unfold endP
          rw [← HQ.out, if_pos hlate, HM.out]
          exact HI2.out.late m
        · exact (HWF.out.mono (fun _ h => h.elim)).setCell (.inl (.inl rfl)) _
      · have hlate' : (q : Int) ≤ a2 := by omega
        go_wp2
        have hI3 := (HI2.out.late m).possible.below ((Below.refl _ _).alloc (Nat.le_refl _) (.cells #[.int .i64 r, .int .i64 r] 28))
        have hw3 : Wrote (SB g gr gm) w (((wr.setCell ⟨g, 256, none⟩ (.int .i64 m)).setCell ⟨g, 257, none⟩ (.bool true)).alloc (.cells #[.int .i64 r, .int .i64 r] 28)) := (((HWF.out.mono (fun _ h => h.elim)).setCell (.inl (.inl rfl)) _).setCell (.inl (.inl rfl)) _).alloc _
        have hb3 : (((wr.setCell ⟨g, 256, none⟩ (.int .i64 m)).setCell ⟨g, 257, none⟩ (.bool true)).alloc (.cells #[.int .i64 r, .int .i64 r] 28)).rowIs w.heap.size 129 4 (fun j => .int .i64 (t j)) := ((HB.out.setOther (by simp; omega) _).setOther (by simp; omega) _).alloc _
        have ho3 : (((wr.setCell ⟨g, 256, none⟩ (.int .i64 m)).setCell ⟨g, 257, none⟩ (.bool true)).alloc (.cells #[.int .i64 r, .int .i64 r] 28)).heap[wr.heap.size]? = some (.cells #[.int .i64 r, .int .i64 r] 28 (0, 0)) := by simpa using heap_alloc_new ((wr.setCell ⟨g, 256, none⟩ (.int .i64 m)).setCell ⟨g, 257, none⟩ (.bool true)) (.cells #[.int .i64 r, .int .i64 r] 28)
        have hlb : w.heap.size < wr.heap.size := HB.out.lt
        obtain ⟨w3, e3⟩ : ∃ w3, w3 = (((wr.setCell ⟨g, 256, none⟩ (.int .i64 m)).setCell ⟨g, 257, none⟩ (.bool true)).alloc (.cells #[.int .i64 r, .int .i64 r] 28)) := ⟨_, rfl⟩
        rw [← e3] at hI3 hw3 hb3 ho3 ⊢
        obtain ⟨bo, ebo⟩ : ∃ bo, bo = wr.heap.size := ⟨_, rfl⟩
        rw [← ebo] at ho3 hlb ⊢
        obtain ⟨bt, ebt⟩ : ∃ bt, bt = w.heap.size := ⟨_, rfl⟩
        rw [← ebt] at hb3 hlb hgl hrl hml ⊢
        clear e3 ebo x256 z256 x2 x257 z257 hm HI2 HB HWF hgl2
        have HM3 := Aside0.mk (Mid.mk hI3 hw3 hb3 ho3 (by unfold SB; omega) (by unfold SB; omega) (by omega) (by omega))
        have HEB := Aside0.mk ebt
        clear hI3 hw3 hb3 ho3 ebt
        have y0 : w3.cell? ⟨bo, 0, none⟩ = some (.int .i64 r) := cell_of_blk HM3.out.own rfl
        have y1 : w3.cell? ⟨bo, 1, none⟩ = some (.int .i64 r) := cell_of_blk HM3.out.own rfl
        go_region_with (go_at_call 53; refine (ex_add g 4 258 90 (svc (.slice A0 n0 c0) v1 a2 (.slice A3 l3.length c3) gm (.slice (some ⟨gr, 0, none⟩) bs.length bs.length) { S with fewest := m, poss := true }) S.rlo S.rhi r r _ (by first | exact HM3.out.sv.row | exact HM3.out.sv.row.drew) (by omega) rfl rfl).mono ?_; rintro e w4 hp4; obtain rfl := hp4.1; replace hp4 := Aside0.mk hp4)
        clear y0 y1
        have HM4 : Aside0 (Mid g gr gm bs.length (.slice A0 n0 c0) v1 a2 (.slice A3 l3.length c3) bt bo t r w { S with fewest := m, poss := true, rlo := min S.rlo r, rhi := max S.rhi r } w4) := by first | exact ⟨HM3.out.results hp4.out⟩ | exact ⟨HM3.out.drew.results hp4.out⟩
        clear HM3 hp4
        have x0 : w4.cell? ⟨g, 0, none⟩ = some (.slice A0 n0 c0) := HM4.out.sv.row.cell (by omega)
        go_wp2
        clear x0
        go_loopw [62] (fun i wr => ∃ k : Nat, k ≤ n0 ∧ i = .int .i64 k ∧ Aside0 (Mid g gr gm bs.length (.slice A0 n0 c0) v1 a2 (.slice A3 l3.length c3) bt bo t r w { S with fewest := m, poss := true, rlo := min S.rlo r, rhi := max S.rhi r, it := itAfter t r S.it k } wr)) (fun i _ => n0 - (intOf i).toNat)
        case atStart => exact ⟨0, Nat.zero_le _, rfl, HM4⟩
        case round =>
          obtain ⟨k, hk, rfl, HM5⟩ := hrel
          by_cases hlt : k < n0
          · have hq := ht k (by omega)
            obtain ⟨tk, htk⟩ : ∃ tk, tk = (t k).toNat := ⟨_, rfl⟩
            have htk2 : t k = (tk : Int) := by omega
            have htk3 : tk ≤ 30 := by omega
            have x0 : wr.cell? ⟨bt, k, none⟩ = some (.int .i64 (tk : Int)) := by rw [← htk2]; exact HM5.out.box.cell (by omega)
            have y0 : wr.cell? ⟨bo, 0, none⟩ = some (.int .i64 r) := cell_of_blk HM5.out.own rfl
            have y1 : wr.cell? ⟨bo, 1, none⟩ = some (.int .i64 r) := cell_of_blk HM5.out.own rfl
            have HT := Aside0.mk htk
            clear htk htk2 hq
            go_wp2
            go_region_with (go_at_call 53; refine (ex_add g (6 + k * 62 + tk * 2) 258 90 (svc (.slice A0 n0 c0) v1 a2 (.slice A3 l3.length c3) gm (.slice (some ⟨gr, 0, none⟩) bs.length bs.length) { S with fewest := m, poss := true, rlo := min S.rlo r, rhi := max S.rhi r, it := itAfter t r S.it k }) (itAfter t r S.it k (6 + k * 62 + tk * 2 - 6)) (itAfter t r S.it k (6 + k * 62 + tk * 2 + 1 - 6)) r r _ (by first | exact HM5.out.sv.row | exact HM5.out.sv.row.drew) (by omega) (svc_it _ _ _ _ _ _ _ _ (by omega) (by omega)) (svc_it _ _ _ _ _ _ _ _ (by omega) (by omega))).mono ?_; rintro e w4 hp4; obtain rfl := hp4.1; replace hp4 := Aside0.mk hp4)
            all_goals
              have HM6 : Aside0 (Mid g gr gm bs.length (.slice A0 n0 c0) v1 a2 (.slice A3 l3.length c3) bt bo t r w { S with fewest := m, poss := true, rlo := min S.rlo r, rhi := max S.rhi r, it := itAfter t r S.it (k + 1) } w4) := by
                have e1 : 6 + k * 62 + tk * 2 - 6 = 62 * k + 2 * (t k).toNat := by have := HT.out; omega
                have e2 : 6 + k * 62 + tk * 2 + 1 - 6 = 62 * k + 2 * (t k).toNat + 1 := by have := HT.out; omega
                have h := hp4.out
                have h2 : Mid g gr gm bs.length (.slice A0 n0 c0) v1 a2 (.slice A3 l3.length c3) bt bo t r w { S with fewest := m, poss := true, rlo := min S.rlo r, rhi := max S.rhi r, it := upd (upd (itAfter t r S.it k) (6 + k * 62 + tk * 2 - 6) (min (itAfter t r S.it k (6 + k * 62 + tk * 2 - 6)) r)) (6 + k * 62 + tk * 2 - 6 + 1) (max (itAfter t r S.it k (6 + k * 62 + tk * 2 + 1 - 6)) r) } w4 := by
                  first | exact HM5.out.item (by omega) (by omega) h | exact HM5.out.drew.item (by omega) (by omega) h
                rw [e1, e2] at h2
                exact ⟨h2⟩
              clear HM5 hp4 x0 y0 y1
              go_wp2
              go_roundw
              case rel => exact ⟨k + 1, by omega, by go_num, HM6⟩
              case measure => simp [intOf]; omega
          · have hkn : n0 = k := by omega
            subst hkn
            clear hk hlt
            go_wp2
            go_loopw [79] (fun i wr => ∃ k : Nat, k ≤ bs.length ∧ i = .int .i64 k ∧ Aside0 (Mid g gr gm bs.length (.slice A0 n0 c0) v1 a2 (.slice A3 l3.length c3) bt bo t r w { S with fewest := m, poss := true, rlo := min S.rlo r, rhi := max S.rhi r, it := itAfter t r S.it n0, right := rightAfter bs S.right k } wr)) (fun i _ => bs.length - (intOf i).toNat)
            case atStart => exact ⟨0, Nat.zero_le _, rfl, ⟨by have h := HM5.out; rw [show rightAfter bs S.right 0 = S.right from funext fun j => by unfold rightAfter; rw [if_neg (by omega)]]; exact h⟩⟩
            case round =>
              clear HM5
              obtain ⟨k, hk, rfl, HM6⟩ := hrel
              by_cases hlt : k < bs.length
              · obtain ⟨ad, e, hc0, hc1⟩ := at_T28 (HBS.out _ HM6.out.wr) (k : Int) (by omega) (by omega)
                cases e
                have hy : rd_T28 bs (k : Int) = bs.getD k z28 := rfl
                rw [hy, Int.toNat_natCast] at hc0 hc1
                clear hy
                have HR := Aside0.mk (rightAfter_succ bs S.right k)
                have xr : wr.cell? ⟨gr, k, none⟩ = some (.bool (S.right k)) := by rw [HM6.out.sv.right.cell hlt]; exact congrArg (fun b => some (Value.bool b)) (rightAfter_at bs S.right k)
                have zr := HM6.out.sv.right.frozen k
                have x255 : wr.cell? ⟨g, 255, none⟩ = some (.slice (some ⟨gr, 0, none⟩) bs.length bs.length) := HM6.out.sv.row.cell (by omega)
                have hgw := HM6.out.sv.row.lt
                have hrw := HM6.out.sv.right.lt
                generalize hy : bs.getD k z28 = y at hc0 hc1 HR
                clear hy
                cases hq : S.right k with
                | true =>
                  rw [hq] at xr HR
                  clear hq
                  go_wp2
                  go_region
                  go_wp2
                  go_roundw
                  case rel =>
                    refine ⟨k + 1, by omega, by go_num, ⟨?_⟩⟩
                    rw [← HR.out]
                    exact ((HM6.out.setRight k true).alloc _).drew
                  case measure => simp [intOf]; omega
                | false =>
                  rw [hq] at xr HR
                  clear hq
                  go_wp2
                  go_region
                  go_wp2
                  go_roundw
                  case rel =>
                    refine ⟨k + 1, by omega, by go_num, ⟨?_⟩⟩
                    rw [← HR.out]
                    exact ((HM6.out.setRight k (decide (y.f0 ≤ y.f1))).alloc _).drew
                  case measure => simp [intOf]; omega
              · have hkn : bs.length = k := by omega
                have HR : Aside0 (Mid g gr gm bs.length (.slice A0 n0 c0) v1 a2 (.slice A3 l3.length c3) bt bo t r w { S with fewest := m, poss := true, rlo := min S.rlo r, rhi := max S.rhi r, it := itAfter t r S.it n0, right := rightAfter bs S.right bs.length } wr) := ⟨by have h := HM6.out; rw [← hkn] at h; exact h⟩
                have hgw := HM6.out.sv.row.lt
                have hgr := C_len (HL3.out _ HM6.out.wr)
                have HG : Aside0 (∀ W, wr.drew = W → Kd.C (Kd.int .i64) W A3 l3.length l3) := ⟨fun W e => by subst e; exact HL3.out _ HM6.out.wr.drew⟩
                obtain ⟨D, hown⟩ := HM6.out.sv.map
                have hgb : 0 ≤ gradeF l3 r ∧ gradeF l3 r ≤ 9223372036854775807 := by
                  unfold gradeF
                  have := (List.takeWhile_sublist (fun x => decide (x ≤ r)) (l := l3)).length_le
                  omega
                have hkey := Maps.keyOf_int_mk (P := Try.prog) (k := 3) (q := .i64) (a := gradeF l3 r) Try.underlying3 (WalkArith.wf_i64 (by omega))
                obtain ⟨w9, hrun, hown9, hgrow⟩ := (World.ownsMap.drew hown).update (Maps.int_keyed Try.underlying3) (t := 87) (e := 129) Try.underlying87 (by unfold maxLen; show S.cnt < _; omega) hkey (val := .agg #[.int .i64 (t 0), .int .i64 (t 1), .int .i64 (t 2), .int .i64 (t 3)]) (d := .nil) (ps := []) rfl
                have HO9 := Aside0.mk hown9
                have HW9 := Aside0.mk hgrow
                clear hown9 hgrow hown hkey
                have x254 : wr.cell? ⟨g, 254, none⟩ = some (.map (some gm)) := HM6.out.sv.row.cell (by omega)
                have u0 : wr.cell? ⟨bt, 0, none⟩ = some (.int .i64 (t 0)) := HM6.out.box.cell (by omega)
                have u1 : wr.cell? ⟨bt, 1, none⟩ = some (.int .i64 (t 1)) := HM6.out.box.cell (by omega)
                have u2 : wr.cell? ⟨bt, 2, none⟩ = some (.int .i64 (t 2)) := HM6.out.box.cell (by omega)
                have u3 : wr.cell? ⟨bt, 3, none⟩ = some (.int .i64 (t 3)) := HM6.out.box.cell (by omega)
                have HROW := Aside0.mk HM6.out.sv.row
                clear hkn HM6
                go_wp2
                go_region_with (go_at_call 40; refine (ex_grade g 258 (svc (.slice A0 n0 c0) v1 a2 (.slice A3 l3.length c3) gm (.slice (some ⟨gr, 0, none⟩) bs.length bs.length) { S with fewest := m, poss := true, rlo := min S.rlo r, rhi := max S.rhi r, it := itAfter t r S.it n0, right := rightAfter bs S.right k }) A3 c3 l3 r _ (by first | exact HROW.out | exact HROW.out.drew) (by omega) rfl (by exact HG.out _ rfl)).mono ?_; rintro e w5 ⟨rfl, rfl⟩)
                all_goals
                  go_end0
                  refine ⟨rfl, ?_, ?_⟩
                  · unfold endP
                    rw [← HQ.out, if_neg (by omega), HM.out]
                    exact HR.out.sv.mapped HW9.out HO9.out
                  · exact HR.out.wr.then_ (grown_wrote HW9.out) (fun i _ e => .inr (.inr e))
end Go.Proofs.Ytinnjghpmambiaa.Ext
