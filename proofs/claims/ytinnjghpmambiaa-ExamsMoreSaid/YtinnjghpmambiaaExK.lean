import Derived.Test.YtinnjghpmambiaaExOp2
namespace Go.Proofs.Ytinnjghpmambiaa.Ext
open Go.RowKit Go.Proofs.YtinnjghpmambiaaW.PrintWords Go.Proofs.YtinnjghpmambiaaW.PrintLast Go.Proofs.YtinnjghpmambiaaW.PrintMore Go.Proofs.Ytinnjghpmambiaa.Print
set_option linter.unusedVariables false
set_option linter.unusedSimpArgs false

theorem judges_len {A : Option Addr} {judges : List S30} {w : World} (h : Kd.C k30 w A judges.length judges) : ∀ x ∈ judges, x.f2.length ≤ 9223372036854775807 := by
  intro x hx
  obtain ⟨i, hi, rfl⟩ := List.getElem_of_mem hx
  obtain ⟨_, _, _, _, _, _, _, _, _, hC⟩ := at_T30 h (i : Int) (by omega) (by omega)
  have hy : rd_T30 judges (i : Int) = judges[i] := by simp [rd_T30, List.getD_eq_getElem?_getD, List.getElem?_eq_getElem hi]
  rw [hy] at hC
  exact C_len hC

def knownErr (items : List S93) (judges : List S30) (a2 : Int) (l3 : List Int) (told : Bool) : Int :=
  if paperOk items judges a2 l3 = true then (if told = true then (if (svOf items judges a2).poss = true then 0 else 3) else 1) else 90
def KnownPost (items : List S93) (judges : List S30) (a2 : Int) (l3 : List Int) (v0 v1 v3 : Value) (told : Bool) (w : World) (e : Ending) (w' : World) : Prop :=
  Below w.heap.size w w' ∧ ((knownErr items judges a2 l3 told ≠ 0 ∧ e = .returned (.tuple #[.pointer none, .int .i64 (knownErr items judges a2 l3 told)])) ∨
    (knownErr items judges a2 l3 told = 0 ∧ paperOk items judges a2 l3 = true ∧ ∃ g gr gm, e = .returned (.tuple #[.pointer (some ⟨g, 0, none⟩), .int .i64 0]) ∧ IsSv w' g gr gm judges.length v0 v1 a2 v3 (svOf items judges a2) ∧ w.heap.size ≤ g ∧ w.heap.size ≤ gr ∧ w.heap.size ≤ gm))

set_option maxRecDepth 100000 in
set_option maxHeartbeats 2000000 in
theorem ex_known (A0 : Option Addr) (c0 : Nat) (items : List S93) (A1 : Option Addr) (c1 : Nat) (judges : List S30) (a2 : Int) (A3 : Option Addr) (c3 : Nat) (l3 : List Int) (told : Bool) (w : World)
    (hr0 : Kd.C k93 w A0 items.length items) (hr1 : Kd.C k30 w A1 judges.length judges) (hr3 : Kd.C (Kd.int .i64) w A3 l3.length l3) :
    Calls Try.prog 34 #[.agg #[.slice A0 items.length c0, .slice A1 judges.length c1, .int .i64 a2, .slice A3 l3.length c3], .bool told] w
      (KnownPost items judges a2 l3 (.slice A0 items.length c0) (.slice A1 judges.length c1) (.slice A3 l3.length c3) told w) := by
  have HO := Aside0.mk (fun W (hw : Below w.heap.size w W) => ex_open A0 c0 items A1 c1 judges a2 A3 c3 l3 W (Kd.C_below hr0 hw) (Kd.C_below hr1 hw) (Kd.C_below hr3 hw) (judges_len hr1))
  clear hr0 hr1 hr3
  have HF : Hid (knownErr items judges a2 l3 told = if paperOk items judges a2 l3 = true then (if told = true then (if (svOf items judges a2).poss = true then 0 else 3) else 1) else 90) := rfl
  cases hok : paperOk items judges a2 l3 with
  | false =>
    have HK : Hid (knownErr items judges a2 l3 told = 90) := by rw [HF.out, hok]; rfl
    clear HF
    have HOK := Aside0.mk hok
    clear hok
    go_enter Try.func34, Try.ntmps34
    go_wp2_with (go_at_call 55; refine (HO.out _ ((Below.refl _ _).alloc (Nat.le_refl _) _)).mono ?_; rintro e w2 ⟨hb, ⟨_, rfl⟩ | ⟨h9, _⟩⟩; rotate_left; exact absurd (HOK.out.symm.trans h9) (by decide); replace hb := Aside0.mk hb)
    go_ret2
    exact ⟨below_then ((Below.refl _ _).alloc (Nat.le_refl _) _) (by simp) hb.out, .inl ⟨by rw [HK.out]; decide, by rw [HK.out]; rfl⟩⟩
  | true =>
    have HOK := Aside0.mk hok
    cases told with
    | false =>
      have HK : Hid (knownErr items judges a2 l3 false = 1) := by rw [HF.out, hok]; rfl
      clear HF hok
      go_enter Try.func34, Try.ntmps34
      go_wp2_with (go_at_call 55; refine (HO.out _ ((Below.refl _ _).alloc (Nat.le_refl _) _)).mono ?_; rintro e w2 ⟨hb, ⟨h9, _⟩ | ⟨_, g, gr, gm, rfl, hI, hg1, hg2, hg3⟩⟩; exact absurd (HOK.out.symm.trans h9) (by decide); replace hb := Aside0.mk hb; clear hI hg1 hg2 hg3)
      go_ret2
      exact ⟨below_then ((Below.refl _ _).alloc (Nat.le_refl _) _) (by simp) hb.out, .inl ⟨by rw [HK.out]; decide, by rw [HK.out]; rfl⟩⟩
    | true =>
      cases hp : (svOf items judges a2).poss with
      | false =>
        have HK : Hid (knownErr items judges a2 l3 true = 3) := by rw [HF.out, hok, hp]; rfl
        have HP := Aside0.mk hp
        clear HF hok hp
        go_enter Try.func34, Try.ntmps34
        go_wp2_with (go_at_call 55; refine (HO.out _ ((Below.refl _ _).alloc (Nat.le_refl _) _)).mono ?_; rintro e w2 ⟨hb, ⟨h9, _⟩ | ⟨_, g, gr, gm, rfl, hI, hg1, hg2, hg3⟩⟩; exact absurd (HOK.out.symm.trans h9) (by decide); replace hb := Aside0.mk hb; have x257 : w2.cell? ⟨g, 257, none⟩ = some (.bool false) := (by rw [← HP.out]; exact hI.row.cell (by omega)); clear hI hg1 hg2 hg3)
        go_ret2
        exact ⟨below_then ((Below.refl _ _).alloc (Nat.le_refl _) _) (by simp) hb.out, .inl ⟨by rw [HK.out]; decide, by rw [HK.out]; rfl⟩⟩
      | true =>
        have HK : Hid (knownErr items judges a2 l3 true = 0) := by rw [HF.out, hok, hp]; rfl
        have HP := Aside0.mk hp
        clear HF hok hp
        go_enter Try.func34, Try.ntmps34
        go_wp2_with (go_at_call 55; refine (HO.out _ ((Below.refl _ _).alloc (Nat.le_refl _) _)).mono ?_; rintro e w2 ⟨hb, ⟨h9, _⟩ | ⟨_, g, gr, gm, rfl, hI, hg1, hg2, hg3⟩⟩; exact absurd (HOK.out.symm.trans h9) (by decide); replace hb := Aside0.mk hb; have x257 : w2.cell? ⟨g, 257, none⟩ = some (.bool true) := (by rw [← HP.out]; exact hI.row.cell (by omega)); replace hI := Aside0.mk hI; replace hg1 := Aside0.mk (And.intro hg1 (And.intro hg2 hg3)); clear hg2 hg3)
        go_ret2
        have hs : w.heap.size ≤ (w.alloc (.cells #[.slice A0 items.length c0, .slice A1 judges.length c1, .int .i64 a2, .slice A3 l3.length c3] 26)).heap.size := by simp
        exact ⟨below_then ((Below.refl _ _).alloc (Nat.le_refl _) _) hs hb.out, .inr ⟨HK.out, HOK.out, g, gr, gm, rfl, hI.out, Nat.le_trans hs hg1.out.1, Nat.le_trans hs hg1.out.2.1, Nat.le_trans hs hg1.out.2.2⟩⟩
end Go.Proofs.Ytinnjghpmambiaa.Ext
