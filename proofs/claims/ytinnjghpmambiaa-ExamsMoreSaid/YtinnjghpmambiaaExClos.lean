import Derived.Test.YtinnjghpmambiaaPrint0
import Derived.WalkLawsBesides
import Derived.WalkSpells
import Derived.BigRegion
import Derived.Shelf.Abstract
import Derived.Laws.EntriesVeiled
namespace Go.Proofs.Ytinnjghpmambiaa.Ext
open Go.RowKit Go.Proofs.YtinnjghpmambiaaW.PrintWords Go.Proofs.YtinnjghpmambiaaW.PrintLast Go.Proofs.YtinnjghpmambiaaW.PrintMore Go.Proofs.Ytinnjghpmambiaa.Print
set_option linter.unusedVariables false
set_option linter.unusedSimpArgs false

/-- What IndexFunc hands back over n answers. -/
def IdxIs (p : Nat → Bool) (n : Nat) (r : Int) : Prop := (r = -1 ∧ ∀ k, k < n → p k = false) ∨ (∃ k : Nat, k < n ∧ r = k ∧ p k = true)
def anyN (p : Nat → Bool) (n : Nat) : Bool := (List.range n).any p
def allN (p : Nat → Bool) (n : Nat) : Bool := (List.range n).all p
theorem anyN_of_idx {p : Nat → Bool} {n : Nat} {r : Int} (h : IdxIs p n r) : decide (0 ≤ r) = anyN p n := by
  unfold anyN
  rcases h with ⟨rfl, h⟩ | ⟨k, hk, rfl, hp⟩
  · symm
    simp only [show decide ((0 : Int) ≤ -1) = false from rfl]
    rw [List.any_eq_false]
    intro k hk
    rw [h k (List.mem_range.1 hk)]
    exact Bool.false_ne_true
  · have h0 : (0 : Int) ≤ (k : Int) := by omega
    rw [decide_eq_true h0]
    symm
    rw [List.any_eq_true]
    exact ⟨k, List.mem_range.2 hk, hp⟩
theorem not_anyN (p : Nat → Bool) (n : Nat) : (!anyN (fun k => !p k) n) = allN p n := by
  unfold anyN allN
  rw [List.not_any_eq_all_not]
  simp
/-- The states that a function value goes through: behind k answers 'Inv k' holds. -/
def Steps2 (Inv : Nat → World → Prop) (n : Nat) (w : World) : Prop := ∃ k, k ≤ n ∧ Inv k w
def IdxPost (p : Nat → Bool) (Inv : Nat → World → Prop) (n : Nat) (e : Ending) (w : World) : Prop := ∃ r : Int, e = .returned (.int .i64 r) ∧ IdxIs p n r ∧ Steps2 Inv n w

/-! ### []int -/
set_option maxHeartbeats 1000000 in
theorem indexFunc_int (A : Option Addr) (c n : Nat) (c0 : Nat → Value) (g : Nat) (lb : Array Value) (p : Nat → Bool) (Inv : Nat → World → Prop) (w : World)
    (eg : ∀ args w, (callFunc g args).run Try.prog w = .ok (.enter g args) w) (hn : n ≤ 9223372036854775807) (h0 : Inv 0 w)
    (hrd : ∀ k, k < n → ∀ W, Inv k W → ∃ ad, A = some ad ∧ W.cell? (ad.add k) = some (c0 k))
    (hcall : ∀ k, k < n → ∀ W, Inv k W → Calls Try.prog g (#[(c0 k)] ++ lb) W fun e W' => e = .returned (.bool (p k)) ∧ Inv (k + 1) W') :
    Calls Try.prog 101 #[.slice A n c, .func (.func g) #[] lb] w (IdxPost p Inv n) := by
  have HR := Aside0.mk hrd
  have HP := Aside0.mk hcall
  have HI := Aside0.mk h0
  clear hrd hcall h0
  go_enter Try.func101, Try.ntmps101
  go_wp2_with fail
  go_loopw [5, 8] (fun _ i wr => ∃ k : Nat, k ≤ n ∧ i = .int .i64 k ∧ Aside0 (Inv k wr) ∧ Aside0 (∀ j, j < k → p j = false))
    (fun _ i _ => n - (intOf i).toNat)
  case atStart => exact ⟨0, Nat.zero_le _, rfl, HI, ⟨fun j hj => absurd hj (Nat.not_lt_zero _)⟩⟩
  case round =>
    obtain ⟨k, hk, rfl, hB, hm⟩ := hrel
    by_cases hlt : k < n
    · have hltz : (k : Int) < (n : Int) := by omega
      obtain ⟨ad, e, hc0⟩ := HR.out k hlt wr hB.out
      cases e
      have hcall := HP.out k hlt wr hB.out
      obtain ⟨y0, hy0⟩ : ∃ y, y = c0 k := ⟨_, rfl⟩
      rw [← hy0] at hc0 hcall
      clear hy0
      cases hq : p k with
      | true =>
        rw [hq] at hcall
        have HQ := Aside0.mk hq
        clear hq
        go_wp2_with (go_at_fn g; refine hcall.mono ?_; rintro e w' ⟨rfl, hb'⟩)
        go_ret
        exact ⟨_, rfl, .inr ⟨k, hlt, rfl, HQ.out⟩, k + 1, by omega, hb'⟩
      | false =>
        rw [hq] at hcall
        have HQ := Aside0.mk hq
        clear hq
        go_wp2_with (go_at_fn g; refine hcall.mono ?_; rintro e w' ⟨rfl, hb'⟩)
        go_roundw
        case rel =>
          refine ⟨k + 1, by omega, by go_num, ⟨hb'⟩, ⟨fun j hj => ?_⟩⟩
          by_cases e : j = k
          · subst e; exact HQ.out
          · exact hm.out j (by omega)
        case measure => simp [intOf]; omega
    · have hltz : ¬ (k : Int) < (n : Int) := by omega
      have : k = n := by omega
      subst this
      go_wp2
      go_ret
      exact ⟨_, rfl, .inl ⟨rfl, hm.out⟩, k, by omega, hB.out⟩

set_option maxHeartbeats 1000000 in
theorem containsFunc_int (A : Option Addr) (c n : Nat) (c0 : Nat → Value) (g : Nat) (lb : Array Value) (p : Nat → Bool) (Inv : Nat → World → Prop) (w : World)
    (eg : ∀ args w, (callFunc g args).run Try.prog w = .ok (.enter g args) w) (hn : n ≤ 9223372036854775807) (h0 : Inv 0 w)
    (hrd : ∀ k, k < n → ∀ W, Inv k W → ∃ ad, A = some ad ∧ W.cell? (ad.add k) = some (c0 k))
    (hcall : ∀ k, k < n → ∀ W, Inv k W → Calls Try.prog g (#[(c0 k)] ++ lb) W fun e W' => e = .returned (.bool (p k)) ∧ Inv (k + 1) W') :
    Calls Try.prog 87 #[.slice A n c, .func (.func g) #[] lb] w fun e w' => e = .returned (.bool (anyN p n)) ∧ Steps2 Inv n w' := by
  have H := Aside0.mk (indexFunc_int A c n c0 g lb p Inv w eg hn h0 hrd hcall)
  clear hrd hcall h0 eg
  go_enter Try.func87, Try.ntmps87
  go_wp2_with (go_at_call 101; refine H.out.mono ?_; rintro e w' ⟨r, rfl, hi, hs⟩; replace hi := Aside0.mk hi)
  go_ret
  exact ⟨by rw [← anyN_of_idx hi.out]; rfl, hs⟩

/-- every[int]: whether 'p' is so of all. The invariant is kept where new blocks are made. -/
theorem every1_exams_int (B g : Nat) (lb : Array Value) (c0 : Value) (b : Bool) (W : World) (R : World → Prop) (eg : ∀ args w, (callFunc g args).run Try.prog w = .ok (.enter g args) w)
    (hbox : W.cell? ⟨B, 0, none⟩ = some (.func (.func g) #[] lb))
    (hcall : ∀ W1, Below W.heap.size W W1 → Calls Try.prog g (#[c0] ++ lb) W1 fun e W' => e = .returned (.bool b) ∧ R W') :
    Calls Try.prog 96 (#[c0] ++ #[.pointer (some ⟨B, 0, none⟩)]) W fun e W' => e = .returned (.bool (!b)) ∧ R W' := by
  have HC := Aside0.mk hcall
  clear hcall
  have hlt := World.block_lt_of_cell? W _ hbox
  cases b <;>
  · go_enter Try.func96, Try.ntmps96
    go_wp2_with (go_at_fn g; refine (HC.out _ (Below.refl _ _)).mono ?_; rintro e w' ⟨rfl, hb'⟩)
    go_ret
    exact ⟨rfl, hb'⟩

set_option maxHeartbeats 1000000 in
theorem every_exams_int (A : Option Addr) (c n : Nat) (c0 : Nat → Value) (g : Nat) (lb : Array Value) (p : Nat → Bool) (Inv : Nat → World → Prop) (w : World)
    (eg : ∀ args w, (callFunc g args).run Try.prog w = .ok (.enter g args) w) (hn : n ≤ 9223372036854775807)
    (hkeep : ∀ k W W', Inv k W → Below W.heap.size W W' → Inv k W') (h0 : Inv 0 w)
    (hrd : ∀ k, k < n → ∀ W, Inv k W → ∃ ad, A = some ad ∧ W.cell? (ad.add k) = some (c0 k))
    (hcall : ∀ k, k < n → ∀ W, Inv k W → Calls Try.prog g (#[(c0 k)] ++ lb) W fun e W' => e = .returned (.bool (p k)) ∧ Inv (k + 1) W' ∧ ∀ b, w.heap.size ≤ b → b < W.heap.size → W'.heap[b]? = W.heap[b]?) :
    Calls Try.prog 81 #[.slice A n c, .func (.func g) #[] lb] w fun e w' => e = .returned (.bool (allN p n)) ∧ Steps2 Inv n w' := by
  have hw1 : Below w.heap.size w (w.alloc (.cells #[.func (.func g) #[] lb] 130)) := (Below.refl _ _).alloc (Nat.le_refl _) _
  have hbox : (w.alloc (.cells #[.func (.func g) #[] lb] 130)).cell? ⟨w.heap.size, 0, none⟩ = some (.func (.func g) #[] lb) := by simp
  have H := Aside0.mk (containsFunc_int A c n c0 96 #[.pointer (some ⟨w.heap.size, 0, none⟩)] (fun k => !p k) (fun k W => Inv k W ∧ W.cell? ⟨w.heap.size, 0, none⟩ = some (.func (.func g) #[] lb)) (w.alloc (.cells #[.func (.func g) #[] lb] 130))
    (enters_of Try.func96 (by kernel_rfl) rfl) hn ⟨hkeep 0 w _ h0 hw1, hbox⟩ (fun k hk W hW => hrd k hk W hW.1) (fun k hk W hW => by
      refine every1_exams_int w.heap.size g lb (c0 k) (p k) W _ eg hW.2 (fun W1 hb => (hcall k hk W1 (hkeep k W W1 hW.1 hb)).mono fun e W' ⟨he, hi, hfr⟩ => ⟨he, hi, ?_⟩)
      have hlt := World.block_lt_of_cell? W _ hW.2
      have h1 := (hb.cell (p := ⟨w.heap.size, 0, none⟩) hlt).trans hW.2
      have hlt1 := World.block_lt_of_cell? W1 _ h1
      exact (World.cell?_of_block (w := W1) (a := ⟨w.heap.size, 0, none⟩) (hfr _ (Nat.le_refl _) hlt1)).trans h1))
  clear hrd hcall h0 eg hkeep
  clear hbox hw1
  go_enter Try.func81, Try.ntmps81
  go_wp2_with (go_at_call 87; refine H.out.mono ?_; rintro e w' ⟨rfl, hs⟩; replace hs := Aside0.mk hs)
  go_ret
  refine ⟨?_, ?_⟩
  · rw [← not_anyN]; rfl
  · obtain ⟨k, hk, hi, _⟩ := hs.out
    exact ⟨k, hk, hi⟩

/-! ### []handshape/api.Item -/
set_option maxHeartbeats 1000000 in
theorem indexFunc_item (A : Option Addr) (c n : Nat) (c0 : Nat → Value) (c1 : Nat → Value) (g : Nat) (lb : Array Value) (p : Nat → Bool) (Inv : Nat → World → Prop) (w : World)
    (eg : ∀ args w, (callFunc g args).run Try.prog w = .ok (.enter g args) w) (hn : n ≤ 9223372036854775807) (h0 : Inv 0 w)
    (hrd : ∀ k, k < n → ∀ W, Inv k W → ∃ ad, A = some ad ∧ W.cell? (ad.add (k * 2)) = some (c0 k) ∧ W.cell? ⟨(ad.add (k * 2)).block, (ad.add (k * 2)).off + 1, none⟩ = some (c1 k))
    (hcall : ∀ k, k < n → ∀ W, Inv k W → Calls Try.prog g (#[(.agg #[c0 k, c1 k])] ++ lb) W fun e W' => e = .returned (.bool (p k)) ∧ Inv (k + 1) W') :
    Calls Try.prog 104 #[.slice A n c, .func (.func g) #[] lb] w (IdxPost p Inv n) := by
  have HR := Aside0.mk hrd
  have HP := Aside0.mk hcall
  have HI := Aside0.mk h0
  clear hrd hcall h0
  go_enter Try.func104, Try.ntmps104
  go_wp2_with fail
  go_loopw [5, 8] (fun _ i wr => ∃ k : Nat, k ≤ n ∧ i = .int .i64 k ∧ Aside0 (Inv k wr) ∧ Aside0 (∀ j, j < k → p j = false))
    (fun _ i _ => n - (intOf i).toNat)
  case atStart => exact ⟨0, Nat.zero_le _, rfl, HI, ⟨fun j hj => absurd hj (Nat.not_lt_zero _)⟩⟩
  case round =>
    obtain ⟨k, hk, rfl, hB, hm⟩ := hrel
    by_cases hlt : k < n
    · have hltz : (k : Int) < (n : Int) := by omega
      obtain ⟨ad, e, hc0, hc1⟩ := HR.out k hlt wr hB.out
      cases e
      have hcall := HP.out k hlt wr hB.out
      obtain ⟨y0, hy0⟩ : ∃ y, y = c0 k := ⟨_, rfl⟩
      rw [← hy0] at hc0 hcall
      obtain ⟨y1, hy1⟩ : ∃ y, y = c1 k := ⟨_, rfl⟩
      rw [← hy1] at hc1 hcall
      clear hy0 hy1
      cases hq : p k with
      | true =>
        rw [hq] at hcall
        have HQ := Aside0.mk hq
        clear hq
        go_wp2_with (go_at_fn g; refine hcall.mono ?_; rintro e w' ⟨rfl, hb'⟩)
        go_ret
        exact ⟨_, rfl, .inr ⟨k, hlt, rfl, HQ.out⟩, k + 1, by omega, hb'⟩
      | false =>
        rw [hq] at hcall
        have HQ := Aside0.mk hq
        clear hq
        go_wp2_with (go_at_fn g; refine hcall.mono ?_; rintro e w' ⟨rfl, hb'⟩)
        go_roundw
        case rel =>
          refine ⟨k + 1, by omega, by go_num, ⟨hb'⟩, ⟨fun j hj => ?_⟩⟩
          by_cases e : j = k
          · subst e; exact HQ.out
          · exact hm.out j (by omega)
        case measure => simp [intOf]; omega
    · have hltz : ¬ (k : Int) < (n : Int) := by omega
      have : k = n := by omega
      subst this
      go_wp2
      go_ret
      exact ⟨_, rfl, .inl ⟨rfl, hm.out⟩, k, by omega, hB.out⟩

set_option maxHeartbeats 1000000 in
theorem containsFunc_item (A : Option Addr) (c n : Nat) (c0 : Nat → Value) (c1 : Nat → Value) (g : Nat) (lb : Array Value) (p : Nat → Bool) (Inv : Nat → World → Prop) (w : World)
    (eg : ∀ args w, (callFunc g args).run Try.prog w = .ok (.enter g args) w) (hn : n ≤ 9223372036854775807) (h0 : Inv 0 w)
    (hrd : ∀ k, k < n → ∀ W, Inv k W → ∃ ad, A = some ad ∧ W.cell? (ad.add (k * 2)) = some (c0 k) ∧ W.cell? ⟨(ad.add (k * 2)).block, (ad.add (k * 2)).off + 1, none⟩ = some (c1 k))
    (hcall : ∀ k, k < n → ∀ W, Inv k W → Calls Try.prog g (#[(.agg #[c0 k, c1 k])] ++ lb) W fun e W' => e = .returned (.bool (p k)) ∧ Inv (k + 1) W') :
    Calls Try.prog 97 #[.slice A n c, .func (.func g) #[] lb] w fun e w' => e = .returned (.bool (anyN p n)) ∧ Steps2 Inv n w' := by
  have H := Aside0.mk (indexFunc_item A c n c0 c1 g lb p Inv w eg hn h0 hrd hcall)
  clear hrd hcall h0 eg
  go_enter Try.func97, Try.ntmps97
  go_wp2_with (go_at_call 104; refine H.out.mono ?_; rintro e w' ⟨r, rfl, hi, hs⟩; replace hi := Aside0.mk hi)
  go_ret
  exact ⟨by rw [← anyN_of_idx hi.out]; rfl, hs⟩

/-- every[handshape/api.Item]: whether 'p' is so of all. The invariant is kept where new blocks are made. -/
theorem every1_exams_item (B g : Nat) (lb : Array Value) (c0 : Value) (c1 : Value) (b : Bool) (W : World) (R : World → Prop) (eg : ∀ args w, (callFunc g args).run Try.prog w = .ok (.enter g args) w)
    (hbox : W.cell? ⟨B, 0, none⟩ = some (.func (.func g) #[] lb))
    (hcall : ∀ W1, Below W.heap.size W W1 → Calls Try.prog g (#[.agg #[c0, c1]] ++ lb) W1 fun e W' => e = .returned (.bool b) ∧ R W') :
    Calls Try.prog 98 (#[.agg #[c0, c1]] ++ #[.pointer (some ⟨B, 0, none⟩)]) W fun e W' => e = .returned (.bool (!b)) ∧ R W' := by
  have HC := Aside0.mk hcall
  clear hcall
  have hlt := World.block_lt_of_cell? W _ hbox
  cases b <;>
  · go_enter Try.func98, Try.ntmps98
    go_wp2_with (go_at_fn g; refine (HC.out _ ((Below.refl _ _).alloc (Nat.le_refl _) _)).mono ?_; rintro e w' ⟨rfl, hb'⟩)
    go_ret
    exact ⟨rfl, hb'⟩

set_option maxHeartbeats 1000000 in
theorem every_exams_item (A : Option Addr) (c n : Nat) (c0 : Nat → Value) (c1 : Nat → Value) (g : Nat) (lb : Array Value) (p : Nat → Bool) (Inv : Nat → World → Prop) (w : World)
    (eg : ∀ args w, (callFunc g args).run Try.prog w = .ok (.enter g args) w) (hn : n ≤ 9223372036854775807)
    (hkeep : ∀ k W W', Inv k W → Below W.heap.size W W' → Inv k W') (h0 : Inv 0 w)
    (hrd : ∀ k, k < n → ∀ W, Inv k W → ∃ ad, A = some ad ∧ W.cell? (ad.add (k * 2)) = some (c0 k) ∧ W.cell? ⟨(ad.add (k * 2)).block, (ad.add (k * 2)).off + 1, none⟩ = some (c1 k))
    (hcall : ∀ k, k < n → ∀ W, Inv k W → Calls Try.prog g (#[(.agg #[c0 k, c1 k])] ++ lb) W fun e W' => e = .returned (.bool (p k)) ∧ Inv (k + 1) W' ∧ ∀ b, w.heap.size ≤ b → b < W.heap.size → W'.heap[b]? = W.heap[b]?) :
    Calls Try.prog 83 #[.slice A n c, .func (.func g) #[] lb] w fun e w' => e = .returned (.bool (allN p n)) ∧ Steps2 Inv n w' := by
  have hw1 : Below w.heap.size w (w.alloc (.cells #[.func (.func g) #[] lb] 142)) := (Below.refl _ _).alloc (Nat.le_refl _) _
  have hbox : (w.alloc (.cells #[.func (.func g) #[] lb] 142)).cell? ⟨w.heap.size, 0, none⟩ = some (.func (.func g) #[] lb) := by simp
  have H := Aside0.mk (containsFunc_item A c n c0 c1 98 #[.pointer (some ⟨w.heap.size, 0, none⟩)] (fun k => !p k) (fun k W => Inv k W ∧ W.cell? ⟨w.heap.size, 0, none⟩ = some (.func (.func g) #[] lb)) (w.alloc (.cells #[.func (.func g) #[] lb] 142))
    (enters_of Try.func98 (by kernel_rfl) rfl) hn ⟨hkeep 0 w _ h0 hw1, hbox⟩ (fun k hk W hW => hrd k hk W hW.1) (fun k hk W hW => by
      refine every1_exams_item w.heap.size g lb (c0 k) (c1 k) (p k) W _ eg hW.2 (fun W1 hb => (hcall k hk W1 (hkeep k W W1 hW.1 hb)).mono fun e W' ⟨he, hi, hfr⟩ => ⟨he, hi, ?_⟩)
      have hlt := World.block_lt_of_cell? W _ hW.2
      have h1 := (hb.cell (p := ⟨w.heap.size, 0, none⟩) hlt).trans hW.2
      have hlt1 := World.block_lt_of_cell? W1 _ h1
      exact (World.cell?_of_block (w := W1) (a := ⟨w.heap.size, 0, none⟩) (hfr _ (Nat.le_refl _) hlt1)).trans h1))
  clear hrd hcall h0 eg hkeep
  clear hbox hw1
  go_enter Try.func83, Try.ntmps83
  go_wp2_with (go_at_call 97; refine H.out.mono ?_; rintro e w' ⟨rfl, hs⟩; replace hs := Aside0.mk hs)
  go_ret
  refine ⟨?_, ?_⟩
  · rw [← not_anyN]; rfl
  · obtain ⟨k, hk, hi, _⟩ := hs.out
    exact ⟨k, hk, hi⟩

/-! ### []handshape/api.Judge -/
set_option maxHeartbeats 1000000 in
theorem indexFunc_judge (A : Option Addr) (c n : Nat) (c0 : Nat → Value) (c1 : Nat → Value) (c2 : Nat → Value) (c3 : Nat → Value) (g : Nat) (lb : Array Value) (p : Nat → Bool) (Inv : Nat → World → Prop) (w : World)
    (eg : ∀ args w, (callFunc g args).run Try.prog w = .ok (.enter g args) w) (hn : n ≤ 9223372036854775807) (h0 : Inv 0 w)
    (hrd : ∀ k, k < n → ∀ W, Inv k W → ∃ ad, A = some ad ∧ W.cell? (ad.add (k * 4)) = some (c0 k) ∧ W.cell? ⟨(ad.add (k * 4)).block, (ad.add (k * 4)).off + 1, none⟩ = some (c1 k) ∧ W.cell? ⟨(ad.add (k * 4)).block, (ad.add (k * 4)).off + 2, none⟩ = some (c2 k) ∧ W.cell? ⟨(ad.add (k * 4)).block, (ad.add (k * 4)).off + 3, none⟩ = some (c3 k))
    (hcall : ∀ k, k < n → ∀ W, Inv k W → Calls Try.prog g (#[(.agg #[c0 k, c1 k, c2 k, c3 k])] ++ lb) W fun e W' => e = .returned (.bool (p k)) ∧ Inv (k + 1) W') :
    Calls Try.prog 105 #[.slice A n c, .func (.func g) #[] lb] w (IdxPost p Inv n) := by
  have HR := Aside0.mk hrd
  have HP := Aside0.mk hcall
  have HI := Aside0.mk h0
  clear hrd hcall h0
  go_enter Try.func105, Try.ntmps105
  go_wp2_with fail
  go_loopw [5, 8] (fun _ i wr => ∃ k : Nat, k ≤ n ∧ i = .int .i64 k ∧ Aside0 (Inv k wr) ∧ Aside0 (∀ j, j < k → p j = false))
    (fun _ i _ => n - (intOf i).toNat)
  case atStart => exact ⟨0, Nat.zero_le _, rfl, HI, ⟨fun j hj => absurd hj (Nat.not_lt_zero _)⟩⟩
  case round =>
    obtain ⟨k, hk, rfl, hB, hm⟩ := hrel
    by_cases hlt : k < n
    · have hltz : (k : Int) < (n : Int) := by omega
      obtain ⟨ad, e, hc0, hc1, hc2, hc3⟩ := HR.out k hlt wr hB.out
      cases e
      have hcall := HP.out k hlt wr hB.out
      obtain ⟨y0, hy0⟩ : ∃ y, y = c0 k := ⟨_, rfl⟩
      rw [← hy0] at hc0 hcall
      obtain ⟨y1, hy1⟩ : ∃ y, y = c1 k := ⟨_, rfl⟩
      rw [← hy1] at hc1 hcall
      obtain ⟨y2, hy2⟩ : ∃ y, y = c2 k := ⟨_, rfl⟩
      rw [← hy2] at hc2 hcall
      obtain ⟨y3, hy3⟩ : ∃ y, y = c3 k := ⟨_, rfl⟩
      rw [← hy3] at hc3 hcall
      clear hy0 hy1 hy2 hy3
      cases hq : p k with
      | true =>
        rw [hq] at hcall
        have HQ := Aside0.mk hq
        clear hq
        go_wp2_with (go_at_fn g; refine hcall.mono ?_; rintro e w' ⟨rfl, hb'⟩)
        go_ret
        exact ⟨_, rfl, .inr ⟨k, hlt, rfl, HQ.out⟩, k + 1, by omega, hb'⟩
      | false =>
        rw [hq] at hcall
        have HQ := Aside0.mk hq
        clear hq
        go_wp2_with (go_at_fn g; refine hcall.mono ?_; rintro e w' ⟨rfl, hb'⟩)
        go_roundw
        case rel =>
          refine ⟨k + 1, by omega, by go_num, ⟨hb'⟩, ⟨fun j hj => ?_⟩⟩
          by_cases e : j = k
          · subst e; exact HQ.out
          · exact hm.out j (by omega)
        case measure => simp [intOf]; omega
    · have hltz : ¬ (k : Int) < (n : Int) := by omega
      have : k = n := by omega
      subst this
      go_wp2
      go_ret
      exact ⟨_, rfl, .inl ⟨rfl, hm.out⟩, k, by omega, hB.out⟩

set_option maxHeartbeats 1000000 in
theorem containsFunc_judge (A : Option Addr) (c n : Nat) (c0 : Nat → Value) (c1 : Nat → Value) (c2 : Nat → Value) (c3 : Nat → Value) (g : Nat) (lb : Array Value) (p : Nat → Bool) (Inv : Nat → World → Prop) (w : World)
    (eg : ∀ args w, (callFunc g args).run Try.prog w = .ok (.enter g args) w) (hn : n ≤ 9223372036854775807) (h0 : Inv 0 w)
    (hrd : ∀ k, k < n → ∀ W, Inv k W → ∃ ad, A = some ad ∧ W.cell? (ad.add (k * 4)) = some (c0 k) ∧ W.cell? ⟨(ad.add (k * 4)).block, (ad.add (k * 4)).off + 1, none⟩ = some (c1 k) ∧ W.cell? ⟨(ad.add (k * 4)).block, (ad.add (k * 4)).off + 2, none⟩ = some (c2 k) ∧ W.cell? ⟨(ad.add (k * 4)).block, (ad.add (k * 4)).off + 3, none⟩ = some (c3 k))
    (hcall : ∀ k, k < n → ∀ W, Inv k W → Calls Try.prog g (#[(.agg #[c0 k, c1 k, c2 k, c3 k])] ++ lb) W fun e W' => e = .returned (.bool (p k)) ∧ Inv (k + 1) W') :
    Calls Try.prog 99 #[.slice A n c, .func (.func g) #[] lb] w fun e w' => e = .returned (.bool (anyN p n)) ∧ Steps2 Inv n w' := by
  have H := Aside0.mk (indexFunc_judge A c n c0 c1 c2 c3 g lb p Inv w eg hn h0 hrd hcall)
  clear hrd hcall h0 eg
  go_enter Try.func99, Try.ntmps99
  go_wp2_with (go_at_call 105; refine H.out.mono ?_; rintro e w' ⟨r, rfl, hi, hs⟩; replace hi := Aside0.mk hi)
  go_ret
  exact ⟨by rw [← anyN_of_idx hi.out]; rfl, hs⟩

/-- every[handshape/api.Judge]: whether 'p' is so of all. The invariant is kept where new blocks are made. -/
theorem every1_exams_judge (B g : Nat) (lb : Array Value) (c0 : Value) (c1 : Value) (c2 : Value) (c3 : Value) (b : Bool) (W : World) (R : World → Prop) (eg : ∀ args w, (callFunc g args).run Try.prog w = .ok (.enter g args) w)
    (hbox : W.cell? ⟨B, 0, none⟩ = some (.func (.func g) #[] lb))
    (hcall : ∀ W1, Below W.heap.size W W1 → Calls Try.prog g (#[.agg #[c0, c1, c2, c3]] ++ lb) W1 fun e W' => e = .returned (.bool b) ∧ R W') :
    Calls Try.prog 100 (#[.agg #[c0, c1, c2, c3]] ++ #[.pointer (some ⟨B, 0, none⟩)]) W fun e W' => e = .returned (.bool (!b)) ∧ R W' := by
  have HC := Aside0.mk hcall
  clear hcall
  have hlt := World.block_lt_of_cell? W _ hbox
  cases b <;>
  · go_enter Try.func100, Try.ntmps100
    go_wp2_with (go_at_fn g; refine (HC.out _ ((Below.refl _ _).alloc (Nat.le_refl _) _)).mono ?_; rintro e w' ⟨rfl, hb'⟩)
    go_ret
    exact ⟨rfl, hb'⟩

set_option maxHeartbeats 1000000 in
theorem every_exams_judge (A : Option Addr) (c n : Nat) (c0 : Nat → Value) (c1 : Nat → Value) (c2 : Nat → Value) (c3 : Nat → Value) (g : Nat) (lb : Array Value) (p : Nat → Bool) (Inv : Nat → World → Prop) (w : World)
    (eg : ∀ args w, (callFunc g args).run Try.prog w = .ok (.enter g args) w) (hn : n ≤ 9223372036854775807)
    (hkeep : ∀ k W W', Inv k W → Below W.heap.size W W' → Inv k W') (h0 : Inv 0 w)
    (hrd : ∀ k, k < n → ∀ W, Inv k W → ∃ ad, A = some ad ∧ W.cell? (ad.add (k * 4)) = some (c0 k) ∧ W.cell? ⟨(ad.add (k * 4)).block, (ad.add (k * 4)).off + 1, none⟩ = some (c1 k) ∧ W.cell? ⟨(ad.add (k * 4)).block, (ad.add (k * 4)).off + 2, none⟩ = some (c2 k) ∧ W.cell? ⟨(ad.add (k * 4)).block, (ad.add (k * 4)).off + 3, none⟩ = some (c3 k))
    (hcall : ∀ k, k < n → ∀ W, Inv k W → Calls Try.prog g (#[(.agg #[c0 k, c1 k, c2 k, c3 k])] ++ lb) W fun e W' => e = .returned (.bool (p k)) ∧ Inv (k + 1) W' ∧ ∀ b, w.heap.size ≤ b → b < W.heap.size → W'.heap[b]? = W.heap[b]?) :
    Calls Try.prog 84 #[.slice A n c, .func (.func g) #[] lb] w fun e w' => e = .returned (.bool (allN p n)) ∧ Steps2 Inv n w' := by
  have hw1 : Below w.heap.size w (w.alloc (.cells #[.func (.func g) #[] lb] 143)) := (Below.refl _ _).alloc (Nat.le_refl _) _
  have hbox : (w.alloc (.cells #[.func (.func g) #[] lb] 143)).cell? ⟨w.heap.size, 0, none⟩ = some (.func (.func g) #[] lb) := by simp
  have H := Aside0.mk (containsFunc_judge A c n c0 c1 c2 c3 100 #[.pointer (some ⟨w.heap.size, 0, none⟩)] (fun k => !p k) (fun k W => Inv k W ∧ W.cell? ⟨w.heap.size, 0, none⟩ = some (.func (.func g) #[] lb)) (w.alloc (.cells #[.func (.func g) #[] lb] 143))
    (enters_of Try.func100 (by kernel_rfl) rfl) hn ⟨hkeep 0 w _ h0 hw1, hbox⟩ (fun k hk W hW => hrd k hk W hW.1) (fun k hk W hW => by
      refine every1_exams_judge w.heap.size g lb (c0 k) (c1 k) (c2 k) (c3 k) (p k) W _ eg hW.2 (fun W1 hb => (hcall k hk W1 (hkeep k W W1 hW.1 hb)).mono fun e W' ⟨he, hi, hfr⟩ => ⟨he, hi, ?_⟩)
      have hlt := World.block_lt_of_cell? W _ hW.2
      have h1 := (hb.cell (p := ⟨w.heap.size, 0, none⟩) hlt).trans hW.2
      have hlt1 := World.block_lt_of_cell? W1 _ h1
      exact (World.cell?_of_block (w := W1) (a := ⟨w.heap.size, 0, none⟩) (hfr _ (Nat.le_refl _) hlt1)).trans h1))
  clear hrd hcall h0 eg hkeep
  clear hbox hw1
  go_enter Try.func84, Try.ntmps84
  go_wp2_with (go_at_call 99; refine H.out.mono ?_; rintro e w' ⟨rfl, hs⟩; replace hs := Aside0.mk hs)
  go_ret
  refine ⟨?_, ?_⟩
  · rw [← not_anyN]; rfl
  · obtain ⟨k, hk, hi, _⟩ := hs.out
    exact ⟨k, hk, hi⟩
end Go.Proofs.Ytinnjghpmambiaa.Ext
