/- How an argument that came in is read as the kinds of the printed words: whole numbers, structs and slices of these. -/
import Derived.Test.YtinnjghpmambiaaWShare
import Derived.Test.YtinnjghpmambiaaWMore
import Derived.Deep.Slices
import Derived.OpenShut
namespace Go.Proofs.Ytinnjghpmambiaa.Open
open Go.RowKit Go.Proofs.YtinnjghpmambiaaW.PrintWords Go.ChangeShapes

/-- What lies in these cells, by this type, is of this kind, and Q holds of it. -/
def Opens {H : Type} (enc : TypeId × Value → H) (P : Program) (W : World) {α : Type} (t : TypeId) (d : Kd α) (Q : α → Prop) : Prop :=
  ∀ (fuel : Nat) (cs : List Value) (x : DataW H × List MemPlace), DataW.trod enc P W 0 (fun _ => true) true fuel t cs = some x → ∃ a, d.K W a cs ∧ Q a
/-- The same of some fields in a row, from cell o on. -/
def OpensF {H : Type} (enc : TypeId × Value → H) (P : Program) (W : World) {α : Type} (fs : List Field) (o : Nat) (d : Kd α) (Q : α → Prop) : Prop :=
  ∀ (n : Nat) (cs : List Value), (∀ f ∈ fs, ∃ x, DataW.trod enc P W 0 (fun _ => true) true n f.type ((cs.drop f.offset).take (P.cellsOf f.type)) = some x) → ∃ a, d.K W a ((cs.drop o).take d.sz) ∧ Q a
section
variable {H : Type} {enc : TypeId × Value → H} {P : Program} {W : World} {α β : Type} {t e : TypeId} {d : Kd α} {d' : Kd β} {Q : α → Prop} {Q' : β → Prop}
theorem Opens.int {k : IntKind} (ht : P.underlying t = some (.int k)) : Opens enc P W t (Kd.int k) (fun n => (Lit.int k n).wf = true) := by
  intro fuel cs x h
  obtain ⟨n, rfl, _, hw⟩ := DataW.trod_int ht h
  exact ⟨n, rfl, hw⟩
theorem Opens.bool (ht : P.underlying t = some .bool) : Opens enc P W t Kd.bool (fun _ => True) := by
  intro fuel cs x h
  obtain ⟨n, rfl, _⟩ := DataW.trod_bool ht h
  exact ⟨n, rfl, trivial⟩
theorem Opens.iso (h : Opens enc P W t d Q) (f : β → α) (hf : ∀ a, ∃ b, f b = a) : Opens enc P W t (Kd.iso d f) (fun b => Q (f b)) := by
  intro fuel cs x hx
  obtain ⟨a, h1, h2⟩ := h fuel cs x hx
  obtain ⟨b, rfl⟩ := hf a
  exact ⟨b, h1, h2⟩
theorem Opens.weaken {Q2 : α → Prop} (h : Opens enc P W t d Q) (hq : ∀ a, Q a → Q2 a) : Opens enc P W t d Q2 := by
  intro fuel cs x hx
  obtain ⟨a, h1, h2⟩ := h fuel cs x hx
  exact ⟨a, h1, hq a h2⟩
theorem take_add_drop (cs : List Value) (o n m : Nat) : (cs.drop o).take (n + m) = (cs.drop o).take n ++ (cs.drop (o + n)).take m := by
  rw [List.take_add, List.drop_drop]
theorem OpensF.one {f : Field} (h : Opens enc P W f.type d Q) (hc : P.cellsOf f.type = d.sz) {o : Nat} (ho : f.offset = o) : OpensF enc P W [f] o d Q := by
  intro n cs hfs
  obtain ⟨x, hx⟩ := hfs f (List.mem_singleton.2 rfl)
  rw [hc, ho] at hx
  exact h n _ x hx
theorem OpensF.cons {f : Field} {fs : List Field} {o : Nat} (h : Opens enc P W f.type d Q) (hc : P.cellsOf f.type = d.sz) (ho : f.offset = o) (hr : OpensF enc P W fs (o + d.sz) d' Q') : OpensF enc P W (f :: fs) o (Kd.pair d d') (fun p => Q p.1 ∧ Q' p.2) := by
  intro n cs hfs
  obtain ⟨x, hx⟩ := hfs f (List.mem_cons_self ..)
  rw [hc, ho] at hx
  obtain ⟨a, h1, h2⟩ := h n _ x hx
  obtain ⟨b, g1, g2⟩ := hr n cs (fun g hg => hfs g (List.mem_cons_of_mem _ hg))
  exact ⟨(a, b), ⟨_, _, take_add_drop cs o d.sz d'.sz, h1, g1⟩, h2, g2⟩
theorem Opens.struct {fs : Array Field} (ht : P.underlying t = some (.struct fs)) (h : OpensF enc P W fs.toList 0 d Q) (hc : P.cellsOf t = d.sz) : Opens enc P W t d Q := by
  intro fuel cs x hx
  obtain ⟨xs, n, rfl, _, hl, hn, hf⟩ := DataW.trod_struct ht hx
  obtain ⟨a, h1, h2⟩ := h n cs (fun f hfm => by
    obtain ⟨i, hi, hfi⟩ := List.getElem_of_mem hfm
    have hi2 : i < fs.size := by simpa using hi
    have h3 := hf i f (by rw [Array.getElem?_eq_getElem hi2]; exact congrArg some (by simpa using hfi))
    rw [List.getElem?_eq_getElem (show i < xs.length by omega)] at h3
    exact ⟨_, h3⟩)
  rw [List.drop_zero, List.take_of_length_le (by omega)] at h1
  exact ⟨a, h1, h2⟩
theorem Opens.slice (ht : P.underlying t = some (.slice e)) (hc : P.cellsOf e = d.sz) (h : Opens enc P W e d Q) : Opens enc P W t (Kd.slice e d) (fun xs => xs.length ≤ maxLen ∧ ∀ x ∈ xs, Q x) := by
  intro fuel cs x hx
  rcases Go.Deep.open_slice ht hx with ⟨rfl, _⟩ | ⟨a, len, cap, m, n, D, Pl, rfl, _, hlc, hcm, hm, _, hel⟩
  · exact ⟨[], ⟨none, 0, rfl, Nat.le_refl _, rfl, by simp, fun h0 => absurd h0 (by simp)⟩, by simp, by simp⟩
  · rw [if_pos rfl] at hm
    have hex : ∀ i : Fin len, ∃ (p : α) (c : List Value), d.K W p c ∧ Q p ∧ ∀ j u, c[j]? = some u → W.cell? (a.add (i.1 * d.sz + j)) = some u := by
      intro i
      obtain ⟨cs', h1, h2⟩ := hel i.1 (by have := i.2; omega)
      obtain ⟨p, h3, h4⟩ := h n cs' _ h2
      rw [hc] at h1
      obtain ⟨_, h5, h6⟩ := World.cells?_some h1
      refine ⟨p, cs', h3, h4, fun j u hu => ?_⟩
      have hj : j < d.sz := by have := (List.getElem?_eq_some_iff.1 hu).1; omega
      have h7 := h6 j hj
      rw [hu] at h7
      rw [← h7, Go.Deep.add_add]
    let f : Fin len → α := fun i => Classical.choose (hex i)
    have hf : ∀ i : Fin len, ∃ c : List Value, d.K W (f i) c ∧ Q (f i) ∧ ∀ j u, c[j]? = some u → W.cell? (a.add (i.1 * d.sz + j)) = some u := fun i => Classical.choose_spec (hex i)
    have hlen : (List.ofFn f).length = len := List.length_ofFn
    refine ⟨List.ofFn f, ⟨some a, cap, by rw [hlen], by rw [hlen]; exact hlc, rfl, by rw [hlen]; simp only [maxLen] at hcm; omega, fun _ => ⟨a, rfl, fun j p hj => ?_⟩⟩, by rw [hlen]; exact Nat.le_trans hlc hcm, fun p hp => ?_⟩
    · rw [List.getElem?_ofFn] at hj
      split at hj
      · rename_i hjl
        obtain rfl := Option.some.inj hj
        obtain ⟨c, h1, _, h3⟩ := hf ⟨j, hjl⟩
        exact ⟨c, d.K_len h1, h1, h3⟩
      · cases hj
    · obtain ⟨j, hj, rfl⟩ := List.getElem_of_mem hp
      rw [List.getElem_ofFn]
      obtain ⟨c, _, h2, _⟩ := hf ⟨j, by omega⟩
      exact h2
/-- An argument that came in. -/
theorem Opens.arg {v : Value} {D : DataW H} {p : List MemPlace} (h : Opens enc P W t d Q) (hv : DataW.Trod enc P W 0 (fun _ => true) true t v D p) : ∃ a, d.K W a v.cells.toList ∧ Q a := by
  obtain ⟨fuel, hf⟩ := hv
  exact h fuel _ _ hf
theorem agg_of {base : Nat} {fs : Array Field} {v : Value} {cs : List Value} (ht : P.underlying t = some (.struct fs)) (hv : Value.okWide P W .any base t v) (hc : v.cells.toList = cs) : v = .agg cs.toArray := by
  unfold Value.okWide at hv
  rw [ht] at hv
  obtain ⟨ys, rfl, _, _⟩ := hv
  subst hc
  simp [Value.cells]
/-- A row that came in, with the blocks that it lies in: all of the world's. -/
theorem V_of_C {A : Option Addr} {c : Nat} {l : List Int} {k : IntKind} {ty base : Nat} (hc : (Kd.int k).C W A l.length l) (hl : l.length ≤ c) : Kd.V (Kd.int k) ty W base (fun _ => True) (.slice A l.length c) l := by
  refine ⟨A, c, rfl, hl, fun W' hW => ⟨rfl, hc.2.1, fun h0 => ?_⟩⟩
  obtain ⟨ad, h1, h2⟩ := hc.2.2 h0
  refine ⟨ad, h1, fun j p hj => ?_⟩
  obtain ⟨cs, g1, g2, g3⟩ := h2 j p hj
  refine ⟨cs, g1, g2, fun i u hu => ?_⟩
  have h3 := g3 i u hu
  have hb : (ad.add (j * (Kd.int k).sz + i)).block = ad.block := by unfold Addr.add; split <;> rfl
  rcases Nat.lt_or_ge ad.block W.heap.size with hlt | hge
  · rw [← h3]
    unfold World.cell?
    rw [hb, hW ad.block trivial hlt]
  · unfold World.cell? at h3
    rw [hb, Array.getElem?_eq_none hge] at h3
    cases h3
end
end Go.Proofs.Ytinnjghpmambiaa.Open
