import Derived.Test.YtinnjghpmambiaaExK
namespace Go.Proofs.Ytinnjghpmambiaa.Ext
open Go.RowKit Go.Proofs.YtinnjghpmambiaaW.PrintWords Go.Proofs.YtinnjghpmambiaaW.PrintLast Go.Proofs.YtinnjghpmambiaaW.PrintMore Go.Proofs.Ytinnjghpmambiaa.Print
set_option linter.unusedVariables false
set_option linter.unusedSimpArgs false

/-- exams.Range, as a plain function. -/
def exams_Range.f (items : List S93) (judges : List S30) (a2 : Int) (l3 : List Int) : Option (Int × Int × Int) :=
  some (if knownErr items judges a2 l3 true = 0 then ((svOf items judges a2).rlo, (svOf items judges a2).rhi, 0) else (0, 0, knownErr items judges a2 l3 true))

set_option maxRecDepth 100000 in
set_option maxHeartbeats 2000000 in
theorem exams_Range.calls (A0_0 : Option Addr) (c0_0 : Nat) (l0_0 : List S93) (A0_1 : Option Addr) (c0_1 : Nat) (l0_1 : List S30) (a0_2 : Int) (A0_3 : Option Addr) (c0_3 : Nat) (l0_3 : List Int) (r1 r2 r3 : Int) (w : World)
    (hr0_0 : Kd.C k93 w A0_0 l0_0.length l0_0) (hc0_0 : l0_0.length ≤ c0_0) (hr0_1 : Kd.C k30 w A0_1 l0_1.length l0_1) (hc0_1 : l0_1.length ≤ c0_1) (hr0_3 : Kd.C (Kd.int .i64) w A0_3 l0_3.length l0_3) (hc0_3 : l0_3.length ≤ c0_3) (h : exams_Range.f l0_0 l0_1 a0_2 l0_3 = some (r1, r2, r3)) :
    Calls Try.prog 9 #[.agg #[.slice A0_0 l0_0.length c0_0, .slice A0_1 l0_1.length c0_1, .int .i64 a0_2, .slice A0_3 l0_3.length c0_3]] w fun e w' => e = .returned (.tuple #[.agg #[.int .i64 r1, .int .i64 r2], .int .i64 r3]) ∧ Below w.heap.size w w' := by
  have HO := Aside0.mk (fun W (hw : Below w.heap.size w W) => ex_known A0_0 c0_0 l0_0 A0_1 c0_1 l0_1 a0_2 A0_3 c0_3 l0_3 true W (Kd.C_below hr0_0 hw) (Kd.C_below hr0_1 hw) (Kd.C_below hr0_3 hw))
  clear hr0_0 hr0_1 hr0_3
  have h2 := Option.some.inj h
  have hs : ∀ (o o2 : Obj), w.heap.size ≤ ((w.alloc o).alloc o2).heap.size := fun _ _ => by simp; omega
  clear h
  by_cases hk : knownErr l0_0 l0_1 a0_2 l0_3 true = 0
  · rw [if_pos hk] at h2
    simp only [Prod.mk.injEq] at h2
    obtain ⟨e1, e2, rfl⟩ := h2
    have HE := Aside0.mk (And.intro e1 e2)
    have HK := Aside0.mk hk
    clear e1 e2 hk
    have HS := Aside0.mk hs
    clear hs
    go_enter Try.func9, Try.ntmps9
    go_wp2_with (go_at_call 34; refine (HO.out _ (((Below.refl _ _).alloc (Nat.le_refl _) _).alloc (by simp) _)).mono ?_; rintro e w2 ⟨hb, ⟨h9, _⟩ | ⟨_, _, g, gr, gm, rfl, hI, hg1, hg2, hg3⟩⟩; exact absurd HK.out h9; obtain ⟨hc1, hf1⟩ := bcell hb; have hz1 : w.heap.size + 1 < w2.heap.size := (by have := hb.size; simp at this; omega); replace hb := Aside0.mk hb; have x4 : w2.cell? ⟨g, 4, none⟩ = some (.int .i64 r1) := (by rw [← HE.out.1]; exact hI.row.cell (by omega)); have x5 : w2.cell? ⟨g, 5, none⟩ = some (.int .i64 r2) := (by rw [← HE.out.2]; exact hI.row.cell (by omega)); clear hI hg1 hg2 hg3)
    refine bodyPost_ret (v := .tuple #[.agg #[.int .i64 r1, .int .i64 r2], .int .i64 0]) (by simp [results, Try.results9, go_sem, hc1, hf1, hz1]) rfl ⟨rfl, ?_⟩
    exact Below.setCell (Below.setCell (below_then (((Below.refl _ _).alloc (Nat.le_refl _) _).alloc (by simp) _) (HS.out _ _) hb.out) (Nat.le_succ _) _) (Nat.le_succ _) _
  · rw [if_neg hk] at h2
    simp only [Prod.mk.injEq] at h2
    obtain ⟨rfl, rfl, rfl⟩ := h2
    have hkb : (knownErr l0_0 l0_1 a0_2 l0_3 true == 0) = false := beq_eq_false_iff_ne.2 hk
    have hkn : (knownErr l0_0 l0_1 a0_2 l0_3 true != 0) = true := bne_iff_ne.2 hk
    have HK := Aside0.mk hk
    clear hk
    have HS := Aside0.mk hs
    clear hs
    go_enter Try.func9, Try.ntmps9
    go_wp2_with (go_at_call 34; refine (HO.out _ (((Below.refl _ _).alloc (Nat.le_refl _) _).alloc (by simp) _)).mono ?_; rintro e w2 ⟨hb, ⟨_, rfl⟩ | ⟨h9, _⟩⟩; rotate_left; exact absurd h9 HK.out; obtain ⟨hc1, hf1⟩ := bcell hb; have hz1 : w.heap.size + 1 < w2.heap.size := (by have := hb.size; simp at this; omega); replace hb := Aside0.mk hb)
    refine bodyPost_ret (v := .tuple #[.agg #[.int .i64 0, .int .i64 0], .int .i64 (knownErr l0_0 l0_1 a0_2 l0_3 true)]) (by simp [results, Try.results9, go_sem, hc1, hf1, hz1]) rfl ⟨rfl, ?_⟩
    exact Below.setCell (Below.setCell (below_then (((Below.refl _ _).alloc (Nat.le_refl _) _).alloc (by simp) _) (HS.out _ _) hb.out) (Nat.le_succ _) _) (Nat.le_succ _) _

/-- exams.Blame. -/
def exams_Blame.f (items : List S93) (judges : List S30) (a2 : Int) (l3 : List Int) : Option (List Int × Int) :=
  some (if knownErr items judges a2 l3 true = 0 then (((List.range judges.length).filter fun j => !(svOf items judges a2).right j).map (fun j : Nat => (j : Int)), 0) else ([], knownErr items judges a2 l3 true))
def blamed (right : Nat → Bool) (k : Nat) : List Int := ((List.range k).filter fun j => !right j).map (fun j : Nat => (j : Int))
theorem blamed_succ (right : Nat → Bool) (k : Nat) : blamed right (k + 1) = if right k = true then blamed right k else blamed right k ++ [(k : Int)] := by
  unfold blamed
  rw [List.range_succ, List.filter_append, List.map_append]
  cases h : right k <;> simp [h]
theorem blamed_length (right : Nat → Bool) (k : Nat) : (blamed right k).length ≤ k := by
  unfold blamed
  rw [List.length_map]
  exact Nat.le_trans (List.length_filter_le _ _) (by simp)
theorem intInfo : (Try.prog.info? 3).map (fun i => (i.zero, i.size, i.bytes)) = some (some (.int .i64 0), 1, 8) := by kernel_rfl

theorem litI_C (W : World) (x : Int) : Kd.C (Kd.int .i64) (W.alloc (.cells #[.int .i64 x] 3)) (some ⟨W.heap.size, 0, none⟩) 1 [x] := by
  refine ⟨rfl, by omega, fun _ => ⟨_, rfl, fun j p hj => ?_⟩⟩
  have hj0 : j = 0 := by
    have := (List.getElem?_eq_some_iff.1 hj).1
    simp at this; omega
  subst hj0
  obtain rfl : x = p := by simpa using hj
  refine ⟨[.int .i64 x], rfl, rfl, fun q u hu => ?_⟩
  rcases q with _ | q
  · simp at hu; subst hu; simp [add_plain]
  · simp at hu
set_option maxRecDepth 100000 in
set_option maxHeartbeats 4000000 in
theorem exams_Blame.calls (A0_0 : Option Addr) (c0_0 : Nat) (l0_0 : List S93) (A0_1 : Option Addr) (c0_1 : Nat) (l0_1 : List S30) (a0_2 : Int) (A0_3 : Option Addr) (c0_3 : Nat) (l0_3 : List Int) (r1 : List Int) (r2 : Int) (w : World)
    (hr0_0 : Kd.C k93 w A0_0 l0_0.length l0_0) (hc0_0 : l0_0.length ≤ c0_0) (hr0_1 : Kd.C k30 w A0_1 l0_1.length l0_1) (hc0_1 : l0_1.length ≤ c0_1) (hr0_3 : Kd.C (Kd.int .i64) w A0_3 l0_3.length l0_3) (hc0_3 : l0_3.length ≤ c0_3) (h : exams_Blame.f l0_0 l0_1 a0_2 l0_3 = some (r1, r2)) :
    Calls Try.prog 31 #[.agg #[.slice A0_0 l0_0.length c0_0, .slice A0_1 l0_1.length c0_1, .int .i64 a0_2, .slice A0_3 l0_3.length c0_3]] w fun e w' => ∃ v0_ : Value, e = .returned (.tuple #[v0_, .int .i64 r2]) ∧ Kd.R (Kd.int .i64) 3 w' w.heap.size (fun _ => True) v0_ r1 ∧ Below w.heap.size w w' := by
  have HO := Aside0.mk (fun W (hw : Below w.heap.size w W) => ex_known A0_0 c0_0 l0_0 A0_1 c0_1 l0_1 a0_2 A0_3 c0_3 l0_3 true W (Kd.C_below hr0_0 hw) (Kd.C_below hr0_1 hw) (Kd.C_below hr0_3 hw))
  clear hr0_0 hr0_1 hr0_3
  have h2 := Option.some.inj h
  have hs : ∀ (o : Obj), w.heap.size ≤ (w.alloc o).heap.size := fun _ => by simp
  clear h
  by_cases hk : knownErr l0_0 l0_1 a0_2 l0_3 true = 0
  · rw [if_pos hk] at h2
    simp only [Prod.mk.injEq] at h2
    obtain ⟨e1, rfl⟩ := h2
    have HE : Aside0 (blamed (svOf l0_0 l0_1 a0_2).right l0_1.length = r1) := ⟨e1⟩
    have HK := Aside0.mk hk
    clear e1 hk
    have HS := Aside0.mk hs
    clear hs
    go_enter Try.func31, Try.ntmps31
    go_wp2_with (go_at_call 34; refine (HO.out _ ((Below.refl _ _).alloc (Nat.le_refl _) _)).mono ?_; rintro e w2 ⟨hb, ⟨h9, _⟩ | ⟨_, hok, g, gr, gm, rfl, hI, hg1, hg2, hg3⟩⟩; exact absurd HK.out h9; have hB := Aside0.mk (below_then ((Below.refl _ _).alloc (Nat.le_refl _) _) (HS.out _) hb); have hGE := Aside0.mk (Nat.le_trans (HS.out _) hg2); clear hb; have x255 := hI.row.cell (i := 255) (by omega); have x255' : w2.cell? ⟨g, 255, none⟩ = some (.slice (some ⟨gr, 0, none⟩) l0_1.length l0_1.length) := x255; clear x255; have HI := Aside0.mk hI; have HJ4 := Aside0.mk (papB_of hok).1.j4; clear hI hg1 hg2 hg3 hok)
    have hj4 := HJ4.out
    go_loopw [6, 22] (fun v i wr => ∃ q : Nat, q ≤ l0_1.length ∧ i = .int .i64 q ∧ Aside0 (Below w2.heap.size w2 wr) ∧ Aside0 (Kd.R (Kd.int .i64) 3 wr w2.heap.size (fun _ => True) v (blamed (svOf l0_0 l0_1 a0_2).right q))) (fun _ i _ => l0_1.length - (intOf i).toNat)
    case atStart => exact ⟨0, Nat.zero_le _, rfl, ⟨Below.refl _ _⟩, ⟨Kd.R_nil _ _ _ _ _⟩⟩
    case round =>
      obtain ⟨q, hq, rfl, HB, HRV⟩ := hrel
      by_cases hql : q < l0_1.length
      · have hcr : wr.cell? ⟨gr, q, none⟩ = some (.bool ((svOf l0_0 l0_1 a0_2).right q)) := pw_cell_below HB.out (HI.out.right.cell hql)
        have HT := Aside0.mk (blamed_succ (svOf l0_0 l0_1 a0_2).right q)
        have HLEN := Aside0.mk (blamed_length (svOf l0_0 l0_1 a0_2).right q)
        cases hv : (svOf l0_0 l0_1 a0_2).right q with
        | true =>
          rw [hv] at hcr
          have HV := Aside0.mk hv
          clear hv
          go_wp2
          go_roundw
          case rel => exact ⟨q + 1, by omega, by go_num, HB, ⟨by rw [HT.out, HV.out]; exact HRV.out⟩⟩
          case measure => simp [intOf]; omega
        | false =>
          rw [hv] at hcr
          have HV := Aside0.mk hv
          clear hv
          go_wp2_with (at_builtin; go_must (refine Kd.R_append_rows (Kd.int .i64) (w0 := w2) w2.heap.size rfl _ _ 24 3 (.int .i64 0) 8 rfl Try.underlying24 intInfo rfl (by decide) (by decide) _ (blamed (svOf l0_0 l0_1 a0_2).right q) [(q : Int)] _ 1 1 (fun _ => True) (fun _ => False) rfl rfl ?aO ?aR (fun x cs h => h) (fun _ h => h.elim) ?aF ?aB ?aS ?aL ?_))
          case aO => exact Kd.R_below HRV.out ((Below.refl _ _).alloc (Nat.le_refl _) _)
          case aR => exact litI_C wr (q : Int)
          case aF => intro k hk; trivial
          case aB => exact below_alloc HB.out _
          case aS => have := HB.out.size; simp; omega
          case aL => have := HLEN.out; omega
          intro v1 w5 hr5 hb5 hg5 _
          have HR5 := Aside0.mk hr5
          have HB5 := Aside0.mk hb5
          clear hr5 hb5 hg5
          go_wp2
          go_roundw
          case rel => exact ⟨q + 1, by omega, by go_num, HB5, ⟨by rw [HT.out, HV.out]; exact HR5.out⟩⟩
          case measure => simp [intOf]; omega
      · have hqn : q = l0_1.length := by omega
        have HRN : Aside0 (Kd.R (Kd.int .i64) 3 wr w2.heap.size (fun _ => True) u6 r1) := ⟨by have h := HRV.out; rw [hqn, HE.out] at h; exact h⟩
        clear hqn HRV
        go_wp2
        go_ret2
        exact ⟨_, rfl, Kd.R_lower HRN.out hB.out.size, below_then hB.out hB.out.size HB.out⟩
  · rw [if_neg hk] at h2
    simp only [Prod.mk.injEq] at h2
    obtain ⟨rfl, rfl⟩ := h2
    have hkb : (knownErr l0_0 l0_1 a0_2 l0_3 true == 0) = false := beq_eq_false_iff_ne.2 hk
    have hkn : (knownErr l0_0 l0_1 a0_2 l0_3 true != 0) = true := bne_iff_ne.2 hk
    have HK := Aside0.mk hk
    clear hk
    have HS := Aside0.mk hs
    clear hs
    go_enter Try.func31, Try.ntmps31
    go_wp2_with (go_at_call 34; refine (HO.out _ ((Below.refl _ _).alloc (Nat.le_refl _) _)).mono ?_; rintro e w2 ⟨hb, ⟨_, rfl⟩ | ⟨h9, _⟩⟩; rotate_left; exact absurd h9 HK.out; replace hb := Aside0.mk hb)
    go_ret2
    exact ⟨_, rfl, Kd.R_nil _ _ _ _ _, below_then ((Below.refl _ _).alloc (Nat.le_refl _) _) (HS.out _) hb.out⟩
end Go.Proofs.Ytinnjghpmambiaa.Ext
