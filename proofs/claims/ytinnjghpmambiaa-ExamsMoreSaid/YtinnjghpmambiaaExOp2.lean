import Derived.Test.YtinnjghpmambiaaExOp1
namespace Go.Proofs.Ytinnjghpmambiaa.Ext
open Go.RowKit Go.Proofs.YtinnjghpmambiaaW.PrintWords Go.Proofs.YtinnjghpmambiaaW.PrintLast Go.Proofs.YtinnjghpmambiaaW.PrintMore Go.Proofs.Ytinnjghpmambiaa.Print
set_option linter.unusedVariables false
set_option linter.unusedSimpArgs false

set_option maxRecDepth 100000 in
set_option maxHeartbeats 8000000 in
theorem ex_open (A0 : Option Addr) (c0 : Nat) (items : List S93) (A1 : Option Addr) (c1 : Nat) (judges : List S30) (a2 : Int) (A3 : Option Addr) (c3 : Nat) (l3 : List Int) (w : World)
    (hr0 : Kd.C k93 w A0 items.length items) (hr1 : Kd.C k30 w A1 judges.length judges) (hr3 : Kd.C (Kd.int .i64) w A3 l3.length l3)
    (hm : ∀ x ∈ judges, x.f2.length ≤ 9223372036854775807) :
    Calls Try.prog 55 #[.agg #[.slice A0 items.length c0, .slice A1 judges.length c1, .int .i64 a2, .slice A3 l3.length c3]] w
      (OpenPost items judges a2 l3 (.slice A0 items.length c0) (.slice A1 judges.length c1) (.slice A3 l3.length c3) w) := by
  have b1 := C_len hr1
  have HC := Aside0.mk (fun W (hw : Below w.heap.size w W) => ex_Check A0 c0 items A1 c1 judges a2 A3 c3 l3 W (Kd.C_below hr0 hw) (Kd.C_below hr1 hw) (Kd.C_below hr3 hw) hm)
  have HR0 := Aside0.mk hr0
  have HR1 := Aside0.mk hr1
  have HR3 := Aside0.mk hr3
  clear hr0 hr1 hr3 hm
  obtain ⟨ok, hok⟩ : ∃ ok, paperOk items judges a2 l3 = ok := ⟨_, rfl⟩
  rw [hok] at HC
  have HOK := Aside0.mk hok
  clear hok
  cases ok with
  | false =>
    have e90 : errOf 90 false = 90 := rfl
    rw [e90] at HC
    clear e90
    go_enter Try.func55, Try.ntmps55
    go_wp2_with (go_at_call 63; refine (HC.out _ ((Below.refl _ _).alloc (Nat.le_refl _) _)).mono ?_; rintro e w' ⟨rfl, hb⟩; replace hb := Aside0.mk hb)
    go_ret2
    exact ⟨below_then ((Below.refl _ _).alloc (Nat.le_refl _) _) (by simp) hb.out, .inl ⟨HOK.out, rfl⟩⟩
  | true =>
    have e90 : errOf 90 true = 0 := rfl
    rw [e90] at HC
    clear e90
    have hmk := run_make_row' (P := Try.prog) 88 4 (.bool false) 1 Try.underlying88 (by kernel_rfl) rfl .i64 .i64 judges.length (by have := (papB_of HOK.out).1.j4; omega) (by have := (papB_of HOK.out).1.j4; omega)
    have hmm := @run_makeMap Try.prog
    go_enter Try.func55, Try.ntmps55
    go_upto_region 4 with (go_at_call 63; refine (HC.out _ ((Below.refl _ _).alloc (Nat.le_refl _) _)).mono ?_; rintro e w2 ⟨rfl, hb⟩; obtain ⟨hc1, hf1⟩ := bcell hb; replace hb := Aside0.mk hb)
    have hB2 : Aside0 (Below w.heap.size w w2) := ⟨below_then ((Below.refl _ _).alloc (Nat.le_refl _) _) (by simp) hb.out⟩
    have hlw : w.heap.size < w2.heap.size := by have := hb.out.size; simp at this; omega
    have q0 : w2.cell? ⟨w.heap.size, 0, none⟩ = some (.slice A0 items.length c0) := (hc1 _ _ (by simp)).trans (by simp)
    have q1 : w2.cell? ⟨w.heap.size, 1, none⟩ = some (.slice A1 judges.length c1) := (hc1 _ _ (by simp)).trans (by simp)
    have q2 : w2.cell? ⟨w.heap.size, 2, none⟩ = some (.int .i64 a2) := (hc1 _ _ (by simp)).trans (by simp)
    have q3 : w2.cell? ⟨w.heap.size, 3, none⟩ = some (.slice A3 l3.length c3) := (hc1 _ _ (by simp)).trans (by simp)
    clear hc1 hf1 hb HC
    obtain ⟨bp, hbp⟩ : ∃ bp, bp = w.heap.size := ⟨_, rfl⟩
    rw [← hbp] at hlw q0 q1 q2 q3 ⊢
    have HBP := Aside0.mk hbp
    clear hbp
    go_cut [5] (fun s5 wx => ∃ g gr gm : Nat, s5 = .pointer (some ⟨g, 0, none⟩) ∧ IsSv wx g gr gm judges.length (.slice A0 items.length c0) (.slice A1 judges.length c1) a2 (.slice A3 l3.length c3) (sv0 judges.length) ∧ Below w2.heap.size w2 wx ∧ w2.heap.size ≤ g ∧ w2.heap.size ≤ gr ∧ w2.heap.size ≤ gm)
    case first =>
      go_region_held3 (fun w' => w'.cell? ⟨bp, 0, none⟩ = some (.slice A0 items.length c0) ∧ w'.cell? ⟨bp, 1, none⟩ = some (.slice A1 judges.length c1) ∧ w'.cell? ⟨bp, 2, none⟩ = some (.int .i64 a2) ∧ w'.cell? ⟨bp, 3, none⟩ = some (.slice A3 l3.length c3))
        (first | go_keep | (go_split_ands; refine ⟨?_, ?_, ?_, ?_⟩ <;> (refine pw_cell_below hb3.out ?_; go_keep)))
        ((go_at_call 52; refine (ex_none _).mono ?_; rintro e w3 ⟨rfl, hb3⟩; replace hb3 := Aside0.mk hb3))
      all_goals (go_wp2_with fail; go_meet)
      · have hz3 := hb3.out.size
        try simp at hz3
        exact ⟨_, w3.heap.size + 1, w3.heap.size, rfl, sv_start (hnew (by simp)) (hold (hnew (by simp))) (hold (hold (hnew rfl))), below_alloc (below_alloc (below_alloc (below_then (Below.drew (Below.refl _ _)) (Nat.le_refl _) hb3.out) _) _) _, by omega, by omega, by omega⟩
      · have hz3 := hb3.out.size
        try simp at hz3
        exact ⟨_, w3.heap.size, w3.heap.size + 1, rfl, sv_start (hnew (by simp)) (hold (hold (hnew rfl))) (hold (hnew (by simp))), below_alloc (below_alloc (below_alloc (below_then (Below.drew (Below.refl _ _)) (Nat.le_refl _) hb3.out) _) _) _, by omega, by omega, by omega⟩
      · have hz3 := hb3.out.size
        try simp at hz3
        exact ⟨_, w3.heap.size, w2.heap.size, rfl, sv_start (hnew (by simp)) (hold (hnew rfl)) (hold (hold (hbel hb3.out (hnew rfl)))), below_alloc (below_alloc (below_then (below_alloc (Below.drew (Below.refl _ _)) _) (by simp) hb3.out) _) _, by omega, by omega, by omega⟩
      · have hz3 := hb3.out.size
        try simp at hz3
        exact ⟨_, w2.heap.size + 1, w2.heap.size, rfl, sv_start (hnew rfl) (hold (hbel hb3.out (hnew (by simp)))) (hold (hbel hb3.out (hold (hnew rfl)))), below_alloc (below_then (below_alloc (below_alloc (Below.drew (Below.refl _ _)) _) _) (by simp; omega) hb3.out) _, by omega, by omega, by omega⟩
      · have hz3 := hb3.out.size
        try simp at hz3
        exact ⟨_, w2.heap.size, w3.heap.size, rfl, sv_start (hnew (by simp)) (hold (hold (hbel hb3.out (hnew rfl)))) (hold (hnew rfl)), below_alloc (below_alloc (below_then (below_alloc (Below.drew (Below.refl _ _)) _) (by simp) hb3.out) _) _, by omega, by omega, by omega⟩
      · have hz3 := hb3.out.size
        try simp at hz3
        exact ⟨_, w2.heap.size, w2.heap.size + 1, rfl, sv_start (hnew rfl) (hold (hbel hb3.out (hold (hnew rfl)))) (hold (hbel hb3.out (hnew (by simp)))), below_alloc (below_then (below_alloc (below_alloc (Below.drew (Below.refl _ _)) _) _) (by simp; omega) hb3.out) _, by omega, by omega, by omega⟩
    case rest =>
      obtain ⟨g, gr, gm, rfl, hI, hbw, hg1, hg2, hg3⟩ := hcut
      have HG := Aside0.mk (And.intro hg1 (And.intro hg2 hg3))
      have HI := Aside0.mk (show IsSv wc g gr gm judges.length (.slice A0 items.length c0) (.slice A1 judges.length c1) a2 (.slice A3 l3.length c3) { sv0 judges.length with it := initIt 0 } from by rw [initIt_zero]; exact hI)
      have HBW := Aside0.mk hbw
      clear hI hbw hg1 hg2 hg3
      go_wp2
      go_loopw [28] (fun i wr => ∃ k : Nat, k ≤ 4 ∧ i = .int .i64 k ∧ Aside0 (IsSv wr g gr gm judges.length (.slice A0 items.length c0) (.slice A1 judges.length c1) a2 (.slice A3 l3.length c3) { sv0 judges.length with it := initIt (62 * k) }) ∧ Aside0 (Below w2.heap.size w2 wr)) (fun i _ => 4 - (intOf i).toNat)
      case atStart => exact ⟨0, by omega, rfl, HI, HBW⟩
      case round =>
        clear HI HBW
        obtain ⟨k, hk, rfl, HI, HBW⟩ := hrel
        by_cases hk4 : k < 4
        · go_wp2
          obtain ⟨wo, hwo⟩ : ∃ wo, wo = wr := ⟨_, rfl⟩
          subst hwo
          go_loopw [31] (fun i wr => ∃ n : Nat, n ≤ 31 ∧ i = .int .i64 n ∧ Aside0 (IsSv wr g gr gm judges.length (.slice A0 items.length c0) (.slice A1 judges.length c1) a2 (.slice A3 l3.length c3) { sv0 judges.length with it := initIt (62 * k + 2 * n) }) ∧ Aside0 (Below w2.heap.size w2 wr)) (fun i _ => 31 - (intOf i).toNat)
          case atStart => exact ⟨0, by omega, rfl, HI, HBW⟩
          case round =>
            clear HI HBW
            obtain ⟨n, hn, rfl, HI, HBW⟩ := hrel
            by_cases hn31 : n < 31
            · go_wp2
              go_region_with (go_at_call 52; refine (ex_none _).mono ?_; rintro e w3 ⟨rfl, hb3⟩; have HI3 : Aside0 (IsSv w3 g gr gm judges.length (.slice A0 items.length c0) (.slice A1 judges.length c1) a2 (.slice A3 l3.length c3) { sv0 judges.length with it := initIt (62 * k + 2 * n) }) := (by first | exact ⟨HI.out.drew.below hb3⟩ | exact ⟨HI.out.below hb3⟩); have HBW3 : Aside0 (Below w2.heap.size w2 w3) := (by first | exact ⟨below_then HBW.out.drew HBW.out.size hb3⟩ | exact ⟨below_then HBW.out HBW.out.size hb3⟩); have c0_ := HI3.out.row.cell (i := 6 + k * 62 + n * 2) (by omega); have c1_ := HI3.out.row.cell (i := 6 + k * 62 + n * 2 + 1) (by omega); have z0_ := HI3.out.row.frozen (6 + k * 62 + n * 2); have z1_ := HI3.out.row.frozen (6 + k * 62 + n * 2 + 1); rw [svc_it _ _ _ _ _ _ _ _ (by omega) (by omega)] at c0_ c1_; clear hb3)
              go_wp2
              go_roundw
              case rel =>
                refine ⟨n + 1, by omega, by go_num, ⟨?_⟩, ⟨?_⟩⟩
                · rw [show 62 * k + 2 * (n + 1) = 62 * k + 2 * n + 2 by omega]
                  first
                  | exact HI3.out.emptied (by omega) (by omega) (by omega)
                  | exact (HI3.out.emptied (by omega) (by omega) (by omega)).drew
                · refine Below.setCell (Below.setCell HBW3.out ?_ _) ?_ _ <;> exact HG.out.1
              case measure => simp [intOf]; omega
            · have hn31' : 62 * k + 2 * n = 62 * (k + 1) := by omega
              have HIN : Aside0 (IsSv wr g gr gm judges.length (.slice A0 items.length c0) (.slice A1 judges.length c1) a2 (.slice A3 l3.length c3) { sv0 judges.length with it := initIt (62 * (k + 1)) }) := ⟨by have h := HI.out; rw [hn31'] at h; exact h⟩
              clear hn31'
              go_wp2
              go_roundw
              case rel => exact ⟨k + 1, by omega, by go_num, HIN, HBW⟩
              case measure => simp [intOf]; omega
        · have hk4' : k = 4 := by omega
          have HIN : Aside0 (IsSv wr g gr gm judges.length (.slice A0 items.length c0) (.slice A1 judges.length c1) a2 (.slice A3 l3.length c3) { sv0 judges.length with it := initIt 248 }) := ⟨by have h := HI.out; rw [hk4'] at h; exact h⟩
          clear hk4' HI
          have x1 := pw_cell_below HBW.out q1
          go_wp2
          have hsw := HIN.out.row.lt
          clear hsw
          have hK4 : ¬ (k : Int) < 4 := by omega
          go_loopw [8, 47] (fun v i wr => ∃ q : Nat, q ≤ judges.length ∧ i = .int .i64 q ∧ Aside0 (IsSv wr g gr gm judges.length (.slice A0 items.length c0) (.slice A1 judges.length c1) a2 (.slice A3 l3.length c3) { sv0 judges.length with it := initIt 248 }) ∧ Aside0 (Below w2.heap.size w2 wr) ∧ Aside0 (Kd.R k28 28 wr w2.heap.size (fun b => ¬ SB g gr gm b) v (biasTo judges q))) (fun _ i _ => judges.length - (intOf i).toNat)
          case atStart => exact ⟨0, Nat.zero_le _, rfl, HIN, HBW, ⟨Kd.R_nil _ _ _ _ _⟩⟩
          case round =>
            clear HIN HBW x1
            obtain ⟨q, hq, rfl, HI, HBW, HRV⟩ := hrel
            have hj4 : judges.length ≤ 4 := (papB_of HOK.out).1.j4
            by_cases hql : q < judges.length
            · obtain ⟨ad2, A4, c4, ee, j0, j1, j2, j3, _, _⟩ := at_T30 (Kd.C_below (Kd.C_below HR1.out hB2.out) HBW.out) (q : Int) (by omega) (by omega)
              subst ee
              have hy : rd_T30 judges (q : Int) = judges.getD q z30 := rfl
              rw [hy, Int.toNat_natCast] at j0 j1 j2 j3
              clear hy
              have hl2 := World.block_lt_of_cell? wr _ j0
              have HT := Aside0.mk (biasTo_succ judges q hql)
              have HLEN := Aside0.mk (biasTo_length judges q hq)
              obtain ⟨y, hy⟩ : ∃ y, judges.getD q z30 = y := ⟨_, rfl⟩
              rw [hy] at j0 j1 j2 j3 HT
              clear hy
              obtain ⟨sp, hsp⟩ : ∃ sp, y.f0 = sp := ⟨_, rfl⟩
              rw [hsp] at j0 j1 HT
              clear hsp
              obtain ⟨n2, hn2⟩ : ∃ n2, y.f2.length = n2 := ⟨_, rfl⟩
              rw [hn2] at j3
              clear hn2
              obtain ⟨er, her⟩ : ∃ er, y.f1 = er := ⟨_, rfl⟩
              rw [her] at j2
              clear her
              go_wp2_with (at_builtin; go_must (refine Kd.R_append_rows k28 (w0 := w2) w2.heap.size rfl _ _ 46 28 (.agg #[.int .i64 0, .int .i64 0]) 16 rfl Try.underlying46 spanInfo rfl (by decide) (by decide) _ (biasTo judges q) [sp] _ 1 1 (fun b => ¬ SB g gr gm b) (fun _ => False) rfl rfl ?aO ?aR (fun x cs h => h) (fun _ h => h.elim) ?aF ?aB ?aS ?aL ?_))
              case aO => exact Kd.R_below (Kd.R_below HRV.out ((Below.refl _ _).alloc (Nat.le_refl _) _)) ((Below.refl _ _).alloc (Nat.le_refl _) _)
              case aR =>
                have h := lit1_C (wr.alloc (.cells #[.int .i64 sp.f0, .int .i64 sp.f1, .int .i64 er, .slice A4 n2 c4] 30)) sp
                rw [show (wr.alloc (.cells #[.int .i64 sp.f0, .int .i64 sp.f1, .int .i64 er, .slice A4 n2 c4] 30)).heap.size = wr.heap.size + 1 by simp] at h
                exact h
              case aF => intro k hk; have h1 := HI.out.row.lt; have h2 := HI.out.right.lt; have h3 : gm < wr.heap.size := (by obtain ⟨D, h⟩ := HI.out.map; exact h.lt); unfold SB; omega
              case aB => exact below_alloc (below_alloc HBW.out _) _
              case aS => have := HBW.out.size; omega
              case aL => rw [HLEN.out]; omega
              intro v1 w5 hr5 hb5 hg5 _
              have hne : ∀ b, u8.ownBlock = some b → ¬ SB g gr gm b := HRV.out.1
              have HI5 : Aside0 (IsSv w5 g gr gm judges.length (.slice A0 items.length c0) (.slice (some ad2) judges.length c1) a2 (.slice A3 l3.length c3) { sv0 judges.length with it := initIt 248 }) :=
                ⟨((HI.out.below ((Below.refl _ _).alloc (Nat.le_refl _) _)).below ((Below.refl _ _).alloc (Nat.le_refl _) _)).grown hg5 (fun e => hne _ e.symm (.inl rfl)) (fun e => hne _ e.symm (.inr (.inl rfl))) (fun e => hne _ e.symm (.inr (.inr rfl)))⟩
              have HR5 := Aside0.mk hr5
              have HB5 := Aside0.mk hb5
              clear hr5 hb5 hg5 hne
              go_wp2
              go_roundw
              case rel => exact ⟨q + 1, by omega, by go_num, HI5, HB5, ⟨by rw [HT.out]; exact HR5.out⟩⟩
              case measure => simp [intOf]; omega
            · have hqn : q = judges.length := by omega
              have HRN : Aside0 (Kd.R k28 28 wr w2.heap.size (fun b => ¬ SB g gr gm b) u8 (judges.map fun x => x.f0)) := ⟨by have h := HRV.out; rw [hqn, biasTo_all] at h; exact h⟩
              clear hqn HRV
              obtain ⟨hpb, hbi, hi1, _⟩ := papB_of HOK.out
              obtain ⟨A5, c5, e5, hc5, hC5⟩ := Kd.R_reads HRN.out
              have hlm : (judges.map fun x => x.f0).length = judges.length := List.length_map _
              rw [hlm] at e5
              subst e5
              have h1 := HI.out.row.lt
              have hbase : ∀ i, SB g gr gm i → w2.heap.size ≤ i := by
                obtain ⟨a, b, c⟩ := HG.out
                rintro i (rfl | rfl | rfl) <;> assumption
              have hold2 : ∀ W, Wrote (SB g gr gm) wr W → Below w.heap.size w W := fun W hW => (below_then hB2.out hB2.out.size (hW.below HBW.out HBW.out.size hbase))
              have HV : Aside0 (Calls Try.prog 64 #[.pointer (some ⟨g, 0, none⟩), .agg #[.int .i64 0, .int .i64 0, .int .i64 0, .int .i64 0], .int .i64 0, .int .i64 0, .slice A5 judges.length c5] wr
                  (VisPost g gr gm judges.length (.slice A0 items.length c0) (.slice A1 judges.length c1) a2 (.slice A3 l3.length c3) (svOf items judges a2) wr)) := by
                have h := ex_visit g gr gm A0 c0 items A1 c1 judges a2 A3 c3 l3 hpb items.length { sv0 judges.length with it := initIt 248 } (fun _ => 0) 0 0 A5 c5 (judges.map fun x => x.f0) wr (by omega) (by rw [hlm]; exact HI.out)
                  ⟨fun W hW => Kd.C_below HR0.out (hold2 W hW), fun W hW => Kd.C_below HR1.out (hold2 W hW), fun W hW => Kd.C_below HR3.out (hold2 W hW)⟩
                  (fun W hW => by
                    obtain ⟨A6, c6, e6, _, h6⟩ := Kd.R_reads (Kd.R_step HRN.out (fun k hk hlt => hW.block k hlt hk))
                    rw [hlm] at e6
                    injection e6 with e1 e2 e3
                    rw [e1]; exact h6) hlm
                  (fun b hb => by
                    obtain ⟨x, hx, rfl⟩ := List.mem_map.1 hb
                    obtain ⟨y1, y2, y3⟩ := hbi x hx
                    unfold Bnd; omega) (fun i _ => by constructor <;> omega) (by constructor <;> omega)
                  (by
                    have := hpb.n4
                    show 0 + 31 ^ items.length ≤ 31 ^ 4
                    rw [Nat.zero_add]
                    exact Nat.pow_le_pow_right (by omega) this)
                rw [hlm] at h
                exact ⟨h⟩
              have HOLD := Aside0.mk hold2
              have HBASE := Aside0.mk hbase
              clear hold2 hbase hlm hC5 hpb hbi h1
              go_wp2_with (go_at_call 64; refine HV.out.mono ?_; rintro e w7 hp7; obtain rfl := hp7.1; replace hp7 := Aside0.mk hp7)
              go_ret2
              exact ⟨HOLD.out _ hp7.out.2.2, .inr ⟨HOK.out, g, gr, gm, rfl, hp7.out.2.1, by have := HG.out.1; have := hB2.out.size; omega, by have := HG.out.2.1; have := hB2.out.size; omega, by have := HG.out.2.2; have := hB2.out.size; omega⟩⟩
end Go.Proofs.Ytinnjghpmambiaa.Ext
