import Derived.Test.YtinnjghpmambiaaExC
import Derived.Deep.DeepCutAuto
namespace Go.Proofs.Ytinnjghpmambiaa.Ext
open Go.RowKit Go.Proofs.YtinnjghpmambiaaW.PrintWords Go.Proofs.YtinnjghpmambiaaW.PrintLast Go.Proofs.YtinnjghpmambiaaW.PrintMore Go.Proofs.Ytinnjghpmambiaa.Print
set_option linter.unusedVariables false
set_option linter.unusedSimpArgs false

theorem ex_width (lo hi : Int) (w : World) : Calls Try.prog 54 #[.agg #[.int .i64 lo, .int .i64 hi]] w fun e w' => e = .returned (.int .i64 (max 0 (wrap64 (hi - lo)))) ∧ Below w.heap.size w w' := by
  obtain ⟨x, hx⟩ : ∃ x, wrap64 (hi - lo) = x := ⟨_, rfl⟩
  rw [hx, max_if]
  obtain ⟨y, hy⟩ : ∃ y, (if 0 < x then x else 0) = y := ⟨_, rfl⟩
  rw [hy]
  go_enter Try.func54, Try.ntmps54
  go_wp2
  go_ret
  exact ⟨rfl, (Below.refl _ _).alloc (Nat.le_refl _) _⟩

def spanN (it : Nat → Int) (i : Nat) (lo : Int) : Nat → Int × Int
  | 0 => (1073741824, -1073741824)
  | k + 1 => (min (spanN it i lo k).1 (it (62 * i + 2 * (lo + k).toNat)), max (spanN it i lo k).2 (it (62 * i + 2 * (lo + k).toNat + 1)))
def markW (it : Nat → Int) (i : Nat) (err mark : Int) : Int :=
  max 0 (wrap64 ((spanN it i (max 0 (mark - err)) (min 30 (mark + err) - max 0 (mark - err) + 1).toNat).2 - (spanN it i (max 0 (mark - err)) (min 30 (mark + err) - max 0 (mark - err) + 1).toNat).1))
def mostN (it : Nat → Int) (i : Nat) (err : Int) : Nat → Int
  | 0 => 0
  | k + 1 => max (mostN it i err k) (markW it i err (-err + k))
def nextN (it : Nat → Int) (err : Int) : Nat → Int × Int
  | 0 => (0, -1)
  | k + 1 => if (nextN it err k).2 < 0 ∨ mostN it k err (31 + 2 * err).toNat < (nextN it err k).2 then ((k : Int), mostN it k err (31 + 2 * err).toNat) else nextN it err k

set_option maxRecDepth 100000 in
set_option maxHeartbeats 8000000 in
/-- exams.Next, where a truth is possible and the error is one that may be. -/
theorem ex_Next (A0 : Option Addr) (c0 : Nat) (l0 : List S93) (A1 : Option Addr) (c1 : Nat) (l1 : List S30) (a2 : Int) (A3 : Option Addr) (c3 : Nat) (l3 : List Int) (err : Int) (w : World)
    (hr0 : Kd.C k93 w A0 l0.length l0) (hr1 : Kd.C k30 w A1 l1.length l1) (hr3 : Kd.C (Kd.int .i64) w A3 l3.length l3) (he0 : 0 ≤ err) (he1 : err ≤ 5) (hk : knownErr l0 l1 a2 l3 true = 0) :
    Calls Try.prog 32 #[.agg #[.slice A0 l0.length c0, .slice A1 l1.length c1, .int .i64 a2, .slice A3 l3.length c3], .int .i64 err] w
      fun e w' => e = .returned (.tuple #[.int .i64 (nextN (svOf l0 l1 a2).it err l0.length).1, .int .i64 (nextN (svOf l0 l1 a2).it err l0.length).2, .int .i64 0]) ∧ Below w.heap.size w w' := by
  have HO := Aside0.mk (fun W (hw : Below w.heap.size w W) => ex_known A0 c0 l0 A1 c1 l1 a2 A3 c3 l3 true W (Kd.C_below hr0 hw) (Kd.C_below hr1 hw) (Kd.C_below hr3 hw))
  clear hr0 hr1 hr3
  have HK := Aside0.mk hk
  clear hk
  have hwi : wiB err 0 5 = true := wiB_iff.2 ⟨he0, he1⟩
  obtain ⟨b0, hb0⟩ : ∃ b, wiB err 0 5 = b := ⟨_, rfl⟩
  have hbt : b0 = true := hb0.symm.trans hwi
  subst hbt
  clear hwi
  obtain ⟨it, hit⟩ : ∃ it, (svOf l0 l1 a2).it = it := ⟨_, rfl⟩
  rw [hit]
  have HIT := Aside0.mk hit
  clear hit
  go_enter Try.func32, Try.ntmps32
  go_upto_region 1 with fail
  go_cut [6, 7] (fun s6 s7 wx => ∃ g gr gm : Nat, s7 = .pointer (some ⟨g, 0, none⟩) ∧ s6 = .int .i64 0 ∧ Aside0 (IsSv wx g gr gm l1.length (.slice A0 l0.length c0) (.slice A1 l1.length c1) a2 (.slice A3 l3.length c3) (svOf l0 l1 a2)) ∧ Aside0 (Below w.heap.size w wx) ∧ wx.cell? ⟨w.heap.size, 0, none⟩ = some (.slice A0 l0.length c0) ∧ Aside0 (l0.length ≤ 4 ∧ w.heap.size < wx.heap.size))
  case first =>
    go_region_with (first | (go_at_call 51; refine (ex_within _ _ _ _).mono ?_; rintro e w' ⟨rfl, rfl⟩) | (go_at_call 34; refine (HO.out _ (by first | exact (Below.drew ((Below.refl _ _).alloc (Nat.le_refl _) _)) | exact ((Below.refl _ _).alloc (Nat.le_refl _) _))).mono ?_; rintro e w2 ⟨hb, ⟨h9, _⟩ | ⟨_, hok, g, gr, gm, rfl, hI, hg1, hg2, hg3⟩⟩; exact absurd HK.out h9; have HB2 := Aside0.mk hb; have HI2 := Aside0.mk hI; have HOK2 := Aside0.mk (papB_of hok).1.n4; clear hb hI hg1 hg2 hg3 hok))
    all_goals (go_wp2_with fail; go_meet)
    all_goals
      refine ⟨g, gr, gm, rfl, rfl, HI2, ⟨?_⟩, ?_, ⟨HOK2.out, ?_⟩⟩
      · exact below_then (Below.drew ((Below.refl _ _).alloc (Nat.le_refl _) _)) (by simp) HB2.out
      · exact (HB2.out.cell (p := ⟨w.heap.size, 0, none⟩) (by simp)).trans (by simp)
      · have := HB2.out.size; simp at this; omega
  case rest =>
    obtain ⟨g, gr, gm, rfl, rfl, HI, HB, x0, HL⟩ := hcut
    obtain ⟨hl4, hlw⟩ := HL.out
    clear HO HL
    go_wp2
    go_loopw [4, 5, 26] (fun s4 s5 i wr => ∃ k : Nat, k ≤ l0.length ∧ i = .int .i64 k ∧ s4 = .int .i64 (nextN it err k).1 ∧ s5 = .int .i64 (nextN it err k).2 ∧ Aside0 (Below wc.heap.size wc wr)) (fun _ _ i _ => l0.length - (intOf i).toNat)
    case atStart => exact ⟨0, Nat.zero_le _, rfl, rfl, rfl, ⟨Below.refl _ _⟩⟩
    case round =>
      obtain ⟨k, hk, rfl, rfl, rfl, HBW⟩ := hrel
      obtain ⟨ri, hri⟩ : ∃ ri, (nextN it err k).1 = ri := ⟨_, rfl⟩
      obtain ⟨rl, hrl⟩ : ∃ rl, (nextN it err k).2 = rl := ⟨_, rfl⟩
      rw [hri, hrl]
      have HR := Aside0.mk (And.intro hri hrl)
      clear hri hrl
      by_cases hkl : k < l0.length
      · go_wp2
        obtain ⟨wo, hwo⟩ : ∃ wo, wo = wr := ⟨_, rfl⟩
        subst hwo
        go_loopw [9, 10] (fun s9 s10 wr => ∃ (q : Nat) (mk : Int), (q : Int) ≤ 31 + 2 * err ∧ mk = -err + q ∧ s10 = .int .i64 mk ∧ s9 = .int .i64 (mostN it k err q) ∧ Aside0 (Below wc.heap.size wc wr)) (fun _ i _ => (31 + err - intOf i).toNat)
        case atStart => exact ⟨0, -err, by omega, by omega, by go_num, rfl, HBW⟩
        case round =>
          clear HBW
          obtain ⟨q, mk, hq, hmk, rfl, rfl, HBW⟩ := hrel
          have hmk0 : -err ≤ mk := by omega
          have hmk1 : mk ≤ 31 + err := by omega
          have HMK := Aside0.mk hmk
          clear hmk
          obtain ⟨mo, hmo⟩ : ∃ mo, mostN it k err q = mo := ⟨_, rfl⟩
          rw [hmo]
          have HMO := Aside0.mk hmo
          clear hmo
          by_cases hq31 : mk ≤ 30 + err
          · obtain ⟨lo, hlo⟩ : ∃ lo : Nat, (if err < mk then mk - err else 0) = (lo : Int) := ⟨(if err < mk then mk - err else 0).toNat, by split <;> omega⟩
            obtain ⟨hi, hhi⟩ : ∃ hi, (if mk + err < 30 then mk + err else 30) = hi := ⟨_, rfl⟩
            have hlob : (lo : Int) ≤ 30 := by split at hlo <;> omega
            have hhib : hi ≤ 30 ∧ (lo : Int) ≤ hi := by split at hhi <;> split at hlo <;> omega
            obtain ⟨hhi30, hlohi⟩ := hhib
            obtain ⟨cn, hcn⟩ : ∃ cn : Nat, (lo : Int) + cn = hi + 1 := ⟨(hi + 1 - lo).toNat, by omega⟩
            have HLH := Aside0.mk (And.intro hlo hhi)
            have HCN := Aside0.mk hcn
            have hcnb : hi + 1 ≤ (lo : Int) + cn ∧ (lo : Int) + cn ≤ hi + 1 := by omega
            obtain ⟨hcn1, hcn2⟩ := hcnb
            clear hcn
            go_wp2_with (go_at_call 52; refine (ex_none _).mono ?_; rintro e w3 ⟨rfl, hb3⟩; have HB3 := Aside0.mk (below_then HBW.out HBW.out.size hb3); clear hb3)
            obtain ⟨bl, hbl⟩ : ∃ bl, bl = w3.heap.size := ⟨_, rfl⟩
            rw [← hbl]
            have hrow : (w3.alloc (.cells #[.int .i64 1073741824, .int .i64 (-1073741824)] 28)).rowIs bl 28 2 (fun c => if c = 0 then .int .i64 (spanN it k lo 0).1 else .int .i64 (spanN it k lo 0).2) := by
              rw [hbl]
              refine World.rowIs_alloc w3 _ _ _ (fun i hi => ?_)
              have : i < 2 := hi
              rcases (show i = 0 ∨ i = 1 by omega) with rfl | rfl <;> rfl
            have hbb : wc.heap.size ≤ bl := by have := HB3.out.size; omega
            have HROW := Aside0.mk hrow
            have HB4 : Aside0 (Below wc.heap.size wc (w3.alloc (.cells #[.int .i64 1073741824, .int .i64 (-1073741824)] 28))) := ⟨HB3.out.alloc HB3.out.size _⟩
            obtain ⟨w4, hw4⟩ : ∃ w4, w4 = w3.alloc (.cells #[.int .i64 1073741824, .int .i64 (-1073741824)] 28) := ⟨_, rfl⟩
            rw [← hw4] at HROW HB4 ⊢
            clear hw4 hbl hrow HB3 HBW
            clear hlo
            go_loopw [12] (fun s12 wr => ∃ j : Nat, j ≤ cn ∧ s12 = .int .i64 ((lo + j : Nat) : Int) ∧ Aside0 (Below wc.heap.size wc wr) ∧ Aside0 (wr.rowIs bl 28 2 (fun c => if c = 0 then .int .i64 (spanN it k lo j).1 else .int .i64 (spanN it k lo j).2))) (fun i _ => (31 - intOf i).toNat)
            case atStart => exact ⟨0, Nat.zero_le _, rfl, HB4, HROW⟩
            case round =>
              clear HB4 HROW
              obtain ⟨j, hj, rfl, HB4, HROW⟩ := hrel
              obtain ⟨n, hn⟩ : ∃ n : Nat, n = lo + j := ⟨_, rfl⟩
              rw [← hn]
              have hn1 : n ≤ lo + j := by omega
              have hn2 : lo + j ≤ n := by omega
              have HN := Aside0.mk hn
              clear hn
              have hIw : Aside0 (IsSv wr g gr gm l1.length (.slice A0 l0.length c0) (.slice A1 l1.length c1) a2 (.slice A3 l3.length c3) (svOf l0 l1 a2)) := ⟨HI.out.below HB4.out⟩
              have r0 := HROW.out.cell (i := 0) (by omega)
              have r1 := HROW.out.cell (i := 1) (by omega)
              have r0' : wr.cell? ⟨bl, 0, none⟩ = some (.int .i64 (spanN it k lo j).1) := r0
              have r1' : wr.cell? ⟨bl, 1, none⟩ = some (.int .i64 (spanN it k lo j).2) := r1
              clear r0 r1
              by_cases hjc : j < cn
              · have hnh : (n : Int) ≤ hi := by omega
                have hn30 : n ≤ 30 := by omega
                have u0 := hIw.out.row.cell (i := 6 + k * 62 + n * 2) (by omega)
                have u1 := hIw.out.row.cell (i := 6 + k * 62 + n * 2 + 1) (by omega)
                rw [svc_it _ _ _ _ _ _ _ _ (by omega) (by omega), HIT.out] at u0 u1
                have e0 : 6 + k * 62 + n * 2 - 6 = 62 * k + 2 * n := by omega
                have e1 : 6 + k * 62 + n * 2 + 1 - 6 = 62 * k + 2 * n + 1 := by omega
                rw [e0] at u0
                rw [e1] at u1
                clear e0 e1
                go_wp2_with (go_at_call 53; refine (ex_add bl 0 2 28 _ (spanN it k lo j).1 (spanN it k lo j).2 (it (62 * k + 2 * n)) (it (62 * k + 2 * n + 1)) _ HROW.out (by omega) rfl rfl).mono ?_; rintro e w5 hp5; obtain rfl := hp5.1; replace hp5 := Aside0.mk hp5)
                go_roundw
                case rel =>
                  refine ⟨j + 1, by omega, by have := HN.out; go_num, ⟨hp5.out.2.1.below HB4.out HB4.out.size (by rintro i rfl; exact hbb)⟩, ⟨hp5.out.2.2.congr (fun i hi => ?_)⟩⟩
                  have hnn : ((lo : Int) + (j : Int)).toNat = n := by have := HN.out; omega
                  rcases (show i = 0 ∨ i = 1 by omega) with rfl | rfl
                  · show Value.int .i64 _ = Value.int .i64 (spanN it k lo (j + 1)).1
                    simp only [spanN, hnn]
                  · show Value.int .i64 _ = Value.int .i64 (spanN it k lo (j + 1)).2
                    simp only [spanN, hnn]
                case measure => simp [intOf]; omega
              · have hnh : ¬ (n : Int) ≤ hi := by omega
                obtain ⟨p1, hp1⟩ : ∃ p, (spanN it k lo j).1 = p := ⟨_, rfl⟩
                obtain ⟨p2, hp2⟩ : ∃ p, (spanN it k lo j).2 = p := ⟨_, rfl⟩
                rw [hp1] at r0'
                rw [hp2] at r1'
                obtain ⟨wd, hwd⟩ : ∃ x, max 0 (wrap64 (p2 - p1)) = x := ⟨_, rfl⟩
                have HWD := Aside0.mk (fun W => ex_width p1 p2 W)
                rw [hwd] at HWD
                obtain ⟨m2, hm2⟩ : ∃ x, (if mo < wd then wd else mo) = x := ⟨_, rfl⟩
                have HM2 : Aside0 (mostN it k err (q + 1) = m2) := ⟨by
                  have hjn : j = cn := by omega
                  have hmw : markW it k err mk = wd := by
                    unfold markW
                    rw [show max 0 (mk - err) = (lo : Int) by rw [← HLH.out.1, max_if]; split <;> split <;> omega, show min 30 (mk + err) = hi by rw [← HLH.out.2, min_if], show (hi - (lo : Int) + 1).toNat = cn by omega, ← hjn, hp1, hp2]
                    exact hwd
                  show max (mostN it k err q) (markW it k err (-err + (q : Int))) = m2
                  rw [HMO.out, ← HMK.out, hmw, max_if]
                  exact hm2⟩
                clear hp1 hp2 hwd hIw
                go_wp2_with (go_at_call 54; refine (HWD.out _).mono ?_; rintro e w5 ⟨rfl, hb5⟩; replace hb5 := Aside0.mk hb5)
                go_roundw
                case rel => exact ⟨q + 1, mk + 1, by have := HMK.out; omega, by have := HMK.out; omega, by go_num, by rw [HM2.out], ⟨below_then HB4.out HB4.out.size hb5.out⟩⟩
                case measure => simp [intOf]; omega
          · have hqn : q = (31 + 2 * err).toNat := by have := HMK.out; omega
            have HMN : Aside0 (mostN it k err (31 + 2 * err).toNat = mo) := ⟨by rw [← hqn]; exact HMO.out⟩
            clear hqn
            have HNX : Aside0 (nextN it err (k + 1) = if rl < 0 ∨ mo < rl then ((k : Int), mo) else (ri, rl)) := ⟨by
              show (if (nextN it err k).2 < 0 ∨ mostN it k err (31 + 2 * err).toNat < (nextN it err k).2 then ((k : Int), mostN it k err (31 + 2 * err).toNat) else nextN it err k) = _
              rw [HMN.out, HR.out.2]
              split
              · rfl
              · rw [← HR.out.1, ← HR.out.2]⟩
            by_cases hn : rl < 0
            · have HN2 : Aside0 (nextN it err (k + 1) = ((k : Int), mo)) := ⟨by rw [HNX.out, if_pos (.inl hn)]⟩
              go_wp2
              go_roundw
              case rel => exact ⟨k + 1, by omega, by go_num, by rw [HN2.out], by rw [HN2.out], HBW⟩
              case measure => simp [intOf]; omega
            · by_cases hl : mo < rl
              · have HN2 : Aside0 (nextN it err (k + 1) = ((k : Int), mo)) := ⟨by rw [HNX.out, if_pos (.inr hl)]⟩
                go_wp2
                go_roundw
                case rel => exact ⟨k + 1, by omega, by go_num, by rw [HN2.out], by rw [HN2.out], HBW⟩
                case measure => simp [intOf]; omega
              · have HN2 : Aside0 (nextN it err (k + 1) = (ri, rl)) := ⟨by rw [HNX.out, if_neg (by rintro (h | h); exact hn h; exact hl h)]⟩
                go_wp2
                go_roundw
                case rel => exact ⟨k + 1, by omega, by go_num, by rw [HN2.out], by rw [HN2.out], HBW⟩
                case measure => simp [intOf]; omega
      · have hkn : k = l0.length := by omega
        have HR2 : Aside0 ((nextN it err l0.length).1 = ri ∧ (nextN it err l0.length).2 = rl) := ⟨by rw [← hkn]; exact HR.out⟩
        clear hkn
        go_wp2
        go_ret3
        exact ⟨by rw [HR2.out.1, HR2.out.2]; rfl, below_then HB.out HB.out.size HBW.out⟩

/-- exams.Next, as a plain function: where a truth is possible and the error is one that may be. -/
def exams_Next.f (items : List S93) (judges : List S30) (a2 : Int) (l3 : List Int) (err : Int) : Option (Int × Int × Int) :=
  if knownErr items judges a2 l3 true = 0 ∧ 0 ≤ err ∧ err ≤ 5 then some ((nextN (svOf items judges a2).it err items.length).1, (nextN (svOf items judges a2).it err items.length).2, 0) else none
theorem exams_Next.calls (A0_0 : Option Addr) (c0_0 : Nat) (l0_0 : List S93) (A0_1 : Option Addr) (c0_1 : Nat) (l0_1 : List S30) (a0_2 : Int) (A0_3 : Option Addr) (c0_3 : Nat) (l0_3 : List Int) (a1 : Int) (r1 r2 r3 : Int) (w : World)
    (hr0_0 : Kd.C k93 w A0_0 l0_0.length l0_0) (hc0_0 : l0_0.length ≤ c0_0) (hr0_1 : Kd.C k30 w A0_1 l0_1.length l0_1) (hc0_1 : l0_1.length ≤ c0_1) (hr0_3 : Kd.C (Kd.int .i64) w A0_3 l0_3.length l0_3) (hc0_3 : l0_3.length ≤ c0_3) (h : exams_Next.f l0_0 l0_1 a0_2 l0_3 a1 = some (r1, r2, r3)) :
    Calls Try.prog 32 #[.agg #[.slice A0_0 l0_0.length c0_0, .slice A0_1 l0_1.length c0_1, .int .i64 a0_2, .slice A0_3 l0_3.length c0_3], .int .i64 a1] w fun e w' => e = .returned (.tuple #[.int .i64 r1, .int .i64 r2, .int .i64 r3]) ∧ Below w.heap.size w w' := by
  unfold exams_Next.f at h
  by_cases hc : knownErr l0_0 l0_1 a0_2 l0_3 true = 0 ∧ 0 ≤ a1 ∧ a1 ≤ 5
  · rw [if_pos hc] at h
    have h2 := Option.some.inj h
    simp only [Prod.mk.injEq] at h2
    obtain ⟨rfl, rfl, rfl⟩ := h2
    exact ex_Next A0_0 c0_0 l0_0 A0_1 c0_1 l0_1 a0_2 A0_3 c0_3 l0_3 a1 w hr0_0 hr0_1 hr0_3 hc.2.1 hc.2.2 hc.1
  · rw [if_neg hc] at h
    cases h
end Go.Proofs.Ytinnjghpmambiaa.Ext
