import Derived.Test.YtinnjghpmambiaaExVis1
namespace Go.Proofs.Ytinnjghpmambiaa.Ext
open Go.RowKit Go.Proofs.YtinnjghpmambiaaW.PrintWords Go.Proofs.YtinnjghpmambiaaW.PrintLast Go.Proofs.YtinnjghpmambiaaW.PrintMore Go.Proofs.Ytinnjghpmambiaa.Print
set_option linter.unusedVariables false
set_option linter.unusedSimpArgs false

set_option maxRecDepth 100000 in
set_option maxHeartbeats 4000000 in
theorem ex_visit (g gr gm : Nat) (A0 : Option Addr) (c0 : Nat) (items : List S93) (A1 : Option Addr) (c1 : Nat) (judges : List S30) (a2 : Int) (A3 : Option Addr) (c3 : Nat) (l3 : List Int) (hp : PapB items judges) (d : Nat) :
    ∀ (S : Sv) (t : Nat → Int) (item : Nat) (r : Int) (A : Option Addr) (c : Nat) (bs : List S28) (w : World)
    (hd : item + d = items.length)
    (hI : IsSv w g gr gm bs.length (.slice A0 items.length c0) (.slice A1 judges.length c1) a2 (.slice A3 l3.length c3) S)
    (hR : Reads3 g gr gm A0 items A1 judges A3 l3 w)
    (hbs : ∀ W, Wrote (SB g gr gm) w W → Kd.C k28 W A bs.length bs) (hbl : bs.length = judges.length) (hbb : ∀ b ∈ bs, Bnd b)
    (ht : ∀ i, i < 4 → 0 ≤ t i ∧ t i ≤ 30) (hr : 0 ≤ r ∧ r ≤ 300 * item) (hcnt : S.cnt + 31 ^ d ≤ 31 ^ 4),
    Calls Try.prog 64 #[.pointer (some ⟨g, 0, none⟩), .agg #[.int .i64 (t 0), .int .i64 (t 1), .int .i64 (t 2), .int .i64 (t 3)], .int .i64 item, .int .i64 r, .slice A bs.length c] w
      (VisPost g gr gm bs.length (.slice A0 items.length c0) (.slice A1 judges.length c1) a2 (.slice A3 l3.length c3) (visitP items judges a2 d S t r bs) w) := by
  induction d with
  | zero =>
    intro S t item r A c bs w hd hI hR hbs hbl hbb ht hr hcnt
    have hil := hp.n4
    have x0 : w.cell? ⟨g, 0, none⟩ = some (.slice A0 items.length c0) := hI.row.cell (by omega)
    have hgl := hI.row.lt
    obtain rfl : item = items.length := by omega
    have he : ((items.length : Int) == (items.length : Int)) = true := beq_iff_eq.2 rfl
    have hc9 : S.cnt < 1000000000 := by
      have h31 : 31 ^ 4 = 923521 := by decide
      rw [h31] at hcnt
      omega
    have HE := Aside0.mk (fun W (hw : Wrote (SB g gr gm) w W) (hs : IsSv W g gr gm bs.length (.slice A0 items.length c0) (.slice A1 judges.length c1) a2 (.slice A3 l3.length c3) S) => ex_end g gr gm A0 items.length c0 (.slice A1 judges.length c1) a2 A3 c3 l3 S t r A c bs W hs (fun W1 h1 => hbs W1 (hw.trans h1)) (fun W1 h1 => hR.gd W1 (hw.trans h1)) hil ht hc9)
    have HI := Aside0.mk hI
    clear hI hR hbs hbb hcnt hr hp hbl
    go_enter Try.func64, Try.ntmps64
    go_wp2_with (go_at_call 85; go_must (refine (HE.out _ (Wrote.alloc (Wrote.refl _ _) _) (HI.out.below ((Below.refl _ _).alloc (Nat.le_refl _) _))).mono ?_); rintro e w4 hp4; obtain rfl := hp4.1; replace hp4 := Aside0.mk hp4)
    go_end0
    exact ⟨rfl, hp4.out.2.1, (Wrote.alloc (Wrote.refl _ _) _).trans hp4.out.2.2⟩
  | succ d ih =>
    intro S t item r A c bs w hd hI hR hbs hbl hbb ht hr hcnt
    have hil := hp.n4
    have hlt : item < items.length := by omega
    have hjl := hp.j4
    have x0 : w.cell? ⟨g, 0, none⟩ = some (.slice A0 items.length c0) := hI.row.cell (by omega)
    have hgl := hI.row.lt
    have he : ((item : Int) == (items.length : Int)) = false := beq_eq_false_iff_ne.2 (by omega)
    have hei : items.length - (d + 1) = item := by omega
    obtain ⟨ad, ee, i0, i1⟩ := at_T93 (hR.it w (Wrote.refl _ _)) (item : Int) (by omega) (by omega)
    subst ee
    have hy : rd_T93 items (item : Int) = items.getD item z93 := rfl
    rw [hy, Int.toNat_natCast] at i0 i1
    clear hy
    have hyb := hp.its (items.getD item z93) (getD_mem hlt)
    have HV : Hid (∀ S t r bs, visitP items judges a2 (d + 1) S t r bs = (List.range ((items.getD item z93).f1.toNat + 1)).foldl (fun S (n : Nat) => visitP items judges a2 d S (upd t item (n : Int)) (r + (n : Int) * (items.getD item z93).f0) (cutAll judges item (n : Int) bs)) S) := by
      intro S t r bs
      rw [visitP, hei]
    have HRt := Aside0.mk hR
    have HBs := Aside0.mk hbs
    have HBb := Aside0.mk hbb
    have HIH := Aside0.mk ih
    have HI := Aside0.mk hI
    have HBl := Aside0.mk hbl
    clear hR hbs hbb ih hI hbl
    obtain ⟨y, HY⟩ : ∃ y, Aside0 (items.getD item z93 = y) := ⟨_, ⟨rfl⟩⟩
    rw [HY.out] at i0 i1 hyb HV
    obtain ⟨yw, ym, rfl⟩ : ∃ yw ym, y = ⟨yw, ym⟩ := ⟨y.f0, y.f1, rfl⟩
    simp only at i0 i1 hyb HV
    obtain ⟨m, rfl⟩ : ∃ m : Nat, ym = (m : Int) := ⟨ym.toNat, by omega⟩
    have hm30 : m ≤ 30 := by omega
    rw [Int.toNat_natCast] at HV
    have hlb := World.block_lt_of_cell? w _ i0
    go_enter Try.func64, Try.ntmps64
    go_wp2
    have HVM : Aside0 (VMid g gr gm bs.length (.slice (some ad) items.length c0) (.slice A1 judges.length c1) a2 (.slice A3 l3.length c3) w.heap.size t item w S (w.alloc (.cells #[.int .i64 (t 0), .int .i64 (t 1), .int .i64 (t 2), .int .i64 (t 3)] 129))) :=
      ⟨⟨HI.out.below ((Below.refl _ _).alloc (Nat.le_refl _) _), Wrote.alloc (Wrote.refl _ _) _, ⟨t, fun _ _ => rfl, box4 w _ t⟩, by
        have h1 := HI.out.row.lt; have h2 := HI.out.right.lt; have h3 : gm < w.heap.size := by obtain ⟨D, h⟩ := HI.out.map; exact h.lt
        unfold SB; omega, Nat.le_refl _⟩⟩
    obtain ⟨bt, hbt⟩ : ∃ bt, bt = w.heap.size := ⟨_, rfl⟩
    rw [← hbt] at HVM ⊢
    obtain ⟨w1, hw1⟩ : ∃ w1, w1 = w.alloc (.cells #[.int .i64 (t 0), .int .i64 (t 1), .int .i64 (t 2), .int .i64 (t 3)] 129) := ⟨_, rfl⟩
    rw [← hw1] at HVM ⊢
    clear hw1 hbt x0 i0 i1 hlb hgl HI
    obtain ⟨F, HF⟩ : ∃ F : Sv → Nat → Sv, Aside0 (F = fun S (n : Nat) => visitP items judges a2 d S (upd t item (n : Int)) (r + (n : Int) * yw) (cutAll judges item (n : Int) bs)) := ⟨_, ⟨rfl⟩⟩
    go_loopw [38] (fun i wr => ∃ k : Nat, k ≤ m + 1 ∧ i = .int .i64 k ∧ Aside0 (VMid g gr gm bs.length (.slice (some ad) items.length c0) (.slice A1 judges.length c1) a2 (.slice A3 l3.length c3) bt t item w ((List.range k).foldl F S) wr)) (fun i _ => m + 1 - (intOf i).toNat)
    case atStart => exact ⟨0, Nat.zero_le _, rfl, HVM⟩
    case round =>
      clear HVM
      obtain ⟨k, hk, rfl, HVM⟩ := hrel
      by_cases hkm : k < m + 1
      · have hkz : (k : Int) < (m : Int) + 1 := by omega
        have hcl := HBs.out wr HVM.out.wr
        have hbl0 : bs.length ≤ 1000 := by have := HBl.out; omega
        have HCL := Aside0.mk (ex_clone A c bs wr hcl hbl0)
        clear hcl
        go_wp2_with (go_at_call 86; refine HCL.out.mono ?_; rintro e w5 ⟨v5, rfl, hr5, hb5⟩; obtain ⟨A', c', rfl, hst⟩ := cuts_start (judges := judges) (i := item) (n := (k : Int)) hr5; have HST := Aside0.mk hst; have HB5 := Aside0.mk hb5; clear hst hr5 hb5; have x1 : w5.cell? ⟨g, 1, none⟩ = some (.slice A1 judges.length c1) := (HVM.out.sv.below HB5.out).row.cell (by omega))
        have HLM : Aside0 (LMid g gr gm bs.length (.slice (some ad) items.length c0) (.slice A1 judges.length c1) a2 (.slice A3 l3.length c3) bt t item w ((List.range k).foldl F S) A' judges (k : Int) bs 0 w5) :=
          ⟨⟨HVM.out.below HB5.out, fun h0 => by
            obtain ⟨b, N, e, hbb, hcc⟩ := HST.out h0
            have h1 := HVM.out.sv.row.lt; have h2 := HVM.out.sv.right.lt; have h3 : gm < wr.heap.size := by obtain ⟨D, h⟩ := HVM.out.sv.map; exact h.lt
            have h4 := HVM.out.lt
            have h5 := HVM.out.wr.size
            exact ⟨b, N, e, hcc, by omega, by unfold SB; omega, by omega⟩⟩⟩
        obtain ⟨S1, HS1⟩ : ∃ S1, Aside0 ((List.range k).foldl F S = S1) := ⟨_, ⟨rfl⟩⟩
        rw [HS1.out] at HLM
        clear HST HB5 x1 HVM HCL
        obtain ⟨wo, hwo⟩ : ∃ wo, wo = wr := ⟨_, rfl⟩
        subst hwo
        go_loopw [49] (fun i wr => ∃ q : Nat, q ≤ judges.length ∧ i = .int .i64 q ∧ Aside0 (LMid g gr gm bs.length (.slice (some ad) items.length c0) (.slice A1 judges.length c1) a2 (.slice A3 l3.length c3) bt t item w S1 A' judges (k : Int) bs q wr)) (fun i _ => judges.length - (intOf i).toNat)
        case atStart => exact ⟨0, Nat.zero_le _, rfl, HLM⟩
        case round =>
          clear HLM
          obtain ⟨q, hq, rfl, HLM⟩ := hrel
          by_cases hql : q < judges.length
          · have hqb : q < bs.length := by have := HBl.out; omega
            obtain ⟨ad2, A4, c4, ee, j0, j1, j2, j3, _, hmk⟩ := at_T30 (HRt.out.ju wr HLM.out.vm.wr) (q : Int) (by omega) (by omega)
            subst ee
            have hy : rd_T30 judges (q : Int) = judges.getD q z30 := rfl
            rw [hy, Int.toNat_natCast] at j0 j1 j2 j3
            rw [hy] at hmk
            clear hy
            obtain ⟨b, N, rfl, hcu, hb1, hb2, hb3⟩ := HLM.out.cuts (by omega)
            obtain ⟨f, hrow, hf⟩ := hcu.row
            obtain ⟨f0, f1⟩ := hf q hqb
            have hcz : cutTo judges item (k : Int) bs q q = bs.getD q z28 := by unfold cutTo; rw [if_neg (by omega)]
            rw [hcz] at f0 f1
            have hN := hcu.size
            have k0 : wr.cell? ⟨b, q * 2, none⟩ = some (.int .i64 (bs.getD q z28).f0) := by rw [hrow.cell (by omega), Nat.mul_comm q 2, f0]
            have k1 : wr.cell? ⟨b, q * 2 + 1, none⟩ = some (.int .i64 (bs.getD q z28).f1) := by rw [hrow.cell (by omega), Nat.mul_comm q 2, f1]
            have z0 := hrow.frozen (q * 2)
            have z1 := hrow.frozen (q * 2 + 1)
            have hblt := hrow.lt
            have hbd := HBb.out (bs.getD q z28) (getD_mem hqb)
            obtain ⟨e0, e1, hml, hmb⟩ := hp.jus (judges.getD q z30) (getD_mem hql)
            obtain ⟨ad3, ee, mk⟩ := Kd.at_int hmk (item : Int) (by omega) (by omega)
            subst ee
            have hy : rd (judges.getD q z30).f2 (item : Int) = (judges.getD q z30).f2.getD item 0 := rfl
            rw [hy, Int.toNat_natCast] at mk
            clear hy
            have hmb2 := hmb _ (getD_mem (l := (judges.getD q z30).f2) (z := 0) (i := item) (by omega))
            have HCU := Aside0.mk hcu
            clear hcu hf hrow hmb hcz f0 f1 hmk
            have hl2 := World.block_lt_of_cell? wr _ j0
            have hl3 := World.block_lt_of_cell? wr _ mk
            have HYC : Aside0 (∀ b, b = bs.getD q z28 → cutB (judges.getD q z30) item (k : Int) b = if 0 ≤ (judges.getD q z30).f2.getD item 0 then ⟨max b.f0 ((judges.getD q z30).f2.getD item 0 - k - (judges.getD q z30).f1), min b.f1 ((judges.getD q z30).f2.getD item 0 - k + (judges.getD q z30).f1)⟩ else b) := ⟨fun b _ => rfl⟩
            unfold Bnd at hbd
            obtain ⟨mu, hmu⟩ : ∃ mu, (judges.getD q z30).f2.getD item 0 = mu := ⟨_, rfl⟩
            obtain ⟨lo, hlo⟩ : ∃ lo, (bs.getD q z28).f0 = lo := ⟨_, rfl⟩
            obtain ⟨hi, hhi⟩ : ∃ hi, (bs.getD q z28).f1 = hi := ⟨_, rfl⟩
            obtain ⟨er, her⟩ : ∃ er, (judges.getD q z30).f1 = er := ⟨_, rfl⟩
            obtain ⟨n2, hn2⟩ : ∃ n2, (judges.getD q z30).f2.length = n2 := ⟨_, rfl⟩
            obtain ⟨y0, hy0⟩ : ∃ y0, (judges.getD q z30).f0.f0 = y0 := ⟨_, rfl⟩
            obtain ⟨y1, hy1⟩ : ∃ y1, (judges.getD q z30).f0.f1 = y1 := ⟨_, rfl⟩
            rw [hmu] at mk hmb2 HYC
            rw [hlo] at k0 hbd
            rw [hhi] at k1 hbd
            rw [her] at j2 e0 e1 HYC
            rw [hn2] at j3 hml
            rw [hy0] at j0
            rw [hy1] at j1
            have hin : item < n2 := by omega
            have HEQ := Aside0.mk (And.intro hmu (And.intro hlo (And.intro hhi her)))
            clear hmu hlo hhi her hn2 hy0 hy1 hml
            obtain ⟨hbd0, hbd1, hbd2, hbd3⟩ := hbd
            obtain ⟨hmb0, hmb1⟩ := hmb2
            by_cases hm0 : 0 ≤ mu
            · obtain ⟨lo2, hlo2⟩ : ∃ lo2, (if lo < mu - k - er then mu - k - er else lo) = lo2 := ⟨_, rfl⟩
              obtain ⟨hi2, hhi2⟩ : ∃ hi2, (if mu - k + er < hi then mu - k + er else hi) = hi2 := ⟨_, rfl⟩
              go_wp2
              go_region
              go_wp2
              go_roundw
              case rel =>
                refine ⟨q + 1, by omega, by go_num, ⟨?_⟩⟩
                refine LMid.drew (LMid.alloc ⟨HLM.out.vm.other (b := b) (Wrote.setCell (Wrote.setCell (Wrote.refl (· = b) wr) (.inl rfl) _) (.inl rfl) _) hb1 hb2 hb3, fun _ => ⟨b, N, rfl, HCU.out.next hqb ?_ ?_, hb1, hb2, hb3⟩⟩ _)
                · have hC := HYC.out _ rfl
                  rw [if_pos hm0] at hC
                  rw [hC]
                  show lo2 = max _ _
                  rw [HEQ.out.2.1, max_if]
                  exact hlo2.symm
                · have hC := HYC.out _ rfl
                  rw [if_pos hm0] at hC
                  rw [hC]
                  show hi2 = min _ _
                  rw [HEQ.out.2.2.1, min_if]
                  exact hhi2.symm
              case measure => simp [intOf]; omega
            · go_wp2
              go_roundw
              case rel =>
                refine ⟨q + 1, by omega, by go_num, ⟨?_⟩⟩
                exact LMid.alloc ⟨HLM.out.vm, fun _ => ⟨b, N, rfl, HCU.out.same hqb (by rw [HEQ.out.1]; exact hm0), hb1, hb2, hb3⟩⟩ _
              case measure => simp [intOf]; omega
          · have hqn : q = judges.length := by omega
            have HLN : Aside0 (LMid g gr gm bs.length (.slice (some ad) items.length c0) (.slice A1 judges.length c1) a2 (.slice A3 l3.length c3) bt t item w S1 A' judges (k : Int) bs judges.length wr) := ⟨by have h := HLM.out; rw [hqn] at h; exact h⟩
            clear HLM hqn
            obtain ⟨hput, hbox⟩ := HLN.out.vm.put (k : Int)
            have hp0 : wr.frozen? ⟨bt, item, none⟩ = false := by obtain ⟨t', _, h⟩ := HLN.out.vm.box; exact h.frozen _
            have hp1 : ∃ x, wr.cell? ⟨bt, item, none⟩ = some (.int .i64 x) := by obtain ⟨t', _, h⟩ := HLN.out.vm.box; exact ⟨_, h.cell (by omega)⟩
            obtain ⟨xo, hp1⟩ := hp1
            have hbtl := HLN.out.vm.lt
            have hlen := cutAll_length judges item (k : Int) bs HBl.out
            have hk30 : k ≤ 30 := by omega
            have hrb : 0 ≤ r + (k : Int) * yw ∧ r + (k : Int) * yw ≤ 300 * ((item + 1 : Nat) : Int) := by
              obtain ⟨y1, y2, _, _⟩ := hyb
              have h1 : (0 : Int) ≤ (k : Int) * yw := Int.mul_nonneg (by omega) y1
              have h2 : (k : Int) * yw ≤ 30 * 10 := Int.mul_le_mul (by omega) y2 y1 (by omega)
              omega
            have hkw : 0 ≤ (k : Int) * yw ∧ (k : Int) * yw ≤ 300 := by
              obtain ⟨y1, y2, _, _⟩ := hyb
              have h1 : (0 : Int) ≤ (k : Int) * yw := Int.mul_nonneg (by omega) y1
              have h2 : (k : Int) * yw ≤ 30 * 10 := Int.mul_le_mul (by omega) y2 y1 (by omega)
              omega
            have hcn : S1.cnt + 31 ^ d ≤ 31 ^ 4 := by
              have h1 := fold_cnt (F := F) (c := 31 ^ d) (fun S n => by rw [HF.out]; exact visitP_cnt hp a2 d S _ _ _ (by omega)) k S
              rw [HS1.out] at h1
              have h2 : k * 31 ^ d ≤ 30 * 31 ^ d := Nat.mul_le_mul_right _ hk30
              have h3 : 31 ^ (d + 1) = 31 * 31 ^ d := by rw [Nat.pow_succ, Nat.mul_comm]
              rw [h3] at hcnt
              omega
            have HREC : Aside0 (Calls Try.prog 64 #[.pointer (some ⟨g, 0, none⟩), .agg #[.int .i64 (upd t item (k : Int) 0), .int .i64 (upd t item (k : Int) 1), .int .i64 (upd t item (k : Int) 2), .int .i64 (upd t item (k : Int) 3)], .int .i64 ((item : Int) + 1), .int .i64 (r + (k : Int) * yw), .slice A' bs.length c'] ((wr.setCell ⟨bt, item, none⟩ (.int .i64 (k : Int))).drew)
                (VisPost g gr gm bs.length (.slice (some ad) items.length c0) (.slice A1 judges.length c1) a2 (.slice A3 l3.length c3) (F S1 k) ((wr.setCell ⟨bt, item, none⟩ (.int .i64 (k : Int))).drew))) := by
              have hlb : (cutAll judges item (k : Int) bs).length = bs.length := hlen.trans HBl.out.symm
              have h := HIH.out S1 (upd t item (k : Int)) (item + 1) (r + (k : Int) * yw) A' c' (cutAll judges item (k : Int) bs) ((wr.setCell ⟨bt, item, none⟩ (.int .i64 (k : Int))).drew) (by omega) (by rw [hlb]; exact hput.sv.drew) (HRt.out.step hput.wr.drew)
                (fun W hW => by
                  rw [hlb]
                  rcases Nat.eq_zero_or_pos bs.length with h0 | h0
                  · exact ⟨hlb, by omega, fun h => by omega⟩
                  · obtain ⟨b, N, e, hc, hb1, hb2, hb3⟩ := HLN.out.cuts h0
                    subst e
                    exact cuts_end (hc.move (T := fun i => i = bt ∨ SB g gr gm i) ((Wrote.drew (Wrote.setCell (Wrote.refl _ _) (.inl (.inl rfl)) _)).trans (hW.mono (fun i h => .inr h))) (by rintro (h | h); exact hb3 h; exact hb2 h)) HBl.out (by have := HBl.out; omega))
                hlen (cutAll_bnd hp hlt (by omega) (by omega) HBb.out) (fun i hi => by unfold upd; split; omega; exact ht i hi) hrb hcn
              rw [hlb] at h
              rw [HF.out]
              have e : ((item + 1 : Nat) : Int) = (item : Int) + 1 := by omega
              rw [e] at h
              exact ⟨h⟩
            have u0 := hbox.cell (i := 0) (by omega)
            have u1 := hbox.cell (i := 1) (by omega)
            have u2 := hbox.cell (i := 2) (by omega)
            have u3 := hbox.cell (i := 3) (by omega)
            have HPUT := Aside0.mk hput
            clear hput hbox hrb hcn hlen
            go_wp2
            obtain ⟨ad5, ee, i0, i1⟩ := at_T93 (HRt.out.it _ HPUT.out.wr) (item : Int) (by omega) (by omega)
            obtain rfl := Option.some.inj ee
            have hy : rd_T93 items (item : Int) = items.getD item z93 := rfl
            rw [hy, HY.out, Int.toNat_natCast] at i0
            clear hy ee i1
            have x0 := HPUT.out.sv.row.cell (i := 0) (by omega)
            have x0' : (wr.setCell ⟨bt, item, none⟩ (.int .i64 (k : Int))).cell? ⟨g, 0, none⟩ = some (.slice (some ad) items.length c0) := x0
            clear x0
            refine still_tail 18 (by kernel_rfl) (by kernel_rfl) ?_
            simp only [List.take_succ_cons, List.take_zero, List.drop_succ_cons, List.drop_zero]
            repeat still_step
            refine wpStill_nil ?_
            go_wp2_with (go_at_call 64; refine HREC.out.mono ?_; rintro e w7 hp7; obtain rfl := hp7.1; replace hp7 := Aside0.mk hp7)
            go_roundw
            case rel =>
              refine ⟨k + 1, by omega, by go_num, ⟨?_⟩⟩
              rw [fold_succ, HS1.out]
              exact HPUT.out.drew.step hp7.out.2.1 hp7.out.2.2
            case measure => simp [intOf]; omega
      · have hkn : k = m + 1 := by omega
        have hkz : ¬ (k : Int) < (m : Int) + 1 := by omega
        have HVN : Aside0 (VMid g gr gm bs.length (.slice (some ad) items.length c0) (.slice A1 judges.length c1) a2 (.slice A3 l3.length c3) bt t item w ((List.range (m + 1)).foldl F S) wr) := ⟨by have h := HVM.out; rw [hkn] at h; exact h⟩
        clear HVM hkn
        go_wp2
        go_end0
        refine ⟨rfl, ?_, HVN.out.wr⟩
        rw [HV.out, ← HF.out]
        exact HVN.out.sv
end Go.Proofs.Ytinnjghpmambiaa.Ext
