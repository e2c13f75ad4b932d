import Derived.Test.YtinnjghpmambiaaExP2
import Derived.Test.YtinnjghpmambiaaPrint6
namespace Go.Proofs.Ytinnjghpmambiaa.Ext
open Go.RowKit Go.Proofs.YtinnjghpmambiaaW.PrintWords Go.Proofs.Ytinnjghpmambiaa.Print

/-! Copy, as a plain function. -/
section
variable (I : List S93) (J : List S30) (a2 : Int) (G : List Int)
theorem copy_l0 (hJ : J.length < 1000000) (hM : ∀ x ∈ J, x.f2.length < 1000000) : ∀ (d q : Nat), q + d = J.length → Ev (fun k => handshaperef09_Copy.l0 k (q : Int) I J a2 G I (J.take q) a2 G) (I, J, a2, G)
  | 0, q, hq => by
    rw [List.take_of_length_le (by omega)]
    refine Ev.step (f := fun _ => some (I, J, a2, G)) (fun k => ?_) (Ev.now _)
    rw [handshaperef09_Copy.l0, if_neg (by omega)]
  | d + 1, q, hq => by
    have hlt : q < J.length := by omega
    have ih := copy_l0 hJ hM d (q + 1) (by omega)
    have hmem : J.getD q z30 ∈ J := by rw [List.getD_eq_getElem?_getD, List.getElem?_eq_getElem hlt]; exact List.getElem_mem hlt
    have hMq := hM _ hmem
    have hrd : rd_T30 J (q : Int) = J.getD q z30 := by unfold rd_T30; rw [Int.toNat_natCast]
    have htk : J.take (q + 1) = J.take q ++ [J.getD q z30] := by rw [List.take_succ_eq_append_getElem hlt, List.getD_eq_getElem?_getD, List.getElem?_eq_getElem hlt]; rfl
    rw [htk] at ih
    refine Ev.step (fun k => ?_) ih
    rw [handshaperef09_Copy.l0, if_pos (by omega), if_pos (by omega), Option.bind_some, hrd, if_pos (by simp only [List.length_nil]; omega), if_pos (by rw [List.length_take]; omega), wr1 q (by omega)]
    rfl
/-- Copy. -/
theorem copy_ev (hI : I.length < 1000000) (hJ : J.length < 1000000) (hM : ∀ x ∈ J, x.f2.length < 1000000) (hG : G.length < 1000000) : Ev (fun k => handshaperef09_Copy.f k I J a2 G) (I, J, a2, G) := by
  refine Ev.congr (fun k => ?_) (copy_l0 I J a2 G hJ hM J.length 0 (by omega))
  unfold handshaperef09_Copy.f
  rw [Option.bind_some, if_pos (by simp only [List.length_nil]; omega), Option.bind_some, if_pos (by simp only [List.length_nil]; omega)]
  rfl
end
end Go.Proofs.Ytinnjghpmambiaa.Ext
