/-
  No cell of these rows narrows 'for every input' (looked for: loops, veiled, ifaces, maps, wideKeys, modest, calm, conditions, laid).
  DERIVED. THE GIVEN ROWS OF THIS SEAT. 4 by the template 'for every input the law returns true; each argument reads behind the call as it read before'; 0 by the template 'total and deterministic' (their statements: YtinnjghpmambiaaTotals.lean).
  GIVEN WITH THE SEED: the statements are not yours to turn. If you find one false, say at which input.
  Laid BY PROGRAM, IN A SANDBOX (cutbox-rows.mjs): the forced cells as the released guide's own fill.sh prints them over the translation d61a7e2f16b8ca72… (all of the seat's roots in one cut). By AI agents, Wed Nov 11 2026. No macro, syntax, notation, axiom, sorry.
-/
import Derived.Test.YtinnjghpmambiaaChecked
import GoSem.Claim
import GoSem.ClaimJoined
import GoSem.ClaimMapViews
import Derived.JoinedTies
import Derived.KernelRfl
namespace Go.Proofs.Ytinnjghpmambiaa
/- THE CELL 'sum', in the pinned program and in every row, IS THE sha256 OF THE DUMP (.gsa) THAT YtinnjghpmambiaaProg.lean LOADS. Nothing in Lean hashes anything: it is a label: what it is worth is what the hold of that sum in a sandbox is worth. -/
noncomputable def Try.pinned : Pinned := { name := "ytinnjghpmambiaa", sum := "d61a7e2f16b8ca722f6bfbe4ab03eb067c8319d88418a174ffc06a1f141985c5", checked := Try.checked }
namespace Rows
def none {H : Type} : Left H := { results := [], args := [] }

/-- 'handshapelaw09.ExamsMore': WHATEVER THE INPUT: true; the input reads as it did. -/
def examsMoreSpec : ChangeSpec := { name := "examsMore", fn := fun _ => fun
  | [d1, d2] => { results := [.lit (.bool true)], args := [d1, d2] }
  | _ => none }
def examsMoreRow : OpenClaim := { program := "ytinnjghpmambiaa", sum := "d61a7e2f16b8ca722f6bfbe4ab03eb067c8319d88418a174ffc06a1f141985c5", func := "handshape/handshapelaw09.ExamsMore", spec := "examsMore", unfollowed := true, recurses := true, apart := false }
def ExamsMoreSaid : Prop := examsMoreRow.holds Try.pinned (OpenSpec.ofChange examsMoreSpec)

/-- ITS FALSE NEIGHBOUR: 'it returns false'. Refute it at one input. -/
def examsMoreWrong : ChangeSpec := { name := "examsMore", fn := fun _ => fun
  | [d1, d2] => { results := [.lit (.bool false)], args := [d1, d2] }
  | _ => none }
def ExamsMoreWrongFalsely : Prop := examsMoreRow.holds Try.pinned (OpenSpec.ofChange examsMoreWrong)

/-- 'handshapelaw09.ExamsRanked': WHATEVER THE INPUT: true; the input reads as it did. -/
def examsRankedSpec : ChangeSpec := { name := "examsRanked", fn := fun _ => fun
  | [d1, d2] => { results := [.lit (.bool true)], args := [d1, d2] }
  | _ => none }
def examsRankedRow : OpenClaim := { program := "ytinnjghpmambiaa", sum := "d61a7e2f16b8ca722f6bfbe4ab03eb067c8319d88418a174ffc06a1f141985c5", func := "handshape/handshapelaw09.ExamsRanked", spec := "examsRanked", unfollowed := true, recurses := true, apart := false }
def ExamsRankedSaid : Prop := examsRankedRow.holds Try.pinned (OpenSpec.ofChange examsRankedSpec)

/-- ITS FALSE NEIGHBOUR: 'it returns false'. Refute it at one input. -/
def examsRankedWrong : ChangeSpec := { name := "examsRanked", fn := fun _ => fun
  | [d1, d2] => { results := [.lit (.bool false)], args := [d1, d2] }
  | _ => none }
def ExamsRankedWrongFalsely : Prop := examsRankedRow.holds Try.pinned (OpenSpec.ofChange examsRankedWrong)

/-- 'handshapetop.TopAble': WHATEVER THE INPUT: true; the input reads as it did. -/
def topAbleSpec : ChangeSpec := { name := "topAble", fn := fun _ => fun
  | [d1, d2, d3] => { results := [.lit (.bool true)], args := [d1, d2, d3] }
  | _ => none }
def topAbleRow : OpenClaim := { program := "ytinnjghpmambiaa", sum := "d61a7e2f16b8ca722f6bfbe4ab03eb067c8319d88418a174ffc06a1f141985c5", func := "handshape/handshapetop.TopAble", spec := "topAble", unfollowed := true, recurses := true, apart := false }
def TopAbleSaid : Prop := topAbleRow.holds Try.pinned (OpenSpec.ofChange topAbleSpec)

/-- ITS FALSE NEIGHBOUR: 'it returns false'. Refute it at one input. -/
def topAbleWrong : ChangeSpec := { name := "topAble", fn := fun _ => fun
  | [d1, d2, d3] => { results := [.lit (.bool false)], args := [d1, d2, d3] }
  | _ => none }
def TopAbleWrongFalsely : Prop := topAbleRow.holds Try.pinned (OpenSpec.ofChange topAbleWrong)

/-- 'handshapelaw03.TeamsEasier': WHATEVER THE INPUT: true; the input reads as it did. -/
def teamsEasierSpec : ChangeSpec := { name := "teamsEasier", fn := fun _ => fun
  | [d1, d2, d3] => { results := [.lit (.bool true)], args := [d1, d2, d3] }
  | _ => none }
def teamsEasierRow : OpenClaim := { program := "ytinnjghpmambiaa", sum := "d61a7e2f16b8ca722f6bfbe4ab03eb067c8319d88418a174ffc06a1f141985c5", func := "handshape/handshapelaw03.TeamsEasier", spec := "teamsEasier", unfollowed := true, recurses := true, apart := false }
def TeamsEasierSaid : Prop := teamsEasierRow.holds Try.pinned (OpenSpec.ofChange teamsEasierSpec)

/-- ITS FALSE NEIGHBOUR: 'it returns false'. Refute it at one input. -/
def teamsEasierWrong : ChangeSpec := { name := "teamsEasier", fn := fun _ => fun
  | [d1, d2, d3] => { results := [.lit (.bool false)], args := [d1, d2, d3] }
  | _ => none }
def TeamsEasierWrongFalsely : Prop := teamsEasierRow.holds Try.pinned (OpenSpec.ofChange teamsEasierWrong)

/- THE SECOND FORM. 'bulk': how many values and letters a reading holds, each counted each time it is reached (what is shared counts as often as it is met; a slice's spare places count too). A statement '..UptoSaid' is the law's where the arguments, and the package variables that the reading takes, are together of bulk at most 1048576: NARROWER than '..Said'. Prove '..Said' where nothing that the law and all that it calls make is longer than what came in: it says more and counts as full. Else prove '..UptoSaid'. A law counts once. -/
mutual
def uptoBulk {H : Type} : DataW H → Nat
  | .lit (.string bytes) => bytes.length + 1
  | .lit _ => 1
  | .nil => 1
  | .ptr d => uptoBulk d + 1
  | .slice elems spare => uptoBulkAll elems + uptoBulkAll spare + 1
  | .agg parts => uptoBulkAll parts + 1
  | .iface _ d => uptoBulk d + 1
  | .map entries => uptoBulkEntries entries + 1
  | .held _ => 1
def uptoBulkAll {H : Type} : List (DataW H) → Nat
  | [] => 0
  | d :: r => uptoBulk d + uptoBulkAll r
def uptoBulkEntries {H : Type} : List (Lit × DataW H) → Nat
  | [] => 0
  | x :: r => uptoBulkEntry x + uptoBulkEntries r
def uptoBulkEntry {H : Type} : Lit × DataW H → Nat
  | (.string bytes, d) => bytes.length + uptoBulk d + 1
  | (_, d) => uptoBulk d + 1
 end
def uptoSmall : (H : Type) → List (DataW H) → Bool := fun _ ds => decide (uptoBulkAll ds ≤ 1048576)
def OpenSpec.upto (s : _root_.Go.ChangeSpec) : _root_.Go.OpenSpec := { _root_.Go.OpenSpec.ofChange s with cond := some uptoSmall }

/-- 'handshapelaw09.ExamsMore', WHERE WHAT IT READS IS OF BULK AT MOST 1048576: true; the input reads as it did. -/
def examsMoreUptoRow : OpenClaim := { program := "ytinnjghpmambiaa", sum := "d61a7e2f16b8ca722f6bfbe4ab03eb067c8319d88418a174ffc06a1f141985c5", func := "handshape/handshapelaw09.ExamsMore", spec := "examsMore", unfollowed := true, recurses := true, apart := false, narrowed := true }
def ExamsMoreUptoSaid : Prop := examsMoreUptoRow.holds Try.pinned (OpenSpec.upto examsMoreSpec)

/-- 'handshapelaw09.ExamsRanked', WHERE WHAT IT READS IS OF BULK AT MOST 1048576: true; the input reads as it did. -/
def examsRankedUptoRow : OpenClaim := { program := "ytinnjghpmambiaa", sum := "d61a7e2f16b8ca722f6bfbe4ab03eb067c8319d88418a174ffc06a1f141985c5", func := "handshape/handshapelaw09.ExamsRanked", spec := "examsRanked", unfollowed := true, recurses := true, apart := false, narrowed := true }
def ExamsRankedUptoSaid : Prop := examsRankedUptoRow.holds Try.pinned (OpenSpec.upto examsRankedSpec)

/-- 'handshapetop.TopAble', WHERE WHAT IT READS IS OF BULK AT MOST 1048576: true; the input reads as it did. -/
def topAbleUptoRow : OpenClaim := { program := "ytinnjghpmambiaa", sum := "d61a7e2f16b8ca722f6bfbe4ab03eb067c8319d88418a174ffc06a1f141985c5", func := "handshape/handshapetop.TopAble", spec := "topAble", unfollowed := true, recurses := true, apart := false, narrowed := true }
def TopAbleUptoSaid : Prop := topAbleUptoRow.holds Try.pinned (OpenSpec.upto topAbleSpec)

/-- 'handshapelaw03.TeamsEasier', WHERE WHAT IT READS IS OF BULK AT MOST 1048576: true; the input reads as it did. -/
def teamsEasierUptoRow : OpenClaim := { program := "ytinnjghpmambiaa", sum := "d61a7e2f16b8ca722f6bfbe4ab03eb067c8319d88418a174ffc06a1f141985c5", func := "handshape/handshapelaw03.TeamsEasier", spec := "teamsEasier", unfollowed := true, recurses := true, apart := false, narrowed := true }
def TeamsEasierUptoSaid : Prop := teamsEasierUptoRow.holds Try.pinned (OpenSpec.upto teamsEasierSpec)

end Rows
end Go.Proofs.Ytinnjghpmambiaa
