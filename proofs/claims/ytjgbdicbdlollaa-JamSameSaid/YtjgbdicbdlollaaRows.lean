/-
  No cell of these rows narrows 'for every input' (looked for: loops, veiled, ifaces, maps, wideKeys, modest, calm, conditions, laid).
  DERIVED. THE GIVEN ROWS OF THIS SEAT. 13 by the template 'for every input the law returns true; each argument reads behind the call as it read before'; 0 by the template 'total and deterministic' (their statements: YtjgbdicbdlollaaTotals.lean).
  GIVEN WITH THE SEED: the statements are not yours to turn. If you find one false, say at which input.
  Laid BY PROGRAM, IN A SANDBOX (cutbox-rows.mjs): the forced cells as the released guide's own fill.sh prints them over the translation 45a7e81e5a97bf7a… (all of the seat's roots in one cut). By AI agents, Wed Nov 11 2026. No macro, syntax, notation, axiom, sorry.
-/
import Derived.Test.YtjgbdicbdlollaaChecked
import GoSem.Claim
import GoSem.ClaimJoined
import GoSem.ClaimMapViews
import Derived.JoinedTies
import Derived.KernelRfl
namespace Go.Proofs.Ytjgbdicbdlollaa
/- THE CELL 'sum', in the pinned program and in every row, IS THE sha256 OF THE DUMP (.gsa) THAT YtjgbdicbdlollaaProg.lean LOADS. Nothing in Lean hashes anything: it is a label: what it is worth is what the hold of that sum in a sandbox is worth. -/
noncomputable def Try.pinned : Pinned := { name := "ytjgbdicbdlollaa", sum := "45a7e81e5a97bf7a8b0018f9f275bb6e3b18aa09d4c1ac7913ae54d334eed231", checked := Try.checked }
namespace Rows
def none {H : Type} : Left H := { results := [], args := [] }

/-- 'trishawlaw02.JamBalances': WHATEVER THE INPUT: true; the input reads as it did. -/
def jamBalancesSpec : ChangeSpec := { name := "jamBalances", fn := fun _ => fun
  | [d] => { results := [.lit (.bool true)], args := [d] }
  | _ => none }
def jamBalancesRow : OpenClaim := { program := "ytjgbdicbdlollaa", sum := "45a7e81e5a97bf7a8b0018f9f275bb6e3b18aa09d4c1ac7913ae54d334eed231", func := "trishaw/trishawlaw02.JamBalances", spec := "jamBalances", unfollowed := true, recurses := true, apart := false }
def JamBalancesSaid : Prop := jamBalancesRow.holds Try.pinned (OpenSpec.ofChange jamBalancesSpec)

/-- ITS FALSE NEIGHBOUR: 'it returns false'. Refute it at one input. -/
def jamBalancesWrong : ChangeSpec := { name := "jamBalances", fn := fun _ => fun
  | [d] => { results := [.lit (.bool false)], args := [d] }
  | _ => none }
def JamBalancesWrongFalsely : Prop := jamBalancesRow.holds Try.pinned (OpenSpec.ofChange jamBalancesWrong)

/-- 'trishawlaw02.JamMarginal': WHATEVER THE INPUT: true; the input reads as it did. -/
def jamMarginalSpec : ChangeSpec := { name := "jamMarginal", fn := fun _ => fun
  | [d] => { results := [.lit (.bool true)], args := [d] }
  | _ => none }
def jamMarginalRow : OpenClaim := { program := "ytjgbdicbdlollaa", sum := "45a7e81e5a97bf7a8b0018f9f275bb6e3b18aa09d4c1ac7913ae54d334eed231", func := "trishaw/trishawlaw02.JamMarginal", spec := "jamMarginal", unfollowed := true, recurses := true, apart := false }
def JamMarginalSaid : Prop := jamMarginalRow.holds Try.pinned (OpenSpec.ofChange jamMarginalSpec)

/-- ITS FALSE NEIGHBOUR: 'it returns false'. Refute it at one input. -/
def jamMarginalWrong : ChangeSpec := { name := "jamMarginal", fn := fun _ => fun
  | [d] => { results := [.lit (.bool false)], args := [d] }
  | _ => none }
def JamMarginalWrongFalsely : Prop := jamMarginalRow.holds Try.pinned (OpenSpec.ofChange jamMarginalWrong)

/-- 'trishawlaw02.JamLane': WHATEVER THE INPUT: true; the input reads as it did. -/
def jamLaneSpec : ChangeSpec := { name := "jamLane", fn := fun _ => fun
  | [d1, d2] => { results := [.lit (.bool true)], args := [d1, d2] }
  | _ => none }
def jamLaneRow : OpenClaim := { program := "ytjgbdicbdlollaa", sum := "45a7e81e5a97bf7a8b0018f9f275bb6e3b18aa09d4c1ac7913ae54d334eed231", func := "trishaw/trishawlaw02.JamLane", spec := "jamLane", unfollowed := true, recurses := true, apart := false }
def JamLaneSaid : Prop := jamLaneRow.holds Try.pinned (OpenSpec.ofChange jamLaneSpec)

/-- ITS FALSE NEIGHBOUR: 'it returns false'. Refute it at one input. -/
def jamLaneWrong : ChangeSpec := { name := "jamLane", fn := fun _ => fun
  | [d1, d2] => { results := [.lit (.bool false)], args := [d1, d2] }
  | _ => none }
def JamLaneWrongFalsely : Prop := jamLaneRow.holds Try.pinned (OpenSpec.ofChange jamLaneWrong)

/-- 'trishawlaw02.JamTried': WHATEVER THE INPUT: true; the input reads as it did. -/
def jamTriedSpec : ChangeSpec := { name := "jamTried", fn := fun _ => fun
  | [d1, d2] => { results := [.lit (.bool true)], args := [d1, d2] }
  | _ => none }
def jamTriedRow : OpenClaim := { program := "ytjgbdicbdlollaa", sum := "45a7e81e5a97bf7a8b0018f9f275bb6e3b18aa09d4c1ac7913ae54d334eed231", func := "trishaw/trishawlaw02.JamTried", spec := "jamTried", unfollowed := true, recurses := true, apart := false }
def JamTriedSaid : Prop := jamTriedRow.holds Try.pinned (OpenSpec.ofChange jamTriedSpec)

/-- ITS FALSE NEIGHBOUR: 'it returns false'. Refute it at one input. -/
def jamTriedWrong : ChangeSpec := { name := "jamTried", fn := fun _ => fun
  | [d1, d2] => { results := [.lit (.bool false)], args := [d1, d2] }
  | _ => none }
def JamTriedWrongFalsely : Prop := jamTriedRow.holds Try.pinned (OpenSpec.ofChange jamTriedWrong)

/-- 'trishawlaw02.JamCosts': WHATEVER THE INPUT: true; the input reads as it did. -/
def jamCostsSpec : ChangeSpec := { name := "jamCosts", fn := fun _ => fun
  | [d1, d2] => { results := [.lit (.bool true)], args := [d1, d2] }
  | _ => none }
def jamCostsRow : OpenClaim := { program := "ytjgbdicbdlollaa", sum := "45a7e81e5a97bf7a8b0018f9f275bb6e3b18aa09d4c1ac7913ae54d334eed231", func := "trishaw/trishawlaw02.JamCosts", spec := "jamCosts", unfollowed := true, recurses := true, apart := false }
def JamCostsSaid : Prop := jamCostsRow.holds Try.pinned (OpenSpec.ofChange jamCostsSpec)

/-- ITS FALSE NEIGHBOUR: 'it returns false'. Refute it at one input. -/
def jamCostsWrong : ChangeSpec := { name := "jamCosts", fn := fun _ => fun
  | [d1, d2] => { results := [.lit (.bool false)], args := [d1, d2] }
  | _ => none }
def JamCostsWrongFalsely : Prop := jamCostsRow.holds Try.pinned (OpenSpec.ofChange jamCostsWrong)

/-- 'trishawlaw02.JamRosenthal': WHATEVER THE INPUT: true; the input reads as it did. -/
def jamRosenthalSpec : ChangeSpec := { name := "jamRosenthal", fn := fun _ => fun
  | [d1, d2, d3, d4] => { results := [.lit (.bool true)], args := [d1, d2, d3, d4] }
  | _ => none }
def jamRosenthalRow : OpenClaim := { program := "ytjgbdicbdlollaa", sum := "45a7e81e5a97bf7a8b0018f9f275bb6e3b18aa09d4c1ac7913ae54d334eed231", func := "trishaw/trishawlaw02.JamRosenthal", spec := "jamRosenthal", unfollowed := true, recurses := true, apart := false }
def JamRosenthalSaid : Prop := jamRosenthalRow.holds Try.pinned (OpenSpec.ofChange jamRosenthalSpec)

/-- ITS FALSE NEIGHBOUR: 'it returns false'. Refute it at one input. -/
def jamRosenthalWrong : ChangeSpec := { name := "jamRosenthal", fn := fun _ => fun
  | [d1, d2, d3, d4] => { results := [.lit (.bool false)], args := [d1, d2, d3, d4] }
  | _ => none }
def JamRosenthalWrongFalsely : Prop := jamRosenthalRow.holds Try.pinned (OpenSpec.ofChange jamRosenthalWrong)

/-- 'trishawlaw02.JamSettled': WHATEVER THE INPUT: true; the input reads as it did. -/
def jamSettledSpec : ChangeSpec := { name := "jamSettled", fn := fun _ => fun
  | [d] => { results := [.lit (.bool true)], args := [d] }
  | _ => none }
def jamSettledRow : OpenClaim := { program := "ytjgbdicbdlollaa", sum := "45a7e81e5a97bf7a8b0018f9f275bb6e3b18aa09d4c1ac7913ae54d334eed231", func := "trishaw/trishawlaw02.JamSettled", spec := "jamSettled", unfollowed := true, recurses := true, apart := false }
def JamSettledSaid : Prop := jamSettledRow.holds Try.pinned (OpenSpec.ofChange jamSettledSpec)

/-- ITS FALSE NEIGHBOUR: 'it returns false'. Refute it at one input. -/
def jamSettledWrong : ChangeSpec := { name := "jamSettled", fn := fun _ => fun
  | [d] => { results := [.lit (.bool false)], args := [d] }
  | _ => none }
def JamSettledWrongFalsely : Prop := jamSettledRow.holds Try.pinned (OpenSpec.ofChange jamSettledWrong)

/-- 'trishawlaw02.JamAffine': WHATEVER THE INPUT: true; the input reads as it did. -/
def jamAffineSpec : ChangeSpec := { name := "jamAffine", fn := fun _ => fun
  | [d1, d2] => { results := [.lit (.bool true)], args := [d1, d2] }
  | _ => none }
def jamAffineRow : OpenClaim := { program := "ytjgbdicbdlollaa", sum := "45a7e81e5a97bf7a8b0018f9f275bb6e3b18aa09d4c1ac7913ae54d334eed231", func := "trishaw/trishawlaw02.JamAffine", spec := "jamAffine", unfollowed := true, recurses := true, apart := false }
def JamAffineSaid : Prop := jamAffineRow.holds Try.pinned (OpenSpec.ofChange jamAffineSpec)

/-- ITS FALSE NEIGHBOUR: 'it returns false'. Refute it at one input. -/
def jamAffineWrong : ChangeSpec := { name := "jamAffine", fn := fun _ => fun
  | [d1, d2] => { results := [.lit (.bool false)], args := [d1, d2] }
  | _ => none }
def JamAffineWrongFalsely : Prop := jamAffineRow.holds Try.pinned (OpenSpec.ofChange jamAffineWrong)

/-- 'trishawlaw02.JamSame': WHATEVER THE INPUT: true; the input reads as it did. -/
def jamSameSpec : ChangeSpec := { name := "jamSame", fn := fun _ => fun
  | [d1, d2] => { results := [.lit (.bool true)], args := [d1, d2] }
  | _ => none }
def jamSameRow : OpenClaim := { program := "ytjgbdicbdlollaa", sum := "45a7e81e5a97bf7a8b0018f9f275bb6e3b18aa09d4c1ac7913ae54d334eed231", func := "trishaw/trishawlaw02.JamSame", spec := "jamSame", unfollowed := true, recurses := true, apart := false }
def JamSameSaid : Prop := jamSameRow.holds Try.pinned (OpenSpec.ofChange jamSameSpec)

/-- ITS FALSE NEIGHBOUR: 'it returns false'. Refute it at one input. -/
def jamSameWrong : ChangeSpec := { name := "jamSame", fn := fun _ => fun
  | [d1, d2] => { results := [.lit (.bool false)], args := [d1, d2] }
  | _ => none }
def JamSameWrongFalsely : Prop := jamSameRow.holds Try.pinned (OpenSpec.ofChange jamSameWrong)

/-- 'trishawlaw02.JamSteps': WHATEVER THE INPUT: true; the input reads as it did. -/
def jamStepsSpec : ChangeSpec := { name := "jamSteps", fn := fun _ => fun
  | [d1, d2] => { results := [.lit (.bool true)], args := [d1, d2] }
  | _ => none }
def jamStepsRow : OpenClaim := { program := "ytjgbdicbdlollaa", sum := "45a7e81e5a97bf7a8b0018f9f275bb6e3b18aa09d4c1ac7913ae54d334eed231", func := "trishaw/trishawlaw02.JamSteps", spec := "jamSteps", unfollowed := true, recurses := true, apart := false }
def JamStepsSaid : Prop := jamStepsRow.holds Try.pinned (OpenSpec.ofChange jamStepsSpec)

/-- ITS FALSE NEIGHBOUR: 'it returns false'. Refute it at one input. -/
def jamStepsWrong : ChangeSpec := { name := "jamSteps", fn := fun _ => fun
  | [d1, d2] => { results := [.lit (.bool false)], args := [d1, d2] }
  | _ => none }
def JamStepsWrongFalsely : Prop := jamStepsRow.holds Try.pinned (OpenSpec.ofChange jamStepsWrong)

/-- 'trishawlaw02.JamDelays': WHATEVER THE INPUT: true; the input reads as it did. -/
def jamDelaysSpec : ChangeSpec := { name := "jamDelays", fn := fun _ => fun
  | [d1, d2] => { results := [.lit (.bool true)], args := [d1, d2] }
  | _ => none }
def jamDelaysRow : OpenClaim := { program := "ytjgbdicbdlollaa", sum := "45a7e81e5a97bf7a8b0018f9f275bb6e3b18aa09d4c1ac7913ae54d334eed231", func := "trishaw/trishawlaw02.JamDelays", spec := "jamDelays", unfollowed := true, recurses := true, apart := false }
def JamDelaysSaid : Prop := jamDelaysRow.holds Try.pinned (OpenSpec.ofChange jamDelaysSpec)

/-- ITS FALSE NEIGHBOUR: 'it returns false'. Refute it at one input. -/
def jamDelaysWrong : ChangeSpec := { name := "jamDelays", fn := fun _ => fun
  | [d1, d2] => { results := [.lit (.bool false)], args := [d1, d2] }
  | _ => none }
def JamDelaysWrongFalsely : Prop := jamDelaysRow.holds Try.pinned (OpenSpec.ofChange jamDelaysWrong)

/-- 'trishawlaw02.JamStreams': WHATEVER THE INPUT: true; the input reads as it did. -/
def jamStreamsSpec : ChangeSpec := { name := "jamStreams", fn := fun _ => fun
  | [d1, d2] => { results := [.lit (.bool true)], args := [d1, d2] }
  | _ => none }
def jamStreamsRow : OpenClaim := { program := "ytjgbdicbdlollaa", sum := "45a7e81e5a97bf7a8b0018f9f275bb6e3b18aa09d4c1ac7913ae54d334eed231", func := "trishaw/trishawlaw02.JamStreams", spec := "jamStreams", unfollowed := true, recurses := true, apart := false }
def JamStreamsSaid : Prop := jamStreamsRow.holds Try.pinned (OpenSpec.ofChange jamStreamsSpec)

/-- ITS FALSE NEIGHBOUR: 'it returns false'. Refute it at one input. -/
def jamStreamsWrong : ChangeSpec := { name := "jamStreams", fn := fun _ => fun
  | [d1, d2] => { results := [.lit (.bool false)], args := [d1, d2] }
  | _ => none }
def JamStreamsWrongFalsely : Prop := jamStreamsRow.holds Try.pinned (OpenSpec.ofChange jamStreamsWrong)

/-- 'trishawlaw02.JamCalm': WHATEVER THE INPUT: true; the input reads as it did. -/
def jamCalmSpec : ChangeSpec := { name := "jamCalm", fn := fun _ => fun
  | [d1, d2] => { results := [.lit (.bool true)], args := [d1, d2] }
  | _ => none }
def jamCalmRow : OpenClaim := { program := "ytjgbdicbdlollaa", sum := "45a7e81e5a97bf7a8b0018f9f275bb6e3b18aa09d4c1ac7913ae54d334eed231", func := "trishaw/trishawlaw02.JamCalm", spec := "jamCalm", unfollowed := true, recurses := true, apart := false }
def JamCalmSaid : Prop := jamCalmRow.holds Try.pinned (OpenSpec.ofChange jamCalmSpec)

/-- ITS FALSE NEIGHBOUR: 'it returns false'. Refute it at one input. -/
def jamCalmWrong : ChangeSpec := { name := "jamCalm", fn := fun _ => fun
  | [d1, d2] => { results := [.lit (.bool false)], args := [d1, d2] }
  | _ => none }
def JamCalmWrongFalsely : Prop := jamCalmRow.holds Try.pinned (OpenSpec.ofChange jamCalmWrong)

/- THE SECOND FORM. 'bulk': how many values and letters a reading holds, each counted each time it is reached (what is shared counts as often as it is met; a slice's spare places count too). A statement '..UptoSaid' is the law's where the arguments, and the package variables that the reading takes, are together of bulk at most 1048576: NARROWER than '..Said'. Prove '..Said' where nothing that the law and all that it calls make is longer than what came in: it says more and counts as full. Else prove '..UptoSaid'. A law counts once. -/
mutual
def uptoBulk {H : Type} : DataW H → Nat
  | .lit (.string bytes) => bytes.length + 1
  | .lit _ => 1
  | .nil => 1
  | .ptr d => uptoBulk d + 1
  | .slice elems spare => uptoBulkAll elems + uptoBulkAll spare + 1
  | .agg parts => uptoBulkAll parts + 1
  | .iface _ d => uptoBulk d + 1
  | .map entries => uptoBulkEntries entries + 1
  | .held _ => 1
def uptoBulkAll {H : Type} : List (DataW H) → Nat
  | [] => 0
  | d :: r => uptoBulk d + uptoBulkAll r
def uptoBulkEntries {H : Type} : List (Lit × DataW H) → Nat
  | [] => 0
  | x :: r => uptoBulkEntry x + uptoBulkEntries r
def uptoBulkEntry {H : Type} : Lit × DataW H → Nat
  | (.string bytes, d) => bytes.length + uptoBulk d + 1
  | (_, d) => uptoBulk d + 1
 end
def uptoSmall : (H : Type) → List (DataW H) → Bool := fun _ ds => decide (uptoBulkAll ds ≤ 1048576)
def OpenSpec.upto (s : _root_.Go.ChangeSpec) : _root_.Go.OpenSpec := { _root_.Go.OpenSpec.ofChange s with cond := some uptoSmall }

/-- 'trishawlaw02.JamBalances', WHERE WHAT IT READS IS OF BULK AT MOST 1048576: true; the input reads as it did. -/
def jamBalancesUptoRow : OpenClaim := { program := "ytjgbdicbdlollaa", sum := "45a7e81e5a97bf7a8b0018f9f275bb6e3b18aa09d4c1ac7913ae54d334eed231", func := "trishaw/trishawlaw02.JamBalances", spec := "jamBalances", unfollowed := true, recurses := true, apart := false, narrowed := true }
def JamBalancesUptoSaid : Prop := jamBalancesUptoRow.holds Try.pinned (OpenSpec.upto jamBalancesSpec)

/-- 'trishawlaw02.JamMarginal', WHERE WHAT IT READS IS OF BULK AT MOST 1048576: true; the input reads as it did. -/
def jamMarginalUptoRow : OpenClaim := { program := "ytjgbdicbdlollaa", sum := "45a7e81e5a97bf7a8b0018f9f275bb6e3b18aa09d4c1ac7913ae54d334eed231", func := "trishaw/trishawlaw02.JamMarginal", spec := "jamMarginal", unfollowed := true, recurses := true, apart := false, narrowed := true }
def JamMarginalUptoSaid : Prop := jamMarginalUptoRow.holds Try.pinned (OpenSpec.upto jamMarginalSpec)

/-- 'trishawlaw02.JamLane', WHERE WHAT IT READS IS OF BULK AT MOST 1048576: true; the input reads as it did. -/
def jamLaneUptoRow : OpenClaim := { program := "ytjgbdicbdlollaa", sum := "45a7e81e5a97bf7a8b0018f9f275bb6e3b18aa09d4c1ac7913ae54d334eed231", func := "trishaw/trishawlaw02.JamLane", spec := "jamLane", unfollowed := true, recurses := true, apart := false, narrowed := true }
def JamLaneUptoSaid : Prop := jamLaneUptoRow.holds Try.pinned (OpenSpec.upto jamLaneSpec)

/-- 'trishawlaw02.JamTried', WHERE WHAT IT READS IS OF BULK AT MOST 1048576: true; the input reads as it did. -/
def jamTriedUptoRow : OpenClaim := { program := "ytjgbdicbdlollaa", sum := "45a7e81e5a97bf7a8b0018f9f275bb6e3b18aa09d4c1ac7913ae54d334eed231", func := "trishaw/trishawlaw02.JamTried", spec := "jamTried", unfollowed := true, recurses := true, apart := false, narrowed := true }
def JamTriedUptoSaid : Prop := jamTriedUptoRow.holds Try.pinned (OpenSpec.upto jamTriedSpec)

/-- 'trishawlaw02.JamCosts', WHERE WHAT IT READS IS OF BULK AT MOST 1048576: true; the input reads as it did. -/
def jamCostsUptoRow : OpenClaim := { program := "ytjgbdicbdlollaa", sum := "45a7e81e5a97bf7a8b0018f9f275bb6e3b18aa09d4c1ac7913ae54d334eed231", func := "trishaw/trishawlaw02.JamCosts", spec := "jamCosts", unfollowed := true, recurses := true, apart := false, narrowed := true }
def JamCostsUptoSaid : Prop := jamCostsUptoRow.holds Try.pinned (OpenSpec.upto jamCostsSpec)

/-- 'trishawlaw02.JamRosenthal', WHERE WHAT IT READS IS OF BULK AT MOST 1048576: true; the input reads as it did. -/
def jamRosenthalUptoRow : OpenClaim := { program := "ytjgbdicbdlollaa", sum := "45a7e81e5a97bf7a8b0018f9f275bb6e3b18aa09d4c1ac7913ae54d334eed231", func := "trishaw/trishawlaw02.JamRosenthal", spec := "jamRosenthal", unfollowed := true, recurses := true, apart := false, narrowed := true }
def JamRosenthalUptoSaid : Prop := jamRosenthalUptoRow.holds Try.pinned (OpenSpec.upto jamRosenthalSpec)

/-- 'trishawlaw02.JamSettled', WHERE WHAT IT READS IS OF BULK AT MOST 1048576: true; the input reads as it did. -/
def jamSettledUptoRow : OpenClaim := { program := "ytjgbdicbdlollaa", sum := "45a7e81e5a97bf7a8b0018f9f275bb6e3b18aa09d4c1ac7913ae54d334eed231", func := "trishaw/trishawlaw02.JamSettled", spec := "jamSettled", unfollowed := true, recurses := true, apart := false, narrowed := true }
def JamSettledUptoSaid : Prop := jamSettledUptoRow.holds Try.pinned (OpenSpec.upto jamSettledSpec)

/-- 'trishawlaw02.JamAffine', WHERE WHAT IT READS IS OF BULK AT MOST 1048576: true; the input reads as it did. -/
def jamAffineUptoRow : OpenClaim := { program := "ytjgbdicbdlollaa", sum := "45a7e81e5a97bf7a8b0018f9f275bb6e3b18aa09d4c1ac7913ae54d334eed231", func := "trishaw/trishawlaw02.JamAffine", spec := "jamAffine", unfollowed := true, recurses := true, apart := false, narrowed := true }
def JamAffineUptoSaid : Prop := jamAffineUptoRow.holds Try.pinned (OpenSpec.upto jamAffineSpec)

/-- 'trishawlaw02.JamSame', WHERE WHAT IT READS IS OF BULK AT MOST 1048576: true; the input reads as it did. -/
def jamSameUptoRow : OpenClaim := { program := "ytjgbdicbdlollaa", sum := "45a7e81e5a97bf7a8b0018f9f275bb6e3b18aa09d4c1ac7913ae54d334eed231", func := "trishaw/trishawlaw02.JamSame", spec := "jamSame", unfollowed := true, recurses := true, apart := false, narrowed := true }
def JamSameUptoSaid : Prop := jamSameUptoRow.holds Try.pinned (OpenSpec.upto jamSameSpec)

/-- 'trishawlaw02.JamSteps', WHERE WHAT IT READS IS OF BULK AT MOST 1048576: true; the input reads as it did. -/
def jamStepsUptoRow : OpenClaim := { program := "ytjgbdicbdlollaa", sum := "45a7e81e5a97bf7a8b0018f9f275bb6e3b18aa09d4c1ac7913ae54d334eed231", func := "trishaw/trishawlaw02.JamSteps", spec := "jamSteps", unfollowed := true, recurses := true, apart := false, narrowed := true }
def JamStepsUptoSaid : Prop := jamStepsUptoRow.holds Try.pinned (OpenSpec.upto jamStepsSpec)

/-- 'trishawlaw02.JamDelays', WHERE WHAT IT READS IS OF BULK AT MOST 1048576: true; the input reads as it did. -/
def jamDelaysUptoRow : OpenClaim := { program := "ytjgbdicbdlollaa", sum := "45a7e81e5a97bf7a8b0018f9f275bb6e3b18aa09d4c1ac7913ae54d334eed231", func := "trishaw/trishawlaw02.JamDelays", spec := "jamDelays", unfollowed := true, recurses := true, apart := false, narrowed := true }
def JamDelaysUptoSaid : Prop := jamDelaysUptoRow.holds Try.pinned (OpenSpec.upto jamDelaysSpec)

/-- 'trishawlaw02.JamStreams', WHERE WHAT IT READS IS OF BULK AT MOST 1048576: true; the input reads as it did. -/
def jamStreamsUptoRow : OpenClaim := { program := "ytjgbdicbdlollaa", sum := "45a7e81e5a97bf7a8b0018f9f275bb6e3b18aa09d4c1ac7913ae54d334eed231", func := "trishaw/trishawlaw02.JamStreams", spec := "jamStreams", unfollowed := true, recurses := true, apart := false, narrowed := true }
def JamStreamsUptoSaid : Prop := jamStreamsUptoRow.holds Try.pinned (OpenSpec.upto jamStreamsSpec)

/-- 'trishawlaw02.JamCalm', WHERE WHAT IT READS IS OF BULK AT MOST 1048576: true; the input reads as it did. -/
def jamCalmUptoRow : OpenClaim := { program := "ytjgbdicbdlollaa", sum := "45a7e81e5a97bf7a8b0018f9f275bb6e3b18aa09d4c1ac7913ae54d334eed231", func := "trishaw/trishawlaw02.JamCalm", spec := "jamCalm", unfollowed := true, recurses := true, apart := false, narrowed := true }
def JamCalmUptoSaid : Prop := jamCalmUptoRow.holds Try.pinned (OpenSpec.upto jamCalmSpec)

end Rows
end Go.Proofs.Ytjgbdicbdlollaa
