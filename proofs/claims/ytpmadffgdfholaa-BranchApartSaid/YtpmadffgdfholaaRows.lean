/-
  No cell of these rows narrows 'for every input' (looked for: loops, veiled, ifaces, maps, wideKeys, modest, calm, conditions, laid).
  DERIVED. THE GIVEN ROWS OF THIS SEAT. 12 by the template 'for every input the law returns true; each argument reads behind the call as it read before'; 0 by the template 'total and deterministic' (their statements: YtpmadffgdfholaaTotals.lean).
  GIVEN WITH THE SEED: the statements are not yours to turn. If you find one false, say at which input.
  Laid BY PROGRAM, IN A SANDBOX (cutbox-rows.mjs): the forced cells as the released guide's own fill.sh prints them over the translation 3e7d9c7dc1e3c6a1… (all of the seat's roots in one cut). By AI agents, Wed Nov 11 2026. No macro, syntax, notation, axiom, sorry.
-/
import Derived.Test.YtpmadffgdfholaaChecked
import GoSem.Claim
import GoSem.ClaimJoined
import GoSem.ClaimMapViews
import Derived.JoinedTies
import Derived.KernelRfl
namespace Go.Proofs.Ytpmadffgdfholaa
/- THE CELL 'sum', in the pinned program and in every row, IS THE sha256 OF THE DUMP (.gsa) THAT YtpmadffgdfholaaProg.lean LOADS. Nothing in Lean hashes anything: it is a label: what it is worth is what the hold of that sum in a sandbox is worth. -/
noncomputable def Try.pinned : Pinned := { name := "ytpmadffgdfholaa", sum := "3e7d9c7dc1e3c6a180a322df14b41f8151b397d8071fec94b8fca8ea44954e3e", checked := Try.checked }
namespace Rows
def none {H : Type} : Left H := { results := [], args := [] }

/-- 'trishawlaw03.BranchTutte': WHATEVER THE INPUT: true; the input reads as it did. -/
def branchTutteSpec : ChangeSpec := { name := "branchTutte", fn := fun _ => fun
  | [d1, d2] => { results := [.lit (.bool true)], args := [d1, d2] }
  | _ => none }
def branchTutteRow : OpenClaim := { program := "ytpmadffgdfholaa", sum := "3e7d9c7dc1e3c6a180a322df14b41f8151b397d8071fec94b8fca8ea44954e3e", func := "trishaw/trishawlaw03.BranchTutte", spec := "branchTutte", unfollowed := true, recurses := true, apart := false }
def BranchTutteSaid : Prop := branchTutteRow.holds Try.pinned (OpenSpec.ofChange branchTutteSpec)

/-- ITS FALSE NEIGHBOUR: 'it returns false'. Refute it at one input. -/
def branchTutteWrong : ChangeSpec := { name := "branchTutte", fn := fun _ => fun
  | [d1, d2] => { results := [.lit (.bool false)], args := [d1, d2] }
  | _ => none }
def BranchTutteWrongFalsely : Prop := branchTutteRow.holds Try.pinned (OpenSpec.ofChange branchTutteWrong)

/-- 'trishawlaw03.BranchProofs': WHATEVER THE INPUT: true; the input reads as it did. -/
def branchProofsSpec : ChangeSpec := { name := "branchProofs", fn := fun _ => fun
  | [d1, d2] => { results := [.lit (.bool true)], args := [d1, d2] }
  | _ => none }
def branchProofsRow : OpenClaim := { program := "ytpmadffgdfholaa", sum := "3e7d9c7dc1e3c6a180a322df14b41f8151b397d8071fec94b8fca8ea44954e3e", func := "trishaw/trishawlaw03.BranchProofs", spec := "branchProofs", unfollowed := true, recurses := true, apart := false }
def BranchProofsSaid : Prop := branchProofsRow.holds Try.pinned (OpenSpec.ofChange branchProofsSpec)

/-- ITS FALSE NEIGHBOUR: 'it returns false'. Refute it at one input. -/
def branchProofsWrong : ChangeSpec := { name := "branchProofs", fn := fun _ => fun
  | [d1, d2] => { results := [.lit (.bool false)], args := [d1, d2] }
  | _ => none }
def BranchProofsWrongFalsely : Prop := branchProofsRow.holds Try.pinned (OpenSpec.ofChange branchProofsWrong)

/-- 'trishawlaw03.BranchFinds': WHATEVER THE INPUT: true; the input reads as it did. -/
def branchFindsSpec : ChangeSpec := { name := "branchFinds", fn := fun _ => fun
  | [d1, d2] => { results := [.lit (.bool true)], args := [d1, d2] }
  | _ => none }
def branchFindsRow : OpenClaim := { program := "ytpmadffgdfholaa", sum := "3e7d9c7dc1e3c6a180a322df14b41f8151b397d8071fec94b8fca8ea44954e3e", func := "trishaw/trishawlaw03.BranchFinds", spec := "branchFinds", unfollowed := true, recurses := true, apart := false }
def BranchFindsSaid : Prop := branchFindsRow.holds Try.pinned (OpenSpec.ofChange branchFindsSpec)

/-- ITS FALSE NEIGHBOUR: 'it returns false'. Refute it at one input. -/
def branchFindsWrong : ChangeSpec := { name := "branchFinds", fn := fun _ => fun
  | [d1, d2] => { results := [.lit (.bool false)], args := [d1, d2] }
  | _ => none }
def BranchFindsWrongFalsely : Prop := branchFindsRow.holds Try.pinned (OpenSpec.ofChange branchFindsWrong)

/-- 'trishawlaw03.BranchCosts': WHATEVER THE INPUT: true; the input reads as it did. -/
def branchCostsSpec : ChangeSpec := { name := "branchCosts", fn := fun _ => fun
  | [d1, d2, d3, d4] => { results := [.lit (.bool true)], args := [d1, d2, d3, d4] }
  | _ => none }
def branchCostsRow : OpenClaim := { program := "ytpmadffgdfholaa", sum := "3e7d9c7dc1e3c6a180a322df14b41f8151b397d8071fec94b8fca8ea44954e3e", func := "trishaw/trishawlaw03.BranchCosts", spec := "branchCosts", unfollowed := true, recurses := true, apart := false }
def BranchCostsSaid : Prop := branchCostsRow.holds Try.pinned (OpenSpec.ofChange branchCostsSpec)

/-- ITS FALSE NEIGHBOUR: 'it returns false'. Refute it at one input. -/
def branchCostsWrong : ChangeSpec := { name := "branchCosts", fn := fun _ => fun
  | [d1, d2, d3, d4] => { results := [.lit (.bool false)], args := [d1, d2, d3, d4] }
  | _ => none }
def BranchCostsWrongFalsely : Prop := branchCostsRow.holds Try.pinned (OpenSpec.ofChange branchCostsWrong)

/-- 'trishawlaw03.BranchMore': WHATEVER THE INPUT: true; the input reads as it did. -/
def branchMoreSpec : ChangeSpec := { name := "branchMore", fn := fun _ => fun
  | [d1, d2, d3] => { results := [.lit (.bool true)], args := [d1, d2, d3] }
  | _ => none }
def branchMoreRow : OpenClaim := { program := "ytpmadffgdfholaa", sum := "3e7d9c7dc1e3c6a180a322df14b41f8151b397d8071fec94b8fca8ea44954e3e", func := "trishaw/trishawlaw03.BranchMore", spec := "branchMore", unfollowed := true, recurses := true, apart := false }
def BranchMoreSaid : Prop := branchMoreRow.holds Try.pinned (OpenSpec.ofChange branchMoreSpec)

/-- ITS FALSE NEIGHBOUR: 'it returns false'. Refute it at one input. -/
def branchMoreWrong : ChangeSpec := { name := "branchMore", fn := fun _ => fun
  | [d1, d2, d3] => { results := [.lit (.bool false)], args := [d1, d2, d3] }
  | _ => none }
def BranchMoreWrongFalsely : Prop := branchMoreRow.holds Try.pinned (OpenSpec.ofChange branchMoreWrong)

/-- 'trishawlaw03.BranchReaches': WHATEVER THE INPUT: true; the input reads as it did. -/
def branchReachesSpec : ChangeSpec := { name := "branchReaches", fn := fun _ => fun
  | [d1, d2, d3] => { results := [.lit (.bool true)], args := [d1, d2, d3] }
  | _ => none }
def branchReachesRow : OpenClaim := { program := "ytpmadffgdfholaa", sum := "3e7d9c7dc1e3c6a180a322df14b41f8151b397d8071fec94b8fca8ea44954e3e", func := "trishaw/trishawlaw03.BranchReaches", spec := "branchReaches", unfollowed := true, recurses := true, apart := false }
def BranchReachesSaid : Prop := branchReachesRow.holds Try.pinned (OpenSpec.ofChange branchReachesSpec)

/-- ITS FALSE NEIGHBOUR: 'it returns false'. Refute it at one input. -/
def branchReachesWrong : ChangeSpec := { name := "branchReaches", fn := fun _ => fun
  | [d1, d2, d3] => { results := [.lit (.bool false)], args := [d1, d2, d3] }
  | _ => none }
def BranchReachesWrongFalsely : Prop := branchReachesRow.holds Try.pinned (OpenSpec.ofChange branchReachesWrong)

/-- 'trishawlaw03.BranchIs': WHATEVER THE INPUT: true; the input reads as it did. -/
def branchIsSpec : ChangeSpec := { name := "branchIs", fn := fun _ => fun
  | [d1, d2, d3, d4] => { results := [.lit (.bool true)], args := [d1, d2, d3, d4] }
  | _ => none }
def branchIsRow : OpenClaim := { program := "ytpmadffgdfholaa", sum := "3e7d9c7dc1e3c6a180a322df14b41f8151b397d8071fec94b8fca8ea44954e3e", func := "trishaw/trishawlaw03.BranchIs", spec := "branchIs", unfollowed := true, recurses := true, apart := false }
def BranchIsSaid : Prop := branchIsRow.holds Try.pinned (OpenSpec.ofChange branchIsSpec)

/-- ITS FALSE NEIGHBOUR: 'it returns false'. Refute it at one input. -/
def branchIsWrong : ChangeSpec := { name := "branchIs", fn := fun _ => fun
  | [d1, d2, d3, d4] => { results := [.lit (.bool false)], args := [d1, d2, d3, d4] }
  | _ => none }
def BranchIsWrongFalsely : Prop := branchIsRow.holds Try.pinned (OpenSpec.ofChange branchIsWrong)

/-- 'trishawlaw03.BranchEdmonds': WHATEVER THE INPUT: true; the input reads as it did. -/
def branchEdmondsSpec : ChangeSpec := { name := "branchEdmonds", fn := fun _ => fun
  | [d1, d2, d3, d4] => { results := [.lit (.bool true)], args := [d1, d2, d3, d4] }
  | _ => none }
def branchEdmondsRow : OpenClaim := { program := "ytpmadffgdfholaa", sum := "3e7d9c7dc1e3c6a180a322df14b41f8151b397d8071fec94b8fca8ea44954e3e", func := "trishaw/trishawlaw03.BranchEdmonds", spec := "branchEdmonds", unfollowed := true, recurses := true, apart := false }
def BranchEdmondsSaid : Prop := branchEdmondsRow.holds Try.pinned (OpenSpec.ofChange branchEdmondsSpec)

/-- ITS FALSE NEIGHBOUR: 'it returns false'. Refute it at one input. -/
def branchEdmondsWrong : ChangeSpec := { name := "branchEdmonds", fn := fun _ => fun
  | [d1, d2, d3, d4] => { results := [.lit (.bool false)], args := [d1, d2, d3, d4] }
  | _ => none }
def BranchEdmondsWrongFalsely : Prop := branchEdmondsRow.holds Try.pinned (OpenSpec.ofChange branchEdmondsWrong)

/-- 'trishawlaw03.BranchReached': WHATEVER THE INPUT: true; the input reads as it did. -/
def branchReachedSpec : ChangeSpec := { name := "branchReached", fn := fun _ => fun
  | [d1, d2] => { results := [.lit (.bool true)], args := [d1, d2] }
  | _ => none }
def branchReachedRow : OpenClaim := { program := "ytpmadffgdfholaa", sum := "3e7d9c7dc1e3c6a180a322df14b41f8151b397d8071fec94b8fca8ea44954e3e", func := "trishaw/trishawlaw03.BranchReached", spec := "branchReached", unfollowed := true, recurses := true, apart := false }
def BranchReachedSaid : Prop := branchReachedRow.holds Try.pinned (OpenSpec.ofChange branchReachedSpec)

/-- ITS FALSE NEIGHBOUR: 'it returns false'. Refute it at one input. -/
def branchReachedWrong : ChangeSpec := { name := "branchReached", fn := fun _ => fun
  | [d1, d2] => { results := [.lit (.bool false)], args := [d1, d2] }
  | _ => none }
def BranchReachedWrongFalsely : Prop := branchReachedRow.holds Try.pinned (OpenSpec.ofChange branchReachedWrong)

/-- 'trishawlaw03.BranchBetween': WHATEVER THE INPUT: true; the input reads as it did. -/
def branchBetweenSpec : ChangeSpec := { name := "branchBetween", fn := fun _ => fun
  | [d1, d2, d3] => { results := [.lit (.bool true)], args := [d1, d2, d3] }
  | _ => none }
def branchBetweenRow : OpenClaim := { program := "ytpmadffgdfholaa", sum := "3e7d9c7dc1e3c6a180a322df14b41f8151b397d8071fec94b8fca8ea44954e3e", func := "trishaw/trishawlaw03.BranchBetween", spec := "branchBetween", unfollowed := true, recurses := true, apart := false }
def BranchBetweenSaid : Prop := branchBetweenRow.holds Try.pinned (OpenSpec.ofChange branchBetweenSpec)

/-- ITS FALSE NEIGHBOUR: 'it returns false'. Refute it at one input. -/
def branchBetweenWrong : ChangeSpec := { name := "branchBetween", fn := fun _ => fun
  | [d1, d2, d3] => { results := [.lit (.bool false)], args := [d1, d2, d3] }
  | _ => none }
def BranchBetweenWrongFalsely : Prop := branchBetweenRow.holds Try.pinned (OpenSpec.ofChange branchBetweenWrong)

/-- 'trishawlaw03.BranchNarrows': WHATEVER THE INPUT: true; the input reads as it did. -/
def branchNarrowsSpec : ChangeSpec := { name := "branchNarrows", fn := fun _ => fun
  | [d1, d2] => { results := [.lit (.bool true)], args := [d1, d2] }
  | _ => none }
def branchNarrowsRow : OpenClaim := { program := "ytpmadffgdfholaa", sum := "3e7d9c7dc1e3c6a180a322df14b41f8151b397d8071fec94b8fca8ea44954e3e", func := "trishaw/trishawlaw03.BranchNarrows", spec := "branchNarrows", unfollowed := true, recurses := true, apart := false }
def BranchNarrowsSaid : Prop := branchNarrowsRow.holds Try.pinned (OpenSpec.ofChange branchNarrowsSpec)

/-- ITS FALSE NEIGHBOUR: 'it returns false'. Refute it at one input. -/
def branchNarrowsWrong : ChangeSpec := { name := "branchNarrows", fn := fun _ => fun
  | [d1, d2] => { results := [.lit (.bool false)], args := [d1, d2] }
  | _ => none }
def BranchNarrowsWrongFalsely : Prop := branchNarrowsRow.holds Try.pinned (OpenSpec.ofChange branchNarrowsWrong)

/-- 'trishawlaw03.BranchApart': WHATEVER THE INPUT: true; the input reads as it did. -/
def branchApartSpec : ChangeSpec := { name := "branchApart", fn := fun _ => fun
  | [d1, d2, d3] => { results := [.lit (.bool true)], args := [d1, d2, d3] }
  | _ => none }
def branchApartRow : OpenClaim := { program := "ytpmadffgdfholaa", sum := "3e7d9c7dc1e3c6a180a322df14b41f8151b397d8071fec94b8fca8ea44954e3e", func := "trishaw/trishawlaw03.BranchApart", spec := "branchApart", unfollowed := true, recurses := true, apart := false }
def BranchApartSaid : Prop := branchApartRow.holds Try.pinned (OpenSpec.ofChange branchApartSpec)

/-- ITS FALSE NEIGHBOUR: 'it returns false'. Refute it at one input. -/
def branchApartWrong : ChangeSpec := { name := "branchApart", fn := fun _ => fun
  | [d1, d2, d3] => { results := [.lit (.bool false)], args := [d1, d2, d3] }
  | _ => none }
def BranchApartWrongFalsely : Prop := branchApartRow.holds Try.pinned (OpenSpec.ofChange branchApartWrong)

/- THE SECOND FORM. 'bulk': how many values and letters a reading holds, each counted each time it is reached (what is shared counts as often as it is met; a slice's spare places count too). A statement '..UptoSaid' is the law's where the arguments, and the package variables that the reading takes, are together of bulk at most 1048576: NARROWER than '..Said'. Prove '..Said' where nothing that the law and all that it calls make is longer than what came in: it says more and counts as full. Else prove '..UptoSaid'. A law counts once. -/
mutual
def uptoBulk {H : Type} : DataW H → Nat
  | .lit (.string bytes) => bytes.length + 1
  | .lit _ => 1
  | .nil => 1
  | .ptr d => uptoBulk d + 1
  | .slice elems spare => uptoBulkAll elems + uptoBulkAll spare + 1
  | .agg parts => uptoBulkAll parts + 1
  | .iface _ d => uptoBulk d + 1
  | .map entries => uptoBulkEntries entries + 1
  | .held _ => 1
def uptoBulkAll {H : Type} : List (DataW H) → Nat
  | [] => 0
  | d :: r => uptoBulk d + uptoBulkAll r
def uptoBulkEntries {H : Type} : List (Lit × DataW H) → Nat
  | [] => 0
  | x :: r => uptoBulkEntry x + uptoBulkEntries r
def uptoBulkEntry {H : Type} : Lit × DataW H → Nat
  | (.string bytes, d) => bytes.length + uptoBulk d + 1
  | (_, d) => uptoBulk d + 1
 end
def uptoSmall : (H : Type) → List (DataW H) → Bool := fun _ ds => decide (uptoBulkAll ds ≤ 1048576)
def OpenSpec.upto (s : _root_.Go.ChangeSpec) : _root_.Go.OpenSpec := { _root_.Go.OpenSpec.ofChange s with cond := some uptoSmall }

/-- 'trishawlaw03.BranchTutte', WHERE WHAT IT READS IS OF BULK AT MOST 1048576: true; the input reads as it did. -/
def branchTutteUptoRow : OpenClaim := { program := "ytpmadffgdfholaa", sum := "3e7d9c7dc1e3c6a180a322df14b41f8151b397d8071fec94b8fca8ea44954e3e", func := "trishaw/trishawlaw03.BranchTutte", spec := "branchTutte", unfollowed := true, recurses := true, apart := false, narrowed := true }
def BranchTutteUptoSaid : Prop := branchTutteUptoRow.holds Try.pinned (OpenSpec.upto branchTutteSpec)

/-- 'trishawlaw03.BranchProofs', WHERE WHAT IT READS IS OF BULK AT MOST 1048576: true; the input reads as it did. -/
def branchProofsUptoRow : OpenClaim := { program := "ytpmadffgdfholaa", sum := "3e7d9c7dc1e3c6a180a322df14b41f8151b397d8071fec94b8fca8ea44954e3e", func := "trishaw/trishawlaw03.BranchProofs", spec := "branchProofs", unfollowed := true, recurses := true, apart := false, narrowed := true }
def BranchProofsUptoSaid : Prop := branchProofsUptoRow.holds Try.pinned (OpenSpec.upto branchProofsSpec)

/-- 'trishawlaw03.BranchFinds', WHERE WHAT IT READS IS OF BULK AT MOST 1048576: true; the input reads as it did. -/
def branchFindsUptoRow : OpenClaim := { program := "ytpmadffgdfholaa", sum := "3e7d9c7dc1e3c6a180a322df14b41f8151b397d8071fec94b8fca8ea44954e3e", func := "trishaw/trishawlaw03.BranchFinds", spec := "branchFinds", unfollowed := true, recurses := true, apart := false, narrowed := true }
def BranchFindsUptoSaid : Prop := branchFindsUptoRow.holds Try.pinned (OpenSpec.upto branchFindsSpec)

/-- 'trishawlaw03.BranchCosts', WHERE WHAT IT READS IS OF BULK AT MOST 1048576: true; the input reads as it did. -/
def branchCostsUptoRow : OpenClaim := { program := "ytpmadffgdfholaa", sum := "3e7d9c7dc1e3c6a180a322df14b41f8151b397d8071fec94b8fca8ea44954e3e", func := "trishaw/trishawlaw03.BranchCosts", spec := "branchCosts", unfollowed := true, recurses := true, apart := false, narrowed := true }
def BranchCostsUptoSaid : Prop := branchCostsUptoRow.holds Try.pinned (OpenSpec.upto branchCostsSpec)

/-- 'trishawlaw03.BranchMore', WHERE WHAT IT READS IS OF BULK AT MOST 1048576: true; the input reads as it did. -/
def branchMoreUptoRow : OpenClaim := { program := "ytpmadffgdfholaa", sum := "3e7d9c7dc1e3c6a180a322df14b41f8151b397d8071fec94b8fca8ea44954e3e", func := "trishaw/trishawlaw03.BranchMore", spec := "branchMore", unfollowed := true, recurses := true, apart := false, narrowed := true }
def BranchMoreUptoSaid : Prop := branchMoreUptoRow.holds Try.pinned (OpenSpec.upto branchMoreSpec)

/-- 'trishawlaw03.BranchReaches', WHERE WHAT IT READS IS OF BULK AT MOST 1048576: true; the input reads as it did. -/
def branchReachesUptoRow : OpenClaim := { program := "ytpmadffgdfholaa", sum := "3e7d9c7dc1e3c6a180a322df14b41f8151b397d8071fec94b8fca8ea44954e3e", func := "trishaw/trishawlaw03.BranchReaches", spec := "branchReaches", unfollowed := true, recurses := true, apart := false, narrowed := true }
def BranchReachesUptoSaid : Prop := branchReachesUptoRow.holds Try.pinned (OpenSpec.upto branchReachesSpec)

/-- 'trishawlaw03.BranchIs', WHERE WHAT IT READS IS OF BULK AT MOST 1048576: true; the input reads as it did. -/
def branchIsUptoRow : OpenClaim := { program := "ytpmadffgdfholaa", sum := "3e7d9c7dc1e3c6a180a322df14b41f8151b397d8071fec94b8fca8ea44954e3e", func := "trishaw/trishawlaw03.BranchIs", spec := "branchIs", unfollowed := true, recurses := true, apart := false, narrowed := true }
def BranchIsUptoSaid : Prop := branchIsUptoRow.holds Try.pinned (OpenSpec.upto branchIsSpec)

/-- 'trishawlaw03.BranchEdmonds', WHERE WHAT IT READS IS OF BULK AT MOST 1048576: true; the input reads as it did. -/
def branchEdmondsUptoRow : OpenClaim := { program := "ytpmadffgdfholaa", sum := "3e7d9c7dc1e3c6a180a322df14b41f8151b397d8071fec94b8fca8ea44954e3e", func := "trishaw/trishawlaw03.BranchEdmonds", spec := "branchEdmonds", unfollowed := true, recurses := true, apart := false, narrowed := true }
def BranchEdmondsUptoSaid : Prop := branchEdmondsUptoRow.holds Try.pinned (OpenSpec.upto branchEdmondsSpec)

/-- 'trishawlaw03.BranchReached', WHERE WHAT IT READS IS OF BULK AT MOST 1048576: true; the input reads as it did. -/
def branchReachedUptoRow : OpenClaim := { program := "ytpmadffgdfholaa", sum := "3e7d9c7dc1e3c6a180a322df14b41f8151b397d8071fec94b8fca8ea44954e3e", func := "trishaw/trishawlaw03.BranchReached", spec := "branchReached", unfollowed := true, recurses := true, apart := false, narrowed := true }
def BranchReachedUptoSaid : Prop := branchReachedUptoRow.holds Try.pinned (OpenSpec.upto branchReachedSpec)

/-- 'trishawlaw03.BranchBetween', WHERE WHAT IT READS IS OF BULK AT MOST 1048576: true; the input reads as it did. -/
def branchBetweenUptoRow : OpenClaim := { program := "ytpmadffgdfholaa", sum := "3e7d9c7dc1e3c6a180a322df14b41f8151b397d8071fec94b8fca8ea44954e3e", func := "trishaw/trishawlaw03.BranchBetween", spec := "branchBetween", unfollowed := true, recurses := true, apart := false, narrowed := true }
def BranchBetweenUptoSaid : Prop := branchBetweenUptoRow.holds Try.pinned (OpenSpec.upto branchBetweenSpec)

/-- 'trishawlaw03.BranchNarrows', WHERE WHAT IT READS IS OF BULK AT MOST 1048576: true; the input reads as it did. -/
def branchNarrowsUptoRow : OpenClaim := { program := "ytpmadffgdfholaa", sum := "3e7d9c7dc1e3c6a180a322df14b41f8151b397d8071fec94b8fca8ea44954e3e", func := "trishaw/trishawlaw03.BranchNarrows", spec := "branchNarrows", unfollowed := true, recurses := true, apart := false, narrowed := true }
def BranchNarrowsUptoSaid : Prop := branchNarrowsUptoRow.holds Try.pinned (OpenSpec.upto branchNarrowsSpec)

/-- 'trishawlaw03.BranchApart', WHERE WHAT IT READS IS OF BULK AT MOST 1048576: true; the input reads as it did. -/
def branchApartUptoRow : OpenClaim := { program := "ytpmadffgdfholaa", sum := "3e7d9c7dc1e3c6a180a322df14b41f8151b397d8071fec94b8fca8ea44954e3e", func := "trishaw/trishawlaw03.BranchApart", spec := "branchApart", unfollowed := true, recurses := true, apart := false, narrowed := true }
def BranchApartUptoSaid : Prop := branchApartUptoRow.holds Try.pinned (OpenSpec.upto branchApartSpec)

end Rows
end Go.Proofs.Ytpmadffgdfholaa
