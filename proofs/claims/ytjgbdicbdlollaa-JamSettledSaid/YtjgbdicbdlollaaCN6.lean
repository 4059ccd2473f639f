/- Texts behind the row of JamSettled, part 6: contracts of the functions it reaches, words that their walks use, and lemmas in plain Lean. -/
import Derived.Below
import Derived.Deep.Draws
import Derived.Deep.AppendLies
import Derived.Maps.AppendAt
import Derived.OwnWalk
import Derived.Laws.BytesArg
import Derived.Laws.MakeOwn
import Derived.Laws.OwnMore
import Derived.Deep.OwnRows
import Derived.Tactics
import Derived.Lib.ConvBytes
import Derived.Laws.Slices
import Derived.WalkKit
import Derived.KernelRfl
import Derived.RowKit3
import Derived.Deep.LoopGhost
import Derived.Deep.QuietTactic
import Derived.BigQuiet
import Derived.WideLaws
import Derived.Deep.DeepCutAuto
import Derived.Deep.CutBlock
import Derived.Deep.RegionHeld3
import Derived.Laws.Rows
import Derived.Lib.AppendStr
import Derived.ArgAppend
import Derived.Laws.IdiomCopy
import Derived.RowKit
import Derived.OrdersHeld
import Derived.Laws.BitsLemmas
import Derived.Laws.StructEq
import Derived.Test.YtjgbdicbdlollaaProg
import Derived.WalkSpells
import Derived.MapKept
import Derived.Maps.RangeWalk
import Derived.Shelf.SlSortCmp.SmallK
import Derived.Ground.SlsfProg
import Derived.Deep.Slices
import Derived.Deep.Fields
import Derived.ChangeSame
import Derived.ChangeSlices
import Derived.Sort.LotA
import Derived.Test.YtjgbdicbdlollaaCN1
import Derived.Test.YtjgbdicbdlollaaCN2
import Derived.Test.YtjgbdicbdlollaaCN3
import Derived.Test.YtjgbdicbdlollaaCN4
import Derived.Test.YtjgbdicbdlollaaCN5
namespace Go.Proofs.Ytjgbdicbdlollaa.B
open Go.RowKit Go.Proofs.YtjgbdicbdlollaaW.PrintWords Go.Proofs.YtjgbdicbdlollaaW.PrintLast Go.Proofs.YtjgbdicbdlollaaW.PrintMore
attribute [local go_sem] max2_int min2_int max_two min_two max_three min_three max_four min_four   -- for this text's walks alone
set_option linter.unusedVariables false
set_option linter.unusedSimpArgs false
attribute [local go_sem high] eqA28
def trishawlaw02_alive.f (k : Nat)  : Option (Bool) := (trishawlaw02_two.f).bind fun bt101 => ((jam_Costs.f k bt101.1 bt101.2 (([0, 0] : List Int))).bind fun bt110 => ((trishawlaw02_two.f).bind fun bt115 => ((jam_Best.f k bt115.1 bt115.2).bind fun bt121 => ((jam_Balance.f k (([(⟨0, 2⟩ : S36), (⟨1, 1⟩ : S36)] : List (S36)))).bind fun bt129 => ((jam_Cheapest.f k (([(⟨0, 1⟩ : S36), (⟨1, 1⟩ : S36)] : List (S36)))).bind fun bt141 => (if bt110.2.2 = 0 then ((trishawlaw02_same.f k bt110.1 (([2, 2] : List Int))).bind fun t153 => (if t153 = true then (if bt110.2.1 = 4 then (if bt121.2.2 = 0 then ((trishawlaw02_same.f k bt121.1 (([0, 1] : List Int))).bind fun t157 => (if t157 = true then (if bt121.2.1 = 3 then (if bt129.2.2.2.2 = 0 then ((trishawlaw02_parts.f k bt129.1 bt129.2.1 (([2, 1] : List Int)) 3).bind fun t161 => (if t161 = true then (if (bt129.2.2.1 == 4 && (bt129.2.2.2.1 == 3)) = true then (if bt141.2.2.2.2 = 0 then (some (bt141.2.2.1 == 7 && (bt141.2.2.2.1 == 8))) else (some false)) else (some false)) else (some false))) else (some false)) else (some false)) else (some false))) else (some false)) else (some false)) else (some false))) else (some false)))))))
theorem trishawlaw02_alive.mono : ∀ k, LeO (trishawlaw02_alive.f k ) (trishawlaw02_alive.f (k + 1) ) := by
  intro  k
  unfold trishawlaw02_alive.f
  repeat' first
      | (with_reducible exact jam_Balance.mono _ _)
      | (with_reducible exact jam_Best.mono _ _ _)
      | (with_reducible exact jam_Cheapest.mono _ _)
      | (with_reducible exact jam_Costs.mono _ _ _ _)
      | (with_reducible exact trishawlaw02_parts.mono _ _ _ _ _)
      | (with_reducible exact trishawlaw02_same.mono _ _ _)
      | (with_reducible exact LeO.refl _)
      | (with_reducible exact LeO.none _)
      | (with_reducible refine LeO.ite ?_ ?_)
      | (with_reducible refine LeO.bind ?_ (fun _ => ?_))
      | exact jam_Balance.mono _ _
      | exact jam_Best.mono _ _ _
      | exact jam_Cheapest.mono _ _
      | exact jam_Costs.mono _ _ _ _
      | exact trishawlaw02_parts.mono _ _ _ _ _
      | exact trishawlaw02_same.mono _ _ _
      | exact LeO.none _
      | refine LeO.ite ?_ ?_
      | refine LeO.bind ?_ (fun _ => ?_)
theorem alive_true : trishawlaw02_alive.f 60 = some true := by kernel_rfl
theorem alive_from (k : Nat) (h : 60 ≤ k) : trishawlaw02_alive.f k = some true := by
  obtain ⟨d, rfl⟩ : ∃ d, k = 60 + d := ⟨k - 60, by omega⟩
  induction d with
  | zero => exact alive_true
  | succ d ih => exact trishawlaw02_alive.mono (60 + d) true (ih (by omega))
theorem alive_up (k : Nat) (r : Bool) (h : trishawlaw02_alive.f k = some r) (d : Nat) : trishawlaw02_alive.f (k + d) = some r := by
  induction d with
  | zero => exact h
  | succ d ih => exact trishawlaw02_alive.mono (k + d) r ih
theorem alive_only (k : Nat) (r : Bool) (h : trishawlaw02_alive.f k = some r) : r = true := by
  have h1 := alive_up k r h 60
  rw [alive_from (k + 60) (by omega)] at h1
  exact (Option.some.inj h1).symm
set_option maxHeartbeats 8000000 in
set_option maxRecDepth 100000 in
theorem trishawlaw02_alive.calls (k : Nat)  (r : Bool) (w : World) (h : trishawlaw02_alive.f k  = some r) :
  Calls Try.prog 16 #[] w fun e w' => e = .returned (.bool r) ∧ Below w.heap.size w w' := by
 have hu36 := Try.underlying36
 have hu26 := Try.underlying26
 have hu28 := Try.underlying28
 have HB := Az0.mk (Below.refl w.heap.size w)
 have H : ((trishawlaw02_two.f).bind fun bt101 => ((jam_Costs.f k bt101.1 bt101.2 (([0, 0] : List Int))).bind fun bt110 => ((trishawlaw02_two.f).bind fun bt115 => ((jam_Best.f k bt115.1 bt115.2).bind fun bt121 => ((jam_Balance.f k (([(⟨0, 2⟩ : S36), (⟨1, 1⟩ : S36)] : List (S36)))).bind fun bt129 => ((jam_Cheapest.f k (([(⟨0, 1⟩ : S36), (⟨1, 1⟩ : S36)] : List (S36)))).bind fun bt141 => (if bt110.2.2 = 0 then ((trishawlaw02_same.f k bt110.1 (([2, 2] : List Int))).bind fun t153 => (if t153 = true then (if bt110.2.1 = 4 then (if bt121.2.2 = 0 then ((trishawlaw02_same.f k bt121.1 (([0, 1] : List Int))).bind fun t157 => (if t157 = true then (if bt121.2.1 = 3 then (if bt129.2.2.2.2 = 0 then ((trishawlaw02_parts.f k bt129.1 bt129.2.1 (([2, 1] : List Int)) 3).bind fun t161 => (if t161 = true then (if (bt129.2.2.1 == 4 && (bt129.2.2.2.1 == 3)) = true then (if bt141.2.2.2.2 = 0 then (some (bt141.2.2.1 == 7 && (bt141.2.2.2.1 == 8))) else (some false)) else (some false)) else (some false))) else (some false)) else (some false)) else (some false))) else (some false)) else (some false)) else (some false))) else (some false)))))))) = some r := h
 have HRT := Az0.mk (alive_only k r h)
 clear h
 replace H := Option.bind_eq_some_iff.mp H
 obtain ⟨⟨t101, t104⟩, A10, H⟩ := H
 replace H : ((jam_Costs.f k t101 t104 (([0, 0] : List Int))).bind fun bt110 => ((trishawlaw02_two.f).bind fun bt115 => ((jam_Best.f k bt115.1 bt115.2).bind fun bt121 => ((jam_Balance.f k (([(⟨0, 2⟩ : S36), (⟨1, 1⟩ : S36)] : List (S36)))).bind fun bt129 => ((jam_Cheapest.f k (([(⟨0, 1⟩ : S36), (⟨1, 1⟩ : S36)] : List (S36)))).bind fun bt141 => (if bt110.2.2 = 0 then ((trishawlaw02_same.f k bt110.1 (([2, 2] : List Int))).bind fun t153 => (if t153 = true then (if bt110.2.1 = 4 then (if bt121.2.2 = 0 then ((trishawlaw02_same.f k bt121.1 (([0, 1] : List Int))).bind fun t157 => (if t157 = true then (if bt121.2.1 = 3 then (if bt129.2.2.2.2 = 0 then ((trishawlaw02_parts.f k bt129.1 bt129.2.1 (([2, 1] : List Int)) 3).bind fun t161 => (if t161 = true then (if (bt129.2.2.1 == 4 && (bt129.2.2.2.1 == 3)) = true then (if bt141.2.2.2.2 = 0 then (some (bt141.2.2.1 == 7 && (bt141.2.2.2.1 == 8))) else (some false)) else (some false)) else (some false))) else (some false)) else (some false)) else (some false))) else (some false)) else (some false)) else (some false))) else (some false))))))) = some r := H
 have A1 := Az0.mk A10
 clear A10
 obtain ⟨y107, hy107⟩ : ∃ y_ : List Int, y_ = (([0, 0] : List Int)) := ⟨_, rfl⟩
 replace H : ((jam_Costs.f k t101 t104 y107).bind fun bt110 => ((trishawlaw02_two.f).bind fun bt115 => ((jam_Best.f k bt115.1 bt115.2).bind fun bt121 => ((jam_Balance.f k (([(⟨0, 2⟩ : S36), (⟨1, 1⟩ : S36)] : List (S36)))).bind fun bt129 => ((jam_Cheapest.f k (([(⟨0, 1⟩ : S36), (⟨1, 1⟩ : S36)] : List (S36)))).bind fun bt141 => (if bt110.2.2 = 0 then ((trishawlaw02_same.f k bt110.1 (([2, 2] : List Int))).bind fun t153 => (if t153 = true then (if bt110.2.1 = 4 then (if bt121.2.2 = 0 then ((trishawlaw02_same.f k bt121.1 (([0, 1] : List Int))).bind fun t157 => (if t157 = true then (if bt121.2.1 = 3 then (if bt129.2.2.2.2 = 0 then ((trishawlaw02_parts.f k bt129.1 bt129.2.1 (([2, 1] : List Int)) 3).bind fun t161 => (if t161 = true then (if (bt129.2.2.1 == 4 && (bt129.2.2.2.1 == 3)) = true then (if bt141.2.2.2.2 = 0 then (some (bt141.2.2.1 == 7 && (bt141.2.2.2.1 == 8))) else (some false)) else (some false)) else (some false))) else (some false)) else (some false)) else (some false))) else (some false)) else (some false)) else (some false))) else (some false))))))) = some r := by first | (rw [hy107]; with_reducible exact H) | (have H2_ := (Option.bind_some _ _).symm.trans H; rw [hy107]; with_reducible exact H2_) | (have H2_ := (Option.bind_some _ _).symm.trans H; with_reducible exact H2_) | with_reducible exact H | (rw [hy107]; exact H) | exact H
 have Ny107 := Az0.mk hy107
 clear hy107
 replace H := Option.bind_eq_some_iff.mp H
 obtain ⟨⟨t110, t113, t114⟩, A20, H⟩ := H
 replace H : ((trishawlaw02_two.f).bind fun bt115 => ((jam_Best.f k bt115.1 bt115.2).bind fun bt121 => ((jam_Balance.f k (([(⟨0, 2⟩ : S36), (⟨1, 1⟩ : S36)] : List (S36)))).bind fun bt129 => ((jam_Cheapest.f k (([(⟨0, 1⟩ : S36), (⟨1, 1⟩ : S36)] : List (S36)))).bind fun bt141 => (if t114 = 0 then ((trishawlaw02_same.f k t110 (([2, 2] : List Int))).bind fun t153 => (if t153 = true then (if t113 = 4 then (if bt121.2.2 = 0 then ((trishawlaw02_same.f k bt121.1 (([0, 1] : List Int))).bind fun t157 => (if t157 = true then (if bt121.2.1 = 3 then (if bt129.2.2.2.2 = 0 then ((trishawlaw02_parts.f k bt129.1 bt129.2.1 (([2, 1] : List Int)) 3).bind fun t161 => (if t161 = true then (if (bt129.2.2.1 == 4 && (bt129.2.2.2.1 == 3)) = true then (if bt141.2.2.2.2 = 0 then (some (bt141.2.2.1 == 7 && (bt141.2.2.2.1 == 8))) else (some false)) else (some false)) else (some false))) else (some false)) else (some false)) else (some false))) else (some false)) else (some false)) else (some false))) else (some false)))))) = some r := H
 have A2 := Az0.mk A20
 clear A20
 replace H := Option.bind_eq_some_iff.mp H
 obtain ⟨⟨t115, t118⟩, A30, H⟩ := H
 replace H : ((jam_Best.f k t115 t118).bind fun bt121 => ((jam_Balance.f k (([(⟨0, 2⟩ : S36), (⟨1, 1⟩ : S36)] : List (S36)))).bind fun bt129 => ((jam_Cheapest.f k (([(⟨0, 1⟩ : S36), (⟨1, 1⟩ : S36)] : List (S36)))).bind fun bt141 => (if t114 = 0 then ((trishawlaw02_same.f k t110 (([2, 2] : List Int))).bind fun t153 => (if t153 = true then (if t113 = 4 then (if bt121.2.2 = 0 then ((trishawlaw02_same.f k bt121.1 (([0, 1] : List Int))).bind fun t157 => (if t157 = true then (if bt121.2.1 = 3 then (if bt129.2.2.2.2 = 0 then ((trishawlaw02_parts.f k bt129.1 bt129.2.1 (([2, 1] : List Int)) 3).bind fun t161 => (if t161 = true then (if (bt129.2.2.1 == 4 && (bt129.2.2.2.1 == 3)) = true then (if bt141.2.2.2.2 = 0 then (some (bt141.2.2.1 == 7 && (bt141.2.2.2.1 == 8))) else (some false)) else (some false)) else (some false))) else (some false)) else (some false)) else (some false))) else (some false)) else (some false)) else (some false))) else (some false))))) = some r := H
 have A3 := Az0.mk A30
 clear A30
 replace H := Option.bind_eq_some_iff.mp H
 obtain ⟨⟨t121, t124, t125⟩, A40, H⟩ := H
 replace H : ((jam_Balance.f k (([(⟨0, 2⟩ : S36), (⟨1, 1⟩ : S36)] : List (S36)))).bind fun bt129 => ((jam_Cheapest.f k (([(⟨0, 1⟩ : S36), (⟨1, 1⟩ : S36)] : List (S36)))).bind fun bt141 => (if t114 = 0 then ((trishawlaw02_same.f k t110 (([2, 2] : List Int))).bind fun t153 => (if t153 = true then (if t113 = 4 then (if t125 = 0 then ((trishawlaw02_same.f k t121 (([0, 1] : List Int))).bind fun t157 => (if t157 = true then (if t124 = 3 then (if bt129.2.2.2.2 = 0 then ((trishawlaw02_parts.f k bt129.1 bt129.2.1 (([2, 1] : List Int)) 3).bind fun t161 => (if t161 = true then (if (bt129.2.2.1 == 4 && (bt129.2.2.2.1 == 3)) = true then (if bt141.2.2.2.2 = 0 then (some (bt141.2.2.1 == 7 && (bt141.2.2.2.1 == 8))) else (some false)) else (some false)) else (some false))) else (some false)) else (some false)) else (some false))) else (some false)) else (some false)) else (some false))) else (some false)))) = some r := H
 have A4 := Az0.mk A40
 clear A40
 obtain ⟨y126, hy126⟩ : ∃ y_ : List (S36), y_ = (([(⟨0, 2⟩ : S36), (⟨1, 1⟩ : S36)] : List (S36))) := ⟨_, rfl⟩
 replace H : ((jam_Balance.f k y126).bind fun bt129 => ((jam_Cheapest.f k (([(⟨0, 1⟩ : S36), (⟨1, 1⟩ : S36)] : List (S36)))).bind fun bt141 => (if t114 = 0 then ((trishawlaw02_same.f k t110 (([2, 2] : List Int))).bind fun t153 => (if t153 = true then (if t113 = 4 then (if t125 = 0 then ((trishawlaw02_same.f k t121 (([0, 1] : List Int))).bind fun t157 => (if t157 = true then (if t124 = 3 then (if bt129.2.2.2.2 = 0 then ((trishawlaw02_parts.f k bt129.1 bt129.2.1 (([2, 1] : List Int)) 3).bind fun t161 => (if t161 = true then (if (bt129.2.2.1 == 4 && (bt129.2.2.2.1 == 3)) = true then (if bt141.2.2.2.2 = 0 then (some (bt141.2.2.1 == 7 && (bt141.2.2.2.1 == 8))) else (some false)) else (some false)) else (some false))) else (some false)) else (some false)) else (some false))) else (some false)) else (some false)) else (some false))) else (some false)))) = some r := by first | (rw [hy126]; with_reducible exact H) | (have H2_ := (Option.bind_some _ _).symm.trans H; rw [hy126]; with_reducible exact H2_) | (have H2_ := (Option.bind_some _ _).symm.trans H; with_reducible exact H2_) | with_reducible exact H | (rw [hy126]; exact H) | exact H
 have Ny126 := Az0.mk hy126
 clear hy126
 replace H := Option.bind_eq_some_iff.mp H
 obtain ⟨⟨t129, t132, t133, t134, t135⟩, A50, H⟩ := H
 replace H : ((jam_Cheapest.f k (([(⟨0, 1⟩ : S36), (⟨1, 1⟩ : S36)] : List (S36)))).bind fun bt141 => (if t114 = 0 then ((trishawlaw02_same.f k t110 (([2, 2] : List Int))).bind fun t153 => (if t153 = true then (if t113 = 4 then (if t125 = 0 then ((trishawlaw02_same.f k t121 (([0, 1] : List Int))).bind fun t157 => (if t157 = true then (if t124 = 3 then (if t135 = 0 then ((trishawlaw02_parts.f k t129 t132 (([2, 1] : List Int)) 3).bind fun t161 => (if t161 = true then (if (t133 == 4 && (t134 == 3)) = true then (if bt141.2.2.2.2 = 0 then (some (bt141.2.2.1 == 7 && (bt141.2.2.2.1 == 8))) else (some false)) else (some false)) else (some false))) else (some false)) else (some false)) else (some false))) else (some false)) else (some false)) else (some false))) else (some false))) = some r := H
 have A5 := Az0.mk A50
 clear A50
 obtain ⟨y138, hy138⟩ : ∃ y_ : List (S36), y_ = (([(⟨0, 1⟩ : S36), (⟨1, 1⟩ : S36)] : List (S36))) := ⟨_, rfl⟩
 replace H : ((jam_Cheapest.f k y138).bind fun bt141 => (if t114 = 0 then ((trishawlaw02_same.f k t110 (([2, 2] : List Int))).bind fun t153 => (if t153 = true then (if t113 = 4 then (if t125 = 0 then ((trishawlaw02_same.f k t121 (([0, 1] : List Int))).bind fun t157 => (if t157 = true then (if t124 = 3 then (if t135 = 0 then ((trishawlaw02_parts.f k t129 t132 (([2, 1] : List Int)) 3).bind fun t161 => (if t161 = true then (if (t133 == 4 && (t134 == 3)) = true then (if bt141.2.2.2.2 = 0 then (some (bt141.2.2.1 == 7 && (bt141.2.2.2.1 == 8))) else (some false)) else (some false)) else (some false))) else (some false)) else (some false)) else (some false))) else (some false)) else (some false)) else (some false))) else (some false))) = some r := by first | (rw [hy138]; with_reducible exact H) | (have H2_ := (Option.bind_some _ _).symm.trans H; rw [hy138]; with_reducible exact H2_) | (have H2_ := (Option.bind_some _ _).symm.trans H; with_reducible exact H2_) | with_reducible exact H | (rw [hy138]; exact H) | exact H
 have Ny138 := Az0.mk hy138
 clear hy138
 replace H := Option.bind_eq_some_iff.mp H
 obtain ⟨⟨t141, t144, t145, t146, t147⟩, A60, H⟩ := H
 replace H : (if t114 = 0 then ((trishawlaw02_same.f k t110 (([2, 2] : List Int))).bind fun t153 => (if t153 = true then (if t113 = 4 then (if t125 = 0 then ((trishawlaw02_same.f k t121 (([0, 1] : List Int))).bind fun t157 => (if t157 = true then (if t124 = 3 then (if t135 = 0 then ((trishawlaw02_parts.f k t129 t132 (([2, 1] : List Int)) 3).bind fun t161 => (if t161 = true then (if (t133 == 4 && (t134 == 3)) = true then (if t147 = 0 then (some (t145 == 7 && (t146 == 8))) else (some false)) else (some false)) else (some false))) else (some false)) else (some false)) else (some false))) else (some false)) else (some false)) else (some false))) else (some false)) = some r := H
 have A6 := Az0.mk A60
 clear A60
 by_cases c7 : t114 = 0
 ·rw [if_pos c7] at H
  have c7b0 : (t114 == 0) = true := beq_iff_eq.mpr c7
  have c7b1 : (t114 != 0) = false := bne_eq_false_iff_eq.mpr c7
  clear c7
  obtain ⟨y150, hy150⟩ : ∃ y_ : List Int, y_ = (([2, 2] : List Int)) := ⟨_, rfl⟩
  replace H : ((trishawlaw02_same.f k t110 y150).bind fun t153 => (if t153 = true then (if t113 = 4 then (if t125 = 0 then ((trishawlaw02_same.f k t121 (([0, 1] : List Int))).bind fun t157 => (if t157 = true then (if t124 = 3 then (if t135 = 0 then ((trishawlaw02_parts.f k t129 t132 (([2, 1] : List Int)) 3).bind fun t161 => (if t161 = true then (if (t133 == 4 && (t134 == 3)) = true then (if t147 = 0 then (some (t145 == 7 && (t146 == 8))) else (some false)) else (some false)) else (some false))) else (some false)) else (some false)) else (some false))) else (some false)) else (some false)) else (some false))) = some r := by first | (rw [hy150]; with_reducible exact H) | (have H2_ := (Option.bind_some _ _).symm.trans H; rw [hy150]; with_reducible exact H2_) | (have H2_ := (Option.bind_some _ _).symm.trans H; with_reducible exact H2_) | with_reducible exact H | (rw [hy150]; exact H) | exact H
  have Ny150 := Az0.mk hy150
  clear hy150
  replace H := Option.bind_eq_some_iff.mp H
  obtain ⟨t153, A80, H⟩ := H
  replace H : (if t153 = true then (if t113 = 4 then (if t125 = 0 then ((trishawlaw02_same.f k t121 (([0, 1] : List Int))).bind fun t157 => (if t157 = true then (if t124 = 3 then (if t135 = 0 then ((trishawlaw02_parts.f k t129 t132 (([2, 1] : List Int)) 3).bind fun t161 => (if t161 = true then (if (t133 == 4 && (t134 == 3)) = true then (if t147 = 0 then (some (t145 == 7 && (t146 == 8))) else (some false)) else (some false)) else (some false))) else (some false)) else (some false)) else (some false))) else (some false)) else (some false)) else (some false)) = some r := H
  have A8 := Az0.mk A80
  clear A80
  by_cases c9 : t153 = true
  ·subst c9
   have H1 : (if t113 = 4 then (if t125 = 0 then ((trishawlaw02_same.f k t121 (([0, 1] : List Int))).bind fun t157 => (if t157 = true then (if t124 = 3 then (if t135 = 0 then ((trishawlaw02_parts.f k t129 t132 (([2, 1] : List Int)) 3).bind fun t161 => (if t161 = true then (if (t133 == 4 && (t134 == 3)) = true then (if t147 = 0 then (some (t145 == 7 && (t146 == 8))) else (some false)) else (some false)) else (some false))) else (some false)) else (some false)) else (some false))) else (some false)) else (some false)) = some r := by rw [if_pos rfl] at H; exact H
   clear H
   have H := H1
   clear H1
   by_cases c10 : t113 = 4
   ·rw [if_pos c10] at H
    have c10b0 : (t113 == 4) = true := beq_iff_eq.mpr c10
    have c10b1 : (t113 != 4) = false := bne_eq_false_iff_eq.mpr c10
    clear c10
    by_cases c11 : t125 = 0
    ·rw [if_pos c11] at H
     have c11b0 : (t125 == 0) = true := beq_iff_eq.mpr c11
     have c11b1 : (t125 != 0) = false := bne_eq_false_iff_eq.mpr c11
     clear c11
     obtain ⟨y154, hy154⟩ : ∃ y_ : List Int, y_ = (([0, 1] : List Int)) := ⟨_, rfl⟩
     replace H : ((trishawlaw02_same.f k t121 y154).bind fun t157 => (if t157 = true then (if t124 = 3 then (if t135 = 0 then ((trishawlaw02_parts.f k t129 t132 (([2, 1] : List Int)) 3).bind fun t161 => (if t161 = true then (if (t133 == 4 && (t134 == 3)) = true then (if t147 = 0 then (some (t145 == 7 && (t146 == 8))) else (some false)) else (some false)) else (some false))) else (some false)) else (some false)) else (some false))) = some r := by first | (rw [hy154]; with_reducible exact H) | (have H2_ := (Option.bind_some _ _).symm.trans H; rw [hy154]; with_reducible exact H2_) | (have H2_ := (Option.bind_some _ _).symm.trans H; with_reducible exact H2_) | with_reducible exact H | (rw [hy154]; exact H) | exact H
     have Ny154 := Az0.mk hy154
     clear hy154
     replace H := Option.bind_eq_some_iff.mp H
     obtain ⟨t157, A120, H⟩ := H
     replace H : (if t157 = true then (if t124 = 3 then (if t135 = 0 then ((trishawlaw02_parts.f k t129 t132 (([2, 1] : List Int)) 3).bind fun t161 => (if t161 = true then (if (t133 == 4 && (t134 == 3)) = true then (if t147 = 0 then (some (t145 == 7 && (t146 == 8))) else (some false)) else (some false)) else (some false))) else (some false)) else (some false)) else (some false)) = some r := H
     have A12 := Az0.mk A120
     clear A120
     by_cases c13 : t157 = true
     ·subst c13
      have H1 : (if t124 = 3 then (if t135 = 0 then ((trishawlaw02_parts.f k t129 t132 (([2, 1] : List Int)) 3).bind fun t161 => (if t161 = true then (if (t133 == 4 && (t134 == 3)) = true then (if t147 = 0 then (some (t145 == 7 && (t146 == 8))) else (some false)) else (some false)) else (some false))) else (some false)) else (some false)) = some r := by rw [if_pos rfl] at H; exact H
      clear H
      have H := H1
      clear H1
      by_cases c14 : t124 = 3
      ·rw [if_pos c14] at H
       have c14b0 : (t124 == 3) = true := beq_iff_eq.mpr c14
       have c14b1 : (t124 != 3) = false := bne_eq_false_iff_eq.mpr c14
       clear c14
       by_cases c15 : t135 = 0
       ·rw [if_pos c15] at H
        have c15b0 : (t135 == 0) = true := beq_iff_eq.mpr c15
        have c15b1 : (t135 != 0) = false := bne_eq_false_iff_eq.mpr c15
        clear c15
        obtain ⟨y158, hy158⟩ : ∃ y_ : List Int, y_ = (([2, 1] : List Int)) := ⟨_, rfl⟩
        replace H : ((trishawlaw02_parts.f k t129 t132 y158 3).bind fun t161 => (if t161 = true then (if (t133 == 4 && (t134 == 3)) = true then (if t147 = 0 then (some (t145 == 7 && (t146 == 8))) else (some false)) else (some false)) else (some false))) = some r := by first | (rw [hy158]; with_reducible exact H) | (have H2_ := (Option.bind_some _ _).symm.trans H; rw [hy158]; with_reducible exact H2_) | (have H2_ := (Option.bind_some _ _).symm.trans H; with_reducible exact H2_) | with_reducible exact H | (rw [hy158]; exact H) | exact H
        have Ny158 := Az0.mk hy158
        clear hy158
        replace H := Option.bind_eq_some_iff.mp H
        obtain ⟨t161, A160, H⟩ := H
        replace H : (if t161 = true then (if (t133 == 4 && (t134 == 3)) = true then (if t147 = 0 then (some (t145 == 7 && (t146 == 8))) else (some false)) else (some false)) else (some false)) = some r := H
        have A16 := Az0.mk A160
        clear A160
        by_cases c17 : t161 = true
        ·subst c17
         have H1 : (if (t133 == 4 && (t134 == 3)) = true then (if t147 = 0 then (some (t145 == 7 && (t146 == 8))) else (some false)) else (some false)) = some r := by rw [if_pos rfl] at H; exact H
         clear H
         have H := H1
         clear H1
         by_cases c18 : (t133 == 4 && (t134 == 3)) = true
         ·rw [if_pos c18] at H
          have c18b0 : (t133 == 4 && (t134 == 3)) = true := c18
          (try (have c18b1 : decide (t133 = 4 && (t134 == 3)) = true := by simpa using c18))
          (try (have c18b2 : (t133 == 4 && (t134 == 3)) = true := by simpa using c18))
          clear c18
          by_cases c19 : t147 = 0
          ·rw [if_pos c19] at H
           have c19b0 : (t147 == 0) = true := beq_iff_eq.mpr c19
           have c19b1 : (t147 != 0) = false := bne_eq_false_iff_eq.mpr c19
           clear c19
           obtain rfl := Option.some.inj H
           go_enter Try.func16, Try.ntmps16
           go_wp2_with (first | ((with_reducible refine gate_callee (f := 47) rfl ?_); refine goesL_ (some 14) rfl rfl Try.func47 (by kernel_rfl) rfl #[] rfl (by (try simp only [List.map_toArray, List.map_cons, List.map_nil]); first | done | rfl | (simp only [List.length_drop, List.length_take]; rfl)) ?_; (with_reducible refine (trishawlaw02_two.calls  t101 t104 _ A1.out).mono ?_); rintro e w20 ⟨v102, v105, rfl, ho0, ho1, hb⟩; refine ⟨_, rfl, ?_⟩; have n0_ := Az0.mk (Kd.N_lower (Kd.N_mono (ok' := fun k_ => some k_ ≠ (v105 : Value).ownBlock) ho0 (fun k_ hk_ => hk_.2)) (below_size (by repeat (first | (with_reducible first | exact HB.out | apply baA_ | apply pbN_ | apply bD1_) | exact HB.out)))); have n1_ := Az0.mk (Kd.N_lower (Kd.N_mono (ok' := fun k_ => some k_ ≠ (v102 : Value).ownBlock) ho1 (fun k_ hk_ => hk_.2)) (below_size (by repeat (first | (with_reducible first | exact HB.out | apply baA_ | apply pbN_ | apply bD1_) | exact HB.out)))); have n2_ := Az0.mk (below_step (by repeat (first | (with_reducible first | exact HB.out | apply baA_ | apply pbN_ | apply bD1_) | exact HB.out)) hb); clear HB; have HO103 := n0_; have HO106 := n1_; have HB := n2_; clear n0_ n1_ n2_; (try clear hb); (try clear hb2); (try clear hk); (try clear hi); (try clear ho0); (try clear ho1)) | ((with_reducible refine gate_dst (N := 15) rfl ?_); (try (refine gate_guard (by rfl) ?_; dsimp only)); refine Kd.R_lit (Kd.int .i64) _ 3 ?hg (N := 15) ?hd (xs := ([0, 0] : List Int)) (inner := [.int .i64 0, .int .i64 0]) (ok := fun _ => True) (okp := fun _ => True) ?hr ?hp (fun _ hk => hk) trivial (Below.refl _ _) (Nat.le_refl _) (by simp) ?_; (case hd => rfl); (case hg => rfl); (case hr => first | (go_simp; done) | (go_simp; rfl)); (case hp => exact (Reps.one (show Kd.M (Kd.int .i64) _ _ _ 0 [.int .i64 0] from rfl) (Reps.one (show Kd.M (Kd.int .i64) _ _ _ 0 [.int .i64 0] from rfl) (Reps.none _ _)))); intro v108 w21 ho22 hb hg_ hnew_; clear hg_ hnew_; (first | rw [← Ny107.out] at ho22 | (simp only [Int.reduceToNat] at ho22; rw [← Ny107.out] at ho22)); have n0_ := Az0.mk (Kd.N_elder' (by (with_reducible repeat (first | apply Kd.N_alloc | apply Kd.N_drewN | apply Kd.N_drew)); exact HO103.out) (Kd.R_base ho22) hb); have n1_ := Az0.mk (Kd.N_elder' (by (with_reducible repeat (first | apply Kd.N_alloc | apply Kd.N_drewN | apply Kd.N_drew)); exact HO106.out) (Kd.R_base ho22) hb); have n2_ := Az0.mk (Kd.R_lower ho22 (below_size (by repeat (first | (with_reducible first | exact HB.out | apply baA_ | apply pbN_ | apply bD1_) | exact HB.out)))); have n3_ := Az0.mk (below_step (by repeat (first | (with_reducible first | exact HB.out | apply baA_ | apply pbN_ | apply bD1_) | exact HB.out)) hb); clear HO103; clear HO106; clear HB; have HO103 := n0_; have HO106 := n1_; have HO109 := n2_; have HB := n3_; clear n0_ n1_ n2_ n3_; clear hb ho22; obtain ⟨Ao23, co23, eo23⟩ := Kd.N_slice HO103.out; subst eo23; obtain ⟨Ao24, co24, eo24⟩ := Kd.N_slice HO106.out; subst eo24; obtain ⟨Ao25, co25, eo25⟩ := Kd.R_slice HO109.out; subst eo25) | ((with_reducible refine gate_callee (f := 28) rfl ?_); refine goesL_ (some 16) rfl rfl Try.func28 (by kernel_rfl) rfl #[.agg #[.slice Ao23 t101.length co23, .slice Ao24 t104.length co24], .slice Ao25 y107.length co25] rfl (by (try simp only [List.map_toArray, List.map_cons, List.map_nil]); first | done | rfl | (simp only [List.length_drop, List.length_take]; rfl)) ?_; (with_reducible refine (jam_Costs.calls k _ _ t101 _ _ t104 _ _ y107 t110 t113 t114 _ ?side1 ?side2 ?side3 ?side4 ?side5 ?side6 A2.out).mono ?_); (case side1 => repeat (first | exact (Kd.N_reads' HO103.out).2.2 | (with_reducible refine Kd.C_alloc ?_ _) | (with_reducible refine Kd.C_drewN ?_ _) | (with_reducible refine Kd.C_drew ?_))); (case side2 => exact (Kd.N_reads' HO103.out).2.1); (case side3 => repeat (first | exact (Kd.N_reads' HO106.out).2.2 | (with_reducible refine Kd.C_alloc ?_ _) | (with_reducible refine Kd.C_drewN ?_ _) | (with_reducible refine Kd.C_drew ?_))); (case side4 => exact (Kd.N_reads' HO106.out).2.1); (case side5 => repeat (first | exact (Kd.R_reads' HO109.out).2.2 | (with_reducible refine Kd.C_alloc ?_ _) | (with_reducible refine Kd.C_drewN ?_ _) | (with_reducible refine Kd.C_drew ?_))); (case side6 => exact (Kd.R_reads' HO109.out).2.1); rintro e w26 ⟨v111, rfl, ho0, hb⟩; refine ⟨_, rfl, ?_⟩; have n0_ := Az0.mk (Kd.N_elder' (by (with_reducible repeat (first | apply Kd.N_alloc | apply Kd.N_drewN | apply Kd.N_drew)); exact HO103.out) (Kd.R_base ho0) hb); have n1_ := Az0.mk (Kd.N_elder' (by (with_reducible repeat (first | apply Kd.N_alloc | apply Kd.N_drewN | apply Kd.N_drew)); exact HO106.out) (Kd.R_base ho0) hb); have n2_ := Az0.mk (Kd.R_elder' (by (with_reducible repeat (first | apply Kd.R_alloc | apply Kd.R_drewN | apply Kd.R_drew)); exact HO109.out) (Kd.R_base ho0) hb); have n3_ := Az0.mk (Kd.R_lower (Kd.R_new' ho0 (Kd.R_lt (by (with_reducible repeat (first | apply Kd.R_alloc | apply Kd.R_drewN | apply Kd.R_drew)); exact HO109.out))) (below_size (by repeat (first | (with_reducible first | exact HB.out | apply baA_ | apply pbN_ | apply bD1_) | exact HB.out)))); have n4_ := Az0.mk (below_step (by repeat (first | (with_reducible first | exact HB.out | apply baA_ | apply pbN_ | apply bD1_) | exact HB.out)) hb); clear HO103; clear HO106; clear HO109; clear HB; have HO103 := n0_; have HO106 := n1_; have HO109 := n2_; have HO112 := n3_; have HB := n4_; clear n0_ n1_ n2_ n3_ n4_; (try clear hb); (try clear hb2); (try clear hk); (try clear hi); (try clear ho0)) | ((with_reducible refine gate_callee (f := 47) rfl ?_); refine goesL_ (some 21) rfl rfl Try.func47 (by kernel_rfl) rfl #[] rfl (by (try simp only [List.map_toArray, List.map_cons, List.map_nil]); first | done | rfl | (simp only [List.length_drop, List.length_take]; rfl)) ?_; (with_reducible refine (trishawlaw02_two.calls  t115 t118 _ A3.out).mono ?_); rintro e w27 ⟨v116, v119, rfl, ho0, ho1, hb⟩; refine ⟨_, rfl, ?_⟩; have n0_ := Az0.mk (Kd.N_mono (Kd.N_told (Kd.N_told (Kd.N_old (by (with_reducible repeat (first | apply Kd.N_alloc | apply Kd.N_drewN | apply Kd.N_drew)); exact HO103.out) hb) (Kd.N_base ho0)) (Kd.N_base ho1)) (fun _ h_ => h_.1)); have n1_ := Az0.mk (Kd.N_mono (Kd.N_told (Kd.N_told (Kd.N_old (by (with_reducible repeat (first | apply Kd.N_alloc | apply Kd.N_drewN | apply Kd.N_drew)); exact HO106.out) hb) (Kd.N_base ho0)) (Kd.N_base ho1)) (fun _ h_ => h_.1)); have n2_ := Az0.mk (Kd.R_below (by (with_reducible repeat (first | apply Kd.R_alloc | apply Kd.R_drewN | apply Kd.R_drew)); exact HO109.out) hb); have n3_ := Az0.mk (Kd.R_below (by (with_reducible repeat (first | apply Kd.R_alloc | apply Kd.R_drewN | apply Kd.R_drew)); exact HO112.out) hb); have n4_ := Az0.mk (Kd.N_lower (Kd.N_mono (ok' := fun k_ => some k_ ≠ (v119 : Value).ownBlock ∧ some k_ ≠ (.slice Ao23 t101.length co23 : Value).ownBlock ∧ some k_ ≠ (.slice Ao24 t104.length co24 : Value).ownBlock ∧ some k_ ≠ (.slice Ao25 y107.length co25 : Value).ownBlock ∧ some k_ ≠ (v111 : Value).ownBlock) ho0 (fun k_ hk_ => ⟨hk_.2, (Kd.fresh' (Kd.N_lt (by (with_reducible repeat (first | apply Kd.N_alloc | apply Kd.N_drewN | apply Kd.N_drew)); exact HO103.out)) k_ hk_.1), (Kd.fresh' (Kd.N_lt (by (with_reducible repeat (first | apply Kd.N_alloc | apply Kd.N_drewN | apply Kd.N_drew)); exact HO106.out)) k_ hk_.1), (Kd.fresh' (Kd.R_lt (by (with_reducible repeat (first | apply Kd.R_alloc | apply Kd.R_drewN | apply Kd.R_drew)); exact HO109.out)) k_ hk_.1), (Kd.fresh' (Kd.R_lt (by (with_reducible repeat (first | apply Kd.R_alloc | apply Kd.R_drewN | apply Kd.R_drew)); exact HO112.out)) k_ hk_.1)⟩)) (below_size (by repeat (first | (with_reducible first | exact HB.out | apply baA_ | apply pbN_ | apply bD1_) | exact HB.out)))); have n5_ := Az0.mk (Kd.N_lower (Kd.N_mono (ok' := fun k_ => some k_ ≠ (v116 : Value).ownBlock ∧ some k_ ≠ (.slice Ao23 t101.length co23 : Value).ownBlock ∧ some k_ ≠ (.slice Ao24 t104.length co24 : Value).ownBlock ∧ some k_ ≠ (.slice Ao25 y107.length co25 : Value).ownBlock ∧ some k_ ≠ (v111 : Value).ownBlock) ho1 (fun k_ hk_ => ⟨hk_.2, (Kd.fresh' (Kd.N_lt (by (with_reducible repeat (first | apply Kd.N_alloc | apply Kd.N_drewN | apply Kd.N_drew)); exact HO103.out)) k_ hk_.1), (Kd.fresh' (Kd.N_lt (by (with_reducible repeat (first | apply Kd.N_alloc | apply Kd.N_drewN | apply Kd.N_drew)); exact HO106.out)) k_ hk_.1), (Kd.fresh' (Kd.R_lt (by (with_reducible repeat (first | apply Kd.R_alloc | apply Kd.R_drewN | apply Kd.R_drew)); exact HO109.out)) k_ hk_.1), (Kd.fresh' (Kd.R_lt (by (with_reducible repeat (first | apply Kd.R_alloc | apply Kd.R_drewN | apply Kd.R_drew)); exact HO112.out)) k_ hk_.1)⟩)) (below_size (by repeat (first | (with_reducible first | exact HB.out | apply baA_ | apply pbN_ | apply bD1_) | exact HB.out)))); have n6_ := Az0.mk (below_step (by repeat (first | (with_reducible first | exact HB.out | apply baA_ | apply pbN_ | apply bD1_) | exact HB.out)) hb); clear HO103; clear HO106; clear HO109; clear HO112; clear HB; have HO103 := n0_; have HO106 := n1_; have HO109 := n2_; have HO112 := n3_; have HO117 := n4_; have HO120 := n5_; have HB := n6_; clear n0_ n1_ n2_ n3_ n4_ n5_ n6_; (try clear hb); (try clear hb2); (try clear hk); (try clear hi); (try clear ho0); (try clear ho1); obtain ⟨Ao28, co28, eo28⟩ := Kd.N_slice HO117.out; subst eo28; obtain ⟨Ao29, co29, eo29⟩ := Kd.N_slice HO120.out; subst eo29) | ((with_reducible refine gate_callee (f := 27) rfl ?_); refine goesL_ (some 22) rfl rfl Try.func27 (by kernel_rfl) rfl #[.agg #[.slice Ao28 t115.length co28, .slice Ao29 t118.length co29]] rfl (by (try simp only [List.map_toArray, List.map_cons, List.map_nil]); first | done | rfl | (simp only [List.length_drop, List.length_take]; rfl)) ?_; (with_reducible refine (jam_Best.calls k _ _ t115 _ _ t118 t121 t124 t125 _ ?side1 ?side2 ?side3 ?side4 A4.out).mono ?_); (case side1 => repeat (first | exact (Kd.N_reads' HO117.out).2.2 | (with_reducible refine Kd.C_alloc ?_ _) | (with_reducible refine Kd.C_drewN ?_ _) | (with_reducible refine Kd.C_drew ?_))); (case side2 => exact (Kd.N_reads' HO117.out).2.1); (case side3 => repeat (first | exact (Kd.N_reads' HO120.out).2.2 | (with_reducible refine Kd.C_alloc ?_ _) | (with_reducible refine Kd.C_drewN ?_ _) | (with_reducible refine Kd.C_drew ?_))); (case side4 => exact (Kd.N_reads' HO120.out).2.1); rintro e w30 ⟨v122, rfl, ho0, hb⟩; refine ⟨_, rfl, ?_⟩; have n0_ := Az0.mk (Kd.N_elder' (by (with_reducible repeat (first | apply Kd.N_alloc | apply Kd.N_drewN | apply Kd.N_drew)); exact HO103.out) (Kd.R_base ho0) hb); have n1_ := Az0.mk (Kd.N_elder' (by (with_reducible repeat (first | apply Kd.N_alloc | apply Kd.N_drewN | apply Kd.N_drew)); exact HO106.out) (Kd.R_base ho0) hb); have n2_ := Az0.mk (Kd.R_elder' (by (with_reducible repeat (first | apply Kd.R_alloc | apply Kd.R_drewN | apply Kd.R_drew)); exact HO109.out) (Kd.R_base ho0) hb); have n3_ := Az0.mk (Kd.R_elder' (by (with_reducible repeat (first | apply Kd.R_alloc | apply Kd.R_drewN | apply Kd.R_drew)); exact HO112.out) (Kd.R_base ho0) hb); have n4_ := Az0.mk (Kd.N_elder' (by (with_reducible repeat (first | apply Kd.N_alloc | apply Kd.N_drewN | apply Kd.N_drew)); exact HO117.out) (Kd.R_base ho0) hb); have n5_ := Az0.mk (Kd.N_elder' (by (with_reducible repeat (first | apply Kd.N_alloc | apply Kd.N_drewN | apply Kd.N_drew)); exact HO120.out) (Kd.R_base ho0) hb); have n6_ := Az0.mk (Kd.R_lower (Kd.R_new' (Kd.R_new' ho0 (Kd.R_lt (by (with_reducible repeat (first | apply Kd.R_alloc | apply Kd.R_drewN | apply Kd.R_drew)); exact HO109.out))) (Kd.R_lt (by (with_reducible repeat (first | apply Kd.R_alloc | apply Kd.R_drewN | apply Kd.R_drew)); exact HO112.out))) (below_size (by repeat (first | (with_reducible first | exact HB.out | apply baA_ | apply pbN_ | apply bD1_) | exact HB.out)))); have n7_ := Az0.mk (below_step (by repeat (first | (with_reducible first | exact HB.out | apply baA_ | apply pbN_ | apply bD1_) | exact HB.out)) hb); clear HO103; clear HO106; clear HO109; clear HO112; clear HO117; clear HO120; clear HB; have HO103 := n0_; have HO106 := n1_; have HO109 := n2_; have HO112 := n3_; have HO117 := n4_; have HO120 := n5_; have HO123 := n6_; have HB := n7_; clear n0_ n1_ n2_ n3_ n4_ n5_ n6_ n7_; (try clear hb); (try clear hb2); (try clear hk); (try clear hi); (try clear ho0)) | ((with_reducible refine gate_dst (N := 29) rfl ?_); (try (refine gate_guard (by rfl) ?_; dsimp only)); refine Kd.R_lit k36 _ 36 ?hg (N := 29) ?hd (xs := ([(⟨0, 2⟩ : S36), (⟨1, 1⟩ : S36)] : List (S36))) (inner := [.int .i64 0, .int .i64 2, .int .i64 1, .int .i64 1]) (ok := fun _ => True) (okp := fun _ => True) ?hr ?hp (fun _ hk => hk) trivial (Below.refl _ _) (Nat.le_refl _) (by simp) ?_; (case hd => rfl); (case hg => rfl); (case hr => first | (go_simp; done) | (go_simp; rfl)); (case hp => exact (Reps.c2 (show Kd.M k36 _ _ _ (⟨0, 2⟩ : S36) [.int .i64 0, .int .i64 2] from (k36_mkM _ _ _ (⟨0, 2⟩ : S36) )) (Reps.c2 (show Kd.M k36 _ _ _ (⟨1, 1⟩ : S36) [.int .i64 1, .int .i64 1] from (k36_mkM _ _ _ (⟨1, 1⟩ : S36) )) (Reps.none _ _)))); intro v127 w31 ho32 hb hg_ hnew_; clear hg_ hnew_; (first | rw [← Ny126.out] at ho32 | (simp only [Int.reduceToNat] at ho32; rw [← Ny126.out] at ho32)); have n0_ := Az0.mk (Kd.N_elder' (by (with_reducible repeat (first | apply Kd.N_alloc | apply Kd.N_drewN | apply Kd.N_drew)); exact HO103.out) (Kd.R_base ho32) hb); have n1_ := Az0.mk (Kd.N_elder' (by (with_reducible repeat (first | apply Kd.N_alloc | apply Kd.N_drewN | apply Kd.N_drew)); exact HO106.out) (Kd.R_base ho32) hb); have n2_ := Az0.mk (Kd.R_below (by (with_reducible repeat (first | apply Kd.R_alloc | apply Kd.R_drewN | apply Kd.R_drew)); exact HO109.out) hb); have n3_ := Az0.mk (Kd.R_below (by (with_reducible repeat (first | apply Kd.R_alloc | apply Kd.R_drewN | apply Kd.R_drew)); exact HO112.out) hb); have n4_ := Az0.mk (Kd.N_elder' (by (with_reducible repeat (first | apply Kd.N_alloc | apply Kd.N_drewN | apply Kd.N_drew)); exact HO117.out) (Kd.R_base ho32) hb); have n5_ := Az0.mk (Kd.N_elder' (by (with_reducible repeat (first | apply Kd.N_alloc | apply Kd.N_drewN | apply Kd.N_drew)); exact HO120.out) (Kd.R_base ho32) hb); have n6_ := Az0.mk (Kd.R_below (by (with_reducible repeat (first | apply Kd.R_alloc | apply Kd.R_drewN | apply Kd.R_drew)); exact HO123.out) hb); have n7_ := Az0.mk (Kd.R_lower ho32 (below_size (by repeat (first | (with_reducible first | exact HB.out | apply baA_ | apply pbN_ | apply bD1_) | exact HB.out)))); have n8_ := Az0.mk (below_step (by repeat (first | (with_reducible first | exact HB.out | apply baA_ | apply pbN_ | apply bD1_) | exact HB.out)) hb); clear HO103; clear HO106; clear HO109; clear HO112; clear HO117; clear HO120; clear HO123; clear HB; have HO103 := n0_; have HO106 := n1_; have HO109 := n2_; have HO112 := n3_; have HO117 := n4_; have HO120 := n5_; have HO123 := n6_; have HO128 := n7_; have HB := n8_; clear n0_ n1_ n2_ n3_ n4_ n5_ n6_ n7_ n8_; clear hb ho32; obtain ⟨Ao33, co33, eo33⟩ := Kd.R_slice HO128.out; subst eo33) | ((with_reducible refine gate_callee (f := 17) rfl ?_); refine goesL_ (some 30) rfl rfl Try.func17 (by kernel_rfl) rfl #[.slice Ao33 y126.length co33] rfl (by (try simp only [List.map_toArray, List.map_cons, List.map_nil]); first | done | rfl | (simp only [List.length_drop, List.length_take]; rfl)) ?_; (with_reducible refine (jam_Balance.calls k _ _ y126 t129 t132 t133 t134 t135 _ ?side1 ?side2 A5.out).mono ?_); (case side1 => repeat (first | exact (Kd.R_reads' HO128.out).2.2 | (with_reducible refine Kd.C_alloc ?_ _) | (with_reducible refine Kd.C_drewN ?_ _) | (with_reducible refine Kd.C_drew ?_))); (case side2 => exact (Kd.R_reads' HO128.out).2.1); rintro e w34 ⟨v130, rfl, ho0, hb⟩; refine ⟨_, rfl, ?_⟩; have n0_ := Az0.mk (Kd.N_elder' (by (with_reducible repeat (first | apply Kd.N_alloc | apply Kd.N_drewN | apply Kd.N_drew)); exact HO103.out) (Kd.R_base ho0) hb); have n1_ := Az0.mk (Kd.N_elder' (by (with_reducible repeat (first | apply Kd.N_alloc | apply Kd.N_drewN | apply Kd.N_drew)); exact HO106.out) (Kd.R_base ho0) hb); have n2_ := Az0.mk (Kd.R_elder' (by (with_reducible repeat (first | apply Kd.R_alloc | apply Kd.R_drewN | apply Kd.R_drew)); exact HO109.out) (Kd.R_base ho0) hb); have n3_ := Az0.mk (Kd.R_elder' (by (with_reducible repeat (first | apply Kd.R_alloc | apply Kd.R_drewN | apply Kd.R_drew)); exact HO112.out) (Kd.R_base ho0) hb); have n4_ := Az0.mk (Kd.N_elder' (by (with_reducible repeat (first | apply Kd.N_alloc | apply Kd.N_drewN | apply Kd.N_drew)); exact HO117.out) (Kd.R_base ho0) hb); have n5_ := Az0.mk (Kd.N_elder' (by (with_reducible repeat (first | apply Kd.N_alloc | apply Kd.N_drewN | apply Kd.N_drew)); exact HO120.out) (Kd.R_base ho0) hb); have n6_ := Az0.mk (Kd.R_elder' (by (with_reducible repeat (first | apply Kd.R_alloc | apply Kd.R_drewN | apply Kd.R_drew)); exact HO123.out) (Kd.R_base ho0) hb); have n7_ := Az0.mk (Kd.R_below (by (with_reducible repeat (first | apply Kd.R_alloc | apply Kd.R_drewN | apply Kd.R_drew)); exact HO128.out) hb); have n8_ := Az0.mk (Kd.R_lower (Kd.R_new' (Kd.R_new' (Kd.R_new' ho0 (Kd.R_lt (by (with_reducible repeat (first | apply Kd.R_alloc | apply Kd.R_drewN | apply Kd.R_drew)); exact HO109.out))) (Kd.R_lt (by (with_reducible repeat (first | apply Kd.R_alloc | apply Kd.R_drewN | apply Kd.R_drew)); exact HO112.out))) (Kd.R_lt (by (with_reducible repeat (first | apply Kd.R_alloc | apply Kd.R_drewN | apply Kd.R_drew)); exact HO123.out))) (below_size (by repeat (first | (with_reducible first | exact HB.out | apply baA_ | apply pbN_ | apply bD1_) | exact HB.out)))); have n9_ := Az0.mk (below_step (by repeat (first | (with_reducible first | exact HB.out | apply baA_ | apply pbN_ | apply bD1_) | exact HB.out)) hb); clear HO103; clear HO106; clear HO109; clear HO112; clear HO117; clear HO120; clear HO123; clear HO128; clear HB; have HO103 := n0_; have HO106 := n1_; have HO109 := n2_; have HO112 := n3_; have HO117 := n4_; have HO120 := n5_; have HO123 := n6_; have HO128 := n7_; have HO131 := n8_; have HB := n9_; clear n0_ n1_ n2_ n3_ n4_ n5_ n6_ n7_ n8_ n9_; (try clear hb); (try clear hb2); (try clear hk); (try clear hi); (try clear ho0)) | ((with_reducible refine gate_dst (N := 7) rfl ?_); (try (refine gate_guard (by rfl) ?_; dsimp only)); refine box_event ?hg (N := 7) ?hd (cs := #[.slice none 0 0, .int .i64 0]) (t := 26) ?hr ?_; (case hd => rfl); (case hg => rfl); (case hr => first | (go_simp; done) | (go_simp; rfl)); intro gb136 hg w35 hbox hb; have n0_ := Az0.mk (Kd.N_below (Kd.N_elderB (by (with_reducible repeat (first | apply Kd.N_alloc | apply Kd.N_drewN | apply Kd.N_drew)); exact HO103.out) gb136 (Nat.le_of_eq hg.symm)) hb); have n1_ := Az0.mk (Kd.N_below (Kd.N_elderB (by (with_reducible repeat (first | apply Kd.N_alloc | apply Kd.N_drewN | apply Kd.N_drew)); exact HO106.out) gb136 (Nat.le_of_eq hg.symm)) hb); have n2_ := Az0.mk (Kd.R_below (by (with_reducible repeat (first | apply Kd.R_alloc | apply Kd.R_drewN | apply Kd.R_drew)); exact HO109.out) hb); have n3_ := Az0.mk (Kd.R_below (by (with_reducible repeat (first | apply Kd.R_alloc | apply Kd.R_drewN | apply Kd.R_drew)); exact HO112.out) hb); have n4_ := Az0.mk (Kd.N_below (Kd.N_elderB (by (with_reducible repeat (first | apply Kd.N_alloc | apply Kd.N_drewN | apply Kd.N_drew)); exact HO117.out) gb136 (Nat.le_of_eq hg.symm)) hb); have n5_ := Az0.mk (Kd.N_below (Kd.N_elderB (by (with_reducible repeat (first | apply Kd.N_alloc | apply Kd.N_drewN | apply Kd.N_drew)); exact HO120.out) gb136 (Nat.le_of_eq hg.symm)) hb); have n6_ := Az0.mk (Kd.R_below (by (with_reducible repeat (first | apply Kd.R_alloc | apply Kd.R_drewN | apply Kd.R_drew)); exact HO123.out) hb); have n7_ := Az0.mk (Kd.R_below (by (with_reducible repeat (first | apply Kd.R_alloc | apply Kd.R_drewN | apply Kd.R_drew)); exact HO128.out) hb); have n8_ := Az0.mk (Kd.R_below (by (with_reducible repeat (first | apply Kd.R_alloc | apply Kd.R_drewN | apply Kd.R_drew)); exact HO131.out) hb); have n9_ := Az0.mk (below_step (by repeat (first | (with_reducible first | exact HB.out | apply baA_ | apply pbN_ | apply bD1_) | exact HB.out)) hb); have n10_ := Az0.mk (hbox); have n11_ := Az0.mk ((by rw [hg]; exact (below_size (by repeat (first | (with_reducible first | exact HB.out | apply baA_ | apply pbN_ | apply bD1_) | exact HB.out))) : w.heap.size ≤ gb136)); have n12_ := Az0.mk ((by rw [hg]; exact (below_size (by repeat (first | (with_reducible first | exact HB.out | apply baA_ | apply pbN_ | apply bD1_) | exact HB.out))) : w.heap.size ≤ gb136)); clear HO103; clear HO106; clear HO109; clear HO112; clear HO117; clear HO120; clear HO123; clear HO128; clear HO131; clear HB; have HO103 := n0_; have HO106 := n1_; have HO109 := n2_; have HO112 := n3_; have HO117 := n4_; have HO120 := n5_; have HO123 := n6_; have HO128 := n7_; have HO131 := n8_; have HB := n9_; have BK136 := n10_; have GW136 := n11_; have GE136 := n12_; clear n0_ n1_ n2_ n3_ n4_ n5_ n6_ n7_ n8_ n9_ n10_ n11_ n12_; clear hb hbox hg) | ((with_reducible refine gate_dst (N := 8) rfl ?_); (try (refine gate_guard (by rfl) ?_; dsimp only)); refine box_event ?hg (N := 8) ?hd (cs := #[.int .i64 0, .int .i64 0]) (t := 28) ?hr ?_; (case hd => rfl); (case hg => rfl); (case hr => first | (go_simp; done) | (go_simp; rfl)); intro gb137 hg w36 hbox hb; have n0_ := Az0.mk (Kd.N_below (Kd.N_elderB (by (with_reducible repeat (first | apply Kd.N_alloc | apply Kd.N_drewN | apply Kd.N_drew)); exact HO103.out) gb137 (Nat.le_of_eq hg.symm)) hb); have n1_ := Az0.mk (Kd.N_below (Kd.N_elderB (by (with_reducible repeat (first | apply Kd.N_alloc | apply Kd.N_drewN | apply Kd.N_drew)); exact HO106.out) gb137 (Nat.le_of_eq hg.symm)) hb); have n2_ := Az0.mk (Kd.R_below (by (with_reducible repeat (first | apply Kd.R_alloc | apply Kd.R_drewN | apply Kd.R_drew)); exact HO109.out) hb); have n3_ := Az0.mk (Kd.R_below (by (with_reducible repeat (first | apply Kd.R_alloc | apply Kd.R_drewN | apply Kd.R_drew)); exact HO112.out) hb); have n4_ := Az0.mk (Kd.N_below (Kd.N_elderB (by (with_reducible repeat (first | apply Kd.N_alloc | apply Kd.N_drewN | apply Kd.N_drew)); exact HO117.out) gb137 (Nat.le_of_eq hg.symm)) hb); have n5_ := Az0.mk (Kd.N_below (Kd.N_elderB (by (with_reducible repeat (first | apply Kd.N_alloc | apply Kd.N_drewN | apply Kd.N_drew)); exact HO120.out) gb137 (Nat.le_of_eq hg.symm)) hb); have n6_ := Az0.mk (Kd.R_below (by (with_reducible repeat (first | apply Kd.R_alloc | apply Kd.R_drewN | apply Kd.R_drew)); exact HO123.out) hb); have n7_ := Az0.mk (Kd.R_below (by (with_reducible repeat (first | apply Kd.R_alloc | apply Kd.R_drewN | apply Kd.R_drew)); exact HO128.out) hb); have n8_ := Az0.mk (Kd.R_below (by (with_reducible repeat (first | apply Kd.R_alloc | apply Kd.R_drewN | apply Kd.R_drew)); exact HO131.out) hb); have n9_ := Az0.mk (blk_below (g := gb136) (o := .cells #[.slice none 0 0, .int .i64 0] 26 (0, 0)) (by (with_reducible repeat (first | refine blk_drewN ?_ _ | refine blk_drew ?_ | refine blk_alloc ?_ _)); exact BK136.out) hb); have n10_ := Az0.mk (below_step (by repeat (first | (with_reducible first | exact HB.out | apply baA_ | apply pbN_ | apply bD1_ | refine below_set ?_ GE136.out) | exact HB.out)) hb); have n11_ := Az0.mk (hbox); have n12_ := Az0.mk ((by rw [hg]; exact (below_size (by repeat (first | (with_reducible first | exact HB.out | apply baA_ | apply pbN_ | apply bD1_ | refine below_set ?_ GE136.out) | exact HB.out))) : w.heap.size ≤ gb137)); have n13_ := Az0.mk ((by rw [hg]; exact (below_size (by repeat (first | (with_reducible first | exact HB.out | apply baA_ | apply pbN_ | apply bD1_ | refine below_set ?_ GE136.out) | exact HB.out))) : w.heap.size ≤ gb137)); have n14_ := Az0.mk ((by rw [hg]; exact Nat.ne_of_lt (blk_lt (g := gb136) (o := .cells #[.slice none 0 0, .int .i64 0] 26 (0, 0)) (by (with_reducible repeat (first | refine blk_drewN ?_ _ | refine blk_drew ?_ | refine blk_alloc ?_ _)); exact BK136.out)) : gb136 ≠ gb137)); have n15_ := Az0.mk ((by rw [hg]; exact Nat.ne_of_gt (blk_lt (g := gb136) (o := .cells #[.slice none 0 0, .int .i64 0] 26 (0, 0)) (by (with_reducible repeat (first | refine blk_drewN ?_ _ | refine blk_drew ?_ | refine blk_alloc ?_ _)); exact BK136.out)) : gb137 ≠ gb136)); clear HO103; clear HO106; clear HO109; clear HO112; clear HO117; clear HO120; clear HO123; clear HO128; clear HO131; clear BK136; clear HB; have HO103 := n0_; have HO106 := n1_; have HO109 := n2_; have HO112 := n3_; have HO117 := n4_; have HO120 := n5_; have HO123 := n6_; have HO128 := n7_; have HO131 := n8_; have BK136 := n9_; have HB := n10_; have BK137 := n11_; have GW137 := n12_; have GE137 := n13_; have NB136_137 := n14_; have NB137_136 := n15_; clear n0_ n1_ n2_ n3_ n4_ n5_ n6_ n7_ n8_ n9_ n10_ n11_ n12_ n13_ n14_ n15_; clear hb hbox hg; obtain ⟨Ao37, co37, eo37⟩ := Kd.R_slice HO131.out; subst eo37; have hnb38 := NB136_137.out; have hnc38 := NB137_136.out; have hcz39_0 : w36.cell? ⟨gb136, 0, none⟩ = some (.slice none 0 0) := (bkC BK136.out 0).trans rfl; have hcz39_1 : w36.cell? ⟨gb136, 1, none⟩ = some (.int .i64 0) := (bkC BK136.out 1).trans rfl; have hfz39_0 := blk_frozen BK136.out 0; have hfz39_1 := blk_frozen BK136.out 1; have hcz40_0 : w36.cell? ⟨gb137, 0, none⟩ = some (.int .i64 0) := (bkC BK137.out 0).trans rfl; have hcz40_1 : w36.cell? ⟨gb137, 1, none⟩ = some (.int .i64 0) := (bkC BK137.out 1).trans rfl; have hfz40_0 := blk_frozen BK137.out 0; have hfz40_1 := blk_frozen BK137.out 1) | ((with_reducible refine gate_dst (N := 37) rfl ?_); (try (refine gate_guard (by rfl) ?_; dsimp only)); refine Kd.R_lit k36 _ 36 ?hg (N := 37) ?hd (xs := ([(⟨0, 1⟩ : S36), (⟨1, 1⟩ : S36)] : List (S36))) (inner := [.int .i64 0, .int .i64 1, .int .i64 1, .int .i64 1]) (ok := fun _ => True) (okp := fun _ => True) ?hr ?hp (fun _ hk => hk) trivial (Below.refl _ _) (Nat.le_refl _) (by simp) ?_; (case hd => rfl); (case hg => rfl); (case hr => first | (go_simp; done) | (go_simp; rfl)); (case hp => exact (Reps.c2 (show Kd.M k36 _ _ _ (⟨0, 1⟩ : S36) [.int .i64 0, .int .i64 1] from (k36_mkM _ _ _ (⟨0, 1⟩ : S36) )) (Reps.c2 (show Kd.M k36 _ _ _ (⟨1, 1⟩ : S36) [.int .i64 1, .int .i64 1] from (k36_mkM _ _ _ (⟨1, 1⟩ : S36) )) (Reps.none _ _)))); intro v139 w41 ho42 hb hg_ hnew_; clear hg_ hnew_; (first | rw [← Ny138.out] at ho42 | (simp only [Int.reduceToNat] at ho42; rw [← Ny138.out] at ho42)); have n0_ := Az0.mk (Kd.N_elder' (by (with_reducible repeat (first | apply Kd.N_alloc | apply Kd.N_drewN | apply Kd.N_drew)); exact (Kd.N_mono (Kd.N_mono (Kd.N_far (p := ⟨gb137, 1, none⟩) (Kd.N_far (p := ⟨gb137, 0, none⟩) (Kd.N_far (p := ⟨gb136, 1, none⟩) (Kd.N_far (p := ⟨gb136, 0, none⟩) (Kd.N_mono (Kd.N_mono HO103.out (fun k_ hk => (⟨hk, hk.1.2⟩ : _ ∧ k_ ≠ gb136))) (fun k_ hk => (⟨hk, hk.1.2⟩ : _ ∧ k_ ≠ gb137))) (fun _ hk => hk.1.2) (.slice Ao37 t129.length co37)) (fun _ hk => hk.1.2) (.int .i64 t132)) (fun _ hk => hk.2) (.int .i64 t133)) (fun _ hk => hk.2) (.int .i64 t134)) (fun _ h_ => h_.1)) (fun _ h_ => h_.1))) (Kd.R_base ho42) hb); have n1_ := Az0.mk (Kd.N_elder' (by (with_reducible repeat (first | apply Kd.N_alloc | apply Kd.N_drewN | apply Kd.N_drew)); exact (Kd.N_mono (Kd.N_mono (Kd.N_far (p := ⟨gb137, 1, none⟩) (Kd.N_far (p := ⟨gb137, 0, none⟩) (Kd.N_far (p := ⟨gb136, 1, none⟩) (Kd.N_far (p := ⟨gb136, 0, none⟩) (Kd.N_mono (Kd.N_mono HO106.out (fun k_ hk => (⟨hk, hk.1.2⟩ : _ ∧ k_ ≠ gb136))) (fun k_ hk => (⟨hk, hk.1.2⟩ : _ ∧ k_ ≠ gb137))) (fun _ hk => hk.1.2) (.slice Ao37 t129.length co37)) (fun _ hk => hk.1.2) (.int .i64 t132)) (fun _ hk => hk.2) (.int .i64 t133)) (fun _ hk => hk.2) (.int .i64 t134)) (fun _ h_ => h_.1)) (fun _ h_ => h_.1))) (Kd.R_base ho42) hb); have n2_ := Az0.mk (Kd.R_below (by (with_reducible repeat (first | apply Kd.R_alloc | apply Kd.R_drewN | apply Kd.R_drew)); exact (Kd.R_mono (Kd.R_mono (Kd.R_far (p := ⟨gb137, 1, none⟩) (Kd.R_far (p := ⟨gb137, 0, none⟩) (Kd.R_far (p := ⟨gb136, 1, none⟩) (Kd.R_far (p := ⟨gb136, 0, none⟩) (Kd.R_types (Kd.R_types HO109.out BK136.out (by decide)) BK137.out (by decide)) (fun _ hk => hk.1.2) (.slice Ao37 t129.length co37)) (fun _ hk => hk.1.2) (.int .i64 t132)) (fun _ hk => hk.2) (.int .i64 t133)) (fun _ hk => hk.2) (.int .i64 t134)) (fun _ h_ => h_.1)) (fun _ h_ => h_.1))) hb); have n3_ := Az0.mk (Kd.R_below (by (with_reducible repeat (first | apply Kd.R_alloc | apply Kd.R_drewN | apply Kd.R_drew)); exact (Kd.R_mono (Kd.R_mono (Kd.R_far (p := ⟨gb137, 1, none⟩) (Kd.R_far (p := ⟨gb137, 0, none⟩) (Kd.R_far (p := ⟨gb136, 1, none⟩) (Kd.R_far (p := ⟨gb136, 0, none⟩) (Kd.R_types (Kd.R_types HO112.out BK136.out (by decide)) BK137.out (by decide)) (fun _ hk => hk.1.2) (.slice Ao37 t129.length co37)) (fun _ hk => hk.1.2) (.int .i64 t132)) (fun _ hk => hk.2) (.int .i64 t133)) (fun _ hk => hk.2) (.int .i64 t134)) (fun _ h_ => h_.1)) (fun _ h_ => h_.1))) hb); have n4_ := Az0.mk (Kd.N_elder' (by (with_reducible repeat (first | apply Kd.N_alloc | apply Kd.N_drewN | apply Kd.N_drew)); exact (Kd.N_mono (Kd.N_mono (Kd.N_far (p := ⟨gb137, 1, none⟩) (Kd.N_far (p := ⟨gb137, 0, none⟩) (Kd.N_far (p := ⟨gb136, 1, none⟩) (Kd.N_far (p := ⟨gb136, 0, none⟩) (Kd.N_mono (Kd.N_mono HO117.out (fun k_ hk => (⟨hk, hk.1.2⟩ : _ ∧ k_ ≠ gb136))) (fun k_ hk => (⟨hk, hk.1.2⟩ : _ ∧ k_ ≠ gb137))) (fun _ hk => hk.1.2) (.slice Ao37 t129.length co37)) (fun _ hk => hk.1.2) (.int .i64 t132)) (fun _ hk => hk.2) (.int .i64 t133)) (fun _ hk => hk.2) (.int .i64 t134)) (fun _ h_ => h_.1)) (fun _ h_ => h_.1))) (Kd.R_base ho42) hb); have n5_ := Az0.mk (Kd.N_elder' (by (with_reducible repeat (first | apply Kd.N_alloc | apply Kd.N_drewN | apply Kd.N_drew)); exact (Kd.N_mono (Kd.N_mono (Kd.N_far (p := ⟨gb137, 1, none⟩) (Kd.N_far (p := ⟨gb137, 0, none⟩) (Kd.N_far (p := ⟨gb136, 1, none⟩) (Kd.N_far (p := ⟨gb136, 0, none⟩) (Kd.N_mono (Kd.N_mono HO120.out (fun k_ hk => (⟨hk, hk.1.2⟩ : _ ∧ k_ ≠ gb136))) (fun k_ hk => (⟨hk, hk.1.2⟩ : _ ∧ k_ ≠ gb137))) (fun _ hk => hk.1.2) (.slice Ao37 t129.length co37)) (fun _ hk => hk.1.2) (.int .i64 t132)) (fun _ hk => hk.2) (.int .i64 t133)) (fun _ hk => hk.2) (.int .i64 t134)) (fun _ h_ => h_.1)) (fun _ h_ => h_.1))) (Kd.R_base ho42) hb); have n6_ := Az0.mk (Kd.R_below (by (with_reducible repeat (first | apply Kd.R_alloc | apply Kd.R_drewN | apply Kd.R_drew)); exact (Kd.R_mono (Kd.R_mono (Kd.R_far (p := ⟨gb137, 1, none⟩) (Kd.R_far (p := ⟨gb137, 0, none⟩) (Kd.R_far (p := ⟨gb136, 1, none⟩) (Kd.R_far (p := ⟨gb136, 0, none⟩) (Kd.R_types (Kd.R_types HO123.out BK136.out (by decide)) BK137.out (by decide)) (fun _ hk => hk.1.2) (.slice Ao37 t129.length co37)) (fun _ hk => hk.1.2) (.int .i64 t132)) (fun _ hk => hk.2) (.int .i64 t133)) (fun _ hk => hk.2) (.int .i64 t134)) (fun _ h_ => h_.1)) (fun _ h_ => h_.1))) hb); have n7_ := Az0.mk (Kd.R_elder' (by (with_reducible repeat (first | apply Kd.R_alloc | apply Kd.R_drewN | apply Kd.R_drew)); exact (Kd.R_mono (Kd.R_mono (Kd.R_far (p := ⟨gb137, 1, none⟩) (Kd.R_far (p := ⟨gb137, 0, none⟩) (Kd.R_far (p := ⟨gb136, 1, none⟩) (Kd.R_far (p := ⟨gb136, 0, none⟩) (Kd.R_types (Kd.R_types HO128.out BK136.out (by decide)) BK137.out (by decide)) (fun _ hk => hk.1.2) (.slice Ao37 t129.length co37)) (fun _ hk => hk.1.2) (.int .i64 t132)) (fun _ hk => hk.2) (.int .i64 t133)) (fun _ hk => hk.2) (.int .i64 t134)) (fun _ h_ => h_.1)) (fun _ h_ => h_.1))) (Kd.R_base ho42) hb); have n8_ := Az0.mk (Kd.R_below (by (with_reducible repeat (first | apply Kd.R_alloc | apply Kd.R_drewN | apply Kd.R_drew)); exact (Kd.R_mono (Kd.R_mono (Kd.R_far (p := ⟨gb137, 1, none⟩) (Kd.R_far (p := ⟨gb137, 0, none⟩) (Kd.R_far (p := ⟨gb136, 1, none⟩) (Kd.R_far (p := ⟨gb136, 0, none⟩) (Kd.R_types (Kd.R_types HO131.out BK136.out (by decide)) BK137.out (by decide)) (fun _ hk => hk.1.2) (.slice Ao37 t129.length co37)) (fun _ hk => hk.1.2) (.int .i64 t132)) (fun _ hk => hk.2) (.int .i64 t133)) (fun _ hk => hk.2) (.int .i64 t134)) (fun _ h_ => h_.1)) (fun _ h_ => h_.1))) hb); have n9_ := Az0.mk (Kd.R_lower (Kd.R_new' ho42 (Kd.R_lt (by (with_reducible repeat (first | apply Kd.R_alloc | apply Kd.R_drewN | apply Kd.R_drew)); exact (Kd.R_mono (Kd.R_mono (Kd.R_far (p := ⟨gb137, 1, none⟩) (Kd.R_far (p := ⟨gb137, 0, none⟩) (Kd.R_far (p := ⟨gb136, 1, none⟩) (Kd.R_far (p := ⟨gb136, 0, none⟩) (Kd.R_types (Kd.R_types HO128.out BK136.out (by decide)) BK137.out (by decide)) (fun _ hk => hk.1.2) (.slice Ao37 t129.length co37)) (fun _ hk => hk.1.2) (.int .i64 t132)) (fun _ hk => hk.2) (.int .i64 t133)) (fun _ hk => hk.2) (.int .i64 t134)) (fun _ h_ => h_.1)) (fun _ h_ => h_.1))))) (below_size (by repeat (first | (with_reducible first | exact HB.out | apply baA_ | apply pbN_ | apply bD1_ | refine below_set ?_ GE136.out | refine below_set ?_ GE137.out) | exact HB.out)))); have n10_ := Az0.mk (blk_below (g := gb136) (o := .cells #[.slice Ao37 t129.length co37, .int .i64 t132] 26 (0, 0)) (by (with_reducible repeat (first | refine blk_drewN ?_ _ | refine blk_drew ?_ | refine blk_alloc ?_ _)); refine blk_far ?_ NB136_137.out _; (with_reducible repeat (first | refine blk_drewN ?_ _ | refine blk_drew ?_ | refine blk_alloc ?_ _)); refine blk_far ?_ NB136_137.out _; (with_reducible repeat (first | refine blk_drewN ?_ _ | refine blk_drew ?_ | refine blk_alloc ?_ _)); refine blk_put (cs := #[.slice Ao37 t129.length co37, .int .i64 0]) ?_ 1 _ rfl; (with_reducible repeat (first | refine blk_drewN ?_ _ | refine blk_drew ?_ | refine blk_alloc ?_ _)); refine blk_put (cs := #[.slice none 0 0, .int .i64 0]) ?_ 0 _ rfl; (with_reducible repeat (first | refine blk_drewN ?_ _ | refine blk_drew ?_ | refine blk_alloc ?_ _)); exact BK136.out) hb); have n11_ := Az0.mk (blk_below (g := gb137) (o := .cells #[.int .i64 t133, .int .i64 t134] 28 (0, 0)) (by (with_reducible repeat (first | refine blk_drewN ?_ _ | refine blk_drew ?_ | refine blk_alloc ?_ _)); refine blk_put (cs := #[.int .i64 t133, .int .i64 0]) ?_ 1 _ rfl; (with_reducible repeat (first | refine blk_drewN ?_ _ | refine blk_drew ?_ | refine blk_alloc ?_ _)); refine blk_put (cs := #[.int .i64 0, .int .i64 0]) ?_ 0 _ rfl; (with_reducible repeat (first | refine blk_drewN ?_ _ | refine blk_drew ?_ | refine blk_alloc ?_ _)); refine blk_far ?_ NB137_136.out _; (with_reducible repeat (first | refine blk_drewN ?_ _ | refine blk_drew ?_ | refine blk_alloc ?_ _)); refine blk_far ?_ NB137_136.out _; (with_reducible repeat (first | refine blk_drewN ?_ _ | refine blk_drew ?_ | refine blk_alloc ?_ _)); exact BK137.out) hb); have n12_ := Az0.mk (below_step (by repeat (first | (with_reducible first | exact HB.out | apply baA_ | apply pbN_ | apply bD1_ | refine below_set ?_ GE136.out | refine below_set ?_ GE137.out) | exact HB.out)) hb); clear HO103; clear HO106; clear HO109; clear HO112; clear HO117; clear HO120; clear HO123; clear HO128; clear HO131; clear BK136; clear BK137; clear HB; have HO103 := n0_; have HO106 := n1_; have HO109 := n2_; have HO112 := n3_; have HO117 := n4_; have HO120 := n5_; have HO123 := n6_; have HO128 := n7_; have HO131 := n8_; have HO140 := n9_; have BK136 := n10_; have BK137 := n11_; have HB := n12_; clear n0_ n1_ n2_ n3_ n4_ n5_ n6_ n7_ n8_ n9_ n10_ n11_ n12_; clear hb ho42; obtain ⟨Ao43, co43, eo43⟩ := Kd.R_slice HO140.out; subst eo43) | ((with_reducible refine gate_callee (f := 20) rfl ?_); refine goesL_ (some 38) rfl rfl Try.func20 (by kernel_rfl) rfl #[.slice Ao43 y138.length co43] rfl (by (try simp only [List.map_toArray, List.map_cons, List.map_nil]); first | done | rfl | (simp only [List.length_drop, List.length_take]; rfl)) ?_; (with_reducible refine (jam_Cheapest.calls k _ _ y138 t141 t144 t145 t146 t147 _ ?side1 ?side2 A6.out).mono ?_); (case side1 => repeat (first | exact (Kd.R_reads' HO140.out).2.2 | (with_reducible refine Kd.C_alloc ?_ _) | (with_reducible refine Kd.C_drewN ?_ _) | (with_reducible refine Kd.C_drew ?_))); (case side2 => exact (Kd.R_reads' HO140.out).2.1); rintro e w44 ⟨v142, rfl, ho0, hb⟩; refine ⟨_, rfl, ?_⟩; have n0_ := Az0.mk (Kd.N_elder' (by (with_reducible repeat (first | apply Kd.N_alloc | apply Kd.N_drewN | apply Kd.N_drew)); exact HO103.out) (Kd.R_base ho0) hb); have n1_ := Az0.mk (Kd.N_elder' (by (with_reducible repeat (first | apply Kd.N_alloc | apply Kd.N_drewN | apply Kd.N_drew)); exact HO106.out) (Kd.R_base ho0) hb); have n2_ := Az0.mk (Kd.R_elder' (by (with_reducible repeat (first | apply Kd.R_alloc | apply Kd.R_drewN | apply Kd.R_drew)); exact HO109.out) (Kd.R_base ho0) hb); have n3_ := Az0.mk (Kd.R_elder' (by (with_reducible repeat (first | apply Kd.R_alloc | apply Kd.R_drewN | apply Kd.R_drew)); exact HO112.out) (Kd.R_base ho0) hb); have n4_ := Az0.mk (Kd.N_elder' (by (with_reducible repeat (first | apply Kd.N_alloc | apply Kd.N_drewN | apply Kd.N_drew)); exact HO117.out) (Kd.R_base ho0) hb); have n5_ := Az0.mk (Kd.N_elder' (by (with_reducible repeat (first | apply Kd.N_alloc | apply Kd.N_drewN | apply Kd.N_drew)); exact HO120.out) (Kd.R_base ho0) hb); have n6_ := Az0.mk (Kd.R_elder' (by (with_reducible repeat (first | apply Kd.R_alloc | apply Kd.R_drewN | apply Kd.R_drew)); exact HO123.out) (Kd.R_base ho0) hb); have n7_ := Az0.mk (Kd.R_below (by (with_reducible repeat (first | apply Kd.R_alloc | apply Kd.R_drewN | apply Kd.R_drew)); exact HO128.out) hb); have n8_ := Az0.mk (Kd.R_elder' (by (with_reducible repeat (first | apply Kd.R_alloc | apply Kd.R_drewN | apply Kd.R_drew)); exact HO131.out) (Kd.R_base ho0) hb); have n9_ := Az0.mk (Kd.R_below (by (with_reducible repeat (first | apply Kd.R_alloc | apply Kd.R_drewN | apply Kd.R_drew)); exact HO140.out) hb); have n10_ := Az0.mk (Kd.R_lower (Kd.R_new' (Kd.R_new' (Kd.R_new' (Kd.R_new' ho0 (Kd.R_lt (by (with_reducible repeat (first | apply Kd.R_alloc | apply Kd.R_drewN | apply Kd.R_drew)); exact HO109.out))) (Kd.R_lt (by (with_reducible repeat (first | apply Kd.R_alloc | apply Kd.R_drewN | apply Kd.R_drew)); exact HO112.out))) (Kd.R_lt (by (with_reducible repeat (first | apply Kd.R_alloc | apply Kd.R_drewN | apply Kd.R_drew)); exact HO123.out))) (Kd.R_lt (by (with_reducible repeat (first | apply Kd.R_alloc | apply Kd.R_drewN | apply Kd.R_drew)); exact HO131.out))) (below_size (by repeat (first | (with_reducible first | exact HB.out | apply baA_ | apply pbN_ | apply bD1_ | refine below_set ?_ GE136.out | refine below_set ?_ GE137.out) | exact HB.out)))); have n11_ := Az0.mk (blk_below (g := gb136) (o := .cells #[.slice Ao37 t129.length co37, .int .i64 t132] 26 (0, 0)) (by (with_reducible repeat (first | refine blk_drewN ?_ _ | refine blk_drew ?_ | refine blk_alloc ?_ _)); exact BK136.out) hb); have n12_ := Az0.mk (blk_below (g := gb137) (o := .cells #[.int .i64 t133, .int .i64 t134] 28 (0, 0)) (by (with_reducible repeat (first | refine blk_drewN ?_ _ | refine blk_drew ?_ | refine blk_alloc ?_ _)); exact BK137.out) hb); have n13_ := Az0.mk (below_step (by repeat (first | (with_reducible first | exact HB.out | apply baA_ | apply pbN_ | apply bD1_ | refine below_set ?_ GE136.out | refine below_set ?_ GE137.out) | exact HB.out)) hb); clear HO103; clear HO106; clear HO109; clear HO112; clear HO117; clear HO120; clear HO123; clear HO128; clear HO131; clear HO140; clear BK136; clear BK137; clear HB; have HO103 := n0_; have HO106 := n1_; have HO109 := n2_; have HO112 := n3_; have HO117 := n4_; have HO120 := n5_; have HO123 := n6_; have HO128 := n7_; have HO131 := n8_; have HO140 := n9_; have HO143 := n10_; have BK136 := n11_; have BK137 := n12_; have HB := n13_; clear n0_ n1_ n2_ n3_ n4_ n5_ n6_ n7_ n8_ n9_ n10_ n11_ n12_ n13_; (try clear hb); (try clear hb2); (try clear hk); (try clear hi); (try clear ho0)) | ((with_reducible refine gate_dst (N := 10) rfl ?_); (try (refine gate_guard (by rfl) ?_; dsimp only)); refine box_event ?hg (N := 10) ?hd (cs := #[.slice none 0 0, .int .i64 0]) (t := 26) ?hr ?_; (case hd => rfl); (case hg => rfl); (case hr => first | (go_simp; done) | (go_simp; rfl)); intro gb148 hg w45 hbox hb; have n0_ := Az0.mk (Kd.N_below (Kd.N_elderB (by (with_reducible repeat (first | apply Kd.N_alloc | apply Kd.N_drewN | apply Kd.N_drew)); exact HO103.out) gb148 (Nat.le_of_eq hg.symm)) hb); have n1_ := Az0.mk (Kd.N_below (Kd.N_elderB (by (with_reducible repeat (first | apply Kd.N_alloc | apply Kd.N_drewN | apply Kd.N_drew)); exact HO106.out) gb148 (Nat.le_of_eq hg.symm)) hb); have n2_ := Az0.mk (Kd.R_below (by (with_reducible repeat (first | apply Kd.R_alloc | apply Kd.R_drewN | apply Kd.R_drew)); exact HO109.out) hb); have n3_ := Az0.mk (Kd.R_below (by (with_reducible repeat (first | apply Kd.R_alloc | apply Kd.R_drewN | apply Kd.R_drew)); exact HO112.out) hb); have n4_ := Az0.mk (Kd.N_below (Kd.N_elderB (by (with_reducible repeat (first | apply Kd.N_alloc | apply Kd.N_drewN | apply Kd.N_drew)); exact HO117.out) gb148 (Nat.le_of_eq hg.symm)) hb); have n5_ := Az0.mk (Kd.N_below (Kd.N_elderB (by (with_reducible repeat (first | apply Kd.N_alloc | apply Kd.N_drewN | apply Kd.N_drew)); exact HO120.out) gb148 (Nat.le_of_eq hg.symm)) hb); have n6_ := Az0.mk (Kd.R_below (by (with_reducible repeat (first | apply Kd.R_alloc | apply Kd.R_drewN | apply Kd.R_drew)); exact HO123.out) hb); have n7_ := Az0.mk (Kd.R_below (by (with_reducible repeat (first | apply Kd.R_alloc | apply Kd.R_drewN | apply Kd.R_drew)); exact HO128.out) hb); have n8_ := Az0.mk (Kd.R_below (by (with_reducible repeat (first | apply Kd.R_alloc | apply Kd.R_drewN | apply Kd.R_drew)); exact HO131.out) hb); have n9_ := Az0.mk (Kd.R_below (by (with_reducible repeat (first | apply Kd.R_alloc | apply Kd.R_drewN | apply Kd.R_drew)); exact HO140.out) hb); have n10_ := Az0.mk (Kd.R_below (by (with_reducible repeat (first | apply Kd.R_alloc | apply Kd.R_drewN | apply Kd.R_drew)); exact HO143.out) hb); have n11_ := Az0.mk (blk_below (g := gb136) (o := .cells #[.slice Ao37 t129.length co37, .int .i64 t132] 26 (0, 0)) (by (with_reducible repeat (first | refine blk_drewN ?_ _ | refine blk_drew ?_ | refine blk_alloc ?_ _)); exact BK136.out) hb); have n12_ := Az0.mk (blk_below (g := gb137) (o := .cells #[.int .i64 t133, .int .i64 t134] 28 (0, 0)) (by (with_reducible repeat (first | refine blk_drewN ?_ _ | refine blk_drew ?_ | refine blk_alloc ?_ _)); exact BK137.out) hb); have n13_ := Az0.mk (below_step (by repeat (first | (with_reducible first | exact HB.out | apply baA_ | apply pbN_ | apply bD1_ | refine below_set ?_ GE136.out | refine below_set ?_ GE137.out) | exact HB.out)) hb); have n14_ := Az0.mk (hbox); have n15_ := Az0.mk ((by rw [hg]; exact (below_size (by repeat (first | (with_reducible first | exact HB.out | apply baA_ | apply pbN_ | apply bD1_ | refine below_set ?_ GE136.out | refine below_set ?_ GE137.out) | exact HB.out))) : w.heap.size ≤ gb148)); have n16_ := Az0.mk ((by rw [hg]; exact (below_size (by repeat (first | (with_reducible first | exact HB.out | apply baA_ | apply pbN_ | apply bD1_ | refine below_set ?_ GE136.out | refine below_set ?_ GE137.out) | exact HB.out))) : w.heap.size ≤ gb148)); have n17_ := Az0.mk ((by rw [hg]; exact Nat.ne_of_lt (blk_lt (g := gb136) (o := .cells #[.slice Ao37 t129.length co37, .int .i64 t132] 26 (0, 0)) (by (with_reducible repeat (first | refine blk_drewN ?_ _ | refine blk_drew ?_ | refine blk_alloc ?_ _)); exact BK136.out)) : gb136 ≠ gb148)); have n18_ := Az0.mk ((by rw [hg]; exact Nat.ne_of_gt (blk_lt (g := gb136) (o := .cells #[.slice Ao37 t129.length co37, .int .i64 t132] 26 (0, 0)) (by (with_reducible repeat (first | refine blk_drewN ?_ _ | refine blk_drew ?_ | refine blk_alloc ?_ _)); exact BK136.out)) : gb148 ≠ gb136)); have n19_ := Az0.mk ((by rw [hg]; exact Nat.ne_of_lt (blk_lt (g := gb137) (o := .cells #[.int .i64 t133, .int .i64 t134] 28 (0, 0)) (by (with_reducible repeat (first | refine blk_drewN ?_ _ | refine blk_drew ?_ | refine blk_alloc ?_ _)); exact BK137.out)) : gb137 ≠ gb148)); have n20_ := Az0.mk ((by rw [hg]; exact Nat.ne_of_gt (blk_lt (g := gb137) (o := .cells #[.int .i64 t133, .int .i64 t134] 28 (0, 0)) (by (with_reducible repeat (first | refine blk_drewN ?_ _ | refine blk_drew ?_ | refine blk_alloc ?_ _)); exact BK137.out)) : gb148 ≠ gb137)); clear HO103; clear HO106; clear HO109; clear HO112; clear HO117; clear HO120; clear HO123; clear HO128; clear HO131; clear HO140; clear HO143; clear BK136; clear BK137; clear HB; have HO103 := n0_; have HO106 := n1_; have HO109 := n2_; have HO112 := n3_; have HO117 := n4_; have HO120 := n5_; have HO123 := n6_; have HO128 := n7_; have HO131 := n8_; have HO140 := n9_; have HO143 := n10_; have BK136 := n11_; have BK137 := n12_; have HB := n13_; have BK148 := n14_; have GW148 := n15_; have GE148 := n16_; have NB136_148 := n17_; have NB148_136 := n18_; have NB137_148 := n19_; have NB148_137 := n20_; clear n0_ n1_ n2_ n3_ n4_ n5_ n6_ n7_ n8_ n9_ n10_ n11_ n12_ n13_ n14_ n15_ n16_ n17_ n18_ n19_ n20_; clear hb hbox hg) | ((with_reducible refine gate_dst (N := 11) rfl ?_); (try (refine gate_guard (by rfl) ?_; dsimp only)); refine box_event ?hg (N := 11) ?hd (cs := #[.int .i64 0, .int .i64 0]) (t := 28) ?hr ?_; (case hd => rfl); (case hg => rfl); (case hr => first | (go_simp; done) | (go_simp; rfl)); intro gb149 hg w46 hbox hb; have n0_ := Az0.mk (Kd.N_below (Kd.N_elderB (by (with_reducible repeat (first | apply Kd.N_alloc | apply Kd.N_drewN | apply Kd.N_drew)); exact HO103.out) gb149 (Nat.le_of_eq hg.symm)) hb); have n1_ := Az0.mk (Kd.N_below (Kd.N_elderB (by (with_reducible repeat (first | apply Kd.N_alloc | apply Kd.N_drewN | apply Kd.N_drew)); exact HO106.out) gb149 (Nat.le_of_eq hg.symm)) hb); have n2_ := Az0.mk (Kd.R_below (by (with_reducible repeat (first | apply Kd.R_alloc | apply Kd.R_drewN | apply Kd.R_drew)); exact HO109.out) hb); have n3_ := Az0.mk (Kd.R_below (by (with_reducible repeat (first | apply Kd.R_alloc | apply Kd.R_drewN | apply Kd.R_drew)); exact HO112.out) hb); have n4_ := Az0.mk (Kd.N_below (Kd.N_elderB (by (with_reducible repeat (first | apply Kd.N_alloc | apply Kd.N_drewN | apply Kd.N_drew)); exact HO117.out) gb149 (Nat.le_of_eq hg.symm)) hb); have n5_ := Az0.mk (Kd.N_below (Kd.N_elderB (by (with_reducible repeat (first | apply Kd.N_alloc | apply Kd.N_drewN | apply Kd.N_drew)); exact HO120.out) gb149 (Nat.le_of_eq hg.symm)) hb); have n6_ := Az0.mk (Kd.R_below (by (with_reducible repeat (first | apply Kd.R_alloc | apply Kd.R_drewN | apply Kd.R_drew)); exact HO123.out) hb); have n7_ := Az0.mk (Kd.R_below (by (with_reducible repeat (first | apply Kd.R_alloc | apply Kd.R_drewN | apply Kd.R_drew)); exact HO128.out) hb); have n8_ := Az0.mk (Kd.R_below (by (with_reducible repeat (first | apply Kd.R_alloc | apply Kd.R_drewN | apply Kd.R_drew)); exact HO131.out) hb); have n9_ := Az0.mk (Kd.R_below (by (with_reducible repeat (first | apply Kd.R_alloc | apply Kd.R_drewN | apply Kd.R_drew)); exact HO140.out) hb); have n10_ := Az0.mk (Kd.R_below (by (with_reducible repeat (first | apply Kd.R_alloc | apply Kd.R_drewN | apply Kd.R_drew)); exact HO143.out) hb); have n11_ := Az0.mk (blk_below (g := gb136) (o := .cells #[.slice Ao37 t129.length co37, .int .i64 t132] 26 (0, 0)) (by (with_reducible repeat (first | refine blk_drewN ?_ _ | refine blk_drew ?_ | refine blk_alloc ?_ _)); exact BK136.out) hb); have n12_ := Az0.mk (blk_below (g := gb137) (o := .cells #[.int .i64 t133, .int .i64 t134] 28 (0, 0)) (by (with_reducible repeat (first | refine blk_drewN ?_ _ | refine blk_drew ?_ | refine blk_alloc ?_ _)); exact BK137.out) hb); have n13_ := Az0.mk (blk_below (g := gb148) (o := .cells #[.slice none 0 0, .int .i64 0] 26 (0, 0)) (by (with_reducible repeat (first | refine blk_drewN ?_ _ | refine blk_drew ?_ | refine blk_alloc ?_ _)); exact BK148.out) hb); have n14_ := Az0.mk (below_step (by repeat (first | (with_reducible first | exact HB.out | apply baA_ | apply pbN_ | apply bD1_ | refine below_set ?_ GE136.out | refine below_set ?_ GE137.out | refine below_set ?_ GE148.out) | exact HB.out)) hb); have n15_ := Az0.mk (hbox); have n16_ := Az0.mk ((by rw [hg]; exact (below_size (by repeat (first | (with_reducible first | exact HB.out | apply baA_ | apply pbN_ | apply bD1_ | refine below_set ?_ GE136.out | refine below_set ?_ GE137.out | refine below_set ?_ GE148.out) | exact HB.out))) : w.heap.size ≤ gb149)); have n17_ := Az0.mk ((by rw [hg]; exact (below_size (by repeat (first | (with_reducible first | exact HB.out | apply baA_ | apply pbN_ | apply bD1_ | refine below_set ?_ GE136.out | refine below_set ?_ GE137.out | refine below_set ?_ GE148.out) | exact HB.out))) : w.heap.size ≤ gb149)); have n18_ := Az0.mk ((by rw [hg]; exact Nat.ne_of_lt (blk_lt (g := gb136) (o := .cells #[.slice Ao37 t129.length co37, .int .i64 t132] 26 (0, 0)) (by (with_reducible repeat (first | refine blk_drewN ?_ _ | refine blk_drew ?_ | refine blk_alloc ?_ _)); exact BK136.out)) : gb136 ≠ gb149)); have n19_ := Az0.mk ((by rw [hg]; exact Nat.ne_of_gt (blk_lt (g := gb136) (o := .cells #[.slice Ao37 t129.length co37, .int .i64 t132] 26 (0, 0)) (by (with_reducible repeat (first | refine blk_drewN ?_ _ | refine blk_drew ?_ | refine blk_alloc ?_ _)); exact BK136.out)) : gb149 ≠ gb136)); have n20_ := Az0.mk ((by rw [hg]; exact Nat.ne_of_lt (blk_lt (g := gb137) (o := .cells #[.int .i64 t133, .int .i64 t134] 28 (0, 0)) (by (with_reducible repeat (first | refine blk_drewN ?_ _ | refine blk_drew ?_ | refine blk_alloc ?_ _)); exact BK137.out)) : gb137 ≠ gb149)); have n21_ := Az0.mk ((by rw [hg]; exact Nat.ne_of_gt (blk_lt (g := gb137) (o := .cells #[.int .i64 t133, .int .i64 t134] 28 (0, 0)) (by (with_reducible repeat (first | refine blk_drewN ?_ _ | refine blk_drew ?_ | refine blk_alloc ?_ _)); exact BK137.out)) : gb149 ≠ gb137)); have n22_ := Az0.mk ((by rw [hg]; exact Nat.ne_of_lt (blk_lt (g := gb148) (o := .cells #[.slice none 0 0, .int .i64 0] 26 (0, 0)) (by (with_reducible repeat (first | refine blk_drewN ?_ _ | refine blk_drew ?_ | refine blk_alloc ?_ _)); exact BK148.out)) : gb148 ≠ gb149)); have n23_ := Az0.mk ((by rw [hg]; exact Nat.ne_of_gt (blk_lt (g := gb148) (o := .cells #[.slice none 0 0, .int .i64 0] 26 (0, 0)) (by (with_reducible repeat (first | refine blk_drewN ?_ _ | refine blk_drew ?_ | refine blk_alloc ?_ _)); exact BK148.out)) : gb149 ≠ gb148)); clear HO103; clear HO106; clear HO109; clear HO112; clear HO117; clear HO120; clear HO123; clear HO128; clear HO131; clear HO140; clear HO143; clear BK136; clear BK137; clear BK148; clear HB; have HO103 := n0_; have HO106 := n1_; have HO109 := n2_; have HO112 := n3_; have HO117 := n4_; have HO120 := n5_; have HO123 := n6_; have HO128 := n7_; have HO131 := n8_; have HO140 := n9_; have HO143 := n10_; have BK136 := n11_; have BK137 := n12_; have BK148 := n13_; have HB := n14_; have BK149 := n15_; have GW149 := n16_; have GE149 := n17_; have NB136_149 := n18_; have NB149_136 := n19_; have NB137_149 := n20_; have NB149_137 := n21_; have NB148_149 := n22_; have NB149_148 := n23_; clear n0_ n1_ n2_ n3_ n4_ n5_ n6_ n7_ n8_ n9_ n10_ n11_ n12_ n13_ n14_ n15_ n16_ n17_ n18_ n19_ n20_ n21_ n22_ n23_; clear hb hbox hg; obtain ⟨Ao47, co47, eo47⟩ := Kd.R_slice HO143.out; subst eo47; have hnb48 := NB148_136.out; have hnc48 := NB136_148.out; have hnb49 := NB148_137.out; have hnc49 := NB137_148.out; have hnb50 := NB148_149.out; have hnc50 := NB149_148.out; have hcz51_0 : w46.cell? ⟨gb148, 0, none⟩ = some (.slice none 0 0) := (bkC BK148.out 0).trans rfl; have hcz51_1 : w46.cell? ⟨gb148, 1, none⟩ = some (.int .i64 0) := (bkC BK148.out 1).trans rfl; have hfz51_0 := blk_frozen BK148.out 0; have hfz51_1 := blk_frozen BK148.out 1; have hnb52 := NB149_136.out; have hnc52 := NB136_149.out; have hnb53 := NB149_137.out; have hnc53 := NB137_149.out; have hcz54_0 : w46.cell? ⟨gb149, 0, none⟩ = some (.int .i64 0) := (bkC BK149.out 0).trans rfl; have hcz54_1 : w46.cell? ⟨gb149, 1, none⟩ = some (.int .i64 0) := (bkC BK149.out 1).trans rfl; have hfz54_0 := blk_frozen BK149.out 0; have hfz54_1 := blk_frozen BK149.out 1) | ((with_reducible refine gate_dst (N := 46) rfl ?_); (try (refine gate_guard (by rfl) ?_; dsimp only)); refine Kd.R_lit (Kd.int .i64) _ 3 ?hg (N := 46) ?hd (xs := ([2, 2] : List Int)) (inner := [.int .i64 2, .int .i64 2]) (ok := fun _ => True) (okp := fun _ => True) ?hr ?hp (fun _ hk => hk) trivial (Below.refl _ _) (Nat.le_refl _) (by simp) ?_; (case hd => rfl); (case hg => rfl); (case hr => first | (go_simp; done) | (go_simp; rfl)); (case hp => exact (Reps.one (show Kd.M (Kd.int .i64) _ _ _ 2 [.int .i64 2] from rfl) (Reps.one (show Kd.M (Kd.int .i64) _ _ _ 2 [.int .i64 2] from rfl) (Reps.none _ _)))); intro v151 w55 ho56 hb hg_ hnew_; clear hg_ hnew_; (first | rw [← Ny150.out] at ho56 | (simp only [Int.reduceToNat] at ho56; rw [← Ny150.out] at ho56)); have n0_ := Az0.mk (Kd.N_elder' (by (with_reducible repeat (first | apply Kd.N_alloc | apply Kd.N_drewN | apply Kd.N_drew)); exact (Kd.N_mono (Kd.N_mono (Kd.N_far (p := ⟨gb149, 1, none⟩) (Kd.N_far (p := ⟨gb149, 0, none⟩) (Kd.N_far (p := ⟨gb148, 1, none⟩) (Kd.N_far (p := ⟨gb148, 0, none⟩) (Kd.N_mono (Kd.N_mono HO103.out (fun k_ hk => (⟨hk, hk.1.2⟩ : _ ∧ k_ ≠ gb148))) (fun k_ hk => (⟨hk, hk.1.2⟩ : _ ∧ k_ ≠ gb149))) (fun _ hk => hk.1.2) (.slice Ao47 t141.length co47)) (fun _ hk => hk.1.2) (.int .i64 t144)) (fun _ hk => hk.2) (.int .i64 t145)) (fun _ hk => hk.2) (.int .i64 t146)) (fun _ h_ => h_.1)) (fun _ h_ => h_.1))) (Kd.R_base ho56) hb); have n1_ := Az0.mk (Kd.N_elder' (by (with_reducible repeat (first | apply Kd.N_alloc | apply Kd.N_drewN | apply Kd.N_drew)); exact (Kd.N_mono (Kd.N_mono (Kd.N_far (p := ⟨gb149, 1, none⟩) (Kd.N_far (p := ⟨gb149, 0, none⟩) (Kd.N_far (p := ⟨gb148, 1, none⟩) (Kd.N_far (p := ⟨gb148, 0, none⟩) (Kd.N_mono (Kd.N_mono HO106.out (fun k_ hk => (⟨hk, hk.1.2⟩ : _ ∧ k_ ≠ gb148))) (fun k_ hk => (⟨hk, hk.1.2⟩ : _ ∧ k_ ≠ gb149))) (fun _ hk => hk.1.2) (.slice Ao47 t141.length co47)) (fun _ hk => hk.1.2) (.int .i64 t144)) (fun _ hk => hk.2) (.int .i64 t145)) (fun _ hk => hk.2) (.int .i64 t146)) (fun _ h_ => h_.1)) (fun _ h_ => h_.1))) (Kd.R_base ho56) hb); have n2_ := Az0.mk (Kd.R_elder' (by (with_reducible repeat (first | apply Kd.R_alloc | apply Kd.R_drewN | apply Kd.R_drew)); exact (Kd.R_mono (Kd.R_mono (Kd.R_far (p := ⟨gb149, 1, none⟩) (Kd.R_far (p := ⟨gb149, 0, none⟩) (Kd.R_far (p := ⟨gb148, 1, none⟩) (Kd.R_far (p := ⟨gb148, 0, none⟩) (Kd.R_types (Kd.R_types HO109.out BK148.out (by decide)) BK149.out (by decide)) (fun _ hk => hk.1.2) (.slice Ao47 t141.length co47)) (fun _ hk => hk.1.2) (.int .i64 t144)) (fun _ hk => hk.2) (.int .i64 t145)) (fun _ hk => hk.2) (.int .i64 t146)) (fun _ h_ => h_.1)) (fun _ h_ => h_.1))) (Kd.R_base ho56) hb); have n3_ := Az0.mk (Kd.R_elder' (by (with_reducible repeat (first | apply Kd.R_alloc | apply Kd.R_drewN | apply Kd.R_drew)); exact (Kd.R_mono (Kd.R_mono (Kd.R_far (p := ⟨gb149, 1, none⟩) (Kd.R_far (p := ⟨gb149, 0, none⟩) (Kd.R_far (p := ⟨gb148, 1, none⟩) (Kd.R_far (p := ⟨gb148, 0, none⟩) (Kd.R_types (Kd.R_types HO112.out BK148.out (by decide)) BK149.out (by decide)) (fun _ hk => hk.1.2) (.slice Ao47 t141.length co47)) (fun _ hk => hk.1.2) (.int .i64 t144)) (fun _ hk => hk.2) (.int .i64 t145)) (fun _ hk => hk.2) (.int .i64 t146)) (fun _ h_ => h_.1)) (fun _ h_ => h_.1))) (Kd.R_base ho56) hb); have n4_ := Az0.mk (Kd.N_elder' (by (with_reducible repeat (first | apply Kd.N_alloc | apply Kd.N_drewN | apply Kd.N_drew)); exact (Kd.N_mono (Kd.N_mono (Kd.N_far (p := ⟨gb149, 1, none⟩) (Kd.N_far (p := ⟨gb149, 0, none⟩) (Kd.N_far (p := ⟨gb148, 1, none⟩) (Kd.N_far (p := ⟨gb148, 0, none⟩) (Kd.N_mono (Kd.N_mono HO117.out (fun k_ hk => (⟨hk, hk.1.2⟩ : _ ∧ k_ ≠ gb148))) (fun k_ hk => (⟨hk, hk.1.2⟩ : _ ∧ k_ ≠ gb149))) (fun _ hk => hk.1.2) (.slice Ao47 t141.length co47)) (fun _ hk => hk.1.2) (.int .i64 t144)) (fun _ hk => hk.2) (.int .i64 t145)) (fun _ hk => hk.2) (.int .i64 t146)) (fun _ h_ => h_.1)) (fun _ h_ => h_.1))) (Kd.R_base ho56) hb); have n5_ := Az0.mk (Kd.N_elder' (by (with_reducible repeat (first | apply Kd.N_alloc | apply Kd.N_drewN | apply Kd.N_drew)); exact (Kd.N_mono (Kd.N_mono (Kd.N_far (p := ⟨gb149, 1, none⟩) (Kd.N_far (p := ⟨gb149, 0, none⟩) (Kd.N_far (p := ⟨gb148, 1, none⟩) (Kd.N_far (p := ⟨gb148, 0, none⟩) (Kd.N_mono (Kd.N_mono HO120.out (fun k_ hk => (⟨hk, hk.1.2⟩ : _ ∧ k_ ≠ gb148))) (fun k_ hk => (⟨hk, hk.1.2⟩ : _ ∧ k_ ≠ gb149))) (fun _ hk => hk.1.2) (.slice Ao47 t141.length co47)) (fun _ hk => hk.1.2) (.int .i64 t144)) (fun _ hk => hk.2) (.int .i64 t145)) (fun _ hk => hk.2) (.int .i64 t146)) (fun _ h_ => h_.1)) (fun _ h_ => h_.1))) (Kd.R_base ho56) hb); have n6_ := Az0.mk (Kd.R_elder' (by (with_reducible repeat (first | apply Kd.R_alloc | apply Kd.R_drewN | apply Kd.R_drew)); exact (Kd.R_mono (Kd.R_mono (Kd.R_far (p := ⟨gb149, 1, none⟩) (Kd.R_far (p := ⟨gb149, 0, none⟩) (Kd.R_far (p := ⟨gb148, 1, none⟩) (Kd.R_far (p := ⟨gb148, 0, none⟩) (Kd.R_types (Kd.R_types HO123.out BK148.out (by decide)) BK149.out (by decide)) (fun _ hk => hk.1.2) (.slice Ao47 t141.length co47)) (fun _ hk => hk.1.2) (.int .i64 t144)) (fun _ hk => hk.2) (.int .i64 t145)) (fun _ hk => hk.2) (.int .i64 t146)) (fun _ h_ => h_.1)) (fun _ h_ => h_.1))) (Kd.R_base ho56) hb); have n7_ := Az0.mk (Kd.R_below (by (with_reducible repeat (first | apply Kd.R_alloc | apply Kd.R_drewN | apply Kd.R_drew)); exact (Kd.R_mono (Kd.R_mono (Kd.R_far (p := ⟨gb149, 1, none⟩) (Kd.R_far (p := ⟨gb149, 0, none⟩) (Kd.R_far (p := ⟨gb148, 1, none⟩) (Kd.R_far (p := ⟨gb148, 0, none⟩) (Kd.R_types (Kd.R_types HO128.out BK148.out (by decide)) BK149.out (by decide)) (fun _ hk => hk.1.2) (.slice Ao47 t141.length co47)) (fun _ hk => hk.1.2) (.int .i64 t144)) (fun _ hk => hk.2) (.int .i64 t145)) (fun _ hk => hk.2) (.int .i64 t146)) (fun _ h_ => h_.1)) (fun _ h_ => h_.1))) hb); have n8_ := Az0.mk (Kd.R_elder' (by (with_reducible repeat (first | apply Kd.R_alloc | apply Kd.R_drewN | apply Kd.R_drew)); exact (Kd.R_mono (Kd.R_mono (Kd.R_far (p := ⟨gb149, 1, none⟩) (Kd.R_far (p := ⟨gb149, 0, none⟩) (Kd.R_far (p := ⟨gb148, 1, none⟩) (Kd.R_far (p := ⟨gb148, 0, none⟩) (Kd.R_types (Kd.R_types HO131.out BK148.out (by decide)) BK149.out (by decide)) (fun _ hk => hk.1.2) (.slice Ao47 t141.length co47)) (fun _ hk => hk.1.2) (.int .i64 t144)) (fun _ hk => hk.2) (.int .i64 t145)) (fun _ hk => hk.2) (.int .i64 t146)) (fun _ h_ => h_.1)) (fun _ h_ => h_.1))) (Kd.R_base ho56) hb); have n9_ := Az0.mk (Kd.R_below (by (with_reducible repeat (first | apply Kd.R_alloc | apply Kd.R_drewN | apply Kd.R_drew)); exact (Kd.R_mono (Kd.R_mono (Kd.R_far (p := ⟨gb149, 1, none⟩) (Kd.R_far (p := ⟨gb149, 0, none⟩) (Kd.R_far (p := ⟨gb148, 1, none⟩) (Kd.R_far (p := ⟨gb148, 0, none⟩) (Kd.R_types (Kd.R_types HO140.out BK148.out (by decide)) BK149.out (by decide)) (fun _ hk => hk.1.2) (.slice Ao47 t141.length co47)) (fun _ hk => hk.1.2) (.int .i64 t144)) (fun _ hk => hk.2) (.int .i64 t145)) (fun _ hk => hk.2) (.int .i64 t146)) (fun _ h_ => h_.1)) (fun _ h_ => h_.1))) hb); have n10_ := Az0.mk (Kd.R_elder' (by (with_reducible repeat (first | apply Kd.R_alloc | apply Kd.R_drewN | apply Kd.R_drew)); exact (Kd.R_mono (Kd.R_mono (Kd.R_far (p := ⟨gb149, 1, none⟩) (Kd.R_far (p := ⟨gb149, 0, none⟩) (Kd.R_far (p := ⟨gb148, 1, none⟩) (Kd.R_far (p := ⟨gb148, 0, none⟩) (Kd.R_types (Kd.R_types HO143.out BK148.out (by decide)) BK149.out (by decide)) (fun _ hk => hk.1.2) (.slice Ao47 t141.length co47)) (fun _ hk => hk.1.2) (.int .i64 t144)) (fun _ hk => hk.2) (.int .i64 t145)) (fun _ hk => hk.2) (.int .i64 t146)) (fun _ h_ => h_.1)) (fun _ h_ => h_.1))) (Kd.R_base ho56) hb); have n11_ := Az0.mk (Kd.R_lower (Kd.R_new' (Kd.R_new' (Kd.R_new' (Kd.R_new' (Kd.R_new' ho56 (Kd.R_lt (by (with_reducible repeat (first | apply Kd.R_alloc | apply Kd.R_drewN | apply Kd.R_drew)); exact (Kd.R_mono (Kd.R_mono (Kd.R_far (p := ⟨gb149, 1, none⟩) (Kd.R_far (p := ⟨gb149, 0, none⟩) (Kd.R_far (p := ⟨gb148, 1, none⟩) (Kd.R_far (p := ⟨gb148, 0, none⟩) (Kd.R_types (Kd.R_types HO109.out BK148.out (by decide)) BK149.out (by decide)) (fun _ hk => hk.1.2) (.slice Ao47 t141.length co47)) (fun _ hk => hk.1.2) (.int .i64 t144)) (fun _ hk => hk.2) (.int .i64 t145)) (fun _ hk => hk.2) (.int .i64 t146)) (fun _ h_ => h_.1)) (fun _ h_ => h_.1))))) (Kd.R_lt (by (with_reducible repeat (first | apply Kd.R_alloc | apply Kd.R_drewN | apply Kd.R_drew)); exact (Kd.R_mono (Kd.R_mono (Kd.R_far (p := ⟨gb149, 1, none⟩) (Kd.R_far (p := ⟨gb149, 0, none⟩) (Kd.R_far (p := ⟨gb148, 1, none⟩) (Kd.R_far (p := ⟨gb148, 0, none⟩) (Kd.R_types (Kd.R_types HO112.out BK148.out (by decide)) BK149.out (by decide)) (fun _ hk => hk.1.2) (.slice Ao47 t141.length co47)) (fun _ hk => hk.1.2) (.int .i64 t144)) (fun _ hk => hk.2) (.int .i64 t145)) (fun _ hk => hk.2) (.int .i64 t146)) (fun _ h_ => h_.1)) (fun _ h_ => h_.1))))) (Kd.R_lt (by (with_reducible repeat (first | apply Kd.R_alloc | apply Kd.R_drewN | apply Kd.R_drew)); exact (Kd.R_mono (Kd.R_mono (Kd.R_far (p := ⟨gb149, 1, none⟩) (Kd.R_far (p := ⟨gb149, 0, none⟩) (Kd.R_far (p := ⟨gb148, 1, none⟩) (Kd.R_far (p := ⟨gb148, 0, none⟩) (Kd.R_types (Kd.R_types HO123.out BK148.out (by decide)) BK149.out (by decide)) (fun _ hk => hk.1.2) (.slice Ao47 t141.length co47)) (fun _ hk => hk.1.2) (.int .i64 t144)) (fun _ hk => hk.2) (.int .i64 t145)) (fun _ hk => hk.2) (.int .i64 t146)) (fun _ h_ => h_.1)) (fun _ h_ => h_.1))))) (Kd.R_lt (by (with_reducible repeat (first | apply Kd.R_alloc | apply Kd.R_drewN | apply Kd.R_drew)); exact (Kd.R_mono (Kd.R_mono (Kd.R_far (p := ⟨gb149, 1, none⟩) (Kd.R_far (p := ⟨gb149, 0, none⟩) (Kd.R_far (p := ⟨gb148, 1, none⟩) (Kd.R_far (p := ⟨gb148, 0, none⟩) (Kd.R_types (Kd.R_types HO131.out BK148.out (by decide)) BK149.out (by decide)) (fun _ hk => hk.1.2) (.slice Ao47 t141.length co47)) (fun _ hk => hk.1.2) (.int .i64 t144)) (fun _ hk => hk.2) (.int .i64 t145)) (fun _ hk => hk.2) (.int .i64 t146)) (fun _ h_ => h_.1)) (fun _ h_ => h_.1))))) (Kd.R_lt (by (with_reducible repeat (first | apply Kd.R_alloc | apply Kd.R_drewN | apply Kd.R_drew)); exact (Kd.R_mono (Kd.R_mono (Kd.R_far (p := ⟨gb149, 1, none⟩) (Kd.R_far (p := ⟨gb149, 0, none⟩) (Kd.R_far (p := ⟨gb148, 1, none⟩) (Kd.R_far (p := ⟨gb148, 0, none⟩) (Kd.R_types (Kd.R_types HO143.out BK148.out (by decide)) BK149.out (by decide)) (fun _ hk => hk.1.2) (.slice Ao47 t141.length co47)) (fun _ hk => hk.1.2) (.int .i64 t144)) (fun _ hk => hk.2) (.int .i64 t145)) (fun _ hk => hk.2) (.int .i64 t146)) (fun _ h_ => h_.1)) (fun _ h_ => h_.1))))) (below_size (by repeat (first | (with_reducible first | exact HB.out | apply baA_ | apply pbN_ | apply bD1_ | refine below_set ?_ GE136.out | refine below_set ?_ GE137.out | refine below_set ?_ GE148.out | refine below_set ?_ GE149.out) | exact HB.out)))); have n12_ := Az0.mk (blk_below (g := gb136) (o := .cells #[.slice Ao37 t129.length co37, .int .i64 t132] 26 (0, 0)) (by (with_reducible repeat (first | refine blk_drewN ?_ _ | refine blk_drew ?_ | refine blk_alloc ?_ _)); refine blk_far ?_ NB136_149.out _; (with_reducible repeat (first | refine blk_drewN ?_ _ | refine blk_drew ?_ | refine blk_alloc ?_ _)); refine blk_far ?_ NB136_149.out _; (with_reducible repeat (first | refine blk_drewN ?_ _ | refine blk_drew ?_ | refine blk_alloc ?_ _)); refine blk_far ?_ NB136_148.out _; (with_reducible repeat (first | refine blk_drewN ?_ _ | refine blk_drew ?_ | refine blk_alloc ?_ _)); refine blk_far ?_ NB136_148.out _; (with_reducible repeat (first | refine blk_drewN ?_ _ | refine blk_drew ?_ | refine blk_alloc ?_ _)); exact BK136.out) hb); have n13_ := Az0.mk (blk_below (g := gb137) (o := .cells #[.int .i64 t133, .int .i64 t134] 28 (0, 0)) (by (with_reducible repeat (first | refine blk_drewN ?_ _ | refine blk_drew ?_ | refine blk_alloc ?_ _)); refine blk_far ?_ NB137_149.out _; (with_reducible repeat (first | refine blk_drewN ?_ _ | refine blk_drew ?_ | refine blk_alloc ?_ _)); refine blk_far ?_ NB137_149.out _; (with_reducible repeat (first | refine blk_drewN ?_ _ | refine blk_drew ?_ | refine blk_alloc ?_ _)); refine blk_far ?_ NB137_148.out _; (with_reducible repeat (first | refine blk_drewN ?_ _ | refine blk_drew ?_ | refine blk_alloc ?_ _)); refine blk_far ?_ NB137_148.out _; (with_reducible repeat (first | refine blk_drewN ?_ _ | refine blk_drew ?_ | refine blk_alloc ?_ _)); exact BK137.out) hb); have n14_ := Az0.mk (blk_below (g := gb148) (o := .cells #[.slice Ao47 t141.length co47, .int .i64 t144] 26 (0, 0)) (by (with_reducible repeat (first | refine blk_drewN ?_ _ | refine blk_drew ?_ | refine blk_alloc ?_ _)); refine blk_far ?_ NB148_149.out _; (with_reducible repeat (first | refine blk_drewN ?_ _ | refine blk_drew ?_ | refine blk_alloc ?_ _)); refine blk_far ?_ NB148_149.out _; (with_reducible repeat (first | refine blk_drewN ?_ _ | refine blk_drew ?_ | refine blk_alloc ?_ _)); refine blk_put (cs := #[.slice Ao47 t141.length co47, .int .i64 0]) ?_ 1 _ rfl; (with_reducible repeat (first | refine blk_drewN ?_ _ | refine blk_drew ?_ | refine blk_alloc ?_ _)); refine blk_put (cs := #[.slice none 0 0, .int .i64 0]) ?_ 0 _ rfl; (with_reducible repeat (first | refine blk_drewN ?_ _ | refine blk_drew ?_ | refine blk_alloc ?_ _)); exact BK148.out) hb); have n15_ := Az0.mk (blk_below (g := gb149) (o := .cells #[.int .i64 t145, .int .i64 t146] 28 (0, 0)) (by (with_reducible repeat (first | refine blk_drewN ?_ _ | refine blk_drew ?_ | refine blk_alloc ?_ _)); refine blk_put (cs := #[.int .i64 t145, .int .i64 0]) ?_ 1 _ rfl; (with_reducible repeat (first | refine blk_drewN ?_ _ | refine blk_drew ?_ | refine blk_alloc ?_ _)); refine blk_put (cs := #[.int .i64 0, .int .i64 0]) ?_ 0 _ rfl; (with_reducible repeat (first | refine blk_drewN ?_ _ | refine blk_drew ?_ | refine blk_alloc ?_ _)); refine blk_far ?_ NB149_148.out _; (with_reducible repeat (first | refine blk_drewN ?_ _ | refine blk_drew ?_ | refine blk_alloc ?_ _)); refine blk_far ?_ NB149_148.out _; (with_reducible repeat (first | refine blk_drewN ?_ _ | refine blk_drew ?_ | refine blk_alloc ?_ _)); exact BK149.out) hb); have n16_ := Az0.mk (below_step (by repeat (first | (with_reducible first | exact HB.out | apply baA_ | apply pbN_ | apply bD1_ | refine below_set ?_ GE136.out | refine below_set ?_ GE137.out | refine below_set ?_ GE148.out | refine below_set ?_ GE149.out) | exact HB.out)) hb); clear HO103; clear HO106; clear HO109; clear HO112; clear HO117; clear HO120; clear HO123; clear HO128; clear HO131; clear HO140; clear HO143; clear BK136; clear BK137; clear BK148; clear BK149; clear HB; have HO103 := n0_; have HO106 := n1_; have HO109 := n2_; have HO112 := n3_; have HO117 := n4_; have HO120 := n5_; have HO123 := n6_; have HO128 := n7_; have HO131 := n8_; have HO140 := n9_; have HO143 := n10_; have HO152 := n11_; have BK136 := n12_; have BK137 := n13_; have BK148 := n14_; have BK149 := n15_; have HB := n16_; clear n0_ n1_ n2_ n3_ n4_ n5_ n6_ n7_ n8_ n9_ n10_ n11_ n12_ n13_ n14_ n15_ n16_; clear hb ho56; obtain ⟨Ao57, co57, eo57⟩ := Kd.R_slice HO112.out; subst eo57; obtain ⟨Ao58, co58, eo58⟩ := Kd.R_slice HO152.out; subst eo58) | (go_at_call 31; (with_reducible refine (trishawlaw02_same.calls k _ _ t110 _ _ y150 true _ ?side1 ?side2 ?side3 ?side4 A8.out).mono ?_); (case side1 => repeat (first | exact (Kd.R_reads' HO112.out).2.2 | (with_reducible refine Kd.C_alloc ?_ _) | (with_reducible refine Kd.C_drewN ?_ _) | (with_reducible refine Kd.C_drew ?_))); (case side2 => exact (Kd.R_reads' HO112.out).2.1); (case side3 => repeat (first | exact (Kd.R_reads' HO152.out).2.2 | (with_reducible refine Kd.C_alloc ?_ _) | (with_reducible refine Kd.C_drewN ?_ _) | (with_reducible refine Kd.C_drew ?_))); (case side4 => exact (Kd.R_reads' HO152.out).2.1); rintro e w' ⟨rfl, ⟨nd, rfl⟩⟩) | ((with_reducible refine gate_dst (N := 59) rfl ?_); (try (refine gate_guard (by rfl) ?_; dsimp only)); refine Kd.R_lit (Kd.int .i64) _ 3 ?hg (N := 59) ?hd (xs := ([0, 1] : List Int)) (inner := [.int .i64 0, .int .i64 1]) (ok := fun _ => True) (okp := fun _ => True) ?hr ?hp (fun _ hk => hk) trivial (Below.refl _ _) (Nat.le_refl _) (by simp) ?_; (case hd => rfl); (case hg => rfl); (case hr => first | (go_simp; done) | (go_simp; rfl)); (case hp => exact (Reps.one (show Kd.M (Kd.int .i64) _ _ _ 0 [.int .i64 0] from rfl) (Reps.one (show Kd.M (Kd.int .i64) _ _ _ 1 [.int .i64 1] from rfl) (Reps.none _ _)))); intro v155 w59 ho60 hb hg_ hnew_; clear hg_ hnew_; (first | rw [← Ny154.out] at ho60 | (simp only [Int.reduceToNat] at ho60; rw [← Ny154.out] at ho60)); have n0_ := Az0.mk (Kd.N_elder' (by (with_reducible repeat (first | apply Kd.N_alloc | apply Kd.N_drewN | apply Kd.N_drew)); exact HO103.out) (Kd.R_base ho60) hb); have n1_ := Az0.mk (Kd.N_elder' (by (with_reducible repeat (first | apply Kd.N_alloc | apply Kd.N_drewN | apply Kd.N_drew)); exact HO106.out) (Kd.R_base ho60) hb); have n2_ := Az0.mk (Kd.R_elder' (by (with_reducible repeat (first | apply Kd.R_alloc | apply Kd.R_drewN | apply Kd.R_drew)); exact HO109.out) (Kd.R_base ho60) hb); have n3_ := Az0.mk (Kd.R_elder' (by (with_reducible repeat (first | apply Kd.R_alloc | apply Kd.R_drewN | apply Kd.R_drew)); exact HO112.out) (Kd.R_base ho60) hb); have n4_ := Az0.mk (Kd.N_elder' (by (with_reducible repeat (first | apply Kd.N_alloc | apply Kd.N_drewN | apply Kd.N_drew)); exact HO117.out) (Kd.R_base ho60) hb); have n5_ := Az0.mk (Kd.N_elder' (by (with_reducible repeat (first | apply Kd.N_alloc | apply Kd.N_drewN | apply Kd.N_drew)); exact HO120.out) (Kd.R_base ho60) hb); have n6_ := Az0.mk (Kd.R_elder' (by (with_reducible repeat (first | apply Kd.R_alloc | apply Kd.R_drewN | apply Kd.R_drew)); exact HO123.out) (Kd.R_base ho60) hb); have n7_ := Az0.mk (Kd.R_below (by (with_reducible repeat (first | apply Kd.R_alloc | apply Kd.R_drewN | apply Kd.R_drew)); exact HO128.out) hb); have n8_ := Az0.mk (Kd.R_elder' (by (with_reducible repeat (first | apply Kd.R_alloc | apply Kd.R_drewN | apply Kd.R_drew)); exact HO131.out) (Kd.R_base ho60) hb); have n9_ := Az0.mk (Kd.R_below (by (with_reducible repeat (first | apply Kd.R_alloc | apply Kd.R_drewN | apply Kd.R_drew)); exact HO140.out) hb); have n10_ := Az0.mk (Kd.R_elder' (by (with_reducible repeat (first | apply Kd.R_alloc | apply Kd.R_drewN | apply Kd.R_drew)); exact HO143.out) (Kd.R_base ho60) hb); have n11_ := Az0.mk (Kd.R_elder' (by (with_reducible repeat (first | apply Kd.R_alloc | apply Kd.R_drewN | apply Kd.R_drew)); exact HO152.out) (Kd.R_base ho60) hb); have n12_ := Az0.mk (Kd.R_lower (Kd.R_new' (Kd.R_new' (Kd.R_new' (Kd.R_new' (Kd.R_new' (Kd.R_new' ho60 (Kd.R_lt (by (with_reducible repeat (first | apply Kd.R_alloc | apply Kd.R_drewN | apply Kd.R_drew)); exact HO109.out))) (Kd.R_lt (by (with_reducible repeat (first | apply Kd.R_alloc | apply Kd.R_drewN | apply Kd.R_drew)); exact HO112.out))) (Kd.R_lt (by (with_reducible repeat (first | apply Kd.R_alloc | apply Kd.R_drewN | apply Kd.R_drew)); exact HO123.out))) (Kd.R_lt (by (with_reducible repeat (first | apply Kd.R_alloc | apply Kd.R_drewN | apply Kd.R_drew)); exact HO131.out))) (Kd.R_lt (by (with_reducible repeat (first | apply Kd.R_alloc | apply Kd.R_drewN | apply Kd.R_drew)); exact HO143.out))) (Kd.R_lt (by (with_reducible repeat (first | apply Kd.R_alloc | apply Kd.R_drewN | apply Kd.R_drew)); exact HO152.out))) (below_size (by repeat (first | (with_reducible first | exact HB.out | apply baA_ | apply pbN_ | apply bD1_ | refine below_set ?_ GE136.out | refine below_set ?_ GE137.out | refine below_set ?_ GE148.out | refine below_set ?_ GE149.out) | exact HB.out)))); have n13_ := Az0.mk (blk_below (g := gb136) (o := .cells #[.slice Ao37 t129.length co37, .int .i64 t132] 26 (0, 0)) (by (with_reducible repeat (first | refine blk_drewN ?_ _ | refine blk_drew ?_ | refine blk_alloc ?_ _)); exact BK136.out) hb); have n14_ := Az0.mk (blk_below (g := gb137) (o := .cells #[.int .i64 t133, .int .i64 t134] 28 (0, 0)) (by (with_reducible repeat (first | refine blk_drewN ?_ _ | refine blk_drew ?_ | refine blk_alloc ?_ _)); exact BK137.out) hb); have n15_ := Az0.mk (blk_below (g := gb148) (o := .cells #[.slice Ao47 t141.length co47, .int .i64 t144] 26 (0, 0)) (by (with_reducible repeat (first | refine blk_drewN ?_ _ | refine blk_drew ?_ | refine blk_alloc ?_ _)); exact BK148.out) hb); have n16_ := Az0.mk (blk_below (g := gb149) (o := .cells #[.int .i64 t145, .int .i64 t146] 28 (0, 0)) (by (with_reducible repeat (first | refine blk_drewN ?_ _ | refine blk_drew ?_ | refine blk_alloc ?_ _)); exact BK149.out) hb); have n17_ := Az0.mk (below_step (by repeat (first | (with_reducible first | exact HB.out | apply baA_ | apply pbN_ | apply bD1_ | refine below_set ?_ GE136.out | refine below_set ?_ GE137.out | refine below_set ?_ GE148.out | refine below_set ?_ GE149.out) | exact HB.out)) hb); clear HO103; clear HO106; clear HO109; clear HO112; clear HO117; clear HO120; clear HO123; clear HO128; clear HO131; clear HO140; clear HO143; clear HO152; clear BK136; clear BK137; clear BK148; clear BK149; clear HB; have HO103 := n0_; have HO106 := n1_; have HO109 := n2_; have HO112 := n3_; have HO117 := n4_; have HO120 := n5_; have HO123 := n6_; have HO128 := n7_; have HO131 := n8_; have HO140 := n9_; have HO143 := n10_; have HO152 := n11_; have HO156 := n12_; have BK136 := n13_; have BK137 := n14_; have BK148 := n15_; have BK149 := n16_; have HB := n17_; clear n0_ n1_ n2_ n3_ n4_ n5_ n6_ n7_ n8_ n9_ n10_ n11_ n12_ n13_ n14_ n15_ n16_ n17_; clear hb ho60; obtain ⟨Ao61, co61, eo61⟩ := Kd.R_slice HO123.out; subst eo61; obtain ⟨Ao62, co62, eo62⟩ := Kd.R_slice HO156.out; subst eo62) | (go_at_call 31; (with_reducible refine (trishawlaw02_same.calls k _ _ t121 _ _ y154 true _ ?side1 ?side2 ?side3 ?side4 A12.out).mono ?_); (case side1 => repeat (first | exact (Kd.R_reads' HO123.out).2.2 | (with_reducible refine Kd.C_alloc ?_ _) | (with_reducible refine Kd.C_drewN ?_ _) | (with_reducible refine Kd.C_drew ?_))); (case side2 => exact (Kd.R_reads' HO123.out).2.1); (case side3 => repeat (first | exact (Kd.R_reads' HO156.out).2.2 | (with_reducible refine Kd.C_alloc ?_ _) | (with_reducible refine Kd.C_drewN ?_ _) | (with_reducible refine Kd.C_drew ?_))); (case side4 => exact (Kd.R_reads' HO156.out).2.1); rintro e w' ⟨rfl, ⟨nd, rfl⟩⟩; have hcz63_0 : w59.cell? ⟨gb136, 0, none⟩ = some (.slice Ao37 t129.length co37) := (bkC BK136.out 0).trans rfl; have hcz63_1 : w59.cell? ⟨gb136, 1, none⟩ = some (.int .i64 t132) := (bkC BK136.out 1).trans rfl; have hfz63_0 := blk_frozen BK136.out 0; have hfz63_1 := blk_frozen BK136.out 1) | ((with_reducible refine gate_dst (N := 72) rfl ?_); (try (refine gate_guard (by rfl) ?_; dsimp only)); refine Kd.R_lit (Kd.int .i64) _ 3 ?hg (N := 72) ?hd (xs := ([2, 1] : List Int)) (inner := [.int .i64 2, .int .i64 1]) (ok := fun _ => True) (okp := fun _ => True) ?hr ?hp (fun _ hk => hk) trivial (Below.refl _ _) (Nat.le_refl _) (by simp) ?_; (case hd => rfl); (case hg => rfl); (case hr => first | (go_simp; done) | (go_simp; rfl)); (case hp => exact (Reps.one (show Kd.M (Kd.int .i64) _ _ _ 2 [.int .i64 2] from rfl) (Reps.one (show Kd.M (Kd.int .i64) _ _ _ 1 [.int .i64 1] from rfl) (Reps.none _ _)))); intro v159 w64 ho65 hb hg_ hnew_; clear hg_ hnew_; (first | rw [← Ny158.out] at ho65 | (simp only [Int.reduceToNat] at ho65; rw [← Ny158.out] at ho65)); have n0_ := Az0.mk (Kd.N_elder' (by (with_reducible repeat (first | apply Kd.N_alloc | apply Kd.N_drewN | apply Kd.N_drew)); exact HO103.out) (Kd.R_base ho65) hb); have n1_ := Az0.mk (Kd.N_elder' (by (with_reducible repeat (first | apply Kd.N_alloc | apply Kd.N_drewN | apply Kd.N_drew)); exact HO106.out) (Kd.R_base ho65) hb); have n2_ := Az0.mk (Kd.R_elder' (by (with_reducible repeat (first | apply Kd.R_alloc | apply Kd.R_drewN | apply Kd.R_drew)); exact HO109.out) (Kd.R_base ho65) hb); have n3_ := Az0.mk (Kd.R_elder' (by (with_reducible repeat (first | apply Kd.R_alloc | apply Kd.R_drewN | apply Kd.R_drew)); exact HO112.out) (Kd.R_base ho65) hb); have n4_ := Az0.mk (Kd.N_elder' (by (with_reducible repeat (first | apply Kd.N_alloc | apply Kd.N_drewN | apply Kd.N_drew)); exact HO117.out) (Kd.R_base ho65) hb); have n5_ := Az0.mk (Kd.N_elder' (by (with_reducible repeat (first | apply Kd.N_alloc | apply Kd.N_drewN | apply Kd.N_drew)); exact HO120.out) (Kd.R_base ho65) hb); have n6_ := Az0.mk (Kd.R_elder' (by (with_reducible repeat (first | apply Kd.R_alloc | apply Kd.R_drewN | apply Kd.R_drew)); exact HO123.out) (Kd.R_base ho65) hb); have n7_ := Az0.mk (Kd.R_below (by (with_reducible repeat (first | apply Kd.R_alloc | apply Kd.R_drewN | apply Kd.R_drew)); exact HO128.out) hb); have n8_ := Az0.mk (Kd.R_elder' (by (with_reducible repeat (first | apply Kd.R_alloc | apply Kd.R_drewN | apply Kd.R_drew)); exact HO131.out) (Kd.R_base ho65) hb); have n9_ := Az0.mk (Kd.R_below (by (with_reducible repeat (first | apply Kd.R_alloc | apply Kd.R_drewN | apply Kd.R_drew)); exact HO140.out) hb); have n10_ := Az0.mk (Kd.R_elder' (by (with_reducible repeat (first | apply Kd.R_alloc | apply Kd.R_drewN | apply Kd.R_drew)); exact HO143.out) (Kd.R_base ho65) hb); have n11_ := Az0.mk (Kd.R_elder' (by (with_reducible repeat (first | apply Kd.R_alloc | apply Kd.R_drewN | apply Kd.R_drew)); exact HO152.out) (Kd.R_base ho65) hb); have n12_ := Az0.mk (Kd.R_elder' (by (with_reducible repeat (first | apply Kd.R_alloc | apply Kd.R_drewN | apply Kd.R_drew)); exact HO156.out) (Kd.R_base ho65) hb); have n13_ := Az0.mk (Kd.R_lower (Kd.R_new' (Kd.R_new' (Kd.R_new' (Kd.R_new' (Kd.R_new' (Kd.R_new' (Kd.R_new' ho65 (Kd.R_lt (by (with_reducible repeat (first | apply Kd.R_alloc | apply Kd.R_drewN | apply Kd.R_drew)); exact HO109.out))) (Kd.R_lt (by (with_reducible repeat (first | apply Kd.R_alloc | apply Kd.R_drewN | apply Kd.R_drew)); exact HO112.out))) (Kd.R_lt (by (with_reducible repeat (first | apply Kd.R_alloc | apply Kd.R_drewN | apply Kd.R_drew)); exact HO123.out))) (Kd.R_lt (by (with_reducible repeat (first | apply Kd.R_alloc | apply Kd.R_drewN | apply Kd.R_drew)); exact HO131.out))) (Kd.R_lt (by (with_reducible repeat (first | apply Kd.R_alloc | apply Kd.R_drewN | apply Kd.R_drew)); exact HO143.out))) (Kd.R_lt (by (with_reducible repeat (first | apply Kd.R_alloc | apply Kd.R_drewN | apply Kd.R_drew)); exact HO152.out))) (Kd.R_lt (by (with_reducible repeat (first | apply Kd.R_alloc | apply Kd.R_drewN | apply Kd.R_drew)); exact HO156.out))) (below_size (by repeat (first | (with_reducible first | exact HB.out | apply baA_ | apply pbN_ | apply bD1_ | refine below_set ?_ GE136.out | refine below_set ?_ GE137.out | refine below_set ?_ GE148.out | refine below_set ?_ GE149.out) | exact HB.out)))); have n14_ := Az0.mk (blk_below (g := gb136) (o := .cells #[.slice Ao37 t129.length co37, .int .i64 t132] 26 (0, 0)) (by (with_reducible repeat (first | refine blk_drewN ?_ _ | refine blk_drew ?_ | refine blk_alloc ?_ _)); exact BK136.out) hb); have n15_ := Az0.mk (blk_below (g := gb137) (o := .cells #[.int .i64 t133, .int .i64 t134] 28 (0, 0)) (by (with_reducible repeat (first | refine blk_drewN ?_ _ | refine blk_drew ?_ | refine blk_alloc ?_ _)); exact BK137.out) hb); have n16_ := Az0.mk (blk_below (g := gb148) (o := .cells #[.slice Ao47 t141.length co47, .int .i64 t144] 26 (0, 0)) (by (with_reducible repeat (first | refine blk_drewN ?_ _ | refine blk_drew ?_ | refine blk_alloc ?_ _)); exact BK148.out) hb); have n17_ := Az0.mk (blk_below (g := gb149) (o := .cells #[.int .i64 t145, .int .i64 t146] 28 (0, 0)) (by (with_reducible repeat (first | refine blk_drewN ?_ _ | refine blk_drew ?_ | refine blk_alloc ?_ _)); exact BK149.out) hb); have n18_ := Az0.mk (below_step (by repeat (first | (with_reducible first | exact HB.out | apply baA_ | apply pbN_ | apply bD1_ | refine below_set ?_ GE136.out | refine below_set ?_ GE137.out | refine below_set ?_ GE148.out | refine below_set ?_ GE149.out) | exact HB.out)) hb); clear HO103; clear HO106; clear HO109; clear HO112; clear HO117; clear HO120; clear HO123; clear HO128; clear HO131; clear HO140; clear HO143; clear HO152; clear HO156; clear BK136; clear BK137; clear BK148; clear BK149; clear HB; have HO103 := n0_; have HO106 := n1_; have HO109 := n2_; have HO112 := n3_; have HO117 := n4_; have HO120 := n5_; have HO123 := n6_; have HO128 := n7_; have HO131 := n8_; have HO140 := n9_; have HO143 := n10_; have HO152 := n11_; have HO156 := n12_; have HO160 := n13_; have BK136 := n14_; have BK137 := n15_; have BK148 := n16_; have BK149 := n17_; have HB := n18_; clear n0_ n1_ n2_ n3_ n4_ n5_ n6_ n7_ n8_ n9_ n10_ n11_ n12_ n13_ n14_ n15_ n16_ n17_ n18_; clear hb ho65; obtain ⟨Ao66, co66, eo66⟩ := Kd.R_slice HO160.out; subst eo66) | (go_at_call 19; (with_reducible refine (trishawlaw02_parts.calls k _ _ t129 t132 _ _ y158 3 true _ ?side1 ?side2 ?side3 ?side4 A16.out).mono ?_); (case side1 => repeat (first | exact (Kd.R_reads' HO131.out).2.2 | (with_reducible refine Kd.C_alloc ?_ _) | (with_reducible refine Kd.C_drewN ?_ _) | (with_reducible refine Kd.C_drew ?_))); (case side2 => exact (Kd.R_reads' HO131.out).2.1); (case side3 => repeat (first | exact (Kd.R_reads' HO160.out).2.2 | (with_reducible refine Kd.C_alloc ?_ _) | (with_reducible refine Kd.C_drewN ?_ _) | (with_reducible refine Kd.C_drew ?_))); (case side4 => exact (Kd.R_reads' HO160.out).2.1); rintro e w67 ⟨rfl, hb⟩; have n0_ := Az0.mk (Kd.N_below (by (with_reducible repeat (first | apply Kd.N_alloc | apply Kd.N_drewN | apply Kd.N_drew)); exact HO103.out) hb); have n1_ := Az0.mk (Kd.N_below (by (with_reducible repeat (first | apply Kd.N_alloc | apply Kd.N_drewN | apply Kd.N_drew)); exact HO106.out) hb); have n2_ := Az0.mk (Kd.R_below (by (with_reducible repeat (first | apply Kd.R_alloc | apply Kd.R_drewN | apply Kd.R_drew)); exact HO109.out) hb); have n3_ := Az0.mk (Kd.R_below (by (with_reducible repeat (first | apply Kd.R_alloc | apply Kd.R_drewN | apply Kd.R_drew)); exact HO112.out) hb); have n4_ := Az0.mk (Kd.N_below (by (with_reducible repeat (first | apply Kd.N_alloc | apply Kd.N_drewN | apply Kd.N_drew)); exact HO117.out) hb); have n5_ := Az0.mk (Kd.N_below (by (with_reducible repeat (first | apply Kd.N_alloc | apply Kd.N_drewN | apply Kd.N_drew)); exact HO120.out) hb); have n6_ := Az0.mk (Kd.R_below (by (with_reducible repeat (first | apply Kd.R_alloc | apply Kd.R_drewN | apply Kd.R_drew)); exact HO123.out) hb); have n7_ := Az0.mk (Kd.R_below (by (with_reducible repeat (first | apply Kd.R_alloc | apply Kd.R_drewN | apply Kd.R_drew)); exact HO128.out) hb); have n8_ := Az0.mk (Kd.R_below (by (with_reducible repeat (first | apply Kd.R_alloc | apply Kd.R_drewN | apply Kd.R_drew)); exact HO131.out) hb); have n9_ := Az0.mk (Kd.R_below (by (with_reducible repeat (first | apply Kd.R_alloc | apply Kd.R_drewN | apply Kd.R_drew)); exact HO140.out) hb); have n10_ := Az0.mk (Kd.R_below (by (with_reducible repeat (first | apply Kd.R_alloc | apply Kd.R_drewN | apply Kd.R_drew)); exact HO143.out) hb); have n11_ := Az0.mk (Kd.R_below (by (with_reducible repeat (first | apply Kd.R_alloc | apply Kd.R_drewN | apply Kd.R_drew)); exact HO152.out) hb); have n12_ := Az0.mk (Kd.R_below (by (with_reducible repeat (first | apply Kd.R_alloc | apply Kd.R_drewN | apply Kd.R_drew)); exact HO156.out) hb); have n13_ := Az0.mk (Kd.R_below (by (with_reducible repeat (first | apply Kd.R_alloc | apply Kd.R_drewN | apply Kd.R_drew)); exact HO160.out) hb); have n14_ := Az0.mk (blk_below (g := gb136) (o := .cells #[.slice Ao37 t129.length co37, .int .i64 t132] 26 (0, 0)) (by (with_reducible repeat (first | refine blk_drewN ?_ _ | refine blk_drew ?_ | refine blk_alloc ?_ _)); exact BK136.out) hb); have n15_ := Az0.mk (blk_below (g := gb137) (o := .cells #[.int .i64 t133, .int .i64 t134] 28 (0, 0)) (by (with_reducible repeat (first | refine blk_drewN ?_ _ | refine blk_drew ?_ | refine blk_alloc ?_ _)); exact BK137.out) hb); have n16_ := Az0.mk (blk_below (g := gb148) (o := .cells #[.slice Ao47 t141.length co47, .int .i64 t144] 26 (0, 0)) (by (with_reducible repeat (first | refine blk_drewN ?_ _ | refine blk_drew ?_ | refine blk_alloc ?_ _)); exact BK148.out) hb); have n17_ := Az0.mk (blk_below (g := gb149) (o := .cells #[.int .i64 t145, .int .i64 t146] 28 (0, 0)) (by (with_reducible repeat (first | refine blk_drewN ?_ _ | refine blk_drew ?_ | refine blk_alloc ?_ _)); exact BK149.out) hb); have n18_ := Az0.mk (below_step (by repeat (first | (with_reducible first | exact HB.out | apply baA_ | apply pbN_ | apply bD1_ | refine below_set ?_ GE136.out | refine below_set ?_ GE137.out | refine below_set ?_ GE148.out | refine below_set ?_ GE149.out) | exact HB.out)) hb); clear HO103; clear HO106; clear HO109; clear HO112; clear HO117; clear HO120; clear HO123; clear HO128; clear HO131; clear HO140; clear HO143; clear HO152; clear HO156; clear HO160; clear BK136; clear BK137; clear BK148; clear BK149; clear HB; have HO103 := n0_; have HO106 := n1_; have HO109 := n2_; have HO112 := n3_; have HO117 := n4_; have HO120 := n5_; have HO123 := n6_; have HO128 := n7_; have HO131 := n8_; have HO140 := n9_; have HO143 := n10_; have HO152 := n11_; have HO156 := n12_; have HO160 := n13_; have BK136 := n14_; have BK137 := n15_; have BK148 := n16_; have BK149 := n17_; have HB := n18_; clear n0_ n1_ n2_ n3_ n4_ n5_ n6_ n7_ n8_ n9_ n10_ n11_ n12_ n13_ n14_ n15_ n16_ n17_ n18_; (try clear hb); (try clear hb2); (try clear hk); (try clear hi); have hcz68_0 : w67.cell? ⟨gb137, 0, none⟩ = some (.int .i64 t133) := (bkC BK137.out 0).trans rfl; have hcz68_1 : w67.cell? ⟨gb137, 1, none⟩ = some (.int .i64 t134) := (bkC BK137.out 1).trans rfl; have hfz68_0 := blk_frozen BK137.out 0; have hfz68_1 := blk_frozen BK137.out 1; have hcz69_0 : w67.cell? ⟨gb149, 0, none⟩ = some (.int .i64 t145) := (bkC BK149.out 0).trans rfl; have hcz69_1 : w67.cell? ⟨gb149, 1, none⟩ = some (.int .i64 t146) := (bkC BK149.out 1).trans rfl; have hfz69_0 := blk_frozen BK149.out 0; have hfz69_1 := blk_frozen BK149.out 1))
           go_ret
           exact ⟨by first | rfl | (simp [errW_none, errW_some] <;> rfl) | (simp [*, errW_none, errW_some] <;> rfl), by repeat (first | (with_reducible first | exact HB.out | apply baA_ | apply pbN_ | apply bD1_ | refine below_set ?_ GE136.out | refine below_set ?_ GE137.out | refine below_set ?_ GE148.out | refine below_set ?_ GE149.out) | exact HB.out)⟩
          ·rw [if_neg c19] at H
           exact absurd ((Option.some.inj H).trans HRT.out) (by decide)
         ·rw [if_neg c18] at H
          exact absurd ((Option.some.inj H).trans HRT.out) (by decide)
        ·replace c17 := Bool.eq_false_iff.mpr c17
         subst c17
         have H1 : (some false) = some r := by rw [if_neg (show ¬ (false = true) by decide)] at H; exact H
         exact absurd ((Option.some.inj H1).trans HRT.out) (by decide)
       ·rw [if_neg c15] at H
        exact absurd ((Option.some.inj H).trans HRT.out) (by decide)
      ·rw [if_neg c14] at H
       exact absurd ((Option.some.inj H).trans HRT.out) (by decide)
     ·replace c13 := Bool.eq_false_iff.mpr c13
      subst c13
      have H1 : (some false) = some r := by rw [if_neg (show ¬ (false = true) by decide)] at H; exact H
      exact absurd ((Option.some.inj H1).trans HRT.out) (by decide)
    ·rw [if_neg c11] at H
     exact absurd ((Option.some.inj H).trans HRT.out) (by decide)
   ·rw [if_neg c10] at H
    exact absurd ((Option.some.inj H).trans HRT.out) (by decide)
  ·replace c9 := Bool.eq_false_iff.mpr c9
   subst c9
   have H1 : (some false) = some r := by rw [if_neg (show ¬ (false = true) by decide)] at H; exact H
   exact absurd ((Option.some.inj H1).trans HRT.out) (by decide)
 ·rw [if_neg c7] at H
  exact absurd ((Option.some.inj H).trans HRT.out) (by decide)
end Go.Proofs.Ytjgbdicbdlollaa.B
namespace Go.Proofs.Ytjgbdicbdlollaa.B
open Go.RowKit Go.Proofs.YtjgbdicbdlollaaW.PrintWords Go.Proofs.YtjgbdicbdlollaaW.PrintLast Go.Proofs.YtjgbdicbdlollaaW.PrintMore
attribute [local go_sem] max2_int min2_int max_two min_two max_three min_three max_four min_four   -- for this text's walks alone
set_option linter.unusedVariables false
set_option linter.unusedSimpArgs false
mutual
def trishawlaw02_few.l0 : Nat → List Int → Int → List (List Int) → List (List Int) → Option (Bool)
  | 0, _, _, _, _ => none
  | k + 1, x1, x5, x102000, x102001 => if x5 < (x102000.length : Int) then (if x5 ≥ 20 then (some false) else (if 0 ≤ x5 then (if ((rd_L12 x102000 x5).length : Int) > 20 then (some false) else (trishawlaw02_few.l0 k x1 (wrap64 (x5 + 1)) x102000 x102001)) else (none))) else (trishawlaw02_few.l1 k x1 0 x102000 x102001)
def trishawlaw02_few.l1 : Nat → List Int → Int → List (List Int) → List (List Int) → Option (Bool)
  | 0, _, _, _, _ => none
  | k + 1, x1, x6, x102000, x102001 => if x6 < (x102001.length : Int) then (if x6 ≥ 20 then (some false) else (if 0 ≤ x6 then (if ((rd_L12 x102001 x6).length : Int) > 20 then (some false) else (trishawlaw02_few.l1 k x1 (wrap64 (x6 + 1)) x102000 x102001)) else (none))) else (some (decide ((x1.length : Int) ≤ 20)))
end
def trishawlaw02_few.f (k : Nat) (l0_0 : List (List Int)) (l0_1 : List (List Int)) (l1 : List Int) : Option (Bool) := trishawlaw02_few.l0 k l1 0 l0_0 l0_1
set_option maxHeartbeats 8000000 in
set_option maxRecDepth 100000 in
theorem trishawlaw02_few.calls (k : Nat) (A0_0 : Option Addr) (c0_0 : Nat) (l0_0 : List (List Int)) (A0_1 : Option Addr) (c0_1 : Nat) (l0_1 : List (List Int)) (A1 : Option Addr) (c1 : Nat) (l1 : List Int) (r : Bool) (w : World) (hr0_0 : Kd.C (Kd.slice 3 (Kd.int .i64)) w A0_0 l0_0.length l0_0) (hc0_0 : l0_0.length ≤ c0_0) (hr0_1 : Kd.C (Kd.slice 3 (Kd.int .i64)) w A0_1 l0_1.length l0_1) (hc0_1 : l0_1.length ≤ c0_1) (hr1 : Kd.C (Kd.int .i64) w A1 l1.length l1) (hc1 : l1.length ≤ c1) (h : trishawlaw02_few.f k l0_0 l0_1 l1 = some r) :
  Calls Try.prog 24 #[.agg #[.slice A0_0 l0_0.length c0_0, .slice A0_1 l0_1.length c0_1], .slice A1 l1.length c1] w fun e w' => e = .returned (.bool r) ∧ Below w.heap.size w w' := by
 have hu41 := Try.underlying41
 have HR0_0 := Az0.mk hr0_0
 have HC0_0 := Az0.mk hc0_0
 clear hr0_0 hc0_0
 have HR0_1 := Az0.mk hr0_1
 have HC0_1 := Az0.mk hc0_1
 clear hr0_1 hc0_1
 have HR1 := Az0.mk hr1
 have HC1 := Az0.mk hc1
 clear hr1 hc1
 have HB := Az0.mk (Below.refl w.heap.size w)
 have H : (trishawlaw02_few.l0 k l1 0 l0_0 l0_1) = some r := h
 clear h
 have H' := Az0.mk H
 clear H
 go_enter Try.func24, Try.ntmps24
 go_wp2_with (first | ((with_reducible refine gate_dst (N := 2) rfl ?_); (try (refine gate_guard (by rfl) ?_; dsimp only)); refine box_event ?hg (N := 2) ?hd (cs := #[.slice A0_0 l0_0.length c0_0, .slice A0_1 l0_1.length c0_1]) (t := 41) ?hr ?_; (case hd => rfl); (case hg => rfl); (case hr => first | (go_simp; done) | (go_simp; rfl)); intro gb101 hg w3 hbox hb; have n0_ := Az0.mk (below_step (by repeat (first | (with_reducible first | exact HB.out | apply baA_ | apply pbN_ | apply bD1_) | exact HB.out)) hb); have n1_ := Az0.mk (hbox); have n2_ := Az0.mk ((by rw [hg]; exact (below_size (by repeat (first | (with_reducible first | exact HB.out | apply baA_ | apply pbN_ | apply bD1_) | exact HB.out))) : w.heap.size ≤ gb101)); have n3_ := Az0.mk ((by rw [hg]; exact (below_size (by repeat (first | (with_reducible first | exact HB.out | apply baA_ | apply pbN_ | apply bD1_) | exact HB.out))) : w.heap.size ≤ gb101)); clear HB; have HB := n0_; have BK101 := n1_; have GW101 := n2_; have GE101 := n3_; clear n0_ n1_ n2_ n3_; clear hb hbox hg))
 go_loopg [5] k (fun kq v5 w' => ∃ (x5_1 : Int), v5 = .int .i64 x5_1 ∧ Az0 (trishawlaw02_few.l0 kq l1 x5_1 l0_0 l0_1 = some r) ∧ Az0 (kq ≤ k) ∧ Az0 (w'.heap[gb101]? = some (.cells #[(.slice A0_0 l0_0.length c0_0), (.slice A0_1 l0_1.length c0_1)] 41 (0, 0))) ∧ Az0 (Below w.heap.size w w'))
 case atStart => exact ⟨(0), (by first | rfl | (simp; done) | (simp [*]; done)), H', ⟨Nat.le_refl _⟩, ⟨by (with_reducible repeat (first | refine blk_drewN ?_ _ | refine blk_drew ?_ | refine blk_alloc ?_ _)); exact BK101.out⟩, ⟨by repeat (first | (with_reducible first | exact HB.out | apply baA_ | apply pbN_ | apply bD1_ | refine below_set ?_ GE101.out) | exact HB.out)⟩⟩
 case round =>
  clear H'
  try clear c1
  try clear c2
  try clear p2
  obtain ⟨x5_1, rfl, HA, HK1, BK101, HB⟩ := hrel
  cases gk with
  | zero => exact absurd HA.out (by simp [trishawlaw02_few.l0])
  | succ k1 =>
   have H := HA.out
   clear HA
   simp only [trishawlaw02_few.l0] at H
   by_cases c4 : x5_1 < (l0_0.length : Int)
   ·rw [if_pos c4] at H
    have c4b0 : decide (x5_1 < (l0_0.length : Int)) = true := decide_eq_true c4
    clear c4
    by_cases c5 : x5_1 ≥ 20
    ·rw [if_pos c5] at H
     have c5b0 : decide (20 ≤ x5_1) = true := decide_eq_true c5
     clear c5
     obtain rfl := Option.some.inj H
     have hcz6_0 : wr.cell? ⟨gb101, 0, none⟩ = some (.slice A0_0 l0_0.length c0_0) := (bkC BK101.out 0).trans rfl
     have hcz6_1 : wr.cell? ⟨gb101, 1, none⟩ = some (.slice A0_1 l0_1.length c0_1) := (bkC BK101.out 1).trans rfl
     have hfz6_0 := blk_frozen BK101.out 0
     have hfz6_1 := blk_frozen BK101.out 1
     go_wp2
     go_ret
     exact ⟨by first | rfl | (simp [errW_none, errW_some] <;> rfl) | (simp [*, errW_none, errW_some] <;> rfl), by repeat (first | (with_reducible first | exact HB.out | apply baA_ | apply pbN_ | apply bD1_ | refine below_set ?_ GE101.out) | exact HB.out)⟩
    ·rw [if_neg c5] at H
     have c5b0 : decide (20 ≤ x5_1) = false := decide_eq_false c5
     clear c5
     by_cases c7 : 0 ≤ x5_1
     ·rw [if_pos c7] at H
      have c7b0 : decide (0 ≤ x5_1) = true := decide_eq_true c7
      clear c7
      by_cases c8 : ((rd_L12 l0_0 x5_1).length : Int) > 20
      ·rw [if_pos c8] at H
       have c8b0 : decide (20 < ((rd_L12 l0_0 x5_1).length : Int)) = true := decide_eq_true c8
       have c8b1 : decide (20 < (rd_L12 l0_0 x5_1).length) = true := decide_eq_true (by omega)
       clear c8
       obtain rfl := Option.some.inj H
       have hcz9_0 : wr.cell? ⟨gb101, 0, none⟩ = some (.slice A0_0 l0_0.length c0_0) := (bkC BK101.out 0).trans rfl
       have hcz9_1 : wr.cell? ⟨gb101, 1, none⟩ = some (.slice A0_1 l0_1.length c0_1) := (bkC BK101.out 1).trans rfl
       have hfz9_0 := blk_frozen BK101.out 0
       have hfz9_1 := blk_frozen BK101.out 1
       have p102 : 0 ≤ (x5_1 : Int) := of_decide_eq_true (by first | (with_reducible assumption) | assumption)
       have q102 : x5_1 < (l0_0.length : Int) := of_decide_eq_true (by first | (with_reducible assumption) | assumption)
       obtain ⟨ad102, A102_0, c102_0, e102, hx102_0, hl102_0, hi102_0⟩ := at_L12 HR0_0.out x5_1 p102 q102
       cases e102
       replace hx102_0 := (HB.out.cell (World.block_lt_of_cell? w _ hx102_0)).trans hx102_0
       have HR102_0 := Az0.mk hi102_0
       have HC102_0 := Az0.mk hl102_0
       clear hi102_0 hl102_0
       replace p102 := eq_true p102
       replace q102 := eq_true q102
       go_wp2
       go_ret
       exact ⟨by first | rfl | (simp [errW_none, errW_some] <;> rfl) | (simp [*, errW_none, errW_some] <;> rfl), by repeat (first | (with_reducible first | exact HB.out | apply baA_ | apply pbN_ | apply bD1_ | refine below_set ?_ GE101.out) | exact HB.out)⟩
      ·rw [if_neg c8] at H
       have c8b0 : decide (20 < ((rd_L12 l0_0 x5_1).length : Int)) = false := decide_eq_false c8
       have c8b1 : decide (20 < (rd_L12 l0_0 x5_1).length) = false := decide_eq_false (by omega)
       clear c8
       have H' := Az0.mk H
       clear H
       have hcz10_0 : wr.cell? ⟨gb101, 0, none⟩ = some (.slice A0_0 l0_0.length c0_0) := (bkC BK101.out 0).trans rfl
       have hcz10_1 : wr.cell? ⟨gb101, 1, none⟩ = some (.slice A0_1 l0_1.length c0_1) := (bkC BK101.out 1).trans rfl
       have hfz10_0 := blk_frozen BK101.out 0
       have hfz10_1 := blk_frozen BK101.out 1
       have p102 : 0 ≤ (x5_1 : Int) := of_decide_eq_true (by first | (with_reducible assumption) | assumption)
       have q102 : x5_1 < (l0_0.length : Int) := of_decide_eq_true (by first | (with_reducible assumption) | assumption)
       obtain ⟨ad102, A102_0, c102_0, e102, hx102_0, hl102_0, hi102_0⟩ := at_L12 HR0_0.out x5_1 p102 q102
       cases e102
       replace hx102_0 := (HB.out.cell (World.block_lt_of_cell? w _ hx102_0)).trans hx102_0
       have HR102_0 := Az0.mk hi102_0
       have HC102_0 := Az0.mk hl102_0
       clear hi102_0 hl102_0
       replace p102 := eq_true p102
       replace q102 := eq_true q102
       go_wp2
       go_roundg k1
       case measure => have := HK1.out; omega
       case rel => exact ⟨(wrap64 (x5_1 + 1)), (by first | rfl | (simp; done) | (simp [*]; done)), H', ⟨by have := HK1.out; omega⟩, ⟨by (with_reducible repeat (first | refine blk_drewN ?_ _ | refine blk_drew ?_ | refine blk_alloc ?_ _)); exact BK101.out⟩, ⟨by repeat (first | (with_reducible first | exact HB.out | apply baA_ | apply pbN_ | apply bD1_ | refine below_set ?_ GE101.out) | exact HB.out)⟩⟩
     ·rw [if_neg c7] at H
      exact absurd H (by simp)
   ·rw [if_neg c4] at H
    have c4b0 : decide (x5_1 < (l0_0.length : Int)) = false := decide_eq_false c4
    clear c4
    have H' := Az0.mk H
    clear H
    have hcz11_0 : wr.cell? ⟨gb101, 0, none⟩ = some (.slice A0_0 l0_0.length c0_0) := (bkC BK101.out 0).trans rfl
    have hcz11_1 : wr.cell? ⟨gb101, 1, none⟩ = some (.slice A0_1 l0_1.length c0_1) := (bkC BK101.out 1).trans rfl
    have hfz11_0 := blk_frozen BK101.out 0
    have hfz11_1 := blk_frozen BK101.out 1
    go_wp2
    go_loopg [6] k1 (fun kq v6 w' => ∃ (x6_2 : Int), v6 = .int .i64 x6_2 ∧ Az0 (trishawlaw02_few.l1 kq l1 x6_2 l0_0 l0_1 = some r) ∧ Az0 (kq ≤ k1) ∧ Az0 (w'.heap[gb101]? = some (.cells #[(.slice A0_0 l0_0.length c0_0), (.slice A0_1 l0_1.length c0_1)] 41 (0, 0))) ∧ Az0 (Below w.heap.size w w'))
    case atStart => exact ⟨(0), (by first | rfl | (simp; done) | (simp [*]; done)), H', ⟨Nat.le_refl _⟩, ⟨by (with_reducible repeat (first | refine blk_drewN ?_ _ | refine blk_drew ?_ | refine blk_alloc ?_ _)); exact BK101.out⟩, ⟨by repeat (first | (with_reducible first | exact HB.out | apply baA_ | apply pbN_ | apply bD1_ | refine below_set ?_ GE101.out) | exact HB.out)⟩⟩
    case round =>
     clear H'
     try clear c1
     try clear p1
     try clear q1
     try clear hx1
     try clear c2
     try clear p2
     try clear c4
     try clear c4b0
     try clear c5
     try clear c5b0
     try clear p6
     try clear c7
     try clear c7b0
     try clear c8
     try clear c8b0
     try clear c8b1
     try clear c10
     try clear p10
     try clear q10
     try clear hx10
     try clear hcz10_0
     try clear hcz10_1
     try clear hcz11_0
     try clear hcz11_1
     try clear hcz6_0
     try clear hcz6_1
     try clear hcz9_0
     try clear hcz9_1
     try clear hfz10_0
     try clear hfz10_1
     try clear hfz11_0
     try clear hfz11_1
     try clear hfz6_0
     try clear hfz6_1
     try clear hfz9_0
     try clear hfz9_1
     try clear hx102_0
     try clear p102
     try clear p2
     try clear q102
     obtain ⟨x6_2, rfl, HA, HK2, BK101, HB⟩ := hrel
     cases gk with
     | zero => exact absurd HA.out (by simp [trishawlaw02_few.l1])
     | succ k2 =>
      have H := HA.out
      clear HA
      simp only [trishawlaw02_few.l1] at H
      by_cases c12 : x6_2 < (l0_1.length : Int)
      ·rw [if_pos c12] at H
       have c12b0 : decide (x6_2 < (l0_1.length : Int)) = true := decide_eq_true c12
       clear c12
       by_cases c13 : x6_2 ≥ 20
       ·rw [if_pos c13] at H
        have c13b0 : decide (20 ≤ x6_2) = true := decide_eq_true c13
        clear c13
        obtain rfl := Option.some.inj H
        have hcz14_0 : wr.cell? ⟨gb101, 0, none⟩ = some (.slice A0_0 l0_0.length c0_0) := (bkC BK101.out 0).trans rfl
        have hcz14_1 : wr.cell? ⟨gb101, 1, none⟩ = some (.slice A0_1 l0_1.length c0_1) := (bkC BK101.out 1).trans rfl
        have hfz14_0 := blk_frozen BK101.out 0
        have hfz14_1 := blk_frozen BK101.out 1
        go_wp2
        go_ret
        exact ⟨by first | rfl | (simp [errW_none, errW_some] <;> rfl) | (simp [*, errW_none, errW_some] <;> rfl), by repeat (first | (with_reducible first | exact HB.out | apply baA_ | apply pbN_ | apply bD1_ | refine below_set ?_ GE101.out) | exact HB.out)⟩
       ·rw [if_neg c13] at H
        have c13b0 : decide (20 ≤ x6_2) = false := decide_eq_false c13
        clear c13
        by_cases c15 : 0 ≤ x6_2
        ·rw [if_pos c15] at H
         have c15b0 : decide (0 ≤ x6_2) = true := decide_eq_true c15
         clear c15
         by_cases c16 : ((rd_L12 l0_1 x6_2).length : Int) > 20
         ·rw [if_pos c16] at H
          have c16b0 : decide (20 < ((rd_L12 l0_1 x6_2).length : Int)) = true := decide_eq_true c16
          have c16b1 : decide (20 < (rd_L12 l0_1 x6_2).length) = true := decide_eq_true (by omega)
          clear c16
          obtain rfl := Option.some.inj H
          have hcz17_0 : wr.cell? ⟨gb101, 0, none⟩ = some (.slice A0_0 l0_0.length c0_0) := (bkC BK101.out 0).trans rfl
          have hcz17_1 : wr.cell? ⟨gb101, 1, none⟩ = some (.slice A0_1 l0_1.length c0_1) := (bkC BK101.out 1).trans rfl
          have hfz17_0 := blk_frozen BK101.out 0
          have hfz17_1 := blk_frozen BK101.out 1
          have p103 : 0 ≤ (x6_2 : Int) := of_decide_eq_true (by first | (with_reducible assumption) | assumption)
          have q103 : x6_2 < (l0_1.length : Int) := of_decide_eq_true (by first | (with_reducible assumption) | assumption)
          obtain ⟨ad103, A103_0, c103_0, e103, hx103_0, hl103_0, hi103_0⟩ := at_L12 HR0_1.out x6_2 p103 q103
          cases e103
          replace hx103_0 := (HB.out.cell (World.block_lt_of_cell? w _ hx103_0)).trans hx103_0
          have HR103_0 := Az0.mk hi103_0
          have HC103_0 := Az0.mk hl103_0
          clear hi103_0 hl103_0
          replace p103 := eq_true p103
          replace q103 := eq_true q103
          go_wp2
          go_ret
          exact ⟨by first | rfl | (simp [errW_none, errW_some] <;> rfl) | (simp [*, errW_none, errW_some] <;> rfl), by repeat (first | (with_reducible first | exact HB.out | apply baA_ | apply pbN_ | apply bD1_ | refine below_set ?_ GE101.out) | exact HB.out)⟩
         ·rw [if_neg c16] at H
          have c16b0 : decide (20 < ((rd_L12 l0_1 x6_2).length : Int)) = false := decide_eq_false c16
          have c16b1 : decide (20 < (rd_L12 l0_1 x6_2).length) = false := decide_eq_false (by omega)
          clear c16
          have H' := Az0.mk H
          clear H
          have hcz18_0 : wr.cell? ⟨gb101, 0, none⟩ = some (.slice A0_0 l0_0.length c0_0) := (bkC BK101.out 0).trans rfl
          have hcz18_1 : wr.cell? ⟨gb101, 1, none⟩ = some (.slice A0_1 l0_1.length c0_1) := (bkC BK101.out 1).trans rfl
          have hfz18_0 := blk_frozen BK101.out 0
          have hfz18_1 := blk_frozen BK101.out 1
          have p103 : 0 ≤ (x6_2 : Int) := of_decide_eq_true (by first | (with_reducible assumption) | assumption)
          have q103 : x6_2 < (l0_1.length : Int) := of_decide_eq_true (by first | (with_reducible assumption) | assumption)
          obtain ⟨ad103, A103_0, c103_0, e103, hx103_0, hl103_0, hi103_0⟩ := at_L12 HR0_1.out x6_2 p103 q103
          cases e103
          replace hx103_0 := (HB.out.cell (World.block_lt_of_cell? w _ hx103_0)).trans hx103_0
          have HR103_0 := Az0.mk hi103_0
          have HC103_0 := Az0.mk hl103_0
          clear hi103_0 hl103_0
          replace p103 := eq_true p103
          replace q103 := eq_true q103
          go_wp2
          go_roundg k2
          case measure => have := HK1.out; have := HK2.out; omega
          case rel => exact ⟨(wrap64 (x6_2 + 1)), (by first | rfl | (simp; done) | (simp [*]; done)), H', ⟨by have := HK1.out; have := HK2.out; omega⟩, ⟨by (with_reducible repeat (first | refine blk_drewN ?_ _ | refine blk_drew ?_ | refine blk_alloc ?_ _)); exact BK101.out⟩, ⟨by repeat (first | (with_reducible first | exact HB.out | apply baA_ | apply pbN_ | apply bD1_ | refine below_set ?_ GE101.out) | exact HB.out)⟩⟩
        ·rw [if_neg c15] at H
         exact absurd H (by simp)
      ·rw [if_neg c12] at H
       have c12b0 : decide (x6_2 < (l0_1.length : Int)) = false := decide_eq_false c12
       clear c12
       obtain rfl := Option.some.inj H
       have hcz19_0 : wr.cell? ⟨gb101, 0, none⟩ = some (.slice A0_0 l0_0.length c0_0) := (bkC BK101.out 0).trans rfl
       have hcz19_1 : wr.cell? ⟨gb101, 1, none⟩ = some (.slice A0_1 l0_1.length c0_1) := (bkC BK101.out 1).trans rfl
       have hfz19_0 := blk_frozen BK101.out 0
       have hfz19_1 := blk_frozen BK101.out 1
       go_wp2
       go_ret
       exact ⟨by first | rfl | (simp [errW_none, errW_some] <;> rfl) | (simp [*, errW_none, errW_some] <;> rfl), by repeat (first | (with_reducible first | exact HB.out | apply baA_ | apply pbN_ | apply bD1_ | refine below_set ?_ GE101.out) | exact HB.out)⟩
end Go.Proofs.Ytjgbdicbdlollaa.B
namespace Go.Proofs.Ytjgbdicbdlollaa.B
open Go.RowKit Go.Proofs.YtjgbdicbdlollaaW.PrintWords Go.Proofs.YtjgbdicbdlollaaW.PrintLast Go.Proofs.YtjgbdicbdlollaaW.PrintMore
set_option linter.unusedVariables false
set_option linter.unusedSimpArgs false
/-- What the statement computes where it answers with true. -/
def trishawlaw02_JamSettled.f (k : Nat) (R T : List (List Int)) : Option Bool :=
  (trishawlaw02_few.f k R T []).bind fun fw => if fw = true then ((trishawref02_Settled.f k R T).bind fun b => (jam_SettledS.f k R T).bind fun a =>
    if a = b ∧ b.1.length < 1000000 ∧ (b.1.all fun x => decide (1 ≤ x.length) && (trishawlaw02_same.f k x x == some true)) = true then (jam_Best.f k R T).bind fun p => (trishawref02_Best.f k R T).bind fun q => if p = q ∧ trishawlaw02_same.f k p.1 p.1 = some true then trishawlaw02_alive.f k else none else none) else trishawlaw02_alive.f k
theorem all_at8 (q : List Int → Bool) (L : List (List Int)) (i : Nat) (hi : i < L.length) (h : L.all q = true) : q (rd_L12 L (i : Int)) = true := by
  have := List.all_eq_true.1 h (L[i]) (List.getElem_mem hi)
  simpa [rd_L12, List.getD, List.getElem?_eq_getElem hi] using this
theorem wrap64_of {x : Int} (h0 : 0 ≤ x) (h1 : x < 1000000000) : wrap64 x = x := by
  unfold wrap64
  omega
/-- One element of rows that lie apart. -/
theorem apart_get {wa : World} {base : Nat} {ok : Nat → Prop} {ga cap : Nat} {L : List (List Int)} {f : Nat → Nat} (hS : (Kd.tag f (Kd.slice 3 (Kd.int .i64))).R 24 wa base ok (.slice (some ⟨ga, 0, none⟩) L.length cap) L.zipIdx) (i : Nat) (hi : i < L.length) (h1 : 1 ≤ (rd_L12 L (i : Int)).length) :
    ∃ gi ci : Nat, wa.cell? ⟨ga, i, none⟩ = some (.slice (some ⟨gi, 0, none⟩) (rd_L12 L (i : Int)).length ci) ∧ (rd_L12 L (i : Int)).length ≤ ci ∧ f gi = i ∧ gi ≠ ga ∧ base ≤ gi ∧ gi < wa.heap.size ∧
      ∀ W : World, (∀ k, k < wa.heap.size → k ≠ ga → f k = i → W.heap[k]? = wa.heap[k]?) → Kd.C (Kd.int .i64) W (some ⟨gi, 0, none⟩) (rd_L12 L (i : Int)).length (rd_L12 L (i : Int)) ∧ W.cell? ⟨gi, 0, none⟩ = some (.int .i64 (rd (rd_L12 L (i : Int)) 0)) ∧ W.frozen? ⟨gi, 0, none⟩ = false := by
  obtain ⟨c, hcl, hM, hcc⟩ := Kd.R_getA hS ([], 0) (i : Int) (Int.natCast_nonneg _) (Int.ofNat_lt.2 hi)
  have hz : L.zipIdx.getD ((i : Int)).toNat ([], 0) = (rd_L12 L (i : Int), i) := by
    simp [List.getD, List.getElem?_zipIdx, List.getElem?_eq_getElem hi, rd_L12]
  rw [hz] at hM
  obtain ⟨v, rfl, hR⟩ := hM
  have hcell := hcc 0 v rfl
  obtain ⟨gi, ci, rfl, hb, hlt, cells, hblk⟩ := Kd.R_form hR (show 0 < (rd_L12 L (i : Int)).length from h1)
  have hok := hR.1 gi (by simp [Value.ownBlock])
  obtain ⟨⟨_, hne⟩, hf⟩ := hok
  have hne2 : gi ≠ ga := fun e => hne (by rw [e]; simp [Value.ownBlock])
  have hrd := Kd.R_reads' hR
  refine ⟨gi, ci, ?_, hrd.2.1, hf, hne2, hb, hlt, fun W hW => ?_⟩
  · rw [add_plain] at hcell
    have e : ((i : Int)).toNat * (Kd.tag f (Kd.slice 3 (Kd.int .i64))).sz + 0 = i := by
      show ((i : Int)).toNat * 1 + 0 = i
      omega
    rw [e] at hcell
    exact hcell
  · have hR2 := Kd.R_step (w1 := W) hR (fun k hk hlt => hW k hlt (fun e => hk.1.2 (by rw [e]; simp [Value.ownBlock])) hk.2)
    have hc := Kd.R_celln 0 hR2 (0 : Int) (Int.le_refl _) (Int.ofNat_lt.2 (show 0 < (rd_L12 L (i : Int)).length from h1))
    exact ⟨(Kd.R_reads' hR2).2.2, hc.1, hc.2⟩
theorem nSlice {α : Type} {d : Kd α} {e : Nat} {w : World} {base : Nat} {ok : Nat → Prop} {v : Value} {xs : List α} (h : Kd.N d e w base ok v xs) : ∃ A c, v = .slice A xs.length c := by
  obtain ⟨A, c, he, _⟩ := Kd.N_reads h
  exact ⟨A, c, he⟩
theorem nReads {α : Type} {d : Kd α} {e : Nat} {w : World} {base : Nat} {ok : Nat → Prop} {A : Option Addr} {n c : Nat} {xs : List α} (h : Kd.N d e w base ok (.slice A n c) xs) : n ≤ c ∧ d.C w A n xs := by
  obtain ⟨rfl, hc, hC⟩ := Kd.N_reads' h
  exact ⟨hc, hC⟩
set_option maxHeartbeats 4000000 in
set_option maxRecDepth 100000 in
theorem trishawlaw02_JamSettled.calls (k : Nat) (A0_0 : Option Addr) (c0_0 : Nat) (l0_0 : List (List Int)) (A0_1 : Option Addr) (c0_1 : Nat) (l0_1 : List (List Int)) (r : Bool) (w : World) (hr0_0 : Kd.C (Kd.slice 3 (Kd.int .i64)) w A0_0 l0_0.length l0_0) (hc0_0 : l0_0.length ≤ c0_0) (hr0_1 : Kd.C (Kd.slice 3 (Kd.int .i64)) w A0_1 l0_1.length l0_1) (hc0_1 : l0_1.length ≤ c0_1) (h : trishawlaw02_JamSettled.f k l0_0 l0_1 = some r) (hrt : r = true) :
  Calls Try.prog 9 #[.agg #[.slice A0_0 l0_0.length c0_0, .slice A0_1 l0_1.length c0_1]] w fun e w' => e = .returned (.bool r) ∧ Below w.heap.size w w' := by
 subst hrt
 have hu41 := Try.underlying41
 have HR0 := Az0.mk hr0_0
 have HC0 := Az0.mk hc0_0
 have HR1 := Az0.mk hr0_1
 have HC1 := Az0.mk hc0_1
 clear hr0_0 hc0_0 hr0_1 hc0_1
 have HB := Az0.mk (Below.refl w.heap.size w)
 unfold trishawlaw02_JamSettled.f at h
 obtain ⟨fw, hfw, h⟩ := Option.bind_eq_some_iff.1 h
 have HFW := Az0.mk hfw
 clear hfw
 cases fw with
 | false =>
  rw [if_neg Bool.false_ne_true] at h
  have HA := Az0.mk h
  clear h
  go_enter Try.func9, Try.ntmps9
  go_wp2_with (first | ((with_reducible refine gate_dst (N := 1) rfl ?_); refine box_event ?hg (N := 1) ?hd (cs := #[.slice A0_0 l0_0.length c0_0, .slice A0_1 l0_1.length c0_1]) (t := 41) ?hr ?_; (case hd => rfl); (case hg => rfl); (case hr => first | (go_simp; done) | (go_simp; rfl)); intro gb hg w1 hbox hb; have BB := Az0.mk hbox; have n0_ := Az0.mk (below_step HB.out hb); clear HB; have HB := n0_; clear n0_ hg hbox hb; have hb_0 : w1.cell? ⟨gb, 0, none⟩ = some (.slice A0_0 l0_0.length c0_0) := (bkC BB.out 0).trans rfl; have hb_1 : w1.cell? ⟨gb, 1, none⟩ = some (.slice A0_1 l0_1.length c0_1) := (bkC BB.out 1).trans rfl) | ((with_reducible refine gate_callee (f := 24) rfl ?_); refine goesL_ (some 15) rfl rfl Try.func24 (by kernel_rfl) rfl #[.agg #[.slice A0_0 l0_0.length c0_0, .slice A0_1 l0_1.length c0_1], .slice none 0 0] rfl (by (try simp only [List.map_toArray, List.map_cons, List.map_nil]); first | done | rfl) ?_; refine (trishawlaw02_few.calls k A0_0 c0_0 l0_0 A0_1 c0_1 l0_1 none 0 [] false _ (Kd.C_below HR0.out HB.out) HC0.out (Kd.C_below HR1.out HB.out) HC1.out (Kd.C_nil _ _) (Nat.le_refl _) HFW.out).mono ?_; rintro e w2 ⟨rfl, hb⟩; refine ⟨_, rfl, ?_⟩; have n0_ := Az0.mk (below_step HB.out hb); have n1_ := Az0.mk (blk_below BB.out hb); clear HB BB hb_0 hb_1; have HB := n0_; have BB := n1_; clear n0_ n1_ hb; have hb_0 : w2.cell? ⟨gb, 0, none⟩ = some (.slice A0_0 l0_0.length c0_0) := (bkC BB.out 0).trans rfl; have hb_1 : w2.cell? ⟨gb, 1, none⟩ = some (.slice A0_1 l0_1.length c0_1) := (bkC BB.out 1).trans rfl) | ((with_reducible refine gate_callee (f := 16) rfl ?_); refine goesL_ (some 17) rfl rfl Try.func16 (by kernel_rfl) rfl #[] rfl (by (try simp only [List.map_toArray, List.map_cons, List.map_nil]); first | done | rfl) ?_; refine (trishawlaw02_alive.calls k true _ HA.out).mono ?_; rintro e w3 ⟨rfl, hb⟩; refine ⟨_, rfl, ?_⟩; have n0_ := Az0.mk (below_step HB.out hb); have n1_ := Az0.mk (blk_below BB.out hb); clear HB BB hb_0 hb_1; have HB := n0_; have BB := n1_; clear n0_ n1_ hb; have hb_0 : w3.cell? ⟨gb, 0, none⟩ = some (.slice A0_0 l0_0.length c0_0) := (bkC BB.out 0).trans rfl; have hb_1 : w3.cell? ⟨gb, 1, none⟩ = some (.slice A0_1 l0_1.length c0_1) := (bkC BB.out 1).trans rfl))
  go_ret
  exact ⟨by first | rfl | (simp; done), HB.out⟩
 | true =>
  rw [if_pos rfl] at h
  obtain ⟨⟨L, er⟩, hs, h⟩ := Option.bind_eq_some_iff.1 h
  obtain ⟨a, ha, h⟩ := Option.bind_eq_some_iff.1 h
  split at h
  case isFalse => exact absurd h (by simp)
  rename_i hc
  obtain ⟨rfl, hL, hall⟩ := hc
  obtain ⟨⟨x, n, e2⟩, hx, h⟩ := Option.bind_eq_some_iff.1 h
  obtain ⟨q, hq, h⟩ := Option.bind_eq_some_iff.1 h
  split at h
  case isFalse => exact absurd h (by simp)
  rename_i hc
  obtain ⟨rfl, hsx⟩ := hc
  have HS := Az0.mk hs
  have HA := Az0.mk ha
  have HL := Az0.mk hL
  have HALL := Az0.mk hall
  have HX := Az0.mk hx
  have HQ := Az0.mk hq
  have HSX := Az0.mk hsx
  have HAL := Az0.mk h
  clear hs ha hL hall hx hq hsx h
  go_enter Try.func9, Try.ntmps9
  go_wp2_with (first | ((with_reducible refine gate_dst (N := 1) rfl ?_); refine box_event ?hg (N := 1) ?hd (cs := #[.slice A0_0 l0_0.length c0_0, .slice A0_1 l0_1.length c0_1]) (t := 41) ?hr ?_; (case hd => rfl); (case hg => rfl); (case hr => first | (go_simp; done) | (go_simp; rfl)); intro gb hg w1 hbox hb; have BB := Az0.mk hbox; have n0_ := Az0.mk (below_step HB.out hb); clear HB; have HB := n0_; clear n0_ hg hbox hb; have hb_0 : w1.cell? ⟨gb, 0, none⟩ = some (.slice A0_0 l0_0.length c0_0) := (bkC BB.out 0).trans rfl; have hb_1 : w1.cell? ⟨gb, 1, none⟩ = some (.slice A0_1 l0_1.length c0_1) := (bkC BB.out 1).trans rfl) | ((with_reducible refine gate_callee (f := 24) rfl ?_); refine goesL_ (some 15) rfl rfl Try.func24 (by kernel_rfl) rfl #[.agg #[.slice A0_0 l0_0.length c0_0, .slice A0_1 l0_1.length c0_1], .slice none 0 0] rfl (by (try simp only [List.map_toArray, List.map_cons, List.map_nil]); first | done | rfl) ?_; refine (trishawlaw02_few.calls k A0_0 c0_0 l0_0 A0_1 c0_1 l0_1 none 0 [] true _ (Kd.C_below HR0.out HB.out) HC0.out (Kd.C_below HR1.out HB.out) HC1.out (Kd.C_nil _ _) (Nat.le_refl _) HFW.out).mono ?_; rintro e w2 ⟨rfl, hb⟩; refine ⟨_, rfl, ?_⟩; have n0_ := Az0.mk (below_step HB.out hb); have n1_ := Az0.mk (blk_below BB.out hb); clear HB BB hb_0 hb_1; have HB := n0_; have BB := n1_; clear n0_ n1_ hb; have hb_0 : w2.cell? ⟨gb, 0, none⟩ = some (.slice A0_0 l0_0.length c0_0) := (bkC BB.out 0).trans rfl; have hb_1 : w2.cell? ⟨gb, 1, none⟩ = some (.slice A0_1 l0_1.length c0_1) := (bkC BB.out 1).trans rfl) | ((with_reducible refine gate_callee (f := 36) rfl ?_); refine goesL_ (some 20) rfl rfl Try.func36 (by kernel_rfl) rfl #[.agg #[.slice A0_0 l0_0.length c0_0, .slice A0_1 l0_1.length c0_1]] rfl (by (try simp only [List.map_toArray, List.map_cons, List.map_nil]); first | done | rfl) ?_; refine (trishawref02_Settled.calls k A0_0 c0_0 l0_0 A0_1 c0_1 l0_1 L er _ (Kd.C_below HR0.out HB.out) HC0.out (Kd.C_below HR1.out HB.out) HC1.out HS.out).mono ?_; rintro e wb ⟨vb, rfl, ho, hb⟩; refine ⟨_, rfl, ?_⟩; have HN := Az0.mk ho; clear ho; obtain ⟨Ab, cb, eb⟩ := nSlice HN.out; subst eb; have n0_ := Az0.mk (below_step HB.out hb); have n1_ := Az0.mk (blk_below BB.out hb); clear HB BB hb_0 hb_1; have HB := n0_; have BB := n1_; clear n0_ n1_ hb; have hb_0 : wb.cell? ⟨gb, 0, none⟩ = some (.slice A0_0 l0_0.length c0_0) := (bkC BB.out 0).trans rfl; have hb_1 : wb.cell? ⟨gb, 1, none⟩ = some (.slice A0_1 l0_1.length c0_1) := (bkC BB.out 1).trans rfl))
  have HCB := Az0.mk (nReads HN.out)
  have HW := Az0.mk (Below.refl wb.heap.size wb)
  have HWB := Az0.mk HB.out
  have HGB := Az0.mk (blk_lt BB.out)
  clear HN
  clear hb_0 hb_1
  go_loopg [5] 2 (fun kq v5 w' => ∃ r : Nat, v5 = .int .i64 (r : Int) ∧ Az0 (r + kq = 2) ∧ Az0 (Below wb.heap.size wb w') ∧ Az0 (w'.heap[gb]? = some (.cells #[.slice A0_0 l0_0.length c0_0, .slice A0_1 l0_1.length c0_1] 41 (0, 0))))
  case atStart => exact ⟨0, rfl, ⟨rfl⟩, HW, BB⟩
  case round =>
   clear HB BB HW
   obtain ⟨r, rfl, HK, HW, BB⟩ := hrel
   have HB := Az0.mk (below_step HWB.out HW.out)
   have hb_0 : wr.cell? ⟨gb, 0, none⟩ = some (.slice A0_0 l0_0.length c0_0) := (bkC BB.out 0).trans rfl
   have hb_1 : wr.cell? ⟨gb, 1, none⟩ = some (.slice A0_1 l0_1.length c0_1) := (bkC BB.out 1).trans rfl
   have c1 : ((L.length : Int) != (L.length : Int)) = false := bne_self_eq_false _
   have c2 : ((er : Int) != er) = false := bne_self_eq_false _
   have c1b : ((L.length : Int) == (L.length : Int)) = true := beq_self_eq_true _
   have c2b : ((er : Int) == er) = true := beq_self_eq_true _
   cases gk with
   | zero =>
    have c4b : decide ((r : Int) < 2) = false := decide_eq_false (by have := HK.out; omega)
    have c4c : decide (r < 2) = false := decide_eq_false (by have := HK.out; omega)
    have cn1 : ((n : Int) == n) = true := beq_self_eq_true _
    have cn2 : ((e2 : Int) == e2) = true := beq_self_eq_true _
    go_wp2_with (first | ((with_reducible refine gate_callee (f := 27) rfl ?_); refine goesL_ (some 65) rfl rfl Try.func27 (by kernel_rfl) rfl #[.agg #[.slice A0_0 l0_0.length c0_0, .slice A0_1 l0_1.length c0_1]] rfl (by (try simp only [List.map_toArray, List.map_cons, List.map_nil]); first | done | rfl) ?_; refine (jam_Best.calls k A0_0 c0_0 l0_0 A0_1 c0_1 l0_1 x n e2 _ (Kd.C_below HR0.out HB.out) HC0.out (Kd.C_below HR1.out HB.out) HC1.out HX.out).mono ?_; rintro e wx ⟨vx, rfl, ho, hb⟩; refine ⟨_, rfl, ?_⟩; have HRX := Az0.mk ho; clear ho; obtain ⟨Ax, cx, ex⟩ := Kd.R_slice HRX.out; subst ex; have n0_ := Az0.mk (below_step HB.out hb); have n1_ := Az0.mk (blk_below BB.out hb); clear HB BB hb_0 hb_1; have HB := n0_; have BB := n1_; clear n0_ n1_ hb; have hb_0 : wx.cell? ⟨gb, 0, none⟩ = some (.slice A0_0 l0_0.length c0_0) := (bkC BB.out 0).trans rfl; have hb_1 : wx.cell? ⟨gb, 1, none⟩ = some (.slice A0_1 l0_1.length c0_1) := (bkC BB.out 1).trans rfl) | ((with_reducible refine gate_callee (f := 38) rfl ?_); refine goesL_ (some 71) rfl rfl Try.func38 (by kernel_rfl) rfl #[.agg #[.slice A0_0 l0_0.length c0_0, .slice A0_1 l0_1.length c0_1]] rfl (by (try simp only [List.map_toArray, List.map_cons, List.map_nil]); first | done | rfl) ?_; refine (trishawref02_Best.calls k A0_0 c0_0 l0_0 A0_1 c0_1 l0_1 x n e2 _ (Kd.C_below HR0.out HB.out) HC0.out (Kd.C_below HR1.out HB.out) HC1.out HQ.out).mono ?_; rintro e wy ⟨vy, rfl, ho, hb⟩; refine ⟨_, rfl, ?_⟩; have HRY := Az0.mk ho; clear ho; obtain ⟨Ay, cy, ey⟩ := Kd.R_slice HRY.out; subst ey; have HXX := Az0.mk (Kd.R_below HRX.out hb); clear HRX; have n0_ := Az0.mk (below_step HB.out hb); have n1_ := Az0.mk (blk_below BB.out hb); clear HB BB hb_0 hb_1; have HB := n0_; have BB := n1_; clear n0_ n1_ hb; have hb_0 : wy.cell? ⟨gb, 0, none⟩ = some (.slice A0_0 l0_0.length c0_0) := (bkC BB.out 0).trans rfl; have hb_1 : wy.cell? ⟨gb, 1, none⟩ = some (.slice A0_1 l0_1.length c0_1) := (bkC BB.out 1).trans rfl) | ((with_reducible refine gate_callee (f := 31) rfl ?_); refine goesL_ (some 77) rfl rfl Try.func31 (by kernel_rfl) rfl #[.slice Ax x.length cx, .slice Ay x.length cy] rfl (by (try simp only [List.map_toArray, List.map_cons, List.map_nil]); first | done | rfl) ?_; refine (trishawlaw02_same.calls k Ax cx x Ay cy x true _ (Kd.R_reads' HXX.out).2.2 (Kd.R_reads' HXX.out).2.1 (Kd.R_reads' HRY.out).2.2 (Kd.R_reads' HRY.out).2.1 HSX.out).mono ?_; rintro e wz ⟨rfl, ⟨nd, rfl⟩⟩; refine ⟨_, rfl, ?_⟩) | (go_at_call 16; (refine (trishawlaw02_alive.calls k true _ HAL.out).mono ?_); rintro e w3 ⟨rfl, hb⟩; have n0_ := Az0.mk (below_step (by repeat (first | (with_reducible first | exact HB.out | apply pbN_ | apply bD1_) | exact HB.out)) hb); clear HB; have HB := n0_; clear n0_ hb))
    go_ret
    exact ⟨by first | rfl | (simp; done), HB.out⟩
   | succ k1 =>
    have c4b : decide ((r : Int) < 2) = true := decide_eq_true (by have := HK.out; omega)
    go_wp2_with ((with_reducible refine gate_callee (f := 37) rfl ?_); refine goesL_ (some 29) rfl rfl Try.func37 (by kernel_rfl) rfl #[.agg #[.slice A0_0 l0_0.length c0_0, .slice A0_1 l0_1.length c0_1]] rfl (by (try simp only [List.map_toArray, List.map_cons, List.map_nil]); first | done | rfl) ?_; refine (jam_SettledS.calls k A0_0 c0_0 l0_0 A0_1 c0_1 l0_1 L er _ (Kd.C_below HR0.out HB.out) HC0.out (Kd.C_below HR1.out HB.out) HC1.out HA.out).mono ?_; rintro e wa ⟨va, rfl, ho, hb⟩; refine ⟨_, rfl, ?_⟩; have HSA := Az0.mk ho; have HBA := Az0.mk (show wb.heap.size ≤ wr.heap.size from HW.out.size); clear ho; obtain ⟨Aa, ca, ea⟩ := Kd.S_slice HSA.out; subst ea; have n2_ := Az0.mk (below_step HW.out hb); clear HW; have HW := n2_; clear n2_; have n0_ := Az0.mk (below_step HB.out hb); have n1_ := Az0.mk (blk_below BB.out hb); clear HB BB hb_0 hb_1; have HB := n0_; have BB := n1_; clear n0_ n1_ hb; have hb_0 : wa.cell? ⟨gb, 0, none⟩ = some (.slice A0_0 l0_0.length c0_0) := (bkC BB.out 0).trans rfl; have hb_1 : wa.cell? ⟨gb, 1, none⟩ = some (.slice A0_1 l0_1.length c0_1) := (bkC BB.out 1).trans rfl)

    obtain ⟨fA, hSA⟩ := HSA.out
    have HSF := Az0.mk hSA
    have hform := Kd.S_form HSA.out
    obtain ⟨ga, ada, had, hga⟩ : ∃ (ga : Nat) (ada : Addr), ada = ⟨ga, 0, none⟩ ∧ (0 < L.length → Aa = some ada ∧ wb.heap.size ≤ ga ∧ ga < wa.heap.size) := by
     by_cases hp : 0 < L.length
     ·obtain ⟨g, cap, he, h1, h2, _⟩ := hform hp
      injection he with e1 e2 e3
      exact ⟨g, _, rfl, fun _ => ⟨e1, Nat.le_trans HBA.out h1, h2⟩⟩
     ·exact ⟨0, _, rfl, fun h => absurd h hp⟩
    have HGA := Az0.mk hga
    have HAD := Az0.mk had
    clear hga hform hSA had
    have HW1 := Az0.mk HW.out
    clear hb_0 hb_1
    go_loopg [8] L.length (fun kq v8 w' => ∃ x : Int, v8 = .int .i64 x ∧ Az0 (x + kq = L.length ∧ 0 ≤ x) ∧ Az0 (Below wb.heap.size wb w') ∧ Az0 (w'.heap[gb]? = some (.cells #[.slice A0_0 l0_0.length c0_0, .slice A0_1 l0_1.length c0_1] 41 (0, 0))) ∧ Az0 (0 < L.length → w'.heap[ga]? = wa.heap[ga]?) ∧ Az0 (∀ k : Nat, k < wa.heap.size → k ≠ ga → x ≤ fA k → w'.heap[k]? = wa.heap[k]?))
    case atStart => exact ⟨0, rfl, ⟨Int.zero_add _, Int.le_refl _⟩, HW, BB, ⟨fun _ => rfl⟩, ⟨fun _ _ _ _ => rfl⟩⟩
    case round =>
     clear HB BB HW
     obtain ⟨x8, rfl, HKi, HW, BB, HGG, HO⟩ := hrel
     have HB := Az0.mk (below_step HWB.out HW.out)
     cases gk with
     | zero =>
      have c5b : decide (x8 < (L.length : Int)) = false := decide_eq_false (by have := HKi.out; omega)
      go_wp2
      go_roundg k1
      case measure => have := HK.out; omega
      case rel => exact ⟨r + 1, (by rw [wrap64_of (by have := HK.out; omega) (by have := HK.out; omega)]; rfl), ⟨by have := HK.out; omega⟩, HW, BB⟩
     | succ k2 =>
      have c5b : decide (x8 < (L.length : Int)) = true := decide_eq_true (by have := HKi.out; omega)
      obtain ⟨eA, hb1, hb2⟩ := HGA.out (by have := HKi.out; omega)
      subst eA
      have hi8 : x8.toNat < L.length := by have := HKi.out; omega
      have e8 : ((x8.toNat : Nat) : Int) = x8 := Int.toNat_of_nonneg HKi.out.2
      have hall := all_at8 _ L x8.toNat hi8 HALL.out
      rw [e8] at hall
      obtain ⟨h1, hsm⟩ := Bool.and_eq_true_iff.1 hall
      have hsm := eq_of_beq hsm
      have h1 := of_decide_eq_true h1
      obtain ⟨gi, ci, hcg, hci, hfi, hne, hbi, hli, hcont⟩ := apart_get (HAD.out ▸ HSF.out) x8.toNat hi8 (by rw [e8]; exact h1)
      rw [e8] at hcg hci hcont
      have hcg2 : wr.cell? (ada.add x8.toNat) = some (.slice (some ⟨gi, 0, none⟩) (rd_L12 L x8).length ci) := by
       rw [HAD.out, add_plain]
       have := HGG.out (by omega)
       rw [← hcg]
       simp [World.cell?, this]
      obtain ⟨hC, hc0, hf0⟩ := hcont wr (fun k hk hk2 hk3 => HO.out k hk hk2 (by omega))
      have HCI := Az0.mk hC
      have HLI := Az0.mk hci
      have HSM := Az0.mk hsm
      have GE := Az0.mk (show wb.heap.size ≤ gi from Nat.le_trans HBA.out hbi)
      have NEG := Az0.mk hne
      have HFI := Az0.mk hfi
      have HF1 := Az0.mk (show (0 : Int) < ((rd_L12 L x8).length : Int) by omega)
      have c6b := eq_true HF1.out
      have c6c := eq_true (show 0 < (rd_L12 L x8).length by have := HF1.out; omega)
      have c6d := eq_true (show 1 ≤ (rd_L12 L x8).length by have := HF1.out; omega)
      clear hC hci hsm hne hfi hbi hli hcont hcg hall e8 hi8 hb1 hb2 h1
      have p1 : 0 ≤ x8 := HKi.out.2
      have q1 : x8 < (L.length : Int) := of_decide_eq_true c5b
      obtain ⟨adb, A9, c9, eB, hx9, hl9, hi9⟩ := at_L12 HCB.out.2 x8 p1 q1
      subst eB
      replace hx9 := (HW.out.cell (World.block_lt_of_cell? wb _ hx9)).trans hx9
      have HC9 := Az0.mk (Kd.C_below hi9 HW.out)
      have HL9 := Az0.mk hl9
      clear hi9 hl9
      replace p1 := eq_true p1
      replace q1 := eq_true q1
      go_wp2_with (first | (go_at_call 31; (with_reducible refine (trishawlaw02_same.calls k _ _ (rd_L12 L x8) _ _ (rd_L12 L x8) true _ ?side1 ?side2 ?side3 ?side4 HSM.out).mono ?_); (case side1 => repeat (first | exact HCI.out | (with_reducible refine Kd.C_drewN ?_ _) | (with_reducible refine Kd.C_drew ?_))); (case side2 => exact HLI.out); (case side3 => repeat (first | exact HC9.out | (with_reducible refine Kd.C_drewN ?_ _) | (with_reducible refine Kd.C_drew ?_))); (case side4 => exact HL9.out); rintro e w' ⟨rfl, ⟨nd, rfl⟩⟩; (try first | exact ⟨rfl, _, World.drewN_drewN _ _ _⟩ | exact ⟨rfl, _, Eq.trans (World.drewN_drewN _ _ _) (congrArg (World.drewN _) (Nat.add_assoc _ _ _))⟩)))
      repeat (go_quiet (first | (go_at_call 31; (with_reducible refine (trishawlaw02_same.calls k _ _ (rd_L12 L x8) _ _ (rd_L12 L x8) true _ ?side1 ?side2 ?side3 ?side4 HSM.out).mono ?_); (case side1 => repeat (first | exact HCI.out | (with_reducible refine Kd.C_drewN ?_ _) | (with_reducible refine Kd.C_drew ?_))); (case side2 => exact HLI.out); (case side3 => repeat (first | exact HC9.out | (with_reducible refine Kd.C_drewN ?_ _) | (with_reducible refine Kd.C_drew ?_))); (case side4 => exact HL9.out); rintro e w' ⟨rfl, ⟨nd, rfl⟩⟩; (try first | exact ⟨rfl, _, World.drewN_drewN _ _ _⟩ | exact ⟨rfl, _, Eq.trans (World.drewN_drewN _ _ _) (congrArg (World.drewN _) (Nat.add_assoc _ _ _))⟩))); try go_wp2_with (first | (go_at_call 31; (with_reducible refine (trishawlaw02_same.calls k _ _ (rd_L12 L x8) _ _ (rd_L12 L x8) true _ ?side1 ?side2 ?side3 ?side4 HSM.out).mono ?_); (case side1 => repeat (first | exact HCI.out | (with_reducible refine Kd.C_drewN ?_ _) | (with_reducible refine Kd.C_drew ?_))); (case side2 => exact HLI.out); (case side3 => repeat (first | exact HC9.out | (with_reducible refine Kd.C_drewN ?_ _) | (with_reducible refine Kd.C_drew ?_))); (case side4 => exact HL9.out); rintro e w' ⟨rfl, ⟨nd, rfl⟩⟩; (try first | exact ⟨rfl, _, World.drewN_drewN _ _ _⟩ | exact ⟨rfl, _, Eq.trans (World.drewN_drewN _ _ _) (congrArg (World.drewN _) (Nat.add_assoc _ _ _))⟩))))
      go_roundg k2
      case measure => have := HKi.out; omega
      case rel =>
       have nb_ : gb ≠ gi := by have := HGB.out; have := GE.out; omega
       refine ⟨x8 + 1, (by rw [wrap64_of (by have := HKi.out; omega) (by have := HKi.out; have := HL.out; omega)]), ⟨by have := HKi.out; omega, by have := HKi.out; omega⟩, ⟨below_set (by repeat (first | (with_reducible first | exact HW.out | apply pbN_ | apply bD1_) | exact HW.out)) GE.out⟩, ⟨blk_far (by (with_reducible repeat (first | refine blk_drewN ?_ _ | refine blk_drew ?_)); exact BB.out) nb_ _⟩, ⟨fun hp => ?_⟩, ⟨fun k_ hk hk2 hk3 => ?_⟩⟩
       ·exact (Below.heap_setCell _ _ _ ga (fun e => NEG.out e.symm)).trans (HGG.out hp)
       ·exact (Below.heap_setCell _ _ _ k_ (fun e => by have e2 : k_ = gi := e; rw [e2, HFI.out] at hk3; have := HKi.out; omega)).trans (HO.out k_ hk hk2 (by omega))
end Go.Proofs.Ytjgbdicbdlollaa.B
namespace Go.Proofs.Ytjgbdicbdlollaa.B
open Go.RowKit Go.ChangeShapes Go.WideShapes Go.Deep Go.Proofs.YtjgbdicbdlollaaW.PrintWords Go.Proofs.YtjgbdicbdlollaaW.PrintLast Go.Proofs.YtjgbdicbdlollaaW.PrintMore
def okI (x : Int) : Prop := (Lit.int .i64 x).wf = true
def okRow (l : List Int) : Prop := l.length ≤ maxLen ∧ ∀ x ∈ l, okI x
def okRows (l : List (List Int)) : Prop := l.length ≤ maxLen ∧ ∀ x ∈ l, okRow x
section
variable {H : Type} {enc : TypeId × Value → H} {w : World} {spare : Nat → Bool} {held : Bool}
theorem open_list {α : Type} [Inhabited α] (d : Kd α) (ok : α → Prop) {t e : TypeId} (ht : Try.prog.underlying t = some (.slice e)) (hsz : Try.prog.cellsOf e = d.sz)
    (ho : ∀ (fuel : Nat) (cs : List Value) (x : DataW H × List MemPlace), DataW.trod enc Try.prog w 0 spare held fuel e cs = some x → ∃ s, d.K w s cs ∧ ok s)
    {fuel : Nat} {cs : List Value} {x : DataW H × List MemPlace} (h : DataW.trod enc Try.prog w 0 spare held fuel t cs = some x) :
    ∃ (A : Option Addr) (l : List α) (c : Nat), cs = [.slice A l.length c] ∧ l.length ≤ c ∧ c ≤ maxLen ∧ Kd.C d w A l.length l ∧ ∀ x ∈ l, ok x := by
  rcases open_slice ht h with ⟨rfl, _⟩ | ⟨x, l, c, m, n, D, Pl, rfl, _, hl, hm, hmm, _, hi⟩
  · exact ⟨none, [], 0, rfl, Nat.le_refl _, by simp, Kd.C_nil d w, by simp⟩
  · have hlm : l ≤ m := by rw [hmm]; split <;> omega
    rw [hsz] at hi
    have hex : ∀ i : Nat, ∃ s : α, i < l → ok s ∧ ∃ cs', d.K w s cs' ∧ w.cells? 0 (x.add (i * d.sz)) d.sz = some cs' := by
      intro i
      by_cases h : i < l
      · obtain ⟨cs', hc, ht⟩ := hi i (by omega)
        obtain ⟨s, hs, hk⟩ := ho _ _ _ ht
        exact ⟨s, fun _ => ⟨hk, cs', hs, hc⟩⟩
      · exact ⟨default, fun h' => absurd h' h⟩
    obtain ⟨f, hf⟩ := Classical.axiomOfChoice hex
    have hll : ((List.range l).map f).length = l := by simp
    refine ⟨some x, (List.range l).map f, c, by rw [hll], by rw [hll]; exact hl, hm, ⟨rfl, by rw [hll]; simp only [maxLen] at hm; omega, fun _ => ⟨x, rfl, fun j p hj => ?_⟩⟩, fun y hy => ?_⟩
    · have hjl : j < l := by have := (List.getElem?_eq_some_iff.1 hj).1; rw [hll] at this; exact this
      rw [List.getElem?_map, List.getElem?_range hjl] at hj
      injection hj with hj
      subst hj
      obtain ⟨hs, cs', hK, hc⟩ := hf j hjl
      obtain ⟨_, hlen, hat⟩ := World.cells?_some hc
      refine ⟨cs', hlen, hK, fun i u hu => ?_⟩
      have hi2 : i < d.sz := by have := (List.getElem?_eq_some_iff.1 hu).1; omega
      rw [← Go.Deep.add_add, hat i hi2, hu]
    · obtain ⟨j, hj, rfl⟩ := List.mem_map.1 hy
      exact (hf j (List.mem_range.1 hj)).1
theorem open_int3 (fuel : Nat) (cs : List Value) (x : DataW H × List MemPlace) (h : DataW.trod enc Try.prog w 0 spare held fuel 3 cs = some x) : ∃ s : Int, (Kd.int .i64).K w s cs ∧ okI s := by
  obtain ⟨n0, e0, _, w0⟩ := DataW.trod_int Try.underlying3 h
  subst e0
  exact ⟨n0, rfl, w0⟩
theorem open_row24 {fuel : Nat} {cs : List Value} {x : DataW H × List MemPlace} (h : DataW.trod enc Try.prog w 0 spare held fuel 24 cs = some x) :
    ∃ (A : Option Addr) (l : List Int) (c : Nat), cs = [.slice A l.length c] ∧ l.length ≤ c ∧ c ≤ maxLen ∧ Kd.C (Kd.int .i64) w A l.length l ∧ ∀ x ∈ l, okI x :=
  open_list (Kd.int .i64) okI Try.underlying24 (by kernel_rfl) open_int3 h
theorem open_rows39 {fuel : Nat} {cs : List Value} {x : DataW H × List MemPlace} (h : DataW.trod enc Try.prog w 0 spare held fuel 39 cs = some x) :
    ∃ (A : Option Addr) (l : List (List Int)) (c : Nat), cs = [.slice A l.length c] ∧ l.length ≤ c ∧ c ≤ maxLen ∧ Kd.C (Kd.slice 3 (Kd.int .i64)) w A l.length l ∧ ∀ x ∈ l, okRow x := by
  refine open_list (Kd.slice 3 (Kd.int .i64)) okRow Try.underlying39 (by kernel_rfl) (fun fuel cs x h => ?_) h
  obtain ⟨A, l, c, rfl, h1, h2, h3, h4⟩ := open_row24 h
  exact ⟨l, ⟨A, c, rfl, h1, h3⟩, Nat.le_trans h1 h2, h4⟩
set_option maxRecDepth 100000 in
theorem open_game {r : Reach} {b0 : Nat} {v : Value} {d : DataW H} {ps : List MemPlace} (hval : Value.okWide Try.prog w r b0 41 v) (h : DataW.Trod enc Try.prog w 0 spare held 41 v d ps) :
    ∃ (A : Option Addr) (l : List (List Int)) (c : Nat) (A' : Option Addr) (l' : List (List Int)) (c' : Nat), v = .agg #[.slice A l.length c, .slice A' l'.length c'] ∧
      (l.length ≤ c ∧ c ≤ maxLen ∧ Kd.C (Kd.slice 3 (Kd.int .i64)) w A l.length l ∧ ∀ x ∈ l, okRow x) ∧ (l'.length ≤ c' ∧ c' ≤ maxLen ∧ Kd.C (Kd.slice 3 (Kd.int .i64)) w A' l'.length l' ∧ ∀ x ∈ l', okRow x) := by
  obtain ⟨fuel, hf⟩ := h
  obtain ⟨cs, rfl, _⟩ := okWide_struct Try.underlying41 hval
  obtain ⟨xs, n, _, _, hlen, hxl, hg⟩ := DataW.trod_struct Try.underlying41 hf
  have h41 : Try.prog.cellsOf 41 = 2 := by kernel_rfl
  have h39 : Try.prog.cellsOf 39 = 1 := by kernel_rfl
  have hcs : ∃ u0 u1, cs = #[u0, u1] := by
    have hl2 : cs.toList.length = 2 := by rw [h41] at hlen; exact hlen
    match hc : cs.toList, hl2 with
    | [u0, u1], _ => exact ⟨u0, u1, by rw [← hc]⟩
  obtain ⟨u0, u1, rfl⟩ := hcs
  have hsz : xs.length = 2 := hxl
  match xs, hsz with
  | [y0, y1], _ =>
    have g0 : DataW.trod enc Try.prog w 0 spare held n 39 (([u0, u1].drop 0).take (Try.prog.cellsOf 39)) = some y0 := hg 0 _ rfl
    have g1 : DataW.trod enc Try.prog w 0 spare held n 39 (([u0, u1].drop 1).take (Try.prog.cellsOf 39)) = some y1 := hg 1 _ rfl
    rw [h39] at g0 g1
    obtain ⟨A, l, c, e0, k0⟩ := open_rows39 g0
    obtain ⟨A', l', c', e1, k1⟩ := open_rows39 g1
    obtain rfl : u0 = .slice A l.length c := by injection e0
    obtain rfl : u1 = .slice A' l'.length c' := by injection e1
    exact ⟨A, l, c, A', l', c', rfl, k0, k1⟩
end
end Go.Proofs.Ytjgbdicbdlollaa.B
namespace Go.Proofs.Ytjgbdicbdlollaa.B
open Go.RowKit Go.Proofs.YtjgbdicbdlollaaW.PrintWords Go.Proofs.YtjgbdicbdlollaaW.PrintLast Go.Proofs.YtjgbdicbdlollaaW.PrintMore
def trishawlaw02_JamSettled.Pure : Prop := ∀ (l0_0 l0_1 : List (List Int)), okRows l0_0 → okRows l0_1 → ∃ k, trishawlaw02_JamSettled.f k l0_0 l0_1 = some true
theorem trishawlaw02_JamSettled.walk (P : trishawlaw02_JamSettled.Pure) (w : World) (A0_0 : Option Addr) (c0_0 : Nat) (l0_0 : List (List Int)) (hr0_0 : Kd.C (Kd.slice 3 (Kd.int .i64)) w A0_0 l0_0.length l0_0) (hc0_0 : l0_0.length ≤ c0_0) (A0_1 : Option Addr) (c0_1 : Nat) (l0_1 : List (List Int)) (hr0_1 : Kd.C (Kd.slice 3 (Kd.int .i64)) w A0_1 l0_1.length l0_1) (hc0_1 : l0_1.length ≤ c0_1) (h0_0 : okRows l0_0) (h1_0 : okRows l0_1) :
    Calls Try.prog 9 #[.agg #[.slice A0_0 l0_0.length c0_0, .slice A0_1 l0_1.length c0_1]] w fun e w' => e = .returned (.bool true) ∧ Below w.heap.size w w' := by
  obtain ⟨k, h⟩ := P l0_0 l0_1 h0_0 h1_0
  refine (trishawlaw02_JamSettled.calls k A0_0 c0_0 l0_0 A0_1 c0_1 l0_1 true w hr0_0 hc0_0 hr0_1 hc0_1 h rfl).mono ?_
  rintro e w' ⟨rfl, hd⟩
  exact ⟨rfl, hd⟩
end Go.Proofs.Ytjgbdicbdlollaa.B
namespace Go.Proofs.Ytjgbdicbdlollaa.B
open Go.RowKit Go.Proofs.YtjgbdicbdlollaaW.PrintWords Go.Proofs.YtjgbdicbdlollaaW.PrintLast Go.Proofs.YtjgbdicbdlollaaW.PrintMore
set_option linter.unusedVariables false
set_option linter.unusedSimpArgs false
def sm (x : Int) : Prop := -4611686018427387904 ≤ x ∧ x ≤ 4611686018427387904
theorem wsm {x : Int} (h : sm x) : wrap64 x = x := by unfold sm at h; unfold wrap64; omega
theorem wrapN (i : Nat) (h : i < 1000000) : wrap64 ((i : Int) + 1) = ((i + 1 : Nat) : Int) := by unfold wrap64; omega
theorem rd_mem2 (l : List Int) (i : Nat) (h : i < l.length) : rd l (i : Int) ∈ l := by
  have : rd l (i : Int) = l[i] := by simp [rd, List.getD, List.getElem?_eq_getElem h]
  rw [this]; exact List.getElem_mem h
end Go.Proofs.Ytjgbdicbdlollaa.B
namespace Go.Proofs.Ytjgbdicbdlollaa.B
open Go.RowKit Go.Sort Go.Proofs.YtjgbdicbdlollaaW.PrintWords Go.Proofs.YtjgbdicbdlollaaW.PrintLast Go.Proofs.YtjgbdicbdlollaaW.PrintMore
set_option linter.unusedVariables false
set_option linter.unusedSimpArgs false
def okL (x : S36) : Prop := 0 ≤ x.f0 ∧ x.f0 ≤ 10 ∧ 1 ≤ x.f1 ∧ x.f1 ≤ 10
def sumL (f : S36 → Int) : List S36 → Int
  | [] => 0
  | x :: l => f x + sumL f l
theorem sumL_le {f g : S36 → Int} : ∀ {l : List S36}, (∀ x ∈ l, f x ≤ g x) → sumL f l ≤ sumL g l
  | [], _ => Int.le_refl _
  | x :: l, h => by
    have h1 := h x (by simp)
    have h2 := sumL_le (l := l) fun y hy => h y (by simp [hy])
    simp only [sumL]; omega
theorem sumL_const (c : Int) : ∀ l : List S36, sumL (fun _ => c) l = c * l.length
  | [] => by simp [sumL]
  | x :: l => by simp only [sumL, sumL_const c l, List.length_cons, Int.natCast_add, Int.mul_add]; simp; omega
theorem sumL_pos {f : S36 → Int} {l : List S36} (h : ∀ x ∈ l, 0 ≤ f x) : 0 ≤ sumL f l := by
  have := sumL_le (f := fun _ => 0) (g := f) h
  rw [sumL_const] at this; simpa using this
/-- A time num/den is good: its own set of lanes gives it. -/
def Good (w : S36 → Int) (p : Int) (l : List S36) (n d : Int) : Prop :=
  0 < d ∧ n = p + sumL (fun x => if x.f0 * d < n then x.f0 * w x else 0) l ∧ d = sumL (fun x => if x.f0 * d < n then w x else 0) l
end Go.Proofs.Ytjgbdicbdlollaa.B
namespace Go.Proofs.Ytjgbdicbdlollaa.B
open Go.RowKit Go.Sort Go.Proofs.YtjgbdicbdlollaaW.PrintWords Go.Proofs.YtjgbdicbdlollaaW.PrintLast Go.Proofs.YtjgbdicbdlollaaW.PrintMore
set_option linter.unusedVariables false
set_option linter.unusedSimpArgs false
theorem mulb {x y X Y : Int} (hx : 0 ≤ x) (hX : x ≤ X) (hy : 0 ≤ y) (hY : y ≤ Y) : 0 ≤ x * y ∧ x * y ≤ X * Y :=
  ⟨Int.mul_nonneg hx hy, Int.mul_le_mul hX hY hy (by omega)⟩
def wv (p t : Int) (x : S36) : Int := Int.tdiv p (x.f1 * t)
theorem Good.b {p t : Int} {l : List S36} {n d : Int} (hp : 0 < p) (hp2 : p ≤ 160000) (hl : l.length ≤ 4) (hw : ∀ x ∈ l, okL x ∧ 0 < wv p t x ∧ wv p t x ≤ p) (g : Good (wv p t) p l n d) : 0 ≤ n ∧ n ≤ 6560000 ∧ 0 < d ∧ d ≤ 640000 := by
  obtain ⟨h0, h1, h2⟩ := g
  have a1 : sumL (fun x => if x.f0 * d < n then x.f0 * wv p t x else 0) l ≤ sumL (fun _ => 1600000) l := sumL_le fun x hx => by
    obtain ⟨h3, h4, h5⟩ := hw x hx
    unfold okL at h3
    have := mulb (x := x.f0) (y := wv p t x) (X := 10) (Y := 160000) (by omega) (by omega) (by omega) (by omega)
    split <;> omega
  have a0 : 0 ≤ sumL (fun x => if x.f0 * d < n then x.f0 * wv p t x else 0) l := sumL_pos fun x hx => by
    obtain ⟨h3, h4, h5⟩ := hw x hx
    unfold okL at h3
    have := mulb (x := x.f0) (y := wv p t x) (X := 10) (Y := 160000) (by omega) (by omega) (by omega) (by omega)
    split <;> omega
  have a2 : sumL (fun x => if x.f0 * d < n then wv p t x else 0) l ≤ sumL (fun _ => 160000) l := sumL_le fun x hx => by
    obtain ⟨h3, h4, h5⟩ := hw x hx
    split <;> omega
  rw [sumL_const] at a1 a2
  omega
end Go.Proofs.Ytjgbdicbdlollaa.B
namespace Go.Proofs.Ytjgbdicbdlollaa.B
open Go.RowKit Go.Sort Go.Proofs.YtjgbdicbdlollaaW.PrintWords Go.Proofs.YtjgbdicbdlollaaW.PrintLast Go.Proofs.YtjgbdicbdlollaaW.PrintMore
set_option linter.unusedVariables false
set_option linter.unusedSimpArgs false
theorem same_l0 (x : List Int) (hx : x.length < 1000000) : ∀ (m i : Nat), i + m = x.length → Ev (fun k => trishawlaw02_same.l0 k x x (i : Int)) true
  | 0, i, h => by
    refine Ev.step (f := fun _ => some true) (fun k => ?_) (Ev.now _)
    simp only [trishawlaw02_same.l0]
    rw [if_neg (by omega)]
  | m + 1, i, h => by
    refine Ev.step (fun k => ?_) (same_l0 x hx m (i + 1) (by omega))
    simp only [trishawlaw02_same.l0]
    rw [if_pos (by omega), if_pos (by omega), if_pos (by omega), if_pos True.intro, wrapN i (by omega)]
theorem same_ev (x : List Int) (hx : x.length < 1000000) : Ev (fun k => trishawlaw02_same.f k x x) true := by
  refine Ev.congr (fun k => ?_) (same_l0 x hx x.length 0 (by omega))
  unfold trishawlaw02_same.f
  rw [if_pos rfl]; rfl
end Go.Proofs.Ytjgbdicbdlollaa.B
namespace Go.Proofs.Ytjgbdicbdlollaa.B
open Go.RowKit Go.Sort Go.Proofs.YtjgbdicbdlollaaW.PrintWords Go.Proofs.YtjgbdicbdlollaaW.PrintLast Go.Proofs.YtjgbdicbdlollaaW.PrintMore
theorem alive_ev : Ev (fun k => trishawlaw02_alive.f k) true := ⟨60, fun k hk => alive_from k hk⟩
end Go.Proofs.Ytjgbdicbdlollaa.B
namespace Go.Proofs.Ytjgbdicbdlollaa.B
open Go.RowKit Go.Sort Go.Proofs.YtjgbdicbdlollaaW.PrintWords Go.Proofs.YtjgbdicbdlollaaW.PrintLast Go.Proofs.YtjgbdicbdlollaaW.PrintMore
set_option linter.unusedVariables false
set_option linter.unusedSimpArgs false
theorem rdN (l : List Int) (i : Nat) (h : i < l.length) : rd l (i : Int) = l[i] := by simp [rd, List.getD, List.getElem?_eq_getElem h]
theorem rdL (l : List (List Int)) (i : Nat) (h : i < l.length) : rd_L12 l (i : Int) = l[i] := by simp [rd_L12, List.getD, List.getElem?_eq_getElem h]
theorem rdL_mem (l : List (List Int)) (i : Nat) (h : i < l.length) : rd_L12 l (i : Int) ∈ l := by rw [rdL l i h]; exact List.getElem_mem h
theorem rdZ_mem (l : List Int) (z : Int) (h0 : 0 ≤ z) (h : z < l.length) : rd l z ∈ l := by
  obtain ⟨i, rfl⟩ : ∃ i : Nat, z = i := ⟨z.toNat, by omega⟩
  exact rd_mem2 l i (by omega)
def mapR (m : Nat) (f : Nat → Int) : List Int := (List.range m).map f
theorem mapR_len (m : Nat) (f : Nat → Int) : (mapR m f).length = m := by simp [mapR]
theorem mapR_rd {m : Nat} {f : Nat → Int} {k : Nat} (h : k < m) : rd (mapR m f) (k : Int) = f k := by
  rw [rdN _ k (by rw [mapR_len]; exact h)]; simp [mapR]
theorem mapR_set (m : Nat) (f : Nat → Int) (k : Nat) (v : Int) : (mapR m f).set k v = mapR m (fun j => if j = k then v else f j) := by
  apply List.ext_getElem
  · simp [mapR]
  · intro i h1 h2
    simp only [mapR, List.getElem_set, List.getElem_map, List.getElem_range]
    by_cases h : k = i
    · subst h; simp
    · rw [if_neg h, if_neg (fun e => h e.symm)]
theorem mapR_congr {m : Nat} {f g : Nat → Int} (h : ∀ k, k < m → f k = g k) : mapR m f = mapR m g :=
  List.map_congr_left fun k hk => h k (List.mem_range.1 hk)
theorem mapR_succ (m : Nat) (f : Nat → Int) : mapR m f ++ [f m] = mapR (m + 1) f := by simp [mapR, List.range_succ]
theorem mapR_zero (m : Nat) : List.replicate m (0 : Int) = mapR m (fun _ => 0) := by
  apply List.ext_getElem
  · simp [mapR]
  · intro i h1 h2; simp [mapR]
structure GameOk (R T : List (List Int)) : Prop where
  r1 : 1 ≤ R.length
  r5 : R.length ≤ 5
  t1 : 1 ≤ T.length
  t8 : T.length ≤ 8
  row : ∀ l ∈ R, 1 ≤ l.length ∧ l.length ≤ 5 ∧ ∀ x ∈ l, 1 ≤ x ∧ x < 2 ^ T.length
  toll : ∀ t ∈ T, t.length = R.length ∧ ∀ x ∈ t, 0 ≤ x ∧ x ≤ 1000
structure ChOk (R : List (List Int)) (c : List Int) : Prop where
  len : c.length = R.length
  ok : ∀ i : Nat, i < R.length → 0 ≤ rd c (i : Int) ∧ rd c (i : Int) < ((rd_L12 R (i : Int)).length : Int)
/-- The route that driver i takes. -/
def rte (R : List (List Int)) (c : List Int) (i : Nat) : Int := rd (rd_L12 R (i : Int)) (rd c (i : Int))
theorem rte_b {R T : List (List Int)} {c : List Int} (g : GameOk R T) (h : ChOk R c) {i : Nat} (hi : i < R.length) : 1 ≤ rte R c i ∧ rte R c i < 2 ^ T.length := by
  have h1 := h.ok i hi
  exact (g.row _ (rdL_mem R i hi)).2.2 _ (rdZ_mem _ _ h1.1 h1.2)
theorem pow_b {m : Nat} (h : m ≤ 8) : (2 : Int) ^ m ≤ 256 := by
  have : (2 : Nat) ^ m ≤ 2 ^ 8 := Nat.pow_le_pow_right (by omega) h
  have e : ((2 ^ m : Nat) : Int) = (2 : Int) ^ m := by simp
  omega
/-- A street of a route. -/
def bk (x : Int) (k : Nat) : Int := x / 2 ^ k % 2
theorem fin_bk : ∀ s : Fin 256, ∀ a : Fin 8, Go.bits .and .i64 (shr .i64 ((s.val : Nat) : Int) ((a.val : Nat) : Int)) 1 = bk ((s.val : Nat) : Int) a.val ∧ Int.tmod (shr .i64 ((s.val : Nat) : Int) ((a.val : Nat) : Int)) 2 = bk ((s.val : Nat) : Int) a.val ∧ (bk ((s.val : Nat) : Int) a.val = 0 ∨ bk ((s.val : Nat) : Int) a.val = 1) := by decide +kernel
theorem bk_and {x : Int} {k : Nat} (h0 : 0 ≤ x) (h1 : x < 256) (hk : k < 8) : Go.bits .and .i64 (shr .i64 x (k : Int)) 1 = bk x k ∧ Int.tmod (shr .i64 x (k : Int)) 2 = bk x k ∧ (bk x k = 0 ∨ bk x k = 1) := by
  have := fin_bk ⟨x.toNat, by omega⟩ ⟨k, hk⟩
  simp only at this
  rw [show ((x.toNat : Nat) : Int) = x by omega] at this
  exact this
/-- How many of the first m drivers are on a street. -/
def uF (R : List (List Int)) (c : List Int) : Nat → Nat → Int
  | 0, _ => 0
  | m + 1, k => uF R c m k + bk (rte R c m) k
theorem uF_b {R T : List (List Int)} {c : List Int} (g : GameOk R T) (h : ChOk R c) {k : Nat} (hk : k < T.length) : ∀ m, m ≤ R.length → 0 ≤ uF R c m k ∧ uF R c m k ≤ m
  | 0, _ => by simp [uF]
  | m + 1, hm => by
    have ih := uF_b g h hk m (by omega)
    have hb := rte_b g h (i := m) (by omega)
    have hp := pow_b g.t8
    have h8 := g.t8
    have := (bk_and (x := rte R c m) (k := k) (by omega) (by omega) (by omega)).2.2
    simp only [uF]
    omega
theorem uF_pos {R T : List (List Int)} {c : List Int} (g : GameOk R T) (h : ChOk R c) {k : Nat} (hk : k < T.length) {i : Nat} : ∀ m, m ≤ R.length → i < m → bk (rte R c i) k = 1 → 1 ≤ uF R c m k
  | m + 1, hm, hi, hb1 => by
    have ih := uF_b g h hk m (by omega)
    have hb := rte_b g h (i := m) (by omega)
    have hp := pow_b g.t8
    have h8 := g.t8
    have := (bk_and (x := rte R c m) (k := k) (by omega) (by omega) (by omega)).2.2
    simp only [uF]
    by_cases he : i = m
    · subst he; omega
    · have := uF_pos g h hk m (by omega) (by omega) hb1
      omega
section
variable {R T : List (List Int)} {c : List Int} (g : GameOk R T) (h : ChOk R c)
include g h
/-- One driver's streets. -/
theorem users_l1 (U : List Unit) (P : Int → Int → Option Int) (r : List Int) (i : Nat) (hi : i < R.length) (hn : Ev (fun k => jam_game_users.l0 k (mapR T.length (uF R c (i + 1))) c (c.length : Int) ((i + 1 : Nat) : Int) R U P) r) : ∀ (m k : Nat), k + m = T.length →
    Ev (fun n => jam_game_users.l1 n (mapR T.length (fun j => if j < k then uF R c (i + 1) j else uF R c i j)) (i : Int) (rd c (i : Int)) c (c.length : Int) (i : Int) (T.length : Int) (k : Int) R U P) r
  | 0, k, hk => by
    have h5 := g.r5
    rw [mapR_congr (g := uF R c (i + 1)) (fun j hj => if_pos (by omega))]
    refine Ev.step (fun n => ?_) hn
    simp only [jam_game_users.l1]
    rw [if_neg (by omega), wrapN i (by omega)]
  | m + 1, k, hk => by
    have h5 := g.r5
    have h8 := g.t8
    have hb := rte_b g h hi
    have hp := pow_b g.t8
    have hc := h.ok i hi
    have hbk := bk_and (x := rte R c i) (k := k) (by omega) (by omega) (by omega)
    have hu := uF_b g h (k := k) (by omega) i (by omega)
    have ih := users_l1 U P r i hi hn m (k + 1) (by omega)
    refine Ev.step (fun n => ?_) ih
    simp only [jam_game_users.l1]
    rw [if_pos (by omega), if_pos (by omega), if_pos (by rw [mapR_len]; omega), if_pos (by omega), if_pos (by omega), if_pos (by omega), if_pos hc.2, mapR_rd (by omega), if_neg (by omega), show rd (rd_L12 R (i : Int)) (rd c (i : Int)) = rte R c i from rfl, hbk.1, wsm (by unfold sm; omega), wrapN k (by omega), Int.toNat_natCast, mapR_set]
    congr 1
    refine mapR_congr fun j hj => ?_
    by_cases h1 : j = k
    · subst h1; rw [if_pos rfl, if_pos (by omega)]; rfl
    · rw [if_neg h1]
      by_cases h2 : j < k
      · rw [if_pos h2, if_pos (by omega)]
      · rw [if_neg h2, if_neg (by omega)]
theorem users_l0 (U : List Unit) (P : Int → Int → Option Int) : ∀ (m i : Nat), i + m = R.length → Ev (fun n => jam_game_users.l0 n (mapR T.length (uF R c i)) c (c.length : Int) (i : Int) R U P) (mapR T.length (uF R c R.length))
  | 0, i, hi => by
    have e : i = R.length := by omega
    subst e
    have hl := h.len
    refine Ev.step (f := fun _ => some (mapR T.length (uF R c R.length))) (fun n => ?_) (Ev.now _)
    simp only [jam_game_users.l0]
    rw [if_neg (by omega)]
  | m + 1, i, hi => by
    have hl := h.len
    have h5 := g.r5
    have ih := users_l0 U P m (i + 1) (by omega)
    have hin := users_l1 g h U P _ i (by omega) ih T.length 0 (by omega)
    rw [mapR_congr (g := uF R c i) (fun j hj => if_neg (by omega))] at hin
    refine Ev.step (fun n => ?_) hin
    simp only [jam_game_users.l0]
    rw [if_pos (by omega), if_pos (by omega), if_pos (by omega), mapR_len]
    rfl
theorem users_ev (P : Int → Int → Option Int) : Ev (fun n => jam_game_users.f n R (unitsOf T) P c) (mapR T.length (uF R c R.length)) := by
  have h8 := g.t8
  have := users_l0 g h (unitsOf T) P R.length 0 (by omega)
  rw [show mapR T.length (uF R c 0) = List.replicate T.length (0 : Int) from (mapR_zero _).symm] at this
  refine Ev.congr (fun n => ?_) this
  have e : (unitsOf T).length = T.length := by simp [unitsOf]
  unfold jam_game_users.f
  rw [e, if_pos (Int.natCast_nonneg _), Int.toNat_natCast, if_pos (by omega)]
  rfl
/-- What a driver pays on streets k .. k + m - 1. -/
def payS (R T : List (List Int)) (c : List Int) (i : Nat) : Nat → Nat → Int
  | 0, _ => 0
  | m + 1, k => (if bk (rte R c i) k = 1 then rd (rd_L12 T (k : Int)) (uF R c R.length k - 1) else 0) + payS R T c i m (k + 1)
def cst (R T : List (List Int)) (c : List Int) (i : Nat) : Int := payS R T c i T.length 0
def totF (R T : List (List Int)) (c : List Int) : Nat → Int
  | 0 => 0
  | m + 1 => totF R T c m + cst R T c m
theorem pay_b {k i : Nat} (hk : k < T.length) (hi : i < R.length) (hb : bk (rte R c i) k = 1) : payF T (k : Int) (uF R c R.length k) = some (rd (rd_L12 T (k : Int)) (uF R c R.length k - 1)) ∧ 0 ≤ rd (rd_L12 T (k : Int)) (uF R c R.length k - 1) ∧ rd (rd_L12 T (k : Int)) (uF R c R.length k - 1) ≤ 1000 := by
  have h1 := uF_pos g h hk R.length (Nat.le_refl _) hi hb
  have h2 := uF_b g h hk R.length (Nat.le_refl _)
  have h3 := g.toll _ (rdL_mem T k hk)
  refine ⟨?_, h3.2 _ (rdZ_mem _ _ (by omega) (by omega))⟩
  unfold payF
  rw [if_pos (by omega), if_pos (by omega), if_pos (by omega), if_pos (by omega)]
theorem payS_b {i : Nat} (hi : i < R.length) : ∀ (m k : Nat), k + m = T.length → 0 ≤ payS R T c i m k ∧ payS R T c i m k ≤ 1000 * m
  | 0, _, _ => by simp [payS]
  | m + 1, k, hk => by
    have ih := payS_b hi m (k + 1) (by omega)
    simp only [payS]
    split
    · rename_i hb
      have := (pay_b g h (k := k) (by omega) hi hb).2
      omega
    · omega
theorem cst_b {i : Nat} (hi : i < R.length) : 0 ≤ cst R T c i ∧ cst R T c i ≤ 8000 := by
  have := payS_b g h hi T.length 0 (by omega)
  have h8 := g.t8
  unfold cst
  omega
theorem totF_b : ∀ m, m ≤ R.length → 0 ≤ totF R T c m ∧ totF R T c m ≤ 8000 * m
  | 0, _ => by simp [totF]
  | m + 1, hm => by
    have ih := totF_b m (by omega)
    have := cst_b g h (i := m) (by omega)
    simp only [totF]
    omega
theorem costs_l1 (U : List Unit) (r : List Int × Int) (i : Nat) (hi : i < R.length) (x7 : List Int) (x8 : Int) (h7 : x7.length = i)
    (hn : Ev (fun n => jam_game_costs.l0 n (mapR T.length (uF R c R.length)) (x7 ++ [cst R T c i]) (wrap64 (x8 + cst R T c i)) c (c.length : Int) ((i + 1 : Nat) : Int) R U (payF T)) r) : ∀ (m k : Nat) (a : Int), k + m = T.length → 0 ≤ a → a ≤ 1000 * k → a + payS R T c i m k = cst R T c i →
    Ev (fun n => jam_game_costs.l1 n (mapR T.length (uF R c R.length)) x7 x8 (i : Int) (rd c (i : Int)) a c (c.length : Int) (i : Int) (mapR T.length (uF R c R.length)) (T.length : Int) (k : Int) R U (payF T)) r
  | 0, k, a, hk, a0, a1, ha => by
    have h5 := g.r5
    have e : a = cst R T c i := by simp only [payS] at ha; omega
    subst e
    refine Ev.step (fun n => ?_) hn
    simp only [jam_game_costs.l1]
    rw [if_neg (by omega), if_pos (by omega), wrapN i (by omega)]
  | m + 1, k, a, hk, a0, a1, ha => by
    have h5 := g.r5
    have h8 := g.t8
    have hb := rte_b g h hi
    have hp := pow_b g.t8
    have hc := h.ok i hi
    have hbk := bk_and (x := rte R c i) (k := k) (by omega) (by omega) (by omega)
    simp only [payS] at ha
    by_cases hb1 : bk (rte R c i) k = 1
    · rw [if_pos hb1] at ha
      have hpay := pay_b g h (k := k) (by omega) hi hb1
      have ih := costs_l1 U r i hi x7 x8 h7 hn m (k + 1) (a + rd (rd_L12 T (k : Int)) (uF R c R.length k - 1)) (by omega) (by omega) (by omega) (by omega)
      refine Ev.step (fun n => ?_) ih
      simp only [jam_game_costs.l1]
      rw [if_pos (by omega), if_pos (by omega), if_pos (by rw [mapR_len]; omega), if_pos (by omega), if_pos (by omega), if_pos (by omega), if_pos hc.2, show rd (rd_L12 R (i : Int)) (rd c (i : Int)) = rte R c i from rfl, hbk.1, if_pos hb1, mapR_rd (by omega), hpay.1, Option.bind_some, wsm (by unfold sm; omega), wrapN k (by omega)]
    · rw [if_neg hb1] at ha
      have ih := costs_l1 U r i hi x7 x8 h7 hn m (k + 1) a (by omega) (by omega) (by omega) (by omega)
      refine Ev.step (fun n => ?_) ih
      simp only [jam_game_costs.l1]
      rw [if_pos (by omega), if_pos (by omega), if_pos (by rw [mapR_len]; omega), if_pos (by omega), if_pos (by omega), if_pos (by omega), if_pos hc.2, show rd (rd_L12 R (i : Int)) (rd c (i : Int)) = rte R c i from rfl, hbk.1, if_neg hb1, wrapN k (by omega)]
theorem costs_l0 (U : List Unit) : ∀ (m i : Nat), i + m = R.length → Ev (fun n => jam_game_costs.l0 n (mapR T.length (uF R c R.length)) (mapR i (cst R T c)) (totF R T c i) c (c.length : Int) (i : Int) R U (payF T)) (mapR R.length (cst R T c), totF R T c R.length)
  | 0, i, hi => by
    have e : i = R.length := by omega
    subst e
    have hl := h.len
    refine Ev.step (f := fun _ => some (mapR R.length (cst R T c), totF R T c R.length)) (fun n => ?_) (Ev.now _)
    simp only [jam_game_costs.l0]
    rw [if_neg (by omega)]
  | m + 1, i, hi => by
    have hl := h.len
    have h5 := g.r5
    have hcb := cst_b g h (i := i) (by omega)
    have htb := totF_b g h i (by omega)
    have ih := costs_l0 U m (i + 1) (by omega)
    have hin := costs_l1 g h U _ i (by omega) (mapR i (cst R T c)) (totF R T c i) (mapR_len _ _) (by
      rw [mapR_succ, wsm (by unfold sm; omega)]; exact ih) T.length 0 0 (by omega) (by omega) (by omega) (by unfold cst; omega)
    refine Ev.step (fun n => ?_) hin
    simp only [jam_game_costs.l0]
    rw [if_pos (by omega), if_pos (by omega), if_pos (by omega), mapR_len]
    rfl
theorem costs_ev : Ev (fun n => jam_game_costs.f n R (unitsOf T) (payF T) c) (mapR R.length (cst R T c), totF R T c R.length) := by
  unfold jam_game_costs.f
  exact Ev.bind (users_ev g h (payF T)) (costs_l0 g h (unitsOf T) R.length 0 (by omega))
end
end Go.Proofs.Ytjgbdicbdlollaa.B
namespace Go.Proofs.Ytjgbdicbdlollaa.B
open Go.RowKit Go.Sort Go.Proofs.YtjgbdicbdlollaaW.PrintWords Go.Proofs.YtjgbdicbdlollaaW.PrintLast Go.Proofs.YtjgbdicbdlollaaW.PrintMore
set_option linter.unusedVariables false
set_option linter.unusedSimpArgs false
theorem allRd {l : List Int} {P : Int → Prop} : (∀ q : Nat, q < l.length → P (rd l (q : Int))) ↔ ∀ x ∈ l, P x := by
  constructor
  · intro h x hx
    obtain ⟨q, hq, rfl⟩ := List.mem_iff_getElem.1 hx
    rw [← rdN l q hq]; exact h q hq
  · intro h q hq
    exact h _ (rd_mem2 l q hq)
theorem all_rdL {l : List (List Int)} {P : List Int → Prop} : (∀ q : Nat, q < l.length → P (rd_L12 l (q : Int))) ↔ ∀ x ∈ l, P x := by
  constructor
  · intro h x hx
    obtain ⟨q, hq, rfl⟩ := List.mem_iff_getElem.1 hx
    rw [← rdL l q hq]; exact h q hq
  · intro h q hq
    exact h _ (rdL_mem l q hq)
theorem shl_pow {m : Nat} (h : m ≤ 8) : shl .i64 1 (m : Int) = 2 ^ m := by
  have : ∀ a : Fin 9, shl .i64 1 ((a.val : Nat) : Int) = 2 ^ a.val := by decide +kernel
  exact this ⟨m, by omega⟩
structure FewOk (R T : List (List Int)) (c : List Int) : Prop where
  r : R.length ≤ 20
  t : T.length ≤ 20
  rr : ∀ x ∈ R, x.length ≤ 20
  tt : ∀ x ∈ T, x.length ≤ 20
  c : c.length ≤ 20
theorem few_l1 (R T : List (List Int)) (c : List Int) : ∀ (m i : Nat), i + m = 20 → ∃ b, Ev (fun k => trishawlaw02_few.l1 k c (i : Int) R T) b ∧ (b = true ↔ (T.length ≤ 20 ∧ ∀ q : Nat, i ≤ q → q < T.length → (rd_L12 T (q : Int)).length ≤ 20) ∧ c.length ≤ 20)
  | 0, i, h => by
    by_cases hT : i < T.length
    · refine ⟨false, Ev.step (f := fun _ => some false) (fun k => ?_) (Ev.now _), by simp; intro h1; omega⟩
      simp only [trishawlaw02_few.l1]
      rw [if_pos (by omega), if_pos (by omega)]
    · refine ⟨decide ((c.length : Int) ≤ 20), Ev.step (f := fun _ => some (decide ((c.length : Int) ≤ 20))) (fun k => ?_) (Ev.now _), ?_⟩
      · simp only [trishawlaw02_few.l1]
        rw [if_neg (by omega)]
      · rw [decide_eq_true_eq]
        exact ⟨fun h1 => ⟨⟨by omega, fun q h2 h3 => by omega⟩, by omega⟩, fun h1 => by have := h1.2; omega⟩
  | m + 1, i, h => by
    by_cases hT : i < T.length
    · by_cases hl : ((rd_L12 T (i : Int)).length : Int) > 20
      · refine ⟨false, Ev.step (f := fun _ => some false) (fun k => ?_) (Ev.now _), ?_⟩
        · simp only [trishawlaw02_few.l1]
          rw [if_pos (by omega), if_neg (by omega), if_pos (by omega), if_pos hl]
        · constructor
          · intro h1; exact absurd h1 (by simp)
          · intro h1; have := h1.1.2 i (Nat.le_refl _) hT; omega
      · obtain ⟨b, hb, hi⟩ := few_l1 R T c m (i + 1) (by omega)
        refine ⟨b, Ev.step (fun k => ?_) hb, ?_⟩
        · simp only [trishawlaw02_few.l1]
          rw [if_pos (by omega), if_neg (by omega), if_pos (by omega), if_neg hl, wrapN i (by omega)]
        · rw [hi]
          refine ⟨fun h1 => ⟨⟨h1.1.1, fun q h2 h3 => ?_⟩, h1.2⟩, fun h1 => ⟨⟨h1.1.1, fun q h2 h3 => h1.1.2 q (by omega) h3⟩, h1.2⟩⟩
          by_cases he : q = i
          · subst he; omega
          · exact h1.1.2 q (by omega) h3
    · refine ⟨decide ((c.length : Int) ≤ 20), Ev.step (f := fun _ => some (decide ((c.length : Int) ≤ 20))) (fun k => ?_) (Ev.now _), ?_⟩
      · simp only [trishawlaw02_few.l1]
        rw [if_neg (by omega)]
      · rw [decide_eq_true_eq]
        exact ⟨fun h1 => ⟨⟨by omega, fun q h2 h3 => by omega⟩, by omega⟩, fun h1 => by have := h1.2; omega⟩
theorem few_l0 (R T : List (List Int)) (c : List Int) : ∀ (m i : Nat), i + m = 20 → ∃ b, Ev (fun k => trishawlaw02_few.l0 k c (i : Int) R T) b ∧ (b = true ↔ (R.length ≤ 20 ∧ ∀ q : Nat, i ≤ q → q < R.length → (rd_L12 R (q : Int)).length ≤ 20) ∧ (T.length ≤ 20 ∧ ∀ q : Nat, 0 ≤ q → q < T.length → (rd_L12 T (q : Int)).length ≤ 20) ∧ c.length ≤ 20)
  | 0, i, h => by
    by_cases hT : i < R.length
    · refine ⟨false, Ev.step (f := fun _ => some false) (fun k => ?_) (Ev.now _), by simp; intro h1; omega⟩
      simp only [trishawlaw02_few.l0]
      rw [if_pos (by omega), if_pos (by omega)]
    · obtain ⟨b, hb, hi⟩ := few_l1 R T c 20 0 rfl
      refine ⟨b, Ev.step (fun k => ?_) hb, ?_⟩
      · simp only [trishawlaw02_few.l0]
        rw [if_neg (by omega)]; rfl
      · rw [hi]
        exact ⟨fun h1 => ⟨⟨by omega, fun q h2 h3 => by omega⟩, h1⟩, fun h1 => h1.2⟩
  | m + 1, i, h => by
    by_cases hT : i < R.length
    · by_cases hl : ((rd_L12 R (i : Int)).length : Int) > 20
      · refine ⟨false, Ev.step (f := fun _ => some false) (fun k => ?_) (Ev.now _), ?_⟩
        · simp only [trishawlaw02_few.l0]
          rw [if_pos (by omega), if_neg (by omega), if_pos (by omega), if_pos hl]
        · constructor
          · intro h1; exact absurd h1 (by simp)
          · intro h1; have := h1.1.2 i (Nat.le_refl _) hT; omega
      · obtain ⟨b, hb, hi⟩ := few_l0 R T c m (i + 1) (by omega)
        refine ⟨b, Ev.step (fun k => ?_) hb, ?_⟩
        · simp only [trishawlaw02_few.l0]
          rw [if_pos (by omega), if_neg (by omega), if_pos (by omega), if_neg hl, wrapN i (by omega)]
        · rw [hi]
          refine ⟨fun h1 => ⟨⟨h1.1.1, fun q h2 h3 => ?_⟩, h1.2⟩, fun h1 => ⟨⟨h1.1.1, fun q h2 h3 => h1.1.2 q (by omega) h3⟩, h1.2⟩⟩
          by_cases he : q = i
          · subst he; omega
          · exact h1.1.2 q (by omega) h3
    · obtain ⟨b, hb, hi⟩ := few_l1 R T c 20 0 rfl
      refine ⟨b, Ev.step (fun k => ?_) hb, ?_⟩
      · simp only [trishawlaw02_few.l0]
        rw [if_neg (by omega)]; rfl
      · rw [hi]
        exact ⟨fun h1 => ⟨⟨by omega, fun q h2 h3 => by omega⟩, h1⟩, fun h1 => h1.2⟩
theorem few_ev (R T : List (List Int)) (c : List Int) : ∃ b, Ev (fun k => trishawlaw02_few.f k R T c) b ∧ (b = true ↔ FewOk R T c) := by
  obtain ⟨b, hb, hi⟩ := few_l0 R T c 20 0 rfl
  refine ⟨b, hb, hi.trans ⟨fun h => ⟨h.1.1, h.2.1.1, ?_, ?_, h.2.2⟩, fun h => ⟨⟨h.r, ?_⟩, ⟨h.t, ?_⟩, h.c⟩⟩⟩
  · exact all_rdL.1 fun q hq => h.1.2 q (Nat.zero_le _) hq
  · exact all_rdL.1 fun q hq => h.2.1.2 q (Nat.zero_le _) hq
  · exact fun q _ hq => h.rr _ (rdL_mem R q hq)
  · exact fun q _ hq => h.tt _ (rdL_mem T q hq)
section
variable (R T : List (List Int)) (h5 : R.length ≤ 5) (h8 : T.length ≤ 8)
include h5 h8
theorem ig_l3 (k : Nat) (hk : k < T.length) (hl : (rd_L12 T (k : Int)).length = R.length) (b2 : Bool) (h2 : Ev (fun n => trishawref02_IsGame.l2 n (R.length : Int) (T.length : Int) ((k + 1 : Nat) : Int) R T) b2) : ∀ (m j : Nat), j + m = R.length →
    ∃ b, Ev (fun n => trishawref02_IsGame.l3 n (R.length : Int) (T.length : Int) (k : Int) (j : Int) R T) b ∧ (b = true ↔ (∀ q : Nat, j ≤ q → q < R.length → 0 ≤ rd (rd_L12 T (k : Int)) (q : Int) ∧ rd (rd_L12 T (k : Int)) (q : Int) ≤ 1000) ∧ b2 = true)
  | 0, j, h => by
    refine ⟨b2, Ev.step (fun n => ?_) h2, ⟨fun h => ⟨fun q h1 h2 => by omega, h⟩, fun h => h.2⟩⟩
    simp only [trishawref02_IsGame.l3]
    rw [if_neg (by omega), wrapN k (by omega)]
  | m + 1, j, h => by
    by_cases hx : 0 ≤ rd (rd_L12 T (k : Int)) (j : Int) ∧ rd (rd_L12 T (k : Int)) (j : Int) ≤ 1000
    · obtain ⟨b, hb, hi⟩ := ig_l3 k hk hl b2 h2 m (j + 1) (by omega)
      refine ⟨b, Ev.step (fun n => ?_) hb, hi.trans ⟨fun h => ⟨fun q h1 h2 => ?_, h.2⟩, fun h => ⟨fun q h1 h2 => h.1 q (by omega) h2, h.2⟩⟩⟩
      · simp only [trishawref02_IsGame.l3]
        rw [if_pos (by omega), if_pos (by omega), if_pos (by omega), if_pos (by omega), if_pos (by omega), if_neg (by omega), if_neg (by omega), wrapN j (by omega)]
      · by_cases he : q = j
        · subst he; exact hx
        · exact h.1 q (by omega) h2
    · refine ⟨false, Ev.step (f := fun _ => some false) (fun n => ?_) (Ev.now _), ⟨fun h => absurd h (by simp), fun h => absurd (h.1 j (Nat.le_refl _) (by omega)) hx⟩⟩
      simp only [trishawref02_IsGame.l3]
      rw [if_pos (by omega), if_pos (by omega), if_pos (by omega), if_pos (by omega), if_pos (by omega)]
      by_cases h0 : rd (rd_L12 T (k : Int)) (j : Int) < 0
      · rw [if_pos h0]
      · rw [if_neg h0, if_pos (by omega)]
theorem ig_l2 : ∀ (m k : Nat), k + m = T.length → ∃ b, Ev (fun n => trishawref02_IsGame.l2 n (R.length : Int) (T.length : Int) (k : Int) R T) b ∧ (b = true ↔ ∀ q : Nat, k ≤ q → q < T.length → (rd_L12 T (q : Int)).length = R.length ∧ ∀ x ∈ rd_L12 T (q : Int), 0 ≤ x ∧ x ≤ 1000)
  | 0, k, h => by
    refine ⟨true, Ev.step (f := fun _ => some true) (fun n => ?_) (Ev.now _), ⟨fun _ q h1 h2 => by omega, fun _ => rfl⟩⟩
    simp only [trishawref02_IsGame.l2]
    rw [if_neg (by omega)]
  | m + 1, k, h => by
    by_cases hl : (rd_L12 T (k : Int)).length = R.length
    · obtain ⟨b2, hb2, hi2⟩ := ig_l2 m (k + 1) (by omega)
      obtain ⟨b, hb, hi⟩ := ig_l3 R T h5 h8 k (by omega) hl b2 hb2 R.length 0 (by omega)
      refine ⟨b, Ev.step (fun n => ?_) hb, hi.trans ⟨fun h q h1 h2 => ?_, fun h => ⟨fun q h1 h2 => ?_, hi2.2 fun q h1 h2 => h q (by omega) h2⟩⟩⟩
      · simp only [trishawref02_IsGame.l2]
        rw [if_pos (by omega), if_pos (by omega), if_pos (by omega), if_pos (by omega)]
        rfl
      · by_cases he : q = k
        · subst he
          exact ⟨hl, allRd.1 fun p hp => h.1 p (Nat.zero_le _) (by omega)⟩
        · exact hi2.1 h.2 q (by omega) h2
      · exact (h k (Nat.le_refl _) (by omega)).2 _ (rd_mem2 _ q (by omega))
    · refine ⟨false, Ev.step (f := fun _ => some false) (fun n => ?_) (Ev.now _), ⟨fun h => absurd h (by simp), fun h => absurd (h k (Nat.le_refl _) (by omega)).1 hl⟩⟩
      simp only [trishawref02_IsGame.l2]
      rw [if_pos (by omega), if_pos (by omega), if_pos (by omega), if_neg (by omega)]
theorem ig_l1 (i : Nat) (hi : i < R.length) (hl : (rd_L12 R (i : Int)).length ≤ 5) (b2 : Bool) (h2 : Ev (fun n => trishawref02_IsGame.l0 n (R.length : Int) (T.length : Int) ((i + 1 : Nat) : Int) R T) b2) : ∀ (m j : Nat), j + m = (rd_L12 R (i : Int)).length →
    ∃ b, Ev (fun n => trishawref02_IsGame.l1 n (R.length : Int) (T.length : Int) (i : Int) (j : Int) R T) b ∧ (b = true ↔ (∀ q : Nat, j ≤ q → q < (rd_L12 R (i : Int)).length → 1 ≤ rd (rd_L12 R (i : Int)) (q : Int) ∧ rd (rd_L12 R (i : Int)) (q : Int) < 2 ^ T.length) ∧ b2 = true)
  | 0, j, h => by
    refine ⟨b2, Ev.step (fun n => ?_) h2, ⟨fun h => ⟨fun q h1 h2 => by omega, h⟩, fun h => h.2⟩⟩
    simp only [trishawref02_IsGame.l1]
    rw [if_pos (by omega), if_pos (by omega), if_neg (by omega), wrapN i (by omega)]
  | m + 1, j, h => by
    have hs := shl_pow h8
    by_cases hx : 1 ≤ rd (rd_L12 R (i : Int)) (j : Int) ∧ rd (rd_L12 R (i : Int)) (j : Int) < 2 ^ T.length
    · obtain ⟨b, hb, hi2⟩ := ig_l1 i hi hl b2 h2 m (j + 1) (by omega)
      refine ⟨b, Ev.step (fun n => ?_) hb, hi2.trans ⟨fun h => ⟨fun q h1 h2 => ?_, h.2⟩, fun h => ⟨fun q h1 h2 => h.1 q (by omega) h2, h.2⟩⟩⟩
      · simp only [trishawref02_IsGame.l1]
        rw [if_pos (by omega), if_pos (by omega), if_pos (by omega), if_pos (by omega), if_neg (by omega), if_pos (by omega), hs, if_neg (by omega), wrapN j (by omega)]
      · by_cases he : q = j
        · subst he; exact hx
        · exact h.1 q (by omega) h2
    · refine ⟨false, Ev.step (f := fun _ => some false) (fun n => ?_) (Ev.now _), ⟨fun h => absurd h (by simp), fun h => absurd (h.1 j (Nat.le_refl _) (by omega)) hx⟩⟩
      simp only [trishawref02_IsGame.l1]
      rw [if_pos (by omega), if_pos (by omega), if_pos (by omega), if_pos (by omega)]
      by_cases h0 : rd (rd_L12 R (i : Int)) (j : Int) < 1
      · rw [if_pos h0]
      · rw [if_neg h0, if_pos (by omega), hs, if_pos (by omega)]
theorem ig_l0 : ∀ (m i : Nat), i + m = R.length → ∃ b, Ev (fun n => trishawref02_IsGame.l0 n (R.length : Int) (T.length : Int) (i : Int) R T) b ∧ (b = true ↔ (∀ q : Nat, i ≤ q → q < R.length → 1 ≤ (rd_L12 R (q : Int)).length ∧ (rd_L12 R (q : Int)).length ≤ 5 ∧ ∀ x ∈ rd_L12 R (q : Int), 1 ≤ x ∧ x < 2 ^ T.length) ∧ (∀ q : Nat, q < T.length → (rd_L12 T (q : Int)).length = R.length ∧ ∀ x ∈ rd_L12 T (q : Int), 0 ≤ x ∧ x ≤ 1000))
  | 0, i, h => by
    obtain ⟨b2, hb2, hi2⟩ := ig_l2 R T h5 h8 T.length 0 (by omega)
    refine ⟨b2, Ev.step (fun n => ?_) hb2, hi2.trans ⟨fun h => ⟨fun q h1 h2 => by omega, fun q h1 => h q (Nat.zero_le _) h1⟩, fun h q _ h1 => h.2 q h1⟩⟩
    simp only [trishawref02_IsGame.l0]
    rw [if_neg (by omega)]
    rfl
  | m + 1, i, h => by
    have hbad : ¬ (1 ≤ (rd_L12 R (i : Int)).length ∧ (rd_L12 R (i : Int)).length ≤ 5) → Ev (fun n => trishawref02_IsGame.l0 n (R.length : Int) (T.length : Int) (i : Int) R T) false := by
      intro hx
      have hj : Ev (fun n => trishawref02_IsGame.j2 n (R.length : Int) (T.length : Int) (i : Int) true R T) false := Ev.step (f := fun _ => some false) (fun n => by simp [trishawref02_IsGame.j2]) (Ev.now _)
      refine Ev.step (fun n => ?_) hj
      simp only [trishawref02_IsGame.l0]
      rw [if_pos (by omega), if_pos (by omega), if_pos (by omega)]
      by_cases h0 : ((rd_L12 R (i : Int)).length : Int) < 1
      · rw [if_pos h0]
      · rw [if_neg h0, decide_eq_true (by omega)]
    by_cases hx : 1 ≤ (rd_L12 R (i : Int)).length ∧ (rd_L12 R (i : Int)).length ≤ 5
    · obtain ⟨b2, hb2, hi2⟩ := ig_l0 m (i + 1) (by omega)
      obtain ⟨b, hb, hi3⟩ := ig_l1 R T h5 h8 i (by omega) hx.2 b2 hb2 _ 0 (Nat.zero_add _)
      have hj : Ev (fun n => trishawref02_IsGame.j2 n (R.length : Int) (T.length : Int) (i : Int) false R T) b := Ev.step (fun n => by simp only [trishawref02_IsGame.j2]; rw [if_neg (by simp)]; rfl) hb
      refine ⟨b, Ev.step (fun n => ?_) hj, hi3.trans ⟨fun h => ⟨fun q h1 h2 => ?_, (hi2.1 h.2).2⟩, fun h => ⟨fun q h1 h2 => ?_, hi2.2 ⟨fun q h1 h2 => h.1 q (by omega) h2, h.2⟩⟩⟩⟩
      · simp only [trishawref02_IsGame.l0]
        rw [if_pos (by omega), if_pos (by omega), if_pos (by omega), if_neg (by omega), decide_eq_false (by omega)]
      · by_cases he : q = i
        · subst he
          exact ⟨hx.1, hx.2, allRd.1 fun p hp => h.1 p (Nat.zero_le _) hp⟩
        · exact (hi2.1 h.2).1 q (by omega) h2
      · exact (h.1 i (Nat.le_refl _) (by omega)).2.2 _ (rd_mem2 _ q h2)
    · refine ⟨false, hbad hx, ⟨fun h => absurd h (by simp), fun h => absurd ⟨(h.1 i (Nat.le_refl _) (by omega)).1, (h.1 i (Nat.le_refl _) (by omega)).2.1⟩ hx⟩⟩
end
theorem isGame_ev (R T : List (List Int)) : ∃ b, Ev (fun k => trishawref02_IsGame.f k R T) b ∧ (b = true ↔ GameOk R T) := by
  by_cases hx : 1 ≤ R.length ∧ R.length ≤ 5 ∧ 1 ≤ T.length ∧ T.length ≤ 8
  · obtain ⟨b, hb, hi⟩ := ig_l0 R T hx.2.1 hx.2.2.2 R.length 0 (by omega)
    have hj : Ev (fun n => trishawref02_IsGame.j0 n (R.length : Int) (T.length : Int) false R T) b := Ev.step (fun n => by simp only [trishawref02_IsGame.j0]; rw [if_neg (by simp)]; rfl) hb
    refine ⟨b, Ev.congr (fun k => ?_) hj, hi.trans ⟨fun h => ⟨hx.1, hx.2.1, hx.2.2.1, hx.2.2.2, all_rdL.1 fun q hq => h.1 q (Nat.zero_le _) hq, all_rdL.1 h.2⟩, fun h => ⟨fun q _ hq => h.row _ (rdL_mem R q hq), fun q hq => h.toll _ (rdL_mem T q hq)⟩⟩⟩
    unfold trishawref02_IsGame.f
    rw [if_neg (by omega), if_neg (by omega), if_neg (by omega), decide_eq_false (by omega)]
  · have hj : Ev (fun n => trishawref02_IsGame.j0 n (R.length : Int) (T.length : Int) true R T) false := Ev.step (f := fun _ => some false) (fun n => by simp [trishawref02_IsGame.j0]) (Ev.now _)
    refine ⟨false, Ev.congr (fun k => ?_) hj, ⟨fun h => absurd h (by simp), fun h => absurd ⟨h.r1, h.r5, h.t1, h.t8⟩ hx⟩⟩
    unfold trishawref02_IsGame.f
    by_cases h1 : (R.length : Int) < 1
    · rw [if_pos h1]
    · rw [if_neg h1]
      by_cases h2 : (R.length : Int) > 5
      · rw [if_pos h2]
      · rw [if_neg h2]
        by_cases h3 : (T.length : Int) < 1
        · rw [if_pos h3]
        · rw [if_neg h3, decide_eq_true (by omega)]
theorem le_minU (l : List Int) (a : Int) : ∀ i : Nat, a ≤ minU l i ↔ ∀ q : Nat, q ≤ i → a ≤ rd l (q : Int)
  | 0 => by
    simp only [minU]
    exact ⟨fun h q hq => by obtain rfl : q = 0 := by omega
                            exact h, fun h => h 0 (Nat.le_refl _)⟩
  | i + 1 => by
    have ih := le_minU l a i
    have e : a ≤ minU l (i + 1) ↔ a ≤ minU l i ∧ a ≤ rd l ((i + 1 : Nat) : Int) := by
      simp only [minU, mn]
      split <;> omega
    rw [e, ih]
    refine ⟨fun h q hq => ?_, fun h => ⟨fun q hq => h q (by omega), h _ (Nat.le_refl _)⟩⟩
    by_cases he : q = i + 1
    · subst he; exact h.2
    · exact h.1 q (by omega)
theorem maxU_le (l : List Int) (a : Int) : ∀ i : Nat, maxU l i ≤ a ↔ ∀ q : Nat, q ≤ i → rd l (q : Int) ≤ a
  | 0 => by
    simp only [maxU]
    exact ⟨fun h q hq => by obtain rfl : q = 0 := by omega
                            exact h, fun h => h 0 (Nat.le_refl _)⟩
  | i + 1 => by
    have ih := maxU_le l a i
    have e : maxU l (i + 1) ≤ a ↔ maxU l i ≤ a ∧ rd l ((i + 1 : Nat) : Int) ≤ a := by
      simp only [maxU, mx]
      split <;> omega
    rw [e, ih]
    refine ⟨fun h q hq => ?_, fun h => ⟨fun q hq => h q (by omega), h _ (Nat.le_refl _)⟩⟩
    by_cases he : q = i + 1
    · subst he; exact h.2
    · exact h.1 q (by omega)
theorem minU_all (l : List Int) (a : Int) (h : 1 ≤ l.length) : a ≤ minU l (l.length - 1) ↔ ∀ x ∈ l, a ≤ x := by
  rw [le_minU, ← allRd]
  exact ⟨fun h1 q hq => h1 q (by omega), fun h1 q hq => h1 q (by omega)⟩
theorem maxU_all (l : List Int) (a : Int) (h : 1 ≤ l.length) : maxU l (l.length - 1) ≤ a ↔ ∀ x ∈ l, x ≤ a := by
  rw [maxU_le, ← allRd]
  exact ⟨fun h1 q hq => h1 q (by omega), fun h1 q hq => h1 q (by omega)⟩
theorem readOk_iff (R T : List (List Int)) : readOk R T = true ↔ GameOk R T := by
  unfold readOk
  simp only [Bool.and_eq_true, decide_eq_true_eq, List.all_eq_true]
  constructor
  · rintro ⟨⟨⟨⟨⟨h1, h2⟩, h3⟩, h4⟩, h5⟩, h6⟩
    refine ⟨h1, h2, h3, h4, fun l hl => ?_, fun t ht => ?_⟩
    · have := h6 l hl
      unfold routeOk at this
      simp only [Bool.and_eq_true, decide_eq_true_eq] at this
      obtain ⟨⟨⟨a1, a2⟩, a3⟩, a4⟩ := this
      rw [shl_pow h4] at a4
      refine ⟨a1, a2, fun x hx => ⟨(minU_all l 1 a1).1 a3 x hx, ?_⟩⟩
      have := (maxU_all l (2 ^ T.length - 1) a1).1 (by omega) x hx
      omega
    · have := h5 t ht
      unfold tollOk at this
      simp only [Bool.and_eq_true, decide_eq_true_eq] at this
      obtain ⟨⟨a1, a2⟩, a3⟩ := this
      exact ⟨a1, fun x hx => ⟨(minU_all t 0 (by omega)).1 a2 x hx, (maxU_all t 1000 (by omega)).1 a3 x hx⟩⟩
  · intro g
    refine ⟨⟨⟨⟨⟨g.r1, g.r5⟩, g.t1⟩, g.t8⟩, fun t ht => ?_⟩, fun l hl => ?_⟩
    · have h := g.toll t ht
      have h1 := g.r1
      unfold tollOk
      simp only [Bool.and_eq_true, decide_eq_true_eq]
      exact ⟨⟨h.1, (minU_all t 0 (by omega)).2 fun x hx => (h.2 x hx).1⟩, (maxU_all t 1000 (by omega)).2 fun x hx => (h.2 x hx).2⟩
    · have h := g.row l hl
      unfold routeOk
      simp only [Bool.and_eq_true, decide_eq_true_eq]
      refine ⟨⟨⟨h.1, h.2.1⟩, (minU_all l 1 h.1).2 fun x hx => (h.2.2 x hx).1⟩, ?_⟩
      rw [shl_pow g.t8]
      have := (maxU_all l (2 ^ T.length - 1) h.1).2 fun x hx => by have := (h.2.2 x hx).2; omega
      omega
end Go.Proofs.Ytjgbdicbdlollaa.B
namespace Go.Proofs.Ytjgbdicbdlollaa.B
open Go.RowKit Go.Sort Go.Proofs.YtjgbdicbdlollaaW.PrintWords Go.Proofs.YtjgbdicbdlollaaW.PrintLast Go.Proofs.YtjgbdicbdlollaaW.PrintMore
set_option linter.unusedVariables false
set_option linter.unusedSimpArgs false
def Agree (i : Nat) (a b : List Int) : Prop := ∀ j : Nat, j < i → rd a (j : Int) = rd b (j : Int)
def LexLe (n : Nat) (b c : List Int) : Prop := b = c ∨ ∃ j : Nat, j < n ∧ Agree j b c ∧ rd b (j : Int) < rd c (j : Int)
theorem agree_all {n : Nat} {a b : List Int} (ha : a.length = n) (hb : b.length = n) (h : Agree n a b) : a = b := by
  refine List.ext_getElem (by omega) fun i h1 h2 => ?_
  rw [← rdN a i h1, ← rdN b i h2]
  exact h i (by omega)
theorem rd_set_eq (l : List Int) (i : Nat) (v : Int) (h : i < l.length) : rd (l.set i v) (i : Int) = v := by
  rw [rdN _ i (by simpa using h)]; simp
theorem rd_set_ne (l : List Int) (i j : Nat) (v : Int) (h : j ≠ i) : rd (l.set i v) (j : Int) = rd l (j : Int) := by
  unfold rd
  simp only [Int.toNat_natCast, List.getD_eq_getElem?_getD]
  rw [List.getElem?_set_ne (fun e => h e.symm)]
abbrev tot (R T : List (List Int)) (c : List Int) : Int := totF R T c R.length
theorem visB_ev {R T : List (List Int)} {ch : List Int} (g : GameOk R T) (h : ChOk R ch) (s : List Int × Int) : Ev (fun k => visB k R T s ch) (if s.1 = [] ∨ tot R T ch < s.2 then (ch, tot R T ch) else s) := by
  have h5 := g.r5
  have hl := h.len
  unfold visB
  refine Ev.bind (costs_ev g h) ?_
  by_cases hc : s.1 = [] ∨ tot R T ch < s.2
  · rw [show (if s.1 = [] ∨ tot R T ch < s.2 then (ch, tot R T ch) else s) = (ch, tot R T ch) from if_pos hc]
    refine Ev.congr (f := fun _ => some (ch, tot R T ch)) (fun k => ?_) (Ev.now _)
    rw [if_pos hc]
    unfold slices_Clone.f
    rw [if_pos (by omega)]
    rfl
  · rw [show (if s.1 = [] ∨ tot R T ch < s.2 then (ch, tot R T ch) else s) = s from if_neg hc]
    refine Ev.congr (f := fun _ => some s) (fun k => ?_) (Ev.now _)
    rw [if_neg hc]
structure Post (R T : List (List Int)) (i : Nat) (ch : List Int) (s : List Int × Int) (ch' : List Int) (s' : List Int × Int) : Prop where
  len : ch'.length = R.length
  agr : Agree i ch' ch
  low : ∀ c', ChOk R c' → Agree i c' ch → s'.2 ≤ tot R T c' ∧ (s'.2 = tot R T c' → s' = s ∨ LexLe R.length s'.1 c')
  own : s' = s ∨ (ChOk R s'.1 ∧ tot R T s'.1 = s'.2 ∧ Agree i s'.1 ch ∧ (s.1 = [] ∨ s'.2 < s.2))
  some_ : s'.1 ≠ []
theorem chok_ne {R T : List (List Int)} (g : GameOk R T) {c : List Int} (h : ChOk R c) : c ≠ [] := by
  intro e
  have := h.len
  have := g.r1
  subst e
  simp at *
  omega
structure Inv (R T : List (List Int)) (i : Nat) (ch0 : List Int) (s0 : List Int × Int) (r : Nat) (s : List Int × Int) : Prop where
  low : ∀ c', ChOk R c' → Agree i c' ch0 → rd c' (i : Int) < r → s.2 ≤ tot R T c' ∧ (s.2 = tot R T c' → s = s0 ∨ LexLe R.length s.1 c')
  own : s = s0 ∨ (ChOk R s.1 ∧ tot R T s.1 = s.2 ∧ Agree i s.1 ch0 ∧ rd s.1 (i : Int) < r ∧ (s0.1 = [] ∨ s.2 < s0.2))
  some_ : 0 < r → s.1 ≠ []
theorem onLoop_ev {R T : List (List Int)} (g : GameOk R T) (f i : Nat) (hi : i < R.length) (ch0 : List Int) (s0 : List Int × Int)
    (IH : ∀ (ch : List Int) (s : List Int × Int), ch.length = R.length → (∀ j : Nat, j < i + 1 → 0 ≤ rd ch (j : Int) ∧ rd ch (j : Int) < ((rd_L12 R (j : Int)).length : Int)) → ∃ ch' s', Ev (fun k => onF R (visB k R T) f (i + 1) ch s) (ch', s') ∧ Post R T (i + 1) ch s ch' s')
    (h0 : ∀ j : Nat, j < i → 0 ≤ rd ch0 (j : Int) ∧ rd ch0 (j : Int) < ((rd_L12 R (j : Int)).length : Int)) :
    ∀ (m r : Nat) (ch : List Int) (s : List Int × Int), r + m = (rd_L12 R (i : Int)).length → ch.length = R.length → Agree i ch ch0 → Inv R T i ch0 s0 r s →
      ∃ ch' s', Ev (fun k => onLoop (fun c t => onF R (visB k R T) f (i + 1) c t) i m r ch s) (ch', s') ∧ Post R T i ch0 s0 ch' s'
  | 0, r, ch, s, hr, hl, ha, hv => by
    have hrow := g.row _ (rdL_mem R i hi)
    refine ⟨ch, s, Ev.now _, ⟨hl, ha, fun c' hc' hag => hv.low c' hc' hag ?_, ?_, hv.some_ (by omega)⟩⟩
    · have := hc'.ok i hi; omega
    · rcases hv.own with h | ⟨h1, h2, h3, h4, h5⟩
      · exact Or.inl h
      · exact Or.inr ⟨h1, h2, h3, h5⟩
  | m + 1, r, ch, s, hr, hl, ha, hv => by
    have hset : ∀ j : Nat, j < i → rd (ch.set i (r : Int)) (j : Int) = rd ch0 (j : Int) := fun j hj => by
      rw [rd_set_ne ch i j _ (by omega)]; exact ha j hj
    have hseti : rd (ch.set i (r : Int)) (i : Int) = r := rd_set_eq ch i _ (by omega)
    obtain ⟨ch1, s1, he, hp⟩ := IH (ch.set i (r : Int)) s (by simpa using hl) (fun j hj => by
      by_cases e : j = i
      · subst e; rw [hseti]; omega
      · rw [hset j (by omega)]; exact h0 j (by omega))
    have hv1 : Inv R T i ch0 s0 (r + 1) s1 := by
      refine ⟨fun c' hc' hag hlt => ?_, ?_, fun _ => hp.some_⟩
      · by_cases hlr : rd c' (i : Int) < r
        · have hA := hv.low c' hc' hag hlr
          rcases hp.own with e | ⟨h1, h2, h3, h4⟩
          · rw [e]; exact hA
          · rcases h4 with h4 | h4
            · have := (hc'.ok i hi).1
              exact absurd h4 (hv.some_ (by omega))
            · exact ⟨by omega, fun h => by omega⟩
        · have hagr : Agree (i + 1) c' (ch.set i (r : Int)) := by
            intro j hj
            by_cases e : j = i
            · subst e; rw [hseti]; omega
            · rw [hset j (by omega)]; exact hag j (by omega)
          have hA := hp.low c' hc' hagr
          refine ⟨hA.1, fun h => ?_⟩
          rcases hA.2 h with e | e
          · rcases hv.own with e2 | ⟨h1, h2, h3, h4, h5⟩
            · exact Or.inl (e.trans e2)
            · right
              rw [e]
              exact Or.inr ⟨i, hi, fun j hj => (h3 j hj).trans (hag j hj).symm, by omega⟩
          · exact Or.inr e
      · rcases hp.own with e | ⟨h1, h2, h3, h4⟩
        · rw [e]
          rcases hv.own with e2 | ⟨h1, h2, h3, h4, h5⟩
          · exact Or.inl e2
          · exact Or.inr ⟨h1, h2, h3, by omega, h5⟩
        · right
          refine ⟨h1, h2, fun j hj => (h3 j (by omega)).trans (hset j hj), ?_, ?_⟩
          · rw [h3 i (by omega), hseti]; omega
          · rcases hv.own with e2 | ⟨k1, k2, k3, k4, k5⟩
            · rw [← e2]; exact h4
            · rcases h4 with h4 | h4
              · exact absurd h4 (chok_ne g k1)
              · rcases k5 with k5 | k5
                · exact Or.inl k5
                · exact Or.inr (by omega)
    obtain ⟨ch2, s2, he2, hp2⟩ := onLoop_ev g f i hi ch0 s0 IH h0 m (r + 1) ch1 s1 (by omega) hp.len (fun j hj => (hp.agr j (by omega)).trans (hset j hj)) hv1
    exact ⟨ch2, s2, Ev.bind he he2, hp2⟩
theorem onF_ev {R T : List (List Int)} (g : GameOk R T) : ∀ (f i : Nat), i + f = R.length → ∀ (ch : List Int) (s : List Int × Int), ch.length = R.length → (∀ j : Nat, j < i → 0 ≤ rd ch (j : Int) ∧ rd ch (j : Int) < ((rd_L12 R (j : Int)).length : Int)) →
    ∃ ch' s', Ev (fun k => onF R (visB k R T) f i ch s) (ch', s') ∧ Post R T i ch s ch' s'
  | 0, i, hi, ch, s, hl, h0 => by
    have hch : ChOk R ch := ⟨hl, fun j hj => h0 j (by omega)⟩
    have hvis := visB_ev g hch s
    refine ⟨ch, _, Ev.bind hvis (Ev.now _), ⟨hl, fun _ _ => rfl, fun c' hc' hag => ?_, ?_, ?_⟩⟩
    · have e : c' = ch := agree_all (n := R.length) hc'.len hl (fun j hj => hag j (by omega))
      subst e
      split
      · exact ⟨Int.le_refl _, fun _ => Or.inr (Or.inl rfl)⟩
      · rename_i hc
        refine ⟨?_, fun _ => Or.inl rfl⟩
        rcases Int.lt_or_le (tot R T c') s.2 with h | h
        · exact absurd (Or.inr h) hc
        · exact h
    · split
      · rename_i hc; exact Or.inr ⟨hch, rfl, fun _ _ => rfl, hc⟩
      · exact Or.inl rfl
    · split
      · exact chok_ne g hch
      · rename_i hc; exact fun e => hc (Or.inl e)
  | f + 1, i, hi, ch, s, hl, h0 => by
    have := onLoop_ev g f i (by omega) ch s (fun c t h1 h2 => onF_ev g f (i + 1) (by omega) c t h1 h2) h0 (rd_L12 R (i : Int)).length 0 ch s (by omega) hl (fun _ _ => rfl)
      ⟨fun c' hc' hag hlt => by have := (hc'.ok i (by omega)).1; omega, Or.inl rfl, fun h => absurd h (by omega)⟩
    exact this
/-- Best answers with the first of the least choices. -/
theorem best_ev {R T : List (List Int)} (g : GameOk R T) : ∃ b, ChOk R b ∧ Ev (fun k => jam_Best.f k R T) (b, tot R T b, 0) ∧ ∀ c, ChOk R c → tot R T b ≤ tot R T c ∧ (tot R T b = tot R T c → LexLe R.length b c) := by
  obtain ⟨ch', s', he, hp⟩ := onF_ev g R.length 0 (by omega) (List.replicate R.length 0) ([], 0) (by simp) (fun j hj => absurd hj (by omega))
  rcases hp.own with e | ⟨h1, h2, h3, h4⟩
  · exact absurd (by rw [e]) hp.some_
  · refine ⟨s'.1, h1, ?_, fun c hc => ?_⟩
    · unfold jam_Best.f
      refine Ev.congr (fun k => if_pos ((readOk_iff R T).2 g)) (Ev.bind he ?_)
      rw [h2]
      exact Ev.now _
    · have hA := hp.low c hc (fun j hj => absurd hj (by omega))
      rw [h2]
      refine ⟨hA.1, fun h => ?_⟩
      rcases hA.2 h with e | e
      · exact absurd (by rw [e]) hp.some_
      · exact e
end Go.Proofs.Ytjgbdicbdlollaa.B
namespace Go.Proofs.Ytjgbdicbdlollaa.B
open Go.RowKit Go.Sort Go.Proofs.YtjgbdicbdlollaaW.PrintWords Go.Proofs.YtjgbdicbdlollaaW.PrintLast Go.Proofs.YtjgbdicbdlollaaW.PrintMore
set_option linter.unusedVariables false
set_option linter.unusedSimpArgs false
set_option linter.unusedSectionVars false
section
variable {R T : List (List Int)} {c : List Int} (g : GameOk R T) (h : ChOk R c)
include g h
theorem loads_l1 (r : List Int) (i : Nat) (hi : i < R.length) (hn : Ev (fun k => trishawref02_loads.l0 k c (mapR T.length (uF R c (i + 1))) ((i + 1 : Nat) : Int) R T) r) : ∀ (m k : Nat), k + m = T.length →
    Ev (fun n => trishawref02_loads.l1 n c (mapR T.length (fun j => if j < k then uF R c (i + 1) j else uF R c i j)) (i : Int) (k : Int) R T) r
  | 0, k, hk => by
    have h5 := g.r5
    rw [mapR_congr (g := uF R c (i + 1)) (fun j hj => if_pos (by omega))]
    refine Ev.step (fun n => ?_) hn
    simp only [trishawref02_loads.l1]
    rw [if_neg (by rw [mapR_len]; omega), wrapN i (by omega)]
  | m + 1, k, hk => by
    have h5 := g.r5
    have h8 := g.t8
    have hl := h.len
    have hb := rte_b g h hi
    have hp := pow_b g.t8
    have hc := h.ok i hi
    have hbk := bk_and (x := rte R c i) (k := k) (by omega) (by omega) (by omega)
    have hu := uF_b g h (k := k) (by omega) i (by omega)
    have ih := loads_l1 r i hi hn m (k + 1) (by omega)
    refine Ev.step (fun n => ?_) ih
    simp only [trishawref02_loads.l1]
    rw [if_pos (by rw [mapR_len]; omega), if_pos (by omega), if_pos (by omega), if_pos (by omega), if_pos (by omega), if_pos hc.1, if_pos hc.2, mapR_rd (by omega), if_neg (by omega), show rd (rd_L12 R (i : Int)) (rd c (i : Int)) = rte R c i from rfl, hbk.2.1, wsm (by unfold sm; omega), wrapN k (by omega), Int.toNat_natCast, mapR_set]
    congr 1
    refine mapR_congr fun j hj => ?_
    by_cases h1 : j = k
    · subst h1; rw [if_pos rfl, if_pos (by omega)]; rfl
    · rw [if_neg h1]
      by_cases h2 : j < k
      · rw [if_pos h2, if_pos (by omega)]
      · rw [if_neg h2, if_neg (by omega)]
theorem loads_l0 : ∀ (m i : Nat), i + m = R.length → Ev (fun n => trishawref02_loads.l0 n c (mapR T.length (uF R c i)) (i : Int) R T) (mapR T.length (uF R c R.length))
  | 0, i, hi => by
    have e : i = R.length := by omega
    subst e
    have hl := h.len
    refine Ev.step (f := fun _ => some (mapR T.length (uF R c R.length))) (fun n => ?_) (Ev.now _)
    simp only [trishawref02_loads.l0]
    rw [if_neg (by omega)]
  | m + 1, i, hi => by
    have hl := h.len
    have h5 := g.r5
    have ih := loads_l0 m (i + 1) (by omega)
    have hin := loads_l1 g h _ i (by omega) ih T.length 0 (by omega)
    rw [mapR_congr (g := uF R c i) (fun j hj => if_neg (by omega))] at hin
    refine Ev.step (fun n => ?_) hin
    simp only [trishawref02_loads.l0]
    rw [if_pos (by omega)]
    rfl
theorem loads_ev : Ev (fun n => trishawref02_loads.f n R T c) (mapR T.length (uF R c R.length)) := by
  have h8 := g.t8
  have := loads_l0 g h R.length 0 (by omega)
  rw [show mapR T.length (uF R c 0) = List.replicate T.length (0 : Int) from (mapR_zero _).symm] at this
  refine Ev.congr (fun n => ?_) this
  unfold trishawref02_loads.f
  rw [if_pos (Int.natCast_nonneg _), Int.toNat_natCast, if_pos (by omega)]
  rfl
theorem cost_l0 (i : Nat) (hi : i < R.length) : ∀ (m k : Nat) (a : Int), k + m = T.length → 0 ≤ a → a ≤ 1000 * k → a + payS R T c i m k = cst R T c i →
    Ev (fun n => trishawref02_cost.l0 n c (i : Int) (mapR T.length (uF R c R.length)) a (k : Int) R T) (cst R T c i)
  | 0, k, a, hk, a0, a1, ha => by
    have e : a = cst R T c i := by simp only [payS] at ha; omega
    subst e
    refine Ev.step (f := fun _ => some (cst R T c i)) (fun n => ?_) (Ev.now _)
    simp only [trishawref02_cost.l0]
    rw [if_neg (by rw [mapR_len]; omega)]
  | m + 1, k, a, hk, a0, a1, ha => by
    have h5 := g.r5
    have h8 := g.t8
    have hl := h.len
    have hb := rte_b g h hi
    have hp := pow_b g.t8
    have hc := h.ok i hi
    have hbk := bk_and (x := rte R c i) (k := k) (by omega) (by omega) (by omega)
    simp only [payS] at ha
    by_cases hb1 : bk (rte R c i) k = 1
    · rw [if_pos hb1] at ha
      have hpay := pay_b g h (k := k) (by omega) hi hb1
      have hu := uF_b g h (k := k) (by omega) R.length (Nat.le_refl _)
      have hu1 := uF_pos g h (k := k) (by omega) R.length (Nat.le_refl _) hi hb1
      have ht := g.toll _ (rdL_mem T k (by omega))
      have ih := cost_l0 i hi m (k + 1) (a + rd (rd_L12 T (k : Int)) (uF R c R.length k - 1)) (by omega) (by omega) (by omega) (by omega)
      refine Ev.step (fun n => ?_) ih
      simp only [trishawref02_cost.l0]
      rw [if_pos (by rw [mapR_len]; omega), if_pos (by omega), if_pos (by omega), if_pos (by omega), if_pos hc.1, if_pos hc.2, if_pos (by omega), show rd (rd_L12 R (i : Int)) (rd c (i : Int)) = rte R c i from rfl, hbk.2.1, if_pos hb1, if_pos (by omega), mapR_rd (by omega), wsm (x := uF R c R.length k - 1) (by unfold sm; omega), if_pos (by omega), if_pos (by omega), wsm (by unfold sm; omega), wrapN k (by omega)]
    · rw [if_neg hb1] at ha
      have ih := cost_l0 i hi m (k + 1) a (by omega) (by omega) (by omega) (by omega)
      refine Ev.step (fun n => ?_) ih
      simp only [trishawref02_cost.l0]
      rw [if_pos (by rw [mapR_len]; omega), if_pos (by omega), if_pos (by omega), if_pos (by omega), if_pos hc.1, if_pos hc.2, if_pos (by omega), show rd (rd_L12 R (i : Int)) (rd c (i : Int)) = rte R c i from rfl, hbk.2.1, if_neg hb1, wrapN k (by omega)]
theorem cost_ev (i : Nat) (hi : i < R.length) : Ev (fun n => trishawref02_cost.f n R T c (i : Int)) (cst R T c i) := by
  unfold trishawref02_cost.f
  exact Ev.bind (loads_ev g h) (cost_l0 g h i hi T.length 0 0 (by omega) (by omega) (by omega) (by unfold cst; omega))
theorem total_l0 : ∀ (m i : Nat), i + m = R.length → Ev (fun n => trishawref02_total.l0 n c (totF R T c i) (i : Int) R T) (tot R T c)
  | 0, i, hi => by
    have e : i = R.length := by omega
    subst e
    have hl := h.len
    refine Ev.step (f := fun _ => some (tot R T c)) (fun n => ?_) (Ev.now _)
    simp only [trishawref02_total.l0]
    rw [if_neg (by omega)]
  | m + 1, i, hi => by
    have hl := h.len
    have h5 := g.r5
    have hcb := cst_b g h (i := i) (by omega)
    have htb := totF_b g h i (by omega)
    have ih := total_l0 m (i + 1) (by omega)
    simp only [totF] at ih
    refine Ev.step (fun n => ?_) (Ev.bind (f := fun n t => trishawref02_total.l0 n c (wrap64 (totF R T c i + t)) (wrap64 ((i : Int) + 1)) R T) (cost_ev g h i (by omega)) (Ev.congr (fun n => by rw [wsm (by unfold sm; omega), wrapN i (by omega)]) ih))
    simp only [trishawref02_total.l0]
    rw [if_pos (by omega)]
theorem total_ev : Ev (fun n => trishawref02_total.f n R T c) (tot R T c) := by
  unfold trishawref02_total.f
  exact total_l0 g h R.length 0 (by omega)
end
/-- What drivers pay on a street, from the u-th on. -/
def pIn (t : List Int) : Nat → Nat → Int
  | 0, _ => 0
  | m + 1, u => rd t (u : Int) + pIn t m (u + 1)
def pO (R T : List (List Int)) (c : List Int) : Nat → Nat → Int
  | 0, _ => 0
  | m + 1, k => pIn (rd_L12 T (k : Int)) (uF R c R.length k).toNat 0 + pO R T c m (k + 1)
abbrev pot (R T : List (List Int)) (c : List Int) : Int := pO R T c T.length 0
section
variable {R T : List (List Int)} {c : List Int} (g : GameOk R T) (h : ChOk R c)
include g
include h
end
section
variable {R T : List (List Int)} (hR : R.length ≤ 20) (hT : T.length ≤ 20) (hr : ∀ x ∈ R, x.length ≤ 20) (ht : ∀ x ∈ T, x.length ≤ 20)
include hR hT hr ht
end
end Go.Proofs.Ytjgbdicbdlollaa.B
namespace Go.Proofs.Ytjgbdicbdlollaa.B
open Go.RowKit Go.Sort Go.Proofs.YtjgbdicbdlollaaW.PrintWords Go.Proofs.YtjgbdicbdlollaaW.PrintLast Go.Proofs.YtjgbdicbdlollaaW.PrintMore
set_option linter.unusedVariables false
set_option linter.unusedSimpArgs false
set_option linter.unusedSectionVars false
theorem chok_set {R : List (List Int)} {c : List Int} (h : ChOk R c) {i r : Nat} (hr : r < (rd_L12 R (i : Int)).length) : ChOk R (c.set i (r : Int)) := by
  refine ⟨by simpa using h.len, fun j hj => ?_⟩
  by_cases e : j = i
  · subst e
    rw [rd_set_eq c j _ (by have := h.len; omega)]
    omega
  · rw [rd_set_ne c i j _ e]
    exact h.ok j hj
theorem rte_ne {R : List (List Int)} (c : List Int) (i j : Nat) (v : Int) (h : j ≠ i) : rte R (c.set i v) j = rte R c j := by
  unfold rte
  rw [rd_set_ne c i j v h]
theorem uF_set {R : List (List Int)} (c : List Int) (i : Nat) (v : Int) (k : Nat) : ∀ m, uF R (c.set i v) m k = if i < m then uF R c m k - bk (rte R c i) k + bk (rte R (c.set i v) i) k else uF R c m k
  | 0 => by simp [uF]
  | m + 1 => by
    have ih := uF_set (R := R) c i v k m
    simp only [uF]
    by_cases h1 : i < m
    · rw [if_pos h1] at ih
      rw [if_pos (by omega), ih, rte_ne c i m v (by omega)]
      omega
    · rw [if_neg h1] at ih
      by_cases h2 : i = m
      · subst h2
        rw [if_pos (by omega), ih]
        omega
      · rw [if_neg (by omega), ih, rte_ne c i m v (by omega)]
theorem pIn_last (t : List Int) : ∀ (m u : Nat), pIn t (m + 1) u = pIn t m u + rd t ((u + m : Nat) : Int)
  | 0, u => by simp [pIn]
  | m + 1, u => by
    have ih := pIn_last t m (u + 1)
    rw [pIn, ih, pIn]
    rw [show u + 1 + m = u + (m + 1) by omega]
    omega
section
variable {R T : List (List Int)} {c : List Int} (g : GameOk R T) (h : ChOk R c)
include g h
theorem ros_street {i r : Nat} (hi : i < R.length) (hr : r < (rd_L12 R (i : Int)).length) {k : Nat} (hk : k < T.length) :
    pIn (rd_L12 T (k : Int)) (uF R (c.set i (r : Int)) R.length k).toNat 0 + (if bk (rte R c i) k = 1 then rd (rd_L12 T (k : Int)) (uF R c R.length k - 1) else 0)
      = pIn (rd_L12 T (k : Int)) (uF R c R.length k).toNat 0 + (if bk (rte R (c.set i (r : Int)) i) k = 1 then rd (rd_L12 T (k : Int)) (uF R (c.set i (r : Int)) R.length k - 1) else 0) := by
  have h2 := chok_set h hr
  have hu := uF_set (R := R) c i (r : Int) k R.length
  rw [if_pos hi] at hu
  have h8 := g.t8
  have hp := pow_b g.t8
  have b1 := rte_b g h hi
  have b2 := rte_b g h2 hi
  have d1 := (bk_and (x := rte R c i) (k := k) (by omega) (by omega) (by omega)).2.2
  have d2 := (bk_and (x := rte R (c.set i (r : Int)) i) (k := k) (by omega) (by omega) (by omega)).2.2
  have u1 := uF_b g h hk R.length (Nat.le_refl _)
  have u2 := uF_b g h2 hk R.length (Nat.le_refl _)
  generalize uF R (c.set i (r : Int)) R.length k = v at *
  have up : bk (rte R c i) k = 1 → 1 ≤ uF R c R.length k := uF_pos g h hk R.length (Nat.le_refl _) hi
  generalize uF R c R.length k = u at *
  generalize bk (rte R c i) k = a at *
  generalize bk (rte R (c.set i (r : Int)) i) k = b at *
  rcases d1 with rfl | rfl <;> rcases d2 with rfl | rfl
  · have : v = u := by omega
    subst this; simp
  · have e : v.toNat = u.toNat + 1 := by omega
    rw [e, pIn_last, if_neg (by decide), if_pos rfl, show ((0 + u.toNat : Nat) : Int) = v - 1 by omega]
    omega
  · have hpos := up rfl
    have e : u.toNat = v.toNat + 1 := by omega
    rw [e, pIn_last, if_pos rfl, if_neg (by decide), show ((0 + v.toNat : Nat) : Int) = u - 1 by omega]
    omega
  · have : v = u := by omega
    subst this; rfl
theorem ros_sum {i r : Nat} (hi : i < R.length) (hr : r < (rd_L12 R (i : Int)).length) : ∀ (m k : Nat), k + m = T.length → pO R T (c.set i (r : Int)) m k + payS R T c i m k = pO R T c m k + payS R T (c.set i (r : Int)) i m k
  | 0, k, hk => by simp [pO, payS]
  | m + 1, k, hk => by
    have ih := ros_sum hi hr m (k + 1) (by omega)
    have hs := ros_street g h hi hr (k := k) (by omega)
    simp only [pO, payS]
    omega
/-- The cost of a driver who takes another route, and the potential, change by the same number. -/
theorem rosenthal {i r : Nat} (hi : i < R.length) (hr : r < (rd_L12 R (i : Int)).length) : pot R T (c.set i (r : Int)) + cst R T c i = pot R T c + cst R T (c.set i (r : Int)) i :=
  ros_sum g h hi hr T.length 0 (by omega)
end
theorem set_self (c : List Int) (i : Nat) (hi : i < c.length) (r : Nat) (h : (r : Int) = rd c (i : Int)) : c.set i (r : Int) = c := by
  rw [h, rdN c i hi, List.set_getElem_self]
/-- The best route of a driver: from route r on, o the best so far. -/
def scan (R T : List (List Int)) (c : List Int) (i : Nat) : Nat → Nat → Option Nat → Int → Option Nat
  | 0, _, o, _ => o
  | m + 1, r, o, l => if cst R T (c.set i (r : Int)) i < l then scan R T c i m (r + 1) (some r) (cst R T (c.set i (r : Int)) i) else scan R T c i m (r + 1) o l
theorem scan_some (R T : List (List Int)) (c : List Int) (i : Nat) (L : Int) : ∀ (m r : Nat) (o : Option Nat) (l : Int), l ≤ L → (∀ q, o = some q → q < r ∧ cst R T (c.set i (q : Int)) i < L) → ∀ q, scan R T c i m r o l = some q → q < r + m ∧ cst R T (c.set i (q : Int)) i < L
  | 0, r, o, l, hl, ho, q, h => by simpa using ho q h
  | m + 1, r, o, l, hl, ho, q, h => by
    simp only [scan] at h
    split at h
    · rename_i hlt
      have := scan_some R T c i L m (r + 1) _ _ (by omega) (fun q' e => by injection e with e; subst e; exact ⟨by omega, by omega⟩) q h
      exact ⟨by omega, this.2⟩
    · have := scan_some R T c i L m (r + 1) _ _ hl (fun q' e => by have := ho q' e; exact ⟨by omega, this.2⟩) q h
      exact ⟨by omega, this.2⟩
/-- What a driver does who may. -/
abbrev moveF (R T : List (List Int)) (c : List Int) (i : Nat) : Option Nat := scan R T c i (rd_L12 R (i : Int)).length 0 none (cst R T c i)
def stepF (R T : List (List Int)) (c : List Int) : Nat → Nat → Option (List Int)
  | 0, _ => none
  | m + 1, i => match moveF R T c i with
    | some r => some (c.set i (r : Int))
    | none => stepF R T c m (i + 1)
theorem move_some {R T : List (List Int)} {c : List Int} {i q : Nat} (h : moveF R T c i = some q) : q < (rd_L12 R (i : Int)).length ∧ cst R T (c.set i (q : Int)) i < cst R T c i := by
  have := scan_some R T c i (cst R T c i) _ _ _ _ (Int.le_refl _) (fun q e => by cases e) q h
  exact ⟨by omega, this.2⟩
theorem stepF_some {R T : List (List Int)} {c : List Int} (g : GameOk R T) (h : ChOk R c) : ∀ (m i : Nat), i + m = R.length → ∀ c', stepF R T c m i = some c' → ChOk R c' ∧ pot R T c' < pot R T c
  | 0, _, _, c', e => by simp [stepF] at e
  | m + 1, i, hi, c', e => by
    simp only [stepF] at e
    split at e
    · rename_i r hr
      have hm := move_some hr
      injection e with e
      subst e
      have := rosenthal g h (i := i) (r := r) (by omega) hm.1
      exact ⟨chok_set h hm.1, by omega⟩
    · exact stepF_some g h m (i + 1) (by omega) c' e
def encC (b0 : Int) (o : Option Nat) : Int := match o with
  | some r => (r : Int)
  | none => b0
def encO (o : Option Nat) : Int := match o with
  | some r => (r : Int)
  | none => -1
section
variable {R T : List (List Int)} {c : List Int} (g : GameOk R T) (h : ChOk R c)
include g h
theorem step_l1 (U : List Unit) (hU : U = unitsOf T) (x5 : List Int) (i : Nat) (hi : i < R.length) (res : List Int) (fin : Option Nat)
    (hn : fin = none → Ev (fun k => jam_game_step.l0 k c x5 (c.length : Int) ((i + 1 : Nat) : Int) R U (payF T)) res) (hs : ∀ q, fin = some q → res = c.set i (q : Int)) : ∀ (m r : Nat) (x8 : List Int) (o : Option Nat) (l : Int), r + m = (rd_L12 R (i : Int)).length → x8.length = c.length → (∀ v : Int, x8.set i v = c.set i v) → scan R T c i m r o l = fin →
    Ev (fun k => jam_game_step.l1 k c x5 (i : Int) x8 (encO o) l (c.length : Int) (i : Int) ((rd_L12 R (i : Int)).length : Int) (r : Int) R U (payF T)) res
  | 0, r, x8, o, l, hr, hx, hv, hf => by
    have hl := h.len
    have h5 := g.r5
    simp only [scan] at hf
    subst hf
    cases ho : o with
    | none =>
      refine Ev.step (fun k => ?_) (hn ho)
      simp only [jam_game_step.l1]
      rw [if_neg (by omega), if_neg (by decide), wrapN i (by omega)]
    | some q =>
      rw [hs q ho]
      refine Ev.step (f := fun _ => some (c.set i (q : Int))) (fun k => ?_) (Ev.now _)
      simp only [jam_game_step.l1]
      rw [if_neg (by omega), if_pos (show encO (some q) ≥ 0 from Int.natCast_nonneg q), if_pos (by omega), if_pos (by omega), Int.toNat_natCast, hv]
      rfl
  | m + 1, r, x8, o, l, hr, hx, hv, hf => by
    have hl := h.len
    have hrow := g.row _ (rdL_mem R i hi)
    have h2 := chok_set h (i := i) (r := r) (by omega)
    have hc := costs_ev g h2
    simp only [scan] at hf
    have hset : ∀ v : Int, (c.set i (r : Int)).set i v = c.set i v := fun v => by rw [List.set_set]
    subst hU
    by_cases hlt : cst R T (c.set i (r : Int)) i < l
    · rw [if_pos hlt] at hf
      have ih := step_l1 _ rfl x5 i hi res fin hn hs m (r + 1) (c.set i (r : Int)) (some r) _ (by omega) (by simp) hset hf
      refine Ev.step (fun k => ?_) (Ev.bind (f := fun k (bt : List Int × Int) => if (i : Int) < (bt.1.length : Int) then (if (rd bt.1 (i : Int)) < l then (jam_game_step.l1 k c x5 (i : Int) (c.set i (r : Int)) (r : Int) (rd bt.1 (i : Int)) (c.length : Int) (i : Int) ((rd_L12 R (i : Int)).length : Int) (wrap64 ((r : Int) + 1)) R (unitsOf T) (payF T)) else (jam_game_step.l1 k c x5 (i : Int) (c.set i (r : Int)) (encO o) l (c.length : Int) (i : Int) ((rd_L12 R (i : Int)).length : Int) (wrap64 ((r : Int) + 1)) R (unitsOf T) (payF T))) else none) hc (Ev.congr (fun k => ?_) ih))
      · simp only [jam_game_step.l1]
        rw [if_pos (by omega), if_pos (by omega), if_pos (by omega), Int.toNat_natCast, hv, Option.bind_some]
      · show (if (i : Int) < ((mapR R.length (cst R T (c.set i (r : Int)))).length : Int) then _ else _) = _
        rw [mapR_len, if_pos (by omega)]
        simp only [mapR_rd hi]
        rw [if_pos hlt, wrapN r (by omega)]
        rfl
    · rw [if_neg hlt] at hf
      have ih := step_l1 _ rfl x5 i hi res fin hn hs m (r + 1) (c.set i (r : Int)) o l (by omega) (by simp) hset hf
      refine Ev.step (fun k => ?_) (Ev.bind (f := fun k (bt : List Int × Int) => if (i : Int) < (bt.1.length : Int) then (if (rd bt.1 (i : Int)) < l then (jam_game_step.l1 k c x5 (i : Int) (c.set i (r : Int)) (r : Int) (rd bt.1 (i : Int)) (c.length : Int) (i : Int) ((rd_L12 R (i : Int)).length : Int) (wrap64 ((r : Int) + 1)) R (unitsOf T) (payF T)) else (jam_game_step.l1 k c x5 (i : Int) (c.set i (r : Int)) (encO o) l (c.length : Int) (i : Int) ((rd_L12 R (i : Int)).length : Int) (wrap64 ((r : Int) + 1)) R (unitsOf T) (payF T))) else none) hc (Ev.congr (fun k => ?_) ih))
      · simp only [jam_game_step.l1]
        rw [if_pos (by omega), if_pos (by omega), if_pos (by omega), Int.toNat_natCast, hv, Option.bind_some]
      · show (if (i : Int) < ((mapR R.length (cst R T (c.set i (r : Int)))).length : Int) then _ else _) = _
        rw [mapR_len, if_pos (by omega)]
        simp only [mapR_rd hi]
        rw [if_neg hlt, wrapN r (by omega)]
theorem step_l0 : ∀ (m i : Nat), i + m = R.length → Ev (fun k => jam_game_step.l0 k c (mapR R.length (cst R T c)) (c.length : Int) (i : Int) R (unitsOf T) (payF T)) ((stepF R T c m i).getD [])
  | 0, i, hi => by
    have hl := h.len
    refine Ev.step (f := fun _ => some []) (fun k => ?_) (Ev.now _)
    simp only [jam_game_step.l0]
    rw [if_neg (by omega)]
  | m + 1, i, hi => by
    have hl := h.len
    have h5 := g.r5
    have ih := step_l0 m (i + 1) (by omega)
    have hin := step_l1 g h (unitsOf T) rfl (mapR R.length (cst R T c)) i (by omega) ((stepF R T c (m + 1) i).getD []) (moveF R T c i) (fun e => by simp only [stepF]; rw [e]; exact ih) (fun q e => by simp only [stepF]; rw [e]; rfl)
      (rd_L12 R (i : Int)).length 0 c none (cst R T c i) (by omega) rfl (fun _ => rfl) rfl
    refine Ev.step (fun k => ?_) hin
    simp only [jam_game_step.l0]
    unfold slices_Clone.f
    rw [if_pos (by omega), if_pos (by omega), Option.bind_some, if_pos (by omega), mapR_len, if_pos (by omega), if_pos (by omega), mapR_rd (by omega)]
    rfl
theorem step_ev : Ev (fun k => jam_game_step.f k R (unitsOf T) (payF T) c) ((stepF R T c R.length 0).getD []) := by
  unfold jam_game_step.f
  exact Ev.bind (costs_ev g h) (step_l0 g h R.length 0 (by omega))
theorem with_ev {i : Nat} (hi : i < R.length) (v : Int) : trishawref02_With.f c (i : Int) v = some (c.set i v) := by
  have hl := h.len
  have h5 := g.r5
  unfold trishawref02_With.f
  simp only [List.nil_append, Option.bind_some, List.length_nil]
  rw [if_pos (by omega), if_pos (by omega), if_pos (by omega), Int.toNat_natCast]
theorem better_l0 (i : Nat) (hi : i < R.length) (fin : Option Nat) (b0 : Int) : ∀ (m r : Nat) (o : Option Nat) (l : Int), r + m = (rd_L12 R (i : Int)).length → scan R T c i m r o l = fin →
    Ev (fun k => trishawref02_better.l0 k c (i : Int) (encC b0 o) l (r : Int) R T) (encC b0 fin)
  | 0, r, o, l, hr, hf => by
    simp only [scan] at hf
    subst hf
    refine Ev.step (f := fun _ => some (encC b0 o)) (fun k => ?_) (Ev.now _)
    simp only [trishawref02_better.l0]
    rw [if_pos (by omega), if_pos (by omega), if_neg (by omega)]
  | m + 1, r, o, l, hr, hf => by
    have hrow := g.row _ (rdL_mem R i hi)
    have h2 := chok_set h (i := i) (r := r) (by omega)
    have hc := cost_ev g h2 i hi
    simp only [scan] at hf
    by_cases hlt : cst R T (c.set i (r : Int)) i < l
    · rw [if_pos hlt] at hf
      have ih := better_l0 i hi fin b0 m (r + 1) (some r) _ (by omega) hf
      refine Ev.step (fun k => ?_) (Ev.bind (f := fun k t => if t < l then (trishawref02_better.l0 k c (i : Int) (r : Int) t (wrap64 ((r : Int) + 1)) R T) else (trishawref02_better.l0 k c (i : Int) (encC b0 o) l (wrap64 ((r : Int) + 1)) R T)) hc (Ev.congr (fun k => by rw [if_pos hlt, wrapN r (by omega)]; rfl) ih))
      simp only [trishawref02_better.l0]
      rw [if_pos (by omega), if_pos (by omega), if_pos (by omega), with_ev g h hi, Option.bind_some]
    · rw [if_neg hlt] at hf
      have ih := better_l0 i hi fin b0 m (r + 1) o l (by omega) hf
      refine Ev.step (fun k => ?_) (Ev.bind (f := fun k t => if t < l then (trishawref02_better.l0 k c (i : Int) (r : Int) t (wrap64 ((r : Int) + 1)) R T) else (trishawref02_better.l0 k c (i : Int) (encC b0 o) l (wrap64 ((r : Int) + 1)) R T)) hc (Ev.congr (fun k => by rw [if_neg hlt, wrapN r (by omega)]) ih))
      simp only [trishawref02_better.l0]
      rw [if_pos (by omega), if_pos (by omega), if_pos (by omega), with_ev g h hi, Option.bind_some]
theorem better_ev (i : Nat) (hi : i < R.length) : Ev (fun k => trishawref02_better.f k R T c (i : Int)) (encC (rd c (i : Int)) (moveF R T c i)) := by
  have hl := h.len
  unfold trishawref02_better.f
  exact Ev.congr (fun k => by rw [if_pos (by omega), if_pos (by omega)]) (Ev.bind (cost_ev g h i hi) (better_l0 g h i hi (moveF R T c i) (rd c (i : Int)) (rd_L12 R (i : Int)).length 0 none _ (by omega) rfl))
theorem rstep_l0 : ∀ (m i : Nat), i + m = R.length → Ev (fun k => trishawref02_step.l0 k c (i : Int) R T) ((stepF R T c m i).getD [], (stepF R T c m i).isSome)
  | 0, i, hi => by
    have hl := h.len
    refine Ev.step (f := fun _ => some ([], false)) (fun k => ?_) (Ev.now _)
    simp only [trishawref02_step.l0]
    rw [if_neg (by omega)]
  | m + 1, i, hi => by
    have hl := h.len
    have h5 := g.r5
    have ih := rstep_l0 m (i + 1) (by omega)
    refine Ev.step (fun k => by simp only [trishawref02_step.l0]; rw [if_pos (by omega)]) (Ev.bind (better_ev g h i (by omega)) ?_)
    simp only [stepF]
    cases hm : moveF R T c i with
    | none =>
      refine Ev.congr (fun k => ?_) ih
      rw [if_pos (by omega), if_pos (show encC (rd c (i : Int)) none = rd c (i : Int) from rfl), wrapN i (by omega)]
    | some q =>
      have hq := move_some hm
      have hne : (q : Int) ≠ rd c (i : Int) := by
        intro e
        have := set_self c i (by omega) q e
        rw [this] at hq
        omega
      refine Ev.congr (f := fun _ => some (c.set i (q : Int), true)) (fun k => ?_) (Ev.now _)
      rw [if_pos (by omega), if_neg (show ¬ encC (rd c (i : Int)) (some q) = rd c (i : Int) from hne), show encC (rd c (i : Int)) (some q) = (q : Int) from rfl, with_ev g h (by omega), Option.bind_some]
theorem rstep_ev : Ev (fun k => trishawref02_step.f k R T c) ((stepF R T c R.length 0).getD [], (stepF R T c R.length 0).isSome) := by
  unfold trishawref02_step.f
  exact rstep_l0 g h R.length 0 (by omega)
end
end Go.Proofs.Ytjgbdicbdlollaa.B
namespace Go.Proofs.Ytjgbdicbdlollaa.B
open Go.RowKit Go.Sort Go.Proofs.YtjgbdicbdlollaaW.PrintWords Go.Proofs.YtjgbdicbdlollaaW.PrintLast Go.Proofs.YtjgbdicbdlollaaW.PrintMore
set_option linter.unusedVariables false
set_option linter.unusedSimpArgs false
set_option linter.unusedSectionVars false
abbrev stp (R T : List (List Int)) (c : List Int) : Option (List Int) := stepF R T c R.length 0
end Go.Proofs.Ytjgbdicbdlollaa.B
namespace Go.Proofs.Ytjgbdicbdlollaa.B
open Go.RowKit Go.Sort Go.Proofs.YtjgbdicbdlollaaW.PrintWords Go.Proofs.YtjgbdicbdlollaaW.PrintLast Go.Proofs.YtjgbdicbdlollaaW.PrintMore
set_option linter.unusedVariables false
set_option linter.unusedSimpArgs false
set_option linter.unusedSectionVars false
theorem visS_ev {R T : List (List Int)} {ch : List Int} (g : GameOk R T) (h : ChOk R ch) (s : List (List Int)) (hs : s.length < 1000000) : Ev (fun k => visS k R T s ch) (s ++ if stp R T ch = none then [ch] else []) := by
  have h5 := g.r5
  have hl := h.len
  have a1 := step_ev g h
  unfold visS
  cases hc : stepF R T ch R.length 0 with
  | none =>
    rw [hc] at a1
    rw [if_pos hc]
    replace a1 : Ev (fun k => jam_game_step.f k R (unitsOf T) (payF T) ch) [] := a1
    refine Ev.bind a1 (Ev.congr (f := fun _ => some (s ++ [ch])) (fun k => ?_) (Ev.now _))
    rw [if_pos rfl]
    unfold slices_Clone.f
    rw [if_pos (by omega), Option.bind_some, if_pos hs]
  | some c' =>
    rw [hc] at a1
    have hc' := stepF_some g h R.length 0 (by omega) c' hc
    rw [if_neg (show ¬ stp R T ch = none by show ¬ stepF R T ch R.length 0 = none; rw [hc]; simp), List.append_nil]
    exact Ev.bind a1 (Ev.congr (fun k => if_neg (chok_ne g hc'.1)) (Ev.now _))
end Go.Proofs.Ytjgbdicbdlollaa.B
namespace Go.Proofs.Ytjgbdicbdlollaa.B
open Go.RowKit Go.Sort Go.Proofs.YtjgbdicbdlollaaW.PrintWords Go.Proofs.YtjgbdicbdlollaaW.PrintLast Go.Proofs.YtjgbdicbdlollaaW.PrintMore
set_option linter.unusedVariables false
set_option linter.unusedSimpArgs false
set_option linter.unusedSectionVars false
theorem chL_out (F : List Int → List (List Int)) (now : List Int) : ∀ (m r : Nat) (out : List (List Int)), chL F now m r out = out ++ chL F now m r []
  | 0, _, out => by simp [chL]
  | m + 1, r, out => by
    show chL F now m (r + 1) (out ++ F (now ++ [(r : Int)])) = out ++ chL F now m (r + 1) ([] ++ F (now ++ [(r : Int)]))
    rw [chL_out F now m (r + 1) (out ++ _), chL_out F now m (r + 1) ([] ++ _), List.nil_append, List.append_assoc]
theorem chL_mem (F : List Int → List (List Int)) (now : List Int) (x : List Int) : ∀ (m r : Nat), x ∈ chL F now m r [] → ∃ q : Nat, r ≤ q ∧ q < r + m ∧ x ∈ F (now ++ [(q : Int)])
  | 0, _, h => by simp [chL] at h
  | m + 1, r, h => by
    have h2 : x ∈ chL F now m (r + 1) ([] ++ F (now ++ [(r : Int)])) := h
    rw [chL_out, List.nil_append, List.mem_append] at h2
    rcases h2 with h2 | h2
    · exact ⟨r, Nat.le_refl _, by omega, h2⟩
    · obtain ⟨q, h3, h4, h5⟩ := chL_mem F now x m (r + 1) h2
      exact ⟨q, by omega, by omega, h5⟩
theorem rd_app_old (l : List Int) (v : Int) (j : Nat) (h : j < l.length) : rd (l ++ [v]) (j : Int) = rd l (j : Int) := by
  unfold rd
  simp only [Int.toNat_natCast, List.getD_eq_getElem?_getD]
  rw [List.getElem?_append_left h]
theorem rd_app_new (l : List Int) (v : Int) : rd (l ++ [v]) (l.length : Int) = v := by
  unfold rd
  simp [List.getD_eq_getElem?_getD]
/-- All of them are choices. -/
theorem chF_ok (R : List (List Int)) : ∀ (f : Nat) (now : List Int), now.length + f = R.length → (∀ j : Nat, j < now.length → 0 ≤ rd now (j : Int) ∧ rd now (j : Int) < ((rd_L12 R (j : Int)).length : Int)) → ∀ x, x ∈ chF R f now → ChOk R x
  | 0, now, hl, h0, x, hx => by
    have : x = now := by simpa [chF] using hx
    subst this
    exact ⟨by omega, fun j hj => h0 j (by omega)⟩
  | f + 1, now, hl, h0, x, hx => by
    obtain ⟨q, _, hq, hm⟩ := chL_mem _ now x _ _ hx
    refine chF_ok R f (now ++ [(q : Int)]) (by simp; omega) (fun j hj => ?_) x hm
    have hj2 : j < now.length + 1 := by simpa using hj
    by_cases e : j = now.length
    · subst e
      rw [rd_app_new]
      omega
    · rw [rd_app_old _ _ _ (by omega)]
      exact h0 j (by omega)
theorem chL_pos (F : List Int → List (List Int)) (now : List Int) (h : ∀ q : Nat, 0 < (F (now ++ [(q : Int)])).length) (m r : Nat) (hm : 0 < m) : 0 < (chL F now m r []).length := by
  cases m with
  | zero => omega
  | succ m =>
    show 0 < (chL F now m (r + 1) ([] ++ F (now ++ [(r : Int)]))).length
    rw [chL_out, List.nil_append, List.length_append]
    have := h r
    omega
theorem chF_pos (R : List (List Int)) (hr : ∀ i : Nat, i < R.length → 0 < (rd_L12 R (i : Int)).length) : ∀ (f : Nat) (now : List Int), now.length + f = R.length → 0 < (chF R f now).length
  | 0, now, hl => by simp [chF]
  | f + 1, now, hl => chL_pos _ now (fun q => chF_pos R hr f _ (by simp; omega)) _ _ (hr now.length (by omega))
theorem take_agree {n i : Nat} {a b : List Int} (ha : a.length = n) (hb : b.length = n) (hi : i ≤ n) (h : Agree i a b) : a.take i = b.take i := by
  refine List.ext_getElem (by simp; omega) fun j h1 h2 => ?_
  have hj : j < i := by simp at h1; omega
  rw [List.getElem_take, List.getElem_take, ← rdN a j (by omega), ← rdN b j (by omega)]
  exact h j hj
theorem take_set_succ {l : List Int} {i : Nat} (v : Int) (hi : i < l.length) : (l.set i v).take (i + 1) = l.take i ++ [v] := by
  rw [List.take_add_one, List.getElem?_set_self hi]
  simp [List.take_set_of_le]
/-- The walk over the choices folds the visitor over the reference's list. -/
theorem onLoop_fold {σ : Type} {R : List (List Int)} (vis : Nat → σ → List Int → Option σ) (V : σ → List Int → σ) (B : σ → Nat) (M : Nat) (f i : Nat) (hi : i < R.length) (ch0 : List Int) (hl0 : ch0.length = R.length)
    (IH : ∀ (ch : List Int) (s : σ), ch.length = R.length → (∀ j : Nat, j < i + 1 → 0 ≤ rd ch (j : Int) ∧ rd ch (j : Int) < ((rd_L12 R (j : Int)).length : Int)) → B s + 5 ^ f ≤ M → ∃ ch', Ev (fun k => onF R (vis k) f (i + 1) ch s) (ch', (chF R f (ch.take (i + 1))).foldl V s) ∧ ch'.length = R.length ∧ Agree (i + 1) ch' ch ∧ B ((chF R f (ch.take (i + 1))).foldl V s) ≤ B s + 5 ^ f)
    (h0 : ∀ j : Nat, j < i → 0 ≤ rd ch0 (j : Int) ∧ rd ch0 (j : Int) < ((rd_L12 R (j : Int)).length : Int)) :
    ∀ (m r : Nat) (ch : List Int) (s : σ), r + m = (rd_L12 R (i : Int)).length → ch.length = R.length → Agree i ch ch0 → B s + m * 5 ^ f ≤ M →
      ∃ ch', Ev (fun k => onLoop (fun c t => onF R (vis k) f (i + 1) c t) i m r ch s) (ch', (chL (fun c => chF R f c) (ch0.take i) m r []).foldl V s) ∧ ch'.length = R.length ∧ Agree i ch' ch0 ∧ B ((chL (fun c => chF R f c) (ch0.take i) m r []).foldl V s) ≤ B s + m * 5 ^ f
  | 0, r, ch, s, hr, hl, ha, hs => ⟨ch, Ev.now (ch, s), hl, ha, by simp [chL]⟩
  | m + 1, r, ch, s, hr, hl, ha, hs => by
    rw [Nat.succ_mul] at hs
    have hset : ∀ j : Nat, j < i → rd (ch.set i (r : Int)) (j : Int) = rd ch0 (j : Int) := fun j hj => by
      rw [rd_set_ne ch i j _ (by omega)]; exact ha j hj
    have hseti : rd (ch.set i (r : Int)) (i : Int) = r := rd_set_eq ch i _ (by omega)
    obtain ⟨ch1, he, l1, a1, b1⟩ := IH (ch.set i (r : Int)) s (by simpa using hl) (fun j hj => by
      by_cases e : j = i
      · subst e; rw [hseti]; omega
      · rw [hset j (by omega)]; exact h0 j (by omega)) (by omega)
    have et : (ch.set i (r : Int)).take (i + 1) = ch0.take i ++ [(r : Int)] := by
      rw [take_set_succ _ (by omega), take_agree hl hl0 (by omega) ha]
    rw [et] at he b1
    obtain ⟨ch2, he2, l2, a2, b2⟩ := onLoop_fold vis V B M f i hi ch0 hl0 IH h0 m (r + 1) ch1 ((chF R f (ch0.take i ++ [(r : Int)])).foldl V s) (by omega) l1 (fun j hj => (a1 j (by omega)).trans (hset j hj)) (by omega)
    have e : (chL (fun c => chF R f c) (ch0.take i) (m + 1) r []).foldl V s = (chL (fun c => chF R f c) (ch0.take i) m (r + 1) []).foldl V ((chF R f (ch0.take i ++ [(r : Int)])).foldl V s) := by
      show (chL (fun c => chF R f c) (ch0.take i) m (r + 1) ([] ++ chF R f (ch0.take i ++ [(r : Int)]))).foldl V s = _
      rw [chL_out, List.nil_append, List.foldl_append]
    refine ⟨ch2, ?_, l2, a2, ?_⟩
    · rw [e]
      exact Ev.bind he he2
    · rw [e, Nat.succ_mul]
      omega
theorem onF_fold {σ : Type} {R : List (List Int)} (h5 : ∀ i : Int, (rd_L12 R i).length ≤ 5) (vis : Nat → σ → List Int → Option σ) (V : σ → List Int → σ) (B : σ → Nat) (M : Nat)
    (hv : ∀ s ch, ChOk R ch → B s < M → Ev (fun k => vis k s ch) (V s ch) ∧ B (V s ch) ≤ B s + 1) :
    ∀ (f i : Nat), i + f = R.length → ∀ (ch : List Int) (s : σ), ch.length = R.length → (∀ j : Nat, j < i → 0 ≤ rd ch (j : Int) ∧ rd ch (j : Int) < ((rd_L12 R (j : Int)).length : Int)) → B s + 5 ^ f ≤ M →
      ∃ ch', Ev (fun k => onF R (vis k) f i ch s) (ch', (chF R f (ch.take i)).foldl V s) ∧ ch'.length = R.length ∧ Agree i ch' ch ∧ B ((chF R f (ch.take i)).foldl V s) ≤ B s + 5 ^ f
  | 0, i, hi, ch, s, hl, h0, hs => by
    have hch : ChOk R ch := ⟨hl, fun j hj => h0 j (by omega)⟩
    obtain ⟨hvis, hb⟩ := hv s ch hch (by simp at hs; omega)
    have et : ch.take i = ch := List.take_of_length_le (by omega)
    refine ⟨ch, ?_, hl, fun _ _ => rfl, ?_⟩
    · rw [et]
      exact Ev.bind hvis (Ev.now _)
    · rw [et]; exact hb
  | f + 1, i, hi, ch, s, hl, h0, hs => by
    have hpw : (rd_L12 R (i : Int)).length * 5 ^ f ≤ 5 ^ (f + 1) := by rw [Nat.pow_succ, Nat.mul_comm (5 ^ f)]; exact Nat.mul_le_mul_right _ (h5 _)
    obtain ⟨ch', he, l2, a2, b2⟩ := onLoop_fold vis V B M f i (by omega) ch hl (fun c t h1 h2 h3 => onF_fold h5 vis V B M hv f (i + 1) (by omega) c t h1 h2 h3) h0 (rd_L12 R (i : Int)).length 0 ch s (by omega) hl (fun _ _ => rfl) (by omega)
    have el : (ch.take i).length = i := by rw [List.length_take]; omega
    have e : chF R (f + 1) (ch.take i) = chL (fun c => chF R f c) (ch.take i) (rd_L12 R (i : Int)).length 0 [] := by
      show chL (fun c => chF R f c) (ch.take i) (rd_L12 R ((ch.take i).length : Int)).length 0 [] = _
      rw [el]
    rw [e]
    exact ⟨ch', he, l2, a2, by omega⟩
def VS (R T : List (List Int)) (s : List (List Int)) (ch : List Int) : List (List Int) := s ++ if stp R T ch = none then [ch] else []
def VB (R T : List (List Int)) (s : List Int × Int) (ch : List Int) : List Int × Int := if s.1 = [] ∨ tot R T ch < s.2 then (ch, tot R T ch) else s
theorem GameOk.len5 {R T : List (List Int)} (g : GameOk R T) (i : Int) : (rd_L12 R i).length ≤ 5 := by
  by_cases hi : i.toNat < R.length
  · have e : rd_L12 R i = R[i.toNat] := by simp [rd_L12, List.getD, List.getElem?_eq_getElem hi]
    rw [e]
    exact (g.row _ (List.getElem_mem hi)).2.1
  · have e : rd_L12 R i = [] := by simp [rd_L12, List.getD, List.getElem?_eq_none (Nat.le_of_not_lt hi)]
    rw [e]; simp
/-- The reference's list. -/
abbrev allCh (R : List (List Int)) : List (List Int) := chF R R.length []
theorem all_ok {R : List (List Int)} {x : List Int} (h : x ∈ allCh R) : ChOk R x := chF_ok R R.length [] (by simp) (fun j hj => absurd hj (by simp)) x h
theorem allCh_len {R T : List (List Int)} (g : GameOk R T) : (allCh R).length ≤ 3125 := by
  have h1 := chF_len R g.len5 R.length []
  have h2 : 5 ^ R.length ≤ 5 ^ 5 := Nat.pow_le_pow_right (by omega) g.r5
  unfold allCh
  omega
theorem allCh_pos {R T : List (List Int)} (g : GameOk R T) : 0 < (allCh R).length := by
  refine chF_pos R (fun i hi => ?_) R.length [] (by simp)
  have := (g.row _ (rdL_mem R i hi)).1
  omega
theorem choices_f {R T : List (List Int)} (g : GameOk R T) : trishawref02_choices.f R T [] = some (allCh R) := by
  unfold trishawref02_choices.f
  exact if_pos ⟨rfl, g.r1, g.r5, List.all_eq_true.2 fun x hx => decide_eq_true (g.row x hx).2.1⟩
theorem drop_at {L : List (List Int)} {i : Nat} (h : i < L.length) : L.drop i = rd_L12 L (i : Int) :: L.drop (i + 1) := by
  rw [List.drop_eq_getElem_cons h]
  congr 1
  simp [rd_L12, List.getD, List.getElem?_eq_getElem h]
theorem wrapS (i : Nat) (h : i < 1000000) : wrap64 ((i : Int) + 1) = ((i + 1 : Nat) : Int) := by
  unfold wrap64
  omega
theorem VS_len (R T : List (List Int)) : ∀ (L : List (List Int)) (s : List (List Int)), (L.foldl (VS R T) s).length ≤ s.length + L.length
  | [], s => by simp
  | x :: L, s => by
    have := VS_len R T L (VS R T s x)
    have h : (VS R T s x).length ≤ s.length + 1 := by unfold VS; split <;> simp
    rw [List.foldl_cons, List.length_cons]
    omega
theorem VS_mem (R T : List (List Int)) : ∀ (L : List (List Int)) (s : List (List Int)) (x : List Int), x ∈ L.foldl (VS R T) s → x ∈ s ∨ x ∈ L
  | [], s, x, h => Or.inl h
  | y :: L, s, x, h => by
    rcases VS_mem R T L (VS R T s y) x h with h2 | h2
    · unfold VS at h2
      split at h2
      · rcases List.mem_append.1 h2 with h3 | h3
        · exact Or.inl h3
        · have : x = y := by simpa using h3
          exact Or.inr (by simp [this])
      · exact Or.inl (by simpa using h2)
    · exact Or.inr (List.mem_cons_of_mem _ h2)
theorem jsettled_fold {R T : List (List Int)} (g : GameOk R T) : Ev (fun k => jam_SettledS.f k R T) ((allCh R).foldl (VS R T) [], 0) := by
  have h2 : 5 ^ R.length ≤ 5 ^ 5 := Nat.pow_le_pow_right (by omega) g.r5
  obtain ⟨ch', he, _⟩ := onF_fold g.len5 (fun k => visS k R T) (VS R T) List.length 1000000 (fun s ch hc hs => ⟨visS_ev g hc s hs, by unfold VS; split <;> simp⟩) R.length 0 (by omega) (List.replicate R.length 0) [] (by simp) (fun j hj => absurd hj (by omega)) (by simp; omega)
  unfold jam_SettledS.f jam_Settled.f
  exact Ev.congr (fun k => if_pos ((readOk_iff R T).2 g)) (Ev.bind he (Ev.now _))
theorem jbest_fold {R T : List (List Int)} (g : GameOk R T) : Ev (fun k => jam_Best.f k R T) (((allCh R).foldl (VB R T) ([], 0)).1, ((allCh R).foldl (VB R T) ([], 0)).2, 0) := by
  have h2 : 5 ^ R.length ≤ 5 ^ 5 := Nat.pow_le_pow_right (by omega) g.r5
  obtain ⟨ch', he, _⟩ := onF_fold g.len5 (fun k => visB k R T) (VB R T) (fun _ => 0) 1000000 (fun s ch hc hs => ⟨visB_ev g hc s, by omega⟩) R.length 0 (by omega) (List.replicate R.length 0) ([], 0) (by simp) (fun j hj => absurd hj (by omega)) (by omega)
  unfold jam_Best.f
  exact Ev.congr (fun k => if_pos ((readOk_iff R T).2 g)) (Ev.bind he (Ev.now _))
theorem rsettled_l0 {R T : List (List Int)} (g : GameOk R T) (L : List (List Int)) (hL : L.length ≤ 3125) (hok : ∀ x, x ∈ L → ChOk R x) : ∀ (m i : Nat) (s : List (List Int)), i + m = L.length → s.length ≤ i → Ev (fun k => trishawref02_Settled.l0 k s L (i : Int) R T) ((L.drop i).foldl (VS R T) s, 0)
  | 0, i, s, hi, hs => by
    refine Ev.step (fun k => ?_) (Ev.now _)
    simp only [trishawref02_Settled.l0]
    rw [if_neg (by omega), List.drop_of_length_le (by omega)]
    rfl
  | m + 1, i, s, hi, hs => by
    have hx : i < L.length := by omega
    rw [drop_at hx, List.foldl_cons]
    have hc := hok _ (rdL_mem L i hx)
    have hst := rstep_ev g hc
    refine Ev.step (f := fun k => (trishawref02_step.f k R T (rd_L12 L (i : Int))).bind fun bt107 => if bt107.2 = true then trishawref02_Settled.l0 k s L (wrap64 ((i : Int) + 1)) R T else if s.length < 5864062014805 then trishawref02_Settled.l0 k (s ++ [rd_L12 L (i : Int)]) L (wrap64 ((i : Int) + 1)) R T else none) (fun k => ?_) (Ev.bind hst ?_)
    · simp only [trishawref02_Settled.l0]
      rw [if_pos (by omega), if_pos (by omega)]
    · rw [wrapS i (by omega)]
      cases hq : stepF R T (rd_L12 L (i : Int)) R.length 0 with
      | none =>
        have e : VS R T s (rd_L12 L (i : Int)) = s ++ [rd_L12 L (i : Int)] := by
          unfold VS
          rw [if_pos (show stp R T (rd_L12 L (i : Int)) = none from hq)]
        rw [e]
        have ih := rsettled_l0 g L hL hok m (i + 1) (s ++ [rd_L12 L (i : Int)]) (by omega) (by simp; omega)
        refine Ev.congr (fun k => ?_) ih
        rw [if_neg (by simp), if_pos (by omega)]
      | some c' =>
        have e : VS R T s (rd_L12 L (i : Int)) = s := by
          unfold VS
          rw [if_neg (show ¬ stp R T (rd_L12 L (i : Int)) = none by show ¬ stepF _ _ _ _ _ = none; rw [hq]; simp), List.append_nil]
        rw [e]
        have ih := rsettled_l0 g L hL hok m (i + 1) s (by omega) (by omega)
        refine Ev.congr (fun k => ?_) ih
        rw [if_pos (by simp)]
theorem rbest_l0 {R T : List (List Int)} (g : GameOk R T) (L : List (List Int)) (hL : L.length ≤ 3125) (hok : ∀ x, x ∈ L → ChOk R x) : ∀ (m i b : Nat) (least : Int), i + m = L.length → b < L.length → Ev (fun k => trishawref02_Best.l0 k L (b : Int) least (i : Int) R T) (((L.drop i).foldl (VB R T) (rd_L12 L (b : Int), least)).1, ((L.drop i).foldl (VB R T) (rd_L12 L (b : Int), least)).2, 0)
  | 0, i, b, least, hi, hb => by
    refine Ev.step (fun k => ?_) (Ev.now _)
    simp only [trishawref02_Best.l0]
    rw [if_neg (by omega), List.drop_of_length_le (by omega), if_pos (by omega), if_pos (by omega)]
    rfl
  | m + 1, i, b, least, hi, hb => by
    have hx : i < L.length := by omega
    rw [drop_at hx, List.foldl_cons]
    have hc := hok _ (rdL_mem L i hx)
    have hne := chok_ne g (hok _ (rdL_mem L b hb))
    have hst := total_ev g hc
    refine Ev.step (f := fun k => (trishawref02_total.f k R T (rd_L12 L (i : Int))).bind fun t123 => if t123 < least then trishawref02_Best.l0 k L (i : Int) t123 (wrap64 ((i : Int) + 1)) R T else trishawref02_Best.l0 k L (b : Int) least (wrap64 ((i : Int) + 1)) R T) (fun k => ?_) (Ev.bind hst ?_)
    · simp only [trishawref02_Best.l0]
      rw [if_pos (by omega), if_pos (by omega)]
    · rw [wrapS i (by omega)]
      by_cases hlt : tot R T (rd_L12 L (i : Int)) < least
      · have e : VB R T (rd_L12 L (b : Int), least) (rd_L12 L (i : Int)) = (rd_L12 L (i : Int), tot R T (rd_L12 L (i : Int))) := if_pos (Or.inr hlt)
        rw [e]
        exact Ev.congr (fun k => if_pos hlt) (rbest_l0 g L hL hok m (i + 1) i _ (by omega) hx)
      · have e : VB R T (rd_L12 L (b : Int), least) (rd_L12 L (i : Int)) = (rd_L12 L (b : Int), least) := if_neg (fun h => h.elim hne hlt)
        rw [e]
        exact Ev.congr (fun k => if_neg hlt) (rbest_l0 g L hL hok m (i + 1) b least (by omega) hb)
theorem rsettled_ev {R T : List (List Int)} (g : GameOk R T) : Ev (fun k => trishawref02_Settled.f k R T) ((allCh R).foldl (VS R T) [], 0) := by
  unfold trishawref02_Settled.f
  obtain ⟨b2, e2, i2⟩ := isGame_ev R T
  refine Ev.bind e2 ?_
  have : b2 = true := i2.2 g
  subst this
  refine Ev.congr (fun k => if_pos rfl) ?_
  rw [choices_f g]
  exact rsettled_l0 g (allCh R) (allCh_len g) (fun x hx => all_ok hx) (allCh R).length 0 [] (by omega) (by simp)
theorem rbest_ev {R T : List (List Int)} (g : GameOk R T) : Ev (fun k => trishawref02_Best.f k R T) (((allCh R).foldl (VB R T) ([], 0)).1, ((allCh R).foldl (VB R T) ([], 0)).2, 0) := by
  unfold trishawref02_Best.f
  obtain ⟨b2, e2, i2⟩ := isGame_ev R T
  refine Ev.bind e2 ?_
  have : b2 = true := i2.2 g
  subst this
  refine Ev.congr (fun k => if_pos rfl) ?_
  rw [choices_f g]
  have hp := allCh_pos g
  have hc : ChOk R (rd_L12 (allCh R) ((0 : Nat) : Int)) := all_ok (rdL_mem _ 0 hp)
  have hst := total_ev g hc
  have e0 : (allCh R).foldl (VB R T) ([], 0) = ((allCh R).drop 1).foldl (VB R T) (rd_L12 (allCh R) ((0 : Nat) : Int), tot R T (rd_L12 (allCh R) ((0 : Nat) : Int))) := by
    have := drop_at hp
    rw [List.drop_zero] at this
    conv => lhs; rw [this]
    rw [List.foldl_cons]
    congr 1
  rw [e0]
  refine Ev.congr (fun k => ?_) (Ev.bind (f := fun k t => trishawref02_Best.l0 k (allCh R) 0 t 1 R T) hst (rbest_l0 g (allCh R) (allCh_len g) (fun x hx => all_ok hx) ((allCh R).length - 1) 1 0 _ (by omega) hp))
  rw [Option.bind_some, if_pos (by omega)]
  rfl
theorem all_same {R : List (List Int)} (h1 : 1 ≤ R.length) (h5 : R.length ≤ 5) : ∀ (L : List (List Int)), (∀ x, x ∈ L → ChOk R x) → ∃ K, ∀ k, K ≤ k → (L.all fun x => decide (1 ≤ x.length) && (trishawlaw02_same.f k x x == some true)) = true
  | [], _ => ⟨0, fun _ _ => rfl⟩
  | x :: L, h => by
    obtain ⟨K1, hk1⟩ := all_same h1 h5 L (fun y hy => h y (List.mem_cons_of_mem _ hy))
    have hx := (h x (List.mem_cons_self ..)).len
    obtain ⟨K2, hk2⟩ := same_ev x (by omega)
    refine ⟨max K1 K2, fun k hk => ?_⟩
    have e2 : trishawlaw02_same.f k x x = some true := hk2 k (by omega)
    rw [List.all_cons, hk1 k (by omega), Bool.and_true, e2, decide_eq_true (by omega)]
    rfl
theorem settledAll_ev (R T : List (List Int)) : Ev (fun k => trishawlaw02_JamSettled.f k R T) true := by
  unfold trishawlaw02_JamSettled.f
  obtain ⟨b1, e1, i1⟩ := few_ev R T []
  refine Ev.bind e1 ?_
  cases b1 with
  | false => exact Ev.congr (fun k => if_neg (by simp)) alive_ev
  | true =>
    refine Ev.congr (fun k => if_pos rfl) ?_
    obtain ⟨b2, e2, i2⟩ := isGame_ev R T
    cases b2 with
    | false =>
      have hg : ¬ GameOk R T := fun g => Bool.false_ne_true (i2.2 g)
      have hr : readOk R T = false := by
        cases h : readOk R T with
        | false => rfl
        | true => exact absurd ((readOk_iff R T).1 h) hg
      have s1 : Ev (fun k => trishawref02_Settled.f k R T) ([], 2) := Ev.bind e2 (Ev.congr (fun k => if_neg (by simp)) (Ev.now _))
      have s2 : Ev (fun k => jam_SettledS.f k R T) ([], 2) := Ev.congr (fun k => if_neg (by rw [hr]; simp)) (Ev.now _)
      have s3 : Ev (fun k => jam_Best.f k R T) ([], 0, 2) := Ev.congr (fun k => if_neg (by rw [hr]; simp)) (Ev.now _)
      have s4 : Ev (fun k => trishawref02_Best.f k R T) ([], 0, 2) := Ev.bind e2 (Ev.congr (fun k => if_neg (by simp)) (Ev.now _))
      refine Ev.bind s1 (Ev.bind s2 ?_)
      refine Ev.congr (fun k => if_pos ⟨rfl, by simp, rfl⟩) ?_
      refine Ev.bind s3 (Ev.bind s4 ?_)
      obtain ⟨K, hK⟩ := same_ev [] (by simp)
      obtain ⟨K2, hK2⟩ := alive_ev
      exact ⟨max K K2, fun k hk => (if_pos ⟨rfl, hK k (by omega)⟩).trans (hK2 k (by omega))⟩
    | true =>
      have g := i2.1 rfl
      have hm : ∀ x, x ∈ (allCh R).foldl (VS R T) [] → ChOk R x := fun x hx => by
        rcases VS_mem R T _ _ x hx with h | h
        · simp at h
        · exact all_ok h
      have hl := VS_len R T (allCh R) []
      have hl2 := allCh_len g
      refine Ev.bind (rsettled_ev g) (Ev.bind (jsettled_fold g) ?_)
      obtain ⟨K0, hK0⟩ := all_same g.r1 g.r5 _ hm
      have hb : ((allCh R).foldl (VB R T) ([], 0)).1.length < 1000000 := by
        obtain ⟨b, hb, eb, _⟩ := best_ev g
        obtain ⟨K1, h1⟩ := eb
        obtain ⟨K2, h2⟩ := jbest_fold g
        have e := (h1 (max K1 K2) (by omega)).symm.trans (h2 (max K1 K2) (by omega))
        have e2 : b = ((allCh R).foldl (VB R T) ([], 0)).1 := (Prod.mk.inj (Option.some.inj e)).1
        rw [← e2, hb.len]
        have := g.r5
        omega
      have hrest : Ev (fun k => (jam_Best.f k R T).bind fun p => (trishawref02_Best.f k R T).bind fun q => if p = q ∧ trishawlaw02_same.f k p.1 p.1 = some true then trishawlaw02_alive.f k else none) true := by
        refine Ev.bind (jbest_fold g) (Ev.bind (rbest_ev g) ?_)
        obtain ⟨K, hK⟩ := same_ev _ hb
        obtain ⟨K2, hK2⟩ := alive_ev
        exact ⟨max K K2, fun k hk => (if_pos ⟨rfl, hK k (by omega)⟩).trans (hK2 k (by omega))⟩
      obtain ⟨K3, hK3⟩ := hrest
      refine ⟨max K0 K3, fun k hk => ?_⟩
      have := hK3 k (by omega)
      exact (if_pos ⟨rfl, (show ((allCh R).foldl (VS R T) []).length < 1000000 by simp at hl; omega), hK0 k (by omega)⟩).trans this
end Go.Proofs.Ytjgbdicbdlollaa.B
namespace Go.Proofs.Ytjgbdicbdlollaa.Pure
open Go.RowKit Go.Proofs.Ytjgbdicbdlollaa.B Go.Proofs.YtjgbdicbdlollaaW.PrintWords Go.Proofs.YtjgbdicbdlollaaW.PrintLast Go.Proofs.YtjgbdicbdlollaaW.PrintMore
theorem JamSettled : trishawlaw02_JamSettled.Pure := fun l0_0 l0_1 _ _ => (settledAll_ev l0_0 l0_1).rounds
end Go.Proofs.Ytjgbdicbdlollaa.Pure
