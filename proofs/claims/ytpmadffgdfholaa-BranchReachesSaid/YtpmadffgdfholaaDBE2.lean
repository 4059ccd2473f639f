/- Contracts of branch_Count: what each hands back, and that it changes nothing that was there. -/
import Derived.Test.YtpmadffgdfholaaProg
import Derived.Test.YtpmadffgdfholaaDBWords
import Derived.Test.YtpmadffgdfholaaDBA0
import Derived.Below
import Derived.Deep.Draws
import Derived.Deep.AppendLies
import Derived.Maps.AppendAt
import Derived.OwnWalk
import Derived.Laws.BytesArg
import Derived.Laws.MakeOwn
import Derived.Laws.OwnMore
import Derived.Deep.OwnRows
import Derived.Tactics
import Derived.Lib.ConvBytes
import Derived.Laws.Slices
import Derived.WalkKit
import Derived.KernelRfl
import Derived.RowKit3
import Derived.Deep.LoopGhost
import Derived.Deep.QuietTactic
import Derived.BigQuiet
import Derived.WideLaws
import Derived.Deep.DeepCutAuto
import Derived.Deep.CutBlock
import Derived.Deep.RegionHeld3
import Derived.Laws.Rows
import Derived.Lib.AppendStr
import Derived.ArgAppend
import Derived.Laws.IdiomCopy
import Derived.OrdersHeld
import Derived.Laws.BitsLemmas
import Derived.RowKit
import Derived.Test.YtpmadffgdfholaaWWords
import Derived.Test.YtpmadffgdfholaaWLast
import Derived.Test.YtpmadffgdfholaaWTab
import Derived.Test.YtpmadffgdfholaaWFour
import Derived.Test.YtpmadffgdfholaaWQPut
import Derived.Test.YtpmadffgdfholaaWApart
import Derived.Test.YtpmadffgdfholaaWArr
import Derived.Test.YtpmadffgdfholaaWZeros
import Derived.Test.YtpmadffgdfholaaWFoot
import Derived.Test.YtpmadffgdfholaaWKept
import Derived.Test.YtpmadffgdfholaaWShare
import Derived.Test.YtpmadffgdfholaaWN
import Derived.Test.YtpmadffgdfholaaWFootNe
import Derived.Test.YtpmadffgdfholaaWAt
import Derived.Test.YtpmadffgdfholaaWEqStruct
import Derived.Test.YtpmadffgdfholaaWRepsOne
import Derived.Test.YtpmadffgdfholaaWInv
import Derived.Test.YtpmadffgdfholaaWInvWords
import Derived.Test.YtpmadffgdfholaaWGuard
import Derived.Test.YtpmadffgdfholaaWNEv
import Derived.Test.YtpmadffgdfholaaWMore
import Derived.Test.YtpmadffgdfholaaDBB1
import Derived.Test.YtpmadffgdfholaaDBH4
namespace Go.Proofs.Ytpmadffgdfholaa.B
open Go.RowKit Go.Proofs.YtpmadffgdfholaaW.PrintWords Go.Proofs.YtpmadffgdfholaaW.PrintLast Go.Proofs.YtpmadffgdfholaaW.PrintMore
attribute [local go_sem] max2_int min2_int max_two min_two max_three min_three max_four min_four   -- for this text's walks alone
set_option linter.unusedVariables false
set_option linter.unusedSimpArgs false

/-! ### branch_Count: function 18 -/
mutual
def branch_Count.l0 : Nat → Int → List (List Int) → Int → Int → Int → List (S30) → Option (Int × Int)
  | 0, _, _, _, _, _, _ => none
  | k + 1, x0, x8, x25, x26, x119000, x119001 => if x26 < x25 then (if 0 ≤ (wrap64 (x0 - 1)) then (if (wrap64 (x0 - 1) : Int).toNat ≤ 35184372088832 then (if 0 ≤ x26 then (if x26 < (x8.length : Int) then (branch_Count.l0 k x0 (x8.set (x26 : Int).toNat (List.replicate (wrap64 (x0 - 1) : Int).toNat 0)) x25 (wrap64 (x26 + 1)) x119000 x119001) else (none)) else (none)) else (none)) else (none)) else (branch_Count.l1 k x8 x119001 (x119001.length : Int) 0)
def branch_Count.l1 : Nat → List (List Int) → List (S30) → Int → Int → Option (Int × Int)
  | 0, _, _, _, _ => none
  | k + 1, x8, x39, x40, x41 => if x41 < x40 then (if 0 ≤ x41 then (if x41 < (x39.length : Int) then (if ((rd_T30 x39 x41).f1) > 0 then (if 0 ≤ (wrap64 (((rd_T30 x39 x41).f1) - 1)) then (if (wrap64 (((rd_T30 x39 x41).f1) - 1)) < (x8.length : Int) then (if (wrap64 (((rd_T30 x39 x41).f1) - 1)) < ((rd_L12 x8 (wrap64 (((rd_T30 x39 x41).f1) - 1))).length : Int) then ((some (x8.set ((wrap64 (((rd_T30 x39 x41).f1) - 1)) : Int).toNat ((rd_L12 x8 (wrap64 (((rd_T30 x39 x41).f1) - 1))).set ((wrap64 (((rd_T30 x39 x41).f1) - 1)) : Int).toNat (wrap64 ((rd (rd_L12 x8 (wrap64 (((rd_T30 x39 x41).f1) - 1))) (wrap64 (((rd_T30 x39 x41).f1) - 1))) + 1))) : List (List Int))).bind fun y133 => (if ((rd_T30 x39 x41).f0) > 0 then (if 0 ≤ (wrap64 (((rd_T30 x39 x41).f0) - 1)) then (if (wrap64 (((rd_T30 x39 x41).f0) - 1)) < (x8.length : Int) then (if (wrap64 (((rd_T30 x39 x41).f1) - 1)) < ((rd_L12 y133 (wrap64 (((rd_T30 x39 x41).f0) - 1))).length : Int) then (branch_Count.l1 k (y133.set ((wrap64 (((rd_T30 x39 x41).f0) - 1)) : Int).toNat ((rd_L12 y133 (wrap64 (((rd_T30 x39 x41).f0) - 1))).set ((wrap64 (((rd_T30 x39 x41).f1) - 1)) : Int).toNat (wrap64 ((rd (rd_L12 y133 (wrap64 (((rd_T30 x39 x41).f0) - 1))) (wrap64 (((rd_T30 x39 x41).f1) - 1))) - 1)))) x39 x40 (wrap64 (x41 + 1))) else (none)) else (none)) else (none)) else (branch_Count.l1 k y133 x39 x40 (wrap64 (x41 + 1))))) else (none)) else (none)) else (none)) else (branch_Count.l1 k x8 x39 x40 (wrap64 (x41 + 1)))) else (none)) else (none)) else ((branch_determinant.f k x8).bind fun t126 => (some (t126, 0)))
end
def branch_Count.f (k : Nat) (a0 : Int) (l1 : List (S30)) : Option (Int × Int) := (branch_read.f a0 l1).bind fun t117 => (if t117 = 0 then (if 0 ≤ (wrap64 (a0 - 1)) then (if (wrap64 (a0 - 1) : Int).toNat ≤ 11728124029610 then ((some (List.replicate (wrap64 (a0 - 1) : Int).toNat [] : List (List Int))).bind fun y119 => (branch_Count.l0 k a0 y119 (y119.length : Int) 0 a0 l1)) else (none)) else (none)) else (some (0, t117)))
theorem branch_Count.mono_l : ∀ k, (∀ y0 y1 y2 y3 y4 y5, LeO (branch_Count.l0 k y0 y1 y2 y3 y4 y5) (branch_Count.l0 (k + 1) y0 y1 y2 y3 y4 y5)) ∧ (∀ y0 y1 y2 y3, LeO (branch_Count.l1 k y0 y1 y2 y3) (branch_Count.l1 (k + 1) y0 y1 y2 y3))
  | 0 => ⟨fun _ _ _ _ _ _ r h => by simp [branch_Count.l0] at h, fun _ _ _ _ r h => by simp [branch_Count.l1] at h⟩
  | k + 1 => by
    obtain ⟨ih0, ih1⟩ := branch_Count.mono_l k
    refine ⟨?_, ?_⟩
    · intro y0 y1 y2 y3 y4 y5
      unfold branch_Count.l0
      repeat' first
      | (with_reducible exact ih0 _ _ _ _ _ _)
      | (with_reducible exact ih1 _ _ _ _)
      | (with_reducible exact branch_determinant.mono _ _)
      | (with_reducible exact LeO.refl _)
      | (with_reducible exact LeO.none _)
      | (with_reducible refine LeO.ite ?_ ?_)
      | (with_reducible refine LeO.bind ?_ (fun _ => ?_))
      | exact ih0 _ _ _ _ _ _
      | exact ih1 _ _ _ _
      | exact branch_determinant.mono _ _
      | exact LeO.none _
      | refine LeO.ite ?_ ?_
      | refine LeO.bind ?_ (fun _ => ?_)
    · intro y0 y1 y2 y3
      unfold branch_Count.l1
      repeat' first
      | (with_reducible exact ih0 _ _ _ _ _ _)
      | (with_reducible exact ih1 _ _ _ _)
      | (with_reducible exact branch_determinant.mono _ _)
      | (with_reducible exact LeO.refl _)
      | (with_reducible exact LeO.none _)
      | (with_reducible refine LeO.ite ?_ ?_)
      | (with_reducible refine LeO.bind ?_ (fun _ => ?_))
      | exact ih0 _ _ _ _ _ _
      | exact ih1 _ _ _ _
      | exact branch_determinant.mono _ _
      | exact LeO.none _
      | refine LeO.ite ?_ ?_
      | refine LeO.bind ?_ (fun _ => ?_)
theorem branch_Count.mono : ∀ a0 a1 k, LeO (branch_Count.f k a0 a1) (branch_Count.f (k + 1) a0 a1) := by
  intro a0 a1 k
  obtain ⟨ih0, ih1⟩ := branch_Count.mono_l k
  unfold branch_Count.f
  repeat' first
      | (with_reducible exact ih0 _ _ _ _ _ _)
      | (with_reducible exact ih1 _ _ _ _)
      | (with_reducible exact branch_determinant.mono _ _)
      | (with_reducible exact LeO.refl _)
      | (with_reducible exact LeO.none _)
      | (with_reducible refine LeO.ite ?_ ?_)
      | (with_reducible refine LeO.bind ?_ (fun _ => ?_))
      | exact ih0 _ _ _ _ _ _
      | exact ih1 _ _ _ _
      | exact branch_determinant.mono _ _
      | exact LeO.none _
      | refine LeO.ite ?_ ?_
      | refine LeO.bind ?_ (fun _ => ?_)
def branch_Count.T14 : Bool × List (List Nat × List Nat) := (true, [([], []), ([], []), ([1], [1]), ([2], [2]), ([0, 3], [0, 3]), ([4], [4]), ([], []), ([6], [6]), ([7], [7]), ([5, 8], [5, 8]), ([9], [9]), ([10], [10]), ([5, 8, 0, 1, 2, 3, 4, 5, 6, 7, 8, 9, 10, 11], [5, 8]), ([12, 11, 0, 1, 2, 3, 4, 5, 6, 7, 8, 9, 10, 11], [11, 12])])
def branch_Count.B14 : List Nat := [0, 0, 2, 6, 15, 31, 0, 64, 192, 511, 1023, 2047, 4095, 8191]
theorem branch_Count.tab14 : rtab .any (opsOf Try.f18 14) = branch_Count.T14 := by kernel_rfl
theorem branch_Count.bits14 : waitsOk branch_Count.T14.2 branch_Count.B14 = true := by kernel_rfl
def branch_Count.T16 : Bool × List (List Nat × List Nat) := (true, [([], []), ([], []), ([1], [1]), ([2], [2]), ([0, 3], [0, 3]), ([4], [4]), ([], []), ([6], [6]), ([7], [7]), ([5, 8], [5, 8]), ([9], [9]), ([10], [10]), ([5, 8, 0, 1, 2, 3, 4, 5, 6, 7, 8, 9, 10, 11], [5, 8]), ([12, 11, 0, 1, 2, 3, 4, 5, 6, 7, 8, 9, 10, 11], [11, 12])])
def branch_Count.B16 : List Nat := [0, 0, 2, 6, 15, 31, 0, 64, 192, 511, 1023, 2047, 4095, 8191]
theorem branch_Count.tab16 : rtab .any (opsOf Try.f18 16) = branch_Count.T16 := by kernel_rfl
theorem branch_Count.bits16 : waitsOk branch_Count.T16.2 branch_Count.B16 = true := by kernel_rfl
set_option maxHeartbeats 8000000 in
set_option maxRecDepth 100000 in
theorem branch_Count.calls (k : Nat) (a0 : Int) (A1 : Option Addr) (c1 : Nat) (l1 : List (S30)) (r1 : Int) (r2 : Int) (w : World) (hr1 : Kd.C k30 w A1 l1.length l1) (hc1 : l1.length ≤ c1) (h : branch_Count.f k a0 l1 = some (r1, r2)) :
    Calls Try.prog 18 #[.int .i64 a0, .slice A1 l1.length c1] w fun e w' => e = .returned (.tuple #[.int .i64 r1, .int .i64 r2]) ∧ Below w.heap.size w w' := by
  have hu30 := Try.underlying30
  have HR1 := Aside0.mk hr1
  have HC1 := Aside0.mk hc1
  clear hr1 hc1
  have HB := Aside0.mk (Below.refl w.heap.size w)
  have H : ((branch_read.f a0 l1).bind fun t117 => (if t117 = 0 then (if 0 ≤ (wrap64 (a0 - 1)) then (if (wrap64 (a0 - 1) : Int).toNat ≤ 11728124029610 then ((some (List.replicate (wrap64 (a0 - 1) : Int).toNat [] : List (List Int))).bind fun y119 => (branch_Count.l0 k a0 y119 (y119.length : Int) 0 a0 l1)) else (none)) else (none)) else (some (0, t117)))) = some (r1, r2) := h
  clear h
  replace H := Option.bind_eq_some_iff.mp H
  obtain ⟨t117, A30, H⟩ := H
  replace H : (if t117 = 0 then (if 0 ≤ (wrap64 (a0 - 1)) then (if (wrap64 (a0 - 1) : Int).toNat ≤ 11728124029610 then ((some (List.replicate (wrap64 (a0 - 1) : Int).toNat [] : List (List Int))).bind fun y119 => (branch_Count.l0 k a0 y119 (y119.length : Int) 0 a0 l1)) else (none)) else (none)) else (some (0, t117))) = some (r1, r2) := H
  have A3 := Aside0.mk A30
  clear A30
  by_cases c4 : t117 = 0
  · rw [if_pos c4] at H
    have c4b0 : (t117 == 0) = true := beq_iff_eq.mpr c4
    have c4b1 : (t117 != 0) = false := bne_eq_false_iff_eq.mpr c4
    clear c4
    obtain ⟨ji5, hji5⟩ : ∃ j_ : Int, (wrap64 (a0 - 1)) = j_ := ⟨_, rfl⟩
    replace H : (if 0 ≤ (ji5) then (if (ji5 : Int).toNat ≤ 11728124029610 then ((some (List.replicate (ji5 : Int).toNat [] : List (List Int))).bind fun y119 => (branch_Count.l0 k a0 y119 (y119.length : Int) 0 a0 l1)) else (none)) else (none)) = some (r1, r2) := by first | (rw [hji5] at H; exact H) | (simp only [hji5] at H ⊢; exact H)
    (try rw [hji5] at A3)
    have hji5w : (IntKind.i64.wrap (a0 - 1)) = ji5 := (i64_w _).trans hji5
    by_cases c6 : 0 ≤ (ji5)
    · rw [if_pos c6] at H
      have c6b0 := eq_true c6
      have c6b1 : decide (0 ≤ (ji5)) = true := decide_eq_true c6
      clear c6
      by_cases c7 : (ji5 : Int).toNat ≤ 11728124029610
      · rw [if_pos c7] at H
        have c7b0 := eq_true c7
        have c7b1 : decide ((ji5 : Int).toNat ≤ 11728124029610) = true := decide_eq_true c7
        clear c7
        obtain ⟨y119, hy119⟩ : ∃ y_ : List (List Int), y_ = (List.replicate (ji5 : Int).toNat []) := ⟨_, rfl⟩
        replace H : (branch_Count.l0 k a0 y119 (y119.length : Int) 0 a0 l1) = some (r1, r2) := by first | (rw [hy119]; with_reducible exact H) | (have H2_ := (Option.bind_some _ _).symm.trans H; rw [hy119]; with_reducible exact H2_) | (have H2_ := (Option.bind_some _ _).symm.trans H; with_reducible exact H2_) | with_reducible exact H | (rw [hy119]; exact H) | exact H
        have Ny119 := Aside0.mk hy119
        clear hy119
        have H' := Aside0.mk H
        clear H
        go_enter Try.func18, Try.ntmps18
        go_wp2_with (first | (go_at_call 44; (with_reducible refine (branch_read.calls_ok a0 A1 c1 l1 t117 _ ?side1 ?side2 A3.out (by first | (with_reducible assumption) | assumption)).mono ?_); (case side1 => repeat (first | exact HR1.out | (with_reducible refine Kd.C_alloc ?_ _) | (with_reducible refine Kd.C_drewN ?_ _) | (with_reducible refine Kd.C_drew ?_))); (case side2 => exact HC1.out); rintro e w8 ⟨gb118, mr118, rfl, hg, hbox, hb⟩; have n0_ := Aside0.mk (below_step (by repeat (first | (with_reducible first | exact HB.out | apply below_alloc | apply pw_below_drewN | apply below_drew1) | exact HB.out)) hb); have n1_ := Aside0.mk (hbox); have n2_ := Aside0.mk ((Nat.le_trans (below_size (by repeat (first | (with_reducible first | exact HB.out | apply below_alloc | apply pw_below_drewN | apply below_drew1) | exact HB.out))) hg : w.heap.size ≤ gb118)); have n3_ := Aside0.mk ((Nat.le_trans (below_size (by repeat (first | (with_reducible first | exact HB.out | apply below_alloc | apply pw_below_drewN | apply below_drew1) | exact HB.out))) hg : w.heap.size ≤ gb118)); clear HB; have HB := n0_; have BK118 := n1_; have GW118 := n2_; have GE118 := n3_; clear n0_ n1_ n2_ n3_; clear hb hbox hg) | ((with_reducible refine gate_dst (N := 23) rfl ?_); refine Kd.S_make (Kd.slice 3 (Kd.int .i64)) _ 28 rfl (N := 23) rfl 27 _ _ rfl ji5 rfl rfl Try.underlying27 (.slice none 0 0) 24 info28 rfl (by decide) (by omega) [] (ok := fun _ => True) (okp := fun _ => True) ⟨_, rfl, Kd.R_nil _ _ _ _ _⟩ (fun _ hk => hk) trivial (of_decide_eq_true (by first | (with_reducible assumption) | assumption)) (Nat.le_trans (Nat.mul_le_mul_right _ (of_decide_eq_true (by first | (with_reducible assumption) | assumption) : ji5.toNat ≤ 11728124029610)) (by omega)) (Below.refl _ _) (Nat.le_refl _) ?_; intro v120 w9 ho10 hb hg_ hnew_; clear hg_ hnew_; (first | rw [← Ny119.out] at ho10 | (simp only [Int.reduceToNat] at ho10; rw [← Ny119.out] at ho10)); have n0_ := Aside0.mk (Kd.S_lower ho10 (below_size (by repeat (first | (with_reducible first | exact HB.out | apply below_alloc | apply pw_below_drewN | apply below_drew1 | refine below_set ?_ GE118.out) | exact HB.out)))); have n1_ := Aside0.mk (blk_below (g := gb118) (o := .cells #[.int .i64 a0, .slice A1 l1.length c1, .map mr118] 70 (0, 0)) (by (with_reducible repeat (first | refine blk_drewN ?_ _ | refine blk_drew ?_ | refine blk_alloc ?_ _)); exact BK118.out) hb); have n2_ := Aside0.mk (below_step (by repeat (first | (with_reducible first | exact HB.out | apply below_alloc | apply pw_below_drewN | apply below_drew1 | refine below_set ?_ GE118.out) | exact HB.out)) hb); clear BK118; clear HB; have HO121 := n0_; have BK118 := n1_; have HB := n2_; clear n0_ n1_ n2_; clear hb ho10; obtain ⟨Ao11, co11, eo11⟩ := Kd.S_slice HO121.out; subst eo11))
        go_loopg [26] k (fun kq v26 w' => ∃ (x8_1 : List (List Int)) (x26_1 : Int), v26 = .int .i64 x26_1 ∧ Aside0 (branch_Count.l0 kq a0 x8_1 (y119.length : Int) x26_1 a0 l1 = some (r1, r2)) ∧ Aside0 (kq ≤ k) ∧ Aside0 (Kd.S (Kd.slice 3 (Kd.int .i64)) 28 w' w.heap.size (fun _ => True) (.slice Ao11 y119.length co11) x8_1) ∧ Aside0 (w'.heap[gb118]? = some (.cells #[.int .i64 a0, (.slice A1 l1.length c1), .map mr118] 70 (0, 0))) ∧ Aside0 (Below w.heap.size w w'))
        case atStart => exact ⟨(y119), (0), (by first | rfl | (simp; done) | (simp [*]; done)), H', ⟨Nat.le_refl _⟩, ⟨by (with_reducible repeat (first | apply Kd.S_alloc | apply Kd.S_drewN | apply Kd.S_drew)); exact HO121.out⟩, ⟨by (with_reducible repeat (first | refine blk_drewN ?_ _ | refine blk_drew ?_ | refine blk_alloc ?_ _)); exact BK118.out⟩, ⟨by repeat (first | (with_reducible first | exact HB.out | apply below_alloc | apply pw_below_drewN | apply below_drew1 | refine below_set ?_ GE118.out) | exact HB.out)⟩⟩
        case round =>
          clear H'
          try clear c1
          try clear p2
          try clear c4
          try clear c4b0
          try clear c4b1
          try clear c6
          try clear c6b0
          try clear c6b1
          try clear p6
          try clear c7
          try clear c7b0
          try clear c7b1
          obtain ⟨x8_1, x26_1, rfl, HA, HK1, HO_8, BK118, HB⟩ := hrel
          have hl8_1 := (Kd.S_reads' HO_8.out).1
          rw [hl8_1] at HO_8
          (try simp only [hl8_1])
          (try simp only [hl8_1] at BK118)
          cases gk with
          | zero => exact absurd HA.out (by simp [branch_Count.l0])
          | succ k1 =>
            have H := HA.out
            clear HA
            simp only [branch_Count.l0] at H
            by_cases c12 : x26_1 < (y119.length : Int)
            · rw [if_pos c12] at H
              have c12b0 : decide (x26_1 < (y119.length : Int)) = true := decide_eq_true c12
              (try (have c12b0l := c12b0; simp only [hl8_1] at c12b0l))
              clear c12
              replace H : (if 0 ≤ (ji5) then (if (ji5 : Int).toNat ≤ 35184372088832 then (if 0 ≤ x26_1 then (if x26_1 < (x8_1.length : Int) then (branch_Count.l0 k1 a0 (x8_1.set (x26_1 : Int).toNat (List.replicate (ji5 : Int).toNat 0)) (y119.length : Int) (wrap64 (x26_1 + 1)) a0 l1) else (none)) else (none)) else (none)) else (none)) = some (r1, r2) := by first | (rw [hji5] at H; exact H) | (simp only [hji5] at H ⊢; exact H)
              by_cases c13 : 0 ≤ (ji5)
              · rw [if_pos c13] at H
                have c13b0 := eq_true c13
                have c13b1 : decide (0 ≤ (ji5)) = true := decide_eq_true c13
                clear c13
                by_cases c14 : (ji5 : Int).toNat ≤ 35184372088832
                · rw [if_pos c14] at H
                  have c14b0 := eq_true c14
                  have c14b1 : decide ((ji5 : Int).toNat ≤ 35184372088832) = true := decide_eq_true c14
                  clear c14
                  obtain ⟨y122, hy122⟩ : ∃ y_ : List Int, y_ = (List.replicate (ji5 : Int).toNat 0) := ⟨_, rfl⟩
                  replace H : (if 0 ≤ x26_1 then (if x26_1 < (x8_1.length : Int) then (branch_Count.l0 k1 a0 (x8_1.set (x26_1 : Int).toNat y122) (y119.length : Int) (wrap64 (x26_1 + 1)) a0 l1) else (none)) else (none)) = some (r1, r2) := by first | (rw [hy122]; with_reducible exact H) | (have H2_ := (Option.bind_some _ _).symm.trans H; rw [hy122]; with_reducible exact H2_) | (have H2_ := (Option.bind_some _ _).symm.trans H; with_reducible exact H2_) | with_reducible exact H | (rw [hy122]; exact H) | exact H
                  have Ny122 := Aside0.mk hy122
                  clear hy122
                  by_cases c15 : 0 ≤ x26_1
                  · rw [if_pos c15] at H
                    have c15b0 : decide (0 ≤ x26_1) = true := decide_eq_true c15
                    clear c15
                    by_cases c16 : x26_1 < (x8_1.length : Int)
                    · rw [if_pos c16] at H
                      have c16b0 : decide (x26_1 < (x8_1.length : Int)) = true := decide_eq_true c16
                      (try (have c16b0l := c16b0; simp only [hl8_1] at c16b0l))
                      clear c16
                      obtain ⟨y125, hy125⟩ : ∃ y_ : List (List Int), y_ = (x8_1.set (x26_1 : Int).toNat y122) := ⟨_, rfl⟩
                      replace H : (branch_Count.l0 k1 a0 y125 (y119.length : Int) (wrap64 (x26_1 + 1)) a0 l1) = some (r1, r2) := by first | (rw [hy125]; with_reducible exact H) | (have H2_ := (Option.bind_some _ _).symm.trans H; rw [hy125]; with_reducible exact H2_) | (have H2_ := (Option.bind_some _ _).symm.trans H; with_reducible exact H2_) | with_reducible exact H | (rw [hy125]; exact H) | exact H
                      have Ny125 := Aside0.mk hy125
                      clear hy125
                      have H' := Aside0.mk H
                      clear H
                      go_wp2_with (first | ((with_reducible refine gate_dst (N := 33) rfl ?_); refine Kd.R_make (Kd.int .i64) _ 3 rfl (N := 33) rfl 28 _ _ rfl ji5 rfl rfl Try.underlying28 (.int .i64 0) 8 info3 rfl (by decide) (by omega) 0 (ok := fun _ => True) (okp := fun _ => True) rfl (fun _ hk => hk) trivial (of_decide_eq_true (by first | (with_reducible assumption) | assumption)) (Nat.le_trans (Nat.mul_le_mul_right _ (of_decide_eq_true (by first | (with_reducible assumption) | assumption) : ji5.toNat ≤ 35184372088832)) (by omega)) (Below.refl _ _) (Nat.le_refl _) ?_; intro v123 w18 ho19 hb hg_ hnew_; clear hg_ hnew_; (first | rw [← Ny122.out] at ho19 | (simp only [Int.reduceToNat] at ho19; rw [← Ny122.out] at ho19)); have n0_ := Aside0.mk (Kd.S_elder' (by (with_reducible repeat (first | apply Kd.S_alloc | apply Kd.S_drewN | apply Kd.S_drew)); exact HO_8.out) (Kd.R_base ho19) hb); have n1_ := Aside0.mk (Kd.R_lower ho19 (below_size (by repeat (first | (with_reducible first | exact HB.out | apply below_alloc | apply pw_below_drewN | apply below_drew1 | refine below_set ?_ GE118.out) | exact HB.out)))); have n2_ := Aside0.mk (blk_below (g := gb118) (o := .cells #[.int .i64 a0, .slice A1 l1.length c1, .map mr118] 70 (0, 0)) (by (with_reducible repeat (first | refine blk_drewN ?_ _ | refine blk_drew ?_ | refine blk_alloc ?_ _)); exact BK118.out) hb); have n3_ := Aside0.mk (below_step (by repeat (first | (with_reducible first | exact HB.out | apply below_alloc | apply pw_below_drewN | apply below_drew1 | refine below_set ?_ GE118.out) | exact HB.out)) hb); clear HO_8; clear BK118; clear HB; have HO_8 := n0_; have HO124 := n1_; have BK118 := n2_; have HB := n3_; clear n0_ n1_ n2_ n3_; clear hb ho19; have p17 : 0 ≤ (x26_1 : Int) := of_decide_eq_true (by first | (with_reducible assumption) | assumption); have q17 : (x26_1 : Int) < ((x8_1.length : Int) : Int) := of_decide_eq_true (by first | (with_reducible assumption) | assumption); obtain ⟨go17, co17, eo17, gb17, gl17, cl17, HG17⟩ := Kd.S_form HO_8.out (by omega); (first | cases eo17 | (injection eo17 with ea_ en_ ec_; (first | subst ea_ | (injection ea_ with ea_; subst ea_)); subst ec_; clear en_)); have GB17 := Aside0.mk gb17; have GG17 := Aside0.mk HG17; clear gb17 gl17 HG17; obtain ⟨_, ce17, hcl17, hM17, hcc17, hfr17, _, _⟩ := Kd.S_elem HO_8.out [] (x26_1 : Int) p17 q17; obtain ⟨ve17_0, rfl, ge17_0⟩ := hM17; have hx17_0 := hcc17 0 _ rfl; have hf17_0 := hfr17 0; (try simp only [show ((Kd.slice 3 (Kd.int .i64))).sz = 1 from rfl, Nat.mul_one, Nat.add_zero] at hx17_0); (try simp only [show ((Kd.slice 3 (Kd.int .i64))).sz = 1 from rfl, Nat.mul_one, Nat.add_zero] at hf17_0); (try clear hcl17); (try clear hcc17); (try clear hfr17); (try clear hM17); replace p17 := eq_true p17; replace q17 := eq_true q17; have n_ := Aside0.mk (Kd.S_mono (ok' := (fun k_ => some k_ ≠ (v123 : Value).ownBlock)) HO_8.out (fun k_ hk => hk.2)); clear HO_8; have HO_8 := n_; clear n_; have HX20 := Aside0.mk (show Kd.S (Kd.slice 3 (Kd.int .i64)) 28 w18 w.heap.size (fun k_ => ((fun _ => True)) k_ ∧ ¬ ((fun k_ => some k_ = (v123 : Value).ownBlock)) k_) (.slice (some ⟨go17, 0, none⟩) x8_1.length co11) x8_1 from (by (with_reducible repeat (first | apply Kd.S_alloc | apply Kd.S_drewN | apply Kd.S_drew)); exact Kd.S_mono HO_8.out (fun k_ hk => ⟨trivial, fun e_ => hk e_⟩))); obtain ⟨oki20, ce20, hcl20, hM20, hcc20, hfr20, hoki20, hH20⟩ := Kd.S_elem HX20.out [] (x26_1 : Int) (of_decide_eq_true (by first | (with_reducible assumption) | assumption)) (by have h_ : (x26_1 : Int) < ((x8_1.length : Int) : Int) := of_decide_eq_true (by first | (with_reducible assumption) | assumption); first | exact h_ | (have e_ := (Kd.S_reads' HO_8.out).1; omega) | simpa using h_); obtain ⟨ve20_0, rfl, ge20_0⟩ := hM20; have HP20 := Kd.S_seg hH20 (of_decide_eq_true (by first | (with_reducible assumption) | assumption)) (by have h_ : (x26_1 : Int) < ((x8_1.length : Int) : Int) := of_decide_eq_true (by first | (with_reducible assumption) | assumption); first | exact h_ | (have e_ := (Kd.S_reads' HO_8.out).1; omega) | simpa using h_) (seg := [v123]) (j := 0) (show 1 ≤ 1 from by decide) (x' := y122) (Kd.M_row (Kd.R_mono (Kd.R_tight rfl (Kd.R_mono (ok' := fun k_ => ((fun _ => True)) k_ ∧ k_ ≠ go17) (Kd.R_apart' (HO124.out) (Kd.S_typed HO_8.out) (by decide)) (fun k_ hk => ⟨trivial, fun e_ => (hk.2) (by rw [e_]; rfl)⟩))) (fun _ h_ => Or.inr (h_)))) (fun _ hk => hk) (fun k_ hk_ => ((Kd.R_mono (ok' := fun k_ => ((fun _ => True)) k_ ∧ k_ ≠ go17) (Kd.R_apart' (HO124.out) (Kd.S_typed HO_8.out) (by decide)) (fun k_ hk => ⟨trivial, fun e_ => (hk.2) (by rw [e_]; rfl)⟩))).1 k_ hk_.symm); have hx20_0 := hcc20 0 _ rfl; (try simp only [show ((Kd.slice 3 (Kd.int .i64))).sz = 1 from rfl, Nat.mul_one, Nat.add_zero] at hx20_0); have hf20_0 := hfr20 0; (try simp only [show ((Kd.slice 3 (Kd.int .i64))).sz = 1 from rfl, Nat.mul_one, Nat.add_zero] at hf20_0); (try clear hcl20); (try clear hcc20); (try clear hfr20); (try clear hM20); (try clear hoki20); (try clear hH20); (try simp only [show ((Kd.slice 3 (Kd.int .i64))).sz = 1 from rfl, Nat.mul_one, Nat.add_zero] at HP20)) | ((with_reducible refine gate_store (t := 28) (p := 34) rfl ?_); refine store_event (t := 28) (p := 34) (v := ?vo_w21) (w1 := (w18.setCell ⟨go17, (x26_1 : Int).toNat, none⟩ (v123))) ?hg ?ho ?hn ?hr ?_; (case ho => rfl); (case hg => rfl); (case hn => rfl); (case hr => first | (go_simp; done) | (go_simp; rfl) | (obtain ⟨A_, c_, e_⟩ := Kd.R_slice HO124.out; rw [e_]; first | (go_simp; done) | (go_simp; rfl))); intro w21 hw; have hg : w18.grownBy w21 (some go17) := (by rw [hw]; exact HP20.2); have hp_ : Kd.S (Kd.slice 3 (Kd.int .i64)) 28 w21 w.heap.size (fun _ => True) (.slice (some ⟨go17, 0, none⟩) x8_1.length co11) y125 := (by rw [hw, Ny125.out]; exact HP20.1); clear HP20; have n0_ := Aside0.mk (hp_); have n1_ := Aside0.mk (blk_grown (g := gb118) (o := .cells #[.int .i64 a0, .slice A1 l1.length c1, .map mr118] 70 (0, 0)) (by (with_reducible repeat (first | refine blk_drewN ?_ _ | refine blk_drew ?_ | refine blk_alloc ?_ _)); exact BK118.out) hg (Kd.S_ne HO_8.out BK118.out (by decide))); have n2_ := Aside0.mk ((by rw [hw]; exact below_set (HB.out) GB17.out : Below w.heap.size w w21)); clear HO_8; clear BK118; clear HB; clear HO124; have HO_8 := n0_; have BK118 := n1_; have HB := n2_; clear n0_ n1_ n2_; clear hg hw hp_))
                      (try simp only [← hl8_1])
                      go_roundg k1
                      case measure => have := HK1.out; omega
                      case rel => exact ⟨(y125), (wrap64 (x26_1 + 1)), (by first | rfl | (simp; done) | (simp [*]; done)), H', ⟨by have := HK1.out; omega⟩, ⟨by (try simp only [hl8_1]); (with_reducible repeat (first | apply Kd.S_alloc | apply Kd.S_drewN | apply Kd.S_drew)); exact HO_8.out⟩, ⟨by (try simp only [hl8_1]); (with_reducible repeat (first | refine blk_drewN ?_ _ | refine blk_drew ?_ | refine blk_alloc ?_ _)); exact BK118.out⟩, ⟨by repeat (first | (with_reducible first | exact HB.out | apply below_alloc | apply pw_below_drewN | apply below_drew1 | refine below_set ?_ GE118.out) | exact HB.out)⟩⟩
                    · rw [if_neg c16] at H
                      exact absurd H (by simp)
                  · rw [if_neg c15] at H
                    exact absurd H (by simp)
                · rw [if_neg c14] at H
                  exact absurd H (by simp)
              · rw [if_neg c13] at H
                exact absurd H (by simp)
            · rw [if_neg c12] at H
              have c12b0 : decide (x26_1 < (y119.length : Int)) = false := decide_eq_false c12
              (try (have c12b0l := c12b0; simp only [hl8_1] at c12b0l))
              clear c12
              have H' := Aside0.mk H
              clear H
              have hcz22_0 : wr.cell? ⟨gb118, 0, none⟩ = some (.int .i64 a0) := (blk_cell BK118.out 0).trans rfl
              have hcz22_1 : wr.cell? ⟨gb118, 1, none⟩ = some (.slice A1 l1.length c1) := (blk_cell BK118.out 1).trans rfl
              have hcz22_2 : wr.cell? ⟨gb118, 2, none⟩ = some (.map mr118) := (blk_cell BK118.out 2).trans rfl
              have hfz22_0 := blk_frozen BK118.out 0
              have hfz22_1 := blk_frozen BK118.out 1
              have hfz22_2 := blk_frozen BK118.out 2
              go_wp2
              go_loopg [41] k1 (fun kq v41 w' => ∃ (x8_2 : List (List Int)) (x41_2 : Int), v41 = .int .i64 x41_2 ∧ Aside0 (branch_Count.l1 kq x8_2 l1 (l1.length : Int) x41_2 = some (r1, r2)) ∧ Aside0 (kq ≤ k1) ∧ Aside0 (Kd.S (Kd.slice 3 (Kd.int .i64)) 28 w' w.heap.size (fun _ => True) (.slice Ao11 x8_1.length co11) x8_2) ∧ Aside0 (w'.heap[gb118]? = some (.cells #[.int .i64 a0, (.slice A1 l1.length c1), .map mr118] 70 (0, 0))) ∧ Aside0 (Below w.heap.size w w'))
              case atStart => exact ⟨(x8_1), (0), (by first | rfl | (simp; done) | (simp [*]; done)), H', ⟨Nat.le_refl _⟩, ⟨by (try simp only [hl8_1]); (with_reducible repeat (first | apply Kd.S_alloc | apply Kd.S_drewN | apply Kd.S_drew)); exact HO_8.out⟩, ⟨by (try simp only [hl8_1]); (with_reducible repeat (first | refine blk_drewN ?_ _ | refine blk_drew ?_ | refine blk_alloc ?_ _)); exact BK118.out⟩, ⟨by repeat (first | (with_reducible first | exact HB.out | apply below_alloc | apply pw_below_drewN | apply below_drew1 | refine below_set ?_ GE118.out) | exact HB.out)⟩⟩
              case round =>
                clear H'
                try clear c1
                try clear p1
                try clear q1
                try clear hx1
                try clear c2
                try clear p2
                try clear hx2
                try clear hf2
                try clear c4
                try clear c4b0
                try clear c4b1
                try clear c6
                try clear c6b0
                try clear c6b1
                try clear p6
                try clear c7
                try clear c7b0
                try clear c7b1
                try clear c12
                try clear c12b0
                try clear c13
                try clear c13b0
                try clear c13b1
                try clear c14
                try clear c14b0
                try clear c14b1
                try clear c15
                try clear c15b0
                try clear c16
                try clear c16b0
                try clear c17
                try clear p17
                try clear q17
                try clear hx17
                try clear hf17
                try clear c18
                try clear c20
                try clear hx20
                try clear hf20
                try clear hcz22_0
                try clear hcz22_1
                try clear hcz22_2
                try clear hfz22_0
                try clear hfz22_1
                try clear hfz22_2
                try clear hx17_0
                try clear hx20_0
                try clear p17
                try clear p2
                try clear p6
                try clear q17
                obtain ⟨x8_2, x41_2, rfl, HA, HK2, HO_8, BK118, HB⟩ := hrel
                have hl8_2 := (Kd.S_reads' HO_8.out).1
                rw [hl8_2] at HO_8
                (try simp only [hl8_2])
                (try simp only [hl8_2] at BK118)
                cases gk with
                | zero => exact absurd HA.out (by simp [branch_Count.l1])
                | succ k2 =>
                  have H := HA.out
                  clear HA
                  simp only [branch_Count.l1] at H
                  by_cases c23 : x41_2 < (l1.length : Int)
                  · rw [if_pos c23] at H
                    have c23b0 : decide (x41_2 < (l1.length : Int)) = true := decide_eq_true c23
                    (try (have c23b0l := c23b0; simp only [hl8_1] at c23b0l))
                    (try (have c23b0l := c23b0; simp only [hl8_2] at c23b0l))
                    clear c23
                    by_cases c24 : 0 ≤ x41_2
                    · rw [if_pos c24] at H
                      have c24b0 : decide (0 ≤ x41_2) = true := decide_eq_true c24
                      clear c24
                      by_cases c25 : x41_2 < (l1.length : Int)
                      · rw [if_pos c25] at H
                        have c25b0 : decide (x41_2 < (l1.length : Int)) = true := decide_eq_true c25
                        (try (have c25b0l := c25b0; simp only [hl8_1] at c25b0l))
                        (try (have c25b0l := c25b0; simp only [hl8_2] at c25b0l))
                        clear c25
                        by_cases c26 : ((rd_T30 l1 x41_2).f1) > 0
                        · rw [if_pos c26] at H
                          have c26b0 : decide (0 < ((rd_T30 l1 x41_2).f1)) = true := decide_eq_true c26
                          clear c26
                          obtain ⟨ji27, hji27⟩ : ∃ j_ : Int, (wrap64 (((rd_T30 l1 x41_2).f1) - 1)) = j_ := ⟨_, rfl⟩
                          replace H : (if 0 ≤ (ji27) then (if (ji27) < (x8_2.length : Int) then (if (ji27) < ((rd_L12 x8_2 (ji27)).length : Int) then ((some (x8_2.set ((ji27) : Int).toNat ((rd_L12 x8_2 (ji27)).set ((ji27) : Int).toNat (wrap64 ((rd (rd_L12 x8_2 (ji27)) (ji27)) + 1))) : List (List Int))).bind fun y133 => (if ((rd_T30 l1 x41_2).f0) > 0 then (if 0 ≤ (wrap64 (((rd_T30 l1 x41_2).f0) - 1)) then (if (wrap64 (((rd_T30 l1 x41_2).f0) - 1)) < (x8_2.length : Int) then (if (ji27) < ((rd_L12 y133 (wrap64 (((rd_T30 l1 x41_2).f0) - 1))).length : Int) then (branch_Count.l1 k2 (y133.set ((wrap64 (((rd_T30 l1 x41_2).f0) - 1)) : Int).toNat ((rd_L12 y133 (wrap64 (((rd_T30 l1 x41_2).f0) - 1))).set ((ji27) : Int).toNat (wrap64 ((rd (rd_L12 y133 (wrap64 (((rd_T30 l1 x41_2).f0) - 1))) (ji27)) - 1)))) l1 (l1.length : Int) (wrap64 (x41_2 + 1))) else (none)) else (none)) else (none)) else (branch_Count.l1 k2 y133 l1 (l1.length : Int) (wrap64 (x41_2 + 1))))) else (none)) else (none)) else (none)) = some (r1, r2) := by first | (rw [hji27] at H; exact H) | (simp only [hji27] at H ⊢; exact H)
                          have hji27w : (IntKind.i64.wrap (((rd_T30 l1 x41_2).f1) - 1)) = ji27 := (i64_w _).trans hji27
                          by_cases c28 : 0 ≤ (ji27)
                          · rw [if_pos c28] at H
                            have c28b0 : decide (0 ≤ (ji27)) = true := decide_eq_true c28
                            clear c28
                            by_cases c29 : (ji27) < (x8_2.length : Int)
                            · rw [if_pos c29] at H
                              have c29b0 : decide ((ji27) < (x8_2.length : Int)) = true := decide_eq_true c29
                              (try (have c29b0l := c29b0; simp only [hl8_1] at c29b0l))
                              (try (have c29b0l := c29b0; simp only [hl8_2] at c29b0l))
                              clear c29
                              by_cases c30 : (ji27) < ((rd_L12 x8_2 (ji27)).length : Int)
                              · rw [if_pos c30] at H
                                have c30b0 : decide ((ji27) < ((rd_L12 x8_2 (ji27)).length : Int)) = true := decide_eq_true c30
                                (try (have c30b0l := c30b0; simp only [hl8_1] at c30b0l))
                                (try (have c30b0l := c30b0; simp only [hl8_2] at c30b0l))
                                clear c30
                                obtain ⟨y131, hy131⟩ : ∃ y_ : List Int, y_ = ((rd_L12 x8_2 (ji27)).set ((ji27) : Int).toNat (wrap64 ((rd (rd_L12 x8_2 (ji27)) (ji27)) + 1))) := ⟨_, rfl⟩
                                replace H : ((some (x8_2.set ((ji27) : Int).toNat y131 : List (List Int))).bind fun y133 => (if ((rd_T30 l1 x41_2).f0) > 0 then (if 0 ≤ (wrap64 (((rd_T30 l1 x41_2).f0) - 1)) then (if (wrap64 (((rd_T30 l1 x41_2).f0) - 1)) < (x8_2.length : Int) then (if (ji27) < ((rd_L12 y133 (wrap64 (((rd_T30 l1 x41_2).f0) - 1))).length : Int) then (branch_Count.l1 k2 (y133.set ((wrap64 (((rd_T30 l1 x41_2).f0) - 1)) : Int).toNat ((rd_L12 y133 (wrap64 (((rd_T30 l1 x41_2).f0) - 1))).set ((ji27) : Int).toNat (wrap64 ((rd (rd_L12 y133 (wrap64 (((rd_T30 l1 x41_2).f0) - 1))) (ji27)) - 1)))) l1 (l1.length : Int) (wrap64 (x41_2 + 1))) else (none)) else (none)) else (none)) else (branch_Count.l1 k2 y133 l1 (l1.length : Int) (wrap64 (x41_2 + 1))))) = some (r1, r2) := by first | (rw [hy131]; with_reducible exact H) | (have H2_ := (Option.bind_some _ _).symm.trans H; rw [hy131]; with_reducible exact H2_) | (have H2_ := (Option.bind_some _ _).symm.trans H; with_reducible exact H2_) | with_reducible exact H | (rw [hy131]; exact H) | exact H
                                have Ny131 := Aside0.mk hy131
                                clear hy131
                                obtain ⟨y133, hy133⟩ : ∃ y_ : List (List Int), y_ = (x8_2.set ((ji27) : Int).toNat y131) := ⟨_, rfl⟩
                                replace H : (if ((rd_T30 l1 x41_2).f0) > 0 then (if 0 ≤ (wrap64 (((rd_T30 l1 x41_2).f0) - 1)) then (if (wrap64 (((rd_T30 l1 x41_2).f0) - 1)) < (x8_2.length : Int) then (if (ji27) < ((rd_L12 y133 (wrap64 (((rd_T30 l1 x41_2).f0) - 1))).length : Int) then (branch_Count.l1 k2 (y133.set ((wrap64 (((rd_T30 l1 x41_2).f0) - 1)) : Int).toNat ((rd_L12 y133 (wrap64 (((rd_T30 l1 x41_2).f0) - 1))).set ((ji27) : Int).toNat (wrap64 ((rd (rd_L12 y133 (wrap64 (((rd_T30 l1 x41_2).f0) - 1))) (ji27)) - 1)))) l1 (l1.length : Int) (wrap64 (x41_2 + 1))) else (none)) else (none)) else (none)) else (branch_Count.l1 k2 y133 l1 (l1.length : Int) (wrap64 (x41_2 + 1)))) = some (r1, r2) := by first | (rw [hy133]; with_reducible exact H) | (have H2_ := (Option.bind_some _ _).symm.trans H; rw [hy133]; with_reducible exact H2_) | (have H2_ := (Option.bind_some _ _).symm.trans H; with_reducible exact H2_) | with_reducible exact H | (rw [hy133]; exact H) | exact H
                                have Ny133 := Aside0.mk hy133
                                clear hy133
                                by_cases c32 : ((rd_T30 l1 x41_2).f0) > 0
                                · rw [if_pos c32] at H
                                  have c32b0 : decide (0 < ((rd_T30 l1 x41_2).f0)) = true := decide_eq_true c32
                                  clear c32
                                  obtain ⟨ji33, hji33⟩ : ∃ j_ : Int, (wrap64 (((rd_T30 l1 x41_2).f0) - 1)) = j_ := ⟨_, rfl⟩
                                  replace H : (if 0 ≤ (ji33) then (if (ji33) < (x8_2.length : Int) then (if (ji27) < ((rd_L12 y133 (ji33)).length : Int) then (branch_Count.l1 k2 (y133.set ((ji33) : Int).toNat ((rd_L12 y133 (ji33)).set ((ji27) : Int).toNat (wrap64 ((rd (rd_L12 y133 (ji33)) (ji27)) - 1)))) l1 (l1.length : Int) (wrap64 (x41_2 + 1))) else (none)) else (none)) else (none)) = some (r1, r2) := by first | (rw [hji33] at H; exact H) | (simp only [hji33] at H ⊢; exact H)
                                  have hji33w : (IntKind.i64.wrap (((rd_T30 l1 x41_2).f0) - 1)) = ji33 := (i64_w _).trans hji33
                                  by_cases c34 : 0 ≤ (ji33)
                                  · rw [if_pos c34] at H
                                    have c34b0 : decide (0 ≤ (ji33)) = true := decide_eq_true c34
                                    clear c34
                                    by_cases c35 : (ji33) < (x8_2.length : Int)
                                    · rw [if_pos c35] at H
                                      have c35b0 : decide ((ji33) < (x8_2.length : Int)) = true := decide_eq_true c35
                                      (try (have c35b0l := c35b0; simp only [hl8_1] at c35b0l))
                                      (try (have c35b0l := c35b0; simp only [hl8_2] at c35b0l))
                                      clear c35
                                      by_cases c36 : (ji27) < ((rd_L12 y133 (ji33)).length : Int)
                                      · rw [if_pos c36] at H
                                        have c36b0 : decide ((ji27) < ((rd_L12 y133 (ji33)).length : Int)) = true := decide_eq_true c36
                                        (try (have c36b0l := c36b0; simp only [hl8_1] at c36b0l))
                                        (try (have c36b0l := c36b0; simp only [hl8_2] at c36b0l))
                                        clear c36
                                        obtain ⟨y136, hy136⟩ : ∃ y_ : List Int, y_ = ((rd_L12 y133 (ji33)).set ((ji27) : Int).toNat (wrap64 ((rd (rd_L12 y133 (ji33)) (ji27)) - 1))) := ⟨_, rfl⟩
                                        replace H : (branch_Count.l1 k2 (y133.set ((ji33) : Int).toNat y136) l1 (l1.length : Int) (wrap64 (x41_2 + 1))) = some (r1, r2) := by first | (rw [hy136]; with_reducible exact H) | (have H2_ := (Option.bind_some _ _).symm.trans H; rw [hy136]; with_reducible exact H2_) | (have H2_ := (Option.bind_some _ _).symm.trans H; with_reducible exact H2_) | with_reducible exact H | (rw [hy136]; exact H) | exact H
                                        have Ny136 := Aside0.mk hy136
                                        clear hy136
                                        obtain ⟨y138, hy138⟩ : ∃ y_ : List (List Int), y_ = (y133.set ((ji33) : Int).toNat y136) := ⟨_, rfl⟩
                                        replace H : (branch_Count.l1 k2 y138 l1 (l1.length : Int) (wrap64 (x41_2 + 1))) = some (r1, r2) := by first | (rw [hy138]; with_reducible exact H) | (have H2_ := (Option.bind_some _ _).symm.trans H; rw [hy138]; with_reducible exact H2_) | (have H2_ := (Option.bind_some _ _).symm.trans H; with_reducible exact H2_) | with_reducible exact H | (rw [hy138]; exact H) | exact H
                                        have Ny138 := Aside0.mk hy138
                                        clear hy138
                                        have H' := Aside0.mk H
                                        clear H
                                        have p127 : 0 ≤ (x41_2 : Int) := of_decide_eq_true (by first | (with_reducible assumption) | assumption)
                                        have q127 : x41_2 < (l1.length : Int) := of_decide_eq_true (by first | (with_reducible assumption) | assumption)
                                        obtain ⟨ad127, e127, hx127_0, hx127_1, hx127_2⟩ := at_T30 HR1.out x41_2 p127 q127
                                        cases e127
                                        replace hx127_0 := (HB.out.cell (World.block_lt_of_cell? w _ hx127_0)).trans hx127_0
                                        replace hx127_1 := (HB.out.cell (World.block_lt_of_cell? w _ hx127_1)).trans hx127_1
                                        replace hx127_2 := (HB.out.cell (World.block_lt_of_cell? w _ hx127_2)).trans hx127_2
                                        replace p127 := eq_true p127
                                        replace q127 := eq_true q127
                                        try go_wp2_with (first | ((with_reducible refine gate_dst (N := 11) rfl ?_); refine box_event ?hg (N := 11) ?hd (cs := #[.int .i64 0, .int .i64 0, .int .i64 0]) (t := 30) ?hr ?_; (case hd => rfl); (case hg => rfl); (case hr => first | (go_simp; done) | (go_simp; rfl)); intro gb128 hg w38 hbox hb; have n0_ := Aside0.mk (Kd.S_below (by (with_reducible repeat (first | apply Kd.S_alloc | apply Kd.S_drewN | apply Kd.S_drew)); exact HO_8.out) hb); have n1_ := Aside0.mk (blk_below (g := gb118) (o := .cells #[.int .i64 a0, .slice (some ad127) l1.length c1, .map mr118] 70 (0, 0)) (by (with_reducible repeat (first | refine blk_drewN ?_ _ | refine blk_drew ?_ | refine blk_alloc ?_ _)); exact BK118.out) hb); have n2_ := Aside0.mk (below_step (by repeat (first | (with_reducible first | exact HB.out | apply below_alloc | apply pw_below_drewN | apply below_drew1 | refine below_set ?_ GE118.out) | exact HB.out)) hb); have n3_ := Aside0.mk (hbox); have n4_ := Aside0.mk ((by rw [hg]; exact (below_size (by repeat (first | (with_reducible first | exact HB.out | apply below_alloc | apply pw_below_drewN | apply below_drew1 | refine below_set ?_ GE118.out) | exact HB.out))) : w.heap.size ≤ gb128)); have n5_ := Aside0.mk ((by rw [hg]; exact (below_size (by repeat (first | (with_reducible first | exact HB.out | apply below_alloc | apply pw_below_drewN | apply below_drew1 | refine below_set ?_ GE118.out) | exact HB.out))) : w.heap.size ≤ gb128)); have n6_ := Aside0.mk ((by rw [hg]; exact Nat.ne_of_lt (blk_lt (g := gb118) (o := .cells #[.int .i64 a0, .slice (some ad127) l1.length c1, .map mr118] 70 (0, 0)) (by (with_reducible repeat (first | refine blk_drewN ?_ _ | refine blk_drew ?_ | refine blk_alloc ?_ _)); exact BK118.out)) : gb118 ≠ gb128)); have n7_ := Aside0.mk ((by rw [hg]; exact Nat.ne_of_gt (blk_lt (g := gb118) (o := .cells #[.int .i64 a0, .slice (some ad127) l1.length c1, .map mr118] 70 (0, 0)) (by (with_reducible repeat (first | refine blk_drewN ?_ _ | refine blk_drew ?_ | refine blk_alloc ?_ _)); exact BK118.out)) : gb128 ≠ gb118)); clear HO_8; clear BK118; clear HB; have HO_8 := n0_; have BK118 := n1_; have HB := n2_; have BK128 := n3_; have GW128 := n4_; have GE128 := n5_; have NB118_128 := n6_; have NB128_118 := n7_; clear n0_ n1_ n2_ n3_ n4_ n5_ n6_ n7_; clear hb hbox hg; have hnb39 := NB128_118.out; have hnc39 := NB118_128.out; have hcz40_0 : w38.cell? ⟨gb128, 0, none⟩ = some (.int .i64 0) := (blk_cell BK128.out 0).trans rfl; have hcz40_1 : w38.cell? ⟨gb128, 1, none⟩ = some (.int .i64 0) := (blk_cell BK128.out 1).trans rfl; have hcz40_2 : w38.cell? ⟨gb128, 2, none⟩ = some (.int .i64 0) := (blk_cell BK128.out 2).trans rfl; have hfz40_0 := blk_frozen BK128.out 0; have hfz40_1 := blk_frozen BK128.out 1; have hfz40_2 := blk_frozen BK128.out 2))
                                        have n0_ : Aside0 (Kd.S (Kd.slice 3 (Kd.int .i64)) 28 (((w38.setCell ⟨gb128, 0, none⟩ (.int .i64 ((rd_T30 l1 x41_2).f0))).setCell ⟨gb128, 1, none⟩ (.int .i64 ((rd_T30 l1 x41_2).f1))).setCell ⟨gb128, 2, none⟩ (.int .i64 ((rd_T30 l1 x41_2).f2))) w.heap.size (fun _ => True) (.slice Ao11 x8_2.length co11) x8_2) := ⟨by (with_reducible repeat (first | apply Kd.S_alloc | apply Kd.S_drewN | apply Kd.S_drew)); exact Kd.S_mono (Kd.S_far (p := ⟨gb128, 2, none⟩) (Kd.S_far (p := ⟨gb128, 1, none⟩) (Kd.S_far (p := ⟨gb128, 0, none⟩) (Kd.S_types HO_8.out BK128.out (by decide)) (fun _ hk => hk.2) (.int .i64 ((rd_T30 l1 x41_2).f0))) (fun _ hk => hk.2) (.int .i64 ((rd_T30 l1 x41_2).f1))) (fun _ hk => hk.2) (.int .i64 ((rd_T30 l1 x41_2).f2))) (fun _ hk => trivial)⟩
                                        have n1_ : Aside0 ((((w38.setCell ⟨gb128, 0, none⟩ (.int .i64 ((rd_T30 l1 x41_2).f0))).setCell ⟨gb128, 1, none⟩ (.int .i64 ((rd_T30 l1 x41_2).f1))).setCell ⟨gb128, 2, none⟩ (.int .i64 ((rd_T30 l1 x41_2).f2))).heap[gb118]? = some (.cells #[.int .i64 a0, .slice (some ad127) l1.length c1, .map mr118] 70 (0, 0))) := ⟨by (with_reducible repeat (first | refine blk_drewN ?_ _ | refine blk_drew ?_ | refine blk_alloc ?_ _)); refine blk_far ?_ NB118_128.out _; (with_reducible repeat (first | refine blk_drewN ?_ _ | refine blk_drew ?_ | refine blk_alloc ?_ _)); refine blk_far ?_ NB118_128.out _; (with_reducible repeat (first | refine blk_drewN ?_ _ | refine blk_drew ?_ | refine blk_alloc ?_ _)); refine blk_far ?_ NB118_128.out _; (with_reducible repeat (first | refine blk_drewN ?_ _ | refine blk_drew ?_ | refine blk_alloc ?_ _)); exact BK118.out⟩
                                        have n2_ : Aside0 ((((w38.setCell ⟨gb128, 0, none⟩ (.int .i64 ((rd_T30 l1 x41_2).f0))).setCell ⟨gb128, 1, none⟩ (.int .i64 ((rd_T30 l1 x41_2).f1))).setCell ⟨gb128, 2, none⟩ (.int .i64 ((rd_T30 l1 x41_2).f2))).heap[gb128]? = some (.cells #[.int .i64 ((rd_T30 l1 x41_2).f0), .int .i64 ((rd_T30 l1 x41_2).f1), .int .i64 ((rd_T30 l1 x41_2).f2)] 30 (0, 0))) := ⟨by (with_reducible repeat (first | refine blk_drewN ?_ _ | refine blk_drew ?_ | refine blk_alloc ?_ _)); refine blk_put (cs := #[.int .i64 ((rd_T30 l1 x41_2).f0), .int .i64 ((rd_T30 l1 x41_2).f1), .int .i64 0]) ?_ 2 _ rfl; (with_reducible repeat (first | refine blk_drewN ?_ _ | refine blk_drew ?_ | refine blk_alloc ?_ _)); refine blk_put (cs := #[.int .i64 ((rd_T30 l1 x41_2).f0), .int .i64 0, .int .i64 0]) ?_ 1 _ rfl; (with_reducible repeat (first | refine blk_drewN ?_ _ | refine blk_drew ?_ | refine blk_alloc ?_ _)); refine blk_put (cs := #[.int .i64 0, .int .i64 0, .int .i64 0]) ?_ 0 _ rfl; (with_reducible repeat (first | refine blk_drewN ?_ _ | refine blk_drew ?_ | refine blk_alloc ?_ _)); exact BK128.out⟩
                                        have n3_ : Aside0 (Below w.heap.size w (((w38.setCell ⟨gb128, 0, none⟩ (.int .i64 ((rd_T30 l1 x41_2).f0))).setCell ⟨gb128, 1, none⟩ (.int .i64 ((rd_T30 l1 x41_2).f1))).setCell ⟨gb128, 2, none⟩ (.int .i64 ((rd_T30 l1 x41_2).f2)))) := ⟨by repeat (first | (with_reducible first | exact HB.out | apply below_alloc | apply pw_below_drewN | apply below_drew1 | refine below_set ?_ GE118.out | refine below_set ?_ GE128.out) | exact HB.out)⟩
                                        (try clear HO_8)
                                        (try clear BK118)
                                        (try clear BK128)
                                        (try clear HB)
                                        generalize (((w38.setCell ⟨gb128, 0, none⟩ (.int .i64 ((rd_T30 l1 x41_2).f0))).setCell ⟨gb128, 1, none⟩ (.int .i64 ((rd_T30 l1 x41_2).f1))).setCell ⟨gb128, 2, none⟩ (.int .i64 ((rd_T30 l1 x41_2).f2))) = w41 at n0_ n1_ n2_ n3_ ⊢
                                        have HO_8 := n0_
                                        have BK118 := n1_
                                        have BK128 := n2_
                                        have HB := n3_
                                        clear n0_ n1_ n2_ n3_
                                        have n0_ := Aside0.mk (Kd.S_drew HO_8.out)
                                        have n1_ := Aside0.mk (blk_drew BK118.out)
                                        have n2_ := Aside0.mk (blk_drew BK128.out)
                                        have n3_ := Aside0.mk (below_drew1 HB.out)
                                        clear HO_8
                                        clear BK118
                                        clear BK128
                                        clear HB
                                        have HO_8 := n0_
                                        have BK118 := n1_
                                        have BK128 := n2_
                                        have HB := n3_
                                        clear n0_ n1_ n2_ n3_
                                        have p129 : 0 ≤ ((ji27) : Int) := of_decide_eq_true (by first | (with_reducible assumption) | assumption)
                                        have q129 : (ji27) < (x8_2.length : Int) := of_decide_eq_true (by first | (with_reducible assumption) | assumption)
                                        obtain ⟨ad129, A129_0, c129_0, e129, hx129_0, hl129_0, hi129_0⟩ := at_L12 (Kd.S_reads' HO_8.out).2.2 (ji27) p129 q129
                                        cases e129
                                        obtain ⟨ce129, hce129, hMe129, hcc129⟩ := Kd.S_get HO_8.out [] (ji27) p129 (by first | exact q129 | exact of_decide_eq_true (by first | (with_reducible assumption) | assumption) | (have e_ := (Kd.S_reads' HO_8.out).1; omega))
                                        obtain ⟨ve129_0, rfl, ge129_0⟩ := hMe129
                                        have hv129_0 := hcc129 0 _ rfl
                                        rw [Nat.add_zero, show ((Kd.slice 3 (Kd.int .i64))).sz = 1 from rfl, Nat.mul_one] at hv129_0
                                        replace hv129_0 := Option.some.inj (hv129_0.symm.trans hx129_0)
                                        rw [hv129_0] at ge129_0
                                        have HL129_0 := Aside0.mk (show Kd.R (Kd.int .i64) 3 _ _ _ _ (rd_L12 x8_2 (ji27)) from ge129_0)
                                        clear hv129_0 ge129_0
                                        have HX129_0 := Aside0.mk hx129_0
                                        clear hcc129 hce129
                                        have HR129_0 := Aside0.mk hi129_0
                                        have HC129_0 := Aside0.mk hl129_0
                                        clear hi129_0 hl129_0
                                        replace p129 := eq_true p129
                                        replace q129 := eq_true q129
                                        have p130 : 0 ≤ ((ji27) : Int) := of_decide_eq_true (by first | (with_reducible assumption) | assumption)
                                        have q130 : (ji27) < ((rd_L12 x8_2 (ji27)).length : Int) := of_decide_eq_true (by first | (with_reducible assumption) | assumption)
                                        obtain ⟨ad130, e130, hx130_0⟩ := Kd.at_int (by repeat (first | (with_reducible exact HR129_0.out) | (with_reducible refine Kd.C_alloc ?_ _) | (with_reducible refine Kd.C_drewN ?_ _) | (with_reducible refine Kd.C_drew ?_) | exact HR129_0.out)) (ji27) p130 q130
                                        cases e130
                                        replace p130 := eq_true p130
                                        replace q130 := eq_true q130
                                        have p31 : 0 ≤ ((ji27) : Int) := of_decide_eq_true (by first | (with_reducible assumption) | assumption)
                                        have q31 : ((ji27) : Int) < (((rd_L12 x8_2 (ji27)).length : Int) : Int) := of_decide_eq_true (by first | (with_reducible assumption) | assumption)
                                        obtain ⟨go31, co31, eo31, gb31, gl31, cl31, HG31⟩ := Kd.R_form HL129_0.out (by omega)
                                        (first | cases eo31 | (injection eo31 with ea_ en_ ec_; (first | subst ea_ | (injection ea_ with ea_; subst ea_)); subst ec_; clear en_))
                                        have GB31 := Aside0.mk gb31
                                        have GG31 := Aside0.mk HG31
                                        clear gb31 gl31 HG31
                                        (first | simp only [add_plain] at hx130_0 | skip)
                                        obtain ⟨hx31_0, hf31_0⟩ := Kd.R_celln 0 HL129_0.out ((ji27) : Int) p31 q31
                                        replace p31 := eq_true p31
                                        replace q31 := eq_true q31
                                        have hq43 : ((ji27) : Int) < (x8_2.length : Int) := (by have h_ : ((ji27) : Int) < ((x8_2.length : Int) : Int) := of_decide_eq_true (by first | (with_reducible assumption) | assumption); first | exact h_ | (have e_ := (Kd.S_reads' HO_8.out).1; omega) | simpa only [List.length_set, List.length_set] using h_)
                                        obtain ⟨oki43, ce43, hcl43, hM43, hcc43, hok43, hbk43⟩ := Kd.S_borrow HO_8.out [] ((ji27) : Int) (of_decide_eq_true (by first | (with_reducible assumption) | assumption)) (by first | exact hq43 | (have h_ := hq43; simpa only [List.length_set, List.length_set] using h_))
                                        obtain ⟨ve43_0, rfl, ge43_0⟩ := hM43
                                        have hv43 := hcc43 0 _ rfl
                                        rw [Nat.add_zero, show ((Kd.slice 3 (Kd.int .i64))).sz = 1 from rfl, Nat.mul_one] at hv43
                                        replace hv43 := Option.some.inj (hv43.symm.trans HX129_0.out)
                                        subst hv43
                                        clear hcc43 hcl43
                                        replace ge43_0 := (show Kd.R (Kd.int .i64) 3 _ _ _ _ (rd_L12 x8_2 (ji27)) from ge43_0)
                                        have HP43 := Kd.R_putg ge43_0 ((ji27) : Int) (wrap64 ((rd (rd_L12 x8_2 (ji27)) (ji27)) + 1))
                                        rw [← Ny131.out] at HP43
                                        have HS43 := hbk43 HP43.2 (fun k_ e_ => by injection e_ with e_; subst e_; exact ge43_0.1 _ rfl) (x' := y131) (Kd.M_row HP43.1)
                                        rw [← Ny133.out] at HS43
                                        have HQ43 := Aside0.mk HS43
                                        clear HP43 HS43 hbk43 hok43
                                        refine start_ (n := 14) (S := fun w' => w'.cell? ⟨gb128, 0, none⟩ = some (.int .i64 ((rd_T30 l1 x41_2).f0)) ∧ w'.cell? ⟨gb128, 1, none⟩ = some (.int .i64 ((rd_T30 l1 x41_2).f1)) ∧ w'.cell? ⟨gb128, 2, none⟩ = some (.int .i64 ((rd_T30 l1 x41_2).f2)) ∧ w'.cell? (ad129.add ((ji27)).toNat) = some (.slice (some ⟨go31, 0, none⟩) (rd_L12 x8_2 (ji27)).length c129_0) ∧ w'.cell? ⟨go31, ((ji27)).toNat, none⟩ = some (.int .i64 (rd (rd_L12 x8_2 (ji27)) (ji27)))) (ds := [13]) #[false, false, false, false, false, false, false, false, false, false, false, false, false, false] (by kernel_rfl) rfl rfl ⟨(blk_cell BK128.out 0).trans rfl, (blk_cell BK128.out 1).trans rfl, (blk_cell BK128.out 2).trans rfl, hx129_0, hx130_0⟩ (fun hHeld => ?_); refine with_tabW branch_Count.tab14 branch_Count.bits14 (fun HT_ HW_ => ?_)
                                        generalize w41.drew = w42 at HO_8 BK118 BK128 HB GG31 HL129_0 HQ43 HR129_0 HX129_0 hf31_0 hx129_0 hx130_0 hx31_0 hHeld ⊢
                                        refine pure_ (i := 0) (N := some 48) (v := ?_) (a' := ?_) #[true, false, false, false, false, false, false, false, false, false, false, false, false, false] rfl rfl (any_of HT_.out (by kernel_rfl)) (fun _ _ _ h => h) (Or.inl ⟨by rfl, ?_⟩) ?_ ?_
                                        rotate_left
                                        · intro w'
                                          go_simp
                                          with_reducible rfl
                                        rotate_left
                                        · simp only [Act.put, List.setIfInBounds_toArray, List.set_cons_zero, List.set_cons_succ, i64_w, i32_w]
                                          rfl
                                        refine pure_ (i := 1) (N := some 49) (v := ?_) (a' := ?_) #[true, true, false, false, false, false, false, false, false, false, false, false, false, false] rfl rfl (any_of HT_.out (by kernel_rfl)) (fun _ _ _ h => h) (Or.inl ⟨by rfl, ?_⟩) ?_ ?_
                                        rotate_left
                                        · intro w'
                                          go_simp
                                          with_reducible rfl
                                        rotate_left
                                        · simp only [Act.put, List.setIfInBounds_toArray, List.set_cons_zero, List.set_cons_succ, i64_w, i32_w]
                                          rfl
                                        refine pure_ (i := 6) (N := some 54) (v := ?_) (a' := ?_) #[true, true, false, false, false, false, true, false, false, false, false, false, false, false] rfl rfl (any_of HT_.out (by kernel_rfl)) (fun _ _ _ h => h) (Or.inl ⟨by rfl, ?_⟩) ?_ ?_
                                        rotate_left
                                        · intro w'
                                          go_simp
                                          with_reducible rfl
                                        rotate_left
                                        · simp only [Act.put, List.setIfInBounds_toArray, List.set_cons_zero, List.set_cons_succ, i64_w, i32_w]
                                          rfl
                                        refine take_ (i := 2) (N := some 50) (v := ?_) (a' := ?_) #[true, true, true, false, false, false, true, false, false, false, false, false, false, false] rfl rfl (take_ofW HT_.out HW_.out (by kernel_rfl)) (fun _ _ _ h => h) (Or.inl ⟨by rfl, ?_⟩) hHeld ?_ ?_
                                        rotate_left
                                        · rintro w' ⟨s0, s1, s2, s3, s4⟩
                                          go_simp
                                          with_reducible rfl
                                        rotate_left
                                        · simp only [Act.put, List.setIfInBounds_toArray, List.set_cons_zero, List.set_cons_succ, i64_w, i32_w]
                                          rfl
                                        refine pure_ (i := 3) (N := some 51) (v := ?_) (a' := ?_) #[true, true, true, true, false, false, true, false, false, false, false, false, false, false] rfl rfl (any_of HT_.out (by kernel_rfl)) (fun _ _ _ h => h) (Or.inl ⟨by rfl, ?_⟩) ?_ ?_
                                        rotate_left
                                        · intro w'
                                          go_simp
                                          with_reducible rfl
                                        rotate_left
                                        · simp only [Act.put, List.setIfInBounds_toArray, List.set_cons_zero, List.set_cons_succ, i64_w, i32_w]
                                          rfl
                                        refine pure_ (i := 4) (N := some 52) (v := ?_) (a' := ?_) #[true, true, true, true, true, false, true, false, false, false, false, false, false, false] rfl rfl (any_of HT_.out (by kernel_rfl)) (fun _ _ _ h => h) (Or.inl ⟨by rfl, ?_⟩) ?_ ?_
                                        rotate_left
                                        · intro w'
                                          go_simp
                                          with_reducible rfl
                                        rotate_left
                                        · simp only [Act.put, List.setIfInBounds_toArray, List.set_cons_zero, List.set_cons_succ, i64_w, i32_w]
                                          rfl
                                        refine take_ (i := 5) (N := some 53) (v := ?_) (a' := ?_) #[true, true, true, true, true, true, true, false, false, false, false, false, false, false] rfl rfl (take_ofW HT_.out HW_.out (by kernel_rfl)) (fun _ _ _ h => h) (Or.inl ⟨by rfl, ?_⟩) hHeld ?_ ?_
                                        rotate_left
                                        · rintro w' ⟨s0, s1, s2, s3, s4⟩
                                          go_simp
                                          with_reducible rfl
                                        rotate_left
                                        · simp only [Act.put, List.setIfInBounds_toArray, List.set_cons_zero, List.set_cons_succ, i64_w, i32_w]
                                          rfl
                                        refine take_ (i := 7) (N := some 55) (v := ?_) (a' := ?_) #[true, true, true, true, true, true, true, true, false, false, false, false, false, false] rfl rfl (take_ofW HT_.out HW_.out (by kernel_rfl)) (fun _ _ _ h => h) (Or.inl ⟨by rfl, ?_⟩) hHeld ?_ ?_
                                        rotate_left
                                        · rintro w' ⟨s0, s1, s2, s3, s4⟩
                                          go_simp
                                          with_reducible rfl
                                        rotate_left
                                        · simp only [Act.put, List.setIfInBounds_toArray, List.set_cons_zero, List.set_cons_succ, i64_w, i32_w]
                                          rfl
                                        refine pure_ (i := 8) (N := some 56) (v := ?_) (a' := ?_) #[true, true, true, true, true, true, true, true, true, false, false, false, false, false] rfl rfl (any_of HT_.out (by kernel_rfl)) (fun _ _ _ h => h) (Or.inl ⟨by rfl, ?_⟩) ?_ ?_
                                        rotate_left
                                        · intro w'
                                          go_simp
                                          with_reducible rfl
                                        rotate_left
                                        · simp only [Act.put, List.setIfInBounds_toArray, List.set_cons_zero, List.set_cons_succ, i64_w, i32_w]
                                          rfl
                                        refine pure_ (i := 9) (N := some 57) (v := ?_) (a' := ?_) #[true, true, true, true, true, true, true, true, true, true, false, false, false, false] rfl rfl (any_of HT_.out (by kernel_rfl)) (fun _ _ _ h => h) (Or.inl ⟨by rfl, ?_⟩) ?_ ?_
                                        rotate_left
                                        · intro w'
                                          go_simp
                                          with_reducible rfl
                                        rotate_left
                                        · simp only [Act.put, List.setIfInBounds_toArray, List.set_cons_zero, List.set_cons_succ, i64_w, i32_w]
                                          rfl
                                        refine take_ (i := 10) (N := some 58) (v := ?_) (a' := ?_) #[true, true, true, true, true, true, true, true, true, true, true, false, false, false] rfl rfl (take_ofW HT_.out HW_.out (by kernel_rfl)) (fun _ _ _ h => h) (Or.inl ⟨by rfl, ?_⟩) hHeld ?_ ?_
                                        rotate_left
                                        · rintro w' ⟨s0, s1, s2, s3, s4⟩
                                          go_simp
                                          with_reducible rfl
                                        rotate_left
                                        · simp only [Act.put, List.setIfInBounds_toArray, List.set_cons_zero, List.set_cons_succ, i64_w, i32_w]
                                          rfl
                                        refine pure_ (i := 11) (N := some 59) (v := ?_) (a' := ?_) #[true, true, true, true, true, true, true, true, true, true, true, true, false, false] rfl rfl (any_of HT_.out (by kernel_rfl)) (fun _ _ _ h => h) (Or.inl ⟨by rfl, ?_⟩) ?_ ?_
                                        rotate_left
                                        · intro w'
                                          go_simp
                                          with_reducible rfl
                                        rotate_left
                                        · simp only [Act.put, List.setIfInBounds_toArray, List.set_cons_zero, List.set_cons_succ, i64_w, i32_w]
                                          rfl
                                        refine pure_ (i := 12) (N := some 60) (v := ?_) (a' := ?_) #[true, true, true, true, true, true, true, true, true, true, true, true, true, false] rfl rfl (any_of HT_.out (by kernel_rfl)) (fun _ _ _ h => h) (Or.inl ⟨by rfl, ?_⟩) ?_ ?_
                                        rotate_left
                                        · intro w'
                                          go_simp
                                          with_reducible rfl
                                        rotate_left
                                        · simp only [Act.put, List.setIfInBounds_toArray, List.set_cons_zero, List.set_cons_succ, i64_w, i32_w]
                                          rfl
                                        refine last_ (i := 13) (N := none) #[true, true, true, true, true, true, true, true, true, true, true, true, true, true] rfl rfl (one_of HT_.out (by kernel_rfl)) (by decide) (fun K hK => ?_)
                                        refine skip_ (w1 := ?_) (by rfl) rfl ?_ ?_
                                        rotate_left
                                        · go_simp
                                          rfl
                                        refine hK.out _ _ ?_
                                        clear hK K
                                        refine done_ (done_of HT_.out (by kernel_rfl)) ?_
                                        have n0_ : Aside0 (Kd.S (Kd.slice 3 (Kd.int .i64)) 28 (w42.setCell ⟨go31, ((ji27) : Int).toNat, none⟩ (.int .i64 (wrap64 ((rd (rd_L12 x8_2 (ji27)) (ji27)) + 1)))) w.heap.size (fun _ => True) (.slice (some ad129) x8_2.length co11) y133) := ⟨by (with_reducible repeat (first | apply Kd.S_alloc | apply Kd.S_drewN | apply Kd.S_drew)); exact HQ43.out⟩
                                        have n1_ : Aside0 ((w42.setCell ⟨go31, ((ji27) : Int).toNat, none⟩ (.int .i64 (wrap64 ((rd (rd_L12 x8_2 (ji27)) (ji27)) + 1)))).heap[gb118]? = some (.cells #[.int .i64 a0, .slice (some ad127) l1.length c1, .map mr118] 70 (0, 0))) := ⟨by (with_reducible repeat (first | refine blk_drewN ?_ _ | refine blk_drew ?_ | refine blk_alloc ?_ _)); refine blk_far ?_ (by have h_ := Kd.R_ne HL129_0.out BK118.out (by decide); intro e_; exact h_ (by rw [e_]; rfl)) _; (with_reducible repeat (first | refine blk_drewN ?_ _ | refine blk_drew ?_ | refine blk_alloc ?_ _)); exact BK118.out⟩
                                        have n2_ : Aside0 ((w42.setCell ⟨go31, ((ji27) : Int).toNat, none⟩ (.int .i64 (wrap64 ((rd (rd_L12 x8_2 (ji27)) (ji27)) + 1)))).heap[gb128]? = some (.cells #[.int .i64 ((rd_T30 l1 x41_2).f0), .int .i64 ((rd_T30 l1 x41_2).f1), .int .i64 ((rd_T30 l1 x41_2).f2)] 30 (0, 0))) := ⟨by (with_reducible repeat (first | refine blk_drewN ?_ _ | refine blk_drew ?_ | refine blk_alloc ?_ _)); refine blk_far ?_ (by have h_ := Kd.R_ne HL129_0.out BK128.out (by decide); intro e_; exact h_ (by rw [e_]; rfl)) _; (with_reducible repeat (first | refine blk_drewN ?_ _ | refine blk_drew ?_ | refine blk_alloc ?_ _)); exact BK128.out⟩
                                        have n3_ : Aside0 (Below w.heap.size w (w42.setCell ⟨go31, ((ji27) : Int).toNat, none⟩ (.int .i64 (wrap64 ((rd (rd_L12 x8_2 (ji27)) (ji27)) + 1))))) := ⟨by repeat (first | (with_reducible first | exact HB.out | apply below_alloc | apply pw_below_drewN | apply below_drew1 | refine below_set ?_ GB31.out | refine below_set ?_ GE118.out | refine below_set ?_ GE128.out) | exact HB.out)⟩
                                        (try clear HO_8)
                                        (try clear BK118)
                                        (try clear BK128)
                                        (try clear HB)
                                        generalize (w42.setCell ⟨go31, ((ji27) : Int).toNat, none⟩ (.int .i64 (wrap64 ((rd (rd_L12 x8_2 (ji27)) (ji27)) + 1)))) = w45 at n0_ n1_ n2_ n3_ ⊢
                                        have HO_8 := n0_
                                        have BK118 := n1_
                                        have BK128 := n2_
                                        have HB := n3_
                                        clear n0_ n1_ n2_ n3_
                                        have hcz46_0 : w45.cell? ⟨gb128, 0, none⟩ = some (.int .i64 ((rd_T30 l1 x41_2).f0)) := (blk_cell BK128.out 0).trans rfl
                                        have hcz46_1 : w45.cell? ⟨gb128, 1, none⟩ = some (.int .i64 ((rd_T30 l1 x41_2).f1)) := (blk_cell BK128.out 1).trans rfl
                                        have hcz46_2 : w45.cell? ⟨gb128, 2, none⟩ = some (.int .i64 ((rd_T30 l1 x41_2).f2)) := (blk_cell BK128.out 2).trans rfl
                                        have hfz46_0 := blk_frozen BK128.out 0
                                        have hfz46_1 := blk_frozen BK128.out 1
                                        have hfz46_2 := blk_frozen BK128.out 2
                                        try go_wp2
                                        have n0_ := Aside0.mk (Kd.S_drew HO_8.out)
                                        have n1_ := Aside0.mk (blk_drew BK118.out)
                                        have n2_ := Aside0.mk (blk_drew BK128.out)
                                        have n3_ := Aside0.mk (below_drew1 HB.out)
                                        clear HO_8
                                        clear BK118
                                        clear BK128
                                        clear HB
                                        have HO_8 := n0_
                                        have BK118 := n1_
                                        have BK128 := n2_
                                        have HB := n3_
                                        clear n0_ n1_ n2_ n3_
                                        have p134 : 0 ≤ ((ji33) : Int) := of_decide_eq_true (by first | (with_reducible assumption) | assumption)
                                        have q134 : (ji33) < (y133.length : Int) := (by have h_ : ((ji33) : Int) < ((x8_2.length : Int) : Int) := of_decide_eq_true (by first | (with_reducible assumption) | assumption); first | (have e_ := (Kd.S_reads' HO_8.out).1; omega) | simpa only [Ny133.out, List.length_set] using h_)
                                        have ql134 : (((ji33) : Int) < ((x8_2.length : Int) : Int)) = True := eq_true (of_decide_eq_true (by first | (with_reducible assumption) | assumption))
                                        obtain ⟨ad134, A134_0, c134_0, e134, hx134_0, hl134_0, hi134_0⟩ := at_L12 (Kd.S_reads' HO_8.out).2.2 (ji33) p134 q134
                                        obtain rfl : ad129 = ad134 := (by injection e134)
                                        obtain ⟨ce134, hce134, hMe134, hcc134⟩ := Kd.S_get HO_8.out [] (ji33) p134 (by first | exact q134 | exact of_decide_eq_true (by first | (with_reducible assumption) | assumption) | (have e_ := (Kd.S_reads' HO_8.out).1; omega))
                                        obtain ⟨ve134_0, rfl, ge134_0⟩ := hMe134
                                        have hv134_0 := hcc134 0 _ rfl
                                        rw [Nat.add_zero, show ((Kd.slice 3 (Kd.int .i64))).sz = 1 from rfl, Nat.mul_one] at hv134_0
                                        replace hv134_0 := Option.some.inj (hv134_0.symm.trans hx134_0)
                                        rw [hv134_0] at ge134_0
                                        have HL134_0 := Aside0.mk (show Kd.R (Kd.int .i64) 3 _ _ _ _ (rd_L12 y133 (ji33)) from ge134_0)
                                        clear hv134_0 ge134_0
                                        have HX134_0 := Aside0.mk hx134_0
                                        clear hcc134 hce134
                                        have HR134_0 := Aside0.mk hi134_0
                                        have HC134_0 := Aside0.mk hl134_0
                                        clear hi134_0 hl134_0
                                        replace p134 := eq_true p134
                                        replace q134 := eq_true q134
                                        have p135 : 0 ≤ ((ji27) : Int) := of_decide_eq_true (by first | (with_reducible assumption) | assumption)
                                        have q135 : (ji27) < ((rd_L12 y133 (ji33)).length : Int) := of_decide_eq_true (by first | (with_reducible assumption) | assumption)
                                        obtain ⟨ad135, e135, hx135_0⟩ := Kd.at_int (by repeat (first | (with_reducible exact HR134_0.out) | (with_reducible refine Kd.C_alloc ?_ _) | (with_reducible refine Kd.C_drewN ?_ _) | (with_reducible refine Kd.C_drew ?_) | exact HR134_0.out)) (ji27) p135 q135
                                        cases e135
                                        replace p135 := eq_true p135
                                        replace q135 := eq_true q135
                                        have p37 : 0 ≤ ((ji27) : Int) := of_decide_eq_true (by first | (with_reducible assumption) | assumption)
                                        have q37 : ((ji27) : Int) < (((rd_L12 y133 (ji33)).length : Int) : Int) := of_decide_eq_true (by first | (with_reducible assumption) | assumption)
                                        obtain ⟨go37, co37, eo37, gb37, gl37, cl37, HG37⟩ := Kd.R_form HL134_0.out (by omega)
                                        (first | cases eo37 | (injection eo37 with ea_ en_ ec_; (first | subst ea_ | (injection ea_ with ea_; subst ea_)); subst ec_; clear en_))
                                        have GB37 := Aside0.mk gb37
                                        have GG37 := Aside0.mk HG37
                                        clear gb37 gl37 HG37
                                        (first | simp only [add_plain] at hx135_0 | skip)
                                        obtain ⟨hx37_0, hf37_0⟩ := Kd.R_celln 0 HL134_0.out ((ji27) : Int) p37 q37
                                        replace p37 := eq_true p37
                                        replace q37 := eq_true q37
                                        have hq48 : ((ji33) : Int) < (y133.length : Int) := (by have h_ : ((ji33) : Int) < ((x8_2.length : Int) : Int) := of_decide_eq_true (by first | (with_reducible assumption) | assumption); first | exact h_ | (have e_ := (Kd.S_reads' HO_8.out).1; omega) | simpa only [Ny133.out, List.length_set] using h_)
                                        obtain ⟨oki48, ce48, hcl48, hM48, hcc48, hok48, hbk48⟩ := Kd.S_borrow HO_8.out [] ((ji33) : Int) (of_decide_eq_true (by first | (with_reducible assumption) | assumption)) (by first | exact hq48 | (have h_ := hq48; simpa only [Ny133.out, List.length_set] using h_))
                                        obtain ⟨ve48_0, rfl, ge48_0⟩ := hM48
                                        have hv48 := hcc48 0 _ rfl
                                        rw [Nat.add_zero, show ((Kd.slice 3 (Kd.int .i64))).sz = 1 from rfl, Nat.mul_one] at hv48
                                        replace hv48 := Option.some.inj (hv48.symm.trans HX134_0.out)
                                        subst hv48
                                        clear hcc48 hcl48
                                        replace ge48_0 := (show Kd.R (Kd.int .i64) 3 _ _ _ _ (rd_L12 y133 (ji33)) from ge48_0)
                                        have HP48 := Kd.R_putg ge48_0 ((ji27) : Int) (wrap64 ((rd (rd_L12 y133 (ji33)) (ji27)) - 1))
                                        rw [← Ny136.out] at HP48
                                        have HS48 := hbk48 HP48.2 (fun k_ e_ => by injection e_ with e_; subst e_; exact ge48_0.1 _ rfl) (x' := y136) (Kd.M_row HP48.1)
                                        rw [← Ny138.out] at HS48
                                        have HQ48 := Aside0.mk HS48
                                        clear HP48 HS48 hbk48 hok48
                                        refine start_ (n := 14) (S := fun w' => w'.cell? ⟨gb128, 0, none⟩ = some (.int .i64 ((rd_T30 l1 x41_2).f0)) ∧ w'.cell? ⟨gb128, 1, none⟩ = some (.int .i64 ((rd_T30 l1 x41_2).f1)) ∧ w'.cell? ⟨gb128, 2, none⟩ = some (.int .i64 ((rd_T30 l1 x41_2).f2)) ∧ w'.cell? (ad129.add ((ji33)).toNat) = some (.slice (some ⟨go37, 0, none⟩) (rd_L12 y133 (ji33)).length c134_0) ∧ w'.cell? ⟨go37, ((ji27)).toNat, none⟩ = some (.int .i64 (rd (rd_L12 y133 (ji33)) (ji27)))) (ds := [13]) #[false, false, false, false, false, false, false, false, false, false, false, false, false, false] (by kernel_rfl) rfl rfl ⟨(blk_cell BK128.out 0).trans rfl, (blk_cell BK128.out 1).trans rfl, (blk_cell BK128.out 2).trans rfl, hx134_0, hx135_0⟩ (fun hHeld => ?_); refine with_tabW branch_Count.tab16 branch_Count.bits16 (fun HT_ HW_ => ?_)
                                        generalize w45.drew = w47 at HO_8 BK118 BK128 HB GG37 HL134_0 HQ48 HR134_0 HX134_0 hf37_0 hx134_0 hx135_0 hx37_0 hHeld ⊢
                                        refine pure_ (i := 0) (N := some 64) (v := ?_) (a' := ?_) #[true, false, false, false, false, false, false, false, false, false, false, false, false, false] rfl rfl (any_of HT_.out (by kernel_rfl)) (fun _ _ _ h => h) (Or.inl ⟨by rfl, ?_⟩) ?_ ?_
                                        rotate_left
                                        · intro w'
                                          go_simp
                                          with_reducible rfl
                                        rotate_left
                                        · simp only [Act.put, List.setIfInBounds_toArray, List.set_cons_zero, List.set_cons_succ, i64_w, i32_w]
                                          rfl
                                        refine pure_ (i := 1) (N := some 65) (v := ?_) (a' := ?_) #[true, true, false, false, false, false, false, false, false, false, false, false, false, false] rfl rfl (any_of HT_.out (by kernel_rfl)) (fun _ _ _ h => h) (Or.inl ⟨by rfl, ?_⟩) ?_ ?_
                                        rotate_left
                                        · intro w'
                                          go_simp
                                          with_reducible rfl
                                        rotate_left
                                        · simp only [Act.put, List.setIfInBounds_toArray, List.set_cons_zero, List.set_cons_succ, i64_w, i32_w]
                                          rfl
                                        refine pure_ (i := 6) (N := some 70) (v := ?_) (a' := ?_) #[true, true, false, false, false, false, true, false, false, false, false, false, false, false] rfl rfl (any_of HT_.out (by kernel_rfl)) (fun _ _ _ h => h) (Or.inl ⟨by rfl, ?_⟩) ?_ ?_
                                        rotate_left
                                        · intro w'
                                          go_simp
                                          with_reducible rfl
                                        rotate_left
                                        · simp only [Act.put, List.setIfInBounds_toArray, List.set_cons_zero, List.set_cons_succ, i64_w, i32_w]
                                          rfl
                                        refine take_ (i := 2) (N := some 66) (v := ?_) (a' := ?_) #[true, true, true, false, false, false, true, false, false, false, false, false, false, false] rfl rfl (take_ofW HT_.out HW_.out (by kernel_rfl)) (fun _ _ _ h => h) (Or.inl ⟨by rfl, ?_⟩) hHeld ?_ ?_
                                        rotate_left
                                        · rintro w' ⟨s0, s1, s2, s3, s4⟩
                                          go_simp
                                          with_reducible rfl
                                        rotate_left
                                        · simp only [Act.put, List.setIfInBounds_toArray, List.set_cons_zero, List.set_cons_succ, i64_w, i32_w]
                                          rfl
                                        refine pure_ (i := 3) (N := some 67) (v := ?_) (a' := ?_) #[true, true, true, true, false, false, true, false, false, false, false, false, false, false] rfl rfl (any_of HT_.out (by kernel_rfl)) (fun _ _ _ h => h) (Or.inl ⟨by rfl, ?_⟩) ?_ ?_
                                        rotate_left
                                        · intro w'
                                          go_simp
                                          with_reducible rfl
                                        rotate_left
                                        · simp only [Act.put, List.setIfInBounds_toArray, List.set_cons_zero, List.set_cons_succ, i64_w, i32_w]
                                          rfl
                                        refine pure_ (i := 4) (N := some 68) (v := ?_) (a' := ?_) #[true, true, true, true, true, false, true, false, false, false, false, false, false, false] rfl rfl (any_of HT_.out (by kernel_rfl)) (fun _ _ _ h => h) (Or.inl ⟨by rfl, ?_⟩) ?_ ?_
                                        rotate_left
                                        · intro w'
                                          go_simp
                                          with_reducible rfl
                                        rotate_left
                                        · simp only [Act.put, List.setIfInBounds_toArray, List.set_cons_zero, List.set_cons_succ, i64_w, i32_w]
                                          rfl
                                        refine take_ (i := 5) (N := some 69) (v := ?_) (a' := ?_) #[true, true, true, true, true, true, true, false, false, false, false, false, false, false] rfl rfl (take_ofW HT_.out HW_.out (by kernel_rfl)) (fun _ _ _ h => h) (Or.inl ⟨by rfl, ?_⟩) hHeld ?_ ?_
                                        rotate_left
                                        · rintro w' ⟨s0, s1, s2, s3, s4⟩
                                          go_simp
                                          with_reducible rfl
                                        rotate_left
                                        · simp only [Act.put, List.setIfInBounds_toArray, List.set_cons_zero, List.set_cons_succ, i64_w, i32_w]
                                          rfl
                                        refine take_ (i := 7) (N := some 71) (v := ?_) (a' := ?_) #[true, true, true, true, true, true, true, true, false, false, false, false, false, false] rfl rfl (take_ofW HT_.out HW_.out (by kernel_rfl)) (fun _ _ _ h => h) (Or.inl ⟨by rfl, ?_⟩) hHeld ?_ ?_
                                        rotate_left
                                        · rintro w' ⟨s0, s1, s2, s3, s4⟩
                                          go_simp
                                          with_reducible rfl
                                        rotate_left
                                        · simp only [Act.put, List.setIfInBounds_toArray, List.set_cons_zero, List.set_cons_succ, i64_w, i32_w]
                                          rfl
                                        refine pure_ (i := 8) (N := some 72) (v := ?_) (a' := ?_) #[true, true, true, true, true, true, true, true, true, false, false, false, false, false] rfl rfl (any_of HT_.out (by kernel_rfl)) (fun _ _ _ h => h) (Or.inl ⟨by rfl, ?_⟩) ?_ ?_
                                        rotate_left
                                        · intro w'
                                          go_simp
                                          with_reducible rfl
                                        rotate_left
                                        · simp only [Act.put, List.setIfInBounds_toArray, List.set_cons_zero, List.set_cons_succ, i64_w, i32_w]
                                          rfl
                                        refine pure_ (i := 9) (N := some 73) (v := ?_) (a' := ?_) #[true, true, true, true, true, true, true, true, true, true, false, false, false, false] rfl rfl (any_of HT_.out (by kernel_rfl)) (fun _ _ _ h => h) (Or.inl ⟨by rfl, ?_⟩) ?_ ?_
                                        rotate_left
                                        · intro w'
                                          go_simp
                                          with_reducible rfl
                                        rotate_left
                                        · simp only [Act.put, List.setIfInBounds_toArray, List.set_cons_zero, List.set_cons_succ, i64_w, i32_w]
                                          rfl
                                        refine take_ (i := 10) (N := some 74) (v := ?_) (a' := ?_) #[true, true, true, true, true, true, true, true, true, true, true, false, false, false] rfl rfl (take_ofW HT_.out HW_.out (by kernel_rfl)) (fun _ _ _ h => h) (Or.inl ⟨by rfl, ?_⟩) hHeld ?_ ?_
                                        rotate_left
                                        · rintro w' ⟨s0, s1, s2, s3, s4⟩
                                          go_simp
                                          with_reducible rfl
                                        rotate_left
                                        · simp only [Act.put, List.setIfInBounds_toArray, List.set_cons_zero, List.set_cons_succ, i64_w, i32_w]
                                          rfl
                                        refine pure_ (i := 11) (N := some 75) (v := ?_) (a' := ?_) #[true, true, true, true, true, true, true, true, true, true, true, true, false, false] rfl rfl (any_of HT_.out (by kernel_rfl)) (fun _ _ _ h => h) (Or.inl ⟨by rfl, ?_⟩) ?_ ?_
                                        rotate_left
                                        · intro w'
                                          go_simp
                                          with_reducible rfl
                                        rotate_left
                                        · simp only [Act.put, List.setIfInBounds_toArray, List.set_cons_zero, List.set_cons_succ, i64_w, i32_w]
                                          rfl
                                        refine pure_ (i := 12) (N := some 76) (v := ?_) (a' := ?_) #[true, true, true, true, true, true, true, true, true, true, true, true, true, false] rfl rfl (any_of HT_.out (by kernel_rfl)) (fun _ _ _ h => h) (Or.inl ⟨by rfl, ?_⟩) ?_ ?_
                                        rotate_left
                                        · intro w'
                                          go_simp
                                          with_reducible rfl
                                        rotate_left
                                        · simp only [Act.put, List.setIfInBounds_toArray, List.set_cons_zero, List.set_cons_succ, i64_w, i32_w]
                                          rfl
                                        refine last_ (i := 13) (N := none) #[true, true, true, true, true, true, true, true, true, true, true, true, true, true] rfl rfl (one_of HT_.out (by kernel_rfl)) (by decide) (fun K hK => ?_)
                                        refine skip_ (w1 := ?_) (by rfl) rfl ?_ ?_
                                        rotate_left
                                        · go_simp
                                          rfl
                                        refine hK.out _ _ ?_
                                        clear hK K
                                        refine done_ (done_of HT_.out (by kernel_rfl)) ?_
                                        have n0_ : Aside0 (Kd.S (Kd.slice 3 (Kd.int .i64)) 28 (w47.setCell ⟨go37, ((ji27) : Int).toNat, none⟩ (.int .i64 (wrap64 ((rd (rd_L12 y133 (ji33)) (ji27)) - 1)))) w.heap.size (fun _ => True) (.slice (some ad129) x8_2.length co11) y138) := ⟨by (with_reducible repeat (first | apply Kd.S_alloc | apply Kd.S_drewN | apply Kd.S_drew)); exact HQ48.out⟩
                                        have n1_ : Aside0 ((w47.setCell ⟨go37, ((ji27) : Int).toNat, none⟩ (.int .i64 (wrap64 ((rd (rd_L12 y133 (ji33)) (ji27)) - 1)))).heap[gb118]? = some (.cells #[.int .i64 a0, .slice (some ad127) l1.length c1, .map mr118] 70 (0, 0))) := ⟨by (with_reducible repeat (first | refine blk_drewN ?_ _ | refine blk_drew ?_ | refine blk_alloc ?_ _)); refine blk_far ?_ (by have h_ := Kd.R_ne HL134_0.out BK118.out (by decide); intro e_; exact h_ (by rw [e_]; rfl)) _; (with_reducible repeat (first | refine blk_drewN ?_ _ | refine blk_drew ?_ | refine blk_alloc ?_ _)); exact BK118.out⟩
                                        have n2_ : Aside0 ((w47.setCell ⟨go37, ((ji27) : Int).toNat, none⟩ (.int .i64 (wrap64 ((rd (rd_L12 y133 (ji33)) (ji27)) - 1)))).heap[gb128]? = some (.cells #[.int .i64 ((rd_T30 l1 x41_2).f0), .int .i64 ((rd_T30 l1 x41_2).f1), .int .i64 ((rd_T30 l1 x41_2).f2)] 30 (0, 0))) := ⟨by (with_reducible repeat (first | refine blk_drewN ?_ _ | refine blk_drew ?_ | refine blk_alloc ?_ _)); refine blk_far ?_ (by have h_ := Kd.R_ne HL134_0.out BK128.out (by decide); intro e_; exact h_ (by rw [e_]; rfl)) _; (with_reducible repeat (first | refine blk_drewN ?_ _ | refine blk_drew ?_ | refine blk_alloc ?_ _)); exact BK128.out⟩
                                        have n3_ : Aside0 (Below w.heap.size w (w47.setCell ⟨go37, ((ji27) : Int).toNat, none⟩ (.int .i64 (wrap64 ((rd (rd_L12 y133 (ji33)) (ji27)) - 1))))) := ⟨by repeat (first | (with_reducible first | exact HB.out | apply below_alloc | apply pw_below_drewN | apply below_drew1 | refine below_set ?_ GB37.out | refine below_set ?_ GE118.out | refine below_set ?_ GE128.out) | exact HB.out)⟩
                                        (try clear HO_8)
                                        (try clear BK118)
                                        (try clear BK128)
                                        (try clear HB)
                                        generalize (w47.setCell ⟨go37, ((ji27) : Int).toNat, none⟩ (.int .i64 (wrap64 ((rd (rd_L12 y133 (ji33)) (ji27)) - 1)))) = w50 at n0_ n1_ n2_ n3_ ⊢
                                        have HO_8 := n0_
                                        have BK118 := n1_
                                        have BK128 := n2_
                                        have HB := n3_
                                        clear n0_ n1_ n2_ n3_
                                        try go_wp2
                                        (try simp only [← hl8_2])
                                        go_roundg k2
                                        case measure => have := HK1.out; have := HK2.out; omega
                                        case rel => exact ⟨(y138), (wrap64 (x41_2 + 1)), (by first | rfl | (simp; done) | (simp [*]; done)), H', ⟨by have := HK1.out; have := HK2.out; omega⟩, ⟨by (try simp only [hl8_1]); (try simp only [hl8_2]); (with_reducible repeat (first | apply Kd.S_alloc | apply Kd.S_drewN | apply Kd.S_drew)); exact HO_8.out⟩, ⟨by (try simp only [hl8_1]); (try simp only [hl8_2]); (with_reducible repeat (first | refine blk_drewN ?_ _ | refine blk_drew ?_ | refine blk_alloc ?_ _)); exact BK118.out⟩, ⟨by repeat (first | (with_reducible first | exact HB.out | apply below_alloc | apply pw_below_drewN | apply below_drew1 | refine below_set ?_ GE118.out | refine below_set ?_ GE128.out) | exact HB.out)⟩⟩
                                      · rw [if_neg c36] at H
                                        exact absurd H (by simp)
                                    · rw [if_neg c35] at H
                                      exact absurd H (by simp)
                                  · rw [if_neg c34] at H
                                    exact absurd H (by simp)
                                · rw [if_neg c32] at H
                                  have c32b0 : decide (0 < ((rd_T30 l1 x41_2).f0)) = false := decide_eq_false c32
                                  clear c32
                                  have H' := Aside0.mk H
                                  clear H
                                  have p127 : 0 ≤ (x41_2 : Int) := of_decide_eq_true (by first | (with_reducible assumption) | assumption)
                                  have q127 : x41_2 < (l1.length : Int) := of_decide_eq_true (by first | (with_reducible assumption) | assumption)
                                  obtain ⟨ad127, e127, hx127_0, hx127_1, hx127_2⟩ := at_T30 HR1.out x41_2 p127 q127
                                  cases e127
                                  replace hx127_0 := (HB.out.cell (World.block_lt_of_cell? w _ hx127_0)).trans hx127_0
                                  replace hx127_1 := (HB.out.cell (World.block_lt_of_cell? w _ hx127_1)).trans hx127_1
                                  replace hx127_2 := (HB.out.cell (World.block_lt_of_cell? w _ hx127_2)).trans hx127_2
                                  replace p127 := eq_true p127
                                  replace q127 := eq_true q127
                                  try go_wp2_with (first | ((with_reducible refine gate_dst (N := 11) rfl ?_); refine box_event ?hg (N := 11) ?hd (cs := #[.int .i64 0, .int .i64 0, .int .i64 0]) (t := 30) ?hr ?_; (case hd => rfl); (case hg => rfl); (case hr => first | (go_simp; done) | (go_simp; rfl)); intro gb128 hg w51 hbox hb; have n0_ := Aside0.mk (Kd.S_below (by (with_reducible repeat (first | apply Kd.S_alloc | apply Kd.S_drewN | apply Kd.S_drew)); exact HO_8.out) hb); have n1_ := Aside0.mk (blk_below (g := gb118) (o := .cells #[.int .i64 a0, .slice (some ad127) l1.length c1, .map mr118] 70 (0, 0)) (by (with_reducible repeat (first | refine blk_drewN ?_ _ | refine blk_drew ?_ | refine blk_alloc ?_ _)); exact BK118.out) hb); have n2_ := Aside0.mk (below_step (by repeat (first | (with_reducible first | exact HB.out | apply below_alloc | apply pw_below_drewN | apply below_drew1 | refine below_set ?_ GE118.out) | exact HB.out)) hb); have n3_ := Aside0.mk (hbox); have n4_ := Aside0.mk ((by rw [hg]; exact (below_size (by repeat (first | (with_reducible first | exact HB.out | apply below_alloc | apply pw_below_drewN | apply below_drew1 | refine below_set ?_ GE118.out) | exact HB.out))) : w.heap.size ≤ gb128)); have n5_ := Aside0.mk ((by rw [hg]; exact (below_size (by repeat (first | (with_reducible first | exact HB.out | apply below_alloc | apply pw_below_drewN | apply below_drew1 | refine below_set ?_ GE118.out) | exact HB.out))) : w.heap.size ≤ gb128)); have n6_ := Aside0.mk ((by rw [hg]; exact Nat.ne_of_lt (blk_lt (g := gb118) (o := .cells #[.int .i64 a0, .slice (some ad127) l1.length c1, .map mr118] 70 (0, 0)) (by (with_reducible repeat (first | refine blk_drewN ?_ _ | refine blk_drew ?_ | refine blk_alloc ?_ _)); exact BK118.out)) : gb118 ≠ gb128)); have n7_ := Aside0.mk ((by rw [hg]; exact Nat.ne_of_gt (blk_lt (g := gb118) (o := .cells #[.int .i64 a0, .slice (some ad127) l1.length c1, .map mr118] 70 (0, 0)) (by (with_reducible repeat (first | refine blk_drewN ?_ _ | refine blk_drew ?_ | refine blk_alloc ?_ _)); exact BK118.out)) : gb128 ≠ gb118)); clear HO_8; clear BK118; clear HB; have HO_8 := n0_; have BK118 := n1_; have HB := n2_; have BK128 := n3_; have GW128 := n4_; have GE128 := n5_; have NB118_128 := n6_; have NB128_118 := n7_; clear n0_ n1_ n2_ n3_ n4_ n5_ n6_ n7_; clear hb hbox hg; have hnb52 := NB128_118.out; have hnc52 := NB118_128.out; have hcz53_0 : w51.cell? ⟨gb128, 0, none⟩ = some (.int .i64 0) := (blk_cell BK128.out 0).trans rfl; have hcz53_1 : w51.cell? ⟨gb128, 1, none⟩ = some (.int .i64 0) := (blk_cell BK128.out 1).trans rfl; have hcz53_2 : w51.cell? ⟨gb128, 2, none⟩ = some (.int .i64 0) := (blk_cell BK128.out 2).trans rfl; have hfz53_0 := blk_frozen BK128.out 0; have hfz53_1 := blk_frozen BK128.out 1; have hfz53_2 := blk_frozen BK128.out 2))
                                  have n0_ : Aside0 (Kd.S (Kd.slice 3 (Kd.int .i64)) 28 (((w51.setCell ⟨gb128, 0, none⟩ (.int .i64 ((rd_T30 l1 x41_2).f0))).setCell ⟨gb128, 1, none⟩ (.int .i64 ((rd_T30 l1 x41_2).f1))).setCell ⟨gb128, 2, none⟩ (.int .i64 ((rd_T30 l1 x41_2).f2))) w.heap.size (fun _ => True) (.slice Ao11 x8_2.length co11) x8_2) := ⟨by (with_reducible repeat (first | apply Kd.S_alloc | apply Kd.S_drewN | apply Kd.S_drew)); exact Kd.S_mono (Kd.S_far (p := ⟨gb128, 2, none⟩) (Kd.S_far (p := ⟨gb128, 1, none⟩) (Kd.S_far (p := ⟨gb128, 0, none⟩) (Kd.S_types HO_8.out BK128.out (by decide)) (fun _ hk => hk.2) (.int .i64 ((rd_T30 l1 x41_2).f0))) (fun _ hk => hk.2) (.int .i64 ((rd_T30 l1 x41_2).f1))) (fun _ hk => hk.2) (.int .i64 ((rd_T30 l1 x41_2).f2))) (fun _ hk => trivial)⟩
                                  have n1_ : Aside0 ((((w51.setCell ⟨gb128, 0, none⟩ (.int .i64 ((rd_T30 l1 x41_2).f0))).setCell ⟨gb128, 1, none⟩ (.int .i64 ((rd_T30 l1 x41_2).f1))).setCell ⟨gb128, 2, none⟩ (.int .i64 ((rd_T30 l1 x41_2).f2))).heap[gb118]? = some (.cells #[.int .i64 a0, .slice (some ad127) l1.length c1, .map mr118] 70 (0, 0))) := ⟨by (with_reducible repeat (first | refine blk_drewN ?_ _ | refine blk_drew ?_ | refine blk_alloc ?_ _)); refine blk_far ?_ NB118_128.out _; (with_reducible repeat (first | refine blk_drewN ?_ _ | refine blk_drew ?_ | refine blk_alloc ?_ _)); refine blk_far ?_ NB118_128.out _; (with_reducible repeat (first | refine blk_drewN ?_ _ | refine blk_drew ?_ | refine blk_alloc ?_ _)); refine blk_far ?_ NB118_128.out _; (with_reducible repeat (first | refine blk_drewN ?_ _ | refine blk_drew ?_ | refine blk_alloc ?_ _)); exact BK118.out⟩
                                  have n2_ : Aside0 ((((w51.setCell ⟨gb128, 0, none⟩ (.int .i64 ((rd_T30 l1 x41_2).f0))).setCell ⟨gb128, 1, none⟩ (.int .i64 ((rd_T30 l1 x41_2).f1))).setCell ⟨gb128, 2, none⟩ (.int .i64 ((rd_T30 l1 x41_2).f2))).heap[gb128]? = some (.cells #[.int .i64 ((rd_T30 l1 x41_2).f0), .int .i64 ((rd_T30 l1 x41_2).f1), .int .i64 ((rd_T30 l1 x41_2).f2)] 30 (0, 0))) := ⟨by (with_reducible repeat (first | refine blk_drewN ?_ _ | refine blk_drew ?_ | refine blk_alloc ?_ _)); refine blk_put (cs := #[.int .i64 ((rd_T30 l1 x41_2).f0), .int .i64 ((rd_T30 l1 x41_2).f1), .int .i64 0]) ?_ 2 _ rfl; (with_reducible repeat (first | refine blk_drewN ?_ _ | refine blk_drew ?_ | refine blk_alloc ?_ _)); refine blk_put (cs := #[.int .i64 ((rd_T30 l1 x41_2).f0), .int .i64 0, .int .i64 0]) ?_ 1 _ rfl; (with_reducible repeat (first | refine blk_drewN ?_ _ | refine blk_drew ?_ | refine blk_alloc ?_ _)); refine blk_put (cs := #[.int .i64 0, .int .i64 0, .int .i64 0]) ?_ 0 _ rfl; (with_reducible repeat (first | refine blk_drewN ?_ _ | refine blk_drew ?_ | refine blk_alloc ?_ _)); exact BK128.out⟩
                                  have n3_ : Aside0 (Below w.heap.size w (((w51.setCell ⟨gb128, 0, none⟩ (.int .i64 ((rd_T30 l1 x41_2).f0))).setCell ⟨gb128, 1, none⟩ (.int .i64 ((rd_T30 l1 x41_2).f1))).setCell ⟨gb128, 2, none⟩ (.int .i64 ((rd_T30 l1 x41_2).f2)))) := ⟨by repeat (first | (with_reducible first | exact HB.out | apply below_alloc | apply pw_below_drewN | apply below_drew1 | refine below_set ?_ GE118.out | refine below_set ?_ GE128.out) | exact HB.out)⟩
                                  (try clear HO_8)
                                  (try clear BK118)
                                  (try clear BK128)
                                  (try clear HB)
                                  generalize (((w51.setCell ⟨gb128, 0, none⟩ (.int .i64 ((rd_T30 l1 x41_2).f0))).setCell ⟨gb128, 1, none⟩ (.int .i64 ((rd_T30 l1 x41_2).f1))).setCell ⟨gb128, 2, none⟩ (.int .i64 ((rd_T30 l1 x41_2).f2))) = w54 at n0_ n1_ n2_ n3_ ⊢
                                  have HO_8 := n0_
                                  have BK118 := n1_
                                  have BK128 := n2_
                                  have HB := n3_
                                  clear n0_ n1_ n2_ n3_
                                  have n0_ := Aside0.mk (Kd.S_drew HO_8.out)
                                  have n1_ := Aside0.mk (blk_drew BK118.out)
                                  have n2_ := Aside0.mk (blk_drew BK128.out)
                                  have n3_ := Aside0.mk (below_drew1 HB.out)
                                  clear HO_8
                                  clear BK118
                                  clear BK128
                                  clear HB
                                  have HO_8 := n0_
                                  have BK118 := n1_
                                  have BK128 := n2_
                                  have HB := n3_
                                  clear n0_ n1_ n2_ n3_
                                  have p129 : 0 ≤ ((ji27) : Int) := of_decide_eq_true (by first | (with_reducible assumption) | assumption)
                                  have q129 : (ji27) < (x8_2.length : Int) := of_decide_eq_true (by first | (with_reducible assumption) | assumption)
                                  obtain ⟨ad129, A129_0, c129_0, e129, hx129_0, hl129_0, hi129_0⟩ := at_L12 (Kd.S_reads' HO_8.out).2.2 (ji27) p129 q129
                                  cases e129
                                  obtain ⟨ce129, hce129, hMe129, hcc129⟩ := Kd.S_get HO_8.out [] (ji27) p129 (by first | exact q129 | exact of_decide_eq_true (by first | (with_reducible assumption) | assumption) | (have e_ := (Kd.S_reads' HO_8.out).1; omega))
                                  obtain ⟨ve129_0, rfl, ge129_0⟩ := hMe129
                                  have hv129_0 := hcc129 0 _ rfl
                                  rw [Nat.add_zero, show ((Kd.slice 3 (Kd.int .i64))).sz = 1 from rfl, Nat.mul_one] at hv129_0
                                  replace hv129_0 := Option.some.inj (hv129_0.symm.trans hx129_0)
                                  rw [hv129_0] at ge129_0
                                  have HL129_0 := Aside0.mk (show Kd.R (Kd.int .i64) 3 _ _ _ _ (rd_L12 x8_2 (ji27)) from ge129_0)
                                  clear hv129_0 ge129_0
                                  have HX129_0 := Aside0.mk hx129_0
                                  clear hcc129 hce129
                                  have HR129_0 := Aside0.mk hi129_0
                                  have HC129_0 := Aside0.mk hl129_0
                                  clear hi129_0 hl129_0
                                  replace p129 := eq_true p129
                                  replace q129 := eq_true q129
                                  have p130 : 0 ≤ ((ji27) : Int) := of_decide_eq_true (by first | (with_reducible assumption) | assumption)
                                  have q130 : (ji27) < ((rd_L12 x8_2 (ji27)).length : Int) := of_decide_eq_true (by first | (with_reducible assumption) | assumption)
                                  obtain ⟨ad130, e130, hx130_0⟩ := Kd.at_int (by repeat (first | (with_reducible exact HR129_0.out) | (with_reducible refine Kd.C_alloc ?_ _) | (with_reducible refine Kd.C_drewN ?_ _) | (with_reducible refine Kd.C_drew ?_) | exact HR129_0.out)) (ji27) p130 q130
                                  cases e130
                                  replace p130 := eq_true p130
                                  replace q130 := eq_true q130
                                  have p31 : 0 ≤ ((ji27) : Int) := of_decide_eq_true (by first | (with_reducible assumption) | assumption)
                                  have q31 : ((ji27) : Int) < (((rd_L12 x8_2 (ji27)).length : Int) : Int) := of_decide_eq_true (by first | (with_reducible assumption) | assumption)
                                  obtain ⟨go31, co31, eo31, gb31, gl31, cl31, HG31⟩ := Kd.R_form HL129_0.out (by omega)
                                  (first | cases eo31 | (injection eo31 with ea_ en_ ec_; (first | subst ea_ | (injection ea_ with ea_; subst ea_)); subst ec_; clear en_))
                                  have GB31 := Aside0.mk gb31
                                  have GG31 := Aside0.mk HG31
                                  clear gb31 gl31 HG31
                                  (first | simp only [add_plain] at hx130_0 | skip)
                                  obtain ⟨hx31_0, hf31_0⟩ := Kd.R_celln 0 HL129_0.out ((ji27) : Int) p31 q31
                                  replace p31 := eq_true p31
                                  replace q31 := eq_true q31
                                  have hq56 : ((ji27) : Int) < (x8_2.length : Int) := (by have h_ : ((ji27) : Int) < ((x8_2.length : Int) : Int) := of_decide_eq_true (by first | (with_reducible assumption) | assumption); first | exact h_ | (have e_ := (Kd.S_reads' HO_8.out).1; omega) | simpa only [List.length_set, List.length_set] using h_)
                                  obtain ⟨oki56, ce56, hcl56, hM56, hcc56, hok56, hbk56⟩ := Kd.S_borrow HO_8.out [] ((ji27) : Int) (of_decide_eq_true (by first | (with_reducible assumption) | assumption)) (by first | exact hq56 | (have h_ := hq56; simpa only [List.length_set, List.length_set] using h_))
                                  obtain ⟨ve56_0, rfl, ge56_0⟩ := hM56
                                  have hv56 := hcc56 0 _ rfl
                                  rw [Nat.add_zero, show ((Kd.slice 3 (Kd.int .i64))).sz = 1 from rfl, Nat.mul_one] at hv56
                                  replace hv56 := Option.some.inj (hv56.symm.trans HX129_0.out)
                                  subst hv56
                                  clear hcc56 hcl56
                                  replace ge56_0 := (show Kd.R (Kd.int .i64) 3 _ _ _ _ (rd_L12 x8_2 (ji27)) from ge56_0)
                                  have HP56 := Kd.R_putg ge56_0 ((ji27) : Int) (wrap64 ((rd (rd_L12 x8_2 (ji27)) (ji27)) + 1))
                                  rw [← Ny131.out] at HP56
                                  have HS56 := hbk56 HP56.2 (fun k_ e_ => by injection e_ with e_; subst e_; exact ge56_0.1 _ rfl) (x' := y131) (Kd.M_row HP56.1)
                                  rw [← Ny133.out] at HS56
                                  have HQ56 := Aside0.mk HS56
                                  clear HP56 HS56 hbk56 hok56
                                  refine start_ (n := 14) (S := fun w' => w'.cell? ⟨gb128, 0, none⟩ = some (.int .i64 ((rd_T30 l1 x41_2).f0)) ∧ w'.cell? ⟨gb128, 1, none⟩ = some (.int .i64 ((rd_T30 l1 x41_2).f1)) ∧ w'.cell? ⟨gb128, 2, none⟩ = some (.int .i64 ((rd_T30 l1 x41_2).f2)) ∧ w'.cell? (ad129.add ((ji27)).toNat) = some (.slice (some ⟨go31, 0, none⟩) (rd_L12 x8_2 (ji27)).length c129_0) ∧ w'.cell? ⟨go31, ((ji27)).toNat, none⟩ = some (.int .i64 (rd (rd_L12 x8_2 (ji27)) (ji27)))) (ds := [13]) #[false, false, false, false, false, false, false, false, false, false, false, false, false, false] (by kernel_rfl) rfl rfl ⟨(blk_cell BK128.out 0).trans rfl, (blk_cell BK128.out 1).trans rfl, (blk_cell BK128.out 2).trans rfl, hx129_0, hx130_0⟩ (fun hHeld => ?_); refine with_tabW branch_Count.tab14 branch_Count.bits14 (fun HT_ HW_ => ?_)
                                  generalize w54.drew = w55 at HO_8 BK118 BK128 HB GG31 HL129_0 HQ56 HR129_0 HX129_0 hf31_0 hx129_0 hx130_0 hx31_0 hHeld ⊢
                                  refine pure_ (i := 0) (N := some 48) (v := ?_) (a' := ?_) #[true, false, false, false, false, false, false, false, false, false, false, false, false, false] rfl rfl (any_of HT_.out (by kernel_rfl)) (fun _ _ _ h => h) (Or.inl ⟨by rfl, ?_⟩) ?_ ?_
                                  rotate_left
                                  · intro w'
                                    go_simp
                                    with_reducible rfl
                                  rotate_left
                                  · simp only [Act.put, List.setIfInBounds_toArray, List.set_cons_zero, List.set_cons_succ, i64_w, i32_w]
                                    rfl
                                  refine pure_ (i := 1) (N := some 49) (v := ?_) (a' := ?_) #[true, true, false, false, false, false, false, false, false, false, false, false, false, false] rfl rfl (any_of HT_.out (by kernel_rfl)) (fun _ _ _ h => h) (Or.inl ⟨by rfl, ?_⟩) ?_ ?_
                                  rotate_left
                                  · intro w'
                                    go_simp
                                    with_reducible rfl
                                  rotate_left
                                  · simp only [Act.put, List.setIfInBounds_toArray, List.set_cons_zero, List.set_cons_succ, i64_w, i32_w]
                                    rfl
                                  refine pure_ (i := 6) (N := some 54) (v := ?_) (a' := ?_) #[true, true, false, false, false, false, true, false, false, false, false, false, false, false] rfl rfl (any_of HT_.out (by kernel_rfl)) (fun _ _ _ h => h) (Or.inl ⟨by rfl, ?_⟩) ?_ ?_
                                  rotate_left
                                  · intro w'
                                    go_simp
                                    with_reducible rfl
                                  rotate_left
                                  · simp only [Act.put, List.setIfInBounds_toArray, List.set_cons_zero, List.set_cons_succ, i64_w, i32_w]
                                    rfl
                                  refine take_ (i := 2) (N := some 50) (v := ?_) (a' := ?_) #[true, true, true, false, false, false, true, false, false, false, false, false, false, false] rfl rfl (take_ofW HT_.out HW_.out (by kernel_rfl)) (fun _ _ _ h => h) (Or.inl ⟨by rfl, ?_⟩) hHeld ?_ ?_
                                  rotate_left
                                  · rintro w' ⟨s0, s1, s2, s3, s4⟩
                                    go_simp
                                    with_reducible rfl
                                  rotate_left
                                  · simp only [Act.put, List.setIfInBounds_toArray, List.set_cons_zero, List.set_cons_succ, i64_w, i32_w]
                                    rfl
                                  refine pure_ (i := 3) (N := some 51) (v := ?_) (a' := ?_) #[true, true, true, true, false, false, true, false, false, false, false, false, false, false] rfl rfl (any_of HT_.out (by kernel_rfl)) (fun _ _ _ h => h) (Or.inl ⟨by rfl, ?_⟩) ?_ ?_
                                  rotate_left
                                  · intro w'
                                    go_simp
                                    with_reducible rfl
                                  rotate_left
                                  · simp only [Act.put, List.setIfInBounds_toArray, List.set_cons_zero, List.set_cons_succ, i64_w, i32_w]
                                    rfl
                                  refine pure_ (i := 4) (N := some 52) (v := ?_) (a' := ?_) #[true, true, true, true, true, false, true, false, false, false, false, false, false, false] rfl rfl (any_of HT_.out (by kernel_rfl)) (fun _ _ _ h => h) (Or.inl ⟨by rfl, ?_⟩) ?_ ?_
                                  rotate_left
                                  · intro w'
                                    go_simp
                                    with_reducible rfl
                                  rotate_left
                                  · simp only [Act.put, List.setIfInBounds_toArray, List.set_cons_zero, List.set_cons_succ, i64_w, i32_w]
                                    rfl
                                  refine take_ (i := 5) (N := some 53) (v := ?_) (a' := ?_) #[true, true, true, true, true, true, true, false, false, false, false, false, false, false] rfl rfl (take_ofW HT_.out HW_.out (by kernel_rfl)) (fun _ _ _ h => h) (Or.inl ⟨by rfl, ?_⟩) hHeld ?_ ?_
                                  rotate_left
                                  · rintro w' ⟨s0, s1, s2, s3, s4⟩
                                    go_simp
                                    with_reducible rfl
                                  rotate_left
                                  · simp only [Act.put, List.setIfInBounds_toArray, List.set_cons_zero, List.set_cons_succ, i64_w, i32_w]
                                    rfl
                                  refine take_ (i := 7) (N := some 55) (v := ?_) (a' := ?_) #[true, true, true, true, true, true, true, true, false, false, false, false, false, false] rfl rfl (take_ofW HT_.out HW_.out (by kernel_rfl)) (fun _ _ _ h => h) (Or.inl ⟨by rfl, ?_⟩) hHeld ?_ ?_
                                  rotate_left
                                  · rintro w' ⟨s0, s1, s2, s3, s4⟩
                                    go_simp
                                    with_reducible rfl
                                  rotate_left
                                  · simp only [Act.put, List.setIfInBounds_toArray, List.set_cons_zero, List.set_cons_succ, i64_w, i32_w]
                                    rfl
                                  refine pure_ (i := 8) (N := some 56) (v := ?_) (a' := ?_) #[true, true, true, true, true, true, true, true, true, false, false, false, false, false] rfl rfl (any_of HT_.out (by kernel_rfl)) (fun _ _ _ h => h) (Or.inl ⟨by rfl, ?_⟩) ?_ ?_
                                  rotate_left
                                  · intro w'
                                    go_simp
                                    with_reducible rfl
                                  rotate_left
                                  · simp only [Act.put, List.setIfInBounds_toArray, List.set_cons_zero, List.set_cons_succ, i64_w, i32_w]
                                    rfl
                                  refine pure_ (i := 9) (N := some 57) (v := ?_) (a' := ?_) #[true, true, true, true, true, true, true, true, true, true, false, false, false, false] rfl rfl (any_of HT_.out (by kernel_rfl)) (fun _ _ _ h => h) (Or.inl ⟨by rfl, ?_⟩) ?_ ?_
                                  rotate_left
                                  · intro w'
                                    go_simp
                                    with_reducible rfl
                                  rotate_left
                                  · simp only [Act.put, List.setIfInBounds_toArray, List.set_cons_zero, List.set_cons_succ, i64_w, i32_w]
                                    rfl
                                  refine take_ (i := 10) (N := some 58) (v := ?_) (a' := ?_) #[true, true, true, true, true, true, true, true, true, true, true, false, false, false] rfl rfl (take_ofW HT_.out HW_.out (by kernel_rfl)) (fun _ _ _ h => h) (Or.inl ⟨by rfl, ?_⟩) hHeld ?_ ?_
                                  rotate_left
                                  · rintro w' ⟨s0, s1, s2, s3, s4⟩
                                    go_simp
                                    with_reducible rfl
                                  rotate_left
                                  · simp only [Act.put, List.setIfInBounds_toArray, List.set_cons_zero, List.set_cons_succ, i64_w, i32_w]
                                    rfl
                                  refine pure_ (i := 11) (N := some 59) (v := ?_) (a' := ?_) #[true, true, true, true, true, true, true, true, true, true, true, true, false, false] rfl rfl (any_of HT_.out (by kernel_rfl)) (fun _ _ _ h => h) (Or.inl ⟨by rfl, ?_⟩) ?_ ?_
                                  rotate_left
                                  · intro w'
                                    go_simp
                                    with_reducible rfl
                                  rotate_left
                                  · simp only [Act.put, List.setIfInBounds_toArray, List.set_cons_zero, List.set_cons_succ, i64_w, i32_w]
                                    rfl
                                  refine pure_ (i := 12) (N := some 60) (v := ?_) (a' := ?_) #[true, true, true, true, true, true, true, true, true, true, true, true, true, false] rfl rfl (any_of HT_.out (by kernel_rfl)) (fun _ _ _ h => h) (Or.inl ⟨by rfl, ?_⟩) ?_ ?_
                                  rotate_left
                                  · intro w'
                                    go_simp
                                    with_reducible rfl
                                  rotate_left
                                  · simp only [Act.put, List.setIfInBounds_toArray, List.set_cons_zero, List.set_cons_succ, i64_w, i32_w]
                                    rfl
                                  refine last_ (i := 13) (N := none) #[true, true, true, true, true, true, true, true, true, true, true, true, true, true] rfl rfl (one_of HT_.out (by kernel_rfl)) (by decide) (fun K hK => ?_)
                                  refine skip_ (w1 := ?_) (by rfl) rfl ?_ ?_
                                  rotate_left
                                  · go_simp
                                    rfl
                                  refine hK.out _ _ ?_
                                  clear hK K
                                  refine done_ (done_of HT_.out (by kernel_rfl)) ?_
                                  have n0_ : Aside0 (Kd.S (Kd.slice 3 (Kd.int .i64)) 28 (w55.setCell ⟨go31, ((ji27) : Int).toNat, none⟩ (.int .i64 (wrap64 ((rd (rd_L12 x8_2 (ji27)) (ji27)) + 1)))) w.heap.size (fun _ => True) (.slice (some ad129) x8_2.length co11) y133) := ⟨by (with_reducible repeat (first | apply Kd.S_alloc | apply Kd.S_drewN | apply Kd.S_drew)); exact HQ56.out⟩
                                  have n1_ : Aside0 ((w55.setCell ⟨go31, ((ji27) : Int).toNat, none⟩ (.int .i64 (wrap64 ((rd (rd_L12 x8_2 (ji27)) (ji27)) + 1)))).heap[gb118]? = some (.cells #[.int .i64 a0, .slice (some ad127) l1.length c1, .map mr118] 70 (0, 0))) := ⟨by (with_reducible repeat (first | refine blk_drewN ?_ _ | refine blk_drew ?_ | refine blk_alloc ?_ _)); refine blk_far ?_ (by have h_ := Kd.R_ne HL129_0.out BK118.out (by decide); intro e_; exact h_ (by rw [e_]; rfl)) _; (with_reducible repeat (first | refine blk_drewN ?_ _ | refine blk_drew ?_ | refine blk_alloc ?_ _)); exact BK118.out⟩
                                  have n2_ : Aside0 ((w55.setCell ⟨go31, ((ji27) : Int).toNat, none⟩ (.int .i64 (wrap64 ((rd (rd_L12 x8_2 (ji27)) (ji27)) + 1)))).heap[gb128]? = some (.cells #[.int .i64 ((rd_T30 l1 x41_2).f0), .int .i64 ((rd_T30 l1 x41_2).f1), .int .i64 ((rd_T30 l1 x41_2).f2)] 30 (0, 0))) := ⟨by (with_reducible repeat (first | refine blk_drewN ?_ _ | refine blk_drew ?_ | refine blk_alloc ?_ _)); refine blk_far ?_ (by have h_ := Kd.R_ne HL129_0.out BK128.out (by decide); intro e_; exact h_ (by rw [e_]; rfl)) _; (with_reducible repeat (first | refine blk_drewN ?_ _ | refine blk_drew ?_ | refine blk_alloc ?_ _)); exact BK128.out⟩
                                  have n3_ : Aside0 (Below w.heap.size w (w55.setCell ⟨go31, ((ji27) : Int).toNat, none⟩ (.int .i64 (wrap64 ((rd (rd_L12 x8_2 (ji27)) (ji27)) + 1))))) := ⟨by repeat (first | (with_reducible first | exact HB.out | apply below_alloc | apply pw_below_drewN | apply below_drew1 | refine below_set ?_ GB31.out | refine below_set ?_ GE118.out | refine below_set ?_ GE128.out) | exact HB.out)⟩
                                  (try clear HO_8)
                                  (try clear BK118)
                                  (try clear BK128)
                                  (try clear HB)
                                  generalize (w55.setCell ⟨go31, ((ji27) : Int).toNat, none⟩ (.int .i64 (wrap64 ((rd (rd_L12 x8_2 (ji27)) (ji27)) + 1)))) = w58 at n0_ n1_ n2_ n3_ ⊢
                                  have HO_8 := n0_
                                  have BK118 := n1_
                                  have BK128 := n2_
                                  have HB := n3_
                                  clear n0_ n1_ n2_ n3_
                                  have hcz59_0 : w58.cell? ⟨gb128, 0, none⟩ = some (.int .i64 ((rd_T30 l1 x41_2).f0)) := (blk_cell BK128.out 0).trans rfl
                                  have hcz59_1 : w58.cell? ⟨gb128, 1, none⟩ = some (.int .i64 ((rd_T30 l1 x41_2).f1)) := (blk_cell BK128.out 1).trans rfl
                                  have hcz59_2 : w58.cell? ⟨gb128, 2, none⟩ = some (.int .i64 ((rd_T30 l1 x41_2).f2)) := (blk_cell BK128.out 2).trans rfl
                                  have hfz59_0 := blk_frozen BK128.out 0
                                  have hfz59_1 := blk_frozen BK128.out 1
                                  have hfz59_2 := blk_frozen BK128.out 2
                                  try go_wp2
                                  (try simp only [← hl8_2])
                                  go_roundg k2
                                  case measure => have := HK1.out; have := HK2.out; omega
                                  case rel => exact ⟨(y133), (wrap64 (x41_2 + 1)), (by first | rfl | (simp; done) | (simp [*]; done)), H', ⟨by have := HK1.out; have := HK2.out; omega⟩, ⟨by (try simp only [hl8_1]); (try simp only [hl8_2]); (with_reducible repeat (first | apply Kd.S_alloc | apply Kd.S_drewN | apply Kd.S_drew)); exact HO_8.out⟩, ⟨by (try simp only [hl8_1]); (try simp only [hl8_2]); (with_reducible repeat (first | refine blk_drewN ?_ _ | refine blk_drew ?_ | refine blk_alloc ?_ _)); exact BK118.out⟩, ⟨by repeat (first | (with_reducible first | exact HB.out | apply below_alloc | apply pw_below_drewN | apply below_drew1 | refine below_set ?_ GE118.out | refine below_set ?_ GE128.out) | exact HB.out)⟩⟩
                              · rw [if_neg c30] at H
                                exact absurd H (by simp)
                            · rw [if_neg c29] at H
                              exact absurd H (by simp)
                          · rw [if_neg c28] at H
                            exact absurd H (by simp)
                        · rw [if_neg c26] at H
                          have c26b0 : decide (0 < ((rd_T30 l1 x41_2).f1)) = false := decide_eq_false c26
                          clear c26
                          have H' := Aside0.mk H
                          clear H
                          have p127 : 0 ≤ (x41_2 : Int) := of_decide_eq_true (by first | (with_reducible assumption) | assumption)
                          have q127 : x41_2 < (l1.length : Int) := of_decide_eq_true (by first | (with_reducible assumption) | assumption)
                          obtain ⟨ad127, e127, hx127_0, hx127_1, hx127_2⟩ := at_T30 HR1.out x41_2 p127 q127
                          cases e127
                          replace hx127_0 := (HB.out.cell (World.block_lt_of_cell? w _ hx127_0)).trans hx127_0
                          replace hx127_1 := (HB.out.cell (World.block_lt_of_cell? w _ hx127_1)).trans hx127_1
                          replace hx127_2 := (HB.out.cell (World.block_lt_of_cell? w _ hx127_2)).trans hx127_2
                          replace p127 := eq_true p127
                          replace q127 := eq_true q127
                          go_wp2_with (first | ((with_reducible refine gate_dst (N := 11) rfl ?_); refine box_event ?hg (N := 11) ?hd (cs := #[.int .i64 0, .int .i64 0, .int .i64 0]) (t := 30) ?hr ?_; (case hd => rfl); (case hg => rfl); (case hr => first | (go_simp; done) | (go_simp; rfl)); intro gb128 hg w60 hbox hb; have n0_ := Aside0.mk (Kd.S_below (by (with_reducible repeat (first | apply Kd.S_alloc | apply Kd.S_drewN | apply Kd.S_drew)); exact HO_8.out) hb); have n1_ := Aside0.mk (blk_below (g := gb118) (o := .cells #[.int .i64 a0, .slice (some ad127) l1.length c1, .map mr118] 70 (0, 0)) (by (with_reducible repeat (first | refine blk_drewN ?_ _ | refine blk_drew ?_ | refine blk_alloc ?_ _)); exact BK118.out) hb); have n2_ := Aside0.mk (below_step (by repeat (first | (with_reducible first | exact HB.out | apply below_alloc | apply pw_below_drewN | apply below_drew1 | refine below_set ?_ GE118.out) | exact HB.out)) hb); have n3_ := Aside0.mk (hbox); have n4_ := Aside0.mk ((by rw [hg]; exact (below_size (by repeat (first | (with_reducible first | exact HB.out | apply below_alloc | apply pw_below_drewN | apply below_drew1 | refine below_set ?_ GE118.out) | exact HB.out))) : w.heap.size ≤ gb128)); have n5_ := Aside0.mk ((by rw [hg]; exact (below_size (by repeat (first | (with_reducible first | exact HB.out | apply below_alloc | apply pw_below_drewN | apply below_drew1 | refine below_set ?_ GE118.out) | exact HB.out))) : w.heap.size ≤ gb128)); have n6_ := Aside0.mk ((by rw [hg]; exact Nat.ne_of_lt (blk_lt (g := gb118) (o := .cells #[.int .i64 a0, .slice (some ad127) l1.length c1, .map mr118] 70 (0, 0)) (by (with_reducible repeat (first | refine blk_drewN ?_ _ | refine blk_drew ?_ | refine blk_alloc ?_ _)); exact BK118.out)) : gb118 ≠ gb128)); have n7_ := Aside0.mk ((by rw [hg]; exact Nat.ne_of_gt (blk_lt (g := gb118) (o := .cells #[.int .i64 a0, .slice (some ad127) l1.length c1, .map mr118] 70 (0, 0)) (by (with_reducible repeat (first | refine blk_drewN ?_ _ | refine blk_drew ?_ | refine blk_alloc ?_ _)); exact BK118.out)) : gb128 ≠ gb118)); clear HO_8; clear BK118; clear HB; have HO_8 := n0_; have BK118 := n1_; have HB := n2_; have BK128 := n3_; have GW128 := n4_; have GE128 := n5_; have NB118_128 := n6_; have NB128_118 := n7_; clear n0_ n1_ n2_ n3_ n4_ n5_ n6_ n7_; clear hb hbox hg; have hnb61 := NB128_118.out; have hnc61 := NB118_128.out; have hcz62_0 : w60.cell? ⟨gb128, 0, none⟩ = some (.int .i64 0) := (blk_cell BK128.out 0).trans rfl; have hcz62_1 : w60.cell? ⟨gb128, 1, none⟩ = some (.int .i64 0) := (blk_cell BK128.out 1).trans rfl; have hcz62_2 : w60.cell? ⟨gb128, 2, none⟩ = some (.int .i64 0) := (blk_cell BK128.out 2).trans rfl; have hfz62_0 := blk_frozen BK128.out 0; have hfz62_1 := blk_frozen BK128.out 1; have hfz62_2 := blk_frozen BK128.out 2))
                          (try simp only [← hl8_2])
                          go_roundg k2
                          case measure => have := HK1.out; have := HK2.out; omega
                          case rel => exact ⟨(x8_2), (wrap64 (x41_2 + 1)), (by first | rfl | (simp; done) | (simp [*]; done)), H', ⟨by have := HK1.out; have := HK2.out; omega⟩, ⟨by (try simp only [hl8_1]); (try simp only [hl8_2]); (with_reducible repeat (first | apply Kd.S_alloc | apply Kd.S_drewN | apply Kd.S_drew)); exact Kd.S_mono (Kd.S_far (p := ⟨gb128, 2, none⟩) (Kd.S_far (p := ⟨gb128, 1, none⟩) (Kd.S_far (p := ⟨gb128, 0, none⟩) (Kd.S_types HO_8.out BK128.out (by decide)) (fun _ hk => hk.2) (.int .i64 ((rd_T30 l1 x41_2).f0))) (fun _ hk => hk.2) (.int .i64 ((rd_T30 l1 x41_2).f1))) (fun _ hk => hk.2) (.int .i64 ((rd_T30 l1 x41_2).f2))) (fun _ hk => trivial)⟩, ⟨by (try simp only [hl8_1]); (try simp only [hl8_2]); (with_reducible repeat (first | refine blk_drewN ?_ _ | refine blk_drew ?_ | refine blk_alloc ?_ _)); refine blk_far ?_ NB118_128.out _; (with_reducible repeat (first | refine blk_drewN ?_ _ | refine blk_drew ?_ | refine blk_alloc ?_ _)); refine blk_far ?_ NB118_128.out _; (with_reducible repeat (first | refine blk_drewN ?_ _ | refine blk_drew ?_ | refine blk_alloc ?_ _)); refine blk_far ?_ NB118_128.out _; (with_reducible repeat (first | refine blk_drewN ?_ _ | refine blk_drew ?_ | refine blk_alloc ?_ _)); exact BK118.out⟩, ⟨by repeat (first | (with_reducible first | exact HB.out | apply below_alloc | apply pw_below_drewN | apply below_drew1 | refine below_set ?_ GE118.out | refine below_set ?_ GE128.out) | exact HB.out)⟩⟩
                      · rw [if_neg c25] at H
                        exact absurd H (by simp)
                    · rw [if_neg c24] at H
                      exact absurd H (by simp)
                  · rw [if_neg c23] at H
                    have c23b0 : decide (x41_2 < (l1.length : Int)) = false := decide_eq_false c23
                    (try (have c23b0l := c23b0; simp only [hl8_1] at c23b0l))
                    (try (have c23b0l := c23b0; simp only [hl8_2] at c23b0l))
                    clear c23
                    replace H := Option.bind_eq_some_iff.mp H
                    obtain ⟨t126, A630, H⟩ := H
                    replace H : (some (t126, 0)) = some (r1, r2) := H
                    have A63 := Aside0.mk A630
                    clear A630
                    simp only [Option.some.injEq, Prod.mk.injEq] at H
                    obtain ⟨rfl, rfl⟩ := H
                    go_wp2_with (first | ((with_reducible refine gate_callee (f := 45) rfl ?_); refine goesL_ (some 79) rfl rfl Try.func45 (by kernel_rfl) rfl #[.slice Ao11 x8_2.length co11] rfl (by (try simp only [List.map_toArray, List.map_cons, List.map_nil]); first | done | rfl | (simp only [List.length_drop, List.length_take]; rfl)) ?_; (with_reducible refine (branch_determinant.calls k2 _ _ x8_2 t126 _ ?side1 ?side2 A63.out).mono ?_); (case side1 => repeat (first | exact (Kd.S_reads' HO_8.out).2.2 | (with_reducible refine Kd.C_alloc ?_ _) | (with_reducible refine Kd.C_drewN ?_ _) | (with_reducible refine Kd.C_drew ?_))); (case side2 => exact (Kd.S_reads' HO_8.out).2.1); rintro e w64 ⟨rfl, hb⟩; refine ⟨_, rfl, ?_⟩; have n0_ := Aside0.mk (Kd.S_below (by (with_reducible repeat (first | apply Kd.S_alloc | apply Kd.S_drewN | apply Kd.S_drew)); exact HO_8.out) hb); have n1_ := Aside0.mk (blk_below (g := gb118) (o := .cells #[.int .i64 a0, .slice A1 l1.length c1, .map mr118] 70 (0, 0)) (by (with_reducible repeat (first | refine blk_drewN ?_ _ | refine blk_drew ?_ | refine blk_alloc ?_ _)); exact BK118.out) hb); have n2_ := Aside0.mk (below_step (by repeat (first | (with_reducible first | exact HB.out | apply below_alloc | apply pw_below_drewN | apply below_drew1 | refine below_set ?_ GE118.out) | exact HB.out)) hb); clear HO_8; clear BK118; clear HB; have HO_8 := n0_; have BK118 := n1_; have HB := n2_; clear n0_ n1_ n2_; (try clear hb); (try clear hb2); (try clear hk); (try clear hi)))
                    go_ret2
                    exact ⟨by first | rfl | (simp [errW_none, errW_some] <;> rfl) | (simp only [← hji5]; first | rfl | (simp [errW_none, errW_some] <;> rfl)) | (simp [*, errW_none, errW_some] <;> rfl), by repeat (first | (with_reducible first | exact HB.out | apply below_alloc | apply pw_below_drewN | apply below_drew1 | refine below_set ?_ GE118.out) | exact HB.out)⟩
      · rw [if_neg c7] at H
        exact absurd H (by simp)
    · rw [if_neg c6] at H
      exact absurd H (by simp)
  · rw [if_neg c4] at H
    have c4b0 : (t117 == 0) = false := beq_eq_false_iff_ne.mpr c4
    have c4b1 : (t117 != 0) = true := bne_iff_ne.mpr c4
    simp only [Option.some.injEq, Prod.mk.injEq] at H
    obtain ⟨rfl, rfl⟩ := H
    go_enter Try.func18, Try.ntmps18
    go_wp2_with (first | (go_at_call 44; (with_reducible refine (branch_read.calls_err a0 A1 c1 l1 t117 _ ?side1 ?side2 A3.out (by first | (with_reducible assumption) | assumption)).mono ?_); (case side1 => repeat (first | exact HR1.out | (with_reducible refine Kd.C_alloc ?_ _) | (with_reducible refine Kd.C_drewN ?_ _) | (with_reducible refine Kd.C_drew ?_))); (case side2 => exact HC1.out); rintro e w65 ⟨rfl, hb⟩; have n0_ := Aside0.mk (below_step (by repeat (first | (with_reducible first | exact HB.out | apply below_alloc | apply pw_below_drewN | apply below_drew1) | exact HB.out)) hb); clear HB; have HB := n0_; clear n0_; (try clear hb)))
    go_ret2
    exact ⟨by first | rfl | (simp [errW_none, errW_some] <;> rfl) | (simp [*, errW_none, errW_some] <;> rfl), by repeat (first | (with_reducible first | exact HB.out | apply below_alloc | apply pw_below_drewN | apply below_drew1) | exact HB.out)⟩

end Go.Proofs.Ytpmadffgdfholaa.B
